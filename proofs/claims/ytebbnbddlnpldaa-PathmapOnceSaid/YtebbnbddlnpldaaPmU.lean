/- The statement PathmapOnce: an edit applied twice is as applied once. -/
import Derived.Test.YtebbnbddlnpldaaPmT
import Derived.Test.YtebbnbddlnpldaaPmQ
import Derived.Test.YtebbnbddlnpldaaRkG
namespace Go.Proofs.Ytebbnbddlnpldaa
open Go.RowKit Go.ChangeShapes Go.WideShapes Go.ChangeAt
open Asn (pt row rb)
set_option linter.unusedVariables false
set_option linter.unusedSimpArgs false
--@use N

theorem chkC_txt {C : List Ch} (h : chkC C = true) : ∀ c ∈ C, c.2.2.length ≤ 256 ∧ (c.2.1 = false → c.2.2 = []) := fun c hc => by
  rw [chkC, Bool.and_eq_true, List.all_eq_true] at h
  have := h.1 c hc
  simp [badC] at this
  refine ⟨by omega, fun h0 => ?_⟩
  have h2 := this.2
  rw [h0] at h2
  simpa using h2
theorem app_chk {L : List Rw} {C : List Ch} (hL : chkR L = true) (hC : chkC C = true) (hl : (appU L C).length ≤ 32) : chkR (appU L C) = true := by
  have sL := chkR_srt hL
  have sC := chkC_srt hC
  have hm := fun x => appU_mem sC.2.1 L x
  rw [chkR, Bool.and_eq_true, List.all_eq_true]
  refine ⟨fun x hx => ?_, srt_ris hl (appU_srt sL.2.1 C) fun x hx => ?_⟩
  · rcases (hm x).1 hx with ⟨c, h1, h2, h3, h4⟩ | ⟨h1, _⟩
    · have := (chkC_txt hC c h1).1
      rw [h4]; simp [badR]; omega
    · have := chkR_txt hL x h1
      simp [badR]; omega
  · rcases (hm x).1 hx with ⟨c, h1, h2, h3, h4⟩ | ⟨h1, _⟩
    · rw [← h2]; exact sC.2.2 c h1
    · exact sL.2.2 x h1
theorem app_twice {L : List Rw} {C : List Ch} (sL : Srt (·.1) L) (sC : Srt (·.1) C) : appU (appU L C) C = appU L C := by
  refine srt_ext (appU_srt (appU_srt sL C) C) (appU_srt sL C) fun x => ?_
  rw [appU_mem sC (appU L C) x, appU_mem sC L x]
  constructor
  · rintro (h | ⟨h | h, _⟩)
    · exact .inl h
    · exact .inl h
    · exact .inr h
  · rintro (h | h)
    · exact .inl h
    · exact .inr ⟨.inr h, h.2⟩
theorem fst_eq {L : List Rw} (sL : Srt (·.1) L) {p : Str} {o : Option Rw} (h : ∀ x, o = some x ↔ x ∈ L ∧ x.1 = p) : fstK (·.1) L p = o := by
  cases o with
  | none => exact fst_not.2 fun x hx e => (by cases (h x).2 ⟨hx, e⟩)
  | some y => exact (fst_mem sL).2 ((h y).1 rfl)
theorem app_said {L : List Rw} {C : List Ch} (sL : Srt (·.1) L) (sC : Srt (·.1) C) {c : Ch} (hc : c ∈ C) : fstK (·.1) (appU L C) c.1 = if c.2.1 then some (c.1, c.2.2) else none := by
  refine fst_eq (appU_srt sL C) fun x => ?_
  rw [appU_mem sC L x]
  constructor
  · intro h
    split at h
    · rename_i h0
      injection h with h
      subst h
      exact ⟨.inl ⟨c, hc, rfl, h0, rfl⟩, rfl⟩
    · cases h
  · rintro ⟨⟨d, h1, h2, h3, h4⟩ | ⟨h1, h2⟩, h5⟩
    · have : d = c := srt_key sC h1 hc (h2.trans h5)
      subst this
      rw [if_pos h3, h4, h5]
    · exact absurd h5.symm (h2 c hc)
theorem app_stays {L : List Rw} {C : List Ch} (sL : Srt (·.1) L) (sC : Srt (·.1) C) {p : Str} (hp : ∀ c ∈ C, c.1 ≠ p) : fstK (·.1) (appU L C) p = fstK (·.1) L p := by
  refine fst_eq (appU_srt sL C) fun x => ?_
  rw [appU_mem sC L x, fst_mem sL]
  constructor
  · rintro ⟨h1, h2⟩
    exact ⟨.inr ⟨h1, fun c hc => by rw [h2]; exact hp c hc⟩, h2⟩
  · rintro ⟨⟨c, h1, h2, _⟩ | ⟨h1, _⟩, h3⟩
    · exact absurd (h2.trans h3) (hp c h1)
    · exact ⟨h1, h3⟩
def saidF (ps : List Str) : Str → Option Value := fun r => if r ∈ ps then some (.bool true) else none
theorem saidF_next (ps : List Str) (s : Str) : (fun r => if r = s then some (Value.bool true) else saidF ps r) = saidF (ps ++ [s]) := by
  funext r
  unfold saidF
  by_cases h : r = s
  · simp [h]
  · simp [h]
theorem pathsP_two2 (A A2 : Option Addr) (c c2 : Nat) (L M : List Rw) : (keysM [(A, c, L), (A2, c2, M)]).length = L.length + M.length := by simp [keysM]
set_option maxRecDepth 100000 in
set_option maxHeartbeats 4000000 in
theorem once_any (w : World) (A A2 : Option Addr) (n c n2 c2 : Nat) (L : List Rw) (C : List Ch) (h : Rd w All 2 A n (cellsL rwc L)) (h2 : Rd w All 3 A2 n2 (cellsL chc C)) :
    Gives Try.prog 8 [.agg #[.slice A n c], .agg #[.slice A2 n2 c2]] [] w (X := Unit) (fun _ => .bool true) (fun _ => True) (fun _ => []) := by
  refine gives_S Try.func8 rfl Try.ntmps8 Try.results8 (by simp) (St.enter w) (fun B hB => ?_)
  have hl : L.length = n := by have := h.1; rw [cellsL_len rwc_len] at this; omega
  have hl2 : C.length = n2 := by have := h2.1; rw [cellsL_len chc_len] at this; omega
  subst hl
  subst hl2
  focus (refine S_seq rfl ?_; refine S_region rfl rfl ?_; (refine R_eff (E_boxa (cs := [.slice A L.length c]) rfl) ?_ rfl rfl; rintro _ _ ⟨b2, rfl, rfl⟩); (refine R_eff (E_boxa (cs := [.slice A2 C.length c2]) rfl) ?_ rfl rfl; rintro _ _ ⟨b3, rfl, rfl⟩); refine R_p rfl ?_ rfl rfl; refine R_nil ?_; refine S_seq rfl ?_; refine S_seq rfl ?_; refine S_region rfl rfl ?_; (refine R_eff (E_gv0 (f := 9) ⟨_, Try.func9, rfl, by kernel_rfl⟩ rfl (fun w hS => wakes_any w) (fun _ => rfl)) ?_ rfl rfl; rintro _ _ ⟨_, rfl, _, rfl⟩); refine R_take (T_not rfl) ?_ rfl rfl; refine R_nil ?_; refine S_false rfl rfl ?_; refine S_skip rfl ?_; refine S_seq rfl ?_; refine S_seq rfl ?_; refine S_region rfl rfl ?_; refine R_take (T_loada (ds := [.slice A L.length c]) rfl rfl rfl rfl (fun j v h => by simpa using h)) ?_ rfl rfl; refine R_take (T_loada (ds := [.slice A2 C.length c2]) rfl rfl rfl rfl (fun j v h => by simpa using h)) ?_ rfl rfl; ((refine R_eff (E_hv0 (f := 10) ⟨_, Try.func10, rfl, by kernel_rfl⟩ (fun w hS => large_any w A A2 L.length c C.length c2 L C ((Srd.old h (fun k _ => noOwns k)).rd w hS) ((Srd.old h2 (fun k _ => noOwns k)).rd w hS)) rfl rfl (fun _ => rfl)) ?_ rfl rfl; rintro _ _ ⟨bg, rfl, hbg, rfl⟩); cases bg); refine R_nil ?_; refine S_false rfl rfl ?_; refine S_skip rfl ?_; refine S_seq rfl ?_; refine S_region rfl rfl ?_; refine R_take (T_loada (ds := [.slice A L.length c]) rfl rfl rfl rfl (fun j v h => by simpa using h)) ?_ rfl rfl; refine R_take (T_loada (ds := [.slice A2 C.length c2]) rfl rfl rfl rfl (fun j v h => by simpa using h)) ?_ rfl rfl; rotate_left; refine R_nil ?_; refine S_true rfl rfl ?_; refine S_seq rfl ?_; refine S_region rfl rfl ?_; refine R_p rfl ?_ rfl rfl; refine R_nil ?_; rotate_left)
  rotate_left
  · exact hB _ _ _ _ _ rfl rfl fun w' hS => ⟨(), rfl, trivial, hS.sublist (List.nil_sublist _)⟩
  obtain ⟨⟨hL1, hL2⟩, hC1, hC2⟩ := hbg rfl
  have hp : ∀ x ∈ L, x.1.length ≤ 100000 := fun x hx => by have := (hL2 x hx).1; omega
  have hp2 : ∀ x ∈ C, x.1.length ≤ 100000 := fun x hx => by have := (hC2 x hx).1; omega
  by_cases hrr : (chkR L = true ∧ chkC C = true) ∧ (appU L C).length ≤ 32
  rotate_left
  · have e1 : appE L C ≠ 0 := by
      rw [appE]
      split
      · rename_i h0
        split
        · rename_i h1
          split
          · rename_i h2
            exact absurd ⟨⟨h0, h1⟩, h2⟩ hrr
          · decide
        · decide
      · decide
    have e2 : appR L C = [] := by
      rw [appR]
      split
      · rename_i h0
        split
        · rename_i h1
          split
          · rename_i h2
            exact absurd ⟨⟨h0, h1⟩, h2⟩ hrr
          · rfl
        · rfl
      · rfl
    focus ((refine R_eff (E_applyW (L := L) (C := C) (R := []) (k := 0) (m := L.length) (c := c) (m2 := C.length) (c2 := c2) (A := A) (A2 := A2) rfl rfl (Srd.old h (fun k _ => noOwns k)) (Srd.old h2 (fun k _ => noOwns k)) (by omega) (by omega) hp hp2 e2 rfl rfl) ?_ rfl rfl; rintro _ _ ⟨A5, c5, rfl, _, rfl⟩); refine R_p rfl ?_ rfl rfl; refine R_p rfl ?_ rfl rfl; refine R_p rfl ?_ rfl rfl; (refine R_eff (E_alloca rfl mp_alloc) ?_ rfl rfl; rintro _ _ ⟨b5, rfl, rfl⟩); (refine R_eff0 (E_storew (ds := [.slice A5 0 c5]) (cs := [.slice none 0 0]) rfl rfl rfl rfl (sl_one _ _ _) rfl) ?_ rfl; rintro _ _ rfl); refine R_p rfl ?_ rfl rfl; refine R_nil ?_; refine S_seq rfl ?_; refine S_seq rfl ?_; refine S_region rfl rfl ?_; refine R_p rfl ?_ rfl rfl; refine R_take (T_decT rfl (by first | exact e1 | decide)) ?_ rfl rfl; refine R_nil ?_; refine S_true rfl rfl ?_; refine S_seq rfl ?_; refine S_region rfl rfl ?_; refine R_p rfl ?_ rfl rfl; refine R_take (T_load rfl rfl rfl (by first | rfl | assumption)) ?_ rfl rfl; refine R_p rfl ?_ rfl rfl; refine R_take (T_decT rfl (by first | exact e1 | decide)) ?_ rfl rfl; refine R_p rfl ?_ rfl rfl; refine R_nil ?_)
    exact hB _ _ _ _ _ rfl rfl fun w' hS => ⟨(), rfl, trivial, hS.sublist (List.nil_sublist _)⟩
  obtain ⟨⟨hr, hrc⟩, hul⟩ := hrr
  have sL := chkR_srt hr
  have sC := chkC_srt hrc
  have hrR := app_chk hr hrc hul
  have htw := app_twice sL.2.1 sC.2.1
  have hsd := fun c (hc : c ∈ C) => app_said sL.2.1 sC.2.1 hc
  have hst := fun p (hp : ∀ c ∈ C, c.1 ≠ p) => app_stays sL.2.1 sC.2.1 hp
  have htx := chkC_txt hrc
  have hpR : ∀ x ∈ appU L C, x.1.length ≤ 100000 := fun x hx => by
    rcases (appU_mem sC.2.1 L x).1 hx with ⟨d, h1, h2, _⟩ | ⟨h1, _⟩
    · rw [← h2]; exact hp2 d h1
    · exact hp x h1
  have g1 : appE L C = 0 := by rw [appE, hr, hrc, if_pos rfl, if_pos rfl, if_pos hul]
  have g2 : appR L C = appU L C := by rw [appR, hr, hrc, if_pos rfl, if_pos rfl, if_pos hul]
  have g3 : appE (appU L C) C = 0 := by rw [appE, hrR, hrc, htw, if_pos rfl, if_pos rfl, if_pos hul]
  have g4 : appR (appU L C) C = appU L C := by rw [appR, hrR, hrc, htw, if_pos rfl, if_pos rfl, if_pos hul]
  obtain ⟨R, hR⟩ : ∃ R, appU L C = R := ⟨_, rfl⟩
  rw [hR] at hrR htw hsd hst hpR g2 g3 g4 hul
  focus ((refine R_eff (E_applyW (L := L) (C := C) (R := R) (e := 0) (k := R.length) (m := L.length) (c := c) (m2 := C.length) (c2 := c2) (A := A) (A2 := A2) rfl rfl (Srd.old h (fun k _ => noOwns k)) (Srd.old h2 (fun k _ => noOwns k)) (by omega) (by omega) hp hp2 g2 g1 rfl) ?_ rfl rfl; rintro _ _ ⟨A5, c5, rfl, _, rfl⟩); refine R_p rfl ?_ rfl rfl; refine R_p rfl ?_ rfl rfl; refine R_p rfl ?_ rfl rfl; (refine R_eff (E_alloca (H := [row 56 2 A5 R.length c5 (cellsL rwc R), pt b3 27 [.slice A2 C.length c2], pt b2 24 [.slice A L.length c]]) rfl mp_alloc) ?_ rfl rfl; rintro _ _ ⟨b5, rfl, rfl⟩); (refine R_eff0 (E_storew (ds := [.slice A5 R.length c5]) (cs := [.slice none 0 0]) rfl rfl rfl rfl (sl_one _ _ _) rfl) ?_ rfl; rintro _ _ rfl); refine R_p rfl ?_ rfl rfl; refine R_nil ?_; refine S_seq rfl ?_; refine S_seq rfl ?_; refine S_region rfl rfl ?_; refine R_p rfl ?_ rfl rfl; refine R_take (T_decF rfl (by decide)) ?_ rfl rfl; refine R_nil ?_; refine S_false rfl rfl ?_; refine S_skip rfl ?_; refine S_seq rfl ?_; refine S_region rfl rfl ?_; refine R_take (T_loada (ds := [.slice A5 R.length c5]) rfl rfl rfl rfl (fun j v h => by simpa using h)) ?_ rfl rfl; refine R_take (T_loada (ds := [.slice A2 C.length c2]) rfl rfl rfl rfl (fun j v h => by simpa using h)) ?_ rfl rfl; (refine R_eff (E_applyW (L := R) (C := C) (R := R) (e := 0) (k := R.length) (m := R.length) (c := c5) (m2 := C.length) (c2 := c2) (A := A5) (A2 := A2) rfl rfl (Srd.row (n := R.length) (c := c5)) (Srd.old h2 (fun k _ => noOwns k)) (by omega) (by omega) hpR hp2 g4 g3 rfl) ?_ rfl rfl; rintro _ _ ⟨A7, c7, rfl, _, rfl⟩); refine R_p rfl ?_ rfl rfl; refine R_p rfl ?_ rfl rfl; refine R_p rfl ?_ rfl rfl; (refine R_eff (E_alloca rfl mp_alloc) ?_ rfl rfl; rintro _ _ ⟨b7, rfl, rfl⟩); (refine R_eff0 (E_storew (ds := [.slice A7 R.length c7]) (cs := [.slice none 0 0]) rfl rfl rfl rfl (sl_one _ _ _) rfl) ?_ rfl; rintro _ _ rfl); refine R_p rfl ?_ rfl rfl; refine R_nil ?_; refine S_seq rfl ?_; refine S_seq rfl ?_; refine S_region rfl rfl ?_; refine R_p rfl ?_ rfl rfl; refine R_take (T_decF rfl (by decide)) ?_ rfl rfl; refine R_p rfl ?_ rfl rfl; refine R_take (T_loada (ds := [.slice A5 R.length c5]) rfl rfl rfl rfl (fun j v h => by simpa using h)) ?_ rfl rfl; refine R_take (T_loada (ds := [.slice A7 R.length c7]) rfl rfl rfl rfl (fun j v h => by simpa using h)) ?_ rfl rfl; (refine R_eff (E_hv0 (f := 20) ⟨_, Try.func20, rfl, by kernel_rfl⟩ (fun w hS => Same_self w A5 A7 R.length c5 R.length c7 R ((Srd.row (A := A5) (n := R.length) (c := c5)).rd w hS) ((Srd.row (A := A7) (n := R.length) (c := c7)).rd w hS) (by omega) (by omega)) rfl rfl (fun _ => rfl)) ?_ rfl rfl; rintro _ _ ⟨_, rfl, _, rfl⟩); refine R_take (T_not rfl) ?_ rfl rfl; refine R_p rfl ?_ rfl rfl; refine R_p rfl ?_ rfl rfl; refine R_take (T_loada (ds := [.slice A5 R.length c5]) rfl rfl rfl rfl (fun j v h => by simpa using h)) ?_ rfl rfl; (refine R_eff (E_chkRW (L := R) (A := A5) (m := R.length) (c := c5) (r := true) rfl (Srd.row (n := R.length) (c := c5)) (by omega) hpR hrR) ?_ rfl rfl; rintro _ _ ⟨rfl, rfl⟩); refine R_take (T_decF rfl (by decide)) ?_ rfl rfl; refine R_p rfl ?_ rfl rfl; refine R_nil ?_; refine S_false rfl rfl ?_; refine S_skip rfl ?_; refine S_seq rfl ?_; refine S_region rfl rfl ?_; (refine R_eff (E_mkmap) ?_ rfl rfl; rintro _ _ ⟨b8, rfl, rfl⟩); refine R_p rfl ?_ rfl rfl; refine R_nil ?_; refine S_seq rfl ?_; refine S_seq rfl ?_; refine S_region rfl rfl ?_; refine R_p rfl ?_ rfl rfl; refine R_take (T_load rfl rfl rfl (by first | rfl | assumption)) ?_ rfl rfl; refine R_p rfl ?_ rfl rfl; refine R_p rfl ?_ rfl rfl; refine R_nil ?_; refine S_block rfl ?_)
  have hne2 : 0 < C.length → A2 ≠ none := fun h0 => by obtain ⟨ad, rfl, _⟩ := h2.2 (by omega); simp
  have hs0 : (fun _ => none) = saidF [] := by funext r; simp [saidF]
  refine S_loop (X := Nat) (fun j => [(2, .pointer (some ⟨b2, 0, none⟩)), (5, .pointer (some ⟨b5, 0, none⟩)), (8, .map (some b8)), (57, .slice A2 C.length c2), (58, .int .i64 (C.length : Int)), (59, .int .i64 (j : Int))]) (fun j => [mpA b8 (saidF ((C.take j).map (·.1))), pt b5 24 [.slice A5 R.length c5], row 56 2 A5 R.length c5 (cellsL rwc R), pt b2 24 [.slice A L.length c]]) (fun j => j ≤ C.length) (fun j => C.length - j) rfl 0 (Nat.zero_le _) (Sub.cons rfl (Sub.cons rfl (Sub.cons rfl (Sub.cons rfl (Sub.cons rfl (Sub.cons rfl Sub.nil)))))) (fun w hS => by rw [List.take_zero, List.map_nil, ← hs0]; exact sub_st w hS) ?_
  rintro j hj J hJ
  rcases Nat.lt_or_ge j C.length with hjl | hjl
  · have hne2 := hne2 (by omega)
    have hat := fun e v => cellsL_at (f := chc) chc_len C default j hjl e v
    have hmem : C.getD j default ∈ C := by simp [List.getD, hjl]
    have htk : C.take (j + 1) = C.take j ++ [C.getD j default] := by rw [List.take_succ_eq_append_getElem hjl]; simp [List.getD, hjl]
    obtain ⟨⟨s, is, t⟩, hx⟩ : ∃ x, C.getD j default = x := ⟨_, rfl⟩
    rw [hx] at hat htk hmem
    have hsd := hsd _ hmem
    have htx := (htx _ hmem).2
    have hnx : saidF ((C.take (j + 1)).map (·.1)) = (fun r => if r = s then some (Value.bool true) else saidF ((C.take j).map (·.1)) r) := by rw [htk, List.map_append, saidF_next]; rfl
    have hgt : gt (if is = true then some ((s, t) : Rw) else none) = t := by
      cases is
      · exact (htx rfl).symm
      · rfl
    have his : (if is = true then some ((s, t) : Rw) else none).isSome = is := by cases is <;> rfl
    have hcm : scmp .neq t t = some false := by simp [scmp]
    focus (refine S_seq rfl ?_; refine S_region rfl rfl ?_; refine R_take (T_decT rfl (by omega)) ?_ rfl rfl; refine R_nil ?_; refine S_seq rfl ?_; refine S_true rfl rfl ?_; refine S_skip rfl ?_; refine S_seq rfl ?_; refine S_block rfl ?_; refine S_seq rfl ?_; refine S_region rfl rfl ?_; refine R_take (T_ixM (sz := 3) rfl rfl rfl rfl rfl rfl hne2 hjl) ?_ rfl rfl; refine R_take (T_lda (ds := chc (s, is, t)) rfl rfl rfl (Srd.old h2 (fun k _ => noOwns k)) rfl (by omega) hat) ?_ rfl rfl; (refine R_eff (E_alloca rfl chc_zero) ?_ rfl rfl; rintro _ _ ⟨b10, rfl, rfl⟩); (refine R_eff0 (E_storew (cs := chc default) (ds := chc (s, is, t)) rfl rfl rfl rfl (chc_one _) rfl) ?_ rfl; rintro _ _ rfl); refine R_nil ?_; refine S_seq rfl ?_; refine S_region rfl rfl ?_; refine R_p rfl ?_ rfl rfl; refine R_p rfl ?_ rfl rfl; refine R_take (T_load rfl rfl rfl (by first | rfl | assumption)) ?_ rfl rfl; (refine R_eff0 (E_mapset (f := saidF ((C.take j).map (·.1))) (s := s) (v := .bool true) (b := b8) rfl rfl rfl rfl rfl rfl rfl) ?_ rfl; rintro _ _ rfl; rw [← hnx]); refine R_nil ?_; refine S_seq rfl ?_; refine S_region rfl rfl ?_; refine R_take (T_loada (ds := [.slice A5 R.length c5]) rfl rfl rfl rfl (fun j v h => by simpa using h)) ?_ rfl rfl; refine R_p rfl ?_ rfl rfl; refine R_take (T_load rfl rfl rfl (by first | rfl | assumption)) ?_ rfl rfl; (refine R_eff (E_getW (L := R) (p := s) (m := R.length) (c := c5) (A := A5) rfl rfl (Srd.row (n := R.length) (c := c5)) (by omega) hsd) ?_ rfl rfl; rintro _ _ ⟨rfl, rfl⟩; rw [hgt, his]); refine R_p rfl ?_ rfl rfl; refine R_p rfl ?_ rfl rfl; refine R_p rfl ?_ rfl rfl; refine R_p rfl ?_ rfl rfl; refine R_p rfl ?_ rfl rfl; refine R_nil ?_; refine S_seq rfl ?_; refine S_region rfl rfl ?_; refine R_p rfl ?_ rfl rfl; refine R_p rfl ?_ rfl rfl; refine R_take (T_load rfl rfl rfl (by first | rfl | assumption)) ?_ rfl rfl; refine R_take (T_bnes rfl rfl rfl rfl) ?_ rfl rfl; refine R_p rfl ?_ rfl rfl; refine R_p rfl ?_ rfl rfl; refine R_p rfl ?_ rfl rfl; refine R_take (T_load rfl rfl rfl (by first | rfl | assumption)) ?_ rfl rfl; refine R_take (T_scm (a := t) (b := t) rfl rfl hcm) ?_ rfl rfl; refine R_p rfl ?_ rfl rfl; refine R_nil ?_; refine S_false rfl rfl ?_; refine S_skip rfl ?_; refine RS_blk ?_; refine S_region rfl rfl ?_; refine R_take (T_addN rfl rfl (by unfold fits; omega)) ?_ rfl rfl; refine R_p rfl ?_ rfl rfl; refine R_nil ?_)
    exact hJ (j + 1) _ _ (by show j + 1 ≤ _; omega) (Sub.cons rfl (Sub.cons rfl (Sub.cons rfl (Sub.cons rfl (Sub.cons rfl (Sub.cons rfl Sub.nil)))))) sub_st (by omega)
  have hjn : j = C.length := by omega
  subst hjn
  rw [List.take_length]
  obtain ⟨l, hl⟩ : ∃ l, allD L R = l := ⟨_, rfl⟩
  have hP2 := fun A A2 c c2 => (pathsP_two A A2 c c2 L R).trans hl
  have hlen : l.length ≤ 400 := by
    have h1 := paths_len [] (L.map (·.1))
    have h2 := paths_len (pathsS [] (L.map (·.1))) (R.map (·.1))
    rw [List.length_map] at h1 h2
    rw [← hl, allD]
    simp only [List.length_nil] at h1
    omega
  focus (refine S_seq rfl ?_; refine S_region rfl rfl ?_; refine R_take (T_decF rfl (by omega)) ?_ rfl rfl; refine R_nil ?_; refine S_seq rfl ?_; refine S_false rfl rfl ?_; refine S_exit rfl rfl ?_; refine S_seq rfl ?_; refine S_seq rfl ?_; refine S_region rfl rfl ?_; refine R_take (T_loada (ds := [.slice A L.length c]) rfl rfl rfl rfl (fun j v h => by simpa using h)) ?_ rfl rfl; refine R_take (T_loada (ds := [.slice A5 R.length c5]) rfl rfl rfl rfl (fun j v h => by simpa using h)) ?_ rfl rfl; (refine R_eff (E_litS (vs := [.agg #[.slice A L.length c], .agg #[.slice A5 R.length c5]]) (size := 1) (ds := [.slice A L.length c, .slice A5 R.length c5]) rfl rfl rfl rfl rfl rfl (by simp [vcells]) rfl (by omega)) ?_ rfl rfl; rintro _ _ ⟨vb, rfl, rfl⟩); (refine R_eff (E_hv1 ⟨_, Try.func27, rfl, by kernel_rfl⟩ (fun w hS => paths_any w (some ⟨vb, 0, none⟩) 2 2 [(A, c, L), (A5, c5, R)] ((Srd.pt (g := vb) (n := 2) (size := 1) (off := 0) (ds := [.slice A L.length c, .slice A5 R.length c5]) rfl (fun j u hj => by rw [Nat.zero_add]; exact hj)).rd w hS) (fun m hm => by rcases List.mem_cons.1 hm with rfl | hm; exact (Srd.old h (fun k _ => noOwns k)).rd w hS; rcases List.mem_cons.1 hm with rfl | hm; exact (Srd.row (n := R.length) (c := c5)).rd w hS; cases hm) (by omega) (by rw [pathsP_two2]; omega)) rfl rfl (fun _ => rfl)) ?_ rfl rfl; rintro _ _ ⟨⟨A11, c11⟩, rfl, _, rfl⟩; rw [hP2]); refine R_p rfl ?_ rfl rfl; refine R_p rfl ?_ rfl rfl; refine R_nil ?_; refine S_block rfl ?_)
  refine RS_row A11 l.length c11 fun _ _ hne11 _ => ?_
  refine S_loop (X := Nat) (fun j => [(2, .pointer (some ⟨b2, 0, none⟩)), (5, .pointer (some ⟨b5, 0, none⟩)), (8, .map (some b8)), (87, .slice A11 l.length c11), (88, .int .i64 (l.length : Int)), (89, .int .i64 (j : Int))]) (fun j => [row 9 1 A11 l.length c11 (l.map sv), mpA b8 (saidF (C.map (·.1))), pt b5 24 [.slice A5 R.length c5], row 56 2 A5 R.length c5 (cellsL rwc R), pt b2 24 [.slice A L.length c]]) (fun j => j ≤ l.length) (fun j => l.length - j) rfl 0 (Nat.zero_le _) (Sub.cons rfl (Sub.cons rfl (Sub.cons rfl (Sub.cons rfl (Sub.cons rfl (Sub.cons rfl Sub.nil)))))) sub_st ?_
  rintro j hj J hJ
  rcases Nat.lt_or_ge j l.length with hjl | hjl
  · have hne11 := hne11 (by omega)
    obtain ⟨p, hs⟩ : ∃ p, l.getD j [] = p := ⟨_, rfl⟩
    have hat := sv_at hjl hs
    obtain ⟨o, ho⟩ : ∃ o, fstK (·.1) L p = o := ⟨_, rfl⟩
    obtain ⟨q, hq⟩ : ∃ q, fstK (·.1) R p = q := ⟨_, rfl⟩
    by_cases hpc : p ∈ C.map (·.1)
    · have hsf : (saidF (C.map (·.1)) p).getD (.bool false) = .bool true := by simp only [saidF, if_pos hpc]; rfl
      focus (refine S_seq rfl ?_; refine S_region rfl rfl ?_; refine R_take (T_decT rfl (by omega)) ?_ rfl rfl; refine R_nil ?_; refine S_seq rfl ?_; refine S_true rfl rfl ?_; refine S_skip rfl ?_; refine S_seq rfl ?_; refine S_block rfl ?_; refine S_seq rfl ?_; refine S_region rfl rfl ?_; refine R_take (T_ixN rfl rfl rfl rfl rfl rfl hne11 hjl) ?_ rfl rfl; refine R_take (T_ldr rfl rfl rfl (Srd.row (A := A11) (n := l.length) (c := c11)) (by omega) hat) ?_ rfl rfl; refine R_p rfl ?_ rfl rfl; refine R_nil ?_; refine S_seq rfl ?_; refine S_region rfl rfl ?_; refine R_take (T_loada (ds := [.slice A L.length c]) rfl rfl rfl rfl (fun j v h => by simpa using h)) ?_ rfl rfl; refine R_p rfl ?_ rfl rfl; (refine R_eff (E_getW (L := L) (p := p) (m := L.length) (c := c) (A := A) rfl rfl (Srd.old h (fun k _ => noOwns k)) (by omega) ho) ?_ rfl rfl; rintro _ _ ⟨rfl, rfl⟩); refine R_p rfl ?_ rfl rfl; refine R_p rfl ?_ rfl rfl; refine R_p rfl ?_ rfl rfl; refine R_p rfl ?_ rfl rfl; refine R_p rfl ?_ rfl rfl; refine R_nil ?_; refine S_seq rfl ?_; refine S_region rfl rfl ?_; refine R_take (T_loada (ds := [.slice A5 R.length c5]) rfl rfl rfl rfl (fun j v h => by simpa using h)) ?_ rfl rfl; refine R_p rfl ?_ rfl rfl; (refine R_eff (E_getW (L := R) (p := p) (m := R.length) (c := c5) (A := A5) rfl rfl (Srd.row (n := R.length) (c := c5)) (by omega) hq) ?_ rfl rfl; rintro _ _ ⟨rfl, rfl⟩); refine R_p rfl ?_ rfl rfl; refine R_p rfl ?_ rfl rfl; refine R_p rfl ?_ rfl rfl; refine R_p rfl ?_ rfl rfl; refine R_p rfl ?_ rfl rfl; refine R_nil ?_; refine S_seq rfl ?_; refine S_region rfl rfl ?_; refine R_p rfl ?_ rfl rfl; refine R_p rfl ?_ rfl rfl; refine R_take (T_mapget (f := saidF (C.map (·.1))) (s := p) (b := b8) rfl rfl rfl rfl rfl rfl rfl hsf) ?_ rfl rfl; refine R_take (T_not rfl) ?_ rfl rfl; refine R_p rfl ?_ rfl rfl; refine R_skip ?_ rfl rfl; refine R_skip ?_ rfl rfl; refine R_skip ?_ rfl rfl; refine R_skip ?_ rfl rfl; refine R_skip ?_ rfl rfl; refine R_skip ?_ rfl rfl; refine R_skip ?_ rfl rfl; refine R_skip ?_ rfl rfl; refine R_p rfl ?_ rfl rfl; refine R_nil ?_; refine S_false rfl rfl ?_; refine S_skip rfl ?_; refine RS_blk ?_; refine S_region rfl rfl ?_; refine R_take (T_addN rfl rfl (by unfold fits; omega)) ?_ rfl rfl; refine R_p rfl ?_ rfl rfl; refine R_nil ?_)
      exact hJ (j + 1) _ _ (by show j + 1 ≤ _; omega) (Sub.cons rfl (Sub.cons rfl (Sub.cons rfl (Sub.cons rfl (Sub.cons rfl (Sub.cons rfl Sub.nil)))))) sub_st (by omega)
    · have hsf : (saidF (C.map (·.1)) p).getD (.bool false) = .bool false := by simp only [saidF, if_neg hpc]; rfl
      have hqo : q = o := by
        rw [← hq, ← ho]
        exact hst p fun c hc e => hpc (List.mem_map.2 ⟨c, hc, e⟩)
      subst hqo
      have hcm : scmp .neq (gt q) (gt q) = some false := by simp [scmp]
      focus (refine S_seq rfl ?_; refine S_region rfl rfl ?_; refine R_take (T_decT rfl (by omega)) ?_ rfl rfl; refine R_nil ?_; refine S_seq rfl ?_; refine S_true rfl rfl ?_; refine S_skip rfl ?_; refine S_seq rfl ?_; refine S_block rfl ?_; refine S_seq rfl ?_; refine S_region rfl rfl ?_; refine R_take (T_ixN rfl rfl rfl rfl rfl rfl hne11 hjl) ?_ rfl rfl; refine R_take (T_ldr rfl rfl rfl (Srd.row (A := A11) (n := l.length) (c := c11)) (by omega) hat) ?_ rfl rfl; refine R_p rfl ?_ rfl rfl; refine R_nil ?_; refine S_seq rfl ?_; refine S_region rfl rfl ?_; refine R_take (T_loada (ds := [.slice A L.length c]) rfl rfl rfl rfl (fun j v h => by simpa using h)) ?_ rfl rfl; refine R_p rfl ?_ rfl rfl; (refine R_eff (E_getW (L := L) (p := p) (m := L.length) (c := c) (A := A) rfl rfl (Srd.old h (fun k _ => noOwns k)) (by omega) ho) ?_ rfl rfl; rintro _ _ ⟨rfl, rfl⟩); refine R_p rfl ?_ rfl rfl; refine R_p rfl ?_ rfl rfl; refine R_p rfl ?_ rfl rfl; refine R_p rfl ?_ rfl rfl; refine R_p rfl ?_ rfl rfl; refine R_nil ?_; refine S_seq rfl ?_; refine S_region rfl rfl ?_; refine R_take (T_loada (ds := [.slice A5 R.length c5]) rfl rfl rfl rfl (fun j v h => by simpa using h)) ?_ rfl rfl; refine R_p rfl ?_ rfl rfl; (refine R_eff (E_getW (L := R) (p := p) (m := R.length) (c := c5) (A := A5) rfl rfl (Srd.row (n := R.length) (c := c5)) (by omega) hq) ?_ rfl rfl; rintro _ _ ⟨rfl, rfl⟩); refine R_p rfl ?_ rfl rfl; refine R_p rfl ?_ rfl rfl; refine R_p rfl ?_ rfl rfl; refine R_p rfl ?_ rfl rfl; refine R_p rfl ?_ rfl rfl; refine R_nil ?_; refine S_seq rfl ?_; refine S_region rfl rfl ?_; refine R_p rfl ?_ rfl rfl; refine R_p rfl ?_ rfl rfl; refine R_take (T_mapget (f := saidF (C.map (·.1))) (s := p) (b := b8) rfl rfl rfl rfl rfl rfl rfl hsf) ?_ rfl rfl; refine R_take (T_not rfl) ?_ rfl rfl; refine R_p rfl ?_ rfl rfl; refine R_p rfl ?_ rfl rfl; refine R_p rfl ?_ rfl rfl; refine R_take (T_bnes rfl rfl rfl rfl) ?_ rfl rfl; refine R_p rfl ?_ rfl rfl; refine R_p rfl ?_ rfl rfl; refine R_p rfl ?_ rfl rfl; refine R_take (T_scm (a := gt q) (b := gt q) rfl rfl hcm) ?_ rfl rfl; refine R_p rfl ?_ rfl rfl; refine R_p rfl ?_ rfl rfl; refine R_nil ?_; refine S_false rfl rfl ?_; refine S_skip rfl ?_; refine RS_blk ?_; refine S_region rfl rfl ?_; refine R_take (T_addN rfl rfl (by unfold fits; omega)) ?_ rfl rfl; refine R_p rfl ?_ rfl rfl; refine R_nil ?_)
      exact hJ (j + 1) _ _ (by show j + 1 ≤ _; omega) (Sub.cons rfl (Sub.cons rfl (Sub.cons rfl (Sub.cons rfl (Sub.cons rfl (Sub.cons rfl Sub.nil)))))) sub_st (by omega)
  focus (refine S_seq rfl ?_; refine S_region rfl rfl ?_; refine R_take (T_decF rfl (by omega)) ?_ rfl rfl; refine R_nil ?_; refine S_seq rfl ?_; refine S_false rfl rfl ?_; refine S_exit rfl rfl ?_; refine S_seq rfl ?_; refine S_region rfl rfl ?_; refine R_p rfl ?_ rfl rfl; refine R_nil ?_)
  exact hB _ _ _ _ _ rfl rfl fun w' hS => ⟨(), rfl, trivial, hS.sublist (List.nil_sublist _)⟩
set_option maxRecDepth 100000 in
theorem PathmapOnce_open {H : Type} {enc : TypeId × Value → H} (W : World) {r : Reach} (base : Nat) (v0 v1 : Value) {d0 d1 : DataW H} {p0 p1 : List MemPlace}
    (hv0 : Value.okWide Try.prog W r base 24 v0) (hv1 : Value.okWide Try.prog W r base 27 v1)
    (h0 : DataW.Trod enc Try.prog W 0 (fun _ => true) true 24 v0 d0 p0) (h1 : DataW.Trod enc Try.prog W 0 (fun _ => true) true 27 v1 d1 p1) :
    Calls Try.prog 8 #[v0, v1] W fun e W' => e = .returned (.bool true) ∧ Kp All W W' := by
  obtain ⟨A, n, c, L, rfl, _, _, g⟩ := open_map hv0 h0
  obtain ⟨A2, n2, c2', C, rfl, _, _, g2⟩ := open_edit hv1 h1
  exact (once_any W A A2 n c n2 c2' L C g g2).pure
end Go.Proofs.Ytebbnbddlnpldaa
