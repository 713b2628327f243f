/- The statement PathmapLeads: the difference leads from the one map to the other. -/
import Derived.Test.YtebbnbddlnpldaaPmP
namespace Go.Proofs.Ytebbnbddlnpldaa
open Go.RowKit Go.ChangeShapes Go.WideShapes Go.ChangeAt
open Asn (pt row rb)
set_option linter.unusedVariables false
set_option linter.unusedSimpArgs false
--@use N

theorem srt_ris {α : Type} [Inhabited α] {L : List (Str × α)} (hl : L.length ≤ 32) (hs : Srt (·.1) L) (hp : ∀ x ∈ L, pathB x.1 = true) : risB (L.map (·.1)) = true := by
  rw [risB, Bool.and_eq_true, decide_eq_true_eq, List.length_map, incN, List.all_eq_true]
  refine ⟨hl, fun i hi => ?_⟩
  have hi : i < L.length := List.mem_range.1 hi
  have e : L.getD i default = L[i] := by simp [List.getD, hi]
  rw [stepB, map_getD L i hi, Bool.and_eq_true, Bool.or_eq_true, decide_eq_true_eq]
  refine ⟨by rw [e]; exact hp _ (List.getElem_mem hi), ?_⟩
  rcases Nat.eq_zero_or_pos i with h0 | h0
  · exact .inl h0
  · refine .inr ?_
    rw [map_getD L (i - 1) (by omega), bytesLess_eq, decide_eq_true_eq, e]
    have e2 : L.getD (i - 1) default = L[i - 1] := by simp [List.getD, show i - 1 < L.length by omega]
    rw [e2]
    exact List.pairwise_iff_getElem.1 hs (i - 1) i (by omega) hi (by omega)
theorem chkR_txt {L : List Rw} (h : chkR L = true) : ∀ x ∈ L, x.2.length ≤ 256 := fun x hx => by
  rw [chkR, Bool.and_eq_true, List.all_eq_true] at h
  have := h.1 x hx
  simpa [badR] using this
theorem diff_chk {L M : List Rw} (hL : chkR L = true) (hM : chkR M = true) (hl : (diffU L M).length ≤ 32) : chkC (diffU L M) = true := by
  have sL := chkR_srt hL
  have sM := chkR_srt hM
  rw [chkC, Bool.and_eq_true, List.all_eq_true]
  have hm := fun c => diffU_mem L M sL.2.1 sM.2.1 c
  refine ⟨fun c hc => ?_, srt_ris hl (diffU_srt L M sL.2.1 sM.2.1) fun c hc => ?_⟩
  · rcases (hm c).1 hc with ⟨z, a1, a2, _⟩ | ⟨z, a1, a2, _⟩
    · rw [a2]; simp [badC]
    · have := chkR_txt hM z a1
      rw [a2]; simp [badC]; omega
  · rcases (hm c).1 hc with ⟨z, a1, a2, _⟩ | ⟨z, a1, a2, _⟩
    · rw [a2]; exact sL.2.2 z a1
    · rw [a2]; exact sM.2.2 z a1
theorem diff_leads {L M : List Rw} (sL : Srt (·.1) L) (sM : Srt (·.1) M) : appU L (diffU L M) = M := by
  have hm := fun c => diffU_mem L M sL sM c
  refine srt_ext (appU_srt sL _) sM fun x => ?_
  rw [appU_mem (diffU_srt L M sL sM)]
  constructor
  · rintro (⟨c, h1, h2, h3, h4⟩ | ⟨h1, h2⟩)
    · rcases (hm c).1 h1 with ⟨z, a1, a2, _⟩ | ⟨z, a1, a2, _⟩
      · rw [a2] at h3; cases h3
      · have : x = z := by rw [h4]; exact Prod.ext (by rw [← h2, a2]) (by rw [a2])
        rw [this]; exact a1
    · by_cases hy : ∃ y, y ∈ M ∧ y.1 = x.1
      · obtain ⟨y, b1, b2⟩ := hy
        by_cases hyL : y ∈ L
        · rw [← srt_key sL hyL h1 b2]; exact b1
        · exact absurd b2 (h2 (y.1, true, y.2) ((hm _).2 (.inr ⟨y, b1, rfl, hyL⟩)))
      · exact absurd rfl (h2 (x.1, false, []) ((hm _).2 (.inl ⟨x, h1, rfl, fun y b1 b2 => hy ⟨y, b1, b2⟩⟩)))
  · intro hx
    by_cases hxL : x ∈ L
    · refine .inr ⟨hxL, fun c hc e => ?_⟩
      rcases (hm c).1 hc with ⟨z, a1, a2, a3⟩ | ⟨z, a1, a2, a3⟩
      · exact a3 x hx (by rw [← e, a2])
      · have : z = x := srt_key sM a1 hx (by rw [← e, a2])
        exact a3 (this ▸ hxL)
    · exact .inl ⟨(x.1, true, x.2), (hm _).2 (.inr ⟨x, hx, rfl, hxL⟩), rfl, rfl, rfl⟩
theorem diff_self : ∀ L : List Rw, diffU L L = []
  | [] => by rw [diffU]
  | x :: L => by rw [diffU, if_neg (sl_irr _), if_neg (sl_irr _), if_pos rfl]; exact diff_self L
theorem diff_nil {L M : List Rw} (sL : Srt (·.1) L) (sM : Srt (·.1) M) (h : diffU L M = []) : L = M := by
  have := diff_leads sL sM
  rw [h] at this
  exact this
theorem E_diffV {n : Nat} {w0 : World} {M0 : Nat → Prop} {T : Slots} {H : List Asn} {dd : Option Tmp} {tt : TypeId} {pos : String} {af : Array Edge} {g : Option (Nat × Bool)} {x y : Operand} {ts : Array TypeId} {A A2 : Option Addr} {m c m2 c2 : Nat} {L M : List Rw} {O : List Ch} {e : Int} {k : Nat} (hx : oget T x = some (.agg #[.slice A m c])) (hy : oget T y = some (.agg #[.slice A2 m2 c2])) (hs : Srd w0 M0 H 2 A m (cellsL rwc L)) (hs2 : Srd w0 M0 H 2 A2 m2 (cellsL rwc M)) (hm : m ≤ 100000) (hm2 : m2 ≤ 100000) (hp : ∀ x ∈ L, x.1.length ≤ 100000) (hp2 : ∀ x ∈ M, x.1.length ≤ 100000) (hO : diffO L M = O) (he : diffE L M = e) (hk : O.length = k) :
    Ef Try.prog n w0 M0 T H ⟨dd, .call ⟨.value (.func 23), #[x, y], ts⟩, tt, pos, af, g⟩ (fun u H' => ∃ A' c', u = .tuple #[.agg #[.slice A' k c'], zi e] ∧ H' = row 42 3 A' k c' (cellsL chc O) :: H) := by
  subst hO
  subst he
  subst hk
  exact E_diffW hx hy hs hs2 hm hm2 hp hp2
set_option maxRecDepth 100000 in
set_option maxHeartbeats 4000000 in
theorem leads_any (w : World) (A A2 : Option Addr) (n c n2 c2 : Nat) (L M : List Rw) (h : Rd w All 2 A n (cellsL rwc L)) (h2 : Rd w All 2 A2 n2 (cellsL rwc M)) :
    Gives Try.prog 6 [.agg #[.slice A n c], .agg #[.slice A2 n2 c2]] [] w (X := Unit) (fun _ => .bool true) (fun _ => True) (fun _ => []) := by
  refine gives_S Try.func6 rfl Try.ntmps6 Try.results6 (by simp) (St.enter w) (fun B hB => ?_)
  have hl : L.length = n := by have := h.1; rw [cellsL_len rwc_len] at this; omega
  have hl2 : M.length = n2 := by have := h2.1; rw [cellsL_len rwc_len] at this; omega
  subst hl
  subst hl2
  focus (refine S_seq rfl ?_; refine S_region rfl rfl ?_; (refine R_eff (E_boxa (cs := [.slice A L.length c]) rfl) ?_ rfl rfl; rintro _ _ ⟨b2, rfl, rfl⟩); (refine R_eff (E_boxa (cs := [.slice A2 M.length c2]) rfl) ?_ rfl rfl; rintro _ _ ⟨b3, rfl, rfl⟩); refine R_p rfl ?_ rfl rfl; refine R_nil ?_; refine S_seq rfl ?_; refine S_seq rfl ?_; refine S_region rfl rfl ?_; (refine R_eff (E_gv0 (f := 9) ⟨_, Try.func9, rfl, by kernel_rfl⟩ rfl (fun w hS => wakes_any w) (fun _ => rfl)) ?_ rfl rfl; rintro _ _ ⟨_, rfl, _, rfl⟩); refine R_take (T_not rfl) ?_ rfl rfl; refine R_nil ?_; refine S_false rfl rfl ?_; refine S_skip rfl ?_; refine S_seq rfl ?_; refine S_seq rfl ?_; refine S_region rfl rfl ?_; refine R_take (T_loada (ds := [.slice A L.length c]) rfl rfl rfl rfl (fun j v h => by simpa using h)) ?_ rfl rfl; refine R_take (T_build0 ed_built0) ?_ rfl rfl; ((refine R_eff (E_hv0 (f := 10) ⟨_, Try.func10, rfl, by kernel_rfl⟩ (fun w hS => large_any w A none L.length c 0 0 L [] ((Srd.old h (fun k _ => noOwns k)).rd w hS) (rd_nil3 w)) rfl rfl (fun _ => rfl)) ?_ rfl rfl; rintro _ _ ⟨bg, rfl, hbg, rfl⟩); cases bg); refine R_p rfl ?_ rfl rfl; refine R_take (T_loada (ds := [.slice A2 M.length c2]) rfl rfl rfl rfl (fun j v h => by simpa using h)) ?_ rfl rfl; refine R_take (T_build0 ed_built0) ?_ rfl rfl; ((refine R_eff (E_hv0 (f := 10) ⟨_, Try.func10, rfl, by kernel_rfl⟩ (fun w hS => large_any w A2 none M.length c2 0 0 M [] ((Srd.old h2 (fun k _ => noOwns k)).rd w hS) (rd_nil3 w)) rfl rfl (fun _ => rfl)) ?_ rfl rfl; rintro _ _ ⟨bh, rfl, hbh, rfl⟩); cases bh); refine R_p rfl ?_ rfl rfl; refine R_nil ?_; refine S_false rfl rfl ?_; refine S_skip rfl ?_; refine S_seq rfl ?_; refine S_region rfl rfl ?_; refine R_take (T_loada (ds := [.slice A L.length c]) rfl rfl rfl rfl (fun j v h => by simpa using h)) ?_ rfl rfl; refine R_take (T_loada (ds := [.slice A2 M.length c2]) rfl rfl rfl rfl (fun j v h => by simpa using h)) ?_ rfl rfl; rotate_left; refine R_p rfl ?_ rfl rfl; refine R_nil ?_; refine S_true rfl rfl ?_; refine S_seq rfl ?_; refine S_region rfl rfl ?_; refine R_p rfl ?_ rfl rfl; refine R_nil ?_; rotate_left; refine R_p rfl ?_ rfl rfl; refine R_skip ?_ rfl rfl; refine R_skip ?_ rfl rfl; refine R_skip ?_ rfl rfl; refine R_p rfl ?_ rfl rfl; refine R_nil ?_; refine S_true rfl rfl ?_; refine S_seq rfl ?_; refine S_region rfl rfl ?_; refine R_p rfl ?_ rfl rfl; refine R_nil ?_; rotate_left)
  rotate_left
  · exact hB _ _ _ _ _ rfl rfl fun w' hS => ⟨(), rfl, trivial, hS.sublist (List.nil_sublist _)⟩
  · exact hB _ _ _ _ _ rfl rfl fun w' hS => ⟨(), rfl, trivial, hS.sublist (List.nil_sublist _)⟩
  obtain ⟨⟨hL1, hL2⟩, _⟩ := hbg rfl
  obtain ⟨⟨hM1, hM2⟩, _⟩ := hbh rfl
  have hp : ∀ x ∈ L, x.1.length ≤ 100000 := fun x hx => by have := (hL2 x hx).1; omega
  have hp2 : ∀ x ∈ M, x.1.length ≤ 100000 := fun x hx => by have := (hM2 x hx).1; omega
  by_cases hrr : (chkR L = true ∧ chkR M = true) ∧ (diffU L M).length ≤ 32
  rotate_left
  · have e1 : diffE L M ≠ 0 := by
      rw [diffE]
      split
      · rename_i h0
        split
        · rename_i h1
          exact absurd ⟨by simpa using h0, h1⟩ hrr
        · decide
      · decide
    have e2 : diffO L M = [] := by
      rw [diffO]
      split
      · rename_i h0
        split
        · rename_i h1
          exact absurd ⟨by simpa using h0, h1⟩ hrr
        · rfl
      · rfl
    focus ((refine R_eff (E_diffV (L := L) (M := M) (k := 0) rfl rfl (Srd.old h (fun k _ => noOwns k)) (Srd.old h2 (fun k _ => noOwns k)) (by omega) (by omega) hp hp2 e2 rfl rfl) ?_ rfl rfl; rintro _ _ ⟨A5, c5, rfl, rfl⟩); refine R_p rfl ?_ rfl rfl; refine R_p rfl ?_ rfl rfl; refine R_p rfl ?_ rfl rfl; (refine R_eff (E_alloca rfl ed_alloc) ?_ rfl rfl; rintro _ _ ⟨b5, rfl, rfl⟩); (refine R_eff0 (E_storew (ds := [.slice A5 0 c5]) (cs := [.slice none 0 0]) rfl rfl rfl rfl (sl_one _ _ _) rfl) ?_ rfl; rintro _ _ rfl); refine R_p rfl ?_ rfl rfl; refine R_nil ?_; refine S_seq rfl ?_; refine S_seq rfl ?_; refine S_region rfl rfl ?_; refine R_p rfl ?_ rfl rfl; refine R_take (T_decT rfl (by first | exact e1 | decide)) ?_ rfl rfl; refine R_nil ?_; refine S_true rfl rfl ?_; refine S_seq rfl ?_; refine S_region rfl rfl ?_; refine R_p rfl ?_ rfl rfl; refine R_take (T_load rfl rfl rfl (by first | rfl | assumption)) ?_ rfl rfl; refine R_p rfl ?_ rfl rfl; refine R_take (T_decT rfl (by first | exact e1 | decide)) ?_ rfl rfl; refine R_p rfl ?_ rfl rfl; refine R_nil ?_)
    exact hB _ _ _ _ _ rfl rfl fun w' hS => ⟨(), rfl, trivial, hS.sublist (List.nil_sublist _)⟩
  obtain ⟨⟨hr, hrm⟩, hul⟩ := hrr
  have e0 : (chkR L && chkR M) = true := by rw [hr, hrm]; rfl
  have e00 : (chkR L && chkR L) = true := by rw [hr]; rfl
  have sL := chkR_srt hr
  have sM := chkR_srt hrm
  have hck := diff_chk hr hrm hul
  have hld := diff_leads sL.2.1 sM.2.1
  have hkn := fun h => diff_nil sL.2.1 sM.2.1 h
  have hks : L = M → diffU L M = [] := fun e => by rw [← e]; exact diff_self L
  have e1 : diffE L M = 0 := by rw [diffE, e0, if_pos rfl, if_pos hul]
  have e2 : diffO L M = diffU L M := by rw [diffO, e0, if_pos rfl, if_pos hul]
  have f1 : diffE L L = 0 := by rw [diffE, e00, diff_self, if_pos rfl, if_pos (by simp)]
  have f2 : diffO L L = [] := by rw [diffO, e00, diff_self, if_pos rfl, if_pos (by simp)]
  have hpU : ∀ x ∈ diffU L M, x.1.length ≤ 100000 := fun c hc => by
    rcases (diffU_mem L M sL.2.1 sM.2.1 c).1 hc with ⟨z, a1, a2, _⟩ | ⟨z, a1, a2, _⟩
    · rw [a2]; exact hp z a1
    · rw [a2]; exact hp2 z a1
  obtain ⟨U, hU⟩ : ∃ U, diffU L M = U := ⟨_, rfl⟩
  rw [hU] at hck hld hkn hks e2 hul hpU
  have g1 : appE L U = 0 := by rw [appE, hr, hck, hld, if_pos rfl, if_pos rfl, if_pos sM.1]
  have g2 : appR L U = M := by rw [appR, hr, hck, hld, if_pos rfl, if_pos rfl, if_pos sM.1]
  focus ((refine R_eff (E_diffV (L := L) (M := M) (O := U) (k := U.length) (A := A) (m := L.length) (c := c) (A2 := A2) (m2 := M.length) (c2 := c2) rfl rfl (Srd.old h (fun k _ => noOwns k)) (Srd.old h2 (fun k _ => noOwns k)) (by omega) (by omega) hp hp2 e2 e1 rfl) ?_ rfl rfl; rintro _ _ ⟨A5, c5, rfl, rfl⟩); refine R_p rfl ?_ rfl rfl; refine R_p rfl ?_ rfl rfl; refine R_p rfl ?_ rfl rfl; (refine R_eff (E_alloca (H := [row 42 3 A5 U.length c5 (cellsL chc U), pt b3 24 [.slice A2 M.length c2], pt b2 24 [.slice A L.length c]]) rfl ed_alloc) ?_ rfl rfl; rintro _ _ ⟨b5, rfl, rfl⟩); (refine R_eff0 (E_storew (ds := [.slice A5 U.length c5]) (cs := [.slice none 0 0]) rfl rfl rfl rfl (sl_one _ _ _) rfl) ?_ rfl; rintro _ _ rfl); refine R_p rfl ?_ rfl rfl; refine R_nil ?_; refine S_seq rfl ?_; refine S_seq rfl ?_; refine S_region rfl rfl ?_; refine R_p rfl ?_ rfl rfl; refine R_take (T_decF rfl (by decide)) ?_ rfl rfl; refine R_nil ?_; refine S_false rfl rfl ?_; refine S_skip rfl ?_; refine S_seq rfl ?_; refine S_region rfl rfl ?_; refine R_take (T_loada (ds := [.slice A L.length c]) rfl rfl rfl rfl (fun j v h => by simpa using h)) ?_ rfl rfl; refine R_take (T_loada (ds := [.slice A5 U.length c5]) rfl rfl rfl rfl (fun j v h => by simpa using h)) ?_ rfl rfl; (refine R_eff (E_applyW (L := L) (C := U) (R := M) (e := 0) (k := M.length) (m := L.length) (c := c) (m2 := U.length) (c2 := c5) (A := A) (A2 := A5) rfl rfl (Srd.old h (fun k _ => noOwns k)) (Srd.row (n := U.length) (c := c5)) (by omega) (by omega) hp hpU g2 g1 rfl) ?_ rfl rfl; rintro _ _ ⟨A7, c7, rfl, _, rfl⟩); refine R_p rfl ?_ rfl rfl; refine R_p rfl ?_ rfl rfl; refine R_p rfl ?_ rfl rfl; (refine R_eff (E_alloca rfl mp_alloc) ?_ rfl rfl; rintro _ _ ⟨b7, rfl, rfl⟩); (refine R_eff0 (E_storew (ds := [.slice A7 M.length c7]) (cs := [.slice none 0 0]) rfl rfl rfl rfl (sl_one _ _ _) rfl) ?_ rfl; rintro _ _ rfl); refine R_p rfl ?_ rfl rfl; refine R_nil ?_; refine S_seq rfl ?_; refine S_seq rfl ?_; refine S_region rfl rfl ?_; refine R_p rfl ?_ rfl rfl; refine R_take (T_decF rfl (by decide)) ?_ rfl rfl; refine R_p rfl ?_ rfl rfl; refine R_take (T_loada (ds := [.slice A7 M.length c7]) rfl rfl rfl rfl (fun j v h => by simpa using h)) ?_ rfl rfl; refine R_take (T_loada (ds := [.slice A2 M.length c2]) rfl rfl rfl rfl (fun j v h => by simpa using h)) ?_ rfl rfl; (refine R_eff (E_hv0 (f := 20) ⟨_, Try.func20, rfl, by kernel_rfl⟩ (fun w hS => Same_self w A7 A2 M.length c7 M.length c2 M ((Srd.row (n := M.length) (c := c7)).rd w hS) ((Srd.old h2 (fun k _ => noOwns k)).rd w hS) (by omega) (by omega)) rfl rfl (fun _ => rfl)) ?_ rfl rfl; rintro _ _ ⟨_, rfl, _, rfl⟩); refine R_take (T_not rfl) ?_ rfl rfl; refine R_p rfl ?_ rfl rfl; refine R_p rfl ?_ rfl rfl; refine R_take (T_loada (ds := [.slice A5 U.length c5]) rfl rfl rfl rfl (fun j v h => by simpa using h)) ?_ rfl rfl; (refine R_eff (E_chkCW (L := U) (A := A5) (m := U.length) (c := c5) (r := true) rfl (Srd.row (n := U.length) (c := c5)) (by omega) hpU hck) ?_ rfl rfl; rintro _ _ ⟨rfl, rfl⟩); refine R_take (T_decF rfl (by decide)) ?_ rfl rfl; refine R_p rfl ?_ rfl rfl; refine R_nil ?_; refine S_false rfl rfl ?_; refine S_skip rfl ?_; refine S_seq rfl ?_; refine S_region rfl rfl ?_; refine R_take (T_loada (ds := [.slice A L.length c]) rfl rfl rfl rfl (fun j v h => by simpa using h)) ?_ rfl rfl; refine R_take (T_loada (ds := [.slice A L.length c]) rfl rfl rfl rfl (fun j v h => by simpa using h)) ?_ rfl rfl; (refine R_eff (E_diffV (L := L) (M := L) (O := []) (k := 0) (A := A) (m := L.length) (c := c) (A2 := A) (m2 := L.length) (c2 := c) rfl rfl (Srd.old h (fun k _ => noOwns k)) (Srd.old h (fun k _ => noOwns k)) (by omega) (by omega) hp hp f2 f1 rfl) ?_ rfl rfl; rintro _ _ ⟨A8, c8, rfl, rfl⟩); refine R_p rfl ?_ rfl rfl; refine R_p rfl ?_ rfl rfl; refine R_p rfl ?_ rfl rfl; (refine R_eff (E_alloca rfl mp_alloc) ?_ rfl rfl; rintro _ _ ⟨b7, rfl, rfl⟩); (refine R_eff0 (E_storew (ds := [.slice A8 0 c8]) (cs := [.slice none 0 0]) rfl rfl rfl rfl (sl_one _ _ _) rfl) ?_ rfl; rintro _ _ rfl); refine R_p rfl ?_ rfl rfl; refine R_nil ?_; refine S_seq rfl ?_)
  by_cases hLM : L = M
  · have hU0 : U.length = 0 := by rw [hks hLM]; rfl
    have hd := decide_eq_true hLM
    refine S_draw ([pt b7 27 [.slice A8 0 c8], pt b5 27 [.slice A5 U.length c5], pt b3 24 [.slice A2 M.length c2], pt b2 24 [.slice A L.length c]]) sub_st (by kernel_rfl) rfl (by kernel_rfl) (by kernel_rfl : _ = 19) ?_
    refine D_take 0 rfl (pev_ok rfl) ?_ rfl rfl (by kernel_rfl) (by kernel_rfl)
    refine D_take 1 rfl (T_decT rfl (by omega)) ?_ rfl rfl (by kernel_rfl) (by kernel_rfl)
    refine D_take 2 rfl (pev_ok rfl) ?_ rfl rfl (by kernel_rfl) (by kernel_rfl)
    refine D_take 3 rfl (pev_ok rfl) ?_ rfl rfl (by kernel_rfl) (by kernel_rfl)
    refine D_take 4 rfl (T_load rfl rfl rfl (by first | rfl | assumption)) ?_ rfl rfl (by kernel_rfl) (by kernel_rfl)
    refine D_take 5 rfl (pev_ok rfl) ?_ rfl rfl (by kernel_rfl) (by kernel_rfl)
    refine D_take 6 rfl (T_decT rfl (by omega)) ?_ rfl rfl (by kernel_rfl) (by kernel_rfl)
    refine D_take 7 rfl (pev_ok rfl) ?_ rfl rfl (by kernel_rfl) (by kernel_rfl)
    refine D_take 8 rfl (pev_ok rfl) ?_ rfl rfl (by kernel_rfl) (by kernel_rfl)
    refine D_take 9 rfl (pev_ok rfl) ?_ rfl rfl (by kernel_rfl) (by kernel_rfl)
    refine D_take 10 rfl (T_load rfl rfl rfl (by first | rfl | assumption)) ?_ rfl rfl (by kernel_rfl) (by kernel_rfl)
    refine D_take 11 rfl (pev_ok rfl) ?_ rfl rfl (by kernel_rfl) (by kernel_rfl)
    refine D_take 12 rfl (T_decT rfl (by omega)) ?_ rfl rfl (by kernel_rfl) (by kernel_rfl)
    refine D_take 13 rfl (T_loada (ds := [.slice A L.length c]) rfl rfl rfl rfl (fun j v h => by simpa using h)) ?_ rfl rfl (by kernel_rfl) (by kernel_rfl)
    refine D_take 14 rfl (T_loada (ds := [.slice A2 M.length c2]) rfl rfl rfl rfl (fun j v h => by simpa using h)) ?_ rfl rfl (by kernel_rfl) (by kernel_rfl)
    refine D_one 15 rfl (E_hv0 ⟨_, Try.func20, rfl, by kernel_rfl⟩ (fun w hS => Same_any w A A2 L.length c M.length c2 L M ((Srd.old h (fun k _ => noOwns k)).rd w hS) ((Srd.old h2 (fun k _ => noOwns k)).rd w hS) (by omega) (by omega)) rfl rfl (fun _ => rfl)) ?_ rfl rfl (by kernel_rfl)
    rintro _ _ ⟨_, rfl, _, rfl⟩; rw [hd]
    refine Nx_same sub_st ?_
    refine D_take 16 rfl (T_beqs rfl rfl rfl rfl) ?_ rfl rfl (by kernel_rfl) (by kernel_rfl)
    refine D_take 17 rfl (T_decT rfl (by omega)) ?_ rfl rfl (by kernel_rfl) (by kernel_rfl)
    refine D_take 18 rfl (T_decT rfl (by omega)) ?_ rfl rfl (by kernel_rfl) (by kernel_rfl)
    refine D_done ?_ (by kernel_rfl)
    skip
    skip
    exact hB _ _ _ _ _ rfl rfl fun w' hS => ⟨(), rfl, trivial, hS.sublist (List.nil_sublist _)⟩
  · have hU0 : U.length ≠ 0 := fun e => hLM (hkn (List.eq_nil_of_length_eq_zero e))
    have hd := decide_eq_false hLM
    refine S_draw ([pt b7 27 [.slice A8 0 c8], pt b5 27 [.slice A5 U.length c5], pt b3 24 [.slice A2 M.length c2], pt b2 24 [.slice A L.length c]]) sub_st (by kernel_rfl) rfl (by kernel_rfl) (by kernel_rfl : _ = 19) ?_
    refine D_take 0 rfl (pev_ok rfl) ?_ rfl rfl (by kernel_rfl) (by kernel_rfl)
    refine D_take 1 rfl (T_decT rfl (by decide)) ?_ rfl rfl (by kernel_rfl) (by kernel_rfl)
    refine D_take 2 rfl (pev_ok rfl) ?_ rfl rfl (by kernel_rfl) (by kernel_rfl)
    refine D_take 3 rfl (pev_ok rfl) ?_ rfl rfl (by kernel_rfl) (by kernel_rfl)
    refine D_take 4 rfl (T_load rfl rfl rfl (by first | rfl | assumption)) ?_ rfl rfl (by kernel_rfl) (by kernel_rfl)
    refine D_take 5 rfl (pev_ok rfl) ?_ rfl rfl (by kernel_rfl) (by kernel_rfl)
    refine D_take 6 rfl (T_decT rfl (by decide)) ?_ rfl rfl (by kernel_rfl) (by kernel_rfl)
    refine D_take 7 rfl (pev_ok rfl) ?_ rfl rfl (by kernel_rfl) (by kernel_rfl)
    refine D_take 8 rfl (pev_ok rfl) ?_ rfl rfl (by kernel_rfl) (by kernel_rfl)
    refine D_take 9 rfl (pev_ok rfl) ?_ rfl rfl (by kernel_rfl) (by kernel_rfl)
    refine D_take 10 rfl (T_load rfl rfl rfl (by first | rfl | assumption)) ?_ rfl rfl (by kernel_rfl) (by kernel_rfl)
    refine D_take 11 rfl (pev_ok rfl) ?_ rfl rfl (by kernel_rfl) (by kernel_rfl)
    refine D_take 12 rfl (T_decF rfl (by omega)) ?_ rfl rfl (by kernel_rfl) (by kernel_rfl)
    refine D_take 13 rfl (T_loada (ds := [.slice A L.length c]) rfl rfl rfl rfl (fun j v h => by simpa using h)) ?_ rfl rfl (by kernel_rfl) (by kernel_rfl)
    refine D_take 14 rfl (T_loada (ds := [.slice A2 M.length c2]) rfl rfl rfl rfl (fun j v h => by simpa using h)) ?_ rfl rfl (by kernel_rfl) (by kernel_rfl)
    refine D_one 15 rfl (E_hv0 ⟨_, Try.func20, rfl, by kernel_rfl⟩ (fun w hS => Same_any w A A2 L.length c M.length c2 L M ((Srd.old h (fun k _ => noOwns k)).rd w hS) ((Srd.old h2 (fun k _ => noOwns k)).rd w hS) (by omega) (by omega)) rfl rfl (fun _ => rfl)) ?_ rfl rfl (by kernel_rfl)
    rintro _ _ ⟨_, rfl, _, rfl⟩; rw [hd]
    refine Nx_same sub_st ?_
    refine D_take 16 rfl (T_beqs rfl rfl rfl rfl) ?_ rfl rfl (by kernel_rfl) (by kernel_rfl)
    refine D_take 17 rfl (pev_ok rfl) ?_ rfl rfl (by kernel_rfl) (by kernel_rfl)
    refine D_take 18 rfl (pev_ok rfl) ?_ rfl rfl (by kernel_rfl) (by kernel_rfl)
    refine D_done ?_ (by kernel_rfl)
    skip
    skip
    exact hB _ _ _ _ _ rfl rfl fun w' hS => ⟨(), rfl, trivial, hS.sublist (List.nil_sublist _)⟩
set_option maxRecDepth 100000 in
theorem PathmapLeads_open {H : Type} {enc : TypeId × Value → H} (W : World) {r : Reach} (base : Nat) (v0 v1 : Value) {d0 d1 : DataW H} {p0 p1 : List MemPlace}
    (hv0 : Value.okWide Try.prog W r base 24 v0) (hv1 : Value.okWide Try.prog W r base 24 v1)
    (h0 : DataW.Trod enc Try.prog W 0 (fun _ => true) true 24 v0 d0 p0) (h1 : DataW.Trod enc Try.prog W 0 (fun _ => true) true 24 v1 d1 p1) :
    Calls Try.prog 6 #[v0, v1] W fun e W' => e = .returned (.bool true) ∧ Kp All W W' := by
  obtain ⟨A, n, c, L, rfl, _, _, g⟩ := open_map hv0 h0
  obtain ⟨A2, n2, c2', M, rfl, _, _, g2⟩ := open_map hv1 h1
  exact (leads_any W A A2 n c n2 c2' L M g g2).pure
end Go.Proofs.Ytebbnbddlnpldaa
