/- Nets: the statement NetBack. -/
import Derived.Test.YtclmaoagdkhboaaNtN
namespace Go.Proofs.Ytclmaoagdkhboaa
open Go.RowKit Go.ChangeShapes Go.WideShapes Go.ChangeAt
open Asn (pt row rb)
set_option linter.unusedVariables false
set_option linter.unusedSimpArgs false
--@use N

theorem pairB_sw {a b : Int} (h : pairB a b = true) : pairB b a = true := by
  unfold pairB at h ⊢
  simp only [Bool.and_eq_true, decide_eq_true_eq] at h ⊢
  exact ⟨⟨h.1.2, h.1.1⟩, fun e => h.2 e.symm⟩
theorem mm_sw (a b : Int) : (minI b a, maxI b a) = (minI a b, maxI a b) := by
  unfold minI maxI
  rw [Prod.mk.injEq]
  split <;> split <;> omega
theorem chk_cuts {W : List Pn} {C : List Ct} (hch : chkB W C = true) : cutsB C C.length = true := by
  unfold chkB at hch
  rw [Bool.and_eq_true] at hch
  exact hch.2
theorem cuts_of {C : List Ct} (hs : SrtC C) (hp : ∀ c ∈ C, c ∈ pairsL) : cutsB C C.length = true := by
  unfold cutsB
  rw [List.all_eq_true]
  intro i hi
  have hi := List.mem_range.1 hi
  have h1 := pairs_mem.1 (hp (C[i]) (List.getElem_mem hi))
  have e : C.getD i default = C[i] := by simp [List.getD, hi]
  unfold cutOk pairB nodeB
  rw [e]
  simp only [Bool.and_eq_true, Bool.or_eq_true, decide_eq_true_eq]
  refine ⟨⟨⟨⟨⟨by omega, by omega⟩, by omega, by omega⟩, by omega⟩, by omega⟩, ?_⟩
  rcases Nat.eq_zero_or_pos i with h2 | h2
  · exact .inl h2
  · refine .inr ?_
    have h3 := (List.pairwise_iff_getElem.1 hs) (i - 1) i (by omega) hi (by omega)
    have e2 : C.getD (i - 1) default = C[i - 1]'(by omega) := by simp [List.getD, show i - 1 < C.length by omega]
    rw [e2]
    exact h3
theorem cutD_mem {C : List Ct} {a b : Int} {o : Bool} {c : Ct} (h : cutsB C C.length = true) (hp : pairB a b = true) : c ∈ cutD C a b o ↔ (c = (minI a b, maxI a b) ∧ o = true) ∨ (c ≠ (minI a b, maxI a b) ∧ c ∈ C) := by
  unfold cutD
  rw [List.mem_filter]
  constructor
  · rintro ⟨h1, h2⟩
    exact (inB_iff h hp h1).1 h2
  · intro h1
    have h2 : c ∈ pairsL := by
      rcases h1 with h2 | h2
      · rw [h2.1]; exact m_ok hp
      · exact cuts_lt h c h2.2
    exact ⟨h2, (inB_iff h hp h2).2 h1⟩
theorem chk_cutD {W : List Pn} {C : List Ct} {a b : Int} {o : Bool} (hch : chkB W C = true) (_hp : pairB a b = true) : chkB W (cutD C a b o) = true := by
  have h1 : cutsB (cutD C a b o) (cutD C a b o).length = true := cuts_of (pairs_srt.filter _) fun c hc => (List.mem_filter.1 hc).1
  unfold chkB at hch ⊢
  rw [Bool.and_eq_true] at hch ⊢
  exact ⟨hch.1, h1⟩
theorem part_cutD {W : List Pn} {C : List Ct} {a b : Int} {o : Bool} (hch : chkB W C = true) (hp : pairB a b = true) : partP (cutD C a b o) b a = o := by
  unfold partP
  rw [mm_sw]
  have h1 := cutD_mem (o := o) (c := (minI a b, maxI a b)) (chk_cuts hch) hp
  cases o
  · rw [decide_eq_false_iff_not, h1]
    rintro (h2 | h2)
    · cases h2.2
    · exact h2.1 rfl
  · rw [decide_eq_true_eq, h1]
    exact .inl ⟨rfl, rfl⟩
theorem cut_back {W : List Pn} {C : List Ct} {a b : Int} {o : Bool} (hch : chkB W C = true) (hp : pairB a b = true) (hq : partP C a b = !o) : cutD (cutD C a b o) b a (!o) = C := by
  have hcut := chk_cuts hch
  have hcut1 := chk_cuts (chk_cutD (o := o) hch hp)
  have hm : (minI a b, maxI a b) ∈ C ↔ (!o) = true := by
    rw [← hq]
    unfold partP
    rw [decide_eq_true_eq]
  refine srt_ext (pairs_srt.filter _) (cuts_srt hcut) fun c => ?_
  rw [cutD_mem hcut1 (pairB_sw hp), mm_sw, cutD_mem hcut hp]
  by_cases h : c = (minI a b, maxI a b)
  · subst h
    constructor
    · rintro (h1 | h1)
      · exact hm.2 h1.2
      · exact absurd rfl h1.1
    · intro h1
      exact .inl ⟨rfl, hm.1 h1⟩
  · constructor
    · rintro (h1 | ⟨_, h1 | h1⟩)
      · exact absurd h1.1 h
      · exact absurd h1.1 h
      · exact h1.2
    · intro h1
      exact .inr ⟨h, .inr ⟨h, h1⟩⟩
set_option maxRecDepth 100000 in
set_option maxHeartbeats 4000000 in
theorem back_any (w : World) (A : Option Addr) (c n : Nat) (P : List Pk) (W : List Pn) (hk : P.length = n) (hW : P.map pkv = W) (h : Rd w All 3 A n (cellsL pkc P)) (A2 : Option Addr) (c2' n2 : Nat) (C : List Ct) (hk2 : C.length = n2) (h2 : Rd w All 2 A2 n2 (cellsL ctc C)) (hd : RDt w All (P.map pkd)) (hp : ∀ m ∈ P, BsP w m) (hnl : n ≤ maxLen) (hnl2 : n2 ≤ maxLen) (a b : Int) :
    Gives Try.prog 7 [.agg (ntc A n c A2 n2 c2').toArray, .int .i64 a, .int .i64 b] [] w (X := Unit) (fun _ => .bool true) (fun _ => True) (fun _ => []) := by
  refine gives_S Try.func7 rfl Try.ntmps7 Try.results7 (by simp) (St.enter w) (fun B hB => ?_)
  have hWn : W.length = n := by rw [← hW, List.length_map, hk]
  focus (refine S_seq rfl ?_; refine S_region rfl rfl ?_; (refine R_eff (E_boxa (cs := ntc A n c A2 n2 c2') rfl) ?_ rfl rfl; rintro _ _ ⟨b3, rfl, rfl⟩); refine R_p rfl ?_ rfl rfl; refine R_nil ?_; refine S_seq rfl ?_; refine S_seq rfl ?_; refine S_region rfl rfl ?_; (refine R_eff (E_hv0 (f := 8) ⟨_, Try.func8, rfl, by kernel_rfl⟩ (fun w hS => wakes23_any w) rfl rfl (fun _ => rfl)) ?_ rfl rfl; rintro _ _ ⟨_, rfl, _, rfl⟩); refine R_take (T_not rfl) ?_ rfl rfl; refine R_nil ?_; refine S_false rfl rfl ?_; refine S_skip rfl ?_; refine S_seq rfl ?_; refine S_seq rfl ?_; refine S_region rfl rfl ?_; refine R_take (T_loads (ds := ntc A n c A2 n2 c2') rfl rfl rfl rfl rfl) ?_ rfl rfl; ((refine R_eff (E_hv0 (f := 9) ⟨_, Try.func9, rfl, by kernel_rfl⟩ (fun w hS => large_any w A c n P W hk hW ((Srd.old h (fun k _ => noOwns k)).rd w hS) A2 c2' n2 C hk2 ((Srd.old h2 (fun k _ => noOwns k)).rd w hS) hnl hnl2) rfl rfl (fun _ => rfl)) ?_ rfl rfl; rintro _ _ ⟨lg, rfl, hlg, rfl⟩)); refine R_nil ?_)
  cases lg
  case true =>
    focus (refine S_true rfl rfl ?_; refine S_seq rfl ?_; refine S_region rfl rfl ?_; refine R_p rfl ?_ rfl rfl; refine R_nil ?_)
    exact hB _ _ _ _ _ rfl rfl fun w' hS => ⟨(), rfl, trivial, hS.sublist (List.nil_sublist _)⟩
  obtain ⟨hn, hn2, hkt⟩ := hlg rfl
  have hkk : ∀ m ∈ P, m.2.2.2.2.length ≤ 100000 := fun m hm => Nat.le_trans (hkt m hm) (by omega)
  have hWt : ∀ x ∈ W, x.2.2.length ≤ 100000 := fun x hx => by
    rw [← hW] at hx
    obtain ⟨m, hm, rfl⟩ := List.mem_map.1 hx
    exact hkk m hm
  cases hch : chkB W C
  · skip
    focus (refine S_false rfl rfl ?_; refine S_skip rfl ?_; refine S_seq rfl ?_; refine S_seq rfl ?_; refine S_region rfl rfl ?_; refine R_take (T_loads (ds := ntc A n c A2 n2 c2') rfl rfl rfl rfl rfl) ?_ rfl rfl; refine R_p rfl ?_ rfl rfl; refine R_p rfl ?_ rfl rfl; (refine R_eff (E_hv0 (f := 24) ⟨_, Try.func24, rfl, by kernel_rfl⟩ (fun w hS => part_bad w A c n P W hk hW ((Srd.old h (fun k _ => noOwns k)).rd w hS) A2 c2' n2 C hk2 ((Srd.old h2 (fun k _ => noOwns k)).rd w hS) (by omega) (by omega) a b 330 (.inl ⟨hch, rfl⟩)) rfl rfl (fun _ => rfl)) ?_ rfl rfl; rintro _ _ ⟨_, rfl, _, rfl⟩); refine R_p rfl ?_ rfl rfl; refine R_p rfl ?_ rfl rfl; refine R_p rfl ?_ rfl rfl; (refine R_eff (E_alloca rfl nt_zero) ?_ rfl rfl; rintro _ _ ⟨b7, rfl, rfl⟩); (refine R_eff0 (E_storew (cs := ntc none 0 0 none 0 0) (ds := ntc none 0 0 none 0 0) rfl rfl rfl rfl (ntc_one _ _ _ _ _ _) rfl) ?_ rfl; rintro _ _ rfl); refine R_p rfl ?_ rfl rfl; refine R_nil ?_; refine S_seq rfl ?_; refine S_region rfl rfl ?_; refine R_p rfl ?_ rfl rfl; refine R_take (T_decF rfl (by omega)) ?_ rfl rfl; refine R_nil ?_; refine S_false rfl rfl ?_; refine S_skip rfl ?_; refine S_seq rfl ?_; refine S_seq rfl ?_; refine S_region rfl rfl ?_; refine R_take (T_loads (ds := ntc A n c A2 n2 c2') rfl rfl rfl rfl rfl) ?_ rfl rfl; refine R_p rfl ?_ rfl rfl; refine R_p rfl ?_ rfl rfl)
    focus ((refine R_eff (E_hv0 (f := 25) ⟨_, Try.func25, rfl, by kernel_rfl⟩ (fun w hS => mend_bad w A c n P W hk hW ((Srd.old h (fun k _ => noOwns k)).rd w hS) A2 c2' n2 C hk2 ((Srd.old h2 (fun k _ => noOwns k)).rd w hS) (by omega) (by omega) a b 330 (.inl ⟨hch, rfl⟩)) rfl rfl (fun _ => rfl)) ?_ rfl rfl; rintro _ _ ⟨_, rfl, _, rfl⟩); refine R_p rfl ?_ rfl rfl; refine R_p rfl ?_ rfl rfl; refine R_p rfl ?_ rfl rfl; (refine R_eff (E_alloca rfl nt_zero) ?_ rfl rfl; rintro _ _ ⟨b11, rfl, rfl⟩); (refine R_eff0 (E_storew (cs := ntc none 0 0 none 0 0) (ds := ntc none 0 0 none 0 0) rfl rfl rfl rfl (ntc_one _ _ _ _ _ _) rfl) ?_ rfl; rintro _ _ rfl); refine R_p rfl ?_ rfl rfl; refine R_nil ?_; refine S_seq rfl ?_; refine S_region rfl rfl ?_; refine R_p rfl ?_ rfl rfl; refine R_take (T_decF rfl (by omega)) ?_ rfl rfl; refine R_nil ?_; refine S_false rfl rfl ?_; refine S_skip rfl ?_; refine S_seq rfl ?_; refine S_region rfl rfl ?_; refine R_take (T_decT rfl (by omega)) ?_ rfl rfl; refine R_nil ?_)
    exact hB _ _ _ _ _ rfl rfl fun w' hS => ⟨(), rfl, trivial, hS.sublist (List.nil_sublist _)⟩
  · cases hpr : pairB a b
    · skip
      focus (refine S_false rfl rfl ?_; refine S_skip rfl ?_; refine S_seq rfl ?_; refine S_seq rfl ?_; refine S_region rfl rfl ?_; refine R_take (T_loads (ds := ntc A n c A2 n2 c2') rfl rfl rfl rfl rfl) ?_ rfl rfl; refine R_p rfl ?_ rfl rfl; refine R_p rfl ?_ rfl rfl; (refine R_eff (E_hv0 (f := 24) ⟨_, Try.func24, rfl, by kernel_rfl⟩ (fun w hS => part_bad w A c n P W hk hW ((Srd.old h (fun k _ => noOwns k)).rd w hS) A2 c2' n2 C hk2 ((Srd.old h2 (fun k _ => noOwns k)).rd w hS) (by omega) (by omega) a b 2 (.inr ⟨hch, by rw [hpr]; rfl, by decide⟩)) rfl rfl (fun _ => rfl)) ?_ rfl rfl; rintro _ _ ⟨_, rfl, _, rfl⟩); refine R_p rfl ?_ rfl rfl; refine R_p rfl ?_ rfl rfl; refine R_p rfl ?_ rfl rfl; (refine R_eff (E_alloca rfl nt_zero) ?_ rfl rfl; rintro _ _ ⟨b7, rfl, rfl⟩); (refine R_eff0 (E_storew (cs := ntc none 0 0 none 0 0) (ds := ntc none 0 0 none 0 0) rfl rfl rfl rfl (ntc_one _ _ _ _ _ _) rfl) ?_ rfl; rintro _ _ rfl); refine R_p rfl ?_ rfl rfl; refine R_nil ?_; refine S_seq rfl ?_; refine S_region rfl rfl ?_; refine R_p rfl ?_ rfl rfl; refine R_take (T_decF rfl (by omega)) ?_ rfl rfl; refine R_nil ?_; refine S_false rfl rfl ?_; refine S_skip rfl ?_; refine S_seq rfl ?_; refine S_seq rfl ?_; refine S_region rfl rfl ?_; refine R_take (T_loads (ds := ntc A n c A2 n2 c2') rfl rfl rfl rfl rfl) ?_ rfl rfl; refine R_p rfl ?_ rfl rfl; refine R_p rfl ?_ rfl rfl)
      focus ((refine R_eff (E_hv0 (f := 25) ⟨_, Try.func25, rfl, by kernel_rfl⟩ (fun w hS => mend_bad w A c n P W hk hW ((Srd.old h (fun k _ => noOwns k)).rd w hS) A2 c2' n2 C hk2 ((Srd.old h2 (fun k _ => noOwns k)).rd w hS) (by omega) (by omega) a b 2 (.inr ⟨hch, by rw [hpr]; rfl, by decide⟩)) rfl rfl (fun _ => rfl)) ?_ rfl rfl; rintro _ _ ⟨_, rfl, _, rfl⟩); refine R_p rfl ?_ rfl rfl; refine R_p rfl ?_ rfl rfl; refine R_p rfl ?_ rfl rfl; (refine R_eff (E_alloca rfl nt_zero) ?_ rfl rfl; rintro _ _ ⟨b11, rfl, rfl⟩); (refine R_eff0 (E_storew (cs := ntc none 0 0 none 0 0) (ds := ntc none 0 0 none 0 0) rfl rfl rfl rfl (ntc_one _ _ _ _ _ _) rfl) ?_ rfl; rintro _ _ rfl); refine R_p rfl ?_ rfl rfl; refine R_nil ?_; refine S_seq rfl ?_; refine S_region rfl rfl ?_; refine R_p rfl ?_ rfl rfl; refine R_take (T_decF rfl (by omega)) ?_ rfl rfl; refine R_nil ?_; refine S_false rfl rfl ?_; refine S_skip rfl ?_; refine S_seq rfl ?_; refine S_region rfl rfl ?_; refine R_take (T_decT rfl (by omega)) ?_ rfl rfl; refine R_nil ?_)
      exact hB _ _ _ _ _ rfl rfl fun w' hS => ⟨(), rfl, trivial, hS.sublist (List.nil_sublist _)⟩
    · cases hq : partP C a b
      · skip
        have hch1 := chk_cutD (o := true) hch hpr
        have hpr1 := pairB_sw hpr
        have hq1 := part_cutD (o := true) hch hpr
        have hback : (cutD (cutD C a b true) b a false) = C := cut_back (o := true) hch hpr hq
        have hl1 := cutD_le C a b true
        have hl2 := cutD_le (cutD C a b true) b a false
        focus (refine S_false rfl rfl ?_; refine S_skip rfl ?_; refine S_seq rfl ?_; refine S_seq rfl ?_; refine S_region rfl rfl ?_; refine R_take (T_loads (ds := ntc A n c A2 n2 c2') rfl rfl rfl rfl rfl) ?_ rfl rfl; refine R_p rfl ?_ rfl rfl; refine R_p rfl ?_ rfl rfl; (refine R_eff (E_hvG (f := 24) ⟨_, Try.func24, rfl, by kernel_rfl⟩ (fun w hS => part_ok w A c n P W hk hW ((Srd.old h (fun k _ => noOwns k)).rd w hS) A2 c2' n2 C hk2 ((Srd.old h2 (fun k _ => noOwns k)).rd w hS) (by omega) (by omega) ((SDt.old hd (fun k _ => noOwns k)).rd w hS) hkk hch a b hpr hq) rfl rfl) ?_ rfl rfl; rintro _ _ ⟨⟨⟨A7, c7⟩, P7, ⟨B7, d7⟩⟩, rfl, _, rfl⟩; dsimp only [List.cons_append, List.nil_append]); refine R_p rfl ?_ rfl rfl; refine R_p rfl ?_ rfl rfl; refine R_p rfl ?_ rfl rfl; (refine R_eff (E_alloca rfl nt_zero) ?_ rfl rfl; rintro _ _ ⟨b7, rfl, rfl⟩); (refine R_eff0 (E_storew (cs := ntc none 0 0 none 0 0) (ds := ntc A7 n c7 B7 (cutD C a b true).length d7) rfl rfl rfl rfl (ntc_one _ _ _ _ _ _) rfl) ?_ rfl; rintro _ _ rfl); refine R_p rfl ?_ rfl rfl; refine R_nil ?_; refine S_seq rfl ?_; refine S_region rfl rfl ?_; refine R_p rfl ?_ rfl rfl; refine R_take (T_decT rfl (by omega)) ?_ rfl rfl; refine R_nil ?_; refine S_true rfl rfl ?_; refine S_seq rfl ?_; refine S_region rfl rfl ?_; refine R_take (T_loads (ds := ntc A7 n c7 B7 (cutD C a b true).length d7) rfl rfl rfl rfl rfl) ?_ rfl rfl; refine R_p rfl ?_ rfl rfl; refine R_p rfl ?_ rfl rfl)
        focus ((refine R_eff (E_hvG (f := 25) ⟨_, Try.func25, rfl, by kernel_rfl⟩ (fun w hS => mend_ok w A7 c7 n P7.1 W ((pk_len P7.2.1).trans hWn) P7.2.1 ((Srd.row (A := A7) (n := n) (c := c7)).rd w hS) B7 d7 (cutD C a b true).length (cutD C a b true) rfl ((Srd.row (A := B7) (n := (cutD C a b true).length) (c := d7)).rd w hS) (by omega) (by omega) ((SDt.own (e := 5) (D := P7.1.map pkd) (by simp)).rd w hS) (pk_txt P7.2.1 hWt) hch1 b a hpr1 hq1) rfl rfl) ?_ rfl rfl; rintro _ _ ⟨⟨⟨A9, c9⟩, P9, ⟨B9, d9⟩⟩, rfl, _, rfl⟩; dsimp only [List.cons_append, List.nil_append]); refine R_p rfl ?_ rfl rfl; refine R_p rfl ?_ rfl rfl; refine R_p rfl ?_ rfl rfl; (refine R_eff (E_alloca rfl nt_zero) ?_ rfl rfl; rintro _ _ ⟨b9, rfl, rfl⟩); (refine R_eff0 (E_storew (cs := ntc none 0 0 none 0 0) (ds := ntc A9 n c9 B9 (cutD (cutD C a b true) b a false).length d9) rfl rfl rfl rfl (ntc_one _ _ _ _ _ _) rfl) ?_ rfl; rintro _ _ rfl); refine R_p rfl ?_ rfl rfl; refine R_nil ?_; refine S_seq rfl ?_; refine S_region rfl rfl ?_; refine R_p rfl ?_ rfl rfl; refine R_take (T_decT rfl (by omega)) ?_ rfl rfl; refine R_take (T_decT rfl (by omega)) ?_ rfl rfl; refine R_take (T_loads (ds := ntc A n c A2 n2 c2') rfl rfl rfl rfl rfl) ?_ rfl rfl; refine R_take (T_loads (ds := ntc A9 n c9 B9 (cutD (cutD C a b true) b a false).length d9) rfl rfl rfl rfl rfl) ?_ rfl rfl)
        focus ((refine R_eff (E_hv0 (f := 21) ⟨_, Try.func21, rfl, by kernel_rfl⟩ (fun w hS => sameN_k w A c n P W hk hW ((Srd.old h (fun k _ => noOwns k)).rd w hS) A2 c2' n2 C hk2 ((Srd.old h2 (fun k _ => noOwns k)).rd w hS) A9 c9 n P9.1 W ((pk_len P9.2.1).trans hWn) P9.2.1 ((Srd.row (A := A9) (n := n) (c := c9)).rd w hS) B9 d9 (cutD (cutD C a b true) b a false).length (cutD (cutD C a b true) b a false) rfl ((Srd.row (A := B9) (n := (cutD (cutD C a b true) b a false).length) (c := d9)).rd w hS) (fun x hx => (Src.old (hp x hx) (fun k _ => noOwns k)).bs w hS) (fun m hm => dtB_bs (e := 5) (D := P9.1.map pkd) hS (by simp) (pkd m) (List.mem_map.2 ⟨m, hm, rfl⟩)) (by omega) (by omega) (by omega) (by omega) true (by rw [hback]; exact same_ttN _ _)) rfl rfl (fun _ => rfl)) ?_ rfl rfl; rintro _ _ ⟨_, rfl, _, rfl⟩); refine R_take (T_decT rfl (by omega)) ?_ rfl rfl; refine R_take (T_decT rfl (by omega)) ?_ rfl rfl; refine R_nil ?_)
        exact hB _ _ _ _ _ rfl rfl fun w' hS => ⟨(), rfl, trivial, hS.sublist (List.nil_sublist _)⟩
      · skip
        have hch1 := chk_cutD (o := false) hch hpr
        have hpr1 := pairB_sw hpr
        have hq1 := part_cutD (o := false) hch hpr
        have hback : (cutD (cutD C a b false) b a true) = C := cut_back (o := false) hch hpr hq
        have hl1 := cutD_le C a b false
        have hl2 := cutD_le (cutD C a b false) b a true
        focus (refine S_false rfl rfl ?_; refine S_skip rfl ?_; refine S_seq rfl ?_; refine S_seq rfl ?_; refine S_region rfl rfl ?_; refine R_take (T_loads (ds := ntc A n c A2 n2 c2') rfl rfl rfl rfl rfl) ?_ rfl rfl; refine R_p rfl ?_ rfl rfl; refine R_p rfl ?_ rfl rfl; (refine R_eff (E_hv0 (f := 24) ⟨_, Try.func24, rfl, by kernel_rfl⟩ (fun w hS => part_bad w A c n P W hk hW ((Srd.old h (fun k _ => noOwns k)).rd w hS) A2 c2' n2 C hk2 ((Srd.old h2 (fun k _ => noOwns k)).rd w hS) (by omega) (by omega) a b 5 (.inr ⟨hch, by rw [hpr, hq]; rfl, by decide⟩)) rfl rfl (fun _ => rfl)) ?_ rfl rfl; rintro _ _ ⟨_, rfl, _, rfl⟩); refine R_p rfl ?_ rfl rfl; refine R_p rfl ?_ rfl rfl; refine R_p rfl ?_ rfl rfl; (refine R_eff (E_alloca rfl nt_zero) ?_ rfl rfl; rintro _ _ ⟨b7, rfl, rfl⟩); (refine R_eff0 (E_storew (cs := ntc none 0 0 none 0 0) (ds := ntc none 0 0 none 0 0) rfl rfl rfl rfl (ntc_one _ _ _ _ _ _) rfl) ?_ rfl; rintro _ _ rfl); refine R_p rfl ?_ rfl rfl; refine R_nil ?_; refine S_seq rfl ?_; refine S_region rfl rfl ?_; refine R_p rfl ?_ rfl rfl; refine R_take (T_decF rfl (by omega)) ?_ rfl rfl; refine R_nil ?_; refine S_false rfl rfl ?_; refine S_skip rfl ?_; refine S_seq rfl ?_; refine S_seq rfl ?_; refine S_region rfl rfl ?_; refine R_take (T_loads (ds := ntc A n c A2 n2 c2') rfl rfl rfl rfl rfl) ?_ rfl rfl; refine R_p rfl ?_ rfl rfl; refine R_p rfl ?_ rfl rfl)
        focus ((refine R_eff (E_hvG (f := 25) ⟨_, Try.func25, rfl, by kernel_rfl⟩ (fun w hS => mend_ok w A c n P W hk hW ((Srd.old h (fun k _ => noOwns k)).rd w hS) A2 c2' n2 C hk2 ((Srd.old h2 (fun k _ => noOwns k)).rd w hS) (by omega) (by omega) ((SDt.old hd (fun k _ => noOwns k)).rd w hS) hkk hch a b hpr hq) rfl rfl) ?_ rfl rfl; rintro _ _ ⟨⟨⟨A7, c7⟩, P7, ⟨B7, d7⟩⟩, rfl, _, rfl⟩; dsimp only [List.cons_append, List.nil_append]); refine R_p rfl ?_ rfl rfl; refine R_p rfl ?_ rfl rfl; refine R_p rfl ?_ rfl rfl; (refine R_eff (E_alloca rfl nt_zero) ?_ rfl rfl; rintro _ _ ⟨b11, rfl, rfl⟩); (refine R_eff0 (E_storew (cs := ntc none 0 0 none 0 0) (ds := ntc A7 n c7 B7 (cutD C a b false).length d7) rfl rfl rfl rfl (ntc_one _ _ _ _ _ _) rfl) ?_ rfl; rintro _ _ rfl); refine R_p rfl ?_ rfl rfl; refine R_nil ?_; refine S_seq rfl ?_; refine S_region rfl rfl ?_; refine R_p rfl ?_ rfl rfl; refine R_take (T_decT rfl (by omega)) ?_ rfl rfl; refine R_nil ?_; refine S_true rfl rfl ?_; refine S_seq rfl ?_; refine S_region rfl rfl ?_; refine R_take (T_loads (ds := ntc A7 n c7 B7 (cutD C a b false).length d7) rfl rfl rfl rfl rfl) ?_ rfl rfl; refine R_p rfl ?_ rfl rfl; refine R_p rfl ?_ rfl rfl)
        focus ((refine R_eff (E_hvG (f := 24) ⟨_, Try.func24, rfl, by kernel_rfl⟩ (fun w hS => part_ok w A7 c7 n P7.1 W ((pk_len P7.2.1).trans hWn) P7.2.1 ((Srd.row (A := A7) (n := n) (c := c7)).rd w hS) B7 d7 (cutD C a b false).length (cutD C a b false) rfl ((Srd.row (A := B7) (n := (cutD C a b false).length) (c := d7)).rd w hS) (by omega) (by omega) ((SDt.own (e := 5) (D := P7.1.map pkd) (by simp)).rd w hS) (pk_txt P7.2.1 hWt) hch1 b a hpr1 hq1) rfl rfl) ?_ rfl rfl; rintro _ _ ⟨⟨⟨A9, c9⟩, P9, ⟨B9, d9⟩⟩, rfl, _, rfl⟩; dsimp only [List.cons_append, List.nil_append]); refine R_p rfl ?_ rfl rfl; refine R_p rfl ?_ rfl rfl; refine R_p rfl ?_ rfl rfl; (refine R_eff (E_alloca rfl nt_zero) ?_ rfl rfl; rintro _ _ ⟨b13, rfl, rfl⟩); (refine R_eff0 (E_storew (cs := ntc none 0 0 none 0 0) (ds := ntc A9 n c9 B9 (cutD (cutD C a b false) b a true).length d9) rfl rfl rfl rfl (ntc_one _ _ _ _ _ _) rfl) ?_ rfl; rintro _ _ rfl); refine R_p rfl ?_ rfl rfl; refine R_nil ?_; refine S_seq rfl ?_; refine S_region rfl rfl ?_; refine R_p rfl ?_ rfl rfl; refine R_take (T_decT rfl (by omega)) ?_ rfl rfl; refine R_take (T_decT rfl (by omega)) ?_ rfl rfl; refine R_take (T_loads (ds := ntc A n c A2 n2 c2') rfl rfl rfl rfl rfl) ?_ rfl rfl; refine R_take (T_loads (ds := ntc A9 n c9 B9 (cutD (cutD C a b false) b a true).length d9) rfl rfl rfl rfl rfl) ?_ rfl rfl)
        focus ((refine R_eff (E_hv0 (f := 21) ⟨_, Try.func21, rfl, by kernel_rfl⟩ (fun w hS => sameN_k w A c n P W hk hW ((Srd.old h (fun k _ => noOwns k)).rd w hS) A2 c2' n2 C hk2 ((Srd.old h2 (fun k _ => noOwns k)).rd w hS) A9 c9 n P9.1 W ((pk_len P9.2.1).trans hWn) P9.2.1 ((Srd.row (A := A9) (n := n) (c := c9)).rd w hS) B9 d9 (cutD (cutD C a b false) b a true).length (cutD (cutD C a b false) b a true) rfl ((Srd.row (A := B9) (n := (cutD (cutD C a b false) b a true).length) (c := d9)).rd w hS) (fun x hx => (Src.old (hp x hx) (fun k _ => noOwns k)).bs w hS) (fun m hm => dtB_bs (e := 5) (D := P9.1.map pkd) hS (by simp) (pkd m) (List.mem_map.2 ⟨m, hm, rfl⟩)) (by omega) (by omega) (by omega) (by omega) true (by rw [hback]; exact same_ttN _ _)) rfl rfl (fun _ => rfl)) ?_ rfl rfl; rintro _ _ ⟨_, rfl, _, rfl⟩); refine R_take (T_decT rfl (by omega)) ?_ rfl rfl; refine R_take (T_decT rfl (by omega)) ?_ rfl rfl; refine R_nil ?_)
        exact hB _ _ _ _ _ rfl rfl fun w' hS => ⟨(), rfl, trivial, hS.sublist (List.nil_sublist _)⟩
set_option maxRecDepth 100000 in
theorem NetBack_open {H : Type} {enc : TypeId × Value → H} (W : World) {r : Reach} (base : Nat) (v0 v1 v2 : Value) {d0 d1 d2 : DataW H} {p0 p1 p2 : List MemPlace}
    (hv0 : Value.okWide Try.prog W r base 25 v0) (hv1 : Value.okWide Try.prog W r base 3 v1) (hv2 : Value.okWide Try.prog W r base 3 v2)
    (h0 : DataW.Trod enc Try.prog W 0 (fun _ => true) true 25 v0 d0 p0) (h1 : DataW.Trod enc Try.prog W 0 (fun _ => true) true 3 v1 d1 p1) (h2 : DataW.Trod enc Try.prog W 0 (fun _ => true) true 3 v2 d2 p2) :
    Calls Try.prog 7 #[v0, v1, v2] W fun e w' => e = .returned (.bool true) ∧ Kp All W w' := by
  obtain ⟨A, c, P, A2, c2', C, rfl, g1, g2, g3, g4, g5, g6⟩ := open_net hv0 h0
  obtain ⟨z, rfl⟩ := okWide_int Try.underlying3 hv1
  obtain ⟨y, rfl⟩ := okWide_int Try.underlying3 hv2
  exact (back_any W A c P.length P (P.map pkv) rfl rfl g1 A2 c2' C.length C rfl g2 g3 g4 g5 g6 z y).pure12
end Go.Proofs.Ytclmaoagdkhboaa
