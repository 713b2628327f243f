/- The statement PathmapGets: what maps have at paths, and the paths of maps, are the document's. -/
import Derived.Test.YtebbnbddlnpldaaPmS
import Derived.Test.YtebbnbddlnpldaaPmP
namespace Go.Proofs.Ytebbnbddlnpldaa
open Go.RowKit Go.ChangeShapes Go.WideShapes Go.ChangeAt
open Asn (pt row rb)
set_option linter.unusedVariables false
set_option linter.unusedSimpArgs false
--@use N

theorem sl_le {a b : Str} (h : a ≤ b) (h2 : a ≠ b) : a < b := by
  rcases sl_tri a b with h3 | h3 | h3
  · exact h3
  · exact absurd h3 h2
  · exact absurd h3 (List.not_lt.2 h)
theorem srtS_pw (l : List Str) : (srtS l).Pairwise (fun x y => x ≤ y) := by
  have := List.pairwise_mergeSort (le := fun x y : Str => decide (x ≤ y)) (fun a b c h1 h2 => by simp at *; exact List.le_trans h1 h2) (fun a b => by
    simp only [Bool.or_eq_true, decide_eq_true_eq]
    rcases sl_tri a b with h | h | h
    · exact .inl (List.le_of_lt h)
    · exact .inl (h ▸ List.le_refl _)
    · exact .inr (List.le_of_lt h)) l
  exact this.imp (by simp)
theorem srtS_mem (l : List Str) (x : Str) : x ∈ srtS l ↔ x ∈ l := by rw [srtS, List.mem_mergeSort]
theorem compact_pw {zs : List Str} (h : zs.Pairwise (fun x y => x ≤ y)) : Srt id (Lib.compact zs) := by
  unfold Srt Lib.compact Lib.compactUpTo
  rw [List.pairwise_map]
  have h1 : ((List.range zs.length).filter (Lib.keeps zs.toArray)).Pairwise (fun a b => a < b ∧ Lib.keeps zs.toArray b = true ∧ b < zs.length) := by
    rw [List.pairwise_filter]
    refine (List.pairwise_lt_range (n := zs.length)).imp_of_mem fun {a b} ha hb hlt h1 h2 => ⟨hlt, h2, List.mem_range.1 hb⟩
  refine h1.imp fun {a b} ⟨hab, hk, hb⟩ => ?_
  have hle := fun i j (hi : i < j) (hj : j < zs.length) => List.pairwise_iff_getElem.1 h i j (by omega) hj hi
  have e : ∀ i (hi : i < zs.length), zs.toArray[i]! = zs[i] := fun i hi => by simp [hi]
  simp only [id]
  rw [e a (by omega), e b hb]
  have hk : zs[b] ≠ zs[b - 1] := by
    have : b = 0 ∨ zs.toArray[b]! ≠ zs.toArray[b - 1]! := by simpa [Lib.keeps] using hk
    rcases this with h0 | h0
    · omega
    · rwa [e b hb, e (b - 1) (by omega)] at h0
  have h2 : zs[b - 1] < zs[b] := sl_le (hle (b - 1) b (by omega) hb) hk.symm
  by_cases hab2 : a = b - 1
  · subst hab2; exact h2
  · exact List.lt_of_le_of_lt (hle a (b - 1) (by omega) (by omega)) h2
theorem compact_mem {zs : List Str} (x : Str) : x ∈ Lib.compact zs ↔ x ∈ zs := by
  unfold Lib.compact Lib.compactUpTo
  rw [List.mem_map]
  have e : ∀ i (hi : i < zs.length), zs.toArray[i]! = zs[i] := fun i hi => by simp [hi]
  constructor
  · rintro ⟨i, hi, rfl⟩
    have hi := List.mem_range.1 (List.mem_filter.1 hi).1
    rw [e i hi]
    exact List.getElem_mem hi
  · intro hx
    have key : ∀ i, (hi : i < zs.length) → zs[i] = x → ∃ a, a ∈ (List.range zs.length).filter (Lib.keeps zs.toArray) ∧ zs.toArray[a]! = x := fun i => by
      induction i with
      | zero => exact fun hi hx => ⟨0, List.mem_filter.2 ⟨List.mem_range.2 hi, by simp [Lib.keeps]⟩, by rw [e 0 hi, hx]⟩
      | succ i ih =>
        intro hi hx
        by_cases hk : zs[i] = x
        · exact ih (by omega) hk
        · refine ⟨i + 1, List.mem_filter.2 ⟨List.mem_range.2 hi, ?_⟩, by rw [e _ hi, hx]⟩
          simp only [Lib.keeps, decide_eq_true_eq, Nat.add_sub_cancel]
          right
          rw [e _ hi, e i (by omega), hx]
          exact fun e2 => hk e2.symm
    obtain ⟨i, hi, h2⟩ := List.getElem_of_mem hx
    exact key i hi h2
theorem pathsP_srt (ms : List Mp) : Srt id (pathsP ms) := compact_pw (srtS_pw _)
theorem pathsP_mem (ms : List Mp) (x : Str) : x ∈ pathsP ms ↔ x ∈ keysM ms := by rw [pathsP, compact_mem, srtS_mem]
theorem pathsP_two (A A2 : Option Addr) (c c2 : Nat) (L M : List Rw) : pathsP [(A, c, L), (A2, c2, M)] = allD L M := by
  refine srt_ext (k := id) (pathsP_srt _) (allD_srt L M) fun x => ?_
  rw [pathsP_mem, allD, paths_mem, paths_mem]
  simp [keysM]
theorem pathsP_none : pathsP [] = [] := by
  cases h : pathsP [] with
  | nil => rfl
  | cons x l =>
    have := (pathsP_mem [] x).1 (by rw [h]; simp)
    simp [keysM] at this
theorem rd_none1 (w : World) : Rd w All 1 none 0 (List.map mpv []) := Rd.none_
set_option maxRecDepth 100000 in
set_option maxHeartbeats 4000000 in
theorem gets_any (w : World) (A A2 : Option Addr) (n c n2 c2 : Nat) (L M : List Rw) (p : Str) (h : Rd w All 2 A n (cellsL rwc L)) (h2 : Rd w All 2 A2 n2 (cellsL rwc M)) :
    Gives Try.prog 7 [.agg #[.slice A n c], .agg #[.slice A2 n2 c2], sv p] [] w (X := Unit) (fun _ => .bool true) (fun _ => True) (fun _ => []) := by
  refine gives_S Try.func7 rfl Try.ntmps7 Try.results7 (by simp) (St.enter w) (fun B hB => ?_)
  have hl : L.length = n := by have := h.1; rw [cellsL_len rwc_len] at this; omega
  have hl2 : M.length = n2 := by have := h2.1; rw [cellsL_len rwc_len] at this; omega
  subst hl
  subst hl2
  focus (refine S_seq rfl ?_; refine S_region rfl rfl ?_; (refine R_eff (E_boxa (cs := [.slice A L.length c]) rfl) ?_ rfl rfl; rintro _ _ ⟨b2, rfl, rfl⟩); (refine R_eff (E_boxa (cs := [.slice A2 M.length c2]) rfl) ?_ rfl rfl; rintro _ _ ⟨b3, rfl, rfl⟩); refine R_p rfl ?_ rfl rfl; refine R_nil ?_; refine S_seq rfl ?_; refine S_seq rfl ?_; refine S_region rfl rfl ?_; (refine R_eff (E_gv0 (f := 9) ⟨_, Try.func9, rfl, by kernel_rfl⟩ rfl (fun w hS => wakes_any w) (fun _ => rfl)) ?_ rfl rfl; rintro _ _ ⟨_, rfl, _, rfl⟩); refine R_take (T_not rfl) ?_ rfl rfl; refine R_nil ?_; refine S_false rfl rfl ?_; refine S_skip rfl ?_; refine S_seq rfl ?_; refine S_seq rfl ?_; refine S_region rfl rfl ?_; refine R_take (T_loada (ds := [.slice A L.length c]) rfl rfl rfl rfl (fun j v h => by simpa using h)) ?_ rfl rfl; refine R_take (T_build0 ed_built0) ?_ rfl rfl; ((refine R_eff (E_hv0 (f := 10) ⟨_, Try.func10, rfl, by kernel_rfl⟩ (fun w hS => large_any w A none L.length c 0 0 L [] ((Srd.old h (fun k _ => noOwns k)).rd w hS) (rd_nil3 w)) rfl rfl (fun _ => rfl)) ?_ rfl rfl; rintro _ _ ⟨bg, rfl, hbg, rfl⟩); cases bg); refine R_p rfl ?_ rfl rfl; refine R_take (T_loada (ds := [.slice A2 M.length c2]) rfl rfl rfl rfl (fun j v h => by simpa using h)) ?_ rfl rfl; refine R_take (T_build0 ed_built0) ?_ rfl rfl; ((refine R_eff (E_hv0 (f := 10) ⟨_, Try.func10, rfl, by kernel_rfl⟩ (fun w hS => large_any w A2 none M.length c2 0 0 M [] ((Srd.old h2 (fun k _ => noOwns k)).rd w hS) (rd_nil3 w)) rfl rfl (fun _ => rfl)) ?_ rfl rfl; rintro _ _ ⟨bh, rfl, hbh, rfl⟩); cases bh); refine R_p rfl ?_ rfl rfl; refine R_nil ?_; refine S_false rfl rfl ?_; refine S_skip rfl ?_; refine S_seq rfl ?_; refine S_region rfl rfl ?_; refine R_take (T_loada (ds := [.slice A L.length c]) rfl rfl rfl rfl (fun j v h => by simpa using h)) ?_ rfl rfl; rotate_left; refine R_p rfl ?_ rfl rfl; refine R_nil ?_; refine S_true rfl rfl ?_; refine S_seq rfl ?_; refine S_region rfl rfl ?_; refine R_p rfl ?_ rfl rfl; refine R_nil ?_; rotate_left; refine R_p rfl ?_ rfl rfl; refine R_skip ?_ rfl rfl; refine R_skip ?_ rfl rfl; refine R_skip ?_ rfl rfl; refine R_p rfl ?_ rfl rfl; refine R_nil ?_; refine S_true rfl rfl ?_; refine S_seq rfl ?_; refine S_region rfl rfl ?_; refine R_p rfl ?_ rfl rfl; refine R_nil ?_; rotate_left)
  rotate_left
  · exact hB _ _ _ _ _ rfl rfl fun w' hS => ⟨(), rfl, trivial, hS.sublist (List.nil_sublist _)⟩
  · exact hB _ _ _ _ _ rfl rfl fun w' hS => ⟨(), rfl, trivial, hS.sublist (List.nil_sublist _)⟩
  obtain ⟨⟨hL1, hL2⟩, _⟩ := hbg rfl
  obtain ⟨⟨hM1, hM2⟩, _⟩ := hbh rfl
  obtain ⟨o, ho⟩ : ∃ o, fstK (·.1) L p = o := ⟨_, rfl⟩
  have hP2 := fun A A2 c c2 => pathsP_two A A2 c c2 L M
  have hl0 := paths_len [] (L.map (·.1))
  have hs0 := paths_srt (l := []) List.Pairwise.nil (L.map (·.1))
  rw [List.length_map, List.length_nil] at hl0
  obtain ⟨P0, hP0⟩ : ∃ P0, pathsS [] (L.map (·.1)) = P0 := ⟨_, rfl⟩
  have hall : allD L M = pathsS P0 (M.map (·.1)) := by rw [allD, hP0]
  have hl1 := paths_len P0 (M.map (·.1))
  rw [List.length_map, ← hall] at hl1
  rw [hP0] at hl0 hs0
  obtain ⟨l, hl⟩ : ∃ l, allD L M = l := ⟨_, rfl⟩
  rw [hl] at hl1 hall hP2
  focus ((refine R_eff (E_hv1 (f := 12) ⟨_, Try.func12, rfl, by kernel_rfl⟩ (fun w hS => copied_any w A L.length c L ((Srd.old h (fun k _ => noOwns k)).rd w hS) (by omega)) rfl rfl (fun _ => rfl)) ?_ rfl rfl; rintro _ _ ⟨⟨A5, c5⟩, rfl, _, rfl⟩); refine R_p rfl ?_ rfl rfl; (refine R_eff (E_getW (L := L) (p := p) (m := L.length) (c := c5) (A := A5) rfl rfl (Srd.row (n := L.length) (c := c5)) (by omega) ho) ?_ rfl rfl; rintro _ _ ⟨rfl, rfl⟩); refine R_p rfl ?_ rfl rfl; refine R_p rfl ?_ rfl rfl; refine R_p rfl ?_ rfl rfl; refine R_p rfl ?_ rfl rfl; refine R_p rfl ?_ rfl rfl; refine R_nil ?_; refine S_seq rfl ?_; refine S_region rfl rfl ?_; refine R_take (T_loada (ds := [.slice A L.length c]) rfl rfl rfl rfl (fun j v h => by simpa using h)) ?_ rfl rfl; refine R_p rfl ?_ rfl rfl; (refine R_eff (E_rgetW (L := L) (p := p) (m := L.length) (c := c) (A := A) rfl rfl (Srd.old h (fun k _ => noOwns k)) (by omega) ho) ?_ rfl rfl; rintro _ _ ⟨rfl, rfl⟩); refine R_p rfl ?_ rfl rfl; refine R_p rfl ?_ rfl rfl; refine R_p rfl ?_ rfl rfl; refine R_p rfl ?_ rfl rfl; refine R_p rfl ?_ rfl rfl; refine R_nil ?_; refine S_seq rfl ?_)
  refine S_cut (X := Option Addr × Nat) (fun x => [(2, sv p), (3, .pointer (some ⟨b2, 0, none⟩)), (4, .pointer (some ⟨b3, 0, none⟩)), (7, sv (gt o)), (8, .bool o.isSome), (9, sv (gt o)), (10, .bool o.isSome), (11, .slice x.1 l.length x.2)]) (fun x => [row 9 1 x.1 l.length x.2 (l.map sv), pt b3 24 [.slice A2 M.length c2], pt b2 24 [.slice A L.length c]]) (fun _ => True) (fun J hJ => ?_) (fun x _ => ?_)
  · skip
    refine S_draw ([pt b3 24 [.slice A2 M.length c2], pt b2 24 [.slice A L.length c]]) sub_st (by kernel_rfl) rfl (by kernel_rfl) (by kernel_rfl : _ = 7) ?_
    refine D_take 0 rfl (T_loada (ds := [.slice A L.length c]) rfl rfl rfl rfl (fun j v h => by simpa using h)) ?_ rfl rfl (by kernel_rfl) (by kernel_rfl)
    refine D_take 2 rfl (T_loada (ds := [.slice A2 M.length c2]) rfl rfl rfl rfl (fun j v h => by simpa using h)) ?_ rfl rfl (by kernel_rfl) (by kernel_rfl)
    refine D_one 1 rfl (E_hv1 ⟨_, Try.func12, rfl, by kernel_rfl⟩ (fun w hS => copied_any w A L.length c L ((Srd.old h (fun k _ => noOwns k)).rd w hS) (by omega)) rfl rfl (fun _ => rfl)) ?_ rfl rfl (by kernel_rfl)
    rintro _ _ ⟨⟨A3, c3⟩, rfl, _, rfl⟩
    refine Nx_same sub_st ?_
    refine D_one 3 rfl (E_hv1 ⟨_, Try.func12, rfl, by kernel_rfl⟩ (fun w hS => copied_any w A2 M.length c2 M ((Srd.old h2 (fun k _ => noOwns k)).rd w hS) (by omega)) rfl rfl (fun _ => rfl)) ?_ rfl rfl (by kernel_rfl)
    rintro _ _ ⟨⟨A4, c4⟩, rfl, _, rfl⟩
    refine Nx_same sub_st ?_
    refine D_one 4 rfl (E_litS (vs := [.agg #[.slice A3 L.length c3], .agg #[.slice A4 M.length c4]]) (size := 1) (ds := [.slice A3 L.length c3, .slice A4 M.length c4]) rfl rfl rfl rfl rfl rfl (by simp [vcells]) rfl (by omega)) ?_ rfl rfl (by kernel_rfl)
    rintro _ _ ⟨vb, rfl, rfl⟩
    refine Nx_same sub_st ?_
    refine D_one 5 rfl (E_hv1 ⟨_, Try.func27, rfl, by kernel_rfl⟩ (fun w hS => paths_any w (some ⟨vb, 0, none⟩) 2 2 [(A3, c3, L), (A4, c4, M)] ((Srd.pt (g := vb) (n := 2) (size := 1) (off := 0) (ds := [.slice A3 L.length c3, .slice A4 M.length c4]) rfl (fun j u hj => by rw [Nat.zero_add]; exact hj)).rd w hS) (fun m hm => by rcases List.mem_cons.1 hm with rfl | hm; exact (Srd.row (n := L.length) (c := c3)).rd w hS; rcases List.mem_cons.1 hm with rfl | hm; exact (Srd.row (n := M.length) (c := c4)).rd w hS; cases hm) (by omega) (by simp [keysM]; omega)) rfl rfl (fun _ => rfl)) ?_ rfl rfl (by kernel_rfl)
    rintro _ _ ⟨⟨A11, c11⟩, rfl, _, rfl⟩; rw [hP2]
    refine Nx_same sub_st ?_
    refine D_take 6 rfl (pev_ok rfl) ?_ rfl rfl (by kernel_rfl) (by kernel_rfl)
    refine D_done ?_ (by kernel_rfl)
    exact hJ (A11, c11) _ _ trivial (Sub.cons rfl (Sub.cons rfl (Sub.cons rfl (Sub.cons rfl (Sub.cons rfl (Sub.cons rfl (Sub.cons rfl (Sub.cons rfl Sub.nil)))))))) sub_st
  obtain ⟨A11, c11⟩ := x
  dsimp only
  refine S_seq rfl ?_
  refine S_cut (X := Option Addr × Nat) (fun x => [(2, sv p), (3, .pointer (some ⟨b2, 0, none⟩)), (4, .pointer (some ⟨b3, 0, none⟩)), (7, sv (gt o)), (8, .bool o.isSome), (9, sv (gt o)), (10, .bool o.isSome), (11, .slice A11 l.length c11), (12, .slice x.1 l.length x.2)]) (fun x => [row 9 1 x.1 l.length x.2 (l.map sv), row 9 1 A11 l.length c11 (l.map sv), pt b3 24 [.slice A2 M.length c2], pt b2 24 [.slice A L.length c]]) (fun _ => True) (fun J hJ => ?_) (fun x _ => ?_)
  · skip
    refine S_draw ([pt b3 24 [.slice A2 M.length c2], pt b2 24 [.slice A L.length c]]) sub_st (by kernel_rfl) rfl (by kernel_rfl) (by kernel_rfl : _ = 5) ?_
    refine D_take 0 rfl (T_loada (ds := [.slice A L.length c]) rfl rfl rfl rfl (fun j v h => by simpa using h)) ?_ rfl rfl (by kernel_rfl) (by kernel_rfl)
    refine D_take 2 rfl (T_loada (ds := [.slice A2 M.length c2]) rfl rfl rfl rfl (fun j v h => by simpa using h)) ?_ rfl rfl (by kernel_rfl) (by kernel_rfl)
    refine D_one 1 rfl (E_rpaths0 (L := L) (fun k => noOwns k) rfl rfl h (by omega)) ?_ rfl rfl (by kernel_rfl)
    rintro _ _ ⟨A5, c5, rfl, rfl⟩; rw [hP0]
    refine Nx_same sub_st ?_
    refine D_one 3 rfl (E_ht1 (A1 := row 9 1 A5 P0.length c5 (P0.map sv)) ⟨_, Try.func28, rfl, by kernel_rfl⟩ (fun w hS hS2 => rpaths_any w A5 A2 P0.length c5 M.length c2 P0 M hs0 (rd_apart h2 (by decide) (fun k => noOwns k) hS) (by omega) hS2) rfl rfl (fun _ => rfl)) ?_ rfl rfl (by kernel_rfl)
    rintro _ _ ⟨⟨A6, c6⟩, rfl, _, rfl⟩; rw [← hall]
    refine Nx_same sub_st ?_
    refine D_take 4 rfl (pev_ok rfl) ?_ rfl rfl (by kernel_rfl) (by kernel_rfl)
    refine D_done ?_ (by kernel_rfl)
    exact hJ (A6, c6) _ _ trivial (Sub.cons rfl (Sub.cons rfl (Sub.cons rfl (Sub.cons rfl (Sub.cons rfl (Sub.cons rfl (Sub.cons rfl (Sub.cons rfl (Sub.cons rfl Sub.nil))))))))) sub_st
  obtain ⟨A12, c12⟩ := x
  dsimp only
  have hlen : l.length ≤ 400 := by omega
  clear hall hl hl0 hs0 hP0 hP2
  have hcm : scmp .neq (gt o) (gt o) = some false := by simp [scmp]
  refine RS_row A12 l.length c12 fun _ _ hne12 _ => ?_
  refine RS_row A11 l.length c11 fun _ _ hne11 _ => ?_
  focus (refine S_seq rfl ?_; refine S_seq rfl ?_; refine S_region rfl rfl ?_; refine R_p rfl ?_ rfl rfl; refine R_p rfl ?_ rfl rfl; refine R_take (T_scm (a := gt o) (b := gt o) rfl rfl hcm) ?_ rfl rfl; refine R_p rfl ?_ rfl rfl; refine R_p rfl ?_ rfl rfl; refine R_p rfl ?_ rfl rfl; refine R_take (T_bnes rfl rfl rfl rfl) ?_ rfl rfl; refine R_p rfl ?_ rfl rfl; refine R_p rfl ?_ rfl rfl; refine R_p rfl ?_ rfl rfl; refine R_p rfl ?_ rfl rfl; refine R_p rfl ?_ rfl rfl; refine R_p rfl ?_ rfl rfl; refine R_take (T_decF rfl (by omega)) ?_ rfl rfl; refine R_p rfl ?_ rfl rfl; refine R_p rfl ?_ rfl rfl; (refine R_eff (E_hv1 ⟨_, Try.func27, rfl, by kernel_rfl⟩ (fun w hS => paths_any w none 0 0 [] (rd_none1 w) (fun m hm => by cases hm) (by omega) (by simp [keysM])) rfl rfl (fun _ => rfl)) ?_ rfl rfl; rintro _ _ ⟨⟨A13, c13⟩, rfl, _, rfl⟩; rw [pathsP_none]); refine R_p rfl ?_ rfl rfl; refine R_p rfl ?_ rfl rfl; refine R_p rfl ?_ rfl rfl; refine R_nil ?_; refine S_false rfl rfl ?_; refine S_skip rfl ?_; refine S_seq rfl ?_; refine S_seq rfl ?_; refine S_region rfl rfl ?_; refine R_p rfl ?_ rfl rfl; refine R_p rfl ?_ rfl rfl; refine R_p rfl ?_ rfl rfl; refine R_nil ?_; refine S_block rfl ?_)
  refine S_loop (X := Nat) (fun x => [(11, .slice A11 l.length c11), (12, .slice A12 l.length c12), (68, .int .i64 (l.length : Int)), (69, .int .i64 (x : Int))]) (fun x => [row 9 1 A12 l.length c12 (l.map sv), row 9 1 A11 l.length c11 (l.map sv)]) (fun x => x ≤ l.length) (fun x => l.length - x) rfl 0 (Nat.zero_le _) (Sub.cons rfl (Sub.cons rfl (Sub.cons rfl (Sub.cons rfl Sub.nil)))) sub_st ?_
  rintro j hj J hJ
  rcases Nat.lt_or_ge j l.length with hjl | hjl
  · have hne11 := hne11 (by omega)
    have hne12 := hne12 (by omega)
    obtain ⟨s, hs⟩ : ∃ p, l.getD j [] = p := ⟨_, rfl⟩
    have hat := sv_at hjl hs
    have hcs : scmp .neq s s = some false := by simp [scmp]
    focus (refine S_seq rfl ?_; refine S_region rfl rfl ?_; refine R_take (T_decT rfl (by omega)) ?_ rfl rfl; refine R_nil ?_; refine S_seq rfl ?_; refine S_true rfl rfl ?_; refine S_skip rfl ?_; refine S_seq rfl ?_; refine S_block rfl ?_; refine S_seq rfl ?_; refine S_region rfl rfl ?_; refine R_p rfl ?_ rfl rfl; refine R_p rfl ?_ rfl rfl; refine R_nil ?_; refine S_seq rfl ?_; (refine S_draw _ (fun _ h => h) (by kernel_rfl) rfl (by kernel_rfl) (rfl : _ = 9) ?_; (refine D_take 0 rfl (pev_ok rfl) ?_ rfl rfl (by kernel_rfl) (by kernel_rfl)); (refine D_take 1 rfl (pev_ok rfl) ?_ rfl rfl (by kernel_rfl) (by kernel_rfl)); (refine D_take 2 rfl (T_ixN rfl rfl rfl rfl rfl rfl hne11 hjl) ?_ rfl rfl (by kernel_rfl) (by kernel_rfl)); (refine D_take 3 rfl (T_ldr rfl rfl rfl (Srd.row (A := A11) (n := l.length) (c := c11)) (by omega) hat) ?_ rfl rfl (by kernel_rfl) (by kernel_rfl)); (refine D_take 4 rfl (pev_ok rfl) ?_ rfl rfl (by kernel_rfl) (by kernel_rfl)); (refine D_take 5 rfl (pev_ok rfl) ?_ rfl rfl (by kernel_rfl) (by kernel_rfl)); (refine D_take 6 rfl (T_ixN rfl rfl rfl rfl rfl rfl hne12 hjl) ?_ rfl rfl (by kernel_rfl) (by kernel_rfl)); (refine D_take 7 rfl (T_ldr rfl rfl rfl (Srd.row (A := A12) (n := l.length) (c := c12)) (by omega) hat) ?_ rfl rfl (by kernel_rfl) (by kernel_rfl)); (refine D_take 8 rfl (T_scm (a := s) (b := s) rfl rfl hcs) ?_ rfl rfl (by kernel_rfl) (by kernel_rfl)); refine D_done ?_ (by kernel_rfl)); refine S_false rfl rfl ?_; refine S_skip rfl ?_; refine RS_blk ?_; refine S_region rfl rfl ?_; refine R_take (T_addN rfl rfl (by unfold fits; omega)) ?_ rfl rfl; refine R_p rfl ?_ rfl rfl; refine R_nil ?_)
    exact hJ (j + 1) _ _ (by show j + 1 ≤ _; omega) (Sub.cons rfl (Sub.cons rfl (Sub.cons rfl (Sub.cons rfl Sub.nil)))) sub_st (by omega)
  focus (refine S_seq rfl ?_; refine S_region rfl rfl ?_; refine R_take (T_decF rfl (by omega)) ?_ rfl rfl; refine R_nil ?_; refine S_seq rfl ?_; refine S_false rfl rfl ?_; refine S_exit rfl rfl ?_; refine S_seq rfl ?_; refine S_region rfl rfl ?_; refine R_p rfl ?_ rfl rfl; refine R_nil ?_)
  exact hB _ _ _ _ _ rfl rfl fun w' hS => ⟨(), rfl, trivial, hS.sublist (List.nil_sublist _)⟩
set_option maxRecDepth 100000 in
theorem PathmapGets_open {H : Type} {enc : TypeId × Value → H} (W : World) {r : Reach} (base : Nat) (v0 v1 v2 : Value) {d0 d1 d2 : DataW H} {p0 p1 p2 : List MemPlace}
    (hv0 : Value.okWide Try.prog W r base 24 v0) (hv1 : Value.okWide Try.prog W r base 24 v1) (hv2 : Value.okWide Try.prog W r base 9 v2)
    (h0 : DataW.Trod enc Try.prog W 0 (fun _ => true) true 24 v0 d0 p0) (h1 : DataW.Trod enc Try.prog W 0 (fun _ => true) true 24 v1 d1 p1) (h2 : DataW.Trod enc Try.prog W 0 (fun _ => true) true 9 v2 d2 p2) :
    Calls Try.prog 7 #[v0, v1, v2] W fun e W' => e = .returned (.bool true) ∧ Kp All W W' := by
  obtain ⟨A, n, c, L, rfl, _, _, g⟩ := open_map hv0 h0
  obtain ⟨A2, n2, c2', M, rfl, _, _, g2⟩ := open_map hv1 h1
  obtain ⟨s, rfl, _, _, _⟩ := Go.ChangeMaps.open_string Try.underlying9 hv2 h2
  have e : Value.string s = sv s.data.toList := by simp [sv]
  rw [e]
  exact (gets_any W A A2 n c n2 c2' L M s.data.toList g g2).pure
end Go.Proofs.Ytebbnbddlnpldaa
