/- Nets: plain laws of a change of cuts. -/
import Derived.Test.YtclmaoagdkhboaaNtL
namespace Go.Proofs.Ytclmaoagdkhboaa
open Go.RowKit Go.ChangeShapes Go.WideShapes Go.ChangeAt
open Asn (pt row rb)
set_option linter.unusedVariables false
set_option linter.unusedSimpArgs false
--@use N

abbrev SrtC (C : List Ct) : Prop := C.Pairwise fun x y => keyC x < keyC y
theorem srt_ext : ∀ {L M : List Ct}, SrtC L → SrtC M → (∀ c, c ∈ L ↔ c ∈ M) → L = M := by
  intro L
  induction L with
  | nil =>
    intro M _ _ h
    cases M with
    | nil => rfl
    | cons y M => exact absurd ((h y).2 (List.mem_cons_self ..)) (by simp)
  | cons x L ih =>
    intro M hL hM h
    cases M with
    | nil => exact absurd ((h x).1 (List.mem_cons_self ..)) (by simp)
    | cons y M =>
      have hL := List.pairwise_cons.1 hL
      have hM := List.pairwise_cons.1 hM
      have hxy : x = y := by
        rcases List.mem_cons.1 ((h x).1 (List.mem_cons_self ..)) with h1 | h1
        · exact h1
        rcases List.mem_cons.1 ((h y).2 (List.mem_cons_self ..)) with h2 | h2
        · exact h2.symm
        have h3 := hM.1 x h1
        have h4 := hL.1 y h2
        omega
      subst hxy
      rw [ih hL.2 hM.2 fun c => ⟨fun hc => ?_, fun hc => ?_⟩]
      · rcases List.mem_cons.1 ((h c).1 (List.mem_cons_of_mem _ hc)) with h1 | h1
        · rw [h1] at hc
          exact absurd (hL.1 x hc) (Int.lt_irrefl _)
        · exact h1
      · rcases List.mem_cons.1 ((h c).2 (List.mem_cons_of_mem _ hc)) with h1 | h1
        · rw [h1] at hc
          exact absurd (hM.1 x hc) (Int.lt_irrefl _)
        · exact h1
theorem srt_split {C : List Ct} (z : Int) (h : SrtC C) : C = C.filter (fun c => decide (keyC c < z)) ++ C.filter (fun c => !decide (keyC c < z)) := by
  induction C with
  | nil => rfl
  | cons x C ih =>
    rw [SrtC, List.pairwise_cons] at h
    have ih := ih h.2
    by_cases hx : keyC x < z
    · have e1 : (x :: C).filter (fun c => decide (keyC c < z)) = x :: C.filter (fun c => decide (keyC c < z)) := List.filter_cons_of_pos (decide_eq_true hx)
      have e2 : (x :: C).filter (fun c => !decide (keyC c < z)) = C.filter (fun c => !decide (keyC c < z)) := List.filter_cons_of_neg (by simp [hx])
      rw [e1, e2, List.cons_append, ← ih]
    · have e1 : (x :: C).filter (fun c => decide (keyC c < z)) = [] := by
        rw [List.filter_eq_nil_iff]
        intro c hc
        rw [decide_eq_true_eq]
        rcases List.mem_cons.1 hc with h1 | h1
        · rw [h1]; exact hx
        · have := h.1 c h1
          omega
      have e2 : (x :: C).filter (fun c => !decide (keyC c < z)) = x :: C := by
        rw [List.filter_eq_self]
        intro c hc
        rcases List.mem_cons.1 hc with h1 | h1
        · rw [h1]; simp [hx]
        · have := h.1 c h1
          simp; omega
      rw [e1, e2, List.nil_append]
theorem pairs_srt : SrtC pairsL := by unfold SrtC; decide +kernel
theorem pairs_ok : ∀ c ∈ pairsL, 1 ≤ c.1 ∧ c.1 < c.2 ∧ c.2 ≤ 8 := by decide +kernel
theorem pairs_fin : ∀ i : Fin 9, ∀ j : Fin 9, 1 ≤ i.val → i.val < j.val → ((i.val : Int), (j.val : Int)) ∈ pairsL := by decide +kernel
theorem pairs_mem {c : Ct} : c ∈ pairsL ↔ 1 ≤ c.1 ∧ c.1 < c.2 ∧ c.2 ≤ 8 := by
  refine ⟨pairs_ok c, fun ⟨h1, h2, h3⟩ => ?_⟩
  obtain ⟨x, y⟩ := c
  dsimp only at h1 h2 h3
  have h4 := pairs_fin ⟨x.toNat, by omega⟩ ⟨y.toNat, by omega⟩ (by show 1 ≤ x.toNat; omega) (by show x.toNat < y.toNat; omega)
  have e1 : ((x.toNat : Nat) : Int) = x := by omega
  have e2 : ((y.toNat : Nat) : Int) = y := by omega
  dsimp only at h4
  rwa [e1, e2] at h4
theorem cuts_lt {C : List Ct} (h : cutsB C C.length = true) : ∀ c ∈ C, c ∈ pairsL := fun c hc => by
  obtain ⟨i, hi, rfl⟩ := List.getElem_of_mem hc
  have h1 := cutsB_at h hi
  have h5 := cutOk_lo h1
  unfold cutOk at h1
  have e : C.getD i default = C[i] := by simp [List.getD, hi]
  rw [e] at h1 h5
  rw [Bool.and_eq_true, Bool.and_eq_true, decide_eq_true_eq] at h1
  have := pairB_lo h1.1.1
  rw [pairs_mem]
  omega
theorem cuts_srt {C : List Ct} (h : cutsB C C.length = true) : SrtC C := by
  rw [SrtC, List.pairwise_iff_getElem]
  intro p q hp hq hpq
  have h1 := cut_srt h (q - p - 1) p (by omega)
  rw [show p + (q - p - 1) + 1 = q by omega] at h1
  simpa [List.getD, hp, hq] using h1
theorem m_ok {a b : Int} (hp : pairB a b = true) : (minI a b, maxI a b) ∈ pairsL := by
  have := pairB_lo hp
  rw [pairs_mem]
  unfold minI maxI
  dsimp only
  split <;> split <;> omega
theorem key_pairs {x y : Ct} (hx : x ∈ pairsL) (hy : y ∈ pairsL) (h : keyC x = keyC y) : x = y := by
  rw [pairs_mem] at hx hy
  exact key_inj (by unfold okC; omega) (by unfold okC; omega) h
theorem inB_iff {C : List Ct} {a b : Int} {o : Bool} {c : Ct} (h : cutsB C C.length = true) (hp : pairB a b = true) (hc : c ∈ pairsL) : inB C a b o c = true ↔ (c = (minI a b, maxI a b) ∧ o = true) ∨ (c ≠ (minI a b, maxI a b) ∧ c ∈ C) := by
  have hl := pairB_lo hp
  rw [pairs_mem] at hc
  obtain ⟨x, y⟩ := c
  dsimp only at hc
  have hm : ((x = a ∧ y = b) ∨ (x = b ∧ y = a)) ↔ (x, y) = (minI a b, maxI a b) := by
    rw [Prod.mk.injEq]
    unfold minI maxI
    split <;> split <;> omega
  unfold inB
  dsimp only
  by_cases h1 : (x, y) = (minI a b, maxI a b)
  · rw [if_pos (hm.2 h1)]
    exact ⟨fun h2 => .inl ⟨h1, h2⟩, fun h2 => h2.elim (·.2) fun h3 => absurd h1 h3.1⟩
  · rw [if_neg (fun h2 => h1 (hm.1 h2)), ← part_eq h]
    unfold partP
    rw [decide_eq_true_eq]
    have e : (minI x y, maxI x y) = (x, y) := by
      unfold minI maxI
      rw [if_neg (by omega), if_pos (by omega)]
    rw [e]
    exact ⟨fun h2 => .inr ⟨h1, h2⟩, fun h2 => h2.elim (fun h3 => absurd h3.1 h1) (·.2)⟩
theorem idx_split {C : List Ct} (h : SrtC C) (m : Ct) : C.take (idxC C m) = C.filter (fun c => decide (keyC c < keyC m)) ∧ C.drop (idxC C m) = C.filter (fun c => !decide (keyC c < keyC m)) := by
  have h1 := srt_split (keyC m) h
  unfold idxC
  generalize C.filter (fun c => decide (keyC c < keyC m)) = F at *
  generalize C.filter (fun c => !decide (keyC c < keyC m)) = G at *
  subst h1
  exact ⟨List.take_left, List.drop_left⟩
theorem cutD_on {W : List Pn} {C : List Ct} {a b : Int} (hch : chkB W C = true) (hp : pairB a b = true) (hq : partP C a b = false) : cutD C a b true = C.take (idxC C (minI a b, maxI a b)) ++ [(minI a b, maxI a b)] ++ C.drop (idxC C (minI a b, maxI a b)) := by
  have hcut : cutsB C C.length = true := by
    unfold chkB at hch
    rw [Bool.and_eq_true] at hch
    exact hch.2
  have hs := cuts_srt hcut
  have hm := m_ok hp
  have hnm : ¬ (minI a b, maxI a b) ∈ C := of_decide_eq_false hq
  have hsp := idx_split hs (minI a b, maxI a b)
  rw [hsp.1, hsp.2]
  have hii := fun c hc => inB_iff (c := c) (o := true) hcut hp hc
  generalize (minI a b, maxI a b) = m at *
  refine srt_ext (pairs_srt.filter _) ?_ fun c => ?_
  · rw [SrtC, List.pairwise_append, List.pairwise_append]
    refine ⟨⟨hs.filter _, List.pairwise_singleton _ _, fun x hx y hy => ?_⟩, hs.filter _, fun x hx y hy => ?_⟩
    · rw [List.mem_singleton.1 hy]
      exact of_decide_eq_true (List.mem_filter.1 hx).2
    · have h1 := List.mem_filter.1 hy
      have h2 : ¬ keyC y < keyC m := by simpa using h1.2
      have h3 : keyC m ≠ keyC y := fun h4 => hnm (key_pairs hm (cuts_lt hcut y h1.1) h4 ▸ h1.1)
      rcases List.mem_append.1 hx with h4 | h4
      · have h5 := of_decide_eq_true (List.mem_filter.1 h4).2
        omega
      · rw [List.mem_singleton.1 h4]
        omega
  · unfold cutD
    rw [List.mem_filter, List.mem_append, List.mem_append, List.mem_singleton, List.mem_filter, List.mem_filter]
    constructor
    · rintro ⟨h1, h2⟩
      rcases (hii c h1).1 h2 with ⟨h3, _⟩ | ⟨_, h3⟩
      · exact .inl (.inr h3)
      · by_cases h4 : keyC c < keyC m
        · exact .inl (.inl ⟨h3, decide_eq_true h4⟩)
        · exact .inr ⟨h3, by simp [h4]⟩
    · intro h1
      have h2 : c ∈ C ∨ c = m := by
        rcases h1 with (h2 | h2) | h2
        · exact .inl h2.1
        · exact .inr h2
        · exact .inl h2.1
      have h3 : c ∈ pairsL := by
        rcases h2 with h2 | h2
        · exact cuts_lt hcut c h2
        · rw [h2]; exact hm
      refine ⟨h3, (hii c h3).2 ?_⟩
      by_cases h4 : c = m
      · exact .inl ⟨h4, rfl⟩
      · exact .inr ⟨h4, h2.resolve_right h4⟩
theorem cutD_off {W : List Pn} {C : List Ct} {a b : Int} (hch : chkB W C = true) (hp : pairB a b = true) (hq : partP C a b = true) : cutD C a b false = del C (idxC C (minI a b, maxI a b)) := by
  have hcut : cutsB C C.length = true := by
    unfold chkB at hch
    rw [Bool.and_eq_true] at hch
    exact hch.2
  have hs := cuts_srt hcut
  have hmC : (minI a b, maxI a b) ∈ C := of_decide_eq_true hq
  have hsp := idx_split hs (minI a b, maxI a b)
  have hii := fun c hc => inB_iff (c := c) (o := false) hcut hp hc
  generalize (minI a b, maxI a b) = m at *
  have hG : ∃ G, C.drop (idxC C m) = m :: G := by
    have h1 : m ∈ C.drop (idxC C m) := by
      rw [hsp.2, List.mem_filter]
      exact ⟨hmC, by simp⟩
    have h2 : SrtC (C.drop (idxC C m)) := hs.sublist (List.drop_sublist _ _)
    have h3 : ∀ c ∈ C.drop (idxC C m), ¬ keyC c < keyC m := fun c hc => by
      rw [hsp.2, List.mem_filter] at hc
      simpa using hc.2
    cases hd : C.drop (idxC C m) with
    | nil => rw [hd] at h1; exact absurd h1 (by simp)
    | cons g G =>
      rw [hd] at h1 h2 h3
      rw [SrtC, List.pairwise_cons] at h2
      rcases List.mem_cons.1 h1 with h4 | h4
      · exact ⟨G, by rw [h4]⟩
      · exact absurd (h2.1 m h4) (h3 g (List.mem_cons_self ..))
  obtain ⟨G, hG⟩ := hG
  have hC : C = C.take (idxC C m) ++ m :: G := by rw [← hG, List.take_append_drop]
  have hdel : del C (idxC C m) = C.take (idxC C m) ++ G := by
    unfold del
    rw [← List.drop_drop, hG]
    rfl
  have hsd : SrtC (del C (idxC C m)) := hs.sublist (del_sub C _)
  refine srt_ext (pairs_srt.filter _) hsd fun c => ?_
  have hmem : c ∈ del C (idxC C m) ↔ c ∈ C ∧ c ≠ m := by
    rw [hdel]
    have hs' := hs
    rw [hC, SrtC, List.pairwise_append, List.pairwise_cons] at hs'
    obtain ⟨_, ⟨k1, _⟩, k2⟩ := hs'
    constructor
    · intro h1
      refine ⟨(del_sub C (idxC C m)).subset (by rw [hdel]; exact h1), fun h2 => ?_⟩
      rw [h2] at h1
      rcases List.mem_append.1 h1 with h3 | h3
      · exact absurd (k2 m h3 m (List.mem_cons_self ..)) (Int.lt_irrefl _)
      · exact absurd (k1 m h3) (Int.lt_irrefl _)
    · rintro ⟨h1, h2⟩
      rw [hC] at h1
      rcases List.mem_append.1 h1 with h3 | h3
      · exact List.mem_append_left _ h3
      · exact List.mem_append_right _ ((List.mem_cons.1 h3).resolve_left h2)
  rw [hmem]
  unfold cutD
  rw [List.mem_filter]
  constructor
  · rintro ⟨h1, h2⟩
    rcases (hii c h1).1 h2 with ⟨_, h3⟩ | ⟨h3, h4⟩
    · cases h3
    · exact ⟨h4, h3⟩
  · rintro ⟨h1, h2⟩
    have h3 := cuts_lt hcut c h1
    exact ⟨h3, (hii c h3).2 (.inr ⟨h2, h1⟩)⟩
end Go.Proofs.Ytclmaoagdkhboaa
