/- What a majority agrees on: plain laws. -/
import Derived.Test.YtlihhjldkopfhaaCoS
namespace Go.Proofs.Ytlihhjldkopfhaa
open Go.RowKit
set_option linter.unusedVariables false
set_option linter.unusedSimpArgs false

def IsAg (vs : List Nat) (x : Nat) : Prop := x ∈ vs ∧ vs.length < 2 * vs.countP (fun v => decide (x ≤ v)) ∧ 2 * vs.countP (fun v => decide (x < v)) ≤ vs.length
theorem cnt_up (vs : List Nat) {p q : Nat → Bool} (h : ∀ v, p v = true → q v = true) : vs.countP p ≤ vs.countP q := List.countP_mono_left fun v _ hv => h v hv
theorem ag_top {vs : List Nat} {x a : Nat} (h : IsAg vs x) (ha : vs.length < 2 * vs.countP (fun v => decide (a ≤ v))) : a ≤ x := by
  rcases Nat.lt_or_ge x a with hc | hc
  · have := cnt_up vs (p := fun v => decide (a ≤ v)) (q := fun v => decide (x < v)) fun v hv => by simp at hv ⊢; omega
    have := h.2.2
    omega
  · exact hc
theorem fold_base (p : Nat → Prop) [DecidablePred p] : ∀ (l : List Nat) (b : Nat), b ≤ l.foldl (fun b a => if p a then max b a else b) b
  | [], b => Nat.le_refl _
  | a :: l, b => by
    refine Nat.le_trans ?_ (fold_base p l _)
    show b ≤ if p a then max b a else b
    split <;> omega
theorem fold_ge (p : Nat → Prop) [DecidablePred p] : ∀ (l : List Nat) (b a : Nat), a ∈ l → p a → a ≤ l.foldl (fun b a => if p a then max b a else b) b
  | c :: l, b, a, h, hp => by
    rcases List.mem_cons.1 h with rfl | h
    · refine Nat.le_trans ?_ (fold_base p l _)
      show a ≤ if p a then max b a else b
      rw [if_pos hp]
      omega
    · exact fold_ge p l _ a h hp
theorem fold_le (p : Nat → Prop) [DecidablePred p] (x : Nat) : ∀ (l : List Nat) (b : Nat), b ≤ x → (∀ a ∈ l, p a → a ≤ x) → l.foldl (fun b a => if p a then max b a else b) b ≤ x
  | [], b, h, _ => h
  | a :: l, b, h, H => by
    refine fold_le p x l _ ?_ fun c hc => H c (List.mem_cons_of_mem _ hc)
    show (if p a then max b a else b) ≤ x
    split
    · have := H a (List.mem_cons_self ..) (by assumption)
      omega
    · exact h
/-- the document's: the greatest that a majority reaches -/
def ragN (L : List (Int × Nat)) (ms : List Int) (k : Nat) : Nat := (ms.take k).foldl (fun b m => if ms.length < 2 * ms.countP (fun x => decide (idxN L m ≤ idxN L x)) then max b (idxN L m) else b) 0
theorem rag_next (L : List (Int × Nat)) (ms : List Int) (j : Nat) (hj : j < ms.length) : ragN L ms (j + 1) = if ms.length < 2 * ms.countP (fun x => decide (idxN L (ms.getD j 0) ≤ idxN L x)) then max (ragN L ms j) (idxN L (ms.getD j 0)) else ragN L ms j := by
  rw [ragN, List.take_succ_eq_append_getElem hj, List.foldl_append]
  simp [List.getD, hj, ragN]
theorem rag_is {L : List (Int × Nat)} {ms : List Int} {x : Nat} (h : IsAg (ms.map (idxN L)) x) : ragN L ms ms.length = x := by
  have e : ragN L ms ms.length = (ms.map (idxN L)).foldl (fun b a => if (ms.map (idxN L)).length < 2 * (ms.map (idxN L)).countP (fun v => decide (a ≤ v)) then max b a else b) 0 := by
    rw [ragN, List.take_length, List.foldl_map]
    simp only [List.countP_map, List.length_map]
    rfl
  rw [e]
  refine Nat.le_antisymm (fold_le _ _ _ _ (Nat.zero_le _) fun a _ ha => ag_top h ha) (fold_ge _ _ _ _ h.1 h.2.1)
theorem rmaj_filter (ms : List Int) (p : Int → Bool) : rmajB ms (ms.filter p) = decide (ms.length < 2 * ms.countP p) := by
  rw [rmajB]
  congr 3
  refine List.countP_congr fun m hm => ?_
  simp [hm]
theorem idx_le (m : Int) (a : Nat) : ∀ (L : List (Int × Nat)) (b : Nat), a ≤ L.foldl (fun n x => if x.1 = m then max n x.2 else n) b ↔ a ≤ b ∨ ∃ x ∈ L, x.1 = m ∧ a ≤ x.2
  | [], b => by simp
  | y :: L, b => by
    rw [List.foldl_cons, idx_le m a L]
    simp only [List.mem_cons, exists_eq_or_imp]
    by_cases hy : y.1 = m
    · rw [if_pos hy]
      constructor
      · rintro (h | h)
        · rcases Nat.le_total b y.2 with h2 | h2
          · exact .inr (.inl ⟨hy, by omega⟩)
          · exact .inl (by omega)
        · exact .inr (.inr h)
      · rintro (h | h | h)
        · exact .inl (by omega)
        · exact .inl (by omega)
        · exact .inr h
    · rw [if_neg hy]
      constructor
      · rintro (h | h)
        · exact .inl h
        · exact .inr (.inr h)
      · rintro (h | h | h)
        · exact .inl h
        · exact absurd h.1 hy
        · exact .inr h
theorem idx_ge {L : List (Int × Nat)} {m : Int} {a : Nat} (ha : 0 < a) : a ≤ idxN L m ↔ ∃ x ∈ L, x.1 = m ∧ a ≤ x.2 := by
  rw [idxN, idx_le]
  constructor
  · rintro (h | h)
    · omega
    · exact h
  · exact .inr
theorem idx_mono {L L' : List (Int × Nat)} (h : ∀ x ∈ L, ∃ y ∈ L', y.1 = x.1 ∧ x.2 ≤ y.2) (m : Int) : idxN L m ≤ idxN L' m := by
  rcases Nat.eq_zero_or_pos (idxN L m) with h0 | h0
  · omega
  · rw [idx_ge h0]
    obtain ⟨x, hx, rfl, hx2⟩ := (idx_ge h0).1 (Nat.le_refl _)
    obtain ⟨y, hy, hy1, hy2⟩ := h x hx
    exact ⟨y, hy, hy1, by omega⟩
theorem ag_mono {L L' : List (Int × Nat)} {ms : List Int} {x y : Nat} (h : ∀ m, idxN L m ≤ idxN L' m) (hx : IsAg (ms.map (idxN L)) x) (hy : IsAg (ms.map (idxN L')) y) : x ≤ y := by
  refine ag_top hy ?_
  have h1 := hx.2.1
  simp only [List.countP_map, List.length_map] at h1 ⊢
  have := List.countP_mono_left (l := ms) (p := (fun v => decide (x ≤ v)) ∘ idxN L) (q := (fun v => decide (x ≤ v)) ∘ idxN L') fun m _ hm => by
    have := h m
    simp only [Function.comp_apply, decide_eq_true_eq] at hm ⊢
    omega
  omega
/-- who has it, and who has more -/
theorem ag_has {L : List (Int × Nat)} {ms : List Int} {x : Nat} (hr : right ms = true) (h0 : 0 < x) (h : IsAg (ms.map (idxN L)) x) : majB ms ((L.filter fun y => decide (x ≤ y.2)).map (·.1)) = true := by
  have h1 := h.2.1
  simp only [List.countP_map, List.length_map] at h1
  rw [majB, hr, Bool.true_and, decide_eq_true_eq]
  have := List.countP_mono_left (l := ms) (p := (fun v => decide (x ≤ v)) ∘ idxN L) (q := fun m => decide (m ∈ (L.filter fun y => decide (x ≤ y.2)).map (·.1))) fun m _ hm => by
    simp only [Function.comp_apply, decide_eq_true_eq] at hm ⊢
    obtain ⟨y, hy, hy1, hy2⟩ := (idx_ge h0).1 hm
    exact List.mem_map.2 ⟨y, List.mem_filter.2 ⟨hy, by simpa using hy2⟩, hy1⟩
  omega
theorem ag_more {L : List (Int × Nat)} {ms : List Int} {x : Nat} (h : IsAg (ms.map (idxN L)) x) : majB ms ((L.filter fun y => decide (x < y.2)).map (·.1)) = false := by
  have h1 := h.2.2
  simp only [List.countP_map, List.length_map] at h1
  have : ¬ ms.length < 2 * ms.countP (fun m => decide (m ∈ (L.filter fun y => decide (x < y.2)).map (·.1))) := by
    have := List.countP_mono_left (l := ms) (p := fun m => decide (m ∈ (L.filter fun y => decide (x < y.2)).map (·.1))) (q := (fun v => decide (x < v)) ∘ idxN L) fun m _ hm => by
      simp only [Function.comp_apply, decide_eq_true_eq] at hm ⊢
      obtain ⟨y, hy, hy1⟩ := List.mem_map.1 hm
      have hy := List.mem_filter.1 hy
      have : x + 1 ≤ idxN L m := (idx_ge (by omega)).2 ⟨y, hy.1, hy1, by have := of_decide_eq_true hy.2; omega⟩
      omega
    omega
  rw [majB, decide_eq_false this, Bool.and_false]
/-- the middle of what is sorted -/
theorem sort_ag {s vs : List Nat} (hp : s.Perm vs) (hs : s.Pairwise (· ≤ ·)) (h0 : 0 < s.length) : IsAg vs (s.getD ((s.length - 1) / 2) 0) := by
  obtain ⟨k, hk⟩ : ∃ k, (s.length - 1) / 2 = k := ⟨_, rfl⟩
  have hkl : k < s.length := by omega
  rw [hk]
  have hd : s = s.take k ++ s[k] :: s.drop (k + 1) := by rw [← List.drop_eq_getElem_cons hkl, List.take_append_drop]
  have hx : s.getD k 0 = s[k] := by simp [List.getD, hkl]
  rw [hx]
  have hs' := hs
  rw [hd, List.pairwise_append] at hs'
  obtain ⟨_, hs2, hs3⟩ := hs'
  rw [List.pairwise_cons] at hs2
  refine ⟨hp.mem_iff.1 (List.getElem_mem _), ?_, ?_⟩
  · rw [← hp.countP_eq, ← hp.length_eq]
    have e : (s.drop k).countP (fun v => decide (s[k] ≤ v)) = (s.drop k).length := by
      rw [List.countP_eq_length]
      intro a ha
      rw [List.drop_eq_getElem_cons hkl] at ha
      rcases List.mem_cons.1 ha with rfl | ha
      · simp
      · simpa using hs2.1 a ha
    have := List.Sublist.countP_le (p := fun v => decide (s[k] ≤ v)) (List.drop_sublist k s)
    rw [e, List.length_drop] at this
    omega
  · rw [← hp.countP_eq, ← hp.length_eq]
    have e : (s.take (k + 1)).countP (fun v => decide (s[k] < v)) = 0 := by
      rw [List.countP_eq_zero]
      intro a ha
      rw [List.take_succ_eq_append_getElem hkl] at ha
      rcases List.mem_append.1 ha with ha | ha
      · have := hs3 a ha s[k] (List.mem_cons_self ..)
        simpa using this
      · rw [List.mem_singleton] at ha
        subst ha
        simp
    have e2 : s.countP (fun v => decide (s[k] < v)) = (s.take (k + 1)).countP (fun v => decide (s[k] < v)) + (s.drop (k + 1)).countP (fun v => decide (s[k] < v)) := by
      rw [← List.countP_append, List.take_append_drop]
    have e3 : (s.drop (k + 1)).countP (fun v => decide (s[k] < v)) ≤ s.length - (k + 1) := by
      refine Nat.le_trans List.countP_le_length ?_
      rw [List.length_drop]
      exact Nat.le_refl _
    omega
end Go.Proofs.Ytlihhjldkopfhaa
