/- Lists that rise by a key; one change applied to one. Plain. -/
import Derived.Test.YtebbnbddlnpldaaPm3
namespace Go.Proofs.Ytebbnbddlnpldaa
set_option linter.unusedVariables false
set_option linter.unusedSimpArgs false
set_option linter.unnecessarySimpa false
theorem sl_irr (a : Str) : ¬ a < a := List.lt_irrefl a
theorem sl_tr {a b c : Str} (h : a < b) (h2 : b < c) : a < c := List.lt_trans h h2
theorem sl_as {a b : Str} (h : a < b) : ¬ b < a := fun h2 => sl_irr _ (sl_tr h h2)
theorem sl_tri (a b : Str) : a < b ∨ a = b ∨ b < a := by
  by_cases h : a < b
  · exact .inl h
  · by_cases h2 : b < a
    · exact .inr (.inr h2)
    · exact .inr (.inl (List.le_antisymm (List.not_lt.1 h2) (List.not_lt.1 h)))
theorem sl_ne {a b : Str} (h : a < b) : a ≠ b := fun e => sl_irr b (e ▸ h)
/-- rising by a key -/
def Srt {α : Type} (k : α → Str) (L : List α) : Prop := L.Pairwise (fun x y => k x < k y)
theorem srt_ext {α : Type} {k : α → Str} : ∀ {L M : List α}, Srt k L → Srt k M → (∀ x, x ∈ L ↔ x ∈ M) → L = M
  | [], [], _, _, _ => rfl
  | [], y :: M, _, _, h => by have := (h y).2 (by simp); simp at this
  | x :: L, [], _, _, h => by have := (h x).1 (by simp); simp at this
  | x :: L, y :: M, h1, h2, h => by
    have h1' := List.pairwise_cons.1 h1
    have h2' := List.pairwise_cons.1 h2
    have e : x = y := by
      rcases List.mem_cons.1 ((h x).1 (by simp)) with e | hx
      · exact e
      · rcases List.mem_cons.1 ((h y).2 (by simp)) with e | hy
        · exact e.symm
        · exact absurd (h1'.1 y hy) (sl_as (h2'.1 x hx))
    subst e
    rw [srt_ext h1'.2 h2'.2 fun z => ?_]
    constructor
    · intro hz
      rcases List.mem_cons.1 ((h z).1 (by simp [hz])) with e | h3
      · subst e; exact absurd (h1'.1 z hz) (sl_irr _)
      · exact h3
    · intro hz
      rcases List.mem_cons.1 ((h z).2 (by simp [hz])) with e | h3
      · subst e; exact absurd (h2'.1 z hz) (sl_irr _)
      · exact h3
theorem srt_filter {α : Type} {k : α → Str} {L : List α} (h : Srt k L) (p : α → Bool) : Srt k (L.filter p) := List.Pairwise.filter p h
theorem srt_key {α : Type} {k : α → Str} {L : List α} (h : Srt k L) {x y : α} (hx : x ∈ L) (hy : y ∈ L) (he : k x = k y) : x = y := by
  obtain ⟨i, hi, rfl⟩ := List.getElem_of_mem hx
  obtain ⟨j, hj, rfl⟩ := List.getElem_of_mem hy
  rcases Nat.lt_trichotomy i j with h3 | h3 | h3
  · exact absurd he (sl_ne (List.pairwise_iff_getElem.1 h i j hi hj h3))
  · subst h3; rfl
  · exact absurd he.symm (sl_ne (List.pairwise_iff_getElem.1 h j i hj hi h3))
/-- below, above -/
def lo {α : Type} (k : α → Str) (L : List α) (s : Str) : List α := L.filter (fun x => decide (k x < s))
def hi {α : Type} (k : α → Str) (L : List α) (s : Str) : List α := L.filter (fun x => decide (s < k x))
theorem srt_put {α : Type} {k : α → Str} {L : List α} (h : Srt k L) (s : Str) (m : List α) (hm : ∀ x ∈ m, k x = s) (hm2 : m.length ≤ 1) : Srt k (lo k L s ++ m ++ hi k L s) := by
  unfold Srt
  rw [List.pairwise_append, List.pairwise_append]
  have hl : ∀ x ∈ lo k L s, k x < s := fun x hx => by simpa using (List.mem_filter.1 hx).2
  have hh : ∀ x ∈ hi k L s, s < k x := fun x hx => by simpa using (List.mem_filter.1 hx).2
  refine ⟨⟨srt_filter h _, ?_, fun x hx y hy => ?_⟩, srt_filter h _, fun x hx y hy => ?_⟩
  · match m, hm2 with
    | [], _ => exact List.Pairwise.nil
    | [a], _ => exact List.pairwise_singleton _ _
  · rw [hm y hy]; exact hl x hx
  · rcases List.mem_append.1 hx with hx | hx
    · exact sl_tr (hl x hx) (hh y hy)
    · rw [hm x hx]; exact hh y hy
/-- where one goes, and is -/
def cutR (L : List Rw) (s : Str) : Nat := (lo (·.1) L s).length
def thereR (L : List Rw) (s : Str) : Bool := L.any (fun x => decide (x.1 = s))
theorem cut_at {L : List Rw} {s : Str} {i : Nat} (hi : i ≤ L.length) (h1 : ∀ k, k < i → (L.getD k default).1 < s) (h2 : ∀ k, i ≤ k → k < L.length → ¬ (L.getD k default).1 < s) : lo (·.1) L s = L.take i := by
  unfold lo
  conv => lhs; rw [← List.take_append_drop i L, List.filter_append]
  have e1 : (L.take i).filter (fun x => decide (x.1 < s)) = L.take i := by
    rw [List.filter_eq_self]
    intro x hx
    obtain ⟨j, hj, rfl⟩ := List.getElem_of_mem hx
    simp only [List.length_take] at hj
    have := h1 j (by omega)
    simp [List.getD, show j < L.length by omega] at this
    simpa using this
  have e2 : (L.drop i).filter (fun x => decide (x.1 < s)) = [] := by
    rw [List.filter_eq_nil_iff]
    intro x hx
    obtain ⟨j, hj, rfl⟩ := List.getElem_of_mem hx
    simp only [List.length_drop] at hj
    have := h2 (i + j) (by omega) (by omega)
    simp [List.getD, show i + j < L.length by omega] at this
    simpa using this
  rw [e1, e2, List.append_nil]
theorem cut_hi {L : List Rw} {s : Str} (h : Srt (·.1) L) {i : Nat} (hi' : i ≤ L.length) (h1 : ∀ k, k < i → (L.getD k default).1 < s) (h2 : ∀ k, i ≤ k → k < L.length → ¬ (L.getD k default).1 < s) (h3 : i < L.length → (L.getD i default).1 ≠ s) : hi (·.1) L s = L.drop i ∧ thereR L s = false := by
  have hd : ∀ x ∈ L.drop i, s < x.1 := fun x hx => by
    obtain ⟨j, hj, rfl⟩ := List.getElem_of_mem hx
    simp only [List.length_drop] at hj
    have a1 := h2 (i + j) (by omega) (by omega)
    have a2 := h3 (by omega)
    have e : (L.getD (i + j) default) = (L.drop i)[j] := by simp [List.getD, show i + j < L.length by omega]
    rw [e] at a1
    rcases sl_tri ((L.drop i)[j]).1 s with a | a | a
    · exact absurd a a1
    · rcases Nat.eq_zero_or_pos j with hj0 | hj0
      · subst hj0
        rw [Nat.add_zero] at e
        rw [e] at a2
        exact absurd a a2
      · have a4 := List.pairwise_iff_getElem.1 h i (i + j) (by omega) (by omega) (by omega)
        have a5 : L[i + j] = (L.drop i)[j] := by simp
        rw [a5] at a4
        have a4 : L[i].1 < ((L.drop i)[j]).1 := a4
        rw [a] at a4
        have a6 := h2 i (Nat.le_refl _) (by omega)
        simp [List.getD, show i < L.length by omega] at a6
        exact absurd a4 (by simpa using a6)
    · exact a
  have ht : ∀ x ∈ L.take i, x.1 < s := fun x hx => by
    obtain ⟨j, hj, rfl⟩ := List.getElem_of_mem hx
    simp only [List.length_take] at hj
    have := h1 j (by omega)
    simp only [List.getD, show j < L.length by omega, List.getElem?_eq_getElem, Option.getD_some] at this
    simpa using this
  constructor
  · unfold hi
    conv => lhs; rw [← List.take_append_drop i L, List.filter_append]
    have e1 : (L.take i).filter (fun x => decide (s < x.1)) = [] := by
      rw [List.filter_eq_nil_iff]
      intro x hx
      simpa using sl_as (ht x hx)
    have e2 : (L.drop i).filter (fun x => decide (s < x.1)) = L.drop i := by
      rw [List.filter_eq_self]
      intro x hx
      simpa using hd x hx
    rw [e1, e2, List.nil_append]
  · unfold thereR
    rw [List.any_eq_false]
    intro x hx
    rw [← List.take_append_drop i L] at hx
    rcases List.mem_append.1 hx with hx | hx
    · simpa using sl_ne (ht x hx)
    · simpa using (sl_ne (hd x hx)).symm

theorem cut_there {L : List Rw} {s : Str} (h : Srt (·.1) L) {i : Nat} (hl : i < L.length) (h3 : (L.getD i default).1 = s) : hi (·.1) L s = L.drop (i + 1) ∧ thereR L s = true := by
  have hg : L.getD i default = L[i] := by simp [List.getD, hl]
  rw [hg] at h3
  constructor
  · unfold hi
    conv => lhs; rw [← List.take_append_drop (i + 1) L, List.filter_append]
    have e1 : (L.take (i + 1)).filter (fun x => decide (s < x.1)) = [] := by
      rw [List.filter_eq_nil_iff]
      intro x hx
      obtain ⟨j, hj, rfl⟩ := List.getElem_of_mem hx
      simp only [List.length_take] at hj
      rw [List.getElem_take]
      rcases Nat.lt_or_ge j i with h4 | h4
      · have a4 : L[j].1 < L[i].1 := List.pairwise_iff_getElem.1 h j i (by omega) hl h4
        rw [h3] at a4
        simpa using sl_as a4
      · have : j = i := by omega
        subst this
        rw [h3]
        simpa using sl_irr s
    have e2 : (L.drop (i + 1)).filter (fun x => decide (s < x.1)) = L.drop (i + 1) := by
      rw [List.filter_eq_self]
      intro x hx
      obtain ⟨j, hj, rfl⟩ := List.getElem_of_mem hx
      simp only [List.length_drop] at hj
      rw [List.getElem_drop]
      have a4 : L[i].1 < L[i + 1 + j].1 := List.pairwise_iff_getElem.1 h i (i + 1 + j) hl (by omega) (by omega)
      rw [h3] at a4
      simpa using a4
    rw [e1, e2, List.nil_append]
  · unfold thereR
    rw [List.any_eq_true]
    exact ⟨L[i], List.getElem_mem hl, by simpa using h3⟩
/-- one change applied -/
def updR (L : List Rw) (c : Ch) : List Rw := lo (·.1) L c.1 ++ (if c.2.1 then [(c.1, c.2.2)] else []) ++ hi (·.1) L c.1
theorem upd_srt {L : List Rw} (h : Srt (·.1) L) (c : Ch) : Srt (·.1) (updR L c) := by
  unfold updR
  apply srt_put h
  · split
    · intro x hx; simp at hx; subst hx; rfl
    · simp
  · split <;> simp
theorem upd_mem {L : List Rw} (c : Ch) (x : Rw) : x ∈ updR L c ↔ (x ∈ L ∧ x.1 ≠ c.1) ∨ (c.2.1 = true ∧ x = (c.1, c.2.2)) := by
  unfold updR lo hi
  simp only [List.mem_append, List.mem_filter, decide_eq_true_eq]
  constructor
  · rintro ((⟨a, b⟩ | a) | ⟨a, b⟩)
    · exact .inl ⟨a, sl_ne b⟩
    · split at a
      · rename_i h; exact .inr ⟨h, by simpa using a⟩
      · simp at a
    · exact .inl ⟨a, (sl_ne b).symm⟩
  · rintro (⟨a, b⟩ | ⟨a, b⟩)
    · rcases sl_tri x.1 c.1 with h | h | h
      · exact .inl (.inl ⟨a, h⟩)
      · exact absurd h b
      · exact .inr ⟨a, h⟩
    · rw [if_pos a]
      exact .inl (.inr (by simpa using b))
/-- the three ways -/
theorem upd_set {L : List Rw} {s t : Str} {i : Nat} (h : Srt (·.1) L) (hl : i < L.length) (h1 : lo (·.1) L s = L.take i) (h2 : (L.getD i default).1 = s) : updR L (s, true, t) = L.set i (s, t) := by
  rw [updR, h1, (cut_there h hl h2).1, List.set_eq_take_append_cons_drop, if_pos hl]
  simp
theorem upd_del {L : List Rw} {s t : Str} {i : Nat} (h : Srt (·.1) L) (hl : i < L.length) (h1 : lo (·.1) L s = L.take i) (h2 : (L.getD i default).1 = s) : updR L (s, false, t) = L.take i ++ L.drop (i + 1) := by
  rw [updR, h1, (cut_there h hl h2).1]
  simp
theorem upd_ins {L : List Rw} {s t : Str} {i : Nat} (h1 : lo (·.1) L s = L.take i) (h2 : hi (·.1) L s = L.drop i) : updR L (s, true, t) = L.take i ++ (s, t) :: L.drop i := by
  rw [updR, h1, h2]
  simp
theorem upd_not {L : List Rw} {s t : Str} {i : Nat} (h1 : lo (·.1) L s = L.take i) (h2 : hi (·.1) L s = L.drop i) : updR L (s, false, t) = L := by
  rw [updR, h1, h2]
  simp
end Go.Proofs.Ytebbnbddlnpldaa
