/- What a log has behind a cut: plain. -/
import Derived.Test.YtkdpfnaaopimoaaLgD
namespace Go.Proofs.Ytkdpfnaaopimoaa
set_option linter.unusedVariables false
set_option linter.unusedSimpArgs false

theorem lastT_take (l : List En) (t k : Nat) (hk : k ≤ l.length) (a1 : Nat) : lastT (l.take k) t = (placeN (a1, t) l k).2 := by
  unfold placeN
  split
  · rename_i h; rw [h]; rfl
  · rename_i h
    have e : l.take k = l.take (k - 1) ++ [l.getD (k - 1) default] := by
      have := List.take_succ_eq_append_getElem (l := l) (i := k - 1) (by omega)
      rw [show k - 1 + 1 = k by omega] at this
      simpa [List.getD, show k - 1 < l.length by omega] using this
    rw [e, lastT_app]
    rfl
theorem lastT_cut (l : List En) (t k : Nat) (hk : k ≤ l.length) (a1 : Nat) : lastT (l.drop k) (placeN (a1, t) l k).2 = lastT l t := by
  rw [← lastT_take l t k hk a1, ← lastT_app, List.take_append_drop]
theorem rising_placed : ∀ (l : List En) (t : Nat), risingB l t = true → ∀ e ∈ l, 0 < e.1
  | [], _, _, e, he => by cases he
  | x :: l, t, h, e, he => by
    rw [risingB, Bool.and_eq_true, Bool.and_eq_true] at h
    rcases List.mem_cons.1 he with rfl | he
    · have hp := h.1.1
      unfold placedB at hp
      split at hp
      · rw [Bool.and_eq_true, decide_eq_true_eq] at hp
        exact hp.1
      · split at hp
        · rw [Bool.and_eq_true, decide_eq_true_eq] at hp
          exact hp.1
        · cases hp
    · exact rising_placed l x.1 h.2 e he
theorem cut_right {a : At} {l : List En} {k : Nat} (hr : rightB a l = true) (hk : k ≤ l.length) : rightB (placeN a l k) (l.drop k) = true := by
  obtain ⟨i, t⟩ := a
  rw [rightB_eq] at hr ⊢
  rw [Bool.and_eq_true, Bool.and_eq_true, Bool.and_eq_true, decide_eq_true_eq, decide_eq_true_eq] at hr ⊢
  obtain ⟨⟨⟨h1, h2⟩, h3⟩, h4⟩ := hr
  have hf := placeN_fst (i, t) l k
  have h3 : i ≤ 18446744073709551614 - l.length := h3
  have hf : (placeN (i, t) l k).1 = i + k := hf
  refine ⟨⟨⟨?_, by rw [List.length_drop]; omega⟩, by rw [hf, List.length_drop]; omega⟩, ?_⟩
  · rcases Nat.eq_zero_or_pos k with h0 | h0
    · subst h0; exact h1
    · have hp : 0 < (placeN (i, t) l k).2 := by
        unfold placeN
        rw [if_neg (by omega)]
        refine rising_placed l t h4 _ ?_
        have : k - 1 < l.length := by omega
        simp [List.getD, this]
      unfold baseB
      rw [hf, decide_eq_true hp, decide_eq_true (show 0 < i + k by omega)]
      simp
  · have := rising_app (l.take k) (l.drop k) t
    rw [List.take_append_drop, h4, lastT_take l t k hk i] at this
    have := this.symm
    rw [Bool.and_eq_true] at this
    exact this.2
theorem cut_last {a : At} {l : List En} {k : Nat} (hk : k ≤ l.length) : lastA (placeN a l k) (l.drop k) = lastA a l := by
  obtain ⟨i, t⟩ := a
  unfold lastA
  rw [placeN_fst, lastT_cut l t k hk i, List.length_drop]
  refine Prod.ext ?_ rfl
  show i + k + (l.length - k) = i + l.length
  omega
theorem cut_place {a : At} {l : List En} {k j : Nat} (hj : k + j ≤ l.length) : placeN (placeN a l k) (l.drop k) j = placeN a l (k + j) := by
  rcases Nat.eq_zero_or_pos j with h0 | h0
  · subst h0; rfl
  · show (if j = 0 then placeN a l k else ((placeN a l k).1 + j, ((l.drop k).getD (j - 1) default).1)) = if k + j = 0 then a else (a.1 + (k + j), (l.getD (k + j - 1) default).1)
    rw [if_neg (by omega), if_neg (by omega), placeN_fst]
    refine Prod.ext ?_ ?_
    · show a.1 + k + j = a.1 + (k + j)
      omega
    · show ((l.drop k).getD (j - 1) default).1 = (l.getD (k + j - 1) default).1
      rw [show k + j - 1 = k + (j - 1) by omega]
      simp [List.getD, List.getElem?_drop]
/-- what a log and its cut tell of an index -/
theorem cut_term {a : At} {l : List En} {k m : Nat} (hr : rightB a l = true) (hk : k ≤ l.length) (h1 : a.1 + k ≤ m) (h2 : m ≤ a.1 + l.length) : ∃ t, termR a l m = (t, true) ∧ termR (placeN a l k) (l.drop k) m = (t, true) := by
  have hf := placeN_fst a l k
  have e1 : findR a l m = (((m - a.1 : Nat) : Int), placeN a l (m - a.1)) := by unfold findR; rw [if_pos ⟨by omega, h2⟩]
  have e2 : findR (placeN a l k) (l.drop k) m = (((m - (a.1 + k) : Nat) : Int), placeN a l (m - a.1)) := by
    unfold findR
    rw [hf, if_pos ⟨h1, by rw [List.length_drop]; omega⟩, cut_place (by omega), show k + (m - (a.1 + k)) = m - a.1 by omega]
  refine ⟨(placeN a l (m - a.1)).2, ?_, ?_⟩
  · unfold termR
    rw [if_pos hr, e1, decide_eq_true (by exact Int.natCast_nonneg _)]
  · unfold termR
    rw [if_pos (cut_right hr hk), e2, decide_eq_true (by exact Int.natCast_nonneg _)]
theorem cut_from {a : At} {l : List En} {k m : Nat} (hr : rightB a l = true) (hk : k ≤ l.length) (h1 : a.1 + k < m) (h2 : m ≤ a.1 + l.length) : ∃ p e, frm a l m 1 = (0, p, [e]) ∧ frm (placeN a l k) (l.drop k) m 1 = (0, p, [e]) := by
  have hf := placeN_fst a l k
  have hl1 : (lastA a l).1 = a.1 + l.length := rfl
  have hl2 : (lastA (placeN a l k) (l.drop k)).1 = a.1 + l.length := by rw [cut_last hk]; rfl
  have hone : ∀ (l : List En) (j : Nat), j < l.length → (l.drop j).take (min (1 : Int).toNat (l.length - j)) = [l.getD j default] := fun l j hj => by
    rw [show min (1 : Int).toNat (l.length - j) = 1 by show min 1 _ = 1; omega, List.drop_eq_getElem_cons hj, List.take_succ_cons, List.take_zero]
    simp [List.getD, hj]
  refine ⟨placeN a l (m - 1 - a.1), l.getD (m - 1 - a.1) default, ?_, ?_⟩
  · unfold frm
    rw [if_pos hr, hl1, if_neg (by omega), if_neg (by omega), hone _ _ (by omega)]
  · unfold frm
    rw [if_pos (cut_right hr hk), hl2, hf, if_neg (by omega), if_neg (by omega), hone _ _ (by rw [List.length_drop]; omega), cut_place (by omega), show k + (m - 1 - (a.1 + k)) = m - 1 - a.1 by omega]
    have : (l.drop k).getD (m - 1 - (a.1 + k)) default = l.getD (m - 1 - a.1) default := by
      simp [List.getD, List.getElem?_drop, show k + (m - 1 - (a.1 + k)) = m - 1 - a.1 by omega]
    rw [this]
theorem cut_chk {a : At} {l : List En} {k : Nat} (hr : rightB a l = true) (hk : k ≤ l.length) (ht : (lastA a l).2 < 18446744073709551616) : chkE (placeN a l k) (l.drop k) 18446744073709551615 = 0 := by
  unfold chkE
  rw [if_pos (cut_right hr hk), cut_last hk, if_neg (by omega)]
theorem cut_ahead {a : At} {l : List En} {k : Nat} (hr : rightB a l = true) (hk : k ≤ l.length) (h0 : 0 < a.1 + k) : (termR (placeN a l k) (l.drop k) (a.1 + k - 1)).2 = false := by
  unfold termR
  rw [if_pos (cut_right hr hk)]
  unfold findR
  rw [placeN_fst, if_neg (by omega)]
  rfl
end Go.Proofs.Ytkdpfnaaopimoaa
