/- Behind a splice: plain. -/
import Derived.Test.YtkdpfnaaopimoaaLgG
namespace Go.Proofs.Ytkdpfnaaopimoaa
set_option linter.unusedVariables false
set_option linter.unusedSimpArgs false

theorem rising_first {e : En} {l : List En} {t u : Nat} (h : risingB (e :: l) t = true) (hu : u ≤ e.1) : risingB (e :: l) u = true := by
  rw [risingB, Bool.and_eq_true, Bool.and_eq_true] at h ⊢
  exact ⟨⟨h.1.1, decide_eq_true hu⟩, h.2⟩
theorem ahead_last (a : At) (l : List En) (n : Nat) (hn : n ≤ l.length) : aheadT a l n = lastT (l.take n) a.2 := by
  obtain ⟨i, t⟩ := a
  rw [lastT_take l t n hn i]
  unfold aheadT placeN
  by_cases h : 0 < n
  · rw [if_pos h, if_neg (by omega)]
  · rw [if_neg h, if_pos (by omega)]
/-- has a log a place? by its number -/
theorem has_at {a : At} {l : List En} {j t : Nat} (hj : j ≤ l.length) : hasB a l (a.1 + j, t) = decide ((placeN a l j).2 = t) := by
  have hf := placeN_fst a l j
  have hR : findR a l (a.1 + j) = ((j : Int), placeN a l j) := by
    unfold findR
    rw [if_pos ⟨by omega, by omega⟩, show a.1 + j - a.1 = j by omega]
  unfold hasB
  rw [hR, decide_eq_true (by exact Int.natCast_nonneg _), Bool.true_and, decide_eq_decide]
  constructor
  · intro h
    exact congrArg Prod.snd h
  · intro h
    exact Prod.ext hf h
theorem has_out {a : At} {l : List En} {p : At} (h : p.1 < a.1 ∨ a.1 + l.length < p.1) : hasB a l p = false := by
  unfold hasB findR
  rw [if_neg (by omega)]
  rfl
/-- what a splice makes, where it makes something -/
theorem spl_ok {a : At} {l : List En} {p : At} {es : List En} {last : Nat} {b : At} {r : List En} (h : spl a l p es = (0, last, b, r)) :
    rightB a l = true ∧ (p.1 ≤ 18446744073709551614 ∧ es.length ≤ 18446744073709551614 - p.1 ∧ risingB es p.2 = true) ∧ ¬ (a.1 ≤ p.1 ∧ hasB a l p = false) ∧ last = p.1 + es.length ∧ b = a ∧
      ((firstR a l p es = none ∧ r = l) ∨ ∃ i, firstR a l p es = some i ∧ i < es.length ∧ hitB a l p es i = true ∧ (∀ q, q < i → hitB a l p es q = false) ∧ p.1 + i - a.1 ≤ l.length ∧ a.1 < p.1 + i + 1 ∧ aheadT a l (p.1 + i - a.1) ≤ (es.getD i default).1 ∧ p.1 + i - a.1 + (es.length - i) ≤ 16 ∧ r = l.take (p.1 + i - a.1) ++ es.drop i) := by
  unfold spl at h
  by_cases h1 : rightB a l = true
  · rw [if_pos h1] at h
    by_cases h2 : p.1 ≤ 18446744073709551614 ∧ es.length ≤ 18446744073709551614 - p.1 ∧ risingB es p.2 = true
    · rw [if_pos h2] at h
      by_cases h3 : a.1 ≤ p.1 ∧ hasB a l p = false
      · rw [if_pos h3] at h; cases h
      · rw [if_neg h3] at h
        refine ⟨h1, h2, h3, ?_⟩
        unfold spM at h
        cases hf : firstR a l p es with
        | none =>
          rw [hf] at h
          injection h with _ h
          injection h with e1 h
          injection h with e2 e3
          exact ⟨e1.symm, e2.symm, .inl ⟨rfl, e3.symm⟩⟩
        | some i =>
          rw [hf] at h
          have hfs := hf
          unfold firstR at hfs
          rw [List.find?_range_eq_some] at hfs
          obtain ⟨g1, g2, g3⟩ := hfs
          have g2 := List.mem_range.1 g2
          have g4 : a.1 < p.1 + i + 1 := by
            unfold hitB at g1
            rw [Bool.and_eq_true, decide_eq_true_eq] at g1
            exact g1.1
          dsimp only at h
          split at h
          · cases h
          · rename_i k1
            split at h
            · cases h
            · rename_i k2
              split at h
              · cases h
              · rename_i k3
                injection h with _ h
                injection h with e1 h
                injection h with e2 e3
                have k1 : ¬ a.1 + l.length + 1 < p.1 + i + 1 := k1
                exact ⟨e1.symm, e2.symm, .inr ⟨i, rfl, g2, g1, fun q hq => by have := g3 q hq; simpa using this, by omega, g4, by omega, by omega, e3.symm⟩⟩
    · rw [if_neg h2] at h; cases h
  · rw [if_neg h1] at h; cases h
/-- and where it makes nothing -/
theorem spl_err {a : At} {l : List En} {p : At} {es : List En} (h : (spl a l p es).1 ≠ 0) : ∃ e : Int, e ≠ 0 ∧ spl a l p es = (e, 0, (0, 0), []) := by
  unfold spl at h ⊢
  split
  · split
    · split
      · exact ⟨4, by decide, rfl⟩
      · rename_i k1 k2 k3
        rw [if_pos k1, if_pos k2, if_neg k3] at h
        unfold spM at h ⊢
        cases hf : firstR a l p es with
        | none => rw [hf] at h; exact absurd rfl h
        | some i =>
          rw [hf] at h
          dsimp only at h ⊢
          split
          · exact ⟨4, by decide, rfl⟩
          · rename_i j1
            rw [if_neg j1] at h
            split
            · exact ⟨2, by decide, rfl⟩
            · rename_i j2
              rw [if_neg j2] at h
              split
              · exact ⟨6, by decide, rfl⟩
              · rename_i j3
                rw [if_neg j3] at h
                exact absurd rfl h
    · exact ⟨2, by decide, rfl⟩
  · exact ⟨220, by decide, rfl⟩
theorem place_low {a : At} {l m : List En} {n j : Nat} (hj : j ≤ n) (hn : n ≤ l.length) : placeN a (l.take n ++ m) j = placeN a l j := by
  unfold placeN
  by_cases h : j = 0
  · rw [if_pos h, if_pos h]
  · rw [if_neg h, if_neg h]
    have : (l.take n ++ m).getD (j - 1) default = l.getD (j - 1) default := by
      simp only [List.getD]
      rw [List.getElem?_append_left (by rw [List.length_take]; omega), List.getElem?_take, if_pos (by omega)]
    rw [this]
theorem place_high {a : At} {l es : List En} {n i q : Nat} (hn : n ≤ l.length) (hq : i + q < es.length) : placeN a (l.take n ++ es.drop i) (n + q + 1) = (a.1 + (n + q + 1), (es.getD (i + q) default).1) := by
  unfold placeN
  rw [if_neg (by omega)]
  have : (l.take n ++ es.drop i).getD (n + q + 1 - 1) default = es.getD (i + q) default := by
    simp only [List.getD]
    rw [List.getElem?_append_right (by rw [List.length_take]; omega), List.length_take, List.getElem?_drop, show i + (n + q + 1 - 1 - min n l.length) = i + q by omega]
  rw [this]
theorem join_right {a : At} {l : List En} {p : At} {es : List En} {last : Nat} {b : At} {r : List En} (h : spl a l p es = (0, last, b, r)) : rightB a r = true := by
  obtain ⟨h1, ⟨h2, h3, h4⟩, _, _, _, h5⟩ := spl_ok h
  rcases h5 with ⟨_, rfl⟩ | ⟨i, _, hi, _, _, hn, ha, hah, hfull, rfl⟩
  · exact h1
  · obtain ⟨n, hnn⟩ : ∃ n, p.1 + i - a.1 = n := ⟨_, rfl⟩
    rw [hnn] at hn hah hfull ⊢
    have hrl : (l.take n ++ es.drop i).length = n + (es.length - i) := by
      rw [List.length_append, List.length_take, List.length_drop]
      omega
    have h1' := h1
    rw [rightB_eq] at h1 ⊢
    rw [Bool.and_eq_true, Bool.and_eq_true, Bool.and_eq_true, decide_eq_true_eq, decide_eq_true_eq] at h1 ⊢
    obtain ⟨⟨⟨k1, _⟩, _⟩, k4⟩ := h1
    refine ⟨⟨⟨k1, by omega⟩, by rw [hrl]; omega⟩, ?_⟩
    have e1 := rising_app (l.take n) (l.drop n) a.2
    rw [List.take_append_drop, k4] at e1
    have e1 := e1.symm
    rw [Bool.and_eq_true] at e1
    rw [rising_app, e1.1, Bool.true_and]
    have e2 := rising_app (es.take i) (es.drop i) p.2
    rw [List.take_append_drop, h4] at e2
    have e2 := e2.symm
    rw [Bool.and_eq_true] at e2
    have e3 : es.drop i = es.getD i default :: es.drop (i + 1) := by
      rw [List.drop_eq_getElem_cons hi]
      simp [List.getD, hi]
    rw [e3] at e2 ⊢
    refine rising_first e2.2 ?_
    rw [← ahead_last a l n hn]
    exact hah
theorem join_has {a : At} {l : List En} {p : At} {es : List En} {last : Nat} {b : At} {r : List En} (h : spl a l p es = (0, last, b, r)) {q : Nat} (hq : q < es.length) (hb : a.1 < p.1 + q + 1) : hasB a r (p.1 + q + 1, (es.getD q default).1) = true := by
  obtain ⟨h1, _, _, _, _, h5⟩ := spl_ok h
  have hno : ∀ l', hitB a l' p es q = false → hasB a l' (p.1 + q + 1, (es.getD q default).1) = true := fun l' hh => by
    unfold hitB at hh
    rw [decide_eq_true hb, Bool.true_and] at hh
    simpa using hh
  rcases h5 with ⟨hf, rfl⟩ | ⟨i, _, hi, _, hlow, hn, ha, _, _, rfl⟩
  · unfold firstR at hf
    rw [List.find?_range_eq_none] at hf
    exact hno _ (by simpa using hf q hq)
  · obtain ⟨n, hnn⟩ : ∃ n, p.1 + i - a.1 = n := ⟨_, rfl⟩
    rw [hnn] at hn ⊢
    have hrl : (l.take n ++ es.drop i).length = n + (es.length - i) := by
      rw [List.length_append, List.length_take, List.length_drop]
      omega
    obtain ⟨j, hj⟩ : ∃ j, p.1 + q + 1 = a.1 + j := ⟨p.1 + q + 1 - a.1, by omega⟩
    rw [hj, has_at (by omega)]
    rcases Nat.lt_or_ge q i with hqi | hqi
    · have hl := hno l (hlow q hqi)
      rw [hj, has_at (by omega)] at hl
      rw [place_low (by omega) hn]
      exact hl
    · rw [show j = n + (q - i) + 1 by omega, place_high hn (by omega), show i + (q - i) = q by omega]
      exact decide_eq_true rfl
theorem term_at {a : At} {l : List En} {k : Nat} (hr : rightB a l = true) (h1 : a.1 ≤ k) (h2 : k ≤ a.1 + l.length) : termR a l k = ((placeN a l (k - a.1)).2, true) := by
  unfold termR findR
  rw [if_pos hr, if_pos ⟨h1, h2⟩, decide_eq_true (by exact Int.natCast_nonneg _)]
theorem join_term {a : At} {l : List En} {p : At} {es : List En} {last : Nat} {b : At} {r : List En} (h : spl a l p es = (0, last, b, r)) {k : Nat} (h1 : a.1 ≤ k) (h2 : k ≤ p.1) (h3 : k ≤ a.1 + l.length) : ∃ t, termR a l k = (t, true) ∧ termR a r k = (t, true) := by
  have hr := join_right h
  obtain ⟨g1, _, _, _, _, h5⟩ := spl_ok h
  refine ⟨_, term_at g1 h1 h3, ?_⟩
  rcases h5 with ⟨_, rfl⟩ | ⟨i, _, hi, _, _, hn, ha, _, _, rfl⟩
  · exact term_at g1 h1 h3
  · obtain ⟨n, hnn⟩ : ∃ n, p.1 + i - a.1 = n := ⟨_, rfl⟩
    rw [hnn] at hn hr ⊢
    have hrl : (l.take n ++ es.drop i).length = n + (es.length - i) := by
      rw [List.length_append, List.length_take, List.length_drop]
      omega
    rw [term_at hr h1 (by omega), place_low (by omega) hn]
theorem join_twice {a : At} {l : List En} {p : At} {es : List En} {last : Nat} {b : At} {r : List En} (h : spl a l p es = (0, last, b, r)) : spl a r p es = (0, last, a, r) := by
  have hr := join_right h
  have hh := fun q hq hb => join_has h (q := q) hq hb
  obtain ⟨h1, h2, h3, h4, _, h5⟩ := spl_ok h
  have hprev : ¬ (a.1 ≤ p.1 ∧ hasB a r p = false) := fun ⟨k1, k2⟩ => by
    have k3 : hasB a l p = true := by
      cases hx : hasB a l p
      · exact absurd ⟨k1, hx⟩ h3
      · rfl
    have hle : p.1 ≤ a.1 + l.length := by
      rcases Nat.lt_or_ge (a.1 + l.length) p.1 with hx | hx
      · rw [has_out (.inr hx)] at k3; cases k3
      · exact hx
    rcases h5 with ⟨_, rfl⟩ | ⟨i, _, hi, _, _, hn, ha, _, _, rfl⟩
    · rw [k3] at k2; cases k2
    · obtain ⟨n, hnn⟩ : ∃ n, p.1 + i - a.1 = n := ⟨_, rfl⟩
      rw [hnn] at hn k2
      have hrl : (l.take n ++ es.drop i).length = n + (es.length - i) := by
        rw [List.length_append, List.length_take, List.length_drop]
        omega
      obtain ⟨pi, pu⟩ := p
      have k1 : a.1 ≤ pi := k1
      have hnn : pi + i - a.1 = n := hnn
      have hle : pi ≤ a.1 + l.length := hle
      obtain ⟨j, hj⟩ : ∃ j, pi = a.1 + j := ⟨pi - a.1, by omega⟩
      subst hj
      rw [has_at (by omega)] at k3
      rw [has_at (by omega), place_low (by omega) hn, k3] at k2
      cases k2
  have hf : firstR a r p es = none := first_none fun q hq => by
    unfold hitB
    by_cases hb : a.1 < p.1 + q + 1
    · rw [hh q hq hb]; simp
    · rw [decide_eq_false hb]; rfl
  unfold spl
  rw [if_pos hr, if_pos h2, if_neg hprev]
  unfold spM
  rw [hf, h4]
end Go.Proofs.Ytkdpfnaaopimoaa
