/- Two logs that have the same place have the same ahead of it: the plain law. -/
import Derived.Test.YtkdpfnaaopimoaaLgR
namespace Go.Proofs.Ytkdpfnaaopimoaa
open Go.RowKit
set_option linter.unusedVariables false
set_option linter.unusedSimpArgs false

/-- the term of the k-th entry -/
abbrev tmE (l : List En) (k : Nat) : Nat := (l.getD k default).1
theorem tm_take {l : List En} {n k : Nat} (h : k < n) : tmE (l.take n) k = tmE l k := by
  unfold tmE
  rw [List.getD, List.getD, List.getElem?_take, if_pos h]
theorem tm_app {l : List En} {x : En} {k : Nat} (h : k < l.length) : tmE (l ++ [x]) k = tmE l k := by
  unfold tmE
  rw [List.getD, List.getD, List.getElem?_append_left h]
theorem tm_end {l : List En} {x : En} : tmE (l ++ [x]) l.length = x.1 := by
  unfold tmE
  rw [List.getD, List.getElem?_append_right (Nat.le_refl _), Nat.sub_self]
  rfl
theorem tm_eq {l m : List En} {n k : Nat} (h : l.take n = m.take n) (hk : k < n) : tmE l k = tmE m k := by
  rw [← tm_take (l := l) hk, h, tm_take hk]
theorem get_eq {l m : List En} {n k : Nat} (h : l.take n = m.take n) (hk : k < n) : l.getD k default = m.getD k default := by
  have h1 : (l.take n).getD k default = (m.take n).getD k default := by rw [h]
  rwa [List.getD, List.getD, List.getElem?_take, List.getElem?_take, if_pos hk, if_pos hk] at h1
theorem lastT_tm (l : List En) (h : 0 < l.length) : lastT l 0 = tmE l (l.length - 1) := by
  unfold lastT tmE
  rw [List.getLast?_eq_getElem?, List.getD]
  have : l[l.length - 1]? = some (l[l.length - 1]'(by omega)) := List.getElem?_eq_getElem (by omega)
  rw [this]
  rfl
theorem place0 (l : List En) (j : Nat) : placeN (0, 0) l (j + 1) = (j + 1, tmE l j) := by
  unfold placeN
  rw [if_neg (by omega), Nat.add_sub_cancel, Nat.zero_add]
theorem has0 {l : List En} {k t : Nat} : hasB (0, 0) l (k + 1, t) = true ↔ k < l.length ∧ tmE l k = t := by
  rcases Nat.lt_or_ge k l.length with h | h
  · have h1 := has_at (a := (0, 0)) (l := l) (j := k + 1) (t := t) (by omega)
    have e : ((0, 0) : At).1 + (k + 1) = k + 1 := Nat.zero_add _
    rw [e] at h1
    rw [h1, place0, decide_eq_true_eq]
    exact ⟨fun h2 => ⟨h, h2⟩, fun h2 => h2.2⟩
  · rw [has_out (.inr (by show 0 + l.length < k + 1; omega))]
    exact ⟨fun h2 => absurd h2 (by decide), fun h2 => absurd h2.1 (by omega)⟩
theorem right_rising {l : List En} (h : rightB (0, 0) l = true) : risingB l 0 = true := by
  rw [rightB_eq, Bool.and_eq_true] at h
  exact h.2
theorem right_of {l : List En} (h1 : l.length ≤ 16) (h2 : risingB l 0 = true) : rightB (0, 0) l = true := by
  rw [rightB_eq]
  show (true && decide (l.length ≤ 16) && decide (0 ≤ 18446744073709551614 - l.length) && risingB l 0) = true
  rw [h2, decide_eq_true h1, decide_eq_true (Nat.zero_le _)]
  rfl
theorem rising_txt : ∀ (l : List En) (t : Nat), risingB l t = true → ∀ e ∈ l, e.2.2.length ≤ 1024
  | [], _, _ => fun e he => absurd he (by simp)
  | x :: l, t, h => fun e he => by
    unfold risingB at h
    rw [Bool.and_eq_true, Bool.and_eq_true] at h
    rcases List.mem_cons.1 he with rfl | he
    · have h1 := h.1.1
      unfold placedB at h1
      split at h1
      · rw [Bool.and_eq_true, decide_eq_true_eq, decide_eq_true_eq] at h1
        omega
      · split at h1
        · rw [Bool.and_eq_true, decide_eq_true_eq, decide_eq_true_eq] at h1
          exact h1.2
        · cases h1
    · exact rising_txt l x.1 h.2 e he
theorem rising_cut {l : List En} {t : Nat} (h : risingB l t = true) (n : Nat) : risingB (l.take n) t = true ∧ risingB (l.drop n) (lastT (l.take n) t) = true := by
  have e1 := rising_app (l.take n) (l.drop n) t
  rw [List.take_append_drop, h] at e1
  have e1 := e1.symm
  rwa [Bool.and_eq_true] at e1
theorem rising_next {l : List En} (h : risingB l 0 = true) {n : Nat} (hn : n < l.length) : lastT (l.take n) 0 ≤ tmE l n := by
  have h1 := (rising_cut h n).2
  rw [List.drop_eq_getElem_cons hn] at h1
  unfold risingB at h1
  rw [Bool.and_eq_true, Bool.and_eq_true, decide_eq_true_eq] at h1
  have h2 := h1.1.2
  unfold tmE
  rw [List.getD, List.getElem?_eq_getElem hn]
  exact h2
/-- two logs, and of which terms they lead -/
structure Mt (t o p : Nat) (l m : List En) : Prop where
  rl : rightB (0, 0) l = true
  rm : rightB (0, 0) m = true
  tl : ∀ k, k < l.length → tmE l k ≤ t
  tm : ∀ k, k < m.length → tmE m k ≤ t
  ol : o ≤ t
  om : p ≤ t
  ne : o = p → o = 0
  mat : ∀ k, k < l.length → k < m.length → tmE l k = tmE m k → l.take (k + 1) = m.take (k + 1)
  cl : o ≠ 0 → ∀ k, k < m.length → tmE m k = o → k < l.length ∧ tmE l k = o
  cm : p ≠ 0 → ∀ k, k < l.length → tmE l k = p → k < m.length ∧ tmE m k = p
theorem Mt.swap {t o p : Nat} {l m : List En} (h : Mt t o p l m) : Mt t p o m l :=
  ⟨h.rm, h.rl, h.tm, h.tl, h.om, h.ol, fun e => by have := h.ne e.symm; omega, fun k h1 h2 h3 => (h.mat k h2 h1 h3.symm).symm, h.cm, h.cl⟩
theorem Mt.init : Mt 0 0 0 [] [] :=
  ⟨right_of (by decide) rfl, right_of (by decide) rfl, fun k hk => absurd hk (by simp), fun k hk => absurd hk (by simp), Nat.le_refl _, Nat.le_refl _, fun h => h, fun k hk => absurd hk (by simp), fun h => absurd rfl h, fun h => absurd rfl h⟩
/-- a new term -/
theorem Mt.own {t o p : Nat} {l m : List En} (h : Mt t o p l m) : Mt (t + 1) (t + 1) p l m :=
  ⟨h.rl, h.rm, fun k hk => by have := h.tl k hk; omega, fun k hk => by have := h.tm k hk; omega, Nat.le_refl _, by have := h.om; omega, fun e => by have := h.om; omega, h.mat, fun _ k hk e => by have := h.tm k hk; omega, h.cm⟩
/-- an entry of the own term -/
theorem Mt.app {t o p : Nat} {l m : List En} (h : Mt t o p l m) {x : En} (ho : o ≠ 0) (hx : x.1 = o) (hr : rightB (0, 0) (l ++ [x]) = true) : Mt t o p (l ++ [x]) m := by
  have hlen : (l ++ [x]).length = l.length + 1 := by simp
  have hcase : ∀ k, k < (l ++ [x]).length → (k < l.length ∧ tmE (l ++ [x]) k = tmE l k) ∨ (k = l.length ∧ tmE (l ++ [x]) k = o) := fun k hk => by
    rw [hlen] at hk
    rcases Nat.lt_or_ge k l.length with h1 | h1
    · exact .inl ⟨h1, tm_app h1⟩
    · have e : k = l.length := by omega
      subst e
      exact .inr ⟨rfl, by rw [tm_end, hx]⟩
  refine ⟨hr, h.rm, fun k hk => ?_, h.tm, h.ol, h.om, h.ne, fun k h1 h2 h3 => ?_, fun h0 k hk e => ?_, fun h0 k hk e => ?_⟩
  · rcases hcase k hk with ⟨h1, e⟩ | ⟨_, e⟩
    · rw [e]; exact h.tl k h1
    · rw [e]; exact h.ol
  · rcases hcase k h1 with ⟨h4, e⟩ | ⟨h4, e⟩
    · rw [List.take_append_of_le_length (by omega)]
      exact h.mat k h4 h2 (by rw [← e]; exact h3)
    · have := (h.cl ho k h2 (by rw [← h3]; exact e)).1
      omega
  · obtain ⟨h1, h2⟩ := h.cl h0 k hk e
    exact ⟨by omega, by rw [tm_app h1]; exact h2⟩
  · rcases hcase k hk with ⟨h4, e2⟩ | ⟨h4, e2⟩
    · exact h.cm h0 k h4 (by rw [← e2]; exact e)
    · exact absurd (h.ne (by rw [← e2]; exact e)) ho
theorem app_two {l : List En} {x : En} (hr : rightB (0, 0) l = true) (hp : placedB x = true) (hx : lastT l 0 ≤ x.1) :
    (app (0, 0) l x = (0, lastA (0, 0) (l ++ [x]), (0, 0), l ++ [x]) ∧ rightB (0, 0) (l ++ [x]) = true) ∨ app (0, 0) l x = (6, (0, 0), (0, 0), []) := by
  have hl := (right_fits hr).1
  unfold app
  rw [if_pos hr, if_pos ⟨hp, hx⟩]
  by_cases h16 : l.length = 16
  · rw [if_pos (.inl h16)]
    exact .inr rfl
  · rw [if_neg (by rintro (h | h); exact h16 h; have h : 0 + l.length = 18446744073709551614 := h; omega)]
    refine .inl ⟨rfl, right_of (by simp; omega) ?_⟩
    rw [rising_app, right_rising hr, Bool.true_and]
    unfold risingB
    rw [hp, decide_eq_true hx]
    rfl
theorem lastT_le {l : List En} {t : Nat} (h : ∀ k, k < l.length → tmE l k ≤ t) : lastT l 0 ≤ t := by
  rcases Nat.eq_zero_or_pos l.length with h0 | h0
  · rw [List.eq_nil_of_length_eq_zero h0]
    exact Nat.zero_le _
  · rw [lastT_tm l h0]
    exact h _ (by omega)
/-- what is sent from one log to the other -/
theorem Mt.send {t o p : Nat} {l m : List En} (h : Mt t o p l m) {q u : Nat} (hq : q + u ≤ l.length) {e : Int} {last : Nat} {b : At} {r : List En} (hs : spl (0, 0) m (placeN (0, 0) l q) ((l.drop q).take u) = (e, last, b, r)) :
    (e = 0 ∧ b = (0, 0) ∧ Mt t o p l r) ∨ e = 4 ∨ e = 6 := by
  obtain ⟨es, hes⟩ : ∃ es, (l.drop q).take u = es := ⟨_, rfl⟩
  obtain ⟨⟨pi, pu⟩, hp⟩ : ∃ x, placeN (0, 0) l q = x := ⟨_, rfl⟩
  have hel : es.length = u := by rw [← hes, List.length_take, List.length_drop]; omega
  have hll := (right_fits h.rl).1
  have hpf := placeN_fst (0, 0) l q
  rw [hp] at hpf
  have hpf : pi = 0 + q := hpf
  rw [Nat.zero_add] at hpf
  subst hpf
  have hrl := right_rising h.rl
  have hpu : lastT (l.take pi) 0 = pu := by
    have := lastT_take l 0 pi (by omega) 0
    rw [this, hp]
  have hri : risingB es pu = true := by
    rw [← hes, ← hpu]
    exact (rising_cut (rising_cut hrl pi).2 u).1
  have hget : ∀ i, i < u → (es.getD i default).1 = tmE l (pi + i) := fun i hi => by
    rw [← hes]
    unfold tmE
    rw [List.getD, List.getD, List.getElem?_take, if_pos hi, List.getElem?_drop]
  rw [hes, hp] at hs
  by_cases he : e = 0
  · subst he
    have hrr := join_right hs
    obtain ⟨_, _, hbad, _, hb, hform⟩ := spl_ok hs
    subst hb
    refine .inl ⟨rfl, rfl, ?_⟩
    rcases hform with ⟨_, rfl⟩ | ⟨i, _, hi, hhit, hno, hn, _, _, _, rfl⟩
    · exact h
    have hn : pi + i - 0 ≤ m.length := hn
    rw [Nat.sub_zero] at hn
    rw [hel] at hi
    have hpre : ∀ j, j ≤ i → pi + j ≤ m.length → l.take (pi + j) = m.take (pi + j) := fun j hj hjm => by
      rcases Nat.eq_zero_or_pos (pi + j) with h0 | h0
      · rw [h0]
        rfl
      · obtain ⟨k, hk⟩ : ∃ k, pi + j = k + 1 := ⟨pi + j - 1, by omega⟩
        rw [hk]
        refine h.mat k (by omega) (by omega) ?_
        rcases Nat.eq_zero_or_pos j with hj0 | hj0
        · subst hj0
          have hk : pi = k + 1 := by omega
          subst hk
          rw [place0] at hp
          injection hp with _ e2
          have hb2 : ¬ hasB (0, 0) m (k + 1, pu) = false := fun hc => hbad ⟨Nat.zero_le _, hc⟩
          have hb3 : hasB (0, 0) m (k + 1, pu) = true := by
            cases hc : hasB (0, 0) m (k + 1, pu)
            · exact absurd hc hb2
            · rfl
          rw [e2, (has0.1 hb3).2]
        · have h1 := hno (j - 1) (by omega)
          unfold hitB at h1
          rw [hget (j - 1) (by omega)] at h1
          have e1 : pi + (j - 1) = k := by omega
          have h2 : ((0, 0) : At).1 < (pi, pu).1 + (j - 1) + 1 := Nat.succ_pos _
          rw [decide_eq_true h2, Bool.true_and] at h1
          have h3 : hasB (0, 0) m (k + 1, tmE l k) = true := by
            have h4 : (pi, pu).1 + (j - 1) + 1 = k + 1 := by show pi + (j - 1) + 1 = _; omega
            rw [h4, e1] at h1
            simpa using h1
          exact (has0.1 h3).2.symm
    have hpre := hpre i (Nat.le_refl _) hn
    have hr : m.take (pi + i - 0) ++ es.drop i = l.take (pi + u) := by
      rw [Nat.sub_zero, ← hpre, ← hes, List.drop_take, List.drop_drop]
      have : pi + u = (pi + i) + (u - i) := by omega
      rw [this, List.take_add (i := pi + i)]
    have hr : m.take ((pi, pu).1 + i - ((0, 0) : At).1) ++ es.drop i = l.take (pi + u) := hr
    rw [hr] at hrr ⊢
    have hrl2 : (l.take (pi + u)).length = pi + u := by rw [List.length_take]; omega
    have hne : ¬ (pi + i < m.length ∧ tmE m (pi + i) = tmE l (pi + i)) := fun hc => by
      unfold hitB at hhit
      rw [hget i hi, has0.2 hc] at hhit
      simp at hhit
    refine ⟨h.rl, hrr, h.tl, fun k hk => ?_, h.ol, h.om, h.ne, fun k h1 h2 h3 => ?_, fun h0 k hk e => ?_, fun h0 k hk e => ?_⟩
    · rw [hrl2] at hk
      rw [tm_take hk]
      exact h.tl k (by omega)
    · rw [hrl2] at h2
      rw [List.take_take, Nat.min_eq_left (by omega)]
    · rw [hrl2] at hk
      rw [tm_take hk] at e
      exact ⟨by omega, e⟩
    · obtain ⟨h1, h2⟩ := h.cm h0 k hk e
      have h3 := h.mat k hk h1 (by rw [e, h2])
      rcases Nat.lt_or_ge k (pi + u) with h4 | h4
      · exact ⟨by rw [hrl2]; exact h4, by rw [tm_take h4]; exact e⟩
      · exact absurd ⟨by omega, (tm_eq h3 (by omega)).symm⟩ hne
  · refine .inr ?_
    unfold spl at hs
    rw [if_pos h.rm, if_pos ⟨by show pi ≤ _; omega, by show _ ≤ _ - pi; omega, hri⟩] at hs
    split at hs
    · injection hs with e1
      exact .inl e1.symm
    · rename_i hbad
      unfold spM at hs
      split at hs
      · injection hs with e1
        exact absurd e1.symm he
      · rename_i i hf
        split at hs
        · injection hs with e1
          exact .inl e1.symm
        · rename_i hfar
          split at hs
          · rename_i hlow
            exfalso
            have hfar : ¬ 0 + m.length + 1 < pi + i + 1 := hfar
            have hi : i < es.length := List.mem_range.1 (List.mem_of_find?_eq_some hf)
            rw [hel] at hi
            have hno : ∀ j, j < i → hitB (0, 0) m (pi, pu) es j = false := fun j hj => by
              have := List.find?_range_eq_some.1 hf
              have := this.2.2 j hj
              simpa using this
            have hpre : l.take (pi + i) = m.take (pi + i) := by
              rcases Nat.eq_zero_or_pos (pi + i) with h0 | h0
              · rw [h0]
                rfl
              · obtain ⟨k, hk⟩ : ∃ k, pi + i = k + 1 := ⟨pi + i - 1, by omega⟩
                rw [hk]
                refine h.mat k (by omega) (by omega) ?_
                rcases Nat.eq_zero_or_pos i with hj0 | hj0
                · subst hj0
                  have hk : pi = k + 1 := by omega
                  subst hk
                  rw [place0] at hp
                  injection hp with _ e2
                  have hb2 : ¬ hasB (0, 0) m (k + 1, pu) = false := fun hc => hbad ⟨Nat.zero_le _, hc⟩
                  have hb3 : hasB (0, 0) m (k + 1, pu) = true := by
                    cases hc : hasB (0, 0) m (k + 1, pu)
                    · exact absurd hc hb2
                    · rfl
                  rw [e2, (has0.1 hb3).2]
                · have h1 := hno (i - 1) (by omega)
                  unfold hitB at h1
                  rw [hget (i - 1) (by omega)] at h1
                  have e1 : pi + (i - 1) = k := by omega
                  have h2 : ((0, 0) : At).1 < (pi, pu).1 + (i - 1) + 1 := Nat.succ_pos _
                  rw [decide_eq_true h2, Bool.true_and] at h1
                  have h3 : hasB (0, 0) m (k + 1, tmE l k) = true := by
                    have h4 : (pi, pu).1 + (i - 1) + 1 = k + 1 := by show pi + (i - 1) + 1 = _; omega
                    rw [h4, e1] at h1
                    simpa using h1
                  exact (has0.1 h3).2.symm
            have hah := ahead_last (0, 0) m (pi + i) (by omega)
            have hlow : (es.getD i default).1 < aheadT (0, 0) m (pi + i) := hlow
            rw [hah, ← hpre, hget i hi] at hlow
            have hlow : tmE l (pi + i) < lastT (l.take (pi + i)) 0 := hlow
            have := rising_next hrl (n := pi + i) (by omega)
            omega
          · split at hs
            · injection hs with e1
              exact .inr e1.symm
            · injection hs with e1
              exact absurd e1.symm he
theorem frm_ok {l : List En} (hr : rightB (0, 0) l = true) {q n : Nat} (hq : q ≤ l.length) : frm (0, 0) l (1 + q) (n : Int) = (0, placeN (0, 0) l q, (l.drop q).take (min n (l.length - q))) := by
  unfold frm
  rw [if_pos hr, if_neg (fun h => h.elim (fun h => by have h : 1 + q ≤ 0 := h; omega) (fun h => by have h : 0 + l.length + 1 < 1 + q := h; omega)), if_neg (by omega)]
  have e : 1 + q - 1 - ((0, 0) : At).1 = q := by show 1 + q - 1 - 0 = q; omega
  rw [e, Int.toNat_natCast]
end Go.Proofs.Ytkdpfnaaopimoaa
