/- Messages: what Check asks is what the document's Right asks. -/
import Derived.Test.YtdbehejbeioboaaDoorFr4
namespace Go.Proofs.YtdbehejbeioboaaDoor
open Go.RowKit
open Asn (pt row rb)
set_option linter.unusedVariables false
set_option linter.unusedSimpArgs false
--@use N

/-- may a message be? -/
def rightM (x : Ms) : Bool := (mgL x x.es.length x.cf.length x.dt.length).all id
theorem fld_pos (K : Int) : 0 < fldN K ↔ 1 ≤ K ∧ K ≤ 7 := by
  unfold fldN
  constructor
  · intro h
    split at h
    · omega
    split at h
    · omega
    split at h
    · omega
    split at h
    · omega
    split at h
    · omega
    · omega
  · intro h
    split
    · decide
    split
    · decide
    split
    · decide
    split
    · decide
    split
    · decide
    · omega
theorem zer_bits (K : Int) (h : K = 1 ∨ K = 2 ∨ K = 3 ∨ K = 4 ∨ K = 5 ∨ K = 6 ∨ K = 7) : ∀ b0 b1 b2 b3 b4 b5 b6 : Bool, (bitsN [(!b0, 1), (b1, 2), (b2, 4), (b3, 8), (b4, 16), (b5, 32), (b6, 64)] 0 &&& (127 - fldN K) = 0) ↔ [decide (K = 1) || decide (K = 3) || decide (K = 5) || decide (K = 7) || b0, decide (K = 2) || decide (K = 4) || decide (K = 6) || !b1, decide (K = 5) || (!b2 && !b3), decide (K = 6) || !b4, decide (K = 7) || (!b5 && !b6)].all id = true := by
  rcases h with rfl | rfl | rfl | rfl | rfl | rfl | rfl
  · decide +kernel
  · decide +kernel
  · decide +kernel
  · decide +kernel
  · decide +kernel
  · decide +kernel
  · decide +kernel
theorem dz (n : Nat) : decide (n = 0) = !decide (0 < n) := by
  rw [Bool.eq_iff_iff]
  simp
theorem zer_set (x : Ms) (h : 1 ≤ x.K ∧ x.K ≤ 7) : (setN x &&& (127 - fldN x.K) = 0) ↔ (zerL x x.es.length x.cf.length x.dt.length).all id = true := by
  have h1 := zer_bits x.K (by omega) (decide (x.pl = (0, 0))) x.ok (decide (0 < x.es.length)) (decide (0 < x.cm)) (decide (0 < x.ix)) (decide (0 < x.cf.length)) (decide (0 < x.dt.length))
  unfold setN setL zerL
  rw [dz, dz, dz, dz, dz]
  exact h1
theorem snd_iff (K : Int) (tm a t n : Nat) : sndB K tm a t n = true ↔ (!(decide ((a : Int) = 0) != decide ((t : Int) = 0))) = true ∧ t ≤ tm ∧ ¬ (K = 1 ∧ t = tm) ∧ ¬ (K = 7 ∧ t = 0) ∧ a ≤ 18446744073709551614 - n := by
  unfold sndB
  by_cases h1 : K = 1
  · rw [if_pos h1]
    simp
    omega
  · rw [if_neg h1]
    by_cases h7 : K = 7
    · rw [if_pos h7]
      simp
      omega
    · rw [if_neg h7]
      simp
      omega
theorem rising_last : ∀ (l : List En) (t tm : Nat), risingB l t = true → l ≠ [] → (lastT l t ≤ tm ↔ (l.all fun e => decide (e.1 ≤ tm)) = true)
  | [], _, _, _, h => absurd rfl h
  | [e], t, tm, _, _ => by
    show e.1 ≤ tm ↔ _
    simp
  | e :: f :: l, t, tm, h, _ => by
    have h2 : risingB (f :: l) e.1 = true := by
      unfold risingB at h
      rw [Bool.and_eq_true] at h
      exact h.2
    have ih := rising_last (f :: l) e.1 tm h2 (by simp)
    have e1 : lastT (e :: f :: l) t = lastT (f :: l) e.1 := by
      have := lastT_app [e] (f :: l) t
      exact this
    have h3 : e.1 ≤ f.1 := by
      unfold risingB at h2
      simp only [Bool.and_eq_true, decide_eq_true_eq] at h2
      exact h2.1.2
    rw [e1, ih, List.all_cons (a := e), Bool.and_eq_true]
    constructor
    · intro h4
      refine ⟨?_, h4⟩
      rw [List.all_cons, Bool.and_eq_true, decide_eq_true_eq] at h4
      exact decide_eq_true (by omega)
    · exact fun h4 => h4.2
theorem ris_iff (a t : Nat) (es : List En) (tm : Nat) (h0 : (!(decide ((a : Int) = 0) != decide ((t : Int) = 0))) = true) (h8 : es.length ≤ 8) (ha : a ≤ 18446744073709551614 - es.length) (ht : t ≤ tm) :
    (decide (es.length = 0) || decide (chkE (a, t) es tm = 0)) = true ↔ risT es t tm = true := by
  by_cases hn : es = []
  · subst hn
    simp [risT, risingB]
  · have hl : es.length ≠ 0 := fun h => hn (List.eq_nil_of_length_eq_zero h)
    rw [decide_eq_false hl, Bool.false_or, decide_eq_true_eq]
    have hb : (decide (((a, t) : At) = (0, 0)) || (decide (0 < a) && decide (0 < t))) = true := by
      simp at h0 ⊢
      omega
    have hr : rightB (a, t) es = risingB es t := by
      unfold rightB
      dsimp only
      rw [hb, decide_eq_true (show es.length ≤ 16 by omega), decide_eq_true ha]
      rfl
    unfold chkE risT
    rw [hr, Bool.and_eq_true]
    cases hq : risingB es t
    · simp
    · rw [if_pos rfl, ← rising_last es t tm hq hn]
      show ((if tm < lastT es t then (2 : Int) else 0) = 0) ↔ _
      split
      · simp; omega
      · simp; omega
theorem check_right (x : Ms) : (chkL x x.es.length x.dt.length x.cf.length).all id = rightM x := by
  unfold rightM
  rw [Bool.eq_iff_iff]
  unfold chkL mgL
  simp only [List.all_cons, List.all_nil, id, Bool.and_eq_true, decide_eq_true_eq, and_true]
  rw [snd_iff, fld_pos]
  constructor
  · rintro ⟨hK, hz, ⟨hF1, hF5⟩, ⟨hT1, hT5⟩, hFT, h0, h62, ⟨hb, htt, hk1, hk7, ha⟩, hn, hd, hc, hck, hall⟩
    exact ⟨hK.1, hK.2, by simpa only [List.all_cons, List.all_nil, id, Bool.and_eq_true, and_true] using (zer_set x hK).1 hz, hF1, hF5, hT1, hT5, hFT, h0, h62, hb, htt, hk1, hk7, hn, hc, hd, (ris_iff _ _ _ _ hb hn ha htt).1 hck, ha, hall⟩
  · rintro ⟨hK1, hK7, hz, hF1, hF5, hT1, hT5, hFT, h0, h62, hb, htt, hk1, hk7, hn, hc, hd, hr, ha, hall⟩
    exact ⟨⟨hK1, hK7⟩, (zer_set x ⟨hK1, hK7⟩).2 hz, ⟨hF1, hF5⟩, ⟨hT1, hT5⟩, hFT, h0, h62, ⟨hb, htt, hk1, hk7, ha⟩, hn, hd, hc, (ris_iff _ _ _ _ hb hn ha htt).2 hr, hall⟩
/-- Check, told by rightM -/
theorem checkM_any (w : World) (x : Ms) (p : Mp) (h : MsR w x p) (r : Bool) (hr : rightM x = r) :
    Gives Tryd.prog 13 [.agg (mgc x p).toArray] [] w (X := Unit) (fun _ => .int .i64 (if r = true then 0 else 230)) (fun _ => True) (fun _ => []) :=
  checkM_k w x p h r (by rw [← hr, ← check_right, h.ln, h.dn, h.hc])
theorem rightM_any (w : World) (x : Ms) (p : Mp) (h : MsR w x p) (r : Bool) (hr : rightM x = r) :
    Gives Tryd.prog 14 [.agg (mgc x p).toArray] [] w (X := Unit) (fun _ => .bool r) (fun _ => True) (fun _ => []) :=
  rightM_k w x p h r (by rw [← hr]; unfold rightM; rw [h.ln, h.dn, h.hc])
end Go.Proofs.YtdbehejbeioboaaDoor
