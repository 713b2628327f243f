/- Digests: plain laws of texts and of the order. -/
import Derived.Test.YtemgfoakffappaaDoorSh6
namespace Go.Proofs.YtemgfoakffappaaDoor
open Go.RowKit
set_option linter.unusedVariables false
set_option linter.unusedSimpArgs false
theorem dig_sgn {q : Nat} (h : q < 16) : digR (sgn q).toNat = q := by
  have : ∀ q : Fin 16, digR (sgn q).toNat = q := by decide
  exact this ⟨q, h⟩
theorem sgn_dig {c : UInt8} (h : digR c.toNat < 16) : sgn (digR c.toNat) = c := by
  have h1 : (List.range 16).findIdx (fun q => (sgn q).toNat == c.toNat) < (List.range 16).length := by simpa [digR] using h
  have h2 := List.findIdx_getElem (w := h1)
  simp only [List.getElem_range, beq_iff_eq] at h2
  exact UInt8.toNat_inj.1 h2
theorem textL_at : ∀ (l : List UInt8) (k : Nat), k < l.length → (textL l).getD (2 * k) 0 = sgn ((l.getD k 0).toNat / 16) ∧ (textL l).getD (2 * k + 1) 0 = sgn ((l.getD k 0).toNat % 16)
  | [], k, h => by simp at h
  | x :: l, 0, h => ⟨rfl, rfl⟩
  | x :: l, k + 1, h => by
    have ih := textL_at l k (by simpa using h)
    have e : textL (x :: l) = sgn (x.toNat / 16) :: sgn (x.toNat % 16) :: textL l := rfl
    rw [e, show 2 * (k + 1) = 2 * k + 1 + 1 by omega, show 2 * k + 1 + 1 + 1 = 2 * k + 1 + 1 + 1 from rfl]
    simpa using ih
theorem text_all {l : List UInt8} (hl : l.length = 32) : ∀ k, k < 64 → digR ((textL l).getD k 0).toNat < 16 := fun k hk => by
  have h := textL_at l (k / 2) (by omega)
  have hc := UInt8.toNat_lt (l.getD (k / 2) 0)
  rcases Nat.mod_two_eq_zero_or_one k with h2 | h2
  · rw [show k = 2 * (k / 2) by omega, h.1, dig_sgn (by omega)]
    omega
  · rw [show k = 2 * (k / 2) + 1 by omega, h.2, dig_sgn (by omega)]
    omega
theorem text_ok {l : List UInt8} (hl : l.length = 32) : okL (textL l) = true := okL_good (by rw [textL_len, hl]) (text_all hl)
theorem getD_ext {a b : List UInt8} {n : Nat} (ha : a.length = n) (hb : b.length = n) (h : ∀ k, k < n → a.getD k 0 = b.getD k 0) : a = b := by
  apply List.ext_getElem (by omega)
  intro i h1 h2
  have := h i (by omega)
  simpa [List.getD, h1, h2] using this
theorem text_halves {l : List UInt8} (hl : l.length = 32) : halves (digsL (textL l)) 64 = l := by
  refine getD_ext (halves_len _ _) hl fun k hk => ?_
  have h := textL_at l k (by omega)
  have hc := UInt8.toNat_lt (l.getD k 0)
  have ht : (textL l).length = 64 := by rw [textL_len, hl]
  rw [halves_at _ hk, if_pos (by omega), digs_at (by omega), digs_at (by omega), h.1, h.2, dig_sgn (by omega), dig_sgn (by omega)]
  apply UInt8.toNat_inj.1
  rw [UInt8.toNat_ofNat']
  omega
theorem text_parse {l : List UInt8} (hl : l.length = 32) : (parseL (textL l)).getD noId = l := by
  rw [parseL, if_pos (text_ok hl), text_halves hl]
  rfl
theorem okL_parts {l : List UInt8} (h : okL l = true) : l.length = 64 ∧ ∀ k, k < 64 → digR (l.getD k 0).toNat < 16 := by
  unfold okL at h
  rw [Bool.and_eq_true, List.all_eq_true] at h
  have hl : l.length = 64 := by simpa using h.1
  refine ⟨hl, fun k hk => ?_⟩
  have := h.2 l[k] (List.getElem_mem (by omega))
  simp only [decide_eq_true_eq] at this
  simpa [List.getD, show k < l.length by omega] using this
theorem parse_text {l : List UInt8} (h : okL l = true) : textL ((parseL l).getD noId) = l := by
  obtain ⟨hl, hg⟩ := okL_parts h
  rw [parseL, if_pos h]
  show textL (halves (digsL l) 64) = l
  refine getD_ext (by rw [textL_len, halves_len]) hl fun k hk => ?_
  have h1 := textL_at (halves (digsL l) 64) (k / 2) (by rw [halves_len]; omega)
  have e : (halves (digsL l) 64).getD (k / 2) 0 = UInt8.ofNat (16 * digR (l.getD (2 * (k / 2)) 0).toNat + digR (l.getD (2 * (k / 2) + 1) 0).toNat) := by
    rw [halves_at _ (by omega), if_pos (by omega), digs_at (by omega), digs_at (by omega)]
  have g1 := hg (2 * (k / 2)) (by omega)
  have g2 := hg (2 * (k / 2) + 1) (by omega)
  have ev : ((halves (digsL l) 64).getD (k / 2) 0).toNat = 16 * digR (l.getD (2 * (k / 2)) 0).toNat + digR (l.getD (2 * (k / 2) + 1) 0).toNat := by
    rw [e, UInt8.toNat_ofNat']
    omega
  rcases Nat.mod_two_eq_zero_or_one k with h2 | h2
  · have ek : k = 2 * (k / 2) := by omega
    rw [ek, h1.1, ev, show (16 * digR (l.getD (2 * (k / 2)) 0).toNat + digR (l.getD (2 * (k / 2) + 1) 0).toNat) / 16 = digR (l.getD (2 * (k / 2)) 0).toNat by omega, sgn_dig g1]
  · have ek : k = 2 * (k / 2) + 1 := by omega
    rw [ek, h1.2, ev, show (16 * digR (l.getD (2 * (k / 2)) 0).toNat + digR (l.getD (2 * (k / 2) + 1) 0).toNat) % 16 = digR (l.getD (2 * (k / 2) + 1) 0).toNat by omega, sgn_dig g2]
theorem parse_len (l : List UInt8) : ((parseL l).getD noId).length = 32 := by
  unfold parseL
  split
  · exact halves_len _ _
  · rfl

/-! the order -/
theorem less_asymm : ∀ (a b : List UInt8), Op.bytesLess a b = true → Op.bytesLess b a = true → False
  | _, [], h, _ => by simp [Op.bytesLess] at h
  | [], _ :: _, _, h => by simp [Op.bytesLess] at h
  | x :: a, y :: b, h1, h2 => by
    simp only [Op.bytesLess, Bool.or_eq_true, decide_eq_true_eq, Bool.and_eq_true, beq_iff_eq, UInt8.lt_iff_toNat_lt] at h1 h2
    rcases h1 with h1 | ⟨rfl, h1⟩
    · rcases h2 with h2 | ⟨rfl, _⟩ <;> omega
    · rcases h2 with h2 | ⟨_, h2⟩
      · omega
      · exact less_asymm a b h1 h2
theorem less_total : ∀ (a b : List UInt8), a ≠ b → Op.bytesLess a b = true ∨ Op.bytesLess b a = true
  | [], [], h => absurd rfl h
  | [], _ :: _, _ => .inl rfl
  | _ :: _, [], _ => .inr rfl
  | x :: a, y :: b, h => by
    simp only [Op.bytesLess, Bool.or_eq_true, decide_eq_true_eq, Bool.and_eq_true, beq_iff_eq, UInt8.lt_iff_toNat_lt]
    by_cases hx : x = y
    · subst hx
      rcases less_total a b (fun e => h (by rw [e])) with h1 | h1
      · exact .inl (.inr ⟨rfl, h1⟩)
      · exact .inr (.inr ⟨rfl, h1⟩)
    · have : x.toNat ≠ y.toNat := fun e => hx (UInt8.toNat_inj.1 e)
      rcases Nat.lt_or_ge x.toNat y.toNat with h1 | h1
      · exact .inl (.inl h1)
      · exact .inr (.inl (by omega))
theorem less_trans : ∀ (a b c : List UInt8), Op.bytesLess a b = true → Op.bytesLess b c = true → Op.bytesLess a c = true
  | _, [], _, h, _ => by simp [Op.bytesLess] at h
  | _, _ :: _, [], _, h => by simp [Op.bytesLess] at h
  | [], _ :: _, _ :: _, _, _ => rfl
  | x :: a, y :: b, z :: c, h1, h2 => by
    simp only [Op.bytesLess, Bool.or_eq_true, decide_eq_true_eq, Bool.and_eq_true, beq_iff_eq, UInt8.lt_iff_toNat_lt] at h1 h2 ⊢
    rcases h1 with h1 | ⟨rfl, h1⟩
    · rcases h2 with h2 | ⟨rfl, h2⟩
      · exact .inl (by omega)
      · exact .inl h1
    · rcases h2 with h2 | ⟨rfl, h2⟩
      · exact .inl h2
      · exact .inr ⟨rfl, less_trans a b c h1 h2⟩
theorem sgn_lt {p q : Nat} (hp : p < 16) (hq : q < 16) : (sgn p < sgn q ↔ p < q) ∧ (sgn p = sgn q ↔ p = q) := by
  have : ∀ p q : Fin 16, (sgn p < sgn q ↔ p.1 < q.1) ∧ (sgn p = sgn q ↔ p.1 = q.1) := by decide
  exact this ⟨p, hp⟩ ⟨q, hq⟩
theorem less_text : ∀ (a b : List UInt8), a.length = b.length → Op.bytesLess (textL a) (textL b) = Op.bytesLess a b
  | [], [], _ => rfl
  | [], _ :: _, h => by simp at h
  | _ :: _, [], h => by simp at h
  | x :: a, y :: b, h => by
    have ih := less_text a b (by simpa using h)
    have e1 : textL (x :: a) = sgn (x.toNat / 16) :: sgn (x.toNat % 16) :: textL a := rfl
    have e2 : textL (y :: b) = sgn (y.toNat / 16) :: sgn (y.toNat % 16) :: textL b := rfl
    have hx := x.toNat_lt
    have hy := y.toNat_lt
    obtain ⟨l1, q1⟩ := sgn_lt (p := x.toNat / 16) (q := y.toNat / 16) (by omega) (by omega)
    obtain ⟨l2, q2⟩ := sgn_lt (p := x.toNat % 16) (q := y.toNat % 16) (by omega) (by omega)
    rw [e1, e2, Bool.eq_iff_iff]
    simp only [Op.bytesLess, Bool.or_eq_true, decide_eq_true_eq, Bool.and_eq_true, beq_iff_eq, l1, q1, l2, q2, ih, UInt8.lt_iff_toNat_lt, ← UInt8.toNat_inj]
    constructor
    · rintro (h1 | ⟨h1, h2 | ⟨h2, h3⟩⟩)
      · exact .inl (by omega)
      · exact .inl (by omega)
      · exact .inr ⟨by omega, h3⟩
    · rintro (h1 | ⟨h1, h3⟩)
      · by_cases h4 : x.toNat / 16 = y.toNat / 16
        · exact .inr ⟨h4, .inl (by omega)⟩
        · exact .inl (by omega)
      · exact .inr ⟨by omega, .inr ⟨by omega, h3⟩⟩
end Go.Proofs.YtemgfoakffappaaDoor
