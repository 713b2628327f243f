/- What entry.Decode reads, said of the bytes. -/
import Derived.Test.YtleecfhafnfeoaaRdD
namespace Go.Proofs.Ytleecfhafnfeoaa
open Go.RowKit
set_option linter.unusedVariables false
set_option linter.unusedSimpArgs false

theorem Rstep.back {l t l1 : List UInt8} {why why1 : Int} {k : Nat} (h : Rstep l why (k : Nat) t l1 why1) (h0 : why1 = 0) : why = 0 ∧ k ≤ l.length ∧ t = l.take k ∧ l1 = l.drop k := by
  obtain ⟨ht, hl, hw, _⟩ := h
  unfold whyN at hw
  unfold tookN at ht hl
  by_cases hy : why = 0
  · by_cases hk : k ≤ l.length
    · rw [if_pos ⟨hy, by omega, by omega⟩] at ht hl
      exact ⟨hy, hk, by simpa using ht, by simpa using hl⟩
    · rw [if_pos hy, if_neg (by omega), if_pos (by omega)] at hw
      omega
  · rw [if_neg hy] at hw
    omega
theorem Rstep.fwd {l t l1 : List UInt8} {why why1 : Int} {k : Nat} (h : Rstep l why (k : Nat) t l1 why1) (h0 : why = 0) (hk : k ≤ l.length) : why1 = 0 := by
  obtain ⟨ht, hl, hw, _⟩ := h
  unfold whyN at hw
  rw [if_pos h0, if_neg (by omega), if_neg (by omega)] at hw
  exact hw
theorem num_one (l : List UInt8) (k : Nat) : num ((l.drop k).take 1) = (l.getD k 0).toNat := by
  have e : l.getD k 0 = (l.drop k).getD 0 0 := by simp [List.getD_eq_getElem?_getD]
  rw [e]
  cases l.drop k with
  | nil => rfl
  | cons a r => simp [num]
theorem Rstep.back1 {l t l1 : List UInt8} {why why1 : Int} (h : Rstep l why 1 t l1 why1) (h0 : why1 = 0) : why = 0 ∧ 1 ≤ l.length ∧ t = l.take 1 ∧ l1 = l.drop 1 := Rstep.back (k := 1) h h0
theorem Rstep.fwd1 {l t l1 : List UInt8} {why why1 : Int} (h : Rstep l why 1 t l1 why1) (h0 : why = 0) (hk : 1 ≤ l.length) : why1 = 0 := Rstep.fwd (k := 1) h h0 hk

theorem chain_back {l t1 t2 t3 t4 t5 t6 t7 t8 t9 l9 : List UInt8} {y9 : Int} (h : Chain l t1 t2 t3 t4 t5 t6 t7 t8 t9 l9 y9) (h0 : y9 = 0) :
    ¬ short l ∧ t1 = l.take 1 ∧ t2 = (l.drop 1).take 1 ∧ t3 = (l.drop 2).take 4 ∧ t4 = (l.drop 6).take 1 ∧ t5 = (l.drop 7).take (bOf l) ∧ t6 = (l.drop (7 + bOf l)).take 32 ∧ t7 = (l.drop (39 + bOf l)).take 32 ∧ t8 = (l.drop (71 + bOf l)).take 2 ∧ t9 = (l.drop (73 + bOf l)).take (mOf l) ∧ l9 = l.drop (73 + bOf l + mOf l) := by
  obtain ⟨l1, y1, l2, y2, l3, y3, l4, y4, l5, y5, l6, y6, l7, y7, l8, y8, s1, s2, s3, s4, s5, s6, s7, s8, s9⟩ := h.is
  obtain ⟨z8, n9, e9, f9⟩ := s9.back h0
  obtain ⟨z7, n8, e8, f8⟩ := Rstep.back (k := 2) s8 z8
  obtain ⟨z6, n7, e7, f7⟩ := Rstep.back (k := 32) s7 z7
  obtain ⟨z5, n6, e6, f6⟩ := Rstep.back (k := 32) s6 z6
  obtain ⟨z4, n5, e5, f5⟩ := s5.back z5
  obtain ⟨z3, n4, e4, f4⟩ := s4.back1 z4
  obtain ⟨z2, n3, e3, f3⟩ := Rstep.back (k := 4) s3 z3
  obtain ⟨z1, n2, e2, f2⟩ := s2.back1 z2
  obtain ⟨_, n1, e1, f1⟩ := s1.back1 z1
  rw [f1] at n2 e2 f2
  rw [List.drop_drop] at f2
  rw [f2] at n3 e3 f3
  rw [List.drop_drop] at f3
  rw [f3] at n4 e4 f4
  rw [List.drop_drop] at f4
  rw [f4] at n5 e5 f5
  have hb : num t4 = bOf l := by rw [e4, num_one]; rfl
  rw [hb, List.drop_drop] at f5
  rw [hb] at e5 n5
  rw [f5] at n6 e6 f6
  rw [List.drop_drop] at f6
  rw [f6] at n7 e7 f7
  rw [List.drop_drop] at f7
  rw [f7] at n8 e8 f8
  rw [List.drop_drop] at f8
  have q7 : 1 + 1 + 4 + 1 + bOf l + 32 + 32 = 71 + bOf l := by omega
  have q6 : 1 + 1 + 4 + 1 + bOf l + 32 = 39 + bOf l := by omega
  have q8 : 1 + 1 + 4 + 1 + bOf l + 32 + 32 + 2 = 73 + bOf l := by omega
  have q5 : 1 + 1 + 4 + 1 + bOf l = 7 + bOf l := by omega
  rw [q7] at e8
  have hm : num t8 = mOf l := by rw [e8]; rfl
  rw [f8, q8] at n9 e9 f9
  rw [hm] at n9 e9 f9
  rw [List.drop_drop] at f9
  rw [q6] at e7
  rw [q5] at e6
  simp only [List.length_drop] at n1 n2 n3 n4 n5 n6 n7 n8 n9
  exact ⟨by unfold short; omega, e1, e2, e3, e4, e5, e6, e7, e8, e9, f9⟩
theorem chain_fwd {l t1 t2 t3 t4 t5 t6 t7 t8 t9 l9 : List UInt8} {y9 : Int} (h : Chain l t1 t2 t3 t4 t5 t6 t7 t8 t9 l9 y9) (hs : ¬ short l) : y9 = 0 := by
  obtain ⟨l1, y1, l2, y2, l3, y3, l4, y4, l5, y5, l6, y6, l7, y7, l8, y8, s1, s2, s3, s4, s5, s6, s7, s8, s9⟩ := h.is
  unfold short at hs
  have z1 := s1.fwd1 rfl (by omega)
  obtain ⟨_, n1, e1, f1⟩ := s1.back1 z1
  have z2 := s2.fwd1 z1 (by rw [f1, List.length_drop]; omega)
  obtain ⟨_, n2, e2, f2⟩ := s2.back1 z2
  rw [f1, List.drop_drop] at f2
  have z3 := Rstep.fwd (k := 4) s3 z2 (by rw [f2, List.length_drop]; omega)
  obtain ⟨_, n3, e3, f3⟩ := Rstep.back (k := 4) s3 z3
  rw [f2, List.drop_drop] at f3
  have z4 := s4.fwd1 z3 (by rw [f3, List.length_drop]; omega)
  obtain ⟨_, n4, e4, f4⟩ := s4.back1 z4
  rw [f3, List.drop_drop] at f4
  rw [f3] at e4
  have hb : num t4 = bOf l := by rw [e4, num_one]; rfl
  have z5 := s5.fwd z4 (by rw [f4, List.length_drop, hb]; omega)
  obtain ⟨_, n5, e5, f5⟩ := s5.back z5
  rw [f4, List.drop_drop, hb] at f5
  have z6 := Rstep.fwd (k := 32) s6 z5 (by rw [f5, List.length_drop]; omega)
  obtain ⟨_, n6, e6, f6⟩ := Rstep.back (k := 32) s6 z6
  rw [f5, List.drop_drop] at f6
  have z7 := Rstep.fwd (k := 32) s7 z6 (by rw [f6, List.length_drop]; omega)
  obtain ⟨_, n7, e7, f7⟩ := Rstep.back (k := 32) s7 z7
  rw [f6, List.drop_drop] at f7
  have z8 := Rstep.fwd (k := 2) s8 z7 (by rw [f7, List.length_drop]; omega)
  obtain ⟨_, n8, e8, f8⟩ := Rstep.back (k := 2) s8 z8
  rw [f7, List.drop_drop] at f8
  rw [f7, show 1 + 1 + 4 + 1 + bOf l + 32 + 32 = 71 + bOf l by omega] at e8
  have hm : num t8 = mOf l := by rw [e8]; rfl
  exact s9.fwd z8 (by rw [f8, List.length_drop, hm]; omega)

theorem decP_of {l : List UInt8} {x : Dx} (h : DecI l x) : DecP l x := by
  obtain ⟨t1, t2, t3, t4, t5, t6, t7, t8, t9, l9, y9, hc, h⟩ := h
  rcases h with ⟨hy, hx⟩ | ⟨hy, hr, hx⟩ | ⟨hy, hr, hrt, h1, h2, h3⟩
  · exact .inl ⟨Classical.byContradiction fun hs => hy (chain_fwd hc hs), hx⟩
  all_goals
    obtain ⟨hs, e1, e2, e3, e4, e5, e6, e7, e8, e9, f9⟩ := chain_back hc hy
    have hs' := hs
    unfold short at hs'
    have g1 : num t1 = (l.getD 0 0).toNat := by rw [e1]; exact num_one l 0
    have g2 : num t2 = (l.getD 1 0).toNat := by rw [e2]; exact num_one l 1
    have g6 : idOf t6 = t6 := idOf_all (by rw [e6, List.length_take, List.length_drop]; omega)
    have g7 : idOf t7 = t7 := idOf_all (by rw [e7, List.length_take, List.length_drop]; omega)
    have hl9 : l9.length = l.length - (73 + bOf l + mOf l) := by rw [f9, List.length_drop]
    have hv : (⟨(num t1 : Nat), (num t2 : Nat), num t3, ⟨t5.toArray⟩, idOf t6, idOf t7, t9⟩ : Cv) = decV l := by
      rw [g1, g2, g6, g7, e3, e5, e6, e7, e9]
      rfl
    have hR : rightV (decV l) = rightB (num t1 : Nat) (num t2 : Nat) (num t3) t5 (idOf t6) (idOf t7) t9.length := by
      rw [← hv]
      rfl
  · refine .inr (.inl ⟨hs, ?_, hx⟩)
    rcases hr with hr | hr
    · exact .inl (by omega)
    · exact .inr (by rw [hR]; exact hr)
  · have h9 : t9.length = mOf l := by rw [e9, List.length_take, List.length_drop]; omega
    exact .inr (.inr ⟨hs, by omega, by rw [hR]; exact hrt, h1, by rw [h2, hv], by rw [h3, h9]⟩)
/-- two readings of the same bytes -/
theorem DecP.same {l : List UInt8} {x y : Dx} (h : DecP l x) (h' : DecP l y) : x.err = y.err ∧ x.v = y.v ∧ x.n = y.n := by
  rcases h with ⟨h1, rfl⟩ | ⟨h1, h2, rfl⟩ | ⟨h1, h2, h3, h4, h5, h6⟩ <;> rcases h' with ⟨g1, rfl⟩ | ⟨g1, g2, rfl⟩ | ⟨g1, g2, g3, g4, g5, g6⟩
  · exact ⟨rfl, rfl, rfl⟩
  · exact absurd h1 g1
  · exact absurd h1 g1
  · exact absurd g1 h1
  · exact ⟨rfl, rfl, rfl⟩
  · rcases h2 with h2 | h2
    · omega
    · rw [h2] at g3; cases g3
  · exact absurd g1 h1
  · rcases g2 with g2 | g2
    · omega
    · rw [g2] at h3; cases h3
  · exact ⟨by rw [h4, g4], by rw [h5, g5], by rw [h6, g6]⟩
end Go.Proofs.Ytleecfhafnfeoaa
