/- Encode's bytes and the command say the same. -/
import Derived.Test.YtleecfhafnfeoaaEnD
namespace Go.Proofs.Ytleecfhafnfeoaa
open Go.RowKit
set_option linter.unusedVariables false
set_option linter.unusedSimpArgs false

theorem be_num1 : ∀ (n : Nat) (l : List UInt8), l.length = n → be n (num l) = l
  | 0, l, h => by
    rw [List.eq_nil_of_length_eq_zero h]
    rfl
  | n + 1, l, h => by
    obtain ⟨l', a, rfl⟩ : ∃ l' a, l = l' ++ [a] := ⟨l.dropLast, l.getLast (by intro e; rw [e] at h; cases h), (List.dropLast_concat_getLast _).symm⟩
    have h' : l'.length = n := by simpa using h
    have ha := UInt8.toNat_lt a
    rw [num_snoc, be]
    have e1 : (num l' * 256 + a.toNat) / 256 = num l' := by omega
    have e2 : UInt8.ofNat (num l' * 256 + a.toNat) = a := by
      apply UInt8.toNat_inj.1
      rw [UInt8.toNat_ofNat']
      omega
    rw [e1, e2, be_num1 n l' h']
theorem bytes_split (l : List UInt8) (b m : Nat) (h : l.length = 73 + b + m) : l = (l.drop 0).take 1 ++ (l.drop 1).take 1 ++ (l.drop 2).take 4 ++ (l.drop 6).take 1 ++ (l.drop 7).take b ++ (l.drop (7 + b)).take 32 ++ (l.drop (39 + b)).take 32 ++ (l.drop (71 + b)).take 2 ++ (l.drop (73 + b)).take m := by
  have step : ∀ (a b c : Nat), a + b = c → (l.drop a) = (l.drop a).take b ++ l.drop c := fun a b c e => by rw [← e, ← List.drop_drop, List.take_append_drop]
  have e9 : l.drop (73 + b) = (l.drop (73 + b)).take m := by rw [List.take_of_length_le (by simp [h])]
  simp only [List.append_assoc]
  rw [← e9, ← step (71 + b) 2 (73 + b) (by omega), ← step (39 + b) 32 (71 + b) (by omega), ← step (7 + b) 32 (39 + b) (by omega), ← step 7 b (7 + b) rfl, ← step 6 1 7 rfl, ← step 2 4 6 rfl, ← step 1 1 2 rfl, ← step 0 1 1 rfl]
  rfl
theorem kb_get (l : List UInt8) (j : Nat) (h : j < l.length) : [kb ((l.getD j 0).toNat : Nat)] = (l.drop j).take 1 := by
  rw [List.drop_eq_getElem_cons h]
  have e : l.getD j 0 = l[j] := by simp [List.getD_eq_getElem?_getD, h]
  rw [e]
  have e2 : kb ((l[j].toNat : Nat) : Int) = l[j] := by
    apply UInt8.toNat_inj.1
    have h0 := UInt8.toNat_lt l[j]
    have := kb_nat (l[j].toNat : Nat) (by omega) (by omega)
    omega
  rw [e2]
  rfl
/-- the bytes again -/
theorem dec_enc {l : List UInt8} (h : l.length = 73 + bOf l + mOf l) : encB (decV l).k (decV l).c (decV l).s (bl (decV l).br) (decV l).old (decV l).new (decV l).d = l := by
  have e1 : bl (decV l).br = (l.drop 7).take (bOf l) := rfl
  have e2 : ((l.drop 7).take (bOf l)).length = bOf l := by rw [List.length_take, List.length_drop]; omega
  have e3 : ((l.drop (73 + bOf l)).take (mOf l)).length = mOf l := by rw [List.length_take, List.length_drop]; omega
  rw [e1]
  show encB ((l.getD 0 0).toNat : Nat) ((l.getD 1 0).toNat : Nat) (num ((l.drop 2).take 4)) ((l.drop 7).take (bOf l)) ((l.drop (7 + bOf l)).take 32) ((l.drop (39 + bOf l)).take 32) ((l.drop (73 + bOf l)).take (mOf l)) = l
  unfold encB
  rw [e2, e3, be_num1 4 _ (by rw [List.length_take, List.length_drop]; omega)]
  have e4 : be 2 (mOf l) = (l.drop (71 + bOf l)).take 2 := be_num1 2 _ (by rw [List.length_take, List.length_drop]; omega)
  have e5 : [kb (bOf l : Nat)] = (l.drop 6).take 1 := kb_get l 6 (by omega)
  have e6 : [kb ((l.getD 0 0).toNat : Nat), kb ((l.getD 1 0).toNat : Nat)] = (l.drop 0).take 1 ++ (l.drop 1).take 1 := by
    rw [← kb_get l 0 (by omega), ← kb_get l 1 (by omega)]
    rfl
  rw [e4, e5, e6]
  exact (bytes_split l (bOf l) (mOf l) h).symm
theorem DecP.enc {l : List UInt8} {x : Dx} (h : DecP l x) (h0 : x.err = 0) : rightB x.v.k x.v.c x.v.s (bl x.v.br) x.v.old x.v.new x.n = true ∧ encB x.v.k x.v.c x.v.s (bl x.v.br) x.v.old x.v.new x.v.d = l := by
  have hok := h.ok
  rcases h with ⟨_, rfl⟩ | ⟨_, _, rfl⟩ | ⟨h1, h2, h3, h4, h5, h6⟩
  · cases h0
  · cases h0
  · have h7 := hok.2.2.2.2.2
    rw [h7, h5]
    exact ⟨h3, dec_enc h2⟩
/-- different commands, different bytes -/
theorem enc_inj {k c k2 c2 : Int} {s s2 : Nat} {br br2 old new d old2 new2 d2 : List UInt8} (hs : s < 4294967296) (lo : old.length = 32) (ln : new.length = 32) (hR : rightB k c s br old new d.length = true)
    (hs2 : s2 < 4294967296) (lo2 : old2.length = 32) (ln2 : new2.length = 32) (hR2 : rightB k2 c2 s2 br2 old2 new2 d2.length = true) :
    decide (encB k c s br old new d = encB k2 c2 s2 br2 old2 new2 d2) = sameB k c s br old new d k2 c2 s2 br2 old2 new2 d2 := by
  have hq := right_small hR
  have hq2 := right_small hR2
  have hkc : 1 ≤ k ∧ k ≤ 4 ∧ 1 ≤ c ∧ c ≤ 3 := by
    simp only [rightB, baseB, Bool.and_eq_true, decide_eq_true_eq] at hR
    omega
  have hkc2 : 1 ≤ k2 ∧ k2 ≤ 4 ∧ 1 ≤ c2 ∧ c2 ≤ 3 := by
    simp only [rightB, baseB, Bool.and_eq_true, decide_eq_true_eq] at hR2
    omega
  have v1 := enc_decV (k := k) (c := c) (s := s) (br := br) (old := old) (new := new) (d := d) (tail := []) (brB := ⟨br.toArray⟩) (by simp [bl]) (by omega) (by omega) hs (by omega) lo ln (by omega)
  have v2 := enc_decV (k := k2) (c := c2) (s := s2) (br := br2) (old := old2) (new := new2) (d := d2) (tail := []) (brB := ⟨br2.toArray⟩) (by simp [bl]) (by omega) (by omega) hs2 (by omega) lo2 ln2 (by omega)
  rw [List.append_nil] at v1 v2
  rw [Bool.eq_iff_iff, decide_eq_true_eq]
  constructor
  · intro e
    rw [e, v2] at v1
    injection v1 with a1 a2 a3 a4 a5 a6 a7
    have a4' : br2 = br := by
      injection a4 with a4
      exact List.toArray_inj a4
    subst a1 a2 a3 a4' a5 a6 a7
    simp [sameB]
  · intro e
    simp only [sameB, Bool.and_eq_true, decide_eq_true_eq] at e
    obtain ⟨rfl, rfl, rfl, rfl, rfl, rfl, rfl⟩ := e
    rfl
end Go.Proofs.Ytleecfhafnfeoaa
