/- What Decode makes of Encode's bytes. -/
import Derived.Test.YtleecfhafnfeoaaLwC
namespace Go.Proofs.Ytleecfhafnfeoaa
open Go.RowKit
set_option linter.unusedVariables false
set_option linter.unusedSimpArgs false

theorem take_mid (P X Q : List UInt8) (n m : Nat) (hP : P.length = n) (hX : X.length = m) : ((P ++ (X ++ Q)).drop n).take m = X := by
  rw [List.drop_append, hP, Nat.sub_self, List.drop_zero, List.drop_of_length_le (by omega), List.nil_append, List.take_append, hX, Nat.sub_self, List.take_zero, List.append_nil, List.take_of_length_le (by omega)]
theorem getD_mid (P Q : List UInt8) (b : UInt8) (n : Nat) (hP : P.length = n) : (P ++ (b :: Q)).getD n 0 = b := by
  subst hP
  simp [List.getD_eq_getElem?_getD]
theorem kb_nat (k : Int) (h0 : 0 ≤ k) (h1 : k < 256) : ((kb k).toNat : Int) = k := by
  unfold kb
  rw [UInt8.toNat_ofNat']
  omega
section
variable {k c : Int} {s : Nat} {br old new d tail : List UInt8}
theorem enc_bOf (hb : br.length < 256) : bOf (encB k c s br old new d ++ tail) = br.length := by
  have e : encB k c s br old new d ++ tail = ([kb k, kb c] ++ be 4 s) ++ (kb br.length :: (br ++ old ++ new ++ be 2 d.length ++ d ++ tail)) := by simp [encB]
  unfold bOf
  rw [e, getD_mid _ _ _ 6 (by simp [be_len])]
  have := kb_nat (br.length : Int) (by omega) (by omega)
  omega
theorem enc_mOf (hb : br.length < 256) (lo : old.length = 32) (ln : new.length = 32) (hd : d.length < 65536) : mOf (encB k c s br old new d ++ tail) = d.length := by
  have e : encB k c s br old new d ++ tail = ([kb k, kb c] ++ be 4 s ++ [kb br.length] ++ br ++ old ++ new) ++ (be 2 d.length ++ (d ++ tail)) := by simp [encB]
  unfold mOf
  rw [enc_bOf hb, e, take_mid _ _ _ _ 2 (by simp [be_len, lo, ln]; omega) (be_len 2 _), num_be]
  exact Nat.mod_eq_of_lt hd
/-- the command again -/
theorem enc_decV {brB : ByteArray} (hbr : bl brB = br) (hk : 0 ≤ k ∧ k < 256) (hc : 0 ≤ c ∧ c < 256) (hs : s < 4294967296) (hb : br.length < 256) (lo : old.length = 32) (ln : new.length = 32) (hd : d.length < 65536) :
    decV (encB k c s br old new d ++ tail) = ⟨k, c, s, brB, old, new, d⟩ := by
  have e0 : (encB k c s br old new d ++ tail).getD 0 0 = kb k := by simp [encB]
  have e1 : (encB k c s br old new d ++ tail).getD 1 0 = kb c := by simp [encB]
  have e2 : ((encB k c s br old new d ++ tail).drop 2).take 4 = be 4 s := by
    have e : encB k c s br old new d ++ tail = [kb k, kb c] ++ (be 4 s ++ ([kb br.length] ++ br ++ old ++ new ++ be 2 d.length ++ d ++ tail)) := by simp [encB]
    rw [e, take_mid _ _ _ 2 4 rfl (be_len 4 _)]
  have e3 : ((encB k c s br old new d ++ tail).drop 7).take br.length = br := by
    have e : encB k c s br old new d ++ tail = ([kb k, kb c] ++ be 4 s ++ [kb br.length]) ++ (br ++ (old ++ new ++ be 2 d.length ++ d ++ tail)) := by simp [encB]
    rw [e, take_mid _ _ _ 7 _ (by simp [be_len]) rfl]
  have e4 : ((encB k c s br old new d ++ tail).drop (7 + br.length)).take 32 = old := by
    have e : encB k c s br old new d ++ tail = ([kb k, kb c] ++ be 4 s ++ [kb br.length] ++ br) ++ (old ++ (new ++ be 2 d.length ++ d ++ tail)) := by simp [encB]
    rw [e, take_mid _ _ _ _ _ (by simp [be_len]; omega) lo]
  have e5 : ((encB k c s br old new d ++ tail).drop (39 + br.length)).take 32 = new := by
    have e : encB k c s br old new d ++ tail = ([kb k, kb c] ++ be 4 s ++ [kb br.length] ++ br ++ old) ++ (new ++ (be 2 d.length ++ d ++ tail)) := by simp [encB]
    rw [e, take_mid _ _ _ _ _ (by simp [be_len, lo]; omega) ln]
  have e6 : ((encB k c s br old new d ++ tail).drop (73 + br.length)).take d.length = d := by
    have e : encB k c s br old new d ++ tail = ([kb k, kb c] ++ be 4 s ++ [kb br.length] ++ br ++ old ++ new ++ be 2 d.length) ++ (d ++ tail) := by simp [encB]
    rw [e, take_mid _ _ _ _ _ (by simp [be_len, lo, ln]; omega) rfl]
  have hn : num (be 4 s) = s := by rw [num_be]; exact Nat.mod_eq_of_lt hs
  unfold decV
  rw [enc_bOf hb, enc_mOf hb lo ln hd, e0, e1, e2, e3, e4, e5, e6, hn, kb_nat k hk.1 hk.2, kb_nat c hc.1 hc.2]
  have : (⟨br.toArray⟩ : ByteArray) = brB := by rw [← hbr]; simp [bl]
  rw [this]
theorem enc_len2 (lo : old.length = 32) (ln : new.length = 32) : (encB k c s br old new d ++ tail).length = 73 + br.length + d.length + tail.length := by
  rw [List.length_append, encB_len _ _ _ _ _ _ _ lo ln]
/-- what Decode makes of Encode's bytes -/
theorem enc_dec {brB : ByteArray} {x : Dx} (hbr : bl brB = br) (hs : s < 4294967296) (lo : old.length = 32) (ln : new.length = 32) (hR : rightB k c s br old new d.length = true)
    (h : DecP (encB k c s br old new d ++ tail) x) : (tail = [] → x.err = 0 ∧ x.v = ⟨k, c, s, brB, old, new, d⟩) ∧ (tail ≠ [] → x.err = 210) := by
  have hq := right_small hR
  have hkc : 1 ≤ k ∧ k ≤ 4 ∧ 1 ≤ c ∧ c ≤ 3 := by
    simp only [rightB, baseB, Bool.and_eq_true, decide_eq_true_eq] at hR
    omega
  have hl := enc_len2 (k := k) (c := c) (s := s) (br := br) (d := d) (tail := tail) lo ln
  have hb := enc_bOf (k := k) (c := c) (s := s) (br := br) (old := old) (new := new) (d := d) (tail := tail) (by omega)
  have hm := enc_mOf (k := k) (c := c) (s := s) (br := br) (old := old) (new := new) (d := d) (tail := tail) (by omega) lo ln (by omega)
  have hv := enc_decV (k := k) (c := c) (s := s) (br := br) (old := old) (new := new) (d := d) (tail := tail) hbr (by omega) (by omega) hs (by omega) lo ln (by omega)
  have hsh : ¬ short (encB k c s br old new d ++ tail) := by unfold short; omega
  have hrv : rightV (decV (encB k c s br old new d ++ tail)) = true := by
    rw [hv]
    unfold rightV
    simp only [hbr]
    exact hR
  rcases h with ⟨h, _⟩ | ⟨_, h, rfl⟩ | ⟨_, h2, h3, h4, h5, h6⟩
  · exact absurd h hsh
  · refine ⟨fun ht => ?_, fun _ => rfl⟩
    subst ht
    rcases h with h | h
    · simp only [List.length_nil] at hl
      omega
    · rw [hrv] at h
      cases h
  · refine ⟨fun _ => ⟨h4, by rw [h5, hv]⟩, fun ht => ?_⟩
    have : 0 < tail.length := List.length_pos_iff.2 ht
    omega
/-- a part cut off is short -/
theorem cut_short {l : List UInt8} {j : Nat} {x : Dx} (h0 : ¬ short l) (h1 : l.length = 73 + bOf l + mOf l) (hj : j < l.length) (h : DecP (l.take j) x) : x.err = 7 := by
  have hs : short (l.take j) := by
    unfold short
    rw [List.length_take, Nat.min_eq_left (by omega)]
    by_cases g7 : j < 7
    · exact .inl g7
    · have e6 : bOf (l.take j) = bOf l := by
        unfold bOf
        simp only [List.getD_eq_getElem?_getD, List.getElem?_take, if_pos (show 6 < j by omega)]
      by_cases g73 : j < 73 + bOf l
      · exact .inr (.inl (by rw [e6]; exact g73))
      · have e7 : mOf (l.take j) = mOf l := by
          unfold mOf
          rw [e6, List.drop_take, List.take_take, Nat.min_eq_left (by omega)]
        exact .inr (.inr (by rw [e6, e7]; omega))
  rcases h with ⟨_, rfl⟩ | ⟨h, _⟩ | ⟨h, _⟩
  · rfl
  · exact absurd hs h
  · exact absurd hs h
end
end Go.Proofs.Ytleecfhafnfeoaa
