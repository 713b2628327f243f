/- What Put16, Put32, Put64 lay. -/
import Derived.Test.YtemgfoakffappaaDoorProg
import Derived.Test.YtemgfoakffappaaDoorB
namespace Go.Proofs.YtemgfoakffappaaDoor
open Go.RowKit
open Go.Lib (hid)

theorem set_mid (l t : List UInt8) (k : Nat) (b : UInt8) : (((l ++ List.replicate (k + 1) 0 ++ t).map bv).toArray.setIfInBounds (l.length + k) (bv b)) = ((l ++ List.replicate k 0 ++ b :: t).map bv).toArray := by
  rw [List.setIfInBounds_toArray]
  congr 1
  rw [← List.map_set]
  congr 1
  rw [List.replicate_succ', List.append_assoc, List.set_append]
  simp
  omega

theorem get_mid (l t : List UInt8) (k : Nat) : ((l ++ List.replicate (k + 1) 0 ++ t).map bv).toArray[l.length + k]? = some (.int .u8 0) := by
  rw [List.getElem?_toArray, List.getElem?_map, List.append_assoc, List.getElem?_append_right (by omega), List.getElem?_append_left (by simp)]
  simp [bv]
theorem take_fill (l : List UInt8) (m : Nat) : List.take 0 (List.replicate (l.length + m) (0 : UInt8)) ++ List.take (l.length + m) l ++ List.drop (0 + min l.length (l.length + m)) (List.replicate (l.length + m) 0) = l ++ List.replicate m 0 ++ [] := by
  rw [List.take_of_length_le (l := l) (by omega), Nat.min_eq_left (by omega)]
  simp

set_option maxHeartbeats 400000 in
theorem lies_u32 (w : World) (A : Option Addr) (n c : Nat) (l : List UInt8) (X : Nat) (F : Nat → Prop) (h : Bs w F A n c l) (hn : n ≤ 281474976710000) (hX : X < 256 ^ 4) :
    Calls Tryd.prog 51 #[.slice A n c, .int .u32 X, .int .i64 4] w fun e w' => ∃ A' c', e = .returned (.slice A' (n + 4) c') ∧ w'.ownsRow w.heap.size 5 1 (.slice A' (n + 4) c') (n + 4) ((l ++ be 4 X).map bv) ∧ Kp All w w' := by
  have hc1 := h.capm
  have hk1 := h.cap
  have hl := hid h.len
  unfold maxLen at hc1
  go_enter Tryd.func51, Tryd.ntmps51
  go_wp2_with (first | (refine mk_b _ rfl (.tmp 13) (.tmp 13) rfl .i64 .i64 _ _ (n + 4) (n + 4) rfl rfl (by simp) (by simp) (Nat.le_refl _) (by omega) ?_; intro w1 hb1 hk1 hs1; have h1 := h.keep (w' := w1) hk1.all) | (refine copy_b _ rfl (.tmp 15) (.tmp 16) rfl w.heap.size 0 (n + 4) (n + 4) n c A rfl rfl (List.replicate (n + 4) 0) hb1 F l h1 (by simp) ?_; intro w2 hb2 hk2 hs2))
  go_loopw [1, 9] (fun x p wr => ∃ k : Nat, k ≤ 4 ∧ p = .int .i64 ((n + k : Nat) : Int) ∧ x = .int .u32 ((X / 256 ^ (4 - k) : Nat) : Int) ∧ Bb wr w.heap.size (l ++ List.replicate k 0 ++ be (4 - k) X) ∧ Kp All w wr) (fun _ p _ => (intOf p).toNat)
  case atStart => exact ⟨4, Nat.le_refl _, by go_num, by simp, by have := hl.out; subst this; rw [take_fill] at hb2; simpa only [Nat.sub_self, be] using hb2, hk1.since hk2 (fun i hi => by omega)⟩
  case round =>
    obtain ⟨k, hk, rfl, rfl, hbr, hkr⟩ := hrel
    cases k with
    | zero =>
      go_wp2
      go_ret
      have hbr' : Bb wr w.heap.size (l ++ be 4 X) := by simpa using hbr
      exact ⟨_, _, rfl, hbr'.own (Nat.le_refl _) (by have := hl.out; simp [be_len]; omega) (by simp only [maxLen]; omega), hkr⟩
    | succ k =>
      have hX2 : X / 256 ^ (4 - (k + 1)) < 256 ^ 4 := Nat.lt_of_le_of_lt (Nat.div_le_self _ _) hX
      obtain ⟨Y, hY⟩ : ∃ Y, Y = X / 256 ^ (4 - (k + 1)) := ⟨_, rfl⟩
      rw [← hY] at hX2 ⊢
      have HY := hid hY
      clear hY
      have hc : wr.cell? ⟨w.heap.size, n + k, none⟩ = some (.int .u8 0) := by
        rw [Blk.cell hbr]
        have := hl.out
        subst this
        exact get_mid _ _ _
      have hf : wr.frozen? ⟨w.heap.size, n + k, none⟩ = false := Blk.frozen hbr _
      go_wp2
      refine ⟨⟨k, by omega, by go_num, ?_, ?_, hkr.since (Kp.setCell wr _ _) (fun i hi => by simp; omega)⟩, by simp [intOf]; omega⟩
      · congr 1
        rw [show 4 - k = (4 - (k + 1)) + 1 from by omega, Nat.pow_succ, ← Nat.div_div_eq_div_mul, ← HY.out]
        omega
      · have h2 := Blk.set_ hbr (n + k) (bv (UInt8.ofNat Y))
        have := hl.out
        subst this
        rw [set_mid, HY.out, ← be_cons, show 4 - (k + 1) + 1 = 4 - k from by omega, ← HY.out] at h2
        rw [bv_ofNat] at h2
        exact h2
set_option maxHeartbeats 400000 in
theorem lies_u64 (w : World) (A : Option Addr) (n c : Nat) (l : List UInt8) (X : Nat) (F : Nat → Prop) (h : Bs w F A n c l) (hn : n ≤ 281474976710000) (hX : X < 256 ^ 8) :
    Calls Tryd.prog 46 #[.slice A n c, .int .u64 X, .int .i64 8] w fun e w' => ∃ A' c', e = .returned (.slice A' (n + 8) c') ∧ w'.ownsRow w.heap.size 5 1 (.slice A' (n + 8) c') (n + 8) ((l ++ be 8 X).map bv) ∧ Kp All w w' := by
  have hc1 := h.capm
  have hk1 := h.cap
  have hl := hid h.len
  unfold maxLen at hc1
  go_enter Tryd.func46, Tryd.ntmps46
  go_wp2_with (first | (refine mk_b _ rfl (.tmp 13) (.tmp 13) rfl .i64 .i64 _ _ (n + 8) (n + 8) rfl rfl (by simp) (by simp) (Nat.le_refl _) (by omega) ?_; intro w1 hb1 hk1 hs1; have h1 := h.keep (w' := w1) hk1.all) | (refine copy_b _ rfl (.tmp 15) (.tmp 16) rfl w.heap.size 0 (n + 8) (n + 8) n c A rfl rfl (List.replicate (n + 8) 0) hb1 F l h1 (by simp) ?_; intro w2 hb2 hk2 hs2))
  go_loopw [1, 9] (fun x p wr => ∃ k : Nat, k ≤ 8 ∧ p = .int .i64 ((n + k : Nat) : Int) ∧ x = .int .u64 ((X / 256 ^ (8 - k) : Nat) : Int) ∧ Bb wr w.heap.size (l ++ List.replicate k 0 ++ be (8 - k) X) ∧ Kp All w wr) (fun _ p _ => (intOf p).toNat)
  case atStart => exact ⟨8, Nat.le_refl _, by go_num, by simp, by have := hl.out; subst this; rw [take_fill] at hb2; simpa only [Nat.sub_self, be] using hb2, hk1.since hk2 (fun i hi => by omega)⟩
  case round =>
    obtain ⟨k, hk, rfl, rfl, hbr, hkr⟩ := hrel
    cases k with
    | zero =>
      go_wp2
      go_ret
      have hbr' : Bb wr w.heap.size (l ++ be 8 X) := by simpa using hbr
      exact ⟨_, _, rfl, hbr'.own (Nat.le_refl _) (by have := hl.out; simp [be_len]; omega) (by simp only [maxLen]; omega), hkr⟩
    | succ k =>
      have hX2 : X / 256 ^ (8 - (k + 1)) < 256 ^ 8 := Nat.lt_of_le_of_lt (Nat.div_le_self _ _) hX
      obtain ⟨Y, hY⟩ : ∃ Y, Y = X / 256 ^ (8 - (k + 1)) := ⟨_, rfl⟩
      rw [← hY] at hX2 ⊢
      have HY := hid hY
      clear hY
      have hc : wr.cell? ⟨w.heap.size, n + k, none⟩ = some (.int .u8 0) := by
        rw [Blk.cell hbr]
        have := hl.out
        subst this
        exact get_mid _ _ _
      have hf : wr.frozen? ⟨w.heap.size, n + k, none⟩ = false := Blk.frozen hbr _
      go_wp2
      refine ⟨⟨k, by omega, by go_num, ?_, ?_, hkr.since (Kp.setCell wr _ _) (fun i hi => by simp; omega)⟩, by simp [intOf]; omega⟩
      · congr 1
        rw [show 8 - k = (8 - (k + 1)) + 1 from by omega, Nat.pow_succ, ← Nat.div_div_eq_div_mul, ← HY.out]
        omega
      · have h2 := Blk.set_ hbr (n + k) (bv (UInt8.ofNat Y))
        have := hl.out
        subst this
        rw [set_mid, HY.out, ← be_cons, show 8 - (k + 1) + 1 = 8 - k from by omega, ← HY.out] at h2
        rw [bv_ofNat] at h2
        exact h2
end Go.Proofs.YtemgfoakffappaaDoor
