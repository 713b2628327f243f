/- Contracts of small byte functions. What Put16, Put32, Put64 lay. A reader: how bytes are taken off. A reader: numbers are taken off. A reader as a state: what each of its calls answers and leaves. Put16 and its kin; the document's answer. The octet functions, called in the calculus. The reader's calls in the calculus. -/
import Derived.Test.YtdbehejbeioboaaDoorProg
import Derived.Test.YtdbehejbeioboaaDoorB
import Derived.Deep.QuietTactic
import Derived.BigQuiet
import Derived.Test.YtdbehejbeioboaaDoorTab
import Derived.Test.YtdbehejbeioboaaDoorRk6
import Derived.Test.YtdbehejbeioboaaDoorRk7
namespace Go.Proofs.YtdbehejbeioboaaDoor
open Go.RowKit
open Go.Lib (hid)

end Go.Proofs.YtdbehejbeioboaaDoor

namespace Go.Proofs.YtdbehejbeioboaaDoor
open Go.RowKit
open Go.Lib (hid)

theorem set_mid (l t : List UInt8) (k : Nat) (b : UInt8) : (((l ++ List.replicate (k + 1) 0 ++ t).map bv).toArray.setIfInBounds (l.length + k) (bv b)) = ((l ++ List.replicate k 0 ++ b :: t).map bv).toArray := by
  rw [List.setIfInBounds_toArray]
  congr 1
  rw [← List.map_set]
  congr 1
  rw [List.replicate_succ', List.append_assoc, List.set_append]
  simp
  omega

theorem get_mid (l t : List UInt8) (k : Nat) : ((l ++ List.replicate (k + 1) 0 ++ t).map bv).toArray[l.length + k]? = some (.int .u8 0) := by
  rw [List.getElem?_toArray, List.getElem?_map, List.append_assoc, List.getElem?_append_right (by omega), List.getElem?_append_left (by simp)]
  simp [bv]
theorem take_fill (l : List UInt8) (m : Nat) : List.take 0 (List.replicate (l.length + m) (0 : UInt8)) ++ List.take (l.length + m) l ++ List.drop (0 + min l.length (l.length + m)) (List.replicate (l.length + m) 0) = l ++ List.replicate m 0 ++ [] := by
  rw [List.take_of_length_le (l := l) (by omega), Nat.min_eq_left (by omega)]
  simp

set_option maxHeartbeats 400000 in
theorem lies_u16 (w : World) (A : Option Addr) (n c : Nat) (l : List UInt8) (X : Nat) (F : Nat → Prop) (h : Bs w F A n c l) (hn : n ≤ 281474976710000) (hX : X < 256 ^ 2) :
    Calls Tryd.prog 82 #[.slice A n c, .int .u16 X, .int .i64 2] w fun e w' => ∃ A' c', e = .returned (.slice A' (n + 2) c') ∧ w'.ownsRow w.heap.size 5 1 (.slice A' (n + 2) c') (n + 2) ((l ++ be 2 X).map bv) ∧ Kp All w w' := by
  have hc1 := h.capm
  have hk1 := h.cap
  have hl := hid h.len
  unfold maxLen at hc1
  go_enter Tryd.func82, Tryd.ntmps82
  go_wp2_with (first | (refine mk_b _ rfl (.tmp 13) (.tmp 13) rfl .i64 .i64 _ _ (n + 2) (n + 2) rfl rfl (by simp) (by simp) (Nat.le_refl _) (by omega) ?_; intro w1 hb1 hk1 hs1; have h1 := h.keep (w' := w1) hk1.all) | (refine copy_b _ rfl (.tmp 15) (.tmp 16) rfl w.heap.size 0 (n + 2) (n + 2) n c A rfl rfl (List.replicate (n + 2) 0) hb1 F l h1 (by simp) ?_; intro w2 hb2 hk2 hs2))
  go_loopw [1, 9] (fun x p wr => ∃ k : Nat, k ≤ 2 ∧ p = .int .i64 ((n + k : Nat) : Int) ∧ x = .int .u16 ((X / 256 ^ (2 - k) : Nat) : Int) ∧ Bb wr w.heap.size (l ++ List.replicate k 0 ++ be (2 - k) X) ∧ Kp All w wr) (fun _ p _ => (intOf p).toNat)
  case atStart => exact ⟨2, Nat.le_refl _, by go_num, by simp, by have := hl.out; subst this; rw [take_fill] at hb2; simpa only [Nat.sub_self, be] using hb2, hk1.since hk2 (fun i hi => by omega)⟩
  case round =>
    obtain ⟨k, hk, rfl, rfl, hbr, hkr⟩ := hrel
    cases k with
    | zero =>
      go_wp2
      go_ret
      have hbr' : Bb wr w.heap.size (l ++ be 2 X) := by simpa using hbr
      exact ⟨_, _, rfl, hbr'.own (Nat.le_refl _) (by have := hl.out; simp [be_len]; omega) (by simp only [maxLen]; omega), hkr⟩
    | succ k =>
      have hX2 : X / 256 ^ (2 - (k + 1)) < 256 ^ 2 := Nat.lt_of_le_of_lt (Nat.div_le_self _ _) hX
      obtain ⟨Y, hY⟩ : ∃ Y, Y = X / 256 ^ (2 - (k + 1)) := ⟨_, rfl⟩
      rw [← hY] at hX2 ⊢
      have HY := hid hY
      clear hY
      have hc : wr.cell? ⟨w.heap.size, n + k, none⟩ = some (.int .u8 0) := by
        rw [Blk.cell hbr]
        have := hl.out
        subst this
        exact get_mid _ _ _
      have hf : wr.frozen? ⟨w.heap.size, n + k, none⟩ = false := Blk.frozen hbr _
      go_wp2
      refine ⟨⟨k, by omega, by go_num, ?_, ?_, hkr.since (Kp.setCell wr _ _) (fun i hi => by simp; omega)⟩, by simp [intOf]; omega⟩
      · congr 1
        rw [show 2 - k = (2 - (k + 1)) + 1 from by omega, Nat.pow_succ, ← Nat.div_div_eq_div_mul, ← HY.out]
        omega
      · have h2 := Blk.set_ hbr (n + k) (bv (UInt8.ofNat Y))
        have := hl.out
        subst this
        rw [set_mid, HY.out, ← be_cons, show 2 - (k + 1) + 1 = 2 - k from by omega, ← HY.out] at h2
        rw [bv_ofNat] at h2
        exact h2
set_option maxHeartbeats 400000 in
theorem lies_u32 (w : World) (A : Option Addr) (n c : Nat) (l : List UInt8) (X : Nat) (F : Nat → Prop) (h : Bs w F A n c l) (hn : n ≤ 281474976710000) (hX : X < 256 ^ 4) :
    Calls Tryd.prog 76 #[.slice A n c, .int .u32 X, .int .i64 4] w fun e w' => ∃ A' c', e = .returned (.slice A' (n + 4) c') ∧ w'.ownsRow w.heap.size 5 1 (.slice A' (n + 4) c') (n + 4) ((l ++ be 4 X).map bv) ∧ Kp All w w' := by
  have hc1 := h.capm
  have hk1 := h.cap
  have hl := hid h.len
  unfold maxLen at hc1
  go_enter Tryd.func76, Tryd.ntmps76
  go_wp2_with (first | (refine mk_b _ rfl (.tmp 13) (.tmp 13) rfl .i64 .i64 _ _ (n + 4) (n + 4) rfl rfl (by simp) (by simp) (Nat.le_refl _) (by omega) ?_; intro w1 hb1 hk1 hs1; have h1 := h.keep (w' := w1) hk1.all) | (refine copy_b _ rfl (.tmp 15) (.tmp 16) rfl w.heap.size 0 (n + 4) (n + 4) n c A rfl rfl (List.replicate (n + 4) 0) hb1 F l h1 (by simp) ?_; intro w2 hb2 hk2 hs2))
  go_loopw [1, 9] (fun x p wr => ∃ k : Nat, k ≤ 4 ∧ p = .int .i64 ((n + k : Nat) : Int) ∧ x = .int .u32 ((X / 256 ^ (4 - k) : Nat) : Int) ∧ Bb wr w.heap.size (l ++ List.replicate k 0 ++ be (4 - k) X) ∧ Kp All w wr) (fun _ p _ => (intOf p).toNat)
  case atStart => exact ⟨4, Nat.le_refl _, by go_num, by simp, by have := hl.out; subst this; rw [take_fill] at hb2; simpa only [Nat.sub_self, be] using hb2, hk1.since hk2 (fun i hi => by omega)⟩
  case round =>
    obtain ⟨k, hk, rfl, rfl, hbr, hkr⟩ := hrel
    cases k with
    | zero =>
      go_wp2
      go_ret
      have hbr' : Bb wr w.heap.size (l ++ be 4 X) := by simpa using hbr
      exact ⟨_, _, rfl, hbr'.own (Nat.le_refl _) (by have := hl.out; simp [be_len]; omega) (by simp only [maxLen]; omega), hkr⟩
    | succ k =>
      have hX2 : X / 256 ^ (4 - (k + 1)) < 256 ^ 4 := Nat.lt_of_le_of_lt (Nat.div_le_self _ _) hX
      obtain ⟨Y, hY⟩ : ∃ Y, Y = X / 256 ^ (4 - (k + 1)) := ⟨_, rfl⟩
      rw [← hY] at hX2 ⊢
      have HY := hid hY
      clear hY
      have hc : wr.cell? ⟨w.heap.size, n + k, none⟩ = some (.int .u8 0) := by
        rw [Blk.cell hbr]
        have := hl.out
        subst this
        exact get_mid _ _ _
      have hf : wr.frozen? ⟨w.heap.size, n + k, none⟩ = false := Blk.frozen hbr _
      go_wp2
      refine ⟨⟨k, by omega, by go_num, ?_, ?_, hkr.since (Kp.setCell wr _ _) (fun i hi => by simp; omega)⟩, by simp [intOf]; omega⟩
      · congr 1
        rw [show 4 - k = (4 - (k + 1)) + 1 from by omega, Nat.pow_succ, ← Nat.div_div_eq_div_mul, ← HY.out]
        omega
      · have h2 := Blk.set_ hbr (n + k) (bv (UInt8.ofNat Y))
        have := hl.out
        subst this
        rw [set_mid, HY.out, ← be_cons, show 4 - (k + 1) + 1 = 4 - k from by omega, ← HY.out] at h2
        rw [bv_ofNat] at h2
        exact h2
set_option maxHeartbeats 400000 in
theorem lies_u64 (w : World) (A : Option Addr) (n c : Nat) (l : List UInt8) (X : Nat) (F : Nat → Prop) (h : Bs w F A n c l) (hn : n ≤ 281474976710000) (hX : X < 256 ^ 8) :
    Calls Tryd.prog 74 #[.slice A n c, .int .u64 X, .int .i64 8] w fun e w' => ∃ A' c', e = .returned (.slice A' (n + 8) c') ∧ w'.ownsRow w.heap.size 5 1 (.slice A' (n + 8) c') (n + 8) ((l ++ be 8 X).map bv) ∧ Kp All w w' := by
  have hc1 := h.capm
  have hk1 := h.cap
  have hl := hid h.len
  unfold maxLen at hc1
  go_enter Tryd.func74, Tryd.ntmps74
  go_wp2_with (first | (refine mk_b _ rfl (.tmp 13) (.tmp 13) rfl .i64 .i64 _ _ (n + 8) (n + 8) rfl rfl (by simp) (by simp) (Nat.le_refl _) (by omega) ?_; intro w1 hb1 hk1 hs1; have h1 := h.keep (w' := w1) hk1.all) | (refine copy_b _ rfl (.tmp 15) (.tmp 16) rfl w.heap.size 0 (n + 8) (n + 8) n c A rfl rfl (List.replicate (n + 8) 0) hb1 F l h1 (by simp) ?_; intro w2 hb2 hk2 hs2))
  go_loopw [1, 9] (fun x p wr => ∃ k : Nat, k ≤ 8 ∧ p = .int .i64 ((n + k : Nat) : Int) ∧ x = .int .u64 ((X / 256 ^ (8 - k) : Nat) : Int) ∧ Bb wr w.heap.size (l ++ List.replicate k 0 ++ be (8 - k) X) ∧ Kp All w wr) (fun _ p _ => (intOf p).toNat)
  case atStart => exact ⟨8, Nat.le_refl _, by go_num, by simp, by have := hl.out; subst this; rw [take_fill] at hb2; simpa only [Nat.sub_self, be] using hb2, hk1.since hk2 (fun i hi => by omega)⟩
  case round =>
    obtain ⟨k, hk, rfl, rfl, hbr, hkr⟩ := hrel
    cases k with
    | zero =>
      go_wp2
      go_ret
      have hbr' : Bb wr w.heap.size (l ++ be 8 X) := by simpa using hbr
      exact ⟨_, _, rfl, hbr'.own (Nat.le_refl _) (by have := hl.out; simp [be_len]; omega) (by simp only [maxLen]; omega), hkr⟩
    | succ k =>
      have hX2 : X / 256 ^ (8 - (k + 1)) < 256 ^ 8 := Nat.lt_of_le_of_lt (Nat.div_le_self _ _) hX
      obtain ⟨Y, hY⟩ : ∃ Y, Y = X / 256 ^ (8 - (k + 1)) := ⟨_, rfl⟩
      rw [← hY] at hX2 ⊢
      have HY := hid hY
      clear hY
      have hc : wr.cell? ⟨w.heap.size, n + k, none⟩ = some (.int .u8 0) := by
        rw [Blk.cell hbr]
        have := hl.out
        subst this
        exact get_mid _ _ _
      have hf : wr.frozen? ⟨w.heap.size, n + k, none⟩ = false := Blk.frozen hbr _
      go_wp2
      refine ⟨⟨k, by omega, by go_num, ?_, ?_, hkr.since (Kp.setCell wr _ _) (fun i hi => by simp; omega)⟩, by simp [intOf]; omega⟩
      · congr 1
        rw [show 8 - k = (8 - (k + 1)) + 1 from by omega, Nat.pow_succ, ← Nat.div_div_eq_div_mul, ← HY.out]
        omega
      · have h2 := Blk.set_ hbr (n + k) (bv (UInt8.ofNat Y))
        have := hl.out
        subst this
        rw [set_mid, HY.out, ← be_cons, show 8 - (k + 1) + 1 = 8 - k from by omega, ← HY.out] at h2
        rw [bv_ofNat] at h2
        exact h2
end Go.Proofs.YtdbehejbeioboaaDoor

namespace Go.Proofs.YtdbehejbeioboaaDoor
open Go.RowKit
open Go.Lib (hid)

/-- the reader in block g: what is there still, and its error -/
def Rdr (w : World) (g : Nat) (A : Option Addr) (n c : Nat) (why : Int) : Prop := Blk w g 107 #[.slice A n c, .int .i64 why]

theorem off_stop (w : World) (g : Nat) (A : Option Addr) (n c : Nat) (why k : Int) (h : Rdr w g A n c why) (hw : why ≠ 0) :
    Calls Tryd.prog 68 #[.pointer (some ⟨g, 0, none⟩), .int .i64 k] w fun e w' => e = .returned (.slice none 0 0) ∧ w = w' := by
  have hc0 : w.cell? ⟨g, 0, none⟩ = some (.slice A n c) := Blk.cell h 0
  have hc1 : w.cell? ⟨g, 1, none⟩ = some (.int .i64 why) := Blk.cell h 1
  have hne : (why != 0) = true := by simpa using hw
  go_enter Tryd.func68, Tryd.ntmps68
  go_wp2
  go_ret
  exact ⟨rfl, rfl⟩

theorem off_neg (w : World) (g : Nat) (A : Option Addr) (n c : Nat) (k : Int) (h : Rdr w g A n c 0) (hk : k < 0) :
    Calls Tryd.prog 68 #[.pointer (some ⟨g, 0, none⟩), .int .i64 k] w fun e w' => e = .returned (.slice none 0 0) ∧ w' = w.setCell ⟨g, 1, none⟩ (.int .i64 2) := by
  have hc0 : w.cell? ⟨g, 0, none⟩ = some (.slice A n c) := Blk.cell h 0
  have hc1 : w.cell? ⟨g, 1, none⟩ = some (.int .i64 0) := Blk.cell h 1
  have hf1 : w.frozen? ⟨g, 1, none⟩ = false := Blk.frozen h 1
  go_enter Tryd.func68, Tryd.ntmps68
  go_wp2
  go_ret
  exact ⟨rfl, rfl⟩

theorem off_short (w : World) (g : Nat) (A : Option Addr) (n c : Nat) (k : Int) (h : Rdr w g A n c 0) (hk : 0 ≤ k) (hn : (n : Int) < k) :
    Calls Tryd.prog 68 #[.pointer (some ⟨g, 0, none⟩), .int .i64 k] w fun e w' => e = .returned (.slice none 0 0) ∧ w' = w.setCell ⟨g, 1, none⟩ (.int .i64 7) := by
  have hc0 : w.cell? ⟨g, 0, none⟩ = some (.slice A n c) := Blk.cell h 0
  have hc1 : w.cell? ⟨g, 1, none⟩ = some (.int .i64 0) := Blk.cell h 1
  have hf1 : w.frozen? ⟨g, 1, none⟩ = false := Blk.frozen h 1
  go_enter Tryd.func68, Tryd.ntmps68
  go_wp2
  go_ret
  exact ⟨rfl, rfl⟩

theorem off_ok (w : World) (g : Nat) (A : Option Addr) (n c k : Nat) (h : Rdr w g A n c 0) (hk : k ≤ n) (hc : n ≤ c) :
    Calls Tryd.prog 68 #[.pointer (some ⟨g, 0, none⟩), .int .i64 k] w fun e w' => e = .returned (.slice A k k) ∧ w' = w.setCell ⟨g, 0, none⟩ (.slice (cutA A c k) (n - k) (c - k)) := by
  have hc0 : w.cell? ⟨g, 0, none⟩ = some (.slice A n c) := Blk.cell h 0
  have hc1 : w.cell? ⟨g, 1, none⟩ = some (.int .i64 0) := Blk.cell h 1
  have hf1 : w.frozen? ⟨g, 0, none⟩ = false := Blk.frozen h 0
  have hcut := fun w => run_cut_b w A n c k hk
  go_enter Tryd.func68, Tryd.ntmps68
  go_wp2
  go_ret
  exact ⟨rfl, rfl⟩
end Go.Proofs.YtdbehejbeioboaaDoor

namespace Go.Proofs.YtdbehejbeioboaaDoor
open Go.RowKit
open Go.Lib (hid)

theorem next_stop_8 (w : World) (g : Nat) (A : Option Addr) (n c : Nat) (why : Int) (h : Rdr w g A n c why) (hw : why ≠ 0) :
    Calls Tryd.prog 66 #[.pointer (some ⟨g, 0, none⟩), .int .i64 1] w fun e w' => e = .returned (.int .u8 0) ∧ w = w' := by
  go_enter Tryd.func66, Tryd.ntmps66
  go_wp2_with (go_at_call 68; refine (off_stop _ _ _ _ _ _ _ h hw).mono ?_; rintro e w' ⟨rfl, rfl⟩)
  go_loop [4, 11, 6] (fun x i c => x = .int .u8 0 ∧ i = .int .i64 0) (fun _ _ _ => 0)
  case atStart => exact ⟨rfl, rfl⟩
  case round =>
    obtain ⟨rfl, rfl⟩ := hrel
    go_wp2
    go_ret
    exact ⟨rfl, rfl⟩

theorem next_short_8 (w : World) (g : Nat) (A : Option Addr) (n c : Nat) (h : Rdr w g A n c 0) (hn : n < 1) :
    Calls Tryd.prog 66 #[.pointer (some ⟨g, 0, none⟩), .int .i64 1] w fun e w' => e = .returned (.int .u8 0) ∧ w' = w.setCell ⟨g, 1, none⟩ (.int .i64 7) := by
  go_enter Tryd.func66, Tryd.ntmps66
  go_wp2_with (go_at_call 68; refine (off_short _ _ _ _ _ _ h (by omega) (by omega)).mono ?_; rintro e w' ⟨rfl, rfl⟩)
  go_loop [4, 11, 6] (fun x i c => x = .int .u8 0 ∧ i = .int .i64 0) (fun _ _ _ => 0)
  case atStart => exact ⟨rfl, rfl⟩
  case round =>
    obtain ⟨rfl, rfl⟩ := hrel
    go_wp2
    go_ret
    exact ⟨rfl, rfl⟩

theorem next_ok_8 (w : World) (g : Nat) (A : Option Addr) (n c : Nat) (l : List UInt8) (F : Nat → Prop) (h : Rdr w g A n c 0) (hb : Bs w F A n c l) (hF : ∀ b, F b → b ≠ g) (hn : 1 ≤ n) :
    Calls Tryd.prog 66 #[.pointer (some ⟨g, 0, none⟩), .int .i64 1] w fun e w' => e = .returned (.int .u8 (num (l.take 1))) ∧ w' = w.setCell ⟨g, 0, none⟩ (.slice (cutA A c 1) (n - 1) (c - 1)) := by
  have hcap := hb.cap
  have hb1 := ((hb.head hn).keep ((Kp.setCell w ⟨g, 0, none⟩ (.slice (cutA A c 1) (n - 1) (c - 1))).mono fun k hk _ => hF k hk))
  go_enter Tryd.func66, Tryd.ntmps66
  go_wp2_with (go_at_call 68; refine (off_ok _ _ _ _ _ 1 h hn hcap).mono ?_; rintro e w' ⟨rfl, rfl⟩)
  go_loop [4, 11, 6] (fun x i _ => ∃ k : Nat, k ≤ 1 ∧ x = .int .u8 (num ((l.take 1).take k)) ∧ i = .int .i64 k) (fun _ i _ => 1 - (intOf i).toNat)
  case atStart => exact ⟨0, by omega, rfl, rfl⟩
  case round =>
    obtain ⟨k, hk, rfl, rfl⟩ := hrel
    have hl := hid hb1.len
    by_cases hlt : k < 1
    · obtain ⟨ad, rfl, _, hx⟩ := hb1.at_ (k := k) hlt
      obtain ⟨b, hbb⟩ : ∃ b, b = (l.take 1).getD k 0 := ⟨_, rfl⟩
      rw [← hbb] at hx
      obtain ⟨Y, hY⟩ : ∃ Y, Y = num ((l.take 1).take k) := ⟨_, rfl⟩
      have hY2 : Y < 256 ^ 1 / 256 := by
        have h1 := num_lt ((l.take 1).take k)
        have h2 : ((l.take 1).take k).length = k := by rw [List.length_take]; have := hl.out; omega
        rw [h2, ← hY] at h1
        exact Nat.lt_of_lt_of_le h1 (Nat.le_trans (Nat.pow_le_pow_right (by omega) (show k ≤ 1 - 1 by omega)) (by decide))
      rw [← hY]
      have HY := hid hY
      have HB := hid hbb
      clear hY hbb
      have hb256 := b.toNat_lt
      go_wp2
      refine ⟨⟨k + 1, by omega, ?_, by go_num⟩, by simp [intOf]; omega⟩
      congr 1
      rw [num_take_succ _ _ (by have := hl.out; omega), ← HY.out, ← HB.out]
      omega
    · go_wp2
      go_ret
      have : k = 1 := by omega
      subst this
      rw [List.take_of_length_le (l := l.take 1) (by rw [List.length_take]; omega)]
      exact ⟨rfl, rfl⟩
theorem next_stop_16 (w : World) (g : Nat) (A : Option Addr) (n c : Nat) (why : Int) (h : Rdr w g A n c why) (hw : why ≠ 0) :
    Calls Tryd.prog 69 #[.pointer (some ⟨g, 0, none⟩), .int .i64 2] w fun e w' => e = .returned (.int .u16 0) ∧ w = w' := by
  go_enter Tryd.func69, Tryd.ntmps69
  go_wp2_with (go_at_call 68; refine (off_stop _ _ _ _ _ _ _ h hw).mono ?_; rintro e w' ⟨rfl, rfl⟩)
  go_loop [4, 11, 6] (fun x i c => x = .int .u16 0 ∧ i = .int .i64 0) (fun _ _ _ => 0)
  case atStart => exact ⟨rfl, rfl⟩
  case round =>
    obtain ⟨rfl, rfl⟩ := hrel
    go_wp2
    go_ret
    exact ⟨rfl, rfl⟩

theorem next_short_16 (w : World) (g : Nat) (A : Option Addr) (n c : Nat) (h : Rdr w g A n c 0) (hn : n < 2) :
    Calls Tryd.prog 69 #[.pointer (some ⟨g, 0, none⟩), .int .i64 2] w fun e w' => e = .returned (.int .u16 0) ∧ w' = w.setCell ⟨g, 1, none⟩ (.int .i64 7) := by
  go_enter Tryd.func69, Tryd.ntmps69
  go_wp2_with (go_at_call 68; refine (off_short _ _ _ _ _ _ h (by omega) (by omega)).mono ?_; rintro e w' ⟨rfl, rfl⟩)
  go_loop [4, 11, 6] (fun x i c => x = .int .u16 0 ∧ i = .int .i64 0) (fun _ _ _ => 0)
  case atStart => exact ⟨rfl, rfl⟩
  case round =>
    obtain ⟨rfl, rfl⟩ := hrel
    go_wp2
    go_ret
    exact ⟨rfl, rfl⟩

theorem next_ok_16 (w : World) (g : Nat) (A : Option Addr) (n c : Nat) (l : List UInt8) (F : Nat → Prop) (h : Rdr w g A n c 0) (hb : Bs w F A n c l) (hF : ∀ b, F b → b ≠ g) (hn : 2 ≤ n) :
    Calls Tryd.prog 69 #[.pointer (some ⟨g, 0, none⟩), .int .i64 2] w fun e w' => e = .returned (.int .u16 (num (l.take 2))) ∧ w' = w.setCell ⟨g, 0, none⟩ (.slice (cutA A c 2) (n - 2) (c - 2)) := by
  have hcap := hb.cap
  have hb1 := ((hb.head hn).keep ((Kp.setCell w ⟨g, 0, none⟩ (.slice (cutA A c 2) (n - 2) (c - 2))).mono fun k hk _ => hF k hk))
  go_enter Tryd.func69, Tryd.ntmps69
  go_wp2_with (go_at_call 68; refine (off_ok _ _ _ _ _ 2 h hn hcap).mono ?_; rintro e w' ⟨rfl, rfl⟩)
  go_loop [4, 11, 6] (fun x i _ => ∃ k : Nat, k ≤ 2 ∧ x = .int .u16 (num ((l.take 2).take k)) ∧ i = .int .i64 k) (fun _ i _ => 2 - (intOf i).toNat)
  case atStart => exact ⟨0, by omega, rfl, rfl⟩
  case round =>
    obtain ⟨k, hk, rfl, rfl⟩ := hrel
    have hl := hid hb1.len
    by_cases hlt : k < 2
    · obtain ⟨ad, rfl, _, hx⟩ := hb1.at_ (k := k) hlt
      obtain ⟨b, hbb⟩ : ∃ b, b = (l.take 2).getD k 0 := ⟨_, rfl⟩
      rw [← hbb] at hx
      obtain ⟨Y, hY⟩ : ∃ Y, Y = num ((l.take 2).take k) := ⟨_, rfl⟩
      have hY2 : Y < 256 ^ 2 / 256 := by
        have h1 := num_lt ((l.take 2).take k)
        have h2 : ((l.take 2).take k).length = k := by rw [List.length_take]; have := hl.out; omega
        rw [h2, ← hY] at h1
        exact Nat.lt_of_lt_of_le h1 (Nat.le_trans (Nat.pow_le_pow_right (by omega) (show k ≤ 2 - 1 by omega)) (by decide))
      rw [← hY]
      have HY := hid hY
      have HB := hid hbb
      clear hY hbb
      have hb256 := b.toNat_lt
      go_wp2
      refine ⟨⟨k + 1, by omega, ?_, by go_num⟩, by simp [intOf]; omega⟩
      congr 1
      rw [num_take_succ _ _ (by have := hl.out; omega), ← HY.out, ← HB.out]
      omega
    · go_wp2
      go_ret
      have : k = 2 := by omega
      subst this
      rw [List.take_of_length_le (l := l.take 2) (by rw [List.length_take]; omega)]
      exact ⟨rfl, rfl⟩
theorem next_stop_32 (w : World) (g : Nat) (A : Option Addr) (n c : Nat) (why : Int) (h : Rdr w g A n c why) (hw : why ≠ 0) :
    Calls Tryd.prog 70 #[.pointer (some ⟨g, 0, none⟩), .int .i64 4] w fun e w' => e = .returned (.int .u32 0) ∧ w = w' := by
  go_enter Tryd.func70, Tryd.ntmps70
  go_wp2_with (go_at_call 68; refine (off_stop _ _ _ _ _ _ _ h hw).mono ?_; rintro e w' ⟨rfl, rfl⟩)
  go_loop [4, 11, 6] (fun x i c => x = .int .u32 0 ∧ i = .int .i64 0) (fun _ _ _ => 0)
  case atStart => exact ⟨rfl, rfl⟩
  case round =>
    obtain ⟨rfl, rfl⟩ := hrel
    go_wp2
    go_ret
    exact ⟨rfl, rfl⟩

theorem next_short_32 (w : World) (g : Nat) (A : Option Addr) (n c : Nat) (h : Rdr w g A n c 0) (hn : n < 4) :
    Calls Tryd.prog 70 #[.pointer (some ⟨g, 0, none⟩), .int .i64 4] w fun e w' => e = .returned (.int .u32 0) ∧ w' = w.setCell ⟨g, 1, none⟩ (.int .i64 7) := by
  go_enter Tryd.func70, Tryd.ntmps70
  go_wp2_with (go_at_call 68; refine (off_short _ _ _ _ _ _ h (by omega) (by omega)).mono ?_; rintro e w' ⟨rfl, rfl⟩)
  go_loop [4, 11, 6] (fun x i c => x = .int .u32 0 ∧ i = .int .i64 0) (fun _ _ _ => 0)
  case atStart => exact ⟨rfl, rfl⟩
  case round =>
    obtain ⟨rfl, rfl⟩ := hrel
    go_wp2
    go_ret
    exact ⟨rfl, rfl⟩

theorem next_ok_32 (w : World) (g : Nat) (A : Option Addr) (n c : Nat) (l : List UInt8) (F : Nat → Prop) (h : Rdr w g A n c 0) (hb : Bs w F A n c l) (hF : ∀ b, F b → b ≠ g) (hn : 4 ≤ n) :
    Calls Tryd.prog 70 #[.pointer (some ⟨g, 0, none⟩), .int .i64 4] w fun e w' => e = .returned (.int .u32 (num (l.take 4))) ∧ w' = w.setCell ⟨g, 0, none⟩ (.slice (cutA A c 4) (n - 4) (c - 4)) := by
  have hcap := hb.cap
  have hb1 := ((hb.head hn).keep ((Kp.setCell w ⟨g, 0, none⟩ (.slice (cutA A c 4) (n - 4) (c - 4))).mono fun k hk _ => hF k hk))
  go_enter Tryd.func70, Tryd.ntmps70
  go_wp2_with (go_at_call 68; refine (off_ok _ _ _ _ _ 4 h hn hcap).mono ?_; rintro e w' ⟨rfl, rfl⟩)
  go_loop [4, 11, 6] (fun x i _ => ∃ k : Nat, k ≤ 4 ∧ x = .int .u32 (num ((l.take 4).take k)) ∧ i = .int .i64 k) (fun _ i _ => 4 - (intOf i).toNat)
  case atStart => exact ⟨0, by omega, rfl, rfl⟩
  case round =>
    obtain ⟨k, hk, rfl, rfl⟩ := hrel
    have hl := hid hb1.len
    by_cases hlt : k < 4
    · obtain ⟨ad, rfl, _, hx⟩ := hb1.at_ (k := k) hlt
      obtain ⟨b, hbb⟩ : ∃ b, b = (l.take 4).getD k 0 := ⟨_, rfl⟩
      rw [← hbb] at hx
      obtain ⟨Y, hY⟩ : ∃ Y, Y = num ((l.take 4).take k) := ⟨_, rfl⟩
      have hY2 : Y < 256 ^ 4 / 256 := by
        have h1 := num_lt ((l.take 4).take k)
        have h2 : ((l.take 4).take k).length = k := by rw [List.length_take]; have := hl.out; omega
        rw [h2, ← hY] at h1
        exact Nat.lt_of_lt_of_le h1 (Nat.le_trans (Nat.pow_le_pow_right (by omega) (show k ≤ 4 - 1 by omega)) (by decide))
      rw [← hY]
      have HY := hid hY
      have HB := hid hbb
      clear hY hbb
      have hb256 := b.toNat_lt
      go_wp2
      refine ⟨⟨k + 1, by omega, ?_, by go_num⟩, by simp [intOf]; omega⟩
      congr 1
      rw [num_take_succ _ _ (by have := hl.out; omega), ← HY.out, ← HB.out]
      omega
    · go_wp2
      go_ret
      have : k = 4 := by omega
      subst this
      rw [List.take_of_length_le (l := l.take 4) (by rw [List.length_take]; omega)]
      exact ⟨rfl, rfl⟩
theorem next_stop_64 (w : World) (g : Nat) (A : Option Addr) (n c : Nat) (why : Int) (h : Rdr w g A n c why) (hw : why ≠ 0) :
    Calls Tryd.prog 67 #[.pointer (some ⟨g, 0, none⟩), .int .i64 8] w fun e w' => e = .returned (.int .u64 0) ∧ w = w' := by
  go_enter Tryd.func67, Tryd.ntmps67
  go_wp2_with (go_at_call 68; refine (off_stop _ _ _ _ _ _ _ h hw).mono ?_; rintro e w' ⟨rfl, rfl⟩)
  go_loop [4, 11, 6] (fun x i c => x = .int .u64 0 ∧ i = .int .i64 0) (fun _ _ _ => 0)
  case atStart => exact ⟨rfl, rfl⟩
  case round =>
    obtain ⟨rfl, rfl⟩ := hrel
    go_wp2
    go_ret
    exact ⟨rfl, rfl⟩

theorem next_short_64 (w : World) (g : Nat) (A : Option Addr) (n c : Nat) (h : Rdr w g A n c 0) (hn : n < 8) :
    Calls Tryd.prog 67 #[.pointer (some ⟨g, 0, none⟩), .int .i64 8] w fun e w' => e = .returned (.int .u64 0) ∧ w' = w.setCell ⟨g, 1, none⟩ (.int .i64 7) := by
  go_enter Tryd.func67, Tryd.ntmps67
  go_wp2_with (go_at_call 68; refine (off_short _ _ _ _ _ _ h (by omega) (by omega)).mono ?_; rintro e w' ⟨rfl, rfl⟩)
  go_loop [4, 11, 6] (fun x i c => x = .int .u64 0 ∧ i = .int .i64 0) (fun _ _ _ => 0)
  case atStart => exact ⟨rfl, rfl⟩
  case round =>
    obtain ⟨rfl, rfl⟩ := hrel
    go_wp2
    go_ret
    exact ⟨rfl, rfl⟩

theorem next_ok_64 (w : World) (g : Nat) (A : Option Addr) (n c : Nat) (l : List UInt8) (F : Nat → Prop) (h : Rdr w g A n c 0) (hb : Bs w F A n c l) (hF : ∀ b, F b → b ≠ g) (hn : 8 ≤ n) :
    Calls Tryd.prog 67 #[.pointer (some ⟨g, 0, none⟩), .int .i64 8] w fun e w' => e = .returned (.int .u64 (num (l.take 8))) ∧ w' = w.setCell ⟨g, 0, none⟩ (.slice (cutA A c 8) (n - 8) (c - 8)) := by
  have hcap := hb.cap
  have hb1 := ((hb.head hn).keep ((Kp.setCell w ⟨g, 0, none⟩ (.slice (cutA A c 8) (n - 8) (c - 8))).mono fun k hk _ => hF k hk))
  go_enter Tryd.func67, Tryd.ntmps67
  go_wp2_with (go_at_call 68; refine (off_ok _ _ _ _ _ 8 h hn hcap).mono ?_; rintro e w' ⟨rfl, rfl⟩)
  go_loop [4, 11, 6] (fun x i _ => ∃ k : Nat, k ≤ 8 ∧ x = .int .u64 (num ((l.take 8).take k)) ∧ i = .int .i64 k) (fun _ i _ => 8 - (intOf i).toNat)
  case atStart => exact ⟨0, by omega, rfl, rfl⟩
  case round =>
    obtain ⟨k, hk, rfl, rfl⟩ := hrel
    have hl := hid hb1.len
    by_cases hlt : k < 8
    · obtain ⟨ad, rfl, _, hx⟩ := hb1.at_ (k := k) hlt
      obtain ⟨b, hbb⟩ : ∃ b, b = (l.take 8).getD k 0 := ⟨_, rfl⟩
      rw [← hbb] at hx
      obtain ⟨Y, hY⟩ : ∃ Y, Y = num ((l.take 8).take k) := ⟨_, rfl⟩
      have hY2 : Y < 256 ^ 8 / 256 := by
        have h1 := num_lt ((l.take 8).take k)
        have h2 : ((l.take 8).take k).length = k := by rw [List.length_take]; have := hl.out; omega
        rw [h2, ← hY] at h1
        exact Nat.lt_of_lt_of_le h1 (Nat.le_trans (Nat.pow_le_pow_right (by omega) (show k ≤ 8 - 1 by omega)) (by decide))
      rw [← hY]
      have HY := hid hY
      have HB := hid hbb
      clear hY hbb
      have hb256 := b.toNat_lt
      go_wp2
      refine ⟨⟨k + 1, by omega, ?_, by go_num⟩, by simp [intOf]; omega⟩
      congr 1
      rw [num_take_succ _ _ (by have := hl.out; omega), ← HY.out, ← HB.out]
      omega
    · go_wp2
      go_ret
      have : k = 8 := by omega
      subst this
      rw [List.take_of_length_le (l := l.take 8) (by rw [List.length_take]; omega)]
      exact ⟨rfl, rfl⟩
end Go.Proofs.YtdbehejbeioboaaDoor

namespace Go.Proofs.YtdbehejbeioboaaDoor
open Go.RowKit
open Go.Lib (hid)

/-- how many bytes are taken off -/
def tookN (len : Nat) (why n : Int) : Nat := if why = 0 ∧ 0 ≤ n ∧ n ≤ len then n.toNat else 0
/-- the error behind it -/
def whyN (len : Nat) (why n : Int) : Int := if why = 0 then (if n < 0 then 2 else if (len : Int) < n then 7 else 0) else why
theorem tookN_le (len : Nat) (why n : Int) : tookN len why n ≤ len := by unfold tookN; split <;> omega

/-- the reader in block g has the bytes l still, and this error; the bytes lie in F -/
def Rst (w : World) (g : Nat) (F : Nat → Prop) (l : List UInt8) (why : Int) : Prop := ∃ A n c, Rdr w g A n c why ∧ Bs w F A n c l ∧ ∀ b, F b → b ≠ g
theorem Rst.kp {w w' : World} {g : Nat} {F G : Nat → Prop} {l : List UInt8} {why : Int} (h : Rst w g F l why) (hk : Kp G w w') (hg : G g) (hF : ∀ k, F k → G k) : Rst w' g F l why := by
  obtain ⟨A, n, c, h1, h2, h3⟩ := h
  exact ⟨A, n, c, Blk.kp h1 hk hg, h2.keep (hk.mono fun k hk _ => hF k hk), h3⟩
theorem Rst.more {w : World} {g : Nat} {F G : Nat → Prop} {l : List UInt8} {why : Int} (h : Rst w g F l why) (hF : ∀ k, F k → G k) (hg : ¬ G g) : Rst w g G l why := by
  obtain ⟨A, n, c, h1, h2, h3⟩ := h
  exact ⟨A, n, c, h1, h2.more hF, fun b hb e => hg (e ▸ hb)⟩

theorem off_any (w : World) (g : Nat) (F : Nat → Prop) (A : Option Addr) (n c : Nat) (l : List UInt8) (why k : Int) (h : Rdr w g A n c why) (hb : Bs w F A n c l) (hF : ∀ b, F b → b ≠ g) :
    Calls Tryd.prog 68 #[.pointer (some ⟨g, 0, none⟩), .int .i64 k] w fun e w' => ∃ A', e = .returned (.slice A' (tookN l.length why k) (tookN l.length why k)) ∧
      Bs w' F A' (tookN l.length why k) (tookN l.length why k) (l.take (tookN l.length why k)) ∧ Rst w' g F (l.drop (tookN l.length why k)) (whyN l.length why k) ∧ Kp (fun b => b ≠ g) w w' ∧ Hid (w'.heap.size = w.heap.size) := by
  have hl := hb.len
  by_cases hw : why = 0
  · subst hw
    by_cases hk : k < 0
    · refine (off_neg w g A n c k h hk).mono fun e w' ⟨he, hw'⟩ => ?_
      subst hw'
      have ht : tookN l.length 0 k = 0 := by unfold tookN; rw [if_neg (by omega)]
      have hy : whyN l.length 0 k = 2 := by unfold whyN; rw [if_pos rfl, if_pos hk]
      have hkp := Kp.setCell w ⟨g, 1, none⟩ (.int .i64 2)
      rw [ht, hy]
      exact ⟨none, he, Bs.nil _ _, ⟨A, n, c, Blk.set_ h 1 _, by simpa using hb.keep (hkp.mono fun k hk _ => hF k hk), hF⟩, hkp, hid (by simp)⟩
    · by_cases hn : (n : Int) < k
      · refine (off_short w g A n c k h (by omega) hn).mono fun e w' ⟨he, hw'⟩ => ?_
        subst hw'
        have ht : tookN l.length 0 k = 0 := by unfold tookN; rw [if_neg (by omega)]
        have hy : whyN l.length 0 k = 7 := by unfold whyN; rw [if_pos rfl, if_neg hk, if_pos (by omega)]
        have hkp := Kp.setCell w ⟨g, 1, none⟩ (.int .i64 7)
        rw [ht, hy]
        exact ⟨none, he, Bs.nil _ _, ⟨A, n, c, Blk.set_ h 1 _, by simpa using hb.keep (hkp.mono fun k hk _ => hF k hk), hF⟩, hkp, hid (by simp)⟩
      · obtain ⟨m, rfl⟩ := Int.eq_ofNat_of_zero_le (show 0 ≤ k by omega)
        refine (off_ok w g A n c m h (by omega) hb.cap).mono fun e w' ⟨he, hw'⟩ => ?_
        subst hw'
        have ht : tookN l.length 0 (m : Int) = m := by unfold tookN; rw [if_pos (by omega)]; omega
        have hy : whyN l.length 0 (m : Int) = 0 := by unfold whyN; rw [if_pos rfl, if_neg hk, if_neg (by omega)]
        have hkp := Kp.setCell w ⟨g, 0, none⟩ (.slice (cutA A c m) (n - m) (c - m))
        have hb1 := hb.keep (hkp.mono fun k hk _ => hF k hk)
        have hh := hb1.head (k := m) (by omega)
        rw [ht, hy]
        exact ⟨A, he, ⟨hh.len, Nat.le_refl _, by have := hb.cap; have := hb.capm; omega, hh.rd⟩, ⟨_, _, _, Blk.set_ h 0 _, hb1.cutA (by omega), hF⟩, hkp, hid (by simp)⟩
  · refine (off_stop w g A n c why k h hw).mono fun e w' ⟨he, hw'⟩ => ?_
    subst hw'
    have ht : tookN l.length why k = 0 := by unfold tookN; rw [if_neg (by omega)]
    have hy : whyN l.length why k = why := by unfold whyN; rw [if_neg hw]
    rw [ht, hy]
    exact ⟨none, he, Bs.nil _ _, ⟨A, n, c, h, by simpa using hb, hF⟩, Kp.refl _ _, hid rfl⟩

theorem next_any_8 (w : World) (g : Nat) (F : Nat → Prop) (l : List UInt8) (why : Int) (h : Rst w g F l why) :
    Calls Tryd.prog 66 #[.pointer (some ⟨g, 0, none⟩), .int .i64 1] w fun e w' => e = .returned (.int .u8 (num (l.take (tookN l.length why 1)))) ∧
      Rst w' g F (l.drop (tookN l.length why 1)) (whyN l.length why 1) ∧ Kp (fun b => b ≠ g) w w' ∧ Hid (w'.heap.size = w.heap.size) := by
  obtain ⟨A, n, c, h, hb, hF⟩ := h
  have hl := hb.len
  by_cases hw : why = 0
  · subst hw
    by_cases hn : n < 1
    · refine (next_short_8 w g A n c h hn).mono fun e w' ⟨he, hw'⟩ => ?_
      subst hw'
      have ht : tookN l.length 0 1 = 0 := by unfold tookN; rw [if_neg (by omega)]
      have hy : whyN l.length 0 1 = 7 := by unfold whyN; rw [if_pos rfl, if_neg (by omega), if_pos (by omega)]
      have hkp := Kp.setCell w ⟨g, 1, none⟩ (.int .i64 7)
      rw [ht, hy]
      exact ⟨he, ⟨A, n, c, Blk.set_ h 1 _, by simpa using hb.keep (hkp.mono fun k hk _ => hF k hk), hF⟩, hkp, hid (by simp)⟩
    · refine (next_ok_8 w g A n c l F h hb hF (by omega)).mono fun e w' ⟨he, hw'⟩ => ?_
      subst hw'
      have ht : tookN l.length 0 1 = 1 := by unfold tookN; rw [if_pos (by omega)]; rfl
      have hy : whyN l.length 0 1 = 0 := by unfold whyN; rw [if_pos rfl, if_neg (by omega), if_neg (by omega)]
      have hkp := Kp.setCell w ⟨g, 0, none⟩ (.slice (cutA A c 1) (n - 1) (c - 1))
      have hb1 := hb.keep (hkp.mono fun k hk _ => hF k hk)
      rw [ht, hy]
      exact ⟨he, ⟨_, _, _, Blk.set_ h 0 _, hb1.cutA (by omega), hF⟩, hkp, hid (by simp)⟩
  · refine (next_stop_8 w g A n c why h hw).mono fun e w' ⟨he, hw'⟩ => ?_
    subst hw'
    have ht : tookN l.length why 1 = 0 := by unfold tookN; rw [if_neg (by omega)]
    have hy : whyN l.length why 1 = why := by unfold whyN; rw [if_neg hw]
    rw [ht, hy]
    exact ⟨he, ⟨A, n, c, h, by simpa using hb, hF⟩, Kp.refl _ _, hid rfl⟩

theorem u_any_8 (w : World) (g : Nat) (F : Nat → Prop) (l : List UInt8) (why : Int) (h : Rst w g F l why) :
    Calls Tryd.prog 37 #[.pointer (some ⟨g, 0, none⟩)] w fun e w' => e = .returned (.int .u8 (num (l.take (tookN l.length why 1)))) ∧
      Rst w' g F (l.drop (tookN l.length why 1)) (whyN l.length why 1) ∧ Kp (fun b => b ≠ g) w w' ∧ Hid (w'.heap.size = w.heap.size) := by
  go_enter Tryd.func37, Tryd.ntmps37
  go_wp2_with (go_at_call 66; refine (next_any_8 _ _ F l why h).mono ?_; rintro e w' ⟨rfl, h1, h2, h3⟩)
  go_ret
  exact ⟨rfl, h1, h2, h3⟩
theorem next_any_16 (w : World) (g : Nat) (F : Nat → Prop) (l : List UInt8) (why : Int) (h : Rst w g F l why) :
    Calls Tryd.prog 69 #[.pointer (some ⟨g, 0, none⟩), .int .i64 2] w fun e w' => e = .returned (.int .u16 (num (l.take (tookN l.length why 2)))) ∧
      Rst w' g F (l.drop (tookN l.length why 2)) (whyN l.length why 2) ∧ Kp (fun b => b ≠ g) w w' ∧ Hid (w'.heap.size = w.heap.size) := by
  obtain ⟨A, n, c, h, hb, hF⟩ := h
  have hl := hb.len
  by_cases hw : why = 0
  · subst hw
    by_cases hn : n < 2
    · refine (next_short_16 w g A n c h hn).mono fun e w' ⟨he, hw'⟩ => ?_
      subst hw'
      have ht : tookN l.length 0 2 = 0 := by unfold tookN; rw [if_neg (by omega)]
      have hy : whyN l.length 0 2 = 7 := by unfold whyN; rw [if_pos rfl, if_neg (by omega), if_pos (by omega)]
      have hkp := Kp.setCell w ⟨g, 1, none⟩ (.int .i64 7)
      rw [ht, hy]
      exact ⟨he, ⟨A, n, c, Blk.set_ h 1 _, by simpa using hb.keep (hkp.mono fun k hk _ => hF k hk), hF⟩, hkp, hid (by simp)⟩
    · refine (next_ok_16 w g A n c l F h hb hF (by omega)).mono fun e w' ⟨he, hw'⟩ => ?_
      subst hw'
      have ht : tookN l.length 0 2 = 2 := by unfold tookN; rw [if_pos (by omega)]; rfl
      have hy : whyN l.length 0 2 = 0 := by unfold whyN; rw [if_pos rfl, if_neg (by omega), if_neg (by omega)]
      have hkp := Kp.setCell w ⟨g, 0, none⟩ (.slice (cutA A c 2) (n - 2) (c - 2))
      have hb1 := hb.keep (hkp.mono fun k hk _ => hF k hk)
      rw [ht, hy]
      exact ⟨he, ⟨_, _, _, Blk.set_ h 0 _, hb1.cutA (by omega), hF⟩, hkp, hid (by simp)⟩
  · refine (next_stop_16 w g A n c why h hw).mono fun e w' ⟨he, hw'⟩ => ?_
    subst hw'
    have ht : tookN l.length why 2 = 0 := by unfold tookN; rw [if_neg (by omega)]
    have hy : whyN l.length why 2 = why := by unfold whyN; rw [if_neg hw]
    rw [ht, hy]
    exact ⟨he, ⟨A, n, c, h, by simpa using hb, hF⟩, Kp.refl _ _, hid rfl⟩

theorem u_any_16 (w : World) (g : Nat) (F : Nat → Prop) (l : List UInt8) (why : Int) (h : Rst w g F l why) :
    Calls Tryd.prog 43 #[.pointer (some ⟨g, 0, none⟩)] w fun e w' => e = .returned (.int .u16 (num (l.take (tookN l.length why 2)))) ∧
      Rst w' g F (l.drop (tookN l.length why 2)) (whyN l.length why 2) ∧ Kp (fun b => b ≠ g) w w' ∧ Hid (w'.heap.size = w.heap.size) := by
  go_enter Tryd.func43, Tryd.ntmps43
  go_wp2_with (go_at_call 69; refine (next_any_16 _ _ F l why h).mono ?_; rintro e w' ⟨rfl, h1, h2, h3⟩)
  go_ret
  exact ⟨rfl, h1, h2, h3⟩
theorem next_any_32 (w : World) (g : Nat) (F : Nat → Prop) (l : List UInt8) (why : Int) (h : Rst w g F l why) :
    Calls Tryd.prog 70 #[.pointer (some ⟨g, 0, none⟩), .int .i64 4] w fun e w' => e = .returned (.int .u32 (num (l.take (tookN l.length why 4)))) ∧
      Rst w' g F (l.drop (tookN l.length why 4)) (whyN l.length why 4) ∧ Kp (fun b => b ≠ g) w w' ∧ Hid (w'.heap.size = w.heap.size) := by
  obtain ⟨A, n, c, h, hb, hF⟩ := h
  have hl := hb.len
  by_cases hw : why = 0
  · subst hw
    by_cases hn : n < 4
    · refine (next_short_32 w g A n c h hn).mono fun e w' ⟨he, hw'⟩ => ?_
      subst hw'
      have ht : tookN l.length 0 4 = 0 := by unfold tookN; rw [if_neg (by omega)]
      have hy : whyN l.length 0 4 = 7 := by unfold whyN; rw [if_pos rfl, if_neg (by omega), if_pos (by omega)]
      have hkp := Kp.setCell w ⟨g, 1, none⟩ (.int .i64 7)
      rw [ht, hy]
      exact ⟨he, ⟨A, n, c, Blk.set_ h 1 _, by simpa using hb.keep (hkp.mono fun k hk _ => hF k hk), hF⟩, hkp, hid (by simp)⟩
    · refine (next_ok_32 w g A n c l F h hb hF (by omega)).mono fun e w' ⟨he, hw'⟩ => ?_
      subst hw'
      have ht : tookN l.length 0 4 = 4 := by unfold tookN; rw [if_pos (by omega)]; rfl
      have hy : whyN l.length 0 4 = 0 := by unfold whyN; rw [if_pos rfl, if_neg (by omega), if_neg (by omega)]
      have hkp := Kp.setCell w ⟨g, 0, none⟩ (.slice (cutA A c 4) (n - 4) (c - 4))
      have hb1 := hb.keep (hkp.mono fun k hk _ => hF k hk)
      rw [ht, hy]
      exact ⟨he, ⟨_, _, _, Blk.set_ h 0 _, hb1.cutA (by omega), hF⟩, hkp, hid (by simp)⟩
  · refine (next_stop_32 w g A n c why h hw).mono fun e w' ⟨he, hw'⟩ => ?_
    subst hw'
    have ht : tookN l.length why 4 = 0 := by unfold tookN; rw [if_neg (by omega)]
    have hy : whyN l.length why 4 = why := by unfold whyN; rw [if_neg hw]
    rw [ht, hy]
    exact ⟨he, ⟨A, n, c, h, by simpa using hb, hF⟩, Kp.refl _ _, hid rfl⟩

theorem u_any_32 (w : World) (g : Nat) (F : Nat → Prop) (l : List UInt8) (why : Int) (h : Rst w g F l why) :
    Calls Tryd.prog 44 #[.pointer (some ⟨g, 0, none⟩)] w fun e w' => e = .returned (.int .u32 (num (l.take (tookN l.length why 4)))) ∧
      Rst w' g F (l.drop (tookN l.length why 4)) (whyN l.length why 4) ∧ Kp (fun b => b ≠ g) w w' ∧ Hid (w'.heap.size = w.heap.size) := by
  go_enter Tryd.func44, Tryd.ntmps44
  go_wp2_with (go_at_call 70; refine (next_any_32 _ _ F l why h).mono ?_; rintro e w' ⟨rfl, h1, h2, h3⟩)
  go_ret
  exact ⟨rfl, h1, h2, h3⟩
theorem next_any_64 (w : World) (g : Nat) (F : Nat → Prop) (l : List UInt8) (why : Int) (h : Rst w g F l why) :
    Calls Tryd.prog 67 #[.pointer (some ⟨g, 0, none⟩), .int .i64 8] w fun e w' => e = .returned (.int .u64 (num (l.take (tookN l.length why 8)))) ∧
      Rst w' g F (l.drop (tookN l.length why 8)) (whyN l.length why 8) ∧ Kp (fun b => b ≠ g) w w' ∧ Hid (w'.heap.size = w.heap.size) := by
  obtain ⟨A, n, c, h, hb, hF⟩ := h
  have hl := hb.len
  by_cases hw : why = 0
  · subst hw
    by_cases hn : n < 8
    · refine (next_short_64 w g A n c h hn).mono fun e w' ⟨he, hw'⟩ => ?_
      subst hw'
      have ht : tookN l.length 0 8 = 0 := by unfold tookN; rw [if_neg (by omega)]
      have hy : whyN l.length 0 8 = 7 := by unfold whyN; rw [if_pos rfl, if_neg (by omega), if_pos (by omega)]
      have hkp := Kp.setCell w ⟨g, 1, none⟩ (.int .i64 7)
      rw [ht, hy]
      exact ⟨he, ⟨A, n, c, Blk.set_ h 1 _, by simpa using hb.keep (hkp.mono fun k hk _ => hF k hk), hF⟩, hkp, hid (by simp)⟩
    · refine (next_ok_64 w g A n c l F h hb hF (by omega)).mono fun e w' ⟨he, hw'⟩ => ?_
      subst hw'
      have ht : tookN l.length 0 8 = 8 := by unfold tookN; rw [if_pos (by omega)]; rfl
      have hy : whyN l.length 0 8 = 0 := by unfold whyN; rw [if_pos rfl, if_neg (by omega), if_neg (by omega)]
      have hkp := Kp.setCell w ⟨g, 0, none⟩ (.slice (cutA A c 8) (n - 8) (c - 8))
      have hb1 := hb.keep (hkp.mono fun k hk _ => hF k hk)
      rw [ht, hy]
      exact ⟨he, ⟨_, _, _, Blk.set_ h 0 _, hb1.cutA (by omega), hF⟩, hkp, hid (by simp)⟩
  · refine (next_stop_64 w g A n c why h hw).mono fun e w' ⟨he, hw'⟩ => ?_
    subst hw'
    have ht : tookN l.length why 8 = 0 := by unfold tookN; rw [if_neg (by omega)]
    have hy : whyN l.length why 8 = why := by unfold whyN; rw [if_neg hw]
    rw [ht, hy]
    exact ⟨he, ⟨A, n, c, h, by simpa using hb, hF⟩, Kp.refl _ _, hid rfl⟩

theorem u_any_64 (w : World) (g : Nat) (F : Nat → Prop) (l : List UInt8) (why : Int) (h : Rst w g F l why) :
    Calls Tryd.prog 38 #[.pointer (some ⟨g, 0, none⟩)] w fun e w' => e = .returned (.int .u64 (num (l.take (tookN l.length why 8)))) ∧
      Rst w' g F (l.drop (tookN l.length why 8)) (whyN l.length why 8) ∧ Kp (fun b => b ≠ g) w w' ∧ Hid (w'.heap.size = w.heap.size) := by
  go_enter Tryd.func38, Tryd.ntmps38
  go_wp2_with (go_at_call 67; refine (next_any_64 _ _ F l why h).mono ?_; rintro e w' ⟨rfl, h1, h2, h3⟩)
  go_ret
  exact ⟨rfl, h1, h2, h3⟩

theorem raw_any (w : World) (g : Nat) (F : Nat → Prop) (l : List UInt8) (why k : Int) (h : Rst w g F l why) (hlen : l.length ≤ 140737488355328) :
    Calls Tryd.prog 42 #[.pointer (some ⟨g, 0, none⟩), .int .i64 k] w fun e w' => ∃ A' c', e = .returned (.slice A' (tookN l.length why k) c') ∧
      Ob w' w.heap.size A' (tookN l.length why k) c' (l.take (tookN l.length why k)) ∧ Rst w' g F (l.drop (tookN l.length why k)) (whyN l.length why k) ∧ Kp (fun b => b ≠ g) w w' := by
  obtain ⟨A, n, c, h, hb, hF⟩ := h
  have htl := tookN_le l.length why k
  have hof := off_any w g F A n c l why k h hb hF
  obtain ⟨m, hm⟩ : ∃ m, m = tookN l.length why k := ⟨_, rfl⟩
  rw [← hm] at hof htl ⊢
  have hglt := Blk.lt h
  clear hm h hb
  go_enter Tryd.func42, Tryd.ntmps42
  by_cases h0 : m = 0
  · subst h0
    go_wp2_with (go_at_call 68; refine hof.mono ?_; rintro e w1 ⟨A1, rfl, h1, h2, h3, h4⟩)
    go_ret
    exact ⟨none, 0, rfl, Ob.nil _ _, h2, h3⟩
  · have h0' : ((m : Int) == 0) = false := by simp; omega
    go_wp2_with (first | (go_at_call 68; refine hof.mono ?_; rintro e w1 ⟨A1, rfl, h1, h2, h3, h4⟩; have hz1 := h3.size) | (refine mk_b _ rfl _ _ rfl .i64 .i64 _ _ 0 m rfl rfl (by simp) (by simp) (by omega) (by omega) ?_; intro w2 hb2 hk2 hs2; have h5 := h1.keep (w' := w2) hk2.all) | (at_builtin; refine app_b _ rfl (.tmp 14) (.tmp 15) rfl w.heap.size _ 0 m [] rfl (Blk.own hb2 (by omega) (Nat.zero_le _) (by simp only [maxLen]; omega) (by simp) (by simp)) F A1 m m _ rfl h5 (by omega) (by omega) ?_; intro A3 c3 w3 ho3 hk3 hd3))
    go_ret
    simp only [Nat.zero_add, List.nil_append] at ho3
    refine ⟨_, _, rfl, ho3, ?_, ?_⟩
    · obtain ⟨A', n', c', g1, g2, g3⟩ := h2
      have hk := (hk2.all : Kp (fun b => b ≠ w1.heap.size) w1 w2).trans (hk3.mono (G := fun b => b ≠ w1.heap.size) fun k hk _ => by simp [Value.ownBlock]; exact hk)
      have h4' := h4.out
      exact ⟨A', n', c', Blk.kp g1 hk (by omega), g2.keep (hk.mono fun k _ hk => by omega), g3⟩
    · have h4' := h4.out
      exact h3.trans ((hk2.all : Kp (fun b => b ≠ w1.heap.size) w1 w2).trans (hk3.mono (G := fun b => b ≠ w1.heap.size) fun k hk _ => by simp [Value.ownBlock]; exact hk) |>.mono fun k _ hk => by omega)

theorem err_any (w : World) (g : Nat) (F : Nat → Prop) (l : List UInt8) (why : Int) (h : Rst w g F l why) :
    Calls Tryd.prog 45 #[.pointer (some ⟨g, 0, none⟩)] w fun e w' => e = .returned (.int .i64 why) ∧ w = w' := by
  obtain ⟨A, n, c, h, hb, hF⟩ := h
  have hc1 : w.cell? ⟨g, 1, none⟩ = some (.int .i64 why) := Blk.cell h 1
  go_enter Tryd.func45, Tryd.ntmps45
  go_wp2
  go_ret
  exact ⟨rfl, rfl⟩
theorem read_any (w : World) (A : Option Addr) (n c : Nat) (l : List UInt8) (F : Nat → Prop) (h : Bs w F A n c l) (hn : n ≤ 140737488355328) :
    Calls Tryd.prog 36 #[.slice A n c] w fun e w' => ∃ g, e = .returned (.pointer (some ⟨g, 0, none⟩)) ∧ w.heap.size ≤ g ∧ Rst w' g (fun b => w.heap.size ≤ b ∧ b ≠ g) l 0 ∧ Kp All w w' := by
  have hl := hid h.len
  go_enter Tryd.func36, Tryd.ntmps36
  go_wp2_with (first | (refine mk_b _ rfl _ _ rfl .i64 .i64 _ _ n n rfl rfl (by simp) (by simp) (Nat.le_refl _) (by omega) ?_; intro w1 hb1 hk1 hs1; have h1 := h.keep (w' := w1) hk1.all) | (refine copy_b _ rfl (.tmp 7) (.tmp 8) rfl w.heap.size 0 n n n c A rfl rfl (List.replicate n 0) hb1 F l h1 (by simp) ?_; intro w2 hb2 hk2 hs2))
  go_ret
  have e1 : List.take 0 (List.replicate n (0 : UInt8)) ++ List.take n l ++ List.drop (0 + min n n) (List.replicate n 0) = l := by
    rw [List.take_of_length_le (l := l) (by have := hl.out; omega)]
    simp
  rw [e1] at hb2
  have hk := hk1.since hk2 (fun i hi => by omega)
  refine ⟨w2.heap.size, rfl, by have := hs2.out; omega, ⟨_, _, _, Blk.new w2 _ _, ((hb2.bs hl.out.symm (by simp only [maxLen]; omega)).keep (Kp.alloc w2 _)).more fun b hb => ⟨by omega, by have := hs2.out; omega⟩, fun b hb => hb.2⟩, hk.trans (Kp.alloc w2 _)⟩
end Go.Proofs.YtdbehejbeioboaaDoor

namespace Go.Proofs.YtdbehejbeioboaaDoor
open Go.RowKit
open Go.Lib (hid)

theorem put_16 (w : World) (A : Option Addr) (n c : Nat) (l : List UInt8) (X : Nat) (F : Nat → Prop) (h : Bs w F A n c l) (hn : n ≤ 281474976710000) (hX : X < 256 ^ 2) :
    Calls Tryd.prog 75 #[.slice A n c, .int .u16 X] w fun e w' => ∃ A' c', e = .returned (.slice A' (n + 2) c') ∧ Ob w' w.heap.size A' (n + 2) c' (l ++ be 2 X) ∧ Kp All w w' := by
  go_enter Tryd.func75, Tryd.ntmps75
  go_wp2_with (go_at_call 82; refine (lies_u16 _ _ _ _ _ _ F h hn hX).mono ?_; rintro e w' ⟨A1, c1, rfl, h1, h2⟩)
  go_ret
  exact ⟨_, _, rfl, h1, h2⟩
theorem put_32 (w : World) (A : Option Addr) (n c : Nat) (l : List UInt8) (X : Nat) (F : Nat → Prop) (h : Bs w F A n c l) (hn : n ≤ 281474976710000) (hX : X < 256 ^ 4) :
    Calls Tryd.prog 55 #[.slice A n c, .int .u32 X] w fun e w' => ∃ A' c', e = .returned (.slice A' (n + 4) c') ∧ Ob w' w.heap.size A' (n + 4) c' (l ++ be 4 X) ∧ Kp All w w' := by
  go_enter Tryd.func55, Tryd.ntmps55
  go_wp2_with (go_at_call 76; refine (lies_u32 _ _ _ _ _ _ F h hn hX).mono ?_; rintro e w' ⟨A1, c1, rfl, h1, h2⟩)
  go_ret
  exact ⟨_, _, rfl, h1, h2⟩
theorem put_64 (w : World) (A : Option Addr) (n c : Nat) (l : List UInt8) (X : Nat) (F : Nat → Prop) (h : Bs w F A n c l) (hn : n ≤ 281474976710000) (hX : X < 256 ^ 8) :
    Calls Tryd.prog 50 #[.slice A n c, .int .u64 X] w fun e w' => ∃ A' c', e = .returned (.slice A' (n + 8) c') ∧ Ob w' w.heap.size A' (n + 8) c' (l ++ be 8 X) ∧ Kp All w w' := by
  go_enter Tryd.func50, Tryd.ntmps50
  go_wp2_with (go_at_call 74; refine (lies_u64 _ _ _ _ _ _ F h hn hX).mono ?_; rintro e w' ⟨A1, c1, rfl, h1, h2⟩)
  go_ret
  exact ⟨_, _, rfl, h1, h2⟩

theorem be_succ (k X : Nat) : be (k + 1) X = be k (X / 256) ++ [UInt8.ofNat X] := rfl
theorem high_any (k : Nat) : ∀ (w : World) (X : Nat), k ≤ 1000 → X < 18446744073709551616 →
    Calls Tryd.prog 62 #[.int .u64 X, .int .i64 k] w fun e w' => ∃ A' c', e = .returned (.slice A' k c') ∧ Ob w' w.heap.size A' k c' (be k X) ∧ Kp All w w' := by
  induction k with
  | zero =>
    intro w X _ _
    go_enter Tryd.func62, Tryd.ntmps62
    go_wp2_with fail
    go_ret
    exact ⟨none, 0, rfl, Ob.nil _ _, Kp.refl _ _⟩
  | succ k ih =>
    intro w X hk hX
    obtain ⟨Y, hY⟩ : ∃ Y, Y = X / 256 := ⟨_, rfl⟩
    have hY2 : Y < 18446744073709551616 := by omega
    have ih2 := hid (ih w Y (by omega) hY2)
    have eY : (X : Int) / 256 = (Y : Int) := by omega
    have HY := hid hY
    clear ih hY
    go_enter Tryd.func62, Tryd.ntmps62
    go_wp2_with (first | (go_at_call 62; refine ih2.out.mono ?_; rintro e w1 ⟨A1, c1, rfl, h1, h2⟩) | (at_builtin; refine app_b _ rfl (.tmp 11) (.tmp 15) rfl w.heap.size A1 k c1 _ rfl (h1.all (Kp.alloc _ _)) _ _ 1 1 [UInt8.ofNat X] rfl (Bs.lit _ _ _ _ _ (by simp) (by simp [bv_ofNat]) rfl (by simp [maxLen])) (by omega) (by have := h2.size; simp; omega) ?_; intro A2 c2 w2 h3 h4 h5))
    go_ret
    rw [be_succ, ← HY.out]
    exact ⟨_, _, rfl, h3, (h1.all (Kp.alloc w1 _)).old (Nat.le_refl _) (h2.trans (Kp.alloc _ _)) h4⟩

theorem both_any (w : World) (A1 A2 : Option Addr) (n1 c1 n2 c2 : Nat) (l1 l2 : List UInt8) (F1 F2 : Nat → Prop) (h1 : Bs w F1 A1 n1 c1 l1) (h2 : Bs w F2 A2 n2 c2 l2) (hn : n1 + n2 ≤ 140737488355328) :
    Calls Tryd.prog 35 #[.slice A1 n1 c1, .slice A2 n2 c2] w fun e w' => ∃ A' c', e = .returned (.slice A' (n1 + n2) c') ∧ Ob w' w.heap.size A' (n1 + n2) c' (l1 ++ l2) ∧ Kp All w w' := by
  go_enter Tryd.func35, Tryd.ntmps35
  go_wp2_with (first | (at_builtin; refine app_lit _ rfl (.tmp 6) (.tmp 7) rfl rfl F1 A1 n1 c1 _ rfl h1 (by omega) ?_; intro A3 c3 w1 o1 k1) | (at_builtin; refine app_b _ rfl (.tmp 9) (.tmp 10) rfl w.heap.size A3 n1 c3 _ rfl o1 F2 A2 n2 c2 _ rfl (h2.keep k1.all) (by omega) k1.size ?_; intro A4 c4 w2 o2 k3 b2))
  go_ret
  exact ⟨_, _, rfl, o2, o1.old (Nat.le_refl _) k1 k3⟩

theorem num_cons (b : UInt8) (l : List UInt8) : num (b :: l) = b.toNat * 256 ^ l.length + num l := by
  suffices h : ∀ n, ∀ l : List UInt8, l.length = n → ∀ b : UInt8, num (b :: l) = b.toNat * 256 ^ n + num l from h _ l rfl b
  intro n
  induction n with
  | zero => intro l hl b; rw [List.eq_nil_of_length_eq_zero hl]; simp [num]
  | succ n ih =>
    intro l hl b
    obtain ⟨l', c, rfl⟩ : ∃ l' c, l = l' ++ [c] := by
      rcases List.eq_nil_or_concat l with rfl | ⟨l', c, rfl⟩
      · simp at hl
      · exact ⟨l', c, by simp⟩
    rw [← List.cons_append, num_snoc, num_snoc, ih l' (by simpa using hl), Nat.pow_succ, Nat.add_mul, Nat.mul_assoc, Nat.add_assoc]
theorem number_step (l : List UInt8) (k : Nat) (hk : k < l.length) (M : Nat) :
    (num (l.drop (k + 1)) % M + (256 ^ (l.length - (k + 1)) % M * (l.getD k 0).toNat) % M) % M = num (l.drop k) % M ∧ 256 ^ (l.length - (k + 1)) % M * 256 % M = 256 ^ (l.length - k) % M := by
  have e : l.drop k = l.getD k 0 :: l.drop (k + 1) := by
    rw [List.drop_eq_getElem_cons hk]
    simp [hk]
  have e2 : (l.drop (k + 1)).length = l.length - (k + 1) := by simp
  constructor
  · rw [e, num_cons, e2, Nat.mod_mul_mod, ← Nat.add_mod, Nat.mul_comm, Nat.add_comm]
  · rw [Nat.mod_mul_mod, ← Nat.pow_succ]
    congr 2
    omega
theorem wrap_u64_nat (X : Nat) : IntKind.u64.wrap (X : Int) = ((X % 18446744073709551616 : Nat) : Int) := by
  rw [IntKind.wrap_u64]; omega
/-- 2^64, not to be counted -/
def M64 : Nat := 18446744073709551616
theorem wrap_M64 (X : Nat) : IntKind.u64.wrap (X : Int) = ((X % M64 : Nat) : Int) := wrap_u64_nat X

/-- the number that lies in bytes, as 64 bits hold it -/
def num64 (l : List UInt8) : Nat := num l % M64

theorem number_any (w : World) (A : Option Addr) (n c : Nat) (l : List UInt8) (F : Nat → Prop) (h : Bs w F A n c l) :
    Calls Tryd.prog 46 #[.slice A n c] w fun e w' => e = .returned (.int .u64 (num64 l)) ∧ w = w' := by
  have hc1 := h.capm
  have hk1 := h.cap
  unfold maxLen at hc1
  have hl := hid h.len
  go_enter Tryd.func46, Tryd.ntmps46
  go_wp2
  go_loop [3, 4, 5] (fun x we i => ∃ (k X W : Nat), k ≤ n ∧ x = .int .u64 X ∧ we = .int .u64 W ∧ i = .int .i64 k ∧ Hid (X = num (l.drop k) % M64 ∧ W = 256 ^ (l.length - k) % M64)) (fun _ _ i => (intOf i).toNat)
  case atStart =>
    refine ⟨n, 0, 1, Nat.le_refl _, rfl, rfl, rfl, hid ?_⟩
    rw [hl.out, List.drop_length]
    simp [num, M64]
  case round =>
    obtain ⟨k, X, W, hk, rfl, rfl, rfl, hX⟩ := hrel
    cases k with
    | zero =>
      go_wp2
      go_ret
      have := hX.out.1
      rw [List.drop_zero] at this
      rw [show num64 l = X from this.symm]
      exact ⟨rfl, rfl⟩
    | succ k =>
      obtain ⟨ad, rfl, _, hx⟩ := h.at_ (k := k) (by omega)
      have hst := hid (number_step l k (by have := hl.out; omega) M64)
      obtain ⟨b, hb⟩ : ∃ b, b = l.getD k 0 := ⟨_, rfl⟩
      rw [← hb] at hx hst
      clear hb
      have hb2 := b.toNat_lt
      go_wp2
      refine ⟨⟨k, (X + W * b.toNat % M64) % M64, W * 256 % M64, by omega, ?_, ?_, by go_num, hid (?_ : _ ∧ _)⟩, by simp [intOf]⟩
      rotate_right
      · rw [← hst.out.1, ← hst.out.2, ← hX.out.1, ← hX.out.2]
        exact ⟨rfl, rfl⟩
      · rw [← Int.natCast_mul, wrap_M64, ← Int.natCast_add, wrap_M64]
      · rw [show ((W : Int) * 256) = ((W * 256 : Nat) : Int) from by omega, wrap_M64]
end Go.Proofs.YtdbehejbeioboaaDoor

namespace Go.Proofs.YtdbehejbeioboaaDoor
open Go.RowKit
open Asn (pt row rb)
set_option linter.unusedVariables false
set_option linter.unusedSimpArgs false
section
variable {n : Nat} {w0 : World} {M : Nat → Prop} {T : Slots} {H Hr : List Asn} {dd : Option Tmp} {tt : TypeId} {pos : String} {af : Array Edge} {g : Option (Nat × Bool)} {x y : Operand} {ts : Array TypeId}
theorem E_high {k : Nat} {X : Int} (hx : oget T x = some (.int .u64 X)) (hy : oget T y = some (.int .i64 (k : Int))) (hX : 0 ≤ X ∧ X < 18446744073709551616) (hk : k ≤ 1000) :
    Ef Tryd.prog n w0 M T H ⟨dd, .call ⟨.value (.func 62), #[x, y], ts⟩, tt, pos, af, g⟩ (fun u H' => ∃ A' c', u = .slice A' k c' ∧ H' = row 5 1 A' k c' ((be k X.toNat).map bv) :: H) := by
  refine E_g1 ⟨_, Tryd.func62, rfl, by kernel_rfl⟩ (vs := [.int .u64 X, .int .i64 k]) (by simp [ogets, hx, hy]) fun w hS => ?_
  have h := high_any k w X.toNat hk (by omega)
  rw [show ((X.toNat : Nat) : Int) = X by omega] at h
  exact h
theorem E_both {A1 A2 : Option Addr} {n1 c1 n2 c2 : Nat} {l1 l2 : List UInt8} (hx : oget T x = some (.slice A1 n1 c1)) (hy : oget T y = some (.slice A2 n2 c2)) (h1 : Src w0 M H A1 n1 c1 l1) (h2 : Src w0 M H A2 n2 c2 l2) (hn : n1 + n2 ≤ 140737488355328) :
    Ef Tryd.prog n w0 M T H ⟨dd, .call ⟨.value (.func 35), #[x, y], ts⟩, tt, pos, af, g⟩ (fun u H' => ∃ A' c', u = .slice A' (n1 + n2) c' ∧ H' = row 5 1 A' (n1 + n2) c' ((l1 ++ l2).map bv) :: H) :=
  E_g1 ⟨_, Tryd.func35, rfl, by kernel_rfl⟩ (vs := [.slice A1 n1 c1, .slice A2 n2 c2]) (by simp [ogets, hx, hy]) fun w hS => both_any w A1 A2 n1 c1 n2 c2 l1 l2 All All (h1.bs w hS) (h2.bs w hS) hn
end
end Go.Proofs.YtdbehejbeioboaaDoor

namespace Go.Proofs.YtdbehejbeioboaaDoor
open Go.RowKit
open Asn (pt row rb)
set_option linter.unusedVariables false
set_option linter.unusedSimpArgs false

/-- a reader: its block g, its bytes in F -/
def rdr (g : Nat) (F : Nat → Prop) (l : List UInt8) (why : Int) : Asn := .any (fun k => k = g ∨ F k) (fun w => Rst w g F l why) (fun w w' hk h => h.kp hk (.inl rfl) (fun k hk => .inr hk))
class HRd (H : List Asn) (g : Nat) (F : outParam (Nat → Prop)) (l : outParam (List UInt8)) (why : outParam Int) (H' : outParam (List Asn)) : Prop where
  perm : H.Perm (rdr g F l why :: H')
instance (priority := high) HRd.here {g : Nat} {F : Nat → Prop} {l : List UInt8} {why : Int} {H : List Asn} : HRd (rdr g F l why :: H) g F l why H := ⟨List.Perm.refl _⟩
instance HRd.there {g : Nat} {F : Nat → Prop} {l : List UInt8} {why : Int} {A : Asn} {H H' : List Asn} [h : HRd H g F l why H'] : HRd (A :: H) g F l why (A :: H') := ⟨(List.Perm.cons _ h.perm).trans (List.Perm.swap _ _ _)⟩
/-- one step of a reader: t is taken off -/
structure Rstep (l : List UInt8) (why n : Int) (t l1 : List UInt8) (why1 : Int) : Prop where
  ht : t = l.take (tookN l.length why n)
  hl : l1 = l.drop (tookN l.length why n)
  hw : why1 = whyN l.length why n
  len : l1.length ≤ l.length
theorem Rstep.mk' (l : List UInt8) (why n : Int) : Rstep l why n (l.take (tookN l.length why n)) (l.drop (tookN l.length why n)) (whyN l.length why n) := ⟨rfl, rfl, rfl, by simp⟩
section
variable {n : Nat} {w0 : World} {M : Nat → Prop} {T : Slots} {H Hr : List Asn} {dd : Option Tmp} {tt : TypeId} {pos : String} {af : Array Edge} {g : Option (Nat × Bool)} {x y : Operand} {ts : Array TypeId} {gb : Nat} {F : Nat → Prop} {l : List UInt8} {why : Int}
theorem E_u8 (hx : oget T x = some (.pointer (some ⟨gb, 0, none⟩))) [h : HRd H gb F l why Hr] :
    Ef Tryd.prog n w0 M T H ⟨dd, .call ⟨.value (.func 37), #[x], ts⟩, tt, pos, af, g⟩ (fun u H' => ∃ t l1 why1, Rstep l why 1 t l1 why1 ∧ num t < 256 ∧ u = .int .u8 (num t : Nat) ∧ H' = rdr gb F l1 why1 :: Hr) := by
  refine (Ef.mono (E_gm (H := rdr gb F l why :: Hr) (A := rdr gb F l why) (A' := rdr gb F (l.drop (tookN l.length why 1)) (whyN l.length why 1)) ⟨_, Tryd.func37, rfl, by kernel_rfl⟩ (vs := [.pointer (some ⟨gb, 0, none⟩)]) (by simp [ogets, hx]) .here (fun _ h => h) (fun w hS hA => (u_any_8 w gb F l why hA).mono fun e w' ⟨he, h1, h2, _⟩ => ⟨he, h1, h2.mono fun k hk _ e => hk (.inl e)⟩)) ?_).from fun w hS => hS.perm h.perm
  rintro v H' ⟨rfl, rfl⟩ w hS
  exact ⟨_, _, rfl, ⟨_, _, _, Rstep.mk' l why 1, num_le _ 1 (by rw [List.length_take]; have : tookN l.length why 1 ≤ 1 := (by unfold tookN; split <;> omega); omega), rfl, rfl⟩, hS⟩
theorem E_u16 (hx : oget T x = some (.pointer (some ⟨gb, 0, none⟩))) [h : HRd H gb F l why Hr] :
    Ef Tryd.prog n w0 M T H ⟨dd, .call ⟨.value (.func 43), #[x], ts⟩, tt, pos, af, g⟩ (fun u H' => ∃ t l1 why1, Rstep l why 2 t l1 why1 ∧ num t < 65536 ∧ u = .int .u16 (num t : Nat) ∧ H' = rdr gb F l1 why1 :: Hr) := by
  refine (Ef.mono (E_gm (H := rdr gb F l why :: Hr) (A := rdr gb F l why) (A' := rdr gb F (l.drop (tookN l.length why 2)) (whyN l.length why 2)) ⟨_, Tryd.func43, rfl, by kernel_rfl⟩ (vs := [.pointer (some ⟨gb, 0, none⟩)]) (by simp [ogets, hx]) .here (fun _ h => h) (fun w hS hA => (u_any_16 w gb F l why hA).mono fun e w' ⟨he, h1, h2, _⟩ => ⟨he, h1, h2.mono fun k hk _ e => hk (.inl e)⟩)) ?_).from fun w hS => hS.perm h.perm
  rintro v H' ⟨rfl, rfl⟩ w hS
  exact ⟨_, _, rfl, ⟨_, _, _, Rstep.mk' l why 2, num_le _ 2 (by rw [List.length_take]; have : tookN l.length why 2 ≤ 2 := (by unfold tookN; split <;> omega); omega), rfl, rfl⟩, hS⟩
theorem E_u32 (hx : oget T x = some (.pointer (some ⟨gb, 0, none⟩))) [h : HRd H gb F l why Hr] :
    Ef Tryd.prog n w0 M T H ⟨dd, .call ⟨.value (.func 44), #[x], ts⟩, tt, pos, af, g⟩ (fun u H' => ∃ t l1 why1, Rstep l why 4 t l1 why1 ∧ num t < 4294967296 ∧ u = .int .u32 (num t : Nat) ∧ H' = rdr gb F l1 why1 :: Hr) := by
  refine (Ef.mono (E_gm (H := rdr gb F l why :: Hr) (A := rdr gb F l why) (A' := rdr gb F (l.drop (tookN l.length why 4)) (whyN l.length why 4)) ⟨_, Tryd.func44, rfl, by kernel_rfl⟩ (vs := [.pointer (some ⟨gb, 0, none⟩)]) (by simp [ogets, hx]) .here (fun _ h => h) (fun w hS hA => (u_any_32 w gb F l why hA).mono fun e w' ⟨he, h1, h2, _⟩ => ⟨he, h1, h2.mono fun k hk _ e => hk (.inl e)⟩)) ?_).from fun w hS => hS.perm h.perm
  rintro v H' ⟨rfl, rfl⟩ w hS
  exact ⟨_, _, rfl, ⟨_, _, _, Rstep.mk' l why 4, num_le _ 4 (by rw [List.length_take]; have : tookN l.length why 4 ≤ 4 := (by unfold tookN; split <;> omega); omega), rfl, rfl⟩, hS⟩
theorem E_raw {k : Int} (hx : oget T x = some (.pointer (some ⟨gb, 0, none⟩))) (hy : oget T y = some (.int .i64 k)) [h : HRd H gb F l why Hr] (hl : l.length ≤ 140737488355328) :
    Ef Tryd.prog n w0 M T H ⟨dd, .call ⟨.value (.func 42), #[x, y], ts⟩, tt, pos, af, g⟩ (fun u H' => ∃ t l1 why1 A' c', Rstep l why k t l1 why1 ∧ u = .slice A' t.length c' ∧ H' = row 5 1 A' t.length c' (t.map bv) :: rdr gb F l1 why1 :: Hr) := by
  have hlen : (l.take (tookN l.length why k)).length = tookN l.length why k := by rw [List.length_take, Nat.min_eq_left (tookN_le _ _ _)]
  refine (Ef.mono (E_gm1 (H := rdr gb F l why :: Hr) (A := rdr gb F l why) (A' := rdr gb F (l.drop (tookN l.length why k)) (whyN l.length why k)) (m := tookN l.length why k) (ys := (l.take (tookN l.length why k)).map bv) (e := 5) (sz := 1) ⟨_, Tryd.func42, rfl, by kernel_rfl⟩ (vs := [.pointer (some ⟨gb, 0, none⟩), .int .i64 k]) (by simp [ogets, hx, hy]) .here (fun _ h => h) (fun w hS hA => (raw_any w gb F l why k hA hl).mono fun e w' ⟨A', c', he, h0, h1, h2⟩ => ⟨A', c', he, h0, h1, h2.mono fun k hk _ e => hk (.inl e)⟩)) ?_).from fun w hS => hS.perm h.perm
  rintro v H' ⟨A', c', rfl, rfl⟩ w hS
  refine ⟨_, _, rfl, ⟨_, _, _, A', c', Rstep.mk' l why k, by rw [hlen], rfl⟩, ?_⟩
  rw [hlen]
  exact hS
theorem E_err (hx : oget T x = some (.pointer (some ⟨gb, 0, none⟩))) [h : HRd H gb F l why Hr] :
    Ef Tryd.prog n w0 M T H ⟨dd, .call ⟨.value (.func 45), #[x], ts⟩, tt, pos, af, g⟩ (fun u H' => u = .int .i64 why ∧ H' = H) :=
  E_g0 ⟨_, Tryd.func45, rfl, by kernel_rfl⟩ (vs := [.pointer (some ⟨gb, 0, none⟩)]) (by simp [ogets, hx]) fun w hS => (err_any w gb F l why ((hS.perm h.perm).at_ (A := rdr gb F l why) (by simp))).mono fun e w' ⟨he, hw⟩ => ⟨he, hw ▸ Kp.refl _ _⟩
theorem E_read {A : Option Addr} {m c : Nat} (hx : oget T x = some (.slice A m c)) (hs : Src w0 M H A m c l) (hm : m ≤ 140737488355328) :
    Ef Tryd.prog n w0 M T H ⟨dd, .call ⟨.value (.func 36), #[x], ts⟩, tt, pos, af, g⟩ (fun u H' => ∃ gb F, u = .pointer (some ⟨gb, 0, none⟩) ∧ H' = rdr gb F l 0 :: H) := .mk fun a w ha hS => by
  unfold Oper.wp
  rw [call_run (f := 36) ⟨_, Tryd.func36, rfl, by kernel_rfl⟩ (vs := [.slice A m c]) (by simp [ogets, hx]) ha w]
  refine (read_any w A m c l All (hs.bs w hS) hm).mono fun e w' ⟨gb, he, hg, hr, hk⟩ => ?_
  subst he
  obtain ⟨A2, n2, c2, h1, h2, h3⟩ := hr
  have hlt : gb < w'.heap.size := Blk.lt h1
  refine ⟨_, _, ⟨gb, fun b => (w.heap.size ≤ b ∧ b ≠ gb) ∧ b < w'.heap.size, rfl, rfl⟩, rfl, hS.add hk (A := rdr gb _ l 0) ⟨A2, n2, c2, h1, h2.tight (fun k hk hl => ⟨hk, hl⟩), fun b hb => hb.1.2⟩ fun k hk => ?_⟩
  rcases hk with rfl | hk
  · exact ⟨hg, hlt⟩
  · exact ⟨hk.1.1, hk.2⟩
end
end Go.Proofs.YtdbehejbeioboaaDoor
