/- A reader: numbers are taken off. -/
import Derived.Test.YtemgfoakffappaaDoorOct3
namespace Go.Proofs.YtemgfoakffappaaDoor
open Go.RowKit
open Go.Lib (hid)
theorem next_stop_32 (w : World) (g : Nat) (A : Option Addr) (n c : Nat) (why : Int) (h : Rdr w g A n c why) (hw : why ≠ 0) :
    Calls Tryd.prog 47 #[.pointer (some ⟨g, 0, none⟩), .int .i64 4] w fun e w' => e = .returned (.int .u32 0) ∧ w = w' := by
  go_enter Tryd.func47, Tryd.ntmps47
  go_wp2_with (go_at_call 54; refine (off_stop _ _ _ _ _ _ _ h hw).mono ?_; rintro e w' ⟨rfl, rfl⟩)
  go_loop [4, 11, 6] (fun x i c => x = .int .u32 0 ∧ i = .int .i64 0) (fun _ _ _ => 0)
  case atStart => exact ⟨rfl, rfl⟩
  case round =>
    obtain ⟨rfl, rfl⟩ := hrel
    go_wp2
    go_ret
    exact ⟨rfl, rfl⟩

theorem next_short_32 (w : World) (g : Nat) (A : Option Addr) (n c : Nat) (h : Rdr w g A n c 0) (hn : n < 4) :
    Calls Tryd.prog 47 #[.pointer (some ⟨g, 0, none⟩), .int .i64 4] w fun e w' => e = .returned (.int .u32 0) ∧ w' = w.setCell ⟨g, 1, none⟩ (.int .i64 7) := by
  go_enter Tryd.func47, Tryd.ntmps47
  go_wp2_with (go_at_call 54; refine (off_short _ _ _ _ _ _ h (by omega) (by omega)).mono ?_; rintro e w' ⟨rfl, rfl⟩)
  go_loop [4, 11, 6] (fun x i c => x = .int .u32 0 ∧ i = .int .i64 0) (fun _ _ _ => 0)
  case atStart => exact ⟨rfl, rfl⟩
  case round =>
    obtain ⟨rfl, rfl⟩ := hrel
    go_wp2
    go_ret
    exact ⟨rfl, rfl⟩

theorem next_ok_32 (w : World) (g : Nat) (A : Option Addr) (n c : Nat) (l : List UInt8) (F : Nat → Prop) (h : Rdr w g A n c 0) (hb : Bs w F A n c l) (hF : ∀ b, F b → b ≠ g) (hn : 4 ≤ n) :
    Calls Tryd.prog 47 #[.pointer (some ⟨g, 0, none⟩), .int .i64 4] w fun e w' => e = .returned (.int .u32 (num (l.take 4))) ∧ w' = w.setCell ⟨g, 0, none⟩ (.slice (cutA A c 4) (n - 4) (c - 4)) := by
  have hcap := hb.cap
  have hb1 := ((hb.head hn).keep ((Kp.setCell w ⟨g, 0, none⟩ (.slice (cutA A c 4) (n - 4) (c - 4))).mono fun k hk _ => hF k hk))
  go_enter Tryd.func47, Tryd.ntmps47
  go_wp2_with (go_at_call 54; refine (off_ok _ _ _ _ _ 4 h hn hcap).mono ?_; rintro e w' ⟨rfl, rfl⟩)
  go_loop [4, 11, 6] (fun x i _ => ∃ k : Nat, k ≤ 4 ∧ x = .int .u32 (num ((l.take 4).take k)) ∧ i = .int .i64 k) (fun _ i _ => 4 - (intOf i).toNat)
  case atStart => exact ⟨0, by omega, rfl, rfl⟩
  case round =>
    obtain ⟨k, hk, rfl, rfl⟩ := hrel
    have hl := hid hb1.len
    by_cases hlt : k < 4
    · obtain ⟨ad, rfl, _, hx⟩ := hb1.at_ (k := k) hlt
      obtain ⟨b, hbb⟩ : ∃ b, b = (l.take 4).getD k 0 := ⟨_, rfl⟩
      rw [← hbb] at hx
      obtain ⟨Y, hY⟩ : ∃ Y, Y = num ((l.take 4).take k) := ⟨_, rfl⟩
      have hY2 : Y < 256 ^ 4 / 256 := by
        have h1 := num_lt ((l.take 4).take k)
        have h2 : ((l.take 4).take k).length = k := by rw [List.length_take]; have := hl.out; omega
        rw [h2, ← hY] at h1
        exact Nat.lt_of_lt_of_le h1 (Nat.le_trans (Nat.pow_le_pow_right (by omega) (show k ≤ 4 - 1 by omega)) (by decide))
      rw [← hY]
      have HY := hid hY
      have HB := hid hbb
      clear hY hbb
      have hb256 := b.toNat_lt
      go_wp2
      refine ⟨⟨k + 1, by omega, ?_, by go_num⟩, by simp [intOf]; omega⟩
      congr 1
      rw [num_take_succ _ _ (by have := hl.out; omega), ← HY.out, ← HB.out]
      omega
    · go_wp2
      go_ret
      have : k = 4 := by omega
      subst this
      rw [List.take_of_length_le (l := l.take 4) (by rw [List.length_take]; omega)]
      exact ⟨rfl, rfl⟩
end Go.Proofs.YtemgfoakffappaaDoor
