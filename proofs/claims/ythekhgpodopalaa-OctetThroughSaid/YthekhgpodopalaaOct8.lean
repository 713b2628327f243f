/- slices.Concat of two rows of bytes. -/
import Derived.Test.YthekhgpodopalaaOctL4
import Derived.Lib.AppendZeros
namespace Go.Proofs.Ythekhgpodopalaa
open Go.RowKit
open Go.Lib (hid)

theorem grow_nil (w : World) (n : Nat) (hn : n ≤ 140737488355328) :
    Calls Try.prog 44 #[.slice none 0 0, .int .i64 n] w fun e w' => ∃ A' c', e = .returned (.slice A' 0 c') ∧ Ob w' w.heap.size A' 0 c' [] ∧ Kp All w w' := by
  obtain ⟨i0, hi, hz0, hz1, hz2⟩ := info_parts u8_info
  by_cases h0 : n = 0
  · subst h0
    go_enter Try.func44, Try.ntmps44
    go_wp2
    go_ret
    exact ⟨none, 0, rfl, Ob.nil _ _, Kp.refl _ _⟩
  · have hr := Lib.run_append_nil_zeros (P := Try.prog) w 22 3 22 5 i0 (.int .u8 0) .i64 .i64 Try.underlying22 Try.underlying3 hi hz0 n (by omega) (by omega) (by omega) (by rw [hz2]; omega)
    have hcap := grownCap_ge w n 0 5
    have hcm := grownCap_le_maxLen w n 0 5 (by simp only [maxLen]; omega)
    obtain ⟨C, hC⟩ : ∃ C, C = grownCap w n 0 5 := ⟨_, rfl⟩
    rw [← hC] at hr hcap hcm
    obtain ⟨cs, hcs⟩ : ∃ cs, cs = Builtin.zeroCells (Value.int .u8 0).cells n ++ Builtin.zeroCells (Value.int .u8 0).cells (C - n) := ⟨_, rfl⟩
    have hsz : cs.size = C * 1 := by
      rw [hcs, Array.size_append, size_zeroCells, size_zeroCells]
      simp [Value.cells]
      omega
    rw [← hcs] at hr
    have hcm2 := hcm
    unfold maxLen at hcm2
    clear hC hcs
    have HR := hid hr
    have HSZ := hid hsz
    clear hr hsz
    go_enter Try.func44, Try.ntmps44
    go_wp2_with (at_builtin; refine Lib.wpList_append_run _ rfl _ _ _ _ rfl _ _ rfl rfl _ _ HR.out ?_)
    go_ret
    exact ⟨_, _, rfl, Blk.own (Blk.new w.drew _ _) (Nat.le_refl _) (Nat.zero_le _) hcm HSZ.out (by simp), (Kp.drew w).trans (Kp.alloc _ _)⟩

theorem concat_two (w : World) (gr : Nat) (A1 A2 : Option Addr) (n1 c1 n2 c2 : Nat) (l1 l2 : List UInt8) (hr : Blk w gr 22 #[.slice A1 n1 c1, .slice A2 n2 c2]) (h1 : Bs w All A1 n1 c1 l1) (h2 : Bs w All A2 n2 c2 l2) (hn : n1 + n2 ≤ 140737488355328) :
    Calls Try.prog 34 #[.slice (some ⟨gr, 0, none⟩) 2 2] w fun e w' => ∃ A' c', e = .returned (.slice A' (n1 + n2) c') ∧ Ob w' w.heap.size A' (n1 + n2) c' (l1 ++ l2) ∧ Kp All w w' := by
  obtain ⟨S, hS⟩ : ∃ S : Nat → Nat, Hid (S 0 = 0 ∧ S 1 = n1 ∧ S 2 = n1 + n2) := ⟨fun | 0 => 0 | 1 => n1 | _ => n1 + n2, hid ⟨rfl, rfl, rfl⟩⟩
  obtain ⟨L, hL⟩ : ∃ L : Nat → List UInt8, Hid (L 0 = [] ∧ L 1 = l1 ∧ L 2 = l1 ++ l2) := ⟨fun | 0 => [] | 1 => l1 | _ => l1 ++ l2, hid ⟨rfl, rfl, rfl⟩⟩
  obtain ⟨AA, hAA⟩ : ∃ AA : Nat → Option Addr, Hid (AA 0 = A1 ∧ AA 1 = A2) := ⟨fun | 0 => A1 | _ => A2, hid ⟨rfl, rfl⟩⟩
  obtain ⟨N, hN⟩ : ∃ N : Nat → Nat, Hid (N 0 = n1 ∧ N 1 = n2) := ⟨fun | 0 => n1 | _ => n2, hid ⟨rfl, rfl⟩⟩
  obtain ⟨C, hC⟩ : ∃ C : Nat → Nat, Hid (C 0 = c1 ∧ C 1 = c2) := ⟨fun | 0 => c1 | _ => c2, hid ⟨rfl, rfl⟩⟩
  have hcell : Hid (∀ k, k < 2 → w.cell? ⟨gr, k, none⟩ = some (.slice (AA k) (N k) (C k))) := hid fun k hk => by
    obtain ⟨a0, a1⟩ := hAA.out
    obtain ⟨b0, b1⟩ := hN.out
    obtain ⟨q0, q1⟩ := hC.out
    rw [hr.cell]
    rcases (show k = 0 ∨ k = 1 by omega) with rfl | rfl
    · rw [a0, b0, q0]; rfl
    · rw [a1, b1, q1]; rfl
  have hbs : Hid (∀ k, k < 2 → ∃ l, Bs w All (AA k) (N k) (C k) l ∧ L (k + 1) = L k ++ l ∧ S (k + 1) = S k + N k) := hid fun k hk => by
    obtain ⟨a0, a1⟩ := hAA.out
    obtain ⟨b0, b1⟩ := hN.out
    obtain ⟨q0, q1⟩ := hC.out
    obtain ⟨s0, s1, s2⟩ := hS.out
    obtain ⟨t0, t1, t2⟩ := hL.out
    rcases (show k = 0 ∨ k = 1 by omega) with rfl | rfl
    · exact ⟨l1, by rw [a0, b0, q0]; exact h1, by rw [t0, t1, List.nil_append], by rw [s0, s1, b0, Nat.zero_add]⟩
    · exact ⟨l2, by rw [a1, b1, q1]; exact h2, by rw [t1, t2], by rw [s1, s2, b1]⟩
  have hle : Hid (∀ k, k ≤ 2 → S k ≤ n1 + n2) := hid fun k hk => by
    obtain ⟨s0, s1, s2⟩ := hS.out
    rcases (show k = 0 ∨ k = 1 ∨ k = 2 by omega) with rfl | rfl | rfl <;> omega
  have h2e := hid hS.out.2.2
  have hLe := hid hL.out.2.2
  have hS0 := hid hS.out.1
  have hL0 := hid hL.out.1
  clear hr h1 h2 hAA hN hC hS hL
  go_enter Try.func34, Try.ntmps34
  go_wp2
  go_loop [3, 5, 11] (fun s _ q => ∃ k : Nat, k ≤ 2 ∧ q = .int .i64 k ∧ s = .int .i64 (S k : Nat)) (fun _ _ q => 2 - (intOf q).toNat)
  case atStart => exact ⟨0, by omega, rfl, by rw [hS0.out]; rfl⟩
  case round =>
    obtain ⟨k, hk, rfl, rfl⟩ := hrel
    by_cases hlt : k < 2
    · have q1 := hcell.out k hlt
      obtain ⟨lk, q2, q3, q4⟩ := hbs.out k hlt
      have q5 := hle.out (k + 1) (by omega)
      rw [q4] at q5
      have Q4 := hid q4
      clear q2 q3 q4
      go_wp2
      exact ⟨⟨k + 1, by omega, by go_num, by rw [Q4.out]; go_num⟩, by simp [intOf]; omega⟩
    · obtain rfl : k = 2 := by omega
      rw [h2e.out]
      go_wp2_with (go_at_call 44; refine (grow_nil _ (n1 + n2) hn).mono ?_; rintro e w1 ⟨A3, c3, rfl, o1, k1⟩)
      go_loopw [6, 8, 27] (fun s _ q wr => ∃ (k : Nat) (A4 : Option Addr) (c4 : Nat), k ≤ 2 ∧ q = .int .i64 k ∧ s = .slice A4 (S k) c4 ∧ Ob wr w.heap.size A4 (S k) c4 (L k) ∧ Kp All w wr) (fun _ _ q _ => 2 - (intOf q).toNat)
      case atStart => exact ⟨0, A3, c3, by omega, rfl, by rw [hS0.out], by rw [hS0.out, hL0.out]; exact o1, k1⟩
      case round =>
        obtain ⟨k, A4, c4, hk, rfl, rfl, o4, k4⟩ := hrel
        by_cases hlt : k < 2
        · have q1 := k4.cell trivial (hcell.out k hlt)
          obtain ⟨lk, q2, q3, q4⟩ := hbs.out k hlt
          have q5 := hle.out (k + 1) (by omega)
          rw [q4] at q5
          have Q2 := hid (q2.keep k4)
          have Q3 := hid q3
          have Q4 := hid q4
          clear q2 q3 q4
          have z4 := k4.size
          go_wp2_with (at_builtin; refine app_b _ rfl (.tmp 31) (.tmp 32) rfl w.heap.size A4 (S k) c4 _ rfl o4 All (AA k) (N k) (C k) _ rfl Q2.out (by omega) z4 ?_; intro A5 c5 w5 o5 k5 b5)
          refine ⟨⟨k + 1, A5, c5, by omega, by go_num, by rw [Q4.out], by rw [Q4.out, Q3.out]; exact o5, o4.old (Nat.le_refl _) k4 k5⟩, by simp [intOf]; omega⟩
        · obtain rfl : k = 2 := by omega
          rw [h2e.out]
          rw [h2e.out, hLe.out] at o4
          go_wp2
          go_ret
          exact ⟨_, _, rfl, o4, k4⟩
end Go.Proofs.Ythekhgpodopalaa
