/- Contracts of small byte functions. -/
import Derived.Test.YtleecfhafnfeoaaProg
import Derived.Test.YtleecfhafnfeoaaB
import Derived.Deep.QuietTactic
import Derived.BigQuiet
namespace Go.Proofs.Ytleecfhafnfeoaa
open Go.RowKit
open Go.Lib (hid)

theorem same_len (w : World) (A1 A2 : Option Addr) (n1 c1 n2 c2 : Nat) (l1 l2 : List UInt8) (F1 F2 : Nat → Prop) (h1 : Bs w F1 A1 n1 c1 l1) (h2 : Bs w F2 A2 n2 c2 l2) (hne : n1 ≠ n2) :
    Calls Try.prog 12 #[.slice A1 n1 c1, .slice A2 n2 c2] w fun e w' => e = .returned (.bool false) ∧ ∃ k, w' = w.drewN k := by
  have hc1 := h1.capm
  have hc2 := h2.capm
  have hk1 := h1.cap
  have hk2 := h2.cap
  unfold maxLen at hc1 hc2
  have he : ((n1 : Int) == (n2 : Int)) = false := by simp; omega
  go_enter Try.func12, Try.ntmps12
  go_wp2
  go_loop [5, 6] (fun s i => s = .bool false) (fun _ _ => 0)
  case atStart => rfl
  case round =>
    subst hrel
    go_wp2
    go_ret
    exact ⟨rfl, 0, rfl⟩

theorem take_succ_eq {l1 l2 : List UInt8} {k : Nat} (h1 : k < l1.length) (h2 : k < l2.length) (h : l1.take k = l2.take k) :
    l1.take (k + 1) = l2.take (k + 1) ↔ l1.getD k 0 = l2.getD k 0 := by
  rw [List.take_succ_eq_append_getElem h1, h, List.take_succ_eq_append_getElem h2, List.append_cancel_left_eq]
  simp [h1, h2]

theorem same_eq (w : World) (A1 A2 : Option Addr) (n c1 c2 : Nat) (l1 l2 : List UInt8) (F1 F2 : Nat → Prop) (h1 : Bs w F1 A1 n c1 l1) (h2 : Bs w F2 A2 n c2 l2) :
    Calls Try.prog 12 #[.slice A1 n c1, .slice A2 n c2] w fun e w' => e = .returned (.bool (decide (l1 = l2))) ∧ ∃ k, w' = w.drewN k := by
  have hc1 := h1.capm
  have hc2 := h2.capm
  have hk1 := h1.cap
  have hk2 := h2.cap
  unfold maxLen at hc1 hc2
  have L1 := hid h1.len
  have L2 := hid h2.len
  go_enter Try.func12, Try.ntmps12
  go_wp2
  go_loopw [5, 6] (fun s i wr => ∃ (k : Nat) (b : Bool), k ≤ n ∧ i = .int .i64 k ∧ s = .bool b ∧ Hid (b = decide (l1.take k = l2.take k)) ∧ ∃ m, wr = w.drewN m) (fun _ i _ => n - (intOf i).toNat)
  case atStart => exact ⟨0, true, Nat.zero_le _, rfl, rfl, hid (by simp), 0, rfl⟩
  case round =>
    obtain ⟨k, b, hk, rfl, rfl, hb, m, rfl⟩ := hrel
    cases b with
    | false =>
      go_wp2
      go_ret
      refine ⟨?_, m, rfl⟩
      congr 2
      have := hb.out
      simp at this ⊢
      intro h
      exact this (by rw [h])
    | true =>
      by_cases hlt : k < n
      · obtain ⟨ad1, rfl, _, hx1⟩ := h1.at_ hlt
        obtain ⟨ad2, rfl, _, hx2⟩ := h2.at_ hlt
        go_wp2
        go_quiet (fail)
        go_wp2
        refine ⟨⟨k + 1, decide (l1.take (k + 1) = l2.take (k + 1)), by omega, by go_num, ?_, hid rfl, _, rfl⟩, by simp [intOf]; omega⟩
        congr 1
        rw [Bool.eq_iff_iff, decide_eq_true_eq, take_succ_eq (by have := L1.out; omega) (by have := L2.out; omega) (by have := hb.out; simpa using this)]
        simp [← UInt8.toNat_inj]; omega
      · go_wp2
        go_ret
        refine ⟨?_, m, rfl⟩
        congr 2
        have := hb.out
        simp at this ⊢
        rw [List.take_of_length_le (by have := L1.out; omega), List.take_of_length_le (by have := L2.out; omega)] at this
        exact this


theorem byte_lt (b : UInt8) : b.toNat < 256 := b.toNat_lt

theorem beq_eq_decide (l1 l2 : List UInt8) : (l1 == l2) = decide (l1 = l2) := by rw [Bool.eq_iff_iff]; simp

theorem equal_any (w : World) (A1 A2 : Option Addr) (n1 c1 n2 c2 : Nat) (l1 l2 : List UInt8) (F1 F2 : Nat → Prop) (h1 : Bs w F1 A1 n1 c1 l1) (h2 : Bs w F2 A2 n2 c2 l2) :
    Calls Try.prog 17 #[.slice A1 n1 c1, .slice A2 n2 c2] w fun e w' => e = .returned (.bool (decide (l1 = l2))) ∧ w = w' := by
  have q1 := run_b2s w _ _ _ _ _ h1
  have q2 := run_b2s w _ _ _ _ _ h2
  go_enter Try.func17, Try.ntmps17
  go_wp2
  go_ret
  rw [← beq_eq_decide]
  exact ⟨rfl, rfl⟩
end Go.Proofs.Ytleecfhafnfeoaa
