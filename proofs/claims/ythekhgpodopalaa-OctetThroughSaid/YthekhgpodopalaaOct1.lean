/- Contracts of small byte functions. -/
import Derived.Test.YthekhgpodopalaaProg
import Derived.Test.YthekhgpodopalaaB
import Derived.Deep.QuietTactic
import Derived.BigQuiet
namespace Go.Proofs.Ythekhgpodopalaa
open Go.RowKit
open Go.Lib (hid)

theorem same_len (w : World) (A1 A2 : Option Addr) (n1 c1 n2 c2 : Nat) (l1 l2 : List UInt8) (F1 F2 : Nat → Prop) (h1 : Bs w F1 A1 n1 c1 l1) (h2 : Bs w F2 A2 n2 c2 l2) (hne : n1 ≠ n2) :
    Calls Try.prog 12 #[.slice A1 n1 c1, .slice A2 n2 c2] w fun e w' => e = .returned (.bool false) ∧ ∃ k, w' = w.drewN k := by
  have hc1 := h1.capm
  have hc2 := h2.capm
  have hk1 := h1.cap
  have hk2 := h2.cap
  unfold maxLen at hc1 hc2
  have he : ((n1 : Int) == (n2 : Int)) = false := by simp; omega
  go_enter Try.func12, Try.ntmps12
  go_wp2
  go_loop [5, 6] (fun s i => s = .bool false) (fun _ _ => 0)
  case atStart => rfl
  case round =>
    subst hrel
    go_wp2
    go_ret
    exact ⟨rfl, 0, rfl⟩

theorem take_succ_eq {l1 l2 : List UInt8} {k : Nat} (h1 : k < l1.length) (h2 : k < l2.length) (h : l1.take k = l2.take k) :
    l1.take (k + 1) = l2.take (k + 1) ↔ l1.getD k 0 = l2.getD k 0 := by
  rw [List.take_succ_eq_append_getElem h1, h, List.take_succ_eq_append_getElem h2, List.append_cancel_left_eq]
  simp [h1, h2]

theorem same_eq (w : World) (A1 A2 : Option Addr) (n c1 c2 : Nat) (l1 l2 : List UInt8) (F1 F2 : Nat → Prop) (h1 : Bs w F1 A1 n c1 l1) (h2 : Bs w F2 A2 n c2 l2) :
    Calls Try.prog 12 #[.slice A1 n c1, .slice A2 n c2] w fun e w' => e = .returned (.bool (decide (l1 = l2))) ∧ ∃ k, w' = w.drewN k := by
  have hc1 := h1.capm
  have hc2 := h2.capm
  have hk1 := h1.cap
  have hk2 := h2.cap
  unfold maxLen at hc1 hc2
  have L1 := hid h1.len
  have L2 := hid h2.len
  go_enter Try.func12, Try.ntmps12
  go_wp2
  go_loopw [5, 6] (fun s i wr => ∃ (k : Nat) (b : Bool), k ≤ n ∧ i = .int .i64 k ∧ s = .bool b ∧ Hid (b = decide (l1.take k = l2.take k)) ∧ ∃ m, wr = w.drewN m) (fun _ i _ => n - (intOf i).toNat)
  case atStart => exact ⟨0, true, Nat.zero_le _, rfl, rfl, hid (by simp), 0, rfl⟩
  case round =>
    obtain ⟨k, b, hk, rfl, rfl, hb, m, rfl⟩ := hrel
    cases b with
    | false =>
      go_wp2
      go_ret
      refine ⟨?_, m, rfl⟩
      congr 2
      have := hb.out
      simp at this ⊢
      intro h
      exact this (by rw [h])
    | true =>
      by_cases hlt : k < n
      · obtain ⟨ad1, rfl, _, hx1⟩ := h1.at_ hlt
        obtain ⟨ad2, rfl, _, hx2⟩ := h2.at_ hlt
        go_wp2
        go_quiet (fail)
        go_wp2
        refine ⟨⟨k + 1, decide (l1.take (k + 1) = l2.take (k + 1)), by omega, by go_num, ?_, hid rfl, _, rfl⟩, by simp [intOf]; omega⟩
        congr 1
        rw [Bool.eq_iff_iff, decide_eq_true_eq, take_succ_eq (by have := L1.out; omega) (by have := L2.out; omega) (by have := hb.out; simpa using this)]
        simp [← UInt8.toNat_inj]; omega
      · go_wp2
        go_ret
        refine ⟨?_, m, rfl⟩
        congr 2
        have := hb.out
        simp at this ⊢
        rw [List.take_of_length_le (by have := L1.out; omega), List.take_of_length_le (by have := L2.out; omega)] at this
        exact this


theorem own_any (w : World) (A : Option Addr) (n c : Nat) (l : List UInt8) (F : Nat → Prop) (h : Bs w F A n c l) :
    Calls Try.prog 11 #[.slice A n c] w fun e w' => ∃ A' c', e = .returned (.slice A' (min n 600) c') ∧ Ob w' w.heap.size A' (min n 600) c' (l.take 600) ∧ Kp All w w' := by
  have hc1 := h.capm
  have hk1 := h.cap
  have hl := hid h.len
  unfold maxLen at hc1
  by_cases h6 : n ≤ 600
  · have hr := (h.head (k := n) (Nat.le_refl _)).keep (Kp.alloc w (.cells #[] 5))
    go_enter Try.func11, Try.ntmps11
    go_wp2_with (at_builtin; refine app_b _ rfl (.tmp 3) (.tmp 8) rfl w.heap.size _ 0 0 [] rfl (World.ownsRow_lit w #[] 0 (Nat.le_refl _) (by simp) rfl) F A n c _ rfl hr (by omega) (by simp) ?_; intro A1 c1 w1 hown1 hk1 hb1)
    go_ret
    have h2 : min n 600 = n := by omega
    rw [h2]
    have := hl.out
    rw [List.nil_append, Nat.zero_add, List.take_of_length_le (by omega)] at hown1
    rw [List.take_of_length_le (by omega)]
    exact ⟨_, _, rfl, hown1, (Kp.alloc w _).since hk1 (by intro i hi; simp [Value.ownBlock]; omega)⟩
  · have hr := (h.head (k := 600) (by omega)).keep (Kp.alloc w (.cells #[] 5))
    go_enter Try.func11, Try.ntmps11
    go_wp2_with (at_builtin; refine app_b _ rfl (.tmp 3) (.tmp 8) rfl w.heap.size _ 0 0 [] rfl (World.ownsRow_lit w #[] 0 (Nat.le_refl _) (by simp) rfl) F A 600 c _ rfl hr (by omega) (by simp) ?_; intro A1 c1 w1 hown1 hk1 hb1)
    go_ret
    have h2 : min n 600 = 600 := by omega
    rw [h2]
    rw [List.nil_append, Nat.zero_add] at hown1
    exact ⟨_, _, rfl, hown1, (Kp.alloc w _).since hk1 (by intro i hi; simp [Value.ownBlock]; omega)⟩

/-- 'own': a copy, cut at 600 -/
theorem own_var (w : World) (A : Option Addr) (n c : Nat) (l : List UInt8) (F : Nat → Prop) (h : Bs w F A n c l) :
    Calls Try.prog 11 #[.slice A n c] w fun e w' => ∃ A' n' c' l', e = .returned (.slice A' n' c') ∧ Hid (n' = min n 600) ∧ Hid (l' = l.take 600) ∧ n' ≤ 600 ∧ Ob w' w.heap.size A' n' c' l' ∧ Kp All w w' :=
  (own_any w A n c l F h).mono fun _ _ ⟨A', c', he, ho, hk⟩ => ⟨A', _, c', _, he, hid rfl, hid rfl, by omega, ho, hk⟩

theorem zero_any (w : World) (A : Option Addr) (n c : Nat) (l : List UInt8) (F : Nat → Prop) (h : Bs w F A n c l) :
    Calls Try.prog 14 #[.slice A n c] w fun e w' => e = .returned (.bool (l.all (· == 0))) ∧ w = w' := by
  have hc1 := h.capm
  unfold maxLen at hc1
  go_enter Try.func14, Try.ntmps14
  go_wp2
  go_loop [0] (fun v => ∃ (A1 : Option Addr) (n1 c1 : Nat) (l1 : List UInt8), v = .slice A1 n1 c1 ∧ Bs w F A1 n1 c1 l1 ∧ n1 ≤ n ∧ Hid (l1.all (· == 0) = l.all (· == 0))) (fun v => match v with | .slice _ n _ => n | _ => 0)
  case atStart => exact ⟨A, n, c, l, rfl, h, Nat.le_refl _, hid rfl⟩
  case round =>
    obtain ⟨A1, n1, c1, l1, rfl, h1, hn1, heq⟩ := hrel
    have hc2 := h1.capm
    have hk2 := h1.cap
    unfold maxLen at hc2
    have hl1 := hid h1.len
    by_cases h0 : n1 = 0
    · subst h0
      go_wp2
      go_ret
      rw [← heq.out, List.eq_nil_of_length_eq_zero hl1.out.symm]
      exact ⟨rfl, rfl⟩
    · obtain ⟨ad, rfl, _, hx⟩ := h1.at_ (k := 0) (by omega)
      have h2 := h1.cutA (k := 1) (by omega)
      have hcut : ∀ w, (Instr.slice 22 (.slice (some ad) n1 c1) (some (.int .i64 1)) none none).run Try.prog w = .ok (.slice (cutA (some ad) c1 1) (n1 - 1) (c1 - 1)) w := fun w => run_cut_b w (some ad) n1 c1 1 (by omega)
      have e0 : ad.add 0 = ad := by simp [Addr.add]
      rw [e0] at hx
      obtain ⟨b, l2, rfl⟩ : ∃ b l2, l1 = b :: l2 := by
        cases l1 with
        | nil => exact absurd hl1.out h0
        | cons b l2 => exact ⟨b, l2, rfl⟩
      simp at hx h2
      by_cases hb : b = 0
      · subst hb
        have hx2 : w.cell? ad = some (.int .u8 0) := hx
        clear hx
        go_wp2
        exact ⟨⟨_, _, _, _, rfl, h2, by omega, hid (by rw [← heq.out]; simp)⟩, by simp; omega⟩
      · have hb' : ((b.toNat : Int) == 0) = false := by
          simp
          intro h
          exact hb (UInt8.toNat_inj.1 h)
        have hn0 : ((n1 : Int) == 0) = false := by simp; omega
        go_wp2
        go_ret
        rw [← heq.out]
        simp [hb]

theorem byte_lt (b : UInt8) : b.toNat < 256 := b.toNat_lt

theorem beq_eq_decide (l1 l2 : List UInt8) : (l1 == l2) = decide (l1 = l2) := by rw [Bool.eq_iff_iff]; simp

theorem equal_any (w : World) (A1 A2 : Option Addr) (n1 c1 n2 c2 : Nat) (l1 l2 : List UInt8) (F1 F2 : Nat → Prop) (h1 : Bs w F1 A1 n1 c1 l1) (h2 : Bs w F2 A2 n2 c2 l2) :
    Calls Try.prog 13 #[.slice A1 n1 c1, .slice A2 n2 c2] w fun e w' => e = .returned (.bool (decide (l1 = l2))) ∧ w = w' := by
  have q1 := run_b2s w _ _ _ _ _ h1
  have q2 := run_b2s w _ _ _ _ _ h2
  go_enter Try.func13, Try.ntmps13
  go_wp2
  go_ret
  rw [← beq_eq_decide]
  exact ⟨rfl, rfl⟩
end Go.Proofs.Ythekhgpodopalaa
