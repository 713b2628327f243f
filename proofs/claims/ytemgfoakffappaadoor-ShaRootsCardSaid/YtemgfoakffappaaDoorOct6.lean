/- Put16 and its kin; the document's answer. -/
import Derived.Test.YtemgfoakffappaaDoorOct1
import Derived.Test.YtemgfoakffappaaDoorOct2
namespace Go.Proofs.YtemgfoakffappaaDoor
open Go.RowKit
open Go.Lib (hid)
theorem put_32 (w : World) (A : Option Addr) (n c : Nat) (l : List UInt8) (X : Nat) (F : Nat → Prop) (h : Bs w F A n c l) (hn : n ≤ 281474976710000) (hX : X < 256 ^ 4) :
    Calls Tryd.prog 40 #[.slice A n c, .int .u32 X] w fun e w' => ∃ A' c', e = .returned (.slice A' (n + 4) c') ∧ Ob w' w.heap.size A' (n + 4) c' (l ++ be 4 X) ∧ Kp All w w' := by
  go_enter Tryd.func40, Tryd.ntmps40
  go_wp2_with (go_at_call 51; refine (lies_u32 _ _ _ _ _ _ F h hn hX).mono ?_; rintro e w' ⟨A1, c1, rfl, h1, h2⟩)
  go_ret
  exact ⟨_, _, rfl, h1, h2⟩
theorem put_64 (w : World) (A : Option Addr) (n c : Nat) (l : List UInt8) (X : Nat) (F : Nat → Prop) (h : Bs w F A n c l) (hn : n ≤ 281474976710000) (hX : X < 256 ^ 8) :
    Calls Tryd.prog 31 #[.slice A n c, .int .u64 X] w fun e w' => ∃ A' c', e = .returned (.slice A' (n + 8) c') ∧ Ob w' w.heap.size A' (n + 8) c' (l ++ be 8 X) ∧ Kp All w w' := by
  go_enter Tryd.func31, Tryd.ntmps31
  go_wp2_with (go_at_call 46; refine (lies_u64 _ _ _ _ _ _ F h hn hX).mono ?_; rintro e w' ⟨A1, c1, rfl, h1, h2⟩)
  go_ret
  exact ⟨_, _, rfl, h1, h2⟩

theorem beq_equal (w : World) (A1 A2 : Option Addr) (n1 c1 n2 c2 : Nat) (l1 l2 : List UInt8) (F1 F2 : Nat → Prop) (h1 : Bs w F1 A1 n1 c1 l1) (h2 : Bs w F2 A2 n2 c2 l2) :
    Calls Tryd.prog 45 #[.slice A1 n1 c1, .slice A2 n2 c2] w fun e w' => e = .returned (.bool (decide (l1 = l2))) ∧ w = w' := by
  have q1 := run_b2s w _ _ _ _ _ h1
  have q2 := run_b2s w _ _ _ _ _ h2
  go_enter Tryd.func45, Tryd.ntmps45
  go_wp2
  go_ret
  rw [← beq_eq_decide]
  exact ⟨rfl, rfl⟩

theorem be_succ (k X : Nat) : be (k + 1) X = be k (X / 256) ++ [UInt8.ofNat X] := rfl
theorem high_any (k : Nat) : ∀ (w : World) (X : Nat), k ≤ 1000 → X < 18446744073709551616 →
    Calls Tryd.prog 41 #[.int .u64 X, .int .i64 k] w fun e w' => ∃ A' c', e = .returned (.slice A' k c') ∧ Ob w' w.heap.size A' k c' (be k X) ∧ Kp All w w' := by
  induction k with
  | zero =>
    intro w X _ _
    go_enter Tryd.func41, Tryd.ntmps41
    go_wp2_with fail
    go_ret
    exact ⟨none, 0, rfl, Ob.nil _ _, Kp.refl _ _⟩
  | succ k ih =>
    intro w X hk hX
    obtain ⟨Y, hY⟩ : ∃ Y, Y = X / 256 := ⟨_, rfl⟩
    have hY2 : Y < 18446744073709551616 := by omega
    have ih2 := hid (ih w Y (by omega) hY2)
    have eY : (X : Int) / 256 = (Y : Int) := by omega
    have HY := hid hY
    clear ih hY
    go_enter Tryd.func41, Tryd.ntmps41
    go_wp2_with (first | (go_at_call 41; refine ih2.out.mono ?_; rintro e w1 ⟨A1, c1, rfl, h1, h2⟩) | (at_builtin; refine app_b _ rfl (.tmp 11) (.tmp 15) rfl w.heap.size A1 k c1 _ rfl (h1.all (Kp.alloc _ _)) _ _ 1 1 [UInt8.ofNat X] rfl (Bs.lit _ _ _ _ _ (by simp) (by simp [bv_ofNat]) rfl (by simp [maxLen])) (by omega) (by have := h2.size; simp; omega) ?_; intro A2 c2 w2 h3 h4 h5))
    go_ret
    rw [be_succ, ← HY.out]
    exact ⟨_, _, rfl, h3, (h1.all (Kp.alloc w1 _)).old (Nat.le_refl _) (h2.trans (Kp.alloc _ _)) h4⟩

theorem both_any (w : World) (A1 A2 : Option Addr) (n1 c1 n2 c2 : Nat) (l1 l2 : List UInt8) (F1 F2 : Nat → Prop) (h1 : Bs w F1 A1 n1 c1 l1) (h2 : Bs w F2 A2 n2 c2 l2) (hn : n1 + n2 ≤ 140737488355328) :
    Calls Tryd.prog 42 #[.slice A1 n1 c1, .slice A2 n2 c2] w fun e w' => ∃ A' c', e = .returned (.slice A' (n1 + n2) c') ∧ Ob w' w.heap.size A' (n1 + n2) c' (l1 ++ l2) ∧ Kp All w w' := by
  go_enter Tryd.func42, Tryd.ntmps42
  go_wp2_with (first | (at_builtin; refine app_lit _ rfl (.tmp 6) (.tmp 7) rfl rfl F1 A1 n1 c1 _ rfl h1 (by omega) ?_; intro A3 c3 w1 o1 k1) | (at_builtin; refine app_b _ rfl (.tmp 9) (.tmp 10) rfl w.heap.size A3 n1 c3 _ rfl o1 F2 A2 n2 c2 _ rfl (h2.keep k1.all) (by omega) k1.size ?_; intro A4 c4 w2 o2 k3 b2))
  go_ret
  exact ⟨_, _, rfl, o2, o1.old (Nat.le_refl _) k1 k3⟩

theorem num_cons (b : UInt8) (l : List UInt8) : num (b :: l) = b.toNat * 256 ^ l.length + num l := by
  suffices h : ∀ n, ∀ l : List UInt8, l.length = n → ∀ b : UInt8, num (b :: l) = b.toNat * 256 ^ n + num l from h _ l rfl b
  intro n
  induction n with
  | zero => intro l hl b; rw [List.eq_nil_of_length_eq_zero hl]; simp [num]
  | succ n ih =>
    intro l hl b
    obtain ⟨l', c, rfl⟩ : ∃ l' c, l = l' ++ [c] := by
      rcases List.eq_nil_or_concat l with rfl | ⟨l', c, rfl⟩
      · simp at hl
      · exact ⟨l', c, by simp⟩
    rw [← List.cons_append, num_snoc, num_snoc, ih l' (by simpa using hl), Nat.pow_succ, Nat.add_mul, Nat.mul_assoc, Nat.add_assoc]
theorem number_step (l : List UInt8) (k : Nat) (hk : k < l.length) (M : Nat) :
    (num (l.drop (k + 1)) % M + (256 ^ (l.length - (k + 1)) % M * (l.getD k 0).toNat) % M) % M = num (l.drop k) % M ∧ 256 ^ (l.length - (k + 1)) % M * 256 % M = 256 ^ (l.length - k) % M := by
  have e : l.drop k = l.getD k 0 :: l.drop (k + 1) := by
    rw [List.drop_eq_getElem_cons hk]
    simp [hk]
  have e2 : (l.drop (k + 1)).length = l.length - (k + 1) := by simp
  constructor
  · rw [e, num_cons, e2, Nat.mod_mul_mod, ← Nat.add_mod, Nat.mul_comm, Nat.add_comm]
  · rw [Nat.mod_mul_mod, ← Nat.pow_succ]
    congr 2
    omega
theorem wrap_u64_nat (X : Nat) : IntKind.u64.wrap (X : Int) = ((X % 18446744073709551616 : Nat) : Int) := by
  rw [IntKind.wrap_u64]; omega
/-- 2^64, not to be counted -/
def M64 : Nat := 18446744073709551616
theorem wrap_M64 (X : Nat) : IntKind.u64.wrap (X : Int) = ((X % M64 : Nat) : Int) := wrap_u64_nat X

/-- the number that lies in bytes, as 64 bits hold it -/
def num64 (l : List UInt8) : Nat := num l % M64

theorem number_any (w : World) (A : Option Addr) (n c : Nat) (l : List UInt8) (F : Nat → Prop) (h : Bs w F A n c l) :
    Calls Tryd.prog 50 #[.slice A n c] w fun e w' => e = .returned (.int .u64 (num64 l)) ∧ w = w' := by
  have hc1 := h.capm
  have hk1 := h.cap
  unfold maxLen at hc1
  have hl := hid h.len
  go_enter Tryd.func50, Tryd.ntmps50
  go_wp2
  go_loop [3, 4, 5] (fun x we i => ∃ (k X W : Nat), k ≤ n ∧ x = .int .u64 X ∧ we = .int .u64 W ∧ i = .int .i64 k ∧ Hid (X = num (l.drop k) % M64 ∧ W = 256 ^ (l.length - k) % M64)) (fun _ _ i => (intOf i).toNat)
  case atStart =>
    refine ⟨n, 0, 1, Nat.le_refl _, rfl, rfl, rfl, hid ?_⟩
    rw [hl.out, List.drop_length]
    simp [num, M64]
  case round =>
    obtain ⟨k, X, W, hk, rfl, rfl, rfl, hX⟩ := hrel
    cases k with
    | zero =>
      go_wp2
      go_ret
      have := hX.out.1
      rw [List.drop_zero] at this
      rw [show num64 l = X from this.symm]
      exact ⟨rfl, rfl⟩
    | succ k =>
      obtain ⟨ad, rfl, _, hx⟩ := h.at_ (k := k) (by omega)
      have hst := hid (number_step l k (by have := hl.out; omega) M64)
      obtain ⟨b, hb⟩ : ∃ b, b = l.getD k 0 := ⟨_, rfl⟩
      rw [← hb] at hx hst
      clear hb
      have hb2 := b.toNat_lt
      go_wp2
      refine ⟨⟨k, (X + W * b.toNat % M64) % M64, W * 256 % M64, by omega, ?_, ?_, by go_num, hid (?_ : _ ∧ _)⟩, by simp [intOf]⟩
      rotate_right
      · rw [← hst.out.1, ← hst.out.2, ← hX.out.1, ← hX.out.2]
        exact ⟨rfl, rfl⟩
      · rw [← Int.natCast_mul, wrap_M64, ← Int.natCast_add, wrap_M64]
      · rw [show ((W : Int) * 256) = ((W * 256 : Nat) : Int) from by omega, wrap_M64]
end Go.Proofs.YtemgfoakffappaaDoor
