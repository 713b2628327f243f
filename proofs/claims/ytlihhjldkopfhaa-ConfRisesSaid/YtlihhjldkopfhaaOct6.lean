/- Put16 and its kin; the document's answer. -/
import Derived.Test.YtlihhjldkopfhaaOct1
import Derived.Test.YtlihhjldkopfhaaOct2
namespace Go.Proofs.Ytlihhjldkopfhaa
open Go.RowKit
open Go.Lib (hid)
theorem beq_equal (w : World) (A1 A2 : Option Addr) (n1 c1 n2 c2 : Nat) (l1 l2 : List UInt8) (F1 F2 : Nat → Prop) (h1 : Bs w F1 A1 n1 c1 l1) (h2 : Bs w F2 A2 n2 c2 l2) :
    Calls Try.prog 22 #[.slice A1 n1 c1, .slice A2 n2 c2] w fun e w' => e = .returned (.bool (decide (l1 = l2))) ∧ w = w' := by
  have q1 := run_b2s w _ _ _ _ _ h1
  have q2 := run_b2s w _ _ _ _ _ h2
  go_enter Try.func22, Try.ntmps22
  go_wp2
  go_ret
  rw [← beq_eq_decide]
  exact ⟨rfl, rfl⟩

theorem be_succ (k X : Nat) : be (k + 1) X = be k (X / 256) ++ [UInt8.ofNat X] := rfl
theorem num_cons (b : UInt8) (l : List UInt8) : num (b :: l) = b.toNat * 256 ^ l.length + num l := by
  suffices h : ∀ n, ∀ l : List UInt8, l.length = n → ∀ b : UInt8, num (b :: l) = b.toNat * 256 ^ n + num l from h _ l rfl b
  intro n
  induction n with
  | zero => intro l hl b; rw [List.eq_nil_of_length_eq_zero hl]; simp [num]
  | succ n ih =>
    intro l hl b
    obtain ⟨l', c, rfl⟩ : ∃ l' c, l = l' ++ [c] := by
      rcases List.eq_nil_or_concat l with rfl | ⟨l', c, rfl⟩
      · simp at hl
      · exact ⟨l', c, by simp⟩
    rw [← List.cons_append, num_snoc, num_snoc, ih l' (by simpa using hl), Nat.pow_succ, Nat.add_mul, Nat.mul_assoc, Nat.add_assoc]
theorem number_step (l : List UInt8) (k : Nat) (hk : k < l.length) (M : Nat) :
    (num (l.drop (k + 1)) % M + (256 ^ (l.length - (k + 1)) % M * (l.getD k 0).toNat) % M) % M = num (l.drop k) % M ∧ 256 ^ (l.length - (k + 1)) % M * 256 % M = 256 ^ (l.length - k) % M := by
  have e : l.drop k = l.getD k 0 :: l.drop (k + 1) := by
    rw [List.drop_eq_getElem_cons hk]
    simp [hk]
  have e2 : (l.drop (k + 1)).length = l.length - (k + 1) := by simp
  constructor
  · rw [e, num_cons, e2, Nat.mod_mul_mod, ← Nat.add_mod, Nat.mul_comm, Nat.add_comm]
  · rw [Nat.mod_mul_mod, ← Nat.pow_succ]
    congr 2
    omega
theorem wrap_u64_nat (X : Nat) : IntKind.u64.wrap (X : Int) = ((X % 18446744073709551616 : Nat) : Int) := by
  rw [IntKind.wrap_u64]; omega
/-- 2^64, not to be counted -/
def M64 : Nat := 18446744073709551616
theorem wrap_M64 (X : Nat) : IntKind.u64.wrap (X : Int) = ((X % M64 : Nat) : Int) := wrap_u64_nat X

/-- the number that lies in bytes, as 64 bits hold it -/
def num64 (l : List UInt8) : Nat := num l % M64

end Go.Proofs.Ytlihhjldkopfhaa
