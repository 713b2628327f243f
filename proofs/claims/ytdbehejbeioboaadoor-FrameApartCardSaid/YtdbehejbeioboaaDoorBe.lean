/- Numbers as bytes, the highest digit first: plain mathematics. -/
import Derived.Test.YtdbehejbeioboaaDoorCf
namespace Go.Proofs.YtdbehejbeioboaaDoor

/-- the k lowest digits of X to the base 256, the highest first -/
def be : Nat → Nat → List UInt8
  | 0, _ => []
  | k + 1, X => be k (X / 256) ++ [UInt8.ofNat X]
theorem be_len (k X : Nat) : (be k X).length = k := by
  induction k generalizing X with
  | zero => rfl
  | succ k ih => simp [be, ih]
theorem be_cons (k X : Nat) : be (k + 1) X = UInt8.ofNat (X / 256 ^ k) :: be k X := by
  induction k generalizing X with
  | zero => simp [be]
  | succ k ih =>
    rw [be, ih (X / 256), be, List.cons_append, Nat.div_div_eq_div_mul, Nat.pow_succ, Nat.mul_comm]
/-- the number that lies in bytes -/
def num : List UInt8 → Nat := fun l => l.foldl (fun x c => x * 256 + c.toNat) 0
theorem num_snoc (l : List UInt8) (c : UInt8) : num (l ++ [c]) = num l * 256 + c.toNat := by simp [num]
theorem num_be (k X : Nat) : num (be k X) = X % 256 ^ k := by
  induction k generalizing X with
  | zero => simp [be, num, Nat.mod_one]
  | succ k ih =>
    rw [be, num_snoc, ih, Nat.pow_succ]
    have h : (UInt8.ofNat X).toNat = X % 256 := by simp
    rw [h]
    rw [Nat.mul_comm (256 ^ k) 256, Nat.mod_mul]
    omega
theorem num_lt (l : List UInt8) : num l < 256 ^ l.length := by
  suffices h : ∀ n, ∀ l : List UInt8, l.length = n → num l < 256 ^ n from h _ l rfl
  intro n
  induction n with
  | zero => intro l hl; rw [List.eq_nil_of_length_eq_zero hl]; simp [num]
  | succ n ih =>
    intro l hl
    obtain ⟨l', c, rfl⟩ : ∃ l' c, l = l' ++ [c] := by
      rcases List.eq_nil_or_concat l with rfl | ⟨l', c, rfl⟩
      · simp at hl
      · exact ⟨l', c, by simp⟩
    have h := ih l' (by simpa using hl)
    have hc := c.toNat_lt
    rw [num_snoc, Nat.pow_succ]
    omega
theorem num_take_succ (L : List UInt8) (k : Nat) (h : k < L.length) : num (L.take (k + 1)) = num (L.take k) * 256 + (L.getD k 0).toNat := by
  rw [List.take_succ_eq_append_getElem h, num_snoc]
  simp [h]
theorem num_le (l : List UInt8) (k : Nat) (h : l.length ≤ k) : num l < 256 ^ k :=
  Nat.lt_of_lt_of_le (num_lt l) (Nat.pow_le_pow_right (by omega) h)
end Go.Proofs.YtdbehejbeioboaaDoor
