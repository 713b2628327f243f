/- Digests: numbers in digits to the base 65536; roots; primes: plain mathematics. -/
import Derived.Test.YtemgfoakffappaaDoorCf
namespace Go.Proofs.YtemgfoakffappaaDoor
set_option linter.unusedVariables false
set_option linter.unusedSimpArgs false
def val : List Nat → Nat
  | [] => 0
  | d :: l => d + 65536 * val l
def Digs (l : List Nat) : Prop := ∀ d ∈ l, d < 65536
theorem val_snoc (l : List Nat) (d : Nat) : val (l ++ [d]) = val l + d * 65536 ^ l.length := by
  induction l with
  | nil => simp [val]
  | cons x l ih =>
    simp only [List.cons_append, val, ih, List.length_cons, Nat.pow_succ]
    grind
theorem val_take (l : List Nat) (i : Nat) (h : i < l.length) : val (l.take (i + 1)) = val (l.take i) + l.getD i 0 * 65536 ^ i := by
  rw [List.take_succ_eq_append_getElem h, val_snoc, List.length_take, Nat.min_eq_left (by omega)]
  simp [List.getD, h]
theorem val_uncons (a : List Nat) : val a = a.getD 0 0 + 65536 * val a.tail := by
  cases a with
  | nil => rfl
  | cons x l => rfl
theorem getD_tail (a : List Nat) (j : Nat) : a.tail.getD j 0 = a.getD (j + 1) 0 := by
  cases a with
  | nil => simp
  | cons x l => simp
theorem Digs.tail {a : List Nat} (h : Digs a) : Digs a.tail := fun d hd => h d (List.mem_of_mem_tail hd)
theorem Digs.at_ {a : List Nat} (h : Digs a) (i : Nat) : a.getD i 0 < 65536 := by
  rcases Nat.lt_or_ge i a.length with h1 | h1
  · have := h _ (List.getElem_mem h1)
    simpa [List.getD, h1] using this
  · simp [List.getD, List.getElem?_eq_none h1]
theorem val_ext : ∀ (n : Nat) (a b : List Nat), a.length ≤ n → b.length ≤ n → (∀ j, a.getD j 0 = b.getD j 0) → val a = val b
  | 0, a, b, ha, hb, _ => by
    rw [List.eq_nil_of_length_eq_zero (by omega : a.length = 0), List.eq_nil_of_length_eq_zero (by omega : b.length = 0)]
  | n + 1, a, b, ha, hb, h => by
    rw [val_uncons a, val_uncons b, h 0, val_ext n a.tail b.tail (by rw [List.length_tail]; omega) (by rw [List.length_tail]; omega) fun j => by rw [getD_tail, getD_tail, h]]
theorem val_lt : ∀ (i : Nat) (a b : List Nat), Digs a → Digs b → (∀ j, i < j → a.getD j 0 = b.getD j 0) → a.getD i 0 < b.getD i 0 → val a < val b
  | 0, a, b, ha, hb, h, hlt => by
    rw [val_uncons a, val_uncons b, val_ext (max a.length b.length) a.tail b.tail (by rw [List.length_tail]; omega) (by rw [List.length_tail]; omega) fun j => by rw [getD_tail, getD_tail, h (j + 1) (by omega)]]
    omega
  | i + 1, a, b, ha, hb, h, hlt => by
    have ih := val_lt i a.tail b.tail ha.tail hb.tail (fun j hj => by rw [getD_tail, getD_tail, h (j + 1) (by omega)]) (by rw [getD_tail, getD_tail]; exact hlt)
    have h0 := ha.at_ 0
    rw [val_uncons a, val_uncons b]
    omega
/-- one digit more of a product -/
theorem times_step {l os : List Nat} {x cy i : Nat} (hi : i < l.length) (ho : os.length = i) (h : val os + cy * 65536 ^ i = val (l.take i) * x) : val (os ++ [(cy + l.getD i 0 * x) % 65536]) + (cy + l.getD i 0 * x) / 65536 * 65536 ^ (i + 1) = val (l.take (i + 1)) * x := by
  rw [val_snoc, val_take l i hi, ho, Nat.pow_succ]
  have h1 := Nat.mod_add_div (cy + l.getD i 0 * x) 65536
  generalize (cy + l.getD i 0 * x) % 65536 = r at *
  generalize (cy + l.getD i 0 * x) / 65536 = q at *
  generalize 65536 ^ i = p at *
  grind
theorem times_tail {l os : List Nat} {x cy i : Nat} (hi : l.length ≤ i) (ho : os.length = i) (h : val os + cy * 65536 ^ i = val (l.take i) * x) : val (os ++ [cy % 65536]) + cy / 65536 * 65536 ^ (i + 1) = val (l.take (i + 1)) * x := by
  rw [List.take_of_length_le (by omega)] at h ⊢
  rw [val_snoc, ho, Nat.pow_succ]
  have h1 := Nat.mod_add_div cy 65536
  generalize cy % 65536 = r at *
  generalize cy / 65536 = q at *
  generalize 65536 ^ i = p at *
  grind
theorem carry_lt {cy d x : Nat} (hc : cy ≤ x) (hd : d < 65536) : (cy + d * x) / 65536 ≤ x := by
  have h1 : d * x ≤ 65535 * x := Nat.mul_le_mul_right _ (by omega)
  omega
theorem carry_tail {cy x k : Nat} (h : cy * 65536 ^ k ≤ x) : cy / 65536 * 65536 ^ (k + 1) ≤ x := by
  have h1 : cy / 65536 * 65536 ≤ cy := Nat.div_mul_le_self _ _
  have h2 : cy / 65536 * 65536 * 65536 ^ k ≤ cy * 65536 ^ k := Nat.mul_le_mul_right _ h1
  rw [Nat.pow_succ, Nat.mul_comm (65536 ^ k) 65536, ← Nat.mul_assoc]
  omega
theorem carry_pow {cy x k : Nat} (h : cy * 65536 ^ k ≤ x) (h0 : 0 < cy) (hx : x < 2 ^ 41) : k ≤ 2 := by
  rcases Nat.lt_or_ge 2 k with h1 | h1
  · exfalso
    have h2 : 65536 ^ 3 ≤ 65536 ^ k := Nat.pow_le_pow_right (by decide) h1
    have h3 : 1 * 65536 ^ k ≤ cy * 65536 ^ k := Nat.mul_le_mul_right _ h0
    omega
  · exact h1

/-! the root, bit by bit -/
def rootX (p k : Nat) : Nat → Nat
  | 0 => 0
  | t + 1 => if (rootX p k t + 68719476736 / 2 ^ t) ^ k ≤ p * 4294967296 ^ k then rootX p k t + 68719476736 / 2 ^ t else rootX p k t
def rootW (p k : Nat) : UInt32 := UInt32.ofNat (rootX p k 37)
theorem bit_next (t : Nat) : 68719476736 / 2 ^ t / 2 = 68719476736 / 2 ^ (t + 1) := by rw [Nat.div_div_eq_div_mul, Nat.pow_succ]
theorem bit_pos {t : Nat} : 0 < 68719476736 / 2 ^ t ↔ t ≤ 36 := by
  rw [Nat.div_pos_iff]
  constructor
  · rintro ⟨_, h⟩
    rcases Nat.lt_or_ge 36 t with h1 | h1
    · exfalso
      have : 2 ^ 37 ≤ 2 ^ t := Nat.pow_le_pow_right (by decide) h1
      omega
    · exact h1
  · intro h
    refine ⟨Nat.pow_pos (by decide), ?_⟩
    have : 2 ^ t ≤ 2 ^ 36 := Nat.pow_le_pow_right (by decide) h
    omega

/-! primes -/
def primeN (n : Nat) : Bool := decide (1 < n) && (List.range n).all fun d => decide (d < 2) || decide (n < d * d) || decide (n % d ≠ 0)
theorem primeN_no {n d : Nat} (h2 : 2 ≤ d) (hd : d * d ≤ n) (h : n % d = 0) : primeN n = false := by
  unfold primeN
  rw [Bool.and_eq_false_iff]
  right
  rw [← Bool.not_eq_true, List.all_eq_true]
  intro h1
  have hlt : d < n := by
    have : 2 * d ≤ d * d := Nat.mul_le_mul_right _ h2
    omega
  have := h1 d (by simpa using hlt)
  simp only [Bool.or_eq_true, decide_eq_true_eq] at this
  rcases this with (h3 | h3) | h3
  · omega
  · omega
  · exact h3 h
theorem primeN_end {n d : Nat} (hd : n < d * d) (h : ∀ e, 2 ≤ e → e < d → n % e ≠ 0) : primeN n = decide (1 < n) := by
  have : (List.range n).all (fun d => decide (d < 2) || decide (n < d * d) || decide (n % d ≠ 0)) = true := by
    rw [List.all_eq_true]
    intro e he
    simp only [Bool.or_eq_true, decide_eq_true_eq]
    by_cases h2 : e < 2
    · exact .inl (.inl h2)
    · by_cases h3 : n < e * e
      · exact .inl (.inr h3)
      · right
        refine h e (by omega) ?_
        rcases Nat.lt_or_ge e d with h4 | h4
        · exact h4
        · exfalso
          have : d * d ≤ e * e := Nat.mul_le_mul h4 h4
          omega
  rw [primeN, this, Bool.and_true]
/-- the words of the primes below a number -/
def wl (k p : Nat) : List UInt32 := ((List.range p).filter primeN).map fun q => rootW q k
theorem wl_next (k p : Nat) : wl k (p + 1) = wl k p ++ if primeN p then [rootW p k] else [] := by
  simp only [wl, List.range_succ, List.filter_append, List.map_append]
  congr 1
  by_cases h : primeN p = true <;> simp [h]
theorem wl_prefix (k p q : Nat) (h : p ≤ q) : ∃ r, wl k q = wl k p ++ r := by
  induction q with
  | zero => exact ⟨[], by rw [show p = 0 by omega]; simp⟩
  | succ q ih =>
    rcases Nat.lt_or_ge q p with h1 | h1
    · exact ⟨[], by rw [show p = q + 1 by omega]; simp⟩
    · obtain ⟨r, hr⟩ := ih h1
      exact ⟨_, by rw [wl_next, hr, List.append_assoc]⟩
theorem wl_len (k : Nat) : (wl k 312).length = 64 := by
  rw [wl, List.length_map]
  decide +kernel
theorem wl_take {k p : Nat} (h : p ≤ 312) : wl k p = (wl k 312).take (wl k p).length := by
  obtain ⟨r, hr⟩ := wl_prefix k p 312 h
  rw [hr]
  simp
theorem wl_cubes : wl 3 312 = [
  0x428a2f98, 0x71374491, 0xb5c0fbcf, 0xe9b5dba5, 0x3956c25b, 0x59f111f1, 0x923f82a4, 0xab1c5ed5,
  0xd807aa98, 0x12835b01, 0x243185be, 0x550c7dc3, 0x72be5d74, 0x80deb1fe, 0x9bdc06a7, 0xc19bf174,
  0xe49b69c1, 0xefbe4786, 0x0fc19dc6, 0x240ca1cc, 0x2de92c6f, 0x4a7484aa, 0x5cb0a9dc, 0x76f988da,
  0x983e5152, 0xa831c66d, 0xb00327c8, 0xbf597fc7, 0xc6e00bf3, 0xd5a79147, 0x06ca6351, 0x14292967,
  0x27b70a85, 0x2e1b2138, 0x4d2c6dfc, 0x53380d13, 0x650a7354, 0x766a0abb, 0x81c2c92e, 0x92722c85,
  0xa2bfe8a1, 0xa81a664b, 0xc24b8b70, 0xc76c51a3, 0xd192e819, 0xd6990624, 0xf40e3585, 0x106aa070,
  0x19a4c116, 0x1e376c08, 0x2748774c, 0x34b0bcb5, 0x391c0cb3, 0x4ed8aa4a, 0x5b9cca4f, 0x682e6ff3,
  0x748f82ee, 0x78a5636f, 0x84c87814, 0x8cc70208, 0x90befffa, 0xa4506ceb, 0xbef9a3f7, 0xc67178f2] := by decide +kernel
theorem wl_squares : (wl 2 312).take 8 = [0x6a09e667, 0xbb67ae85, 0x3c6ef372, 0xa54ff53a, 0x510e527f, 0x9b05688c, 0x1f83d9ab, 0x5be0cd19] := by decide +kernel
end Go.Proofs.YtemgfoakffappaaDoor
