/- bytes.Compare, and the order of numbers. -/
import Derived.Test.YthekhgpodopalaaOct6
import Derived.Lib.Bytealg
namespace Go.Proofs.Ythekhgpodopalaa
open Go.RowKit
open Go.Lib (hid)

/-- the order of two numbers -/
def ordN (a b : Nat) : Int := if a < b then -1 else if b < a then 1 else 0
theorem toByte_lt (a b : Nat) : (UInt8.ofNat a < UInt8.ofNat b) ↔ a % 256 < b % 256 := by
  rw [UInt8.lt_iff_toNat_lt]
  simp
theorem compare_be (k : Nat) : ∀ X Y : Nat, Lib.compareBytes (be k X) (be k Y) = ordN (X % 256 ^ k) (Y % 256 ^ k) := by
  induction k with
  | zero => intro X Y; simp [be, Lib.compareBytes, ordN, Nat.mod_one]
  | succ k ih =>
    intro X Y
    have hp : 0 < 256 ^ k := Nat.pow_pos (by omega)
    have eX : X % 256 ^ (k + 1) = X % 256 ^ k + 256 ^ k * (X / 256 ^ k % 256) := by rw [Nat.pow_succ, Nat.mod_mul]
    have eY : Y % 256 ^ (k + 1) = Y % 256 ^ k + 256 ^ k * (Y / 256 ^ k % 256) := by rw [Nat.pow_succ, Nat.mod_mul]
    have lX := Nat.mod_lt X hp
    have lY := Nat.mod_lt Y hp
    rw [be_cons, be_cons, Lib.compareBytes, ih, eX, eY]
    generalize X % 256 ^ k = x0 at *
    generalize Y % 256 ^ k = y0 at *
    simp only [toByte_lt]
    generalize X / 256 ^ k % 256 = x1
    generalize Y / 256 ^ k % 256 = y1
    generalize 256 ^ k = m at *
    unfold ordN
    rcases Nat.lt_trichotomy x1 y1 with h | h | h
    · have h2 : m * (x1 + 1) ≤ m * y1 := Nat.mul_le_mul_left _ h
      rw [Nat.mul_add] at h2
      rw [if_pos h, if_pos (by omega)]
    · subst h
      rw [if_neg (by omega), if_neg (by omega)]
      simp only [Nat.add_lt_add_iff_right]
    · have h2 : m * (y1 + 1) ≤ m * x1 := Nat.mul_le_mul_left _ h
      rw [Nat.mul_add] at h2
      rw [if_neg (by omega), if_pos h, if_neg (by omega), if_pos (by omega)]

theorem run_loadBytes {P : Program} (w : World) : ∀ (l : List UInt8) (a : Addr) (acc : ByteArray), (∀ j x, l[j]? = some x → w.cell? (a.add j) = some (bv x)) →
    (Extern.Bytes.loadBytes a l.length acc).run P w = .ok ⟨acc.data ++ l.toArray⟩ w := by
  intro l
  induction l with
  | nil => intro a acc _; simp [Extern.Bytes.loadBytes]
  | cons x l ih =>
    intro a acc h
    have h0 := h 0 x rfl
    have e0 : a.add 0 = a := by simp [Addr.add]
    rw [e0] at h0
    have h1 := ih (a.add 1) (acc.push x) (fun j y hj => by rw [add_of_add, Nat.add_comm]; exact h (j + 1) y (by simpa using hj))
    simp only [List.length_cons, Extern.Bytes.loadBytes, Sem.run_bind, run_load, h0, bv, Result.andThen_ok]
    have e1 : ((x.toNat : Int)).toNat.toUInt8 = x := by simp
    rw [e1, h1]
    simp [ByteArray.push]

theorem run_bytesOf {P : Program} (w : World) (F : Nat → Prop) (A : Option Addr) (n c : Nat) (l : List UInt8) (h : Bs w F A n c l) : (Extern.Bytes.bytesOf (.slice A n c)).run P w = .ok ⟨l.toArray⟩ w := by
  cases A with
  | none =>
    have hn : n = 0 := by
      rcases Nat.eq_zero_or_pos n with h0 | h0
      · exact h0
      · obtain ⟨ad, h, _⟩ := h.rd.2 h0
        cases h
    subst hn
    rw [List.eq_nil_of_length_eq_zero h.len.symm]
    rfl
  | some ad =>
    have h1 := run_loadBytes (P := P) w l ad .empty (fun j x hj => by
      have hp : 0 < n := by
        have := h.len
        have hlt := (List.getElem?_eq_some_iff.1 hj).1
        omega
      obtain ⟨ad', e, _, hc⟩ := h.rd.2 hp
      injection e with e
      subst e
      exact hc j (bv x) (by simp [hj]))
    rw [← h.len] at h1
    simp only [Extern.Bytes.bytesOf, h1]
    simp [ByteArray.empty, ByteArray.emptyWithCapacity]
    rfl

theorem compare_any (w : World) (A1 A2 : Option Addr) (n1 c1 n2 c2 : Nat) (l1 l2 : List UInt8) (F1 F2 : Nat → Prop) (h1 : Bs w F1 A1 n1 c1 l1) (h2 : Bs w F2 A2 n2 c2 l2) :
    Calls Try.prog 22 #[.slice A1 n1 c1, .slice A2 n2 c2] w fun e w' => e = .returned (.int .i64 (Lib.compareBytes l1 l2)) ∧ w = w' := by
  have hrun : (Extern.BytealgCompare.compare #[.slice A1 n1 c1, .slice A2 n2 c2]).run Try.prog w = .ok (.int .i64 (Lib.compareBytes l1 l2)) w := by
    change Sem.run Try.prog (do pure (goInt (Extern.BytealgCompare.cmp (← Extern.Bytes.bytesOf (.slice A1 n1 c1)) (← Extern.Bytes.bytesOf (.slice A2 n2 c2))))) w = _
    simp only [Sem.run_bind, run_bytesOf w _ _ _ _ _ h1, run_bytesOf w _ _ _ _ _ h2, Result.andThen_ok, Sem.run_pure, Lib.cmp_eq]
    rfl
  go_enter Try.func22, Try.ntmps22
  go_wp2
  rw [run_callFunc_extern Try.func38 (by kernel_rfl) (by kernel_rfl) (by kernel_rfl) (e := Extern.BytealgCompare.compare) (by kernel_rfl), hrun]
  simp only [Result.andThen]
  rw [Oper.upon_value]
  go_wp2
  go_ret
  exact ⟨rfl, rfl⟩

theorem order_any (w : World) (a b : Nat) :
    Calls Try.prog 21 #[.int .u64 a, .int .u64 b] w fun e w' => e = .returned (.int .i64 (ordN a b)) ∧ w = w' := by
  unfold ordN
  by_cases h1 : a < b
  · go_enter Try.func21, Try.ntmps21
    go_wp2
    go_ret
    exact ⟨rfl, rfl⟩
  · by_cases h2 : b < a
    · go_enter Try.func21, Try.ntmps21
      go_wp2
      go_ret
      exact ⟨rfl, rfl⟩
    · go_enter Try.func21, Try.ntmps21
      go_wp2
      go_ret
      exact ⟨rfl, rfl⟩
end Go.Proofs.Ythekhgpodopalaa
