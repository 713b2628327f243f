/- The document's Decode. -/
import Derived.Test.YtleecfhafnfeoaaDe3
namespace Go.Proofs.Ytleecfhafnfeoaa
open Go.RowKit
open Asn (pt row rb)
set_option linter.unusedVariables false
set_option linter.unusedSimpArgs false

/-- how many bytes the branch has, and the digest -/
def bOf (l : List UInt8) : Nat := (l.getD 6 0).toNat
def mOf (l : List UInt8) : Nat := num ((l.drop (71 + bOf l)).take 2)
def short (l : List UInt8) : Prop := l.length < 7 ∨ l.length < 73 + bOf l ∨ l.length < 73 + bOf l + mOf l
def decV (l : List UInt8) : Cv := ⟨((l.getD 0 0).toNat : Nat), ((l.getD 1 0).toNat : Nat), num ((l.drop 2).take 4), ⟨((l.drop 7).take (bOf l)).toArray⟩, (l.drop (7 + bOf l)).take 32, (l.drop (39 + bOf l)).take 32, (l.drop (73 + bOf l)).take (mOf l)⟩
def rightV (v : Cv) : Bool := rightB v.k v.c v.s (bl v.br) v.old v.new v.d.length
/-- what bytes say, read as a command -/
def DecP (l : List UInt8) (x : Dx) : Prop :=
  (short l ∧ x = ⟨7, cv0, none, 0, 0⟩) ∨
  (¬ short l ∧ (73 + bOf l + mOf l < l.length ∨ rightV (decV l) = false) ∧ x = ⟨210, cv0, none, 0, 0⟩) ∨
  (¬ short l ∧ l.length = 73 + bOf l + mOf l ∧ rightV (decV l) = true ∧ x.err = 0 ∧ x.v = decV l ∧ x.n = mOf l)
theorem bOf_lt (l : List UInt8) : bOf l < 256 := UInt8.toNat_lt _
theorem mOf_lt (l : List UInt8) : mOf l < 65536 := num_le _ 2 (by rw [List.length_take]; omega)
theorem num64_sm (l : List UInt8) (h : l.length ≤ 8) : num64 l = num l := by
  unfold num64
  exact Nat.mod_eq_of_lt (num_le l 8 h)

theorem cmd4_built (k c : Int) (s : Nat) (br : ByteArray) : Try.prog.built 27 [(0, .int .i64 k), (1, .int .i64 c), (2, .int .u32 s), (3, .string br)] = some (cmdL k c s br zero32 zero32 none 0 0).toArray := by kernel_rfl
section
variable {n : Nat} {w0 : World} {M : Nat → Prop} {T : Slots} {H Hr : List Asn} {dd : Option Tmp} {tt : TypeId} {pos : String} {af : Array Edge} {g : Option (Nat × Bool)} {x y : Operand} {ts : Array TypeId}
theorem T_build4 {x y z u : Operand} {k c : Int} {s : Nat} {br : ByteArray} (hx : oget T x = some (.int .i64 k)) (hy : oget T y = some (.int .i64 c)) (hz : oget T z = some (.int .u32 s)) (hu : oget T u = some (.string br)) :
    Tk Try.prog n w0 M T H ⟨dd, .build 27 #[(0, x), (1, y), (2, z), (3, u)], tt, pos, af, g⟩ (.agg (cmdL k c s br zero32 zero32 none 0 0).toArray) := .mk fun a w ha hS => by
  have hr := run_build (P := Try.prog) w 27 #[(0, .int .i64 k), (1, .int .i64 c), (2, .int .u32 s), (3, .string br)] _ (cmd4_built k c s br)
  simp only [execOp, List.map_toArray, List.map_cons, List.map_nil, ha.eval hx, ha.eval hy, ha.eval hz, ha.eval hu, Sem.run_bind, hr, Result.andThen_ok, Sem.run_pure]
theorem E_num2 {A : Option Addr} {m c : Nat} {l : List UInt8} (hx : oget T x = some (.slice A m c)) (hs : Src w0 M H A m c l) (hl : l.length = 2) :
    Ef Try.prog n w0 M T H ⟨dd, .call ⟨.value (.func 31), #[x], ts⟩, tt, pos, af, g⟩ (fun u H' => num l < 65536 ∧ u = .int .u64 (num l : Nat) ∧ H' = H) := by
  refine (E_g0 ⟨_, Try.func31, rfl, by kernel_rfl⟩ (vs := [.slice A m c]) (v := .int .u64 (num l : Nat)) (by simp [ogets, hx]) fun w hS => (number_any w A m c l All (hs.bs w hS)).mono fun e w' ⟨he, hw⟩ => ⟨by rw [he, num64_sm l (by omega)], hw ▸ Kp.refl _ _⟩).mono ?_
  rintro v H' ⟨rfl, rfl⟩ w hS
  exact ⟨_, _, rfl, ⟨num_le l 2 (by omega), rfl, rfl⟩, hS⟩
theorem E_num4 {A : Option Addr} {m c : Nat} {l : List UInt8} (hx : oget T x = some (.slice A m c)) (hs : Src w0 M H A m c l) (hl : l.length = 4) :
    Ef Try.prog n w0 M T H ⟨dd, .call ⟨.value (.func 31), #[x], ts⟩, tt, pos, af, g⟩ (fun u H' => num l < 4294967296 ∧ u = .int .u64 (num l : Nat) ∧ H' = H) := by
  refine (E_g0 ⟨_, Try.func31, rfl, by kernel_rfl⟩ (vs := [.slice A m c]) (v := .int .u64 (num l : Nat)) (by simp [ogets, hx]) fun w hS => (number_any w A m c l All (hs.bs w hS)).mono fun e w' ⟨he, hw⟩ => ⟨by rw [he, num64_sm l (by omega)], hw ▸ Kp.refl _ _⟩).mono ?_
  rintro v H' ⟨rfl, rfl⟩ w hS
  exact ⟨_, _, rfl, ⟨num_le l 4 (by omega), rfl, rfl⟩, hS⟩
theorem E_right {k c : Int} {s : Nat} {br : ByteArray} {old new : List UInt8} {A : Option Addr} {m cp : Nat} (hx : oget T x = some (.agg (cmdL k c s br old new A m cp).toArray)) (lo : old.length = 32) (ln : new.length = 32) (hb : br.size ≤ maxLen) (hm : m ≤ maxLen) :
    Ef Try.prog n w0 M T H ⟨dd, .call ⟨.value (.func 10), #[x], ts⟩, tt, pos, af, g⟩ (fun u H' => u = .bool (rightB k c s (bl br) old new m) ∧ H' = H) := by
  refine (E_gv ⟨_, Try.func10, rfl, by kernel_rfl⟩ (vs := [.agg (cmdL k c s br old new A m cp).toArray]) (by simp [ogets, hx]) fun w hS => ref_right w k c s br old new A m cp lo ln hb hm).mono ?_
  rintro v H' ⟨_, rfl, _, rfl⟩ w hS
  exact ⟨_, _, rfl, ⟨rfl, rfl⟩, hS⟩
theorem T_ixa1 {P : Program} {x y : Operand} {s e : TypeId} {gb off m q : Nat} {kk : IntKind} {i ei : Ti} [HasTab P] (hx : oget T x = some (.pointer (some ⟨gb, off, none⟩))) (hy : oget T y = some (.int kk (q : Int))) (hs : ty P s = some i) (hi : i.desc = .array m e) (he : ty P e = some ei) (h1 : ei.size = 1) (hq : q < m) :
    Tk P n w0 M T H ⟨dd, .indexAddr s x y, tt, pos, af, g⟩ (.pointer (some ⟨gb, off + q, none⟩)) := by
  have := T_ixa (P := P) (n := n) (w0 := w0) (M := M) (H := H) (dd := dd) (tt := tt) (pos := pos) (af := af) (g := g) hx hy hs hi he hq
  rwa [h1, Nat.mul_one] at this
end
section
variable {k c : Int} {s : Nat} {br br' : ByteArray} {old new x : List UInt8} {A A' : Option Addr} {n cp n' cp' : Nat}
theorem cmd_setOld {i : Nat} {u : UInt8} (lo : old.length = 32) (hi : i < 32) : (cmdL k c s br old new A n cp).set (0 + 4 + i) (bv u) = cmdL k c s br (old.set i u) new A n cp := by
  unfold cmdL
  rw [List.append_assoc, List.append_assoc, List.set_append_right _ _ (by simp <;> omega), List.set_append_left _ _ (by simp <;> omega)]
  simp [List.map_set]
theorem cmd_setNew {i : Nat} {u : UInt8} (lo : old.length = 32) (ln : new.length = 32) (hi : i < 32) : (cmdL k c s br old new A n cp).set (0 + 36 + i) (bv u) = cmdL k c s br old (new.set i u) A n cp := by
  unfold cmdL
  rw [List.append_assoc, List.set_append_right _ _ (by simp [lo] <;> omega), List.set_append_left _ _ (by simp [lo, ln] <;> omega)]
  simp [List.map_set, lo]
/-- so many bytes were laid down -/
def mix (x : List UInt8) (i : Nat) : List UInt8 := x.take i ++ zero32.drop i
theorem mix_len {i : Nat} (h : x.length = 32) (hi : i ≤ 32) : (mix x i).length = 32 := by
  have := zero32_len
  simp [mix, this, h]
  omega
theorem mix_0 : mix x 0 = zero32 := rfl
theorem mix_all (h : x.length = 32) : mix x 32 = x := by
  unfold mix
  rw [List.take_of_length_le (by omega), List.drop_of_length_le (by rw [zero32_len]; exact Nat.le_refl _), List.append_nil]
theorem mix_set {i : Nat} (h : x.length = 32) (hi : i < 32) : (mix x i).set i (x.getD i 0) = mix x (i + 1) := by
  have h2 := zero32_len
  unfold mix
  rw [List.set_append_right _ _ (by simp [h]; omega), List.length_take, h, Nat.min_eq_left (by omega), Nat.sub_self, List.take_succ_eq_append_getElem (by omega), List.append_assoc]
  congr 1
  rw [List.drop_eq_getElem_cons (by omega : i < zero32.length), List.set_cons_zero]
  simp [List.getD, h, hi]
end
section
variable {P : Program} {n : Nat} {w0 : World} {M : Nat → Prop} {T : Slots} {H Hr : List Asn} {dd : Option Tmp} {tt : TypeId} {pos : String} {af : Array Edge} {g : Option (Nat × Bool)}
theorem T_sumn {x y : Operand} {s u : TypeId} {p q : Nat} (hx : oget T x = some (.int .i64 (p : Int))) (hy : oget T y = some (.int .i64 (q : Int))) (hf : p + q < 9223372036854775808) :
    Tk P n w0 M T H ⟨dd, .binOp .add s x y u, tt, pos, af, g⟩ (.int .i64 ((p + q : Nat) : Int)) := by
  rw [Int.natCast_add]
  exact T_sum (op := .add) hx hy rfl (by unfold fits; omega)
end
end Go.Proofs.Ytleecfhafnfeoaa
