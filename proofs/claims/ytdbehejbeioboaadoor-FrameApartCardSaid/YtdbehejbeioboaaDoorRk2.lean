/- The calculus: the operations that only reckon with slots. -/
import Derived.Test.YtdbehejbeioboaaDoorRk1
import Derived.IntWalk
namespace Go.Proofs.YtdbehejbeioboaaDoor
open Go.RowKit
open Asn (pt row rb)
set_option linter.unusedVariables false
set_option linter.unusedSimpArgs false

/-- what is known of a type -/
structure Ti where
  desc : TypeDesc
  zero : Value
  size : Nat
  bytes : Nat
  fs : List (Nat × Nat)
def nth {α : Type} : List α → Nat → Option α
  | [], _ => none
  | x :: _, 0 => some x
  | _ :: xs, n + 1 => nth xs n
/-- offsets and types of the fields -/
def fieldsOf : TypeDesc → List (Nat × Nat)
  | .struct fs => fs.toList.map fun f => (f.offset, f.type)
  | _ => []
def tfind : List (Nat × Ti) → Nat → Option Ti
  | [], _ => none
  | (i, v) :: T, j => bif Nat.beq i j then some v else tfind T j
def Ti.of (P : Program) (t : TypeId) (i : Ti) : Prop := P.underlying t = some i.desc ∧ (P.info? t).map (fun i => (i.zero, i.size, i.bytes)) = some (some i.zero, i.size, i.bytes) ∧ fieldsOf i.desc = i.fs
def TabOk (P : Program) : List (Nat × Ti) → Prop
  | [] => True
  | (t, i) :: l => Ti.of P t i ∧ TabOk P l
/-- the types of a program -/
class HasTab (P : Program) where
  tab : List (Nat × Ti)
  ok : TabOk P tab
theorem TabOk.find {P : Program} : ∀ {l : List (Nat × Ti)} {t : Nat} {i : Ti}, TabOk P l → tfind l t = some i → Ti.of P t i
  | [], _, _, _, h => by cases h
  | (u, j) :: l, t, i, hl, h => by
    simp only [tfind] at h
    by_cases hu : u = t
    · subst hu
      simp at h
      subst h
      exact hl.1
    · have hb : Nat.beq u t = false := by
        rw [Bool.eq_false_iff]
        intro h'
        exact hu (Nat.eq_of_beq_eq_true h')
      rw [hb] at h
      exact hl.2.find h
def ty (P : Program) [HasTab P] (t : Nat) : Option Ti := tfind (HasTab.tab P) t
theorem ty_ok {P : Program} [HasTab P] {t : Nat} {i : Ti} (h : ty P t = some i) : P.underlying t = some i.desc := ((HasTab.ok (P := P)).find h).1
theorem ty_info {P : Program} [HasTab P] {t : Nat} {i : Ti} (h : ty P t = some i) : ∃ j, P.info? t = some j ∧ j.zero = some i.zero ∧ j.size = i.size ∧ j.bytes = i.bytes := info_parts ((HasTab.ok (P := P)).find h).2.1
theorem ty_fs {P : Program} [HasTab P] {t : Nat} {i : Ti} (h : ty P t = some i) : fieldsOf i.desc = i.fs := ((HasTab.ok (P := P)).find h).2.2
theorem ty_size {P : Program} [HasTab P] {t : Nat} {i : Ti} (h : ty P t = some i) (w : World) : (sizeOf t).run P w = .ok i.size w := by
  obtain ⟨j, h1, _, h3, _⟩ := ty_info h
  simp [sizeOf, typeInfo, h1, h3]
theorem ty_zero {P : Program} [HasTab P] {t : Nat} {i : Ti} (h : ty P t = some i) (w : World) : (zeroValue t).run P w = .ok i.zero w := by
  obtain ⟨j, h1, h2, _, _⟩ := ty_info h
  simp [zeroValue, typeInfo, h1, h2]
def aggB : TypeDesc → Bool
  | .struct _ => true
  | .array _ _ => true
  | _ => false
theorem ty_agg {P : Program} [HasTab P] {t : Nat} {i : Ti} (h : ty P t = some i) (w : World) : (isAgg t).run P w = .ok (aggB i.desc) w := by
  unfold isAgg
  rw [Sem.run_bind, run_underlying (ty_ok h) w]
  cases i.desc <;> simp [aggB]
def ogets (T : Slots) : List Operand → Option (List Value)
  | [] => some []
  | x :: xs => match oget T x, ogets T xs with
    | some v, some vs => some (v :: vs)
    | _, _ => none
theorem Tm.evals {n : Nat} {a : Act} {T : Slots} (h : Tm n a T) : ∀ {xs : List Operand} {vs : List Value}, ogets T xs = some vs → xs.map a.eval = vs
  | [], vs, hx => by simp [ogets] at hx; subst hx; rfl
  | x :: xs, vs, hx => by
    simp only [ogets] at hx
    split at hx
    · rename_i v us hv hus
      injection hx with hx
      subst hx
      rw [List.map_cons, h.eval hv, h.evals hus]
    · cases hx

section
variable {P : Program} {ro : Option Nat} {ds : List Deferred} {B : Bk ro ds} {n : Nat} {w0 : World} {M : Nat → Prop} {k : List It} {T : Slots} {H : List Asn} {l σ : List Oper} {d : Tmp} {dd : Option Tmp} {tt : TypeId} {pos : String} {af : Array Edge} {g : Option (Nat × Bool)}
theorem R_nil (h : RS P B n w0 M k T H) : RG P B n w0 M l k [] T H := .nil h
theorem R_skip {op : Op} (h : RG P B n w0 M l k σ ((d, undef) :: T) H) (hw : wants l T g = some false) (hd : dok n (some d) = true) : RG P B n w0 M l k (⟨some d, op, tt, pos, af, g⟩ :: σ) T H := .skip hw hd h
theorem RS_sub {T' : Slots} (hs : Sub T' T) (h : RS P B n w0 M k T' H) : RS P B n w0 M k T H := ⟨fun a w had ha hw => h.runD a w had (ha.sub hs) hw⟩
theorem RS_mem {H' : List Asn} (hs : ∀ w, St w0 M H w → St w0 M H' w) (h : RS P B n w0 M k T H') : RS P B n w0 M k T H := ⟨fun a w had ha hw => h.runD a w had ha (hs w hw)⟩
theorem Sub.put {T' T : Slots} (h : Sub T' T) (d : Option Tmp) (v : Value) : Sub (tput d v T') (tput d v T) := by
  cases d with
  | none => exact h
  | some d =>
    intro i u hi
    simp only [tput, tget_cons] at hi ⊢
    split
    · rename_i e; rw [if_pos e] at hi; exact hi
    · rename_i e; rw [if_neg e] at hi; exact h i u hi
theorem wants_sub {T' T : Slots} (h : Sub T' T) {l : List Oper} {g : Option (Nat × Bool)} {b : Bool} (hw : wants l T' g = some b) : wants l T g = some b := by
  unfold wants at *
  cases g with
  | none => exact hw
  | some jb =>
    obtain ⟨j, want⟩ := jb
    simp only at hw ⊢
    cases hd : dstOf l j with
    | none => rw [hd] at hw; exact hw
    | some d =>
      rw [hd] at hw
      simp only at hw ⊢
      cases ht : tget T' d with
      | none => rw [ht] at hw; cases hw
      | some v => rw [ht] at hw; rw [h d v ht]; exact hw
theorem RG.sub {T' : Slots} (h : RG P B n w0 M l k σ T' H) : ∀ {T : Slots}, Sub T' T → RG P B n w0 M l k σ T H := by
  induction h with
  | nil h => exact fun hs => .nil (RS_sub hs h)
  | take hw hd hr _ ih => exact fun hs => .take (wants_sub hs hw) hd ⟨fun a w ha hw => hr.run a w (ha.sub hs) hw⟩ (ih (hs.put _ _))
  | skip hw hd _ ih => exact fun hs => .skip (wants_sub hs hw) hd (ih (hs.put _ _))
  | eff hw hd hr _ ih => exact fun hs => .eff (wants_sub hs hw) hd ⟨fun a w ha hw => hr.run a w (ha.sub hs) hw⟩ (fun v H' hE => ih v H' hE (hs.put _ _))
theorem Sub.same {d : Tmp} {v : Value} (h : tget T d = some v) : Sub ((d, v) :: T) T := fun i u hi => by
  rw [tget_cons] at hi
  split at hi
  · rename_i e; subst e; rw [h]; exact hi
  · exact hi
/-- an operation that only reckons -/
theorem R_take {op : Op} {v : Value} (hr : Tk P n w0 M T H ⟨some d, op, tt, pos, af, g⟩ v) (h : RG P B n w0 M l k σ ((d, v) :: T) H)
    (hw : wants l T g = some true) (hd : dok n (some d) = true) : RG P B n w0 M l k (⟨some d, op, tt, pos, af, g⟩ :: σ) T H := .take hw hd hr h
theorem R_eff {op : Op} {E : Value → List Asn → Prop} (hr : Ef P n w0 M T H ⟨some d, op, tt, pos, af, g⟩ E) (h : ∀ v H', E v H' → RG P B n w0 M l k σ ((d, v) :: T) H')
    (hw : wants l T g = some true) (hd : dok n (some d) = true) : RG P B n w0 M l k (⟨some d, op, tt, pos, af, g⟩ :: σ) T H := .eff hw hd hr h
theorem R_eff0 {op : Op} {E : Value → List Asn → Prop} (hr : Ef P n w0 M T H ⟨none, op, tt, pos, af, g⟩ E) (h : ∀ v H', E v H' → RG P B n w0 M l k σ T H')
    (hw : wants l T g = some true) : RG P B n w0 M l k (⟨none, op, tt, pos, af, g⟩ :: σ) T H := .eff hw rfl hr h
theorem T_move {x : Operand} {v : Value} (hx : oget T x = some v) : Tk P n w0 M T H ⟨dd, .move x, tt, pos, af, g⟩ (v) :=
  .mk (fun a w ha _ => by simp [execOp, ha.eval hx])
theorem T_assign {x : Operand} {v : Value} (hx : oget T x = some v) : Tk P n w0 M T H ⟨dd, .assign x, tt, pos, af, g⟩ (v) :=
  .mk (fun a w ha _ => by simp [execOp, ha.eval hx])
/-- numbers -/
def arith : BinOp → IntKind → Int → Int → Option Int
  | .add, k, x, y => some (k.wrap (x + y))
  | .sub, k, x, y => some (k.wrap (x - y))
  | .mul, k, x, y => some (k.wrap (x * y))
  | .and, k, x, y => some (k.wrap ((BitVec.ofInt k.bits x &&& BitVec.ofInt k.bits y).toNat : Int))
  | .or, k, x, y => some (k.wrap ((BitVec.ofInt k.bits x ||| BitVec.ofInt k.bits y).toNat : Int))
  | .xor, k, x, y => some (k.wrap ((BitVec.ofInt k.bits x ^^^ BitVec.ofInt k.bits y).toNat : Int))
  | .andNot, k, x, y => some (k.wrap ((BitVec.ofInt k.bits x &&& ~~~ BitVec.ofInt k.bits y).toNat : Int))
  | _, _, _, _ => none
theorem arith_run {op : BinOp} {kk : IntKind} {x y z : Int} (hz : arith op kk x y = some z) (t : TypeId) (w : World) (u v : Operand) : (do eqGuard op t u v (.int kk x) (.int kk y); binOp op t (.int kk x) (.int kk y) : Sem Value).run P w = .ok (.int kk z) w := by
  cases op <;> simp only [arith] at hz <;> first | (cases hz; done) | (injection hz with hz; subst hz; simp [eqGuard, binOp, Op.intArith, Op.intBits])
theorem T_pick1 {x y z : Operand} {u : Value} (hc : oget T x = some (.bool true)) (hy : oget T y = some u) : Tk P n w0 M T H ⟨dd, .pick x y z, tt, pos, af, g⟩ u :=
  .mk (fun a w ha _ => by simp [execOp, ha.eval hc, ha.eval hy, asBool])
theorem T_pick0 {x y z : Operand} {u : Value} (hc : oget T x = some (.bool false)) (hz : oget T z = some u) : Tk P n w0 M T H ⟨dd, .pick x y z, tt, pos, af, g⟩ u :=
  .mk (fun a w ha _ => by simp [execOp, ha.eval hc, ha.eval hz, asBool])
theorem T_arith {op : BinOp} {x y : Operand} {t u : TypeId} {kk : IntKind} {i j z : Int} (hx : oget T x = some (.int kk i)) (hy : oget T y = some (.int kk j)) (hz : arith op kk i j = some z)
    : Tk P n w0 M T H ⟨dd, .binOp op t x y u, tt, pos, af, g⟩ (.int kk z) :=
  .mk (fun a w ha _ => by
    have := arith_run (P := P) hz t w x y
    rw [Sem.run_bind] at this
    simp only [execOp, ha.eval hx, ha.eval hy, Sem.run_bind, this, Result.andThen_ok, Sem.run_pure])
/-- a sum that fits -/
def arith0 : BinOp → Int → Int → Option Int
  | .add, x, y => some (x + y)
  | .sub, x, y => some (x - y)
  | .mul, x, y => some (x * y)
  | _, _, _ => none
def fits : IntKind → Int → Prop
  | .i64, z => -9223372036854775808 ≤ z ∧ z ≤ 9223372036854775807
  | .u64, z => 0 ≤ z ∧ z ≤ 18446744073709551615
  | .u32, z => 0 ≤ z ∧ z ≤ 4294967295
  | .u8, z => 0 ≤ z ∧ z ≤ 255
  | .u16, z => 0 ≤ z ∧ z ≤ 65535
  | .i32, z => -2147483648 ≤ z ∧ z ≤ 2147483647
  | .i16, z => -32768 ≤ z ∧ z ≤ 32767
  | .i8, z => -128 ≤ z ∧ z ≤ 127
theorem wrap_fits {kk : IntKind} {z : Int} (h : fits kk z) : kk.wrap z = z := by
  cases kk with
  | i64 => exact IntWalk.i64_in _ h
  | u64 => exact IntWalk.u64_in _ h
  | u32 => exact IntWalk.u32_in _ h
  | u8 => exact IntWalk.u8_in _ h
  | u16 => exact IntWalk.u16_in _ h
  | i32 => exact IntWalk.i32_in _ h
  | i16 => exact IntWalk.i16_in _ h
  | i8 => exact IntWalk.i8_in _ h
theorem T_sum {op : BinOp} {x y : Operand} {t u : TypeId} {kk : IntKind} {i j z : Int} (hx : oget T x = some (.int kk i)) (hy : oget T y = some (.int kk j)) (hz : arith0 op i j = some z) (hf : fits kk z) :
    Tk P n w0 M T H ⟨dd, .binOp op t x y u, tt, pos, af, g⟩ (.int kk z) := by
  refine T_arith (z := z) hx hy ?_
  cases op <;> simp only [arith0] at hz <;> first | (cases hz; done) | (injection hz with hz; subst hz; simp only [arith, wrap_fits hf])
theorem T_eq {x y : Operand} {t u : TypeId} {kk : IntKind} {i j : Int} (hx : oget T x = some (.int kk i)) (hy : oget T y = some (.int kk j))
    : Tk P n w0 M T H ⟨dd, .binOp .eql t x y u, tt, pos, af, g⟩ (.bool (decide (i = j))) :=
  .mk (fun a w ha _ => by simp [execOp, ha.eval hx, ha.eval hy, eqGuard, binOp, Op.intCmp]; rw [Bool.eq_iff_iff]; simp)
theorem T_ne {x y : Operand} {t u : TypeId} {kk : IntKind} {i j : Int} (hx : oget T x = some (.int kk i)) (hy : oget T y = some (.int kk j))
    : Tk P n w0 M T H ⟨dd, .binOp .neq t x y u, tt, pos, af, g⟩ (.bool (decide (¬ i = j))) :=
  .mk (fun a w ha _ => by simp [execOp, ha.eval hx, ha.eval hy, eqGuard, binOp, Op.intCmp]; rw [Bool.eq_iff_iff]; simp)
theorem T_lt {x y : Operand} {t u : TypeId} {kk : IntKind} {i j : Int} (hx : oget T x = some (.int kk i)) (hy : oget T y = some (.int kk j))
    : Tk P n w0 M T H ⟨dd, .binOp .lss t x y u, tt, pos, af, g⟩ (.bool (decide (i < j))) :=
  .mk (fun a w ha _ => by simp [execOp, ha.eval hx, ha.eval hy, eqGuard, binOp, Op.intCmp])
theorem T_le {x y : Operand} {t u : TypeId} {kk : IntKind} {i j : Int} (hx : oget T x = some (.int kk i)) (hy : oget T y = some (.int kk j))
    : Tk P n w0 M T H ⟨dd, .binOp .leq t x y u, tt, pos, af, g⟩ (.bool (decide (i ≤ j))) :=
  .mk (fun a w ha _ => by simp [execOp, ha.eval hx, ha.eval hy, eqGuard, binOp, Op.intCmp])
theorem T_gt {x y : Operand} {t u : TypeId} {kk : IntKind} {i j : Int} (hx : oget T x = some (.int kk i)) (hy : oget T y = some (.int kk j))
    : Tk P n w0 M T H ⟨dd, .binOp .gtr t x y u, tt, pos, af, g⟩ (.bool (decide (j < i))) :=
  .mk (fun a w ha _ => by simp [execOp, ha.eval hx, ha.eval hy, eqGuard, binOp, Op.intCmp])
theorem T_ge {x y : Operand} {t u : TypeId} {kk : IntKind} {i j : Int} (hx : oget T x = some (.int kk i)) (hy : oget T y = some (.int kk j))
    : Tk P n w0 M T H ⟨dd, .binOp .geq t x y u, tt, pos, af, g⟩ (.bool (decide (j ≤ i))) :=
  .mk (fun a w ha _ => by simp [execOp, ha.eval hx, ha.eval hy, eqGuard, binOp, Op.intCmp])
/-- division -/
theorem T_div {x y : Operand} {t u : TypeId} {kk : IntKind} {i j : Int} (hx : oget T x = some (.int kk i)) (hy : oget T y = some (.int kk j)) (h0 : 0 ≤ i) (h1 : 0 < j) (hf : fits kk (i / j))
    : Tk P n w0 M T H ⟨dd, .binOp .quo t x y u, tt, pos, af, g⟩ (.int kk (i / j)) :=
  .mk (fun a w ha _ => by
    have hj : ¬ j = 0 := by omega
    simp [execOp, ha.eval hx, ha.eval hy, eqGuard, binOp, Op.intDiv, hj, Int.tdiv_eq_ediv_of_nonneg h0, wrap_fits hf])
theorem T_mod {x y : Operand} {t u : TypeId} {kk : IntKind} {i j : Int} (hx : oget T x = some (.int kk i)) (hy : oget T y = some (.int kk j)) (h0 : 0 ≤ i) (h1 : 0 < j)
    : Tk P n w0 M T H ⟨dd, .binOp .rem t x y u, tt, pos, af, g⟩ (.int kk (i % j)) :=
  .mk (fun a w ha _ => by
    have hj : ¬ j = 0 := by omega
    simp [execOp, ha.eval hx, ha.eval hy, eqGuard, binOp, Op.intDiv, hj, Int.tmod_eq_emod_of_nonneg h0])
theorem T_shl {x y : Operand} {t u : TypeId} {kk kj : IntKind} {i j : Int} (hx : oget T x = some (.int kk i)) (hy : oget T y = some (.int kj j)) (h0 : 0 ≤ j)
    : Tk P n w0 M T H ⟨dd, .binOp .shl t x y u, tt, pos, af, g⟩ (.int kk (kk.wrap (i * 2 ^ (min j.toNat kk.bits)))) :=
  .mk (fun a w ha _ => by
    have hj : ¬ j < 0 := by omega
    simp [execOp, ha.eval hx, ha.eval hy, eqGuard, binOp, Op.shift, hj])
theorem T_shr {x y : Operand} {t u : TypeId} {kk kj : IntKind} {i j : Int} (hx : oget T x = some (.int kk i)) (hy : oget T y = some (.int kj j)) (h0 : 0 ≤ j)
    : Tk P n w0 M T H ⟨dd, .binOp .shr t x y u, tt, pos, af, g⟩ (.int kk (i.fdiv (2 ^ (min j.toNat kk.bits)))) :=
  .mk (fun a w ha _ => by
    have hj : ¬ j < 0 := by omega
    simp [execOp, ha.eval hx, ha.eval hy, eqGuard, binOp, Op.shift, hj])
/-- not -/
theorem T_not {x : Operand} {t : TypeId} {b : Bool} (hx : oget T x = some (.bool b)) : Tk P n w0 M T H ⟨dd, .unOp .not t x, tt, pos, af, g⟩ (.bool (!b)) :=
  .mk (fun a w ha _ => by simp [execOp, ha.eval hx, Op.unary])
/-- bools -/
theorem beq_run (t : TypeId) (b c : Bool) (w : World) (hu : (underlying t).run P w = .ok .bool w) : (Op.equal t (.bool b) (.bool c)).run P w = .ok (b == c) w := by
  unfold Op.equal Op.maxDepth
  generalize hq : 9999 = q
  have hq' : (10000 : Nat) = q + 1 := by omega
  rw [hq']
  clear hq hq'
  simp only [Op.equalIn, Sem.run_bind, hu, Result.andThen_ok, Sem.run_pure]
theorem T_beq [HasTab P] {x y : Operand} {t u : TypeId} {b c : Bool} {i : Ti} (hx : oget T x = some (.bool b)) (hy : oget T y = some (.bool c)) (ht : ty P t = some i) (hi : i.desc = .bool)
    : Tk P n w0 M T H ⟨dd, .binOp .eql t x y u, tt, pos, af, g⟩ (.bool (b == c)) :=
  .mk (fun a w ha _ => by
    have hu := run_underlying (hi ▸ ty_ok ht) w
    simp [execOp, ha.eval hx, ha.eval hy, eqGuard, binOp, beq_run t b c w hu])
theorem T_bne [HasTab P] {x y : Operand} {t u : TypeId} {b c : Bool} {i : Ti} (hx : oget T x = some (.bool b)) (hy : oget T y = some (.bool c)) (ht : ty P t = some i) (hi : i.desc = .bool)
    : Tk P n w0 M T H ⟨dd, .binOp .neq t x y u, tt, pos, af, g⟩ (.bool (b != c)) :=
  .mk (fun a w ha _ => by
    have hu := run_underlying (hi ▸ ty_ok ht) w
    simp [execOp, ha.eval hx, ha.eval hy, eqGuard, binOp, beq_run t b c w hu]
    cases b <;> cases c <;> rfl)
/-- texts -/
def bl (s : ByteArray) : List UInt8 := s.data.toList
theorem bl_eq (s t : ByteArray) : (s.toList == t.toList) = decide (bl s = bl t) := by rw [ByteArray.toList_eq, ByteArray.toList_eq, Bool.eq_iff_iff]; simp [bl]
def scmp : BinOp → List UInt8 → List UInt8 → Option Bool
  | .eql, x, y => some (decide (x = y))
  | .neq, x, y => some (decide (¬ x = y))
  | .lss, x, y => some (Op.bytesLess x y)
  | .leq, x, y => some (Op.bytesLess x y || decide (x = y))
  | .gtr, x, y => some (!(Op.bytesLess x y || decide (x = y)))
  | .geq, x, y => some (!Op.bytesLess x y)
  | _, _, _ => none
theorem T_scmp {op : BinOp} {x y : Operand} {t u : TypeId} {r s : ByteArray} {b : Bool} (hx : oget T x = some (.string r)) (hy : oget T y = some (.string s)) (hb : scmp op (bl r) (bl s) = some b)
    : Tk P n w0 M T H ⟨dd, .binOp op t x y u, tt, pos, af, g⟩ (.bool b) :=
  .mk (fun a w ha _ => by
    have h1 : r.toList = bl r := ByteArray.toList_eq _
    have h2 : s.toList = bl s := ByteArray.toList_eq _
    have h3 := bl_eq r s
    cases op <;> simp only [scmp] at hb <;> first | (cases hb; done) | (injection hb with hb; subst hb; simp [execOp, ha.eval hx, ha.eval hy, eqGuard, binOp, Op.stringOp, h1, h2]) 
    all_goals (first | done | (rw [Bool.eq_iff_iff]; simp)))
/-- conversions of numbers -/
theorem T_conv [HasTab P] {x : Operand} {s t : TypeId} {kk kd : IntKind} {z : Int} {i j : Ti} (hx : oget T x = some (.int kk z)) (hs : ty P s = some i) (ht : ty P t = some j) (hj : j.desc = .int kd)
    : Tk P n w0 M T H ⟨dd, .convert s t x, tt, pos, af, g⟩ (.int kd (kd.wrap z)) :=
  .mk (fun a w ha _ => by
    have h1 := run_underlying (ty_ok hs) w
    have h2 := run_underlying (hj ▸ ty_ok ht) w
    simp [execOp, ha.eval hx, convert, h1, h2, Conv.intToInt])
theorem T_convf [HasTab P] {x : Operand} {s t : TypeId} {kk kd : IntKind} {z : Int} {i j : Ti} (hx : oget T x = some (.int kk z)) (hs : ty P s = some i) (ht : ty P t = some j) (hj : j.desc = .int kd) (hf : fits kd z) :
    Tk P n w0 M T H ⟨dd, .convert s t x, tt, pos, af, g⟩ (.int kd z) := by
  have := T_conv (n := n) (w0 := w0) (M := M) (H := H) (dd := dd) (tt := tt) (pos := pos) (af := af) (g := g) hx hs ht hj
  rwa [wrap_fits hf] at this
/-- parts -/
theorem T_extract {x : Operand} {vs : Array Value} {v : Value} {j : Nat} (hx : oget T x = some (.tuple vs)) (hv : vs[j]? = some v) : Tk P n w0 M T H ⟨dd, .extract x j, tt, pos, af, g⟩ (v) :=
  .mk (fun a w ha _ => by simp [execOp, ha.eval hx, Instr.extract, hv])
theorem T_func {fn : Fn} {first captured : Array Operand} {xs ys : List Value} (h1 : ogets T first.toList = some xs) (h2 : ogets T captured.toList = some ys) : Tk P n w0 M T H ⟨dd, .makeFunc fn first captured, tt, pos, af, g⟩ (.func fn xs.toArray ys.toArray) :=
  .mk (fun a w ha _ => by
    have e1 : first.map a.eval = xs.toArray := by rw [← ha.evals h1, ← Array.toList_map]
    have e2 : captured.map a.eval = ys.toArray := by rw [← ha.evals h2, ← Array.toList_map]
    simp [execOp, Instr.makeFunc, e1, e2])
theorem T_len_slice [HasTab P] {x : Operand} {s : TypeId} {A : Option Addr} {m c : Nat} {i : Ti} {e : TypeId} (hx : oget T x = some (.slice A m c)) (ht : ty P s = some i) (hi : i.desc = .slice e)
    : Tk P n w0 M T H ⟨dd, .call ⟨.builtin .len, #[x], #[s]⟩, tt, pos, af, g⟩ (.int .i64 (m : Int)) :=
  .mk (fun a w ha _ => by
    have hu := run_underlying (hi ▸ ty_ok ht) w
    simp [execOp, resolve, invoke, builtin, ha.eval hx, Builtin.len_, hu, goInt])
theorem T_len_string [HasTab P] {x : Operand} {s : TypeId} {r : ByteArray} {i : Ti} (hx : oget T x = some (.string r)) (ht : ty P s = some i) (hi : i.desc = .string)
    : Tk P n w0 M T H ⟨dd, .call ⟨.builtin .len, #[x], #[s]⟩, tt, pos, af, g⟩ (.int .i64 (r.size : Int)) :=
  .mk (fun a w ha _ => by
    have hu := run_underlying (hi ▸ ty_ok ht) w
    simp [execOp, resolve, invoke, builtin, ha.eval hx, Builtin.len_, hu, goInt])
theorem T_nilCheck {x : Operand} {A : Addr} (hx : oget T x = some (.pointer (some A))) : Tk P n w0 M T H ⟨dd, .nilCheck x, tt, pos, af, g⟩ (.pointer (some A)) :=
  .mk (fun a w ha _ => by simp [execOp, ha.eval hx])
end
end Go.Proofs.YtdbehejbeioboaaDoor
