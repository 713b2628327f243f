/- The calculus: numbers that are natural ones, words of 32 bits, arrays as values, strings gone through. -/
import Derived.Test.YtdbehejbeioboaaDoorRk7
import Derived.Laws.RangeString
import Derived.ChangeKeysEq
namespace Go.Proofs.YtdbehejbeioboaaDoor
open Go.RowKit
open Asn (pt row rb)
set_option linter.unusedVariables false
set_option linter.unusedSimpArgs false

/-- z is the natural number n -/
class NatOf (z : Int) (n : outParam Nat) : Prop where
  is : z = (n : Int)
instance NatOf.cast (n : Nat) : NatOf (n : Int) n := ⟨rfl⟩
instance NatOf.ofNat' (n : Nat) : NatOf (Int.ofNat n) n := ⟨rfl⟩
instance NatOf.lit (n : Nat) : NatOf (no_index (OfNat.ofNat n : Int)) (OfNat.ofNat n) := ⟨rfl⟩
section
variable {P : Program} {ro : Option Nat} {ds : List Deferred} {B : Bk ro ds} {n : Nat} {w0 : World} {M : Nat → Prop} {k : List It} {T : Slots} {H Hr : List Asn} {l σ : List Oper} {d : Tmp} {dd : Option Tmp} {tt : TypeId} {pos : String} {af : Array Edge} {g : Option (Nat × Bool)}
theorem T_addN {x y : Operand} {t u : TypeId} {kk : IntKind} {i j : Int} {p q : Nat} (hx : oget T x = some (.int kk i)) (hy : oget T y = some (.int kk j)) [hi : NatOf i p] [hj : NatOf j q] (hf : fits kk ((p + q : Nat) : Int)) :
    Tk P n w0 M T H ⟨dd, .binOp .add t x y u, tt, pos, af, g⟩ (.int kk ((p + q : Nat) : Int)) := by
  rw [Int.natCast_add] at hf ⊢
  rw [hi.is] at hx
  rw [hj.is] at hy
  exact T_sum (op := .add) hx hy rfl hf
theorem T_subN {x y : Operand} {t u : TypeId} {kk : IntKind} {i j : Int} {p q : Nat} (hx : oget T x = some (.int kk i)) (hy : oget T y = some (.int kk j)) [hi : NatOf i p] [hj : NatOf j q] (hq : q ≤ p) (hf : fits kk ((p - q : Nat) : Int)) :
    Tk P n w0 M T H ⟨dd, .binOp .sub t x y u, tt, pos, af, g⟩ (.int kk ((p - q : Nat) : Int)) := by
  rw [Int.natCast_sub hq] at hf ⊢
  rw [hi.is] at hx
  rw [hj.is] at hy
  exact T_sum (op := .sub) hx hy rfl hf
theorem T_mulN {x y : Operand} {t u : TypeId} {kk : IntKind} {i j : Int} {p q : Nat} (hx : oget T x = some (.int kk i)) (hy : oget T y = some (.int kk j)) [hi : NatOf i p] [hj : NatOf j q] (hf : fits kk ((p * q : Nat) : Int)) :
    Tk P n w0 M T H ⟨dd, .binOp .mul t x y u, tt, pos, af, g⟩ (.int kk ((p * q : Nat) : Int)) := by
  rw [Int.natCast_mul] at hf ⊢
  rw [hi.is] at hx
  rw [hj.is] at hy
  exact T_sum (op := .mul) hx hy rfl hf
theorem T_divN {x y : Operand} {t u : TypeId} {kk : IntKind} {i j : Int} {p q : Nat} (hx : oget T x = some (.int kk i)) (hy : oget T y = some (.int kk j)) [hi : NatOf i p] [hj : NatOf j q] (hq : 0 < q) (hf : fits kk ((p / q : Nat) : Int)) :
    Tk P n w0 M T H ⟨dd, .binOp .quo t x y u, tt, pos, af, g⟩ (.int kk ((p / q : Nat) : Int)) := by
  rw [Int.natCast_ediv] at hf ⊢
  rw [hi.is] at hx
  rw [hj.is] at hy
  exact T_div hx hy (by omega) (by omega) hf
theorem T_modN {x y : Operand} {t u : TypeId} {kk : IntKind} {i j : Int} {p q : Nat} (hx : oget T x = some (.int kk i)) (hy : oget T y = some (.int kk j)) [hi : NatOf i p] [hj : NatOf j q] (hq : 0 < q) :
    Tk P n w0 M T H ⟨dd, .binOp .rem t x y u, tt, pos, af, g⟩ (.int kk ((p % q : Nat) : Int)) := by
  rw [Int.natCast_emod]
  rw [hi.is] at hx
  rw [hj.is] at hy
  exact T_mod hx hy (by omega) (by omega)
/-- an index that is a natural number -/
theorem T_ixN [HasTab P] {x y : Operand} {s e : TypeId} {A : Option Addr} {m c q : Nat} {z : Int} {kk : IntKind} {i ei : Ti} (hx : oget T x = some (.slice A m c)) (hy : oget T y = some (.int kk z)) [hz : NatOf z q] (hs : ty P s = some i) (hi : i.desc = .slice e) (he : ty P e = some ei) (h1 : ei.size = 1) (hA : A ≠ none) (hq : q < m) :
    Tk P n w0 M T H ⟨dd, .indexAddr s x y, tt, pos, af, g⟩ (.pointer (pa A q)) := by
  rw [hz.is] at hy
  exact T_ix1 hx hy hs hi he h1 hA hq
theorem T_ixNg [HasTab P] {x y : Operand} {s e : TypeId} {gb off m c q : Nat} {z : Int} {kk : IntKind} {i ei : Ti} (hx : oget T x = some (.slice (some ⟨gb, off, none⟩) m c)) (hy : oget T y = some (.int kk z)) [hz : NatOf z q] (hs : ty P s = some i) (hi : i.desc = .slice e) (he : ty P e = some ei) (h1 : ei.size = 1) (hq : q < m) :
    Tk P n w0 M T H ⟨dd, .indexAddr s x y, tt, pos, af, g⟩ (.pointer (some ⟨gb, off + q, none⟩)) := by
  rw [hz.is] at hy
  have h := T_ixg (n := n) (w0 := w0) (M := M) (H := H) (dd := dd) (tt := tt) (pos := pos) (af := af) (g := g) hx hy hs hi he hq
  rwa [h1, Nat.mul_one] at h
theorem T_ixaN [HasTab P] {x y : Operand} {s e : TypeId} {gb off m q : Nat} {z : Int} {kk : IntKind} {i ei : Ti} (hx : oget T x = some (.pointer (some ⟨gb, off, none⟩))) (hy : oget T y = some (.int kk z)) [hz : NatOf z q] (hs : ty P s = some i) (hi : i.desc = .array m e) (he : ty P e = some ei) (h1 : ei.size = 1) (hq : q < m) :
    Tk P n w0 M T H ⟨dd, .indexAddr s x y, tt, pos, af, g⟩ (.pointer (some ⟨gb, off + q, none⟩)) := by
  rw [hz.is] at hy
  have h := T_ixa (n := n) (w0 := w0) (M := M) (H := H) (dd := dd) (tt := tt) (pos := pos) (af := af) (g := g) hx hy hs hi he hq
  rwa [h1, Nat.mul_one] at h
/-- an element of an array that is a value -/
theorem part_plain {d : TypeDesc} {e : TypeId} (he : P.underlying e = some d) (ha : aggB d = false) {xs : Array Value} {off : Nat} {v : Value} (hx : xs[off]? = some v) (w : World) : (part e xs off).run P w = .ok v w := by
  cases d <;> first | (cases ha; done) | simp [part, isAgg, run_underlying he, hx]
theorem T_ixv [HasTab P] {x y : Operand} {s e : TypeId} {m q : Nat} {z : Int} {kk : IntKind} {i ei : Ti} {cs : List Value} {v : Value} (hx : oget T x = some (.agg cs.toArray)) (hy : oget T y = some (.int kk z)) [hz : NatOf z q] (hs : ty P s = some i) (hi : i.desc = .array m e) (he : ty P e = some ei) (ha : aggB ei.desc = false) (h1 : ei.size = 1) (hq : q < m) (hv : cs[q]? = some v) :
    Tk P n w0 M T H ⟨dd, .index s x y, tt, pos, af, g⟩ v := .mk fun a w hT hS => by
  rw [hz.is] at hy
  have hu := run_underlying (hi ▸ ty_ok hs) w
  have hp := part_plain (P := P) (e := e) (ty_ok he) ha (xs := cs.toArray) (off := q) (v := v) (by simpa using hv) w
  have hr : (Instr.index s (.agg cs.toArray) (.int kk (q : Int))).run P w = .ok v w := by
    simp [Instr.index, hu, asIntOf, ty_size he w, h1, hq, hp]
  simp only [execOp, hT.eval hx, hT.eval hy, Sem.run_bind, hr, Result.andThen_ok, Sem.run_pure]
/-- a slice seen as an array -/
theorem T_s2a [HasTab P] {x : Operand} {s e : TypeId} {A : Option Addr} {m m' c : Nat} {i : Ti} (hx : oget T x = some (.slice A m c)) (hs : ty P s = some i) (hi : i.desc = .array m' e) (hm : m' ≤ m) :
    Tk P n w0 M T H ⟨dd, .sliceToArrayPointer s x, tt, pos, af, g⟩ (.pointer A) := .mk fun a w hT hS => by
  have hu := run_underlying (hi ▸ ty_ok hs) w
  have hr : (Instr.arrayAt s (.slice A m c)).run P w = .ok (.pointer A) w := by
    simp [Instr.arrayAt, hu, Nat.not_lt.2 hm]
  simp only [execOp, hT.eval hx, Sem.run_bind, hr, Result.andThen_ok, Sem.run_pure]
/-- s[:hi:mx] -/
theorem T_slhm [HasTab P] {x y z : Operand} {s e : TypeId} {A : Option Addr} {m c q r : Nat} {i1 i2 : Int} {kk kj : IntKind} {i ei : Ti} (hx : oget T x = some (.slice A m c)) (hy : oget T y = some (.int kk i1)) (hz : oget T z = some (.int kj i2)) [h1 : NatOf i1 q] [h2 : NatOf i2 r] (hs : ty P s = some i) (hi : i.desc = .slice e) (he : ty P e = some ei) (hq : q ≤ r) (hc : r ≤ c) :
    Tk P n w0 M T H ⟨dd, .slice s x none (some y) (some z), tt, pos, af, g⟩ (.slice A q r) := .mk fun a w ha hS => by
  rw [h1.is] at hy
  rw [h2.is] at hz
  have := sliceAt_run (P := P) hs hi he (A := A) (m := m) (c := c) (lo := 0) (hi' := q) (Nat.zero_le _) (by omega) none (some (.int kk (q : Int))) (some (.int kj (r : Int))) (.inl ⟨rfl, rfl⟩) (.inr ⟨kk, rfl⟩) r (.inr ⟨⟨kj, rfl⟩, rfl, hq, hc⟩) w
  rw [cutP_zero] at this
  simp only [execOp, ha.eval hx, ha.eval hy, ha.eval hz, Option.map_none, Option.map_some, Sem.run_bind, this, Result.andThen_ok, Sem.run_pure, Nat.sub_zero]
/-- a cell that was there is read, by its plain address -/
theorem T_loadg [HasTab P] {x : Operand} {s : TypeId} {gb off m : Nat} {F : Nat → Prop} {xs : List Value} {v : Value} {i : Ti} (hx : oget T x = some (.pointer (some ⟨gb, off, none⟩))) (hs : ty P s = some i) (hi : aggB i.desc = false) (hr : Rd w0 F 1 (some ⟨gb, 0, none⟩) m xs) (hF : ∀ k, F k → ¬ M k) (hv : xs[off]? = some v) :
    Tk P n w0 M T H ⟨dd, .load s x, tt, pos, af, g⟩ v := by
  have e : (some ⟨gb, off, none⟩ : Option Addr) = pa (some ⟨gb, 0, none⟩) off := by simp [pa, add_plain]
  rw [e] at hx
  exact T_loado hx hs hi hr hv hF

/-- append, elements of one cell -/
theorem E_app1 [HasTab P] {x y : Operand} {s e : TypeId} {A A2 : Option Addr} {m c m2 c2 : Nat} {xs news : List Value} {i ei : Ti} (hx : oget T x = some (.slice A m c)) (hy : oget T y = some (.slice A2 m2 c2)) (hs : ty P s = some i) (hi : i.desc = .slice e) (he : ty P e = some ei) (hz1 : ei.size = 1) (hz : ei.zero.cells.size = 1)
    [hr : HRow H A m c e 1 xs Hr] (hsrc : Srd w0 M H 1 A2 m2 news) (h1 : ∀ u ∈ news, u.oneCell' = true) (hb : (m + m2) * ei.bytes ≤ 140737488355328) (hm : m + m2 ≤ maxLen) :
    Ef P n w0 M T H ⟨dd, .call ⟨.builtin .append, #[x, y], #[s, s]⟩, tt, pos, af, g⟩ (fun v H' => ∃ A' c', v = .slice A' (m + m2) c' ∧ H' = row e 1 A' (m + m2) c' (xs ++ news) :: Hr) := by
  have hr' : HRow H A m c e ei.size xs Hr := by rw [hz1]; exact hr
  have h := E_app (P := P) (n := n) (w0 := w0) (M := M) (dd := dd) (tt := tt) (pos := pos) (af := af) (g := g) hx hy hs hi he (by rw [hz, hz1]) (by omega) (hr := hr') (by rw [hz1]; exact hsrc) h1 hb hm
  rwa [hz1] at h
/-- append of bytes -/
theorem E_appB [HasTab P] {x y : Operand} {s e : TypeId} {A A2 : Option Addr} {m c m2 c2 : Nat} {bs nb : List UInt8} {i ei : Ti} (hx : oget T x = some (.slice A m c)) (hy : oget T y = some (.slice A2 m2 c2)) (hs : ty P s = some i) (hi : i.desc = .slice e) (he : ty P e = some ei) (hei : ei = ⟨.int .u8, .int .u8 0, 1, 1, []⟩)
    [hr : HRow H A m c e 1 (bs.map bv) Hr] (hsrc : Src w0 M H A2 m2 c2 nb) (hm : m + m2 ≤ 140737488355328) :
    Ef P n w0 M T H ⟨dd, .call ⟨.builtin .append, #[x, y], #[s, s]⟩, tt, pos, af, g⟩ (fun v H' => ∃ A' c', v = .slice A' (m + m2) c' ∧ H' = row e 1 A' (m + m2) c' ((bs ++ nb).map bv) :: Hr) := by
  subst hei
  rw [List.map_append]
  exact E_app1 hx hy hs hi he rfl rfl hsrc.rd (bv_one _) (by simpa using hm) (by unfold maxLen; omega)

/-! words of 32 bits -/
def w32 (x : UInt32) : Value := .int .u32 (x.toNat : Int)
def u32op : BinOp → UInt32 → UInt32 → Option UInt32
  | .add, x, y => some (x + y)
  | .sub, x, y => some (x - y)
  | .mul, x, y => some (x * y)
  | .and, x, y => some (x &&& y)
  | .or, x, y => some (x ||| y)
  | .xor, x, y => some (x ^^^ y)
  | _, _, _ => none
theorem bv32_of (a : UInt32) : BitVec.ofInt 32 (a.toNat : Int) = a.toBitVec := by
  apply BitVec.eq_of_toNat_eq
  have := a.toNat_lt
  simp
theorem u32_wrap_nat (a : UInt32) : IntKind.u32.wrap (a.toNat : Int) = (a.toNat : Int) := wrap_fits (kk := .u32) (by have := a.toNat_lt; unfold fits; omega)
theorem T_w32 {op : BinOp} {x y : Operand} {t u : TypeId} {a b c : UInt32} (hx : oget T x = some (.int .u32 (a.toNat : Int))) (hy : oget T y = some (.int .u32 (b.toNat : Int))) (hz : u32op op a b = some c) :
    Tk P n w0 M T H ⟨dd, .binOp op t x y u, tt, pos, af, g⟩ (.int .u32 (c.toNat : Int)) := by
  refine T_arith (z := (c.toNat : Int)) hx hy ?_
  have ha := a.toNat_lt
  have hb := b.toNat_lt
  cases op <;> simp only [u32op] at hz <;> first | (cases hz; done) | (injection hz with hz; subst hz; simp only [arith])
  · rw [UInt32.toNat_add, IntKind.wrap_u32]; congr 1
  · rw [UInt32.toNat_sub, IntKind.wrap_u32]; congr 1; omega
  · rw [UInt32.toNat_mul, IntKind.wrap_u32]; congr 1
  all_goals
    congr 1
    have e : IntKind.u32.bits = 32 := rfl
    rw [e, bv32_of, bv32_of]
    first | exact u32_wrap_nat (a &&& b) | exact u32_wrap_nat (a ||| b) | exact u32_wrap_nat (a ^^^ b)
/-- turned to the left and to the right, by a number up to 32 -/
def shl32 (x : UInt32) (j : Nat) : UInt32 := ⟨x.toBitVec <<< j⟩
def shr32 (x : UInt32) (j : Nat) : UInt32 := ⟨x.toBitVec >>> j⟩
theorem shl32_nat (x : UInt32) (j : Nat) : (shl32 x j).toNat = x.toNat * 2 ^ j % 4294967296 := by
  show (x.toBitVec <<< j).toNat = _
  rw [BitVec.toNat_shiftLeft, Nat.shiftLeft_eq]
  rfl
theorem shr32_nat (x : UInt32) (j : Nat) : (shr32 x j).toNat = x.toNat / 2 ^ j := by
  show (x.toBitVec >>> j).toNat = _
  rw [BitVec.toNat_ushiftRight, Nat.shiftRight_eq_div_pow]
  rfl
theorem T_wshl {x y : Operand} {t u : TypeId} {a : UInt32} {kj : IntKind} {j : Int} {q : Nat} (hx : oget T x = some (.int .u32 (a.toNat : Int))) (hy : oget T y = some (.int kj j)) [hj : NatOf j q] (hq : q ≤ 32) :
    Tk P n w0 M T H ⟨dd, .binOp .shl t x y u, tt, pos, af, g⟩ (.int .u32 ((shl32 a q).toNat : Int)) := by
  rw [hj.is] at hy
  have h := T_shl (P := P) (n := n) (w0 := w0) (M := M) (H := H) (dd := dd) (tt := tt) (pos := pos) (af := af) (g := g) (t := t) (u := u) hx hy (by omega)
  have e : IntKind.u32.wrap ((a.toNat : Int) * 2 ^ (min ((q : Int)).toNat IntKind.u32.bits)) = ((shl32 a q).toNat : Int) := by
    have e1 : min ((q : Int)).toNat IntKind.u32.bits = q := by rw [Int.toNat_natCast, show IntKind.u32.bits = 32 from rfl]; omega
    rw [e1, shl32_nat, IntKind.wrap_u32, Int.natCast_emod, Int.natCast_mul, Int.natCast_pow]
    rfl
  rwa [e] at h
theorem T_wshr {x y : Operand} {t u : TypeId} {a : UInt32} {kj : IntKind} {j : Int} {q : Nat} (hx : oget T x = some (.int .u32 (a.toNat : Int))) (hy : oget T y = some (.int kj j)) [hj : NatOf j q] (hq : q ≤ 32) :
    Tk P n w0 M T H ⟨dd, .binOp .shr t x y u, tt, pos, af, g⟩ (.int .u32 ((shr32 a q).toNat : Int)) := by
  rw [hj.is] at hy
  have h := T_shr (P := P) (n := n) (w0 := w0) (M := M) (H := H) (dd := dd) (tt := tt) (pos := pos) (af := af) (g := g) (t := t) (u := u) hx hy (by omega)
  have e : Int.fdiv (a.toNat : Int) (2 ^ (min ((q : Int)).toNat IntKind.u32.bits)) = ((shr32 a q).toNat : Int) := by
    have e1 : min ((q : Int)).toNat IntKind.u32.bits = q := by rw [Int.toNat_natCast, show IntKind.u32.bits = 32 from rfl]; omega
    rw [e1, shr32_nat, Int.fdiv_eq_ediv_of_nonneg _ (Int.le_of_lt (Int.pow_pos (by decide))), Int.natCast_ediv, Int.natCast_pow]
    rfl
  rwa [e] at h

/-! arrays of numbers, held against each other -/
/-! a string, gone through -/
/-- a closure that holds its first arguments is called -/
theorem E_clo1 {x : Operand} {f : FuncId} {pre : List Value} {xs : Array Operand} {E : Value → List Asn → Prop} {ts : Array TypeId} (hx : oget T x = some (.func (.func f) pre.toArray #[])) (h : Ef P n w0 M T H ⟨dd, .call ⟨.value (.func f), (pre.map Operand.const).toArray ++ xs, ts⟩, tt, pos, af, g⟩ E) :
    Ef P n w0 M T H ⟨dd, .call ⟨.value x, xs, ts⟩, tt, pos, af, g⟩ E := h.same fun a w ha => by
  have e2 : (((pre.map Operand.const).toArray ++ xs).map a.eval) = pre.toArray ++ xs.map a.eval := by
    rw [Array.map_append, List.map_toArray, List.map_map]
    congr 2
    conv => rhs; rw [← List.map_id pre]
    rfl
  have e1 : (a.eval (.func f)) = .func (.func f) #[] #[] := rfl
  simp [execOp, resolve, Deferred.ofValue, invoke, ha.eval hx, e2, e1]
end
section
variable {P : Program} {ro : Option Nat} {ds : List Deferred} {B : Bk ro ds} {n : Nat} {w0 : World} {M : Nat → Prop} {k : List It} {T : Slots} {H Hr : List Asn}
/-- what memory tells by itself -/
theorem RS_fact {p : Prop} (h : ∀ w, St w0 M H w → p) (hp : p → RS P B n w0 M k T H) : RS P B n w0 M k T H := ⟨fun a w had ha hS => (hp (h w hS)).runD a w had ha hS⟩
theorem row_facts {w : World} {e : TypeId} {size m c : Nat} {A : Option Addr} {xs : List Value} (h : (row e size A m c xs).holds w) : m ≤ c ∧ c ≤ maxLen ∧ (0 < m → A ≠ none) ∧ xs.length = m * size := by
  obtain ⟨A', c', hv, h1, h2⟩ := own_form h
  injection hv with e1 e2 e3
  subst e3
  refine ⟨h1, h2, fun hm => ?_, h.1⟩
  rcases h.2 with ⟨_, h0⟩ | ⟨g, cap, cur, hv, _⟩
  · omega
  · injection hv with e1
    rw [e1]
    simp
theorem RS_row {e : TypeId} {size : Nat} (A : Option Addr) (m c : Nat) {xs : List Value} [hr : HRow H A m c e size xs Hr] (hp : m ≤ c → c ≤ maxLen → (0 < m → A ≠ none) → xs.length = m * size → RS P B n w0 M k T H) : RS P B n w0 M k T H :=
  RS_fact (p := m ≤ c ∧ c ≤ maxLen ∧ (0 < m → A ≠ none) ∧ xs.length = m * size) (fun w hS => row_facts (hS.at_ hr.mem)) fun ⟨h1, h2, h3, h4⟩ => hp h1 h2 h3 h4
end
/-- a function that hands nothing back and ends where its text ends -/
theorem gives_N {P : Program} {f : FuncId} {fn : Func} {vs : List Value} {w : World} {n : Nat} {As : List Asn} {X : Type} {I : X → Prop} {A : X → List Asn} (hf : P.funcs[f]? = some fn) (hb : fn.body.isSome = true) (hn : fn.ntmps = n) (hr : fn.results = #[])
    (hv : vs.length ≤ n) (hS : St w (owns As) As w) (h : ∀ B : Bk none [], (∀ (T : Slots) (H : List Asn), (∀ w', St w (owns As) H w' → ∃ x, I x ∧ St w (owns As) (A x) w') → RS P B n w (owns As) [] T H) → RS P B n w (owns As) [.code (cbody fn)] (targs 0 vs) As) :
    Gives P f vs As w (fun _ => .tuple #[]) I A := by
  obtain ⟨c, hc⟩ := Option.isSome_iff_exists.1 hb
  refine calls_RS hf hc hn (rs := []) (by simpa using hr) hv hS fun B hB => ?_
  have h2 := h B fun T H hw' => RS_end hB (rs := []) (vs := []) rfl fun w' hS' => by
    obtain ⟨x, hI, hA⟩ := hw' w' hS'
    exact ⟨x, rfl, hI, hA⟩
  have e : cbody fn = c := by unfold cbody; rw [hc]
  rwa [e] at h2
end Go.Proofs.YtdbehejbeioboaaDoor
