/- Structs within structs, compared: the same. -/
import Derived.Test.YtghfjfgpiomdhaaMeG
namespace Go.Proofs.Ytghfjfgpiomdhaa
open Go.RowKit
set_option linter.unusedVariables false
set_option linter.unusedSimpArgs false
/-- a value is the same as itself -/
def SelfEq (P : Program) (d : Nat) (t : TypeId) (v : Value) : Prop := ∀ w, (Op.equalIn d t v v).run P w = .ok true w
section
variable {P : Program}
theorem SelfEq.plain {d : Nat} {t : TypeId} {ds : TypeDesc} {a : Value} (h : P.underlying t = some ds) (hp : plainD ds a a = true) (he : eqVal a a = true) : SelfEq P (d + 1) t a := fun w => by
  rw [run_plainD w d h hp, he]
/-- a field is the same as itself -/
def FldEq (P : Program) (d : Nat) (xs : Array Value) (f : Field) : Prop := f.name ≠ "_" ∧ ∃ a, (∀ w, (part f.type xs f.offset).run P w = .ok a w) ∧ SelfEq P d f.type a
theorem run_eqFields_self (d : Nat) (xs : Array Value) : ∀ (fs : List Field), (∀ f ∈ fs, FldEq P d xs f) → ∀ w, (Op.eqFields d xs xs fs).run P w = .ok true w
  | [], _, w => by simp [Op.eqFields]
  | f :: fs, h, w => by
    obtain ⟨hn, a, p1, e1⟩ := h f (by simp)
    have ih := run_eqFields_self d xs fs (fun g hg => h g (by simp [hg])) w
    simp only [Op.eqFields, ne_eq, hn, not_false_eq_true, if_true, Sem.run_bind, p1, Result.andThen_ok, e1 w, Sem.run_ite]
    simpa using ih
theorem SelfEq.struct {d : Nat} {t : TypeId} {fs : Array Field} {xs : Array Value} (hu : P.underlying t = some (.struct fs)) (hp : P.stoodInHeld t = false) (h : ∀ f ∈ fs.toList, FldEq P d xs f) : SelfEq P (d + 1) t (.agg xs) := fun w => by
  have hf : P.fieldsOf t = fs := by simp [Program.fieldsOf, hu]
  rw [run_equalIn_struct w d t xs xs (by rw [hf]; exact hu) hp, hf, run_eqFields_self d xs _ h]
theorem FldEq.plain {d : Nat} {xs : Array Value} {f : Field} {ds : TypeDesc} {a : Value} (hn : f.name ≠ "_") (hu : P.underlying f.type = some ds) (ha : aggB ds = false) (hx : xs[f.offset]? = some a) (hp : plainD ds a a = true) (he : eqVal a a = true) : FldEq P (d + 1) xs f :=
  ⟨hn, a, part_plain hu ha hx, .plain hu hp he⟩
theorem part_agg {t : TypeId} {ds : TypeDesc} {xs ys : Array Value} {off n : Nat} (hu : P.underlying t = some ds) (ha : aggB ds = true) (hz : ∀ w, (sizeOf t).run P w = .ok n w) (hx : xs.extract off (off + n) = ys) (w : World) : (part t xs off).run P w = .ok (.agg ys) w := by
  subst hx
  cases ds <;> first | (cases ha; done) | simp [part, isAgg, run_underlying hu, hz]
theorem FldEq.agg {d n : Nat} {xs ys : Array Value} {f : Field} {ds : TypeDesc} (hn : f.name ≠ "_") (hu : P.underlying f.type = some ds) (ha : aggB ds = true) (hz : ∀ w, (sizeOf f.type).run P w = .ok n w) (hx : xs.extract f.offset (f.offset + n) = ys) (h : SelfEq P d f.type (.agg ys)) : FldEq P d xs f :=
  ⟨hn, .agg ys, part_agg hu ha hz hx, h⟩
theorem eqVal_sv (s : Str) : eqVal (sv s) (sv s) = true := by simp [eqVal, sv]
theorem T_neSelf {n : Nat} {w0 : World} {M : Nat → Prop} {T : Slots} {H : List Asn} {dd : Option Tmp} {tt : TypeId} {pos : String} {af : Array Edge} {g : Option (Nat × Bool)} {x y : Operand} {s u : TypeId} {xs : Array Value} (hx : oget T x = some (.agg xs)) (hy : oget T y = some (.agg xs)) (hg : P.eqGuardType P.depth s = false) (h : SelfEq P 10000 s (.agg xs)) :
    Tk P n w0 M T H ⟨dd, .binOp .neq s x y u, tt, pos, af, g⟩ (.bool false) := .mk fun a w ha hS => by
  have h3 : (Op.equal s (.agg xs) (.agg xs)).run P w = .ok true w := h w
  simp [execOp, ha.eval hx, ha.eval hy, eqGuard, hg, binOp, h3]
end
theorem sd_self (d : Nat) (s : Sd) : SelfEq Try.prog (d + 2) 50 (.agg (sdc s).toArray) := by
  refine SelfEq.struct (ty_ok (i := ti50) rfl) (by kernel_rfl) (List.forall_mem_cons.2 ⟨?_, List.forall_mem_cons.2 ⟨?_, fun _ h => (by cases h)⟩⟩)
  · exact .plain (by decide) (ty_ok (i := ti4) rfl) rfl rfl rfl (by simp [eqVal, sdc])
  · exact .plain (by decide) (ty_ok (i := ti9) rfl) rfl rfl rfl (eqVal_sv s.2)
theorem cn_self (d : Nat) (c : Cn) : SelfEq Try.prog (d + 3) 52 (.agg (cnc c).toArray) := by
  refine SelfEq.struct (ty_ok (i := ti52) rfl) (by kernel_rfl) ?_
  have hz : ∀ w, (sizeOf 50).run Try.prog w = .ok 2 w := fun w => ty_size (i := ti50) rfl w
  obtain ⟨p, b, o, t⟩ := c
  refine List.forall_mem_cons.2 ⟨?_, List.forall_mem_cons.2 ⟨?_, List.forall_mem_cons.2 ⟨?_, List.forall_mem_cons.2 ⟨?_, fun _ h => (by cases h)⟩⟩⟩⟩
  · exact .plain (by decide) (ty_ok (i := ti9) rfl) rfl rfl rfl (eqVal_sv p)
  · exact .agg (ys := (sdc b).toArray) (by decide) (ty_ok (i := ti50) rfl) rfl hz rfl (sd_self d b)
  · exact .agg (ys := (sdc o).toArray) (by decide) (ty_ok (i := ti50) rfl) rfl hz rfl (sd_self d o)
  · exact .agg (ys := (sdc t).toArray) (by decide) (ty_ok (i := ti50) rfl) rfl hz rfl (sd_self d t)
theorem T_neCn {n : Nat} {w0 : World} {M : Nat → Prop} {T : Slots} {H : List Asn} {dd : Option Tmp} {tt : TypeId} {pos : String} {af : Array Edge} {g : Option (Nat × Bool)} {x y : Operand} {u : TypeId} {c : Cn} (hx : oget T x = some (.agg (cnc c).toArray)) (hy : oget T y = some (.agg (cnc c).toArray)) :
    Tk Try.prog n w0 M T H ⟨dd, .binOp .neq 52 x y u, tt, pos, af, g⟩ (.bool false) := T_neSelf hx hy (by kernel_rfl) (cn_self 9997 c)
end Go.Proofs.Ytghfjfgpiomdhaa
