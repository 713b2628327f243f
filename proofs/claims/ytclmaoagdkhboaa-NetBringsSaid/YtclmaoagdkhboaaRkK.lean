/- The calculus: a field of a struct's value. No program is named. -/
import Derived.Test.YtclmaoagdkhboaaRkJ
namespace Go.Proofs.Ytclmaoagdkhboaa
open Go.RowKit
open Asn (pt row rb)
set_option linter.unusedVariables false
set_option linter.unusedSimpArgs false
/-- a plain field of a struct's value -/
theorem field_run {P : Program} [HasTab P] {s ft : TypeId} {j o : Nat} {i fi : Ti} {xs : List Value} {v : Value} (hs : ty P s = some i) (hf : nth i.fs j = some (o, ft)) (hft : ty P ft = some fi) (ha : aggB fi.desc = false) (hv : xs[o]? = some v) (w : World) : (Instr.field s (.agg xs.toArray) j).run P w = .ok v w := by
  have hf := fieldOf_fs hs hf
  have hu := run_underlying (ty_ok hs) w
  cases hd : i.desc with
  | struct fs =>
    rw [hd] at hf hu
    obtain ⟨f, hf1, hf2⟩ := Option.map_eq_some_iff.1 hf
    simp only [Prod.mk.injEq] at hf2
    obtain ⟨rfl, rfl⟩ := hf2
    have hp := part_plain (P := P) (e := f.type) (ty_ok hft) ha (xs := xs.toArray) (off := f.offset) (v := v) (by simpa using hv) w
    simp [Instr.field, hu, hf1, asAgg, hp]
  | _ => rw [hd] at hf; cases hf
theorem T_fldv {P : Program} [HasTab P] {n : Nat} {w0 : World} {M : Nat → Prop} {T : Slots} {H : List Asn} {dd : Option Tmp} {tt : TypeId} {pos : String} {af : Array Edge} {g : Option (Nat × Bool)} {x : Operand} {s ft : TypeId} {j o : Nat} {i fi : Ti} {xs : List Value} {v : Value} (hx : oget T x = some (.agg xs.toArray)) (hs : ty P s = some i) (hf : nth i.fs j = some (o, ft)) (hft : ty P ft = some fi) (ha : aggB fi.desc = false) (hv : xs[o]? = some v) :
    Tk P n w0 M T H ⟨dd, .field s x j, tt, pos, af, g⟩ v := .mk fun a w hT hS => by
  simp only [execOp, hT.eval hx, Sem.run_bind, field_run hs hf hft ha hv w, Result.andThen_ok, Sem.run_pure]
end Go.Proofs.Ytclmaoagdkhboaa
