/- entry.Decode: parts. -/
import Derived.Test.YtleecfhafnfeoaaDe1
namespace Go.Proofs.Ytleecfhafnfeoaa
open Go.RowKit
open Asn (pt row rb)
set_option linter.unusedVariables false
set_option linter.unusedSimpArgs false

section
variable {k c : Int} {s : Nat} {br br' : ByteArray} {old new x : List UInt8} {A A' : Option Addr} {n cp n' cp' : Nat}
theorem cmd_set3 : (cmdL k c s br old new A n cp).set 3 (.string br') = cmdL k c s br' old new A n cp := rfl
theorem cmd_st4 (lo : old.length = 32) (lx : x.length = 32) : (cmdL k c s br old new A n cp).take 4 ++ x.map bv ++ (cmdL k c s br old new A n cp).drop (4 + (x.map bv).length) = cmdL k c s br x new A n cp := by
  rw [List.length_map, lx]
  unfold cmdL
  simp [List.drop_append, lo]
theorem cmd_st36 (lo : old.length = 32) (ln : new.length = 32) (lx : x.length = 32) : (cmdL k c s br old new A n cp).take 36 ++ x.map bv ++ (cmdL k c s br old new A n cp).drop (36 + (x.map bv).length) = cmdL k c s br old x A n cp := by
  rw [List.length_map, lx]
  unfold cmdL
  simp [List.drop_append, List.take_append, lo, ln]
theorem cmd_set68 (lo : old.length = 32) (ln : new.length = 32) : (cmdL k c s br old new A n cp).set 68 (.slice A' n' cp') = cmdL k c s br old new A' n' cp' := by
  unfold cmdL
  rw [List.set_append_right _ _ (by simp [lo, ln])]
  simp [lo, ln]
theorem cmd_one : ∀ u ∈ cmdL k c s br old new A n cp, u.oneCell' = true := by
  intro u hu
  simp only [cmdL, List.mem_append, List.mem_cons, List.not_mem_nil, or_false, List.mem_map] at hu
  rcases hu with ((((rfl | rfl | rfl | rfl) | ⟨_, _, rfl⟩) | ⟨_, _, rfl⟩) | rfl) <;> rfl
end
/-- no command -/
abbrev cmd0 : List Value := cmdL 0 0 0 ⟨#[]⟩ zero32 zero32 none 0 0
theorem cmd0_alloc : ti27.zero = .agg cmd0.toArray := by kernel_rfl
theorem cmd0_built : Try.prog.built 27 [] = some cmd0.toArray := by kernel_rfl
theorem cmd3_built (k c : Int) (s : Nat) : Try.prog.built 27 [(0, .int .i64 k), (1, .int .i64 c), (2, .int .u32 s)] = some (cmdL k c s ⟨#[]⟩ zero32 zero32 none 0 0).toArray := by kernel_rfl
section
variable {n : Nat} {w0 : World} {M : Nat → Prop} {T : Slots} {H Hr : List Asn} {dd : Option Tmp} {tt : TypeId} {pos : String} {af : Array Edge} {g : Option (Nat × Bool)} {x y : Operand} {ts : Array TypeId} {gb bR : Nat} {F : Nat → Prop} {l : List UInt8} {why : Int}
theorem T_build3 {x y z : Operand} {k c : Int} {s : Nat} (hx : oget T x = some (.int .i64 k)) (hy : oget T y = some (.int .i64 c)) (hz : oget T z = some (.int .u32 s)) :
    Tk Try.prog n w0 M T H ⟨dd, .build 27 #[(0, x), (1, y), (2, z)], tt, pos, af, g⟩ (.agg (cmdL k c s ⟨#[]⟩ zero32 zero32 none 0 0).toArray) := .mk fun a w ha hS => by
  have hr := run_build (P := Try.prog) w 27 #[(0, .int .i64 k), (1, .int .i64 c), (2, .int .u32 s)] _ (cmd3_built k c s)
  simp only [execOp, List.map_toArray, List.map_cons, List.map_nil, ha.eval hx, ha.eval hy, ha.eval hz, Sem.run_bind, hr, Result.andThen_ok, Sem.run_pure]
/-- the closure that reads an Id -/
theorem E_decid (hx : oget T x = some (.func (.func 27) #[] #[.pointer (some ⟨bR, 0, none⟩)])) [h1 : RemC H (pt bR 49 [.pointer (some ⟨gb, 0, none⟩)]) Hr] {Hq : List Asn} [h2 : HRd Hr gb F l why Hq] (hl : l.length ≤ 140737488355328) :
    Ef Try.prog n w0 M T H ⟨dd, .call ⟨.value x, #[], ts⟩, tt, pos, af, g⟩ (fun u H' => ∃ t l1 why1, Rstep l why 32 t l1 why1 ∧ u = .agg ((idOf t).map bv).toArray ∧ H' = pt bR 49 [.pointer (some ⟨gb, 0, none⟩)] :: rdr gb F l1 why1 :: Hq) := by
  refine E_clo (cap := [.pointer (some ⟨bR, 0, none⟩)]) ⟨_, Try.func27, rfl, by kernel_rfl⟩ hx ?_
  refine (E_call (vs := [.pointer (some ⟨bR, 0, none⟩)]) [pt bR 49 [.pointer (some ⟨gb, 0, none⟩)], rdr gb F l why] Hq _ _ _ rfl ⟨_, Try.func27, rfl, by kernel_rfl⟩ (fun w hS => (hS.perm h1.perm).perm (h2.perm.cons _)) (fun w hS => dec_id w bR gb F l why hl hS.again)).mono ?_
  rintro v H' ⟨⟨t, l1, why1⟩, hst, rfl, rfl⟩ w hS
  exact ⟨_, _, rfl, ⟨t, l1, why1, hst, rfl, rfl⟩, hS⟩
end
end Go.Proofs.Ytleecfhafnfeoaa
