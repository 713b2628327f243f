/- Texts compared; a row searched. -/
import Derived.Test.YtebbnbddlnpldaaPm6
import Derived.Test.YtebbnbddlnpldaaPm7
namespace Go.Proofs.Ytebbnbddlnpldaa
open Go.RowKit
open Asn (pt row rb)
set_option linter.unusedVariables false
set_option linter.unusedSimpArgs false
--@use N

theorem less_T {a b : Str} (h : a < b) : Op.bytesLess a b = true := by rw [bytesLess_eq]; exact decide_eq_true h
theorem less_F {a b : Str} (h : ¬ a < b) : Op.bytesLess a b = false := by rw [bytesLess_eq]; exact decide_eq_false h
def cmpS (a b : Str) : Int := if Op.bytesLess a b then -1 else if Op.bytesLess b a then 1 else 0
theorem cmp_lt {a b : Str} (h : a < b) : cmpS a b < 0 := by rw [cmpS, less_T h, if_pos rfl]; decide
theorem cmp_ge {a b : Str} (h : ¬ a < b) : ¬ cmpS a b < 0 := by rw [cmpS, less_F h]; simp only [Bool.false_eq_true, if_false]; split <;> omega
theorem cmp_eq {a b : Str} (h : a = b) : cmpS a b = 0 := by subst h; rw [cmpS, less_F (sl_irr a)]; rfl
theorem cmp_ne {a b : Str} (h : a ≠ b) : ¬ cmpS a b = 0 := by
  rcases sl_tri a b with h1 | h1 | h1
  · have := cmp_lt h1; omega
  · exact absurd h1 h
  · rw [cmpS, less_F (sl_as h1), less_T h1]; decide
set_option maxRecDepth 100000 in
set_option maxHeartbeats 4000000 in
theorem isNaN_any (w : World) (s : Str) :
    Gives Try.prog 52 [sv s] [] w (X := Unit) (fun _ => .bool false) (fun _ => True) (fun _ => []) := by
  refine gives_S Try.func52 rfl Try.ntmps52 Try.results52 (by simp) (St.enter w) (fun B hB => ?_)
  have hc : scmp .neq s s = some false := by simp [scmp]
  focus (refine S_seq rfl ?_; refine S_region rfl rfl ?_; refine R_p rfl ?_ rfl rfl; refine R_nil ?_; refine S_seq rfl ?_; refine S_region rfl rfl ?_; refine R_p rfl ?_ rfl rfl; refine R_p rfl ?_ rfl rfl; refine R_take (T_scm (a := s) (b := s) rfl rfl hc) ?_ rfl rfl; refine R_p rfl ?_ rfl rfl; refine R_nil ?_)
  exact hB _ _ _ _ _ rfl rfl fun w' hS => ⟨(), rfl, trivial, hS.sublist (List.nil_sublist _)⟩
set_option maxRecDepth 100000 in
set_option maxHeartbeats 4000000 in
theorem compare_any (w : World) (a b : Str) :
    Gives Try.prog 32 [sv a, sv b] [] w (X := Unit) (fun _ => zi (cmpS a b)) (fun _ => True) (fun _ => []) := by
  refine gives_S Try.func32 rfl Try.ntmps32 Try.results32 (by simp) (St.enter w) (fun B hB => ?_)
  have h1 : scmp .lss a b = some (Op.bytesLess a b) := rfl
  have h2 : scmp .gtr a b = some (Op.bytesLess b a) := congrArg some (by rw [less_or, Bool.not_not])
  obtain ⟨p, hp⟩ : ∃ p, Op.bytesLess a b = p := ⟨_, rfl⟩
  obtain ⟨q, hq⟩ : ∃ q, Op.bytesLess b a = q := ⟨_, rfl⟩
  have hcv : cmpS a b = if p then -1 else if q then 1 else 0 := by rw [cmpS, hp, hq]
  rw [hp] at h1
  rw [hq] at h2
  cases p
  all_goals cases q
  all_goals skip
  · focus (refine S_seq rfl ?_; refine S_region rfl rfl ?_; refine R_p rfl ?_ rfl rfl; refine R_nil ?_; refine S_seq rfl ?_; refine S_region rfl rfl ?_; refine R_p rfl ?_ rfl rfl; (refine R_eff (E_gv0 (f := 52) ⟨_, Try.func52, rfl, by kernel_rfl⟩ rfl (fun w hS => isNaN_any w a) (fun _ => rfl)) ?_ rfl rfl; rintro _ _ ⟨_, rfl, _, rfl⟩); refine R_p rfl ?_ rfl rfl; refine R_nil ?_; refine S_seq rfl ?_; refine S_region rfl rfl ?_; refine R_p rfl ?_ rfl rfl; (refine R_eff (E_gv0 (f := 52) ⟨_, Try.func52, rfl, by kernel_rfl⟩ rfl (fun w hS => isNaN_any w b) (fun _ => rfl)) ?_ rfl rfl; rintro _ _ ⟨_, rfl, _, rfl⟩); refine R_p rfl ?_ rfl rfl; refine R_nil ?_; refine S_seq rfl ?_; refine S_seq rfl ?_; refine S_region rfl rfl ?_; refine R_p rfl ?_ rfl rfl; refine R_nil ?_; refine S_false rfl rfl ?_; refine S_skip rfl ?_; refine S_seq rfl ?_; refine S_seq rfl ?_; refine S_region rfl rfl ?_; refine R_p rfl ?_ rfl rfl; refine R_nil ?_; refine S_false rfl rfl ?_; refine S_skip rfl ?_; refine S_seq rfl ?_; refine S_seq rfl ?_; refine S_region rfl rfl ?_; refine R_p rfl ?_ rfl rfl; refine R_p rfl ?_ rfl rfl; refine R_take (T_scm (a := a) (b := b) rfl rfl h1) ?_ rfl rfl; refine R_nil ?_; refine S_false rfl rfl ?_; refine S_skip rfl ?_; refine S_seq rfl ?_; refine S_seq rfl ?_; refine S_region rfl rfl ?_; refine R_p rfl ?_ rfl rfl; refine R_p rfl ?_ rfl rfl; refine R_take (T_scm (a := a) (b := b) rfl rfl h2) ?_ rfl rfl; refine R_nil ?_; refine S_false rfl rfl ?_; refine S_skip rfl ?_; refine S_seq rfl ?_; refine S_region rfl rfl ?_; refine R_p rfl ?_ rfl rfl; refine R_nil ?_)
    refine hB _ _ _ _ _ rfl rfl fun w' hS => ⟨(), ?_, trivial, hS.sublist (List.nil_sublist _)⟩
    rw [hcv]
    rfl
  · focus (refine S_seq rfl ?_; refine S_region rfl rfl ?_; refine R_p rfl ?_ rfl rfl; refine R_nil ?_; refine S_seq rfl ?_; refine S_region rfl rfl ?_; refine R_p rfl ?_ rfl rfl; (refine R_eff (E_gv0 (f := 52) ⟨_, Try.func52, rfl, by kernel_rfl⟩ rfl (fun w hS => isNaN_any w a) (fun _ => rfl)) ?_ rfl rfl; rintro _ _ ⟨_, rfl, _, rfl⟩); refine R_p rfl ?_ rfl rfl; refine R_nil ?_; refine S_seq rfl ?_; refine S_region rfl rfl ?_; refine R_p rfl ?_ rfl rfl; (refine R_eff (E_gv0 (f := 52) ⟨_, Try.func52, rfl, by kernel_rfl⟩ rfl (fun w hS => isNaN_any w b) (fun _ => rfl)) ?_ rfl rfl; rintro _ _ ⟨_, rfl, _, rfl⟩); refine R_p rfl ?_ rfl rfl; refine R_nil ?_; refine S_seq rfl ?_; refine S_seq rfl ?_; refine S_region rfl rfl ?_; refine R_p rfl ?_ rfl rfl; refine R_nil ?_; refine S_false rfl rfl ?_; refine S_skip rfl ?_; refine S_seq rfl ?_; refine S_seq rfl ?_; refine S_region rfl rfl ?_; refine R_p rfl ?_ rfl rfl; refine R_nil ?_; refine S_false rfl rfl ?_; refine S_skip rfl ?_; refine S_seq rfl ?_; refine S_seq rfl ?_; refine S_region rfl rfl ?_; refine R_p rfl ?_ rfl rfl; refine R_p rfl ?_ rfl rfl; refine R_take (T_scm (a := a) (b := b) rfl rfl h1) ?_ rfl rfl; refine R_nil ?_; refine S_false rfl rfl ?_; refine S_skip rfl ?_; refine S_seq rfl ?_; refine S_seq rfl ?_; refine S_region rfl rfl ?_; refine R_p rfl ?_ rfl rfl; refine R_p rfl ?_ rfl rfl; refine R_take (T_scm (a := a) (b := b) rfl rfl h2) ?_ rfl rfl; refine R_nil ?_; refine S_true rfl rfl ?_; refine S_seq rfl ?_; refine S_region rfl rfl ?_; refine R_p rfl ?_ rfl rfl; refine R_nil ?_)
    refine hB _ _ _ _ _ rfl rfl fun w' hS => ⟨(), ?_, trivial, hS.sublist (List.nil_sublist _)⟩
    rw [hcv]
    rfl
  · focus (refine S_seq rfl ?_; refine S_region rfl rfl ?_; refine R_p rfl ?_ rfl rfl; refine R_nil ?_; refine S_seq rfl ?_; refine S_region rfl rfl ?_; refine R_p rfl ?_ rfl rfl; (refine R_eff (E_gv0 (f := 52) ⟨_, Try.func52, rfl, by kernel_rfl⟩ rfl (fun w hS => isNaN_any w a) (fun _ => rfl)) ?_ rfl rfl; rintro _ _ ⟨_, rfl, _, rfl⟩); refine R_p rfl ?_ rfl rfl; refine R_nil ?_; refine S_seq rfl ?_; refine S_region rfl rfl ?_; refine R_p rfl ?_ rfl rfl; (refine R_eff (E_gv0 (f := 52) ⟨_, Try.func52, rfl, by kernel_rfl⟩ rfl (fun w hS => isNaN_any w b) (fun _ => rfl)) ?_ rfl rfl; rintro _ _ ⟨_, rfl, _, rfl⟩); refine R_p rfl ?_ rfl rfl; refine R_nil ?_; refine S_seq rfl ?_; refine S_seq rfl ?_; refine S_region rfl rfl ?_; refine R_p rfl ?_ rfl rfl; refine R_nil ?_; refine S_false rfl rfl ?_; refine S_skip rfl ?_; refine S_seq rfl ?_; refine S_seq rfl ?_; refine S_region rfl rfl ?_; refine R_p rfl ?_ rfl rfl; refine R_nil ?_; refine S_false rfl rfl ?_; refine S_skip rfl ?_; refine S_seq rfl ?_; refine S_seq rfl ?_; refine S_region rfl rfl ?_; refine R_p rfl ?_ rfl rfl; refine R_p rfl ?_ rfl rfl; refine R_take (T_scm (a := a) (b := b) rfl rfl h1) ?_ rfl rfl; refine R_nil ?_; refine S_true rfl rfl ?_; refine S_seq rfl ?_; refine S_region rfl rfl ?_; refine R_p rfl ?_ rfl rfl; refine R_nil ?_)
    refine hB _ _ _ _ _ rfl rfl fun w' hS => ⟨(), ?_, trivial, hS.sublist (List.nil_sublist _)⟩
    rw [hcv]
    rfl
  · focus (refine S_seq rfl ?_; refine S_region rfl rfl ?_; refine R_p rfl ?_ rfl rfl; refine R_nil ?_; refine S_seq rfl ?_; refine S_region rfl rfl ?_; refine R_p rfl ?_ rfl rfl; (refine R_eff (E_gv0 (f := 52) ⟨_, Try.func52, rfl, by kernel_rfl⟩ rfl (fun w hS => isNaN_any w a) (fun _ => rfl)) ?_ rfl rfl; rintro _ _ ⟨_, rfl, _, rfl⟩); refine R_p rfl ?_ rfl rfl; refine R_nil ?_; refine S_seq rfl ?_; refine S_region rfl rfl ?_; refine R_p rfl ?_ rfl rfl; (refine R_eff (E_gv0 (f := 52) ⟨_, Try.func52, rfl, by kernel_rfl⟩ rfl (fun w hS => isNaN_any w b) (fun _ => rfl)) ?_ rfl rfl; rintro _ _ ⟨_, rfl, _, rfl⟩); refine R_p rfl ?_ rfl rfl; refine R_nil ?_; refine S_seq rfl ?_; refine S_seq rfl ?_; refine S_region rfl rfl ?_; refine R_p rfl ?_ rfl rfl; refine R_nil ?_; refine S_false rfl rfl ?_; refine S_skip rfl ?_; refine S_seq rfl ?_; refine S_seq rfl ?_; refine S_region rfl rfl ?_; refine R_p rfl ?_ rfl rfl; refine R_nil ?_; refine S_false rfl rfl ?_; refine S_skip rfl ?_; refine S_seq rfl ?_; refine S_seq rfl ?_; refine S_region rfl rfl ?_; refine R_p rfl ?_ rfl rfl; refine R_p rfl ?_ rfl rfl; refine R_take (T_scm (a := a) (b := b) rfl rfl h1) ?_ rfl rfl; refine R_nil ?_; refine S_true rfl rfl ?_; refine S_seq rfl ?_; refine S_region rfl rfl ?_; refine R_p rfl ?_ rfl rfl; refine R_nil ?_)
    refine hB _ _ _ _ _ rfl rfl fun w' hS => ⟨(), ?_, trivial, hS.sublist (List.nil_sublist _)⟩
    rw [hcv]
    rfl
set_option maxRecDepth 100000 in
set_option maxHeartbeats 4000000 in
theorem cmpR_any (w : World) (x : Rw) (s : Str) :
    Gives Try.prog 31 [.agg (rwc x).toArray, sv s] [] w (X := Unit) (fun _ => zi (cmpS x.1 s)) (fun _ => True) (fun _ => []) := by
  refine gives_S Try.func31 rfl Try.ntmps31 Try.results31 (by simp) (St.enter w) (fun B hB => ?_)
  focus (refine S_seq rfl ?_; refine S_region rfl rfl ?_; (refine R_eff (E_boxa rfl) ?_ rfl rfl; rintro _ _ ⟨b, rfl, rfl⟩); refine R_p rfl ?_ rfl rfl; refine R_nil ?_; refine S_seq rfl ?_; refine S_region rfl rfl ?_; refine R_p rfl ?_ rfl rfl; refine R_take (T_load rfl rfl rfl (by first | rfl | assumption)) ?_ rfl rfl; refine R_p rfl ?_ rfl rfl; (refine R_eff (E_gv0 (f := 32) ⟨_, Try.func32, rfl, by kernel_rfl⟩ rfl (fun w hS => compare_any w x.1 s) (fun _ => rfl)) ?_ rfl rfl; rintro _ _ ⟨_, rfl, _, rfl⟩); refine R_p rfl ?_ rfl rfl; refine R_nil ?_)
  exact hB _ _ _ _ _ rfl rfl fun w' hS => ⟨(), rfl, trivial, hS.sublist (List.nil_sublist _)⟩
theorem E_cmpR {n : Nat} {w0 : World} {M : Nat → Prop} {T : Slots} {H : List Asn} {dd : Option Tmp} {tt : TypeId} {pos : String} {af : Array Edge} {g : Option (Nat × Bool)} {x y z : Operand} {ts : Array TypeId} {a : Rw} {s : Str} {r : Int} (hx : oget T x = some (.func (.func 31) #[] #[])) (hy : oget T y = some (.agg (rwc a).toArray)) (hz : oget T z = some (sv s)) (hr : cmpS a.1 s = r) :
    Ef Try.prog n w0 M T H ⟨dd, .call ⟨.value x, #[y, z], ts⟩, tt, pos, af, g⟩ (fun u H' => u = zi r ∧ H' = H) := by
  subst hr
  refine (E_cloA (cap := []) hx (E_gv0 ⟨_, Try.func31, rfl, by kernel_rfl⟩ (vs := [.agg (rwc a).toArray, sv s]) (by simp [ogets, hy, hz]) (fun w' hS => cmpR_any w' a s) (fun _ => rfl))).mono ?_
  rintro v H' ⟨_, rfl, _, rfl⟩ w hS
  exact ⟨_, _, rfl, ⟨rfl, rfl⟩, hS⟩
end Go.Proofs.Ytebbnbddlnpldaa
