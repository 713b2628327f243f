/- Check, CheckEdit; ref Right, RightEdit. -/
import Derived.Test.YtebbnbddlnpldaaPm2
namespace Go.Proofs.Ytebbnbddlnpldaa
open Go.RowKit
open Asn (pt row rb)
set_option linter.unusedVariables false
set_option linter.unusedSimpArgs false
--@use N

section
variable {P : Program} {n : Nat} {w0 : World} {M : Nat → Prop} {T : Slots} {H Hr : List Asn} {dd : Option Tmp} {tt : TypeId} {pos : String} {af : Array Edge} {g : Option (Nat × Bool)} {x y z : Operand} {ts : Array TypeId}
theorem T_build2 {s : TypeId} {j k : Nat} {u v : Value} {cs : List Value} (hx : oget T x = some u) (hy : oget T y = some v) (hb : P.built s [(j, u), (k, v)] = some cs.toArray) :
    Tk P n w0 M T H ⟨dd, .build s #[(j, x), (k, y)], tt, pos, af, g⟩ (.agg cs.toArray) := .mk fun a w ha hS => by
  have hr := run_build (P := P) w s #[(j, u), (k, v)] cs.toArray (by simpa using hb)
  simp only [execOp, List.map_toArray, List.map_cons, List.map_nil, ha.eval hx, ha.eval hy, Sem.run_bind, hr, Result.andThen_ok, Sem.run_pure]
theorem T_build3 {s : TypeId} {j k l : Nat} {u v v3 : Value} {cs : List Value} (hx : oget T x = some u) (hy : oget T y = some v) (hz : oget T z = some v3) (hb : P.built s [(j, u), (k, v), (l, v3)] = some cs.toArray) :
    Tk P n w0 M T H ⟨dd, .build s #[(j, x), (k, y), (l, z)], tt, pos, af, g⟩ (.agg cs.toArray) := .mk fun a w ha hS => by
  have hr := run_build (P := P) w s #[(j, u), (k, v), (l, v3)] cs.toArray (by simpa using hb)
  simp only [execOp, List.map_toArray, List.map_cons, List.map_nil, ha.eval hx, ha.eval hy, ha.eval hz, Sem.run_bind, hr, Result.andThen_ok, Sem.run_pure]
end
theorem less_or (a b : Str) : (Op.bytesLess a b || decide (a = b)) = !Op.bytesLess b a := by
  rw [bytesLess_eq, bytesLess_eq, Bool.eq_iff_iff]
  simp only [Bool.or_eq_true, decide_eq_true_eq, Bool.not_eq_true', decide_eq_false_iff_not, List.not_lt]
  refine ⟨fun h => h.elim List.le_of_lt (fun h => h ▸ List.le_refl a), fun h => ?_⟩
  by_cases h2 : a < b
  · exact .inl h2
  · exact .inr (List.le_antisymm h (List.not_lt.1 h2))
theorem rwc_built (A : Option Addr) (n c : Nat) : Try.prog.built 72 [(0, .slice A n c), (1, .func (.func 40) #[] #[])] = some [Value.slice A n c, .func (.func 40) #[] #[]].toArray := by kernel_rfl
set_option maxRecDepth 100000 in
set_option maxHeartbeats 4000000 in
theorem checkR_any (w : World) (A : Option Addr) (n c : Nat) (L : List Rw) (h : Rd w All 2 A n (cellsL rwc L)) (hn : n ≤ 100000) (hp : ∀ x ∈ L, x.1.length ≤ 100000) :
    Gives Try.prog 18 [.agg #[.slice A n c]] [] w (X := Unit) (fun _ => zi (if chkR L then 0 else 150)) (fun _ => True) (fun _ => []) := by
  refine gives_S Try.func18 rfl Try.ntmps18 Try.results18 (by simp) (St.enter w) (fun B hB => ?_)
  obtain ⟨r, hr⟩ : ∃ r, L.all (fun x => !badR x) = r := ⟨_, rfl⟩
  obtain ⟨q, hq⟩ : ∃ q, risB (L.map (·.1)) = q := ⟨_, rfl⟩
  have hck : chkR L = (r && q) := by rw [chkR, hr, hq]
  cases r
  all_goals cases q
  · skip
    focus (refine S_seq rfl ?_; refine S_region rfl rfl ?_; (refine R_eff (E_boxa (cs := [.slice A n c]) rfl) ?_ rfl rfl; rintro _ _ ⟨b, rfl, rfl⟩); refine R_p rfl ?_ rfl rfl; refine R_nil ?_; refine S_seq rfl ?_; refine S_region rfl rfl ?_; refine R_p rfl ?_ rfl rfl; refine R_take (T_load rfl rfl rfl (by first | rfl | assumption)) ?_ rfl rfl; (refine R_eff (E_gv0 ⟨_, Try.func38, rfl, by kernel_rfl⟩ rfl (fun w' hS => confR_any w' A n c _ [] L badR ((Srd.old h (fun k _ => noOwns k)).rd w' hS) hn ⟨_, Try.func39, rfl, by kernel_rfl⟩ (fun w2 hk x hx => badR_any w2 x)) (fun _ => rfl)) ?_ rfl rfl; rintro _ _ ⟨_, rfl, _, rfl⟩; rw [hr]); refine R_p rfl ?_ rfl rfl; refine R_nil ?_; refine S_seq rfl ?_; refine S_seq rfl ?_; refine S_region rfl rfl ?_; refine R_p rfl ?_ rfl rfl; refine R_p rfl ?_ rfl rfl; refine R_skip ?_ rfl rfl; refine R_skip ?_ rfl rfl; refine R_skip ?_ rfl rfl; refine R_skip ?_ rfl rfl; refine R_skip ?_ rfl rfl; refine R_p rfl ?_ rfl rfl; refine R_nil ?_; refine S_true rfl rfl ?_; refine S_seq rfl ?_; refine S_region rfl rfl ?_; refine R_p rfl ?_ rfl rfl; refine R_nil ?_)
    refine hB _ _ _ _ _ rfl rfl fun w' hS => ⟨(), ?_, trivial, hS.sublist (List.nil_sublist _)⟩
    rw [hck]
    rfl
  · skip
    focus (refine S_seq rfl ?_; refine S_region rfl rfl ?_; (refine R_eff (E_boxa (cs := [.slice A n c]) rfl) ?_ rfl rfl; rintro _ _ ⟨b, rfl, rfl⟩); refine R_p rfl ?_ rfl rfl; refine R_nil ?_; refine S_seq rfl ?_; refine S_region rfl rfl ?_; refine R_p rfl ?_ rfl rfl; refine R_take (T_load rfl rfl rfl (by first | rfl | assumption)) ?_ rfl rfl; (refine R_eff (E_gv0 ⟨_, Try.func38, rfl, by kernel_rfl⟩ rfl (fun w' hS => confR_any w' A n c _ [] L badR ((Srd.old h (fun k _ => noOwns k)).rd w' hS) hn ⟨_, Try.func39, rfl, by kernel_rfl⟩ (fun w2 hk x hx => badR_any w2 x)) (fun _ => rfl)) ?_ rfl rfl; rintro _ _ ⟨_, rfl, _, rfl⟩; rw [hr]); refine R_p rfl ?_ rfl rfl; refine R_nil ?_; refine S_seq rfl ?_; refine S_seq rfl ?_; refine S_region rfl rfl ?_; refine R_p rfl ?_ rfl rfl; refine R_p rfl ?_ rfl rfl; refine R_skip ?_ rfl rfl; refine R_skip ?_ rfl rfl; refine R_skip ?_ rfl rfl; refine R_skip ?_ rfl rfl; refine R_skip ?_ rfl rfl; refine R_p rfl ?_ rfl rfl; refine R_nil ?_; refine S_true rfl rfl ?_; refine S_seq rfl ?_; refine S_region rfl rfl ?_; refine R_p rfl ?_ rfl rfl; refine R_nil ?_)
    refine hB _ _ _ _ _ rfl rfl fun w' hS => ⟨(), ?_, trivial, hS.sublist (List.nil_sublist _)⟩
    rw [hck]
    rfl
  · skip
    focus (refine S_seq rfl ?_; refine S_region rfl rfl ?_; (refine R_eff (E_boxa (cs := [.slice A n c]) rfl) ?_ rfl rfl; rintro _ _ ⟨b, rfl, rfl⟩); refine R_p rfl ?_ rfl rfl; refine R_nil ?_; refine S_seq rfl ?_; refine S_region rfl rfl ?_; refine R_p rfl ?_ rfl rfl; refine R_take (T_load rfl rfl rfl (by first | rfl | assumption)) ?_ rfl rfl; (refine R_eff (E_gv0 ⟨_, Try.func38, rfl, by kernel_rfl⟩ rfl (fun w' hS => confR_any w' A n c _ [] L badR ((Srd.old h (fun k _ => noOwns k)).rd w' hS) hn ⟨_, Try.func39, rfl, by kernel_rfl⟩ (fun w2 hk x hx => badR_any w2 x)) (fun _ => rfl)) ?_ rfl rfl; rintro _ _ ⟨_, rfl, _, rfl⟩; rw [hr]); refine R_p rfl ?_ rfl rfl; refine R_nil ?_; refine S_seq rfl ?_; refine S_seq rfl ?_; refine S_region rfl rfl ?_; refine R_p rfl ?_ rfl rfl; refine R_p rfl ?_ rfl rfl; refine R_p rfl ?_ rfl rfl; refine R_take (T_load rfl rfl rfl (by first | rfl | assumption)) ?_ rfl rfl; refine R_take (T_build2 rfl rfl (rwc_built _ _ _)) ?_ rfl rfl; (refine R_eff (E_gv0 ⟨_, Try.func41, rfl, by kernel_rfl⟩ rfl (fun w' hS => risR_any w' A n c L ((Srd.old h (fun k _ => noOwns k)).rd w' hS) hn hp) (fun _ => rfl)) ?_ rfl rfl; rintro _ _ ⟨_, rfl, _, rfl⟩; rw [hq]); refine R_take (T_not rfl) ?_ rfl rfl; refine R_p rfl ?_ rfl rfl; refine R_nil ?_; refine S_true rfl rfl ?_; refine S_seq rfl ?_; refine S_region rfl rfl ?_; refine R_p rfl ?_ rfl rfl; refine R_nil ?_)
    refine hB _ _ _ _ _ rfl rfl fun w' hS => ⟨(), ?_, trivial, hS.sublist (List.nil_sublist _)⟩
    rw [hck]
    rfl
  · skip
    focus (refine S_seq rfl ?_; refine S_region rfl rfl ?_; (refine R_eff (E_boxa (cs := [.slice A n c]) rfl) ?_ rfl rfl; rintro _ _ ⟨b, rfl, rfl⟩); refine R_p rfl ?_ rfl rfl; refine R_nil ?_; refine S_seq rfl ?_; refine S_region rfl rfl ?_; refine R_p rfl ?_ rfl rfl; refine R_take (T_load rfl rfl rfl (by first | rfl | assumption)) ?_ rfl rfl; (refine R_eff (E_gv0 ⟨_, Try.func38, rfl, by kernel_rfl⟩ rfl (fun w' hS => confR_any w' A n c _ [] L badR ((Srd.old h (fun k _ => noOwns k)).rd w' hS) hn ⟨_, Try.func39, rfl, by kernel_rfl⟩ (fun w2 hk x hx => badR_any w2 x)) (fun _ => rfl)) ?_ rfl rfl; rintro _ _ ⟨_, rfl, _, rfl⟩; rw [hr]); refine R_p rfl ?_ rfl rfl; refine R_nil ?_; refine S_seq rfl ?_; refine S_seq rfl ?_; refine S_region rfl rfl ?_; refine R_p rfl ?_ rfl rfl; refine R_p rfl ?_ rfl rfl; refine R_p rfl ?_ rfl rfl; refine R_take (T_load rfl rfl rfl (by first | rfl | assumption)) ?_ rfl rfl; refine R_take (T_build2 rfl rfl (rwc_built _ _ _)) ?_ rfl rfl; (refine R_eff (E_gv0 ⟨_, Try.func41, rfl, by kernel_rfl⟩ rfl (fun w' hS => risR_any w' A n c L ((Srd.old h (fun k _ => noOwns k)).rd w' hS) hn hp) (fun _ => rfl)) ?_ rfl rfl; rintro _ _ ⟨_, rfl, _, rfl⟩; rw [hq]); refine R_take (T_not rfl) ?_ rfl rfl; refine R_p rfl ?_ rfl rfl; refine R_nil ?_; refine S_false rfl rfl ?_; refine S_skip rfl ?_; refine S_seq rfl ?_; refine S_region rfl rfl ?_; refine R_p rfl ?_ rfl rfl; refine R_nil ?_)
    refine hB _ _ _ _ _ rfl rfl fun w' hS => ⟨(), ?_, trivial, hS.sublist (List.nil_sublist _)⟩
    rw [hck]
    rfl
theorem chc_built (A : Option Addr) (n c : Nat) : Try.prog.built 77 [(0, .slice A n c), (1, .func (.func 44) #[] #[])] = some [Value.slice A n c, .func (.func 44) #[] #[]].toArray := by kernel_rfl
set_option maxRecDepth 100000 in
set_option maxHeartbeats 4000000 in
theorem checkC_any (w : World) (A : Option Addr) (n c : Nat) (L : List Ch) (h : Rd w All 3 A n (cellsL chc L)) (hn : n ≤ 100000) (hp : ∀ x ∈ L, x.1.length ≤ 100000) :
    Gives Try.prog 19 [.agg #[.slice A n c]] [] w (X := Unit) (fun _ => zi (if chkC L then 0 else 151)) (fun _ => True) (fun _ => []) := by
  refine gives_S Try.func19 rfl Try.ntmps19 Try.results19 (by simp) (St.enter w) (fun B hB => ?_)
  obtain ⟨r, hr⟩ : ∃ r, L.all (fun x => !badC x) = r := ⟨_, rfl⟩
  obtain ⟨q, hq⟩ : ∃ q, risB (L.map (·.1)) = q := ⟨_, rfl⟩
  have hck : chkC L = (r && q) := by rw [chkC, hr, hq]
  cases r
  all_goals cases q
  · skip
    focus (refine S_seq rfl ?_; refine S_region rfl rfl ?_; (refine R_eff (E_boxa (cs := [.slice A n c]) rfl) ?_ rfl rfl; rintro _ _ ⟨b, rfl, rfl⟩); refine R_p rfl ?_ rfl rfl; refine R_nil ?_; refine S_seq rfl ?_; refine S_region rfl rfl ?_; refine R_p rfl ?_ rfl rfl; refine R_take (T_load rfl rfl rfl (by first | rfl | assumption)) ?_ rfl rfl; (refine R_eff (E_gv0 ⟨_, Try.func42, rfl, by kernel_rfl⟩ rfl (fun w' hS => confC_any w' A n c _ [] L badC ((Srd.old h (fun k _ => noOwns k)).rd w' hS) hn ⟨_, Try.func43, rfl, by kernel_rfl⟩ (fun w2 hk x hx => badC_any w2 x)) (fun _ => rfl)) ?_ rfl rfl; rintro _ _ ⟨_, rfl, _, rfl⟩; rw [hr]); refine R_p rfl ?_ rfl rfl; refine R_nil ?_; refine S_seq rfl ?_; refine S_seq rfl ?_; refine S_region rfl rfl ?_; refine R_p rfl ?_ rfl rfl; refine R_p rfl ?_ rfl rfl; refine R_skip ?_ rfl rfl; refine R_skip ?_ rfl rfl; refine R_skip ?_ rfl rfl; refine R_skip ?_ rfl rfl; refine R_skip ?_ rfl rfl; refine R_p rfl ?_ rfl rfl; refine R_nil ?_; refine S_true rfl rfl ?_; refine S_seq rfl ?_; refine S_region rfl rfl ?_; refine R_p rfl ?_ rfl rfl; refine R_nil ?_)
    refine hB _ _ _ _ _ rfl rfl fun w' hS => ⟨(), ?_, trivial, hS.sublist (List.nil_sublist _)⟩
    rw [hck]
    rfl
  · skip
    focus (refine S_seq rfl ?_; refine S_region rfl rfl ?_; (refine R_eff (E_boxa (cs := [.slice A n c]) rfl) ?_ rfl rfl; rintro _ _ ⟨b, rfl, rfl⟩); refine R_p rfl ?_ rfl rfl; refine R_nil ?_; refine S_seq rfl ?_; refine S_region rfl rfl ?_; refine R_p rfl ?_ rfl rfl; refine R_take (T_load rfl rfl rfl (by first | rfl | assumption)) ?_ rfl rfl; (refine R_eff (E_gv0 ⟨_, Try.func42, rfl, by kernel_rfl⟩ rfl (fun w' hS => confC_any w' A n c _ [] L badC ((Srd.old h (fun k _ => noOwns k)).rd w' hS) hn ⟨_, Try.func43, rfl, by kernel_rfl⟩ (fun w2 hk x hx => badC_any w2 x)) (fun _ => rfl)) ?_ rfl rfl; rintro _ _ ⟨_, rfl, _, rfl⟩; rw [hr]); refine R_p rfl ?_ rfl rfl; refine R_nil ?_; refine S_seq rfl ?_; refine S_seq rfl ?_; refine S_region rfl rfl ?_; refine R_p rfl ?_ rfl rfl; refine R_p rfl ?_ rfl rfl; refine R_skip ?_ rfl rfl; refine R_skip ?_ rfl rfl; refine R_skip ?_ rfl rfl; refine R_skip ?_ rfl rfl; refine R_skip ?_ rfl rfl; refine R_p rfl ?_ rfl rfl; refine R_nil ?_; refine S_true rfl rfl ?_; refine S_seq rfl ?_; refine S_region rfl rfl ?_; refine R_p rfl ?_ rfl rfl; refine R_nil ?_)
    refine hB _ _ _ _ _ rfl rfl fun w' hS => ⟨(), ?_, trivial, hS.sublist (List.nil_sublist _)⟩
    rw [hck]
    rfl
  · skip
    focus (refine S_seq rfl ?_; refine S_region rfl rfl ?_; (refine R_eff (E_boxa (cs := [.slice A n c]) rfl) ?_ rfl rfl; rintro _ _ ⟨b, rfl, rfl⟩); refine R_p rfl ?_ rfl rfl; refine R_nil ?_; refine S_seq rfl ?_; refine S_region rfl rfl ?_; refine R_p rfl ?_ rfl rfl; refine R_take (T_load rfl rfl rfl (by first | rfl | assumption)) ?_ rfl rfl; (refine R_eff (E_gv0 ⟨_, Try.func42, rfl, by kernel_rfl⟩ rfl (fun w' hS => confC_any w' A n c _ [] L badC ((Srd.old h (fun k _ => noOwns k)).rd w' hS) hn ⟨_, Try.func43, rfl, by kernel_rfl⟩ (fun w2 hk x hx => badC_any w2 x)) (fun _ => rfl)) ?_ rfl rfl; rintro _ _ ⟨_, rfl, _, rfl⟩; rw [hr]); refine R_p rfl ?_ rfl rfl; refine R_nil ?_; refine S_seq rfl ?_; refine S_seq rfl ?_; refine S_region rfl rfl ?_; refine R_p rfl ?_ rfl rfl; refine R_p rfl ?_ rfl rfl; refine R_p rfl ?_ rfl rfl; refine R_take (T_load rfl rfl rfl (by first | rfl | assumption)) ?_ rfl rfl; refine R_take (T_build2 rfl rfl (chc_built _ _ _)) ?_ rfl rfl; (refine R_eff (E_gv0 ⟨_, Try.func45, rfl, by kernel_rfl⟩ rfl (fun w' hS => risC_any w' A n c L ((Srd.old h (fun k _ => noOwns k)).rd w' hS) hn hp) (fun _ => rfl)) ?_ rfl rfl; rintro _ _ ⟨_, rfl, _, rfl⟩; rw [hq]); refine R_take (T_not rfl) ?_ rfl rfl; refine R_p rfl ?_ rfl rfl; refine R_nil ?_; refine S_true rfl rfl ?_; refine S_seq rfl ?_; refine S_region rfl rfl ?_; refine R_p rfl ?_ rfl rfl; refine R_nil ?_)
    refine hB _ _ _ _ _ rfl rfl fun w' hS => ⟨(), ?_, trivial, hS.sublist (List.nil_sublist _)⟩
    rw [hck]
    rfl
  · skip
    focus (refine S_seq rfl ?_; refine S_region rfl rfl ?_; (refine R_eff (E_boxa (cs := [.slice A n c]) rfl) ?_ rfl rfl; rintro _ _ ⟨b, rfl, rfl⟩); refine R_p rfl ?_ rfl rfl; refine R_nil ?_; refine S_seq rfl ?_; refine S_region rfl rfl ?_; refine R_p rfl ?_ rfl rfl; refine R_take (T_load rfl rfl rfl (by first | rfl | assumption)) ?_ rfl rfl; (refine R_eff (E_gv0 ⟨_, Try.func42, rfl, by kernel_rfl⟩ rfl (fun w' hS => confC_any w' A n c _ [] L badC ((Srd.old h (fun k _ => noOwns k)).rd w' hS) hn ⟨_, Try.func43, rfl, by kernel_rfl⟩ (fun w2 hk x hx => badC_any w2 x)) (fun _ => rfl)) ?_ rfl rfl; rintro _ _ ⟨_, rfl, _, rfl⟩; rw [hr]); refine R_p rfl ?_ rfl rfl; refine R_nil ?_; refine S_seq rfl ?_; refine S_seq rfl ?_; refine S_region rfl rfl ?_; refine R_p rfl ?_ rfl rfl; refine R_p rfl ?_ rfl rfl; refine R_p rfl ?_ rfl rfl; refine R_take (T_load rfl rfl rfl (by first | rfl | assumption)) ?_ rfl rfl; refine R_take (T_build2 rfl rfl (chc_built _ _ _)) ?_ rfl rfl; (refine R_eff (E_gv0 ⟨_, Try.func45, rfl, by kernel_rfl⟩ rfl (fun w' hS => risC_any w' A n c L ((Srd.old h (fun k _ => noOwns k)).rd w' hS) hn hp) (fun _ => rfl)) ?_ rfl rfl; rintro _ _ ⟨_, rfl, _, rfl⟩; rw [hq]); refine R_take (T_not rfl) ?_ rfl rfl; refine R_p rfl ?_ rfl rfl; refine R_nil ?_; refine S_false rfl rfl ?_; refine S_skip rfl ?_; refine S_seq rfl ?_; refine S_region rfl rfl ?_; refine R_p rfl ?_ rfl rfl; refine R_nil ?_)
    refine hB _ _ _ _ _ rfl rfl fun w' hS => ⟨(), ?_, trivial, hS.sublist (List.nil_sublist _)⟩
    rw [hck]
    rfl
end Go.Proofs.Ytebbnbddlnpldaa
