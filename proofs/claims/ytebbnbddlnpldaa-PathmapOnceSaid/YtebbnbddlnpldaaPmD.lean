/- wakes. -/
import Derived.Test.YtebbnbddlnpldaaPmC
namespace Go.Proofs.Ytebbnbddlnpldaa
open Go.RowKit
open Asn (pt row rb)
set_option linter.unusedVariables false
set_option linter.unusedSimpArgs false
--@use N

theorem eqv_sv (a b : Str) : eqVal (sv a) (sv b) = decide (a = b) := by
  simp only [eqVal, sv, Lib.toList_data]
  rw [Bool.eq_iff_iff]
  simp
section
variable {n : Nat} {w0 : World} {M : Nat → Prop} {T : Slots} {H : List Asn} {dd : Option Tmp} {tt : TypeId} {pos : String} {af : Array Edge} {g : Option (Nat × Bool)} {x y : Operand}
theorem T_eqRw {u : TypeId} {a b : Rw} {r : Bool} (hx : oget T x = some (.agg (rwc a).toArray)) (hy : oget T y = some (.agg (rwc b).toArray)) (hr : decide (a = b) = r) :
    Tk Try.prog n w0 M T H ⟨dd, .binOp .eql 56 x y u, tt, pos, af, g⟩ (.bool (r)) := by
  refine T_eqS (r := r) hx hy (s := 56) (i := ti56) rfl rfl (by kernel_rfl) (by kernel_rfl) rfl ?_
  subst hr
  obtain ⟨a1, a2⟩ := a
  obtain ⟨b1, b2⟩ := b
  show (eqVal (sv a1) (sv b1) && (eqVal (sv a2) (sv b2) && true)) = _
  rw [eqv_sv, eqv_sv, Bool.and_true, Bool.eq_iff_iff]
  simp
theorem T_eqCh {u : TypeId} {a b : Ch} {r : Bool} (hx : oget T x = some (.agg (chc a).toArray)) (hy : oget T y = some (.agg (chc b).toArray)) (hr : decide (a = b) = r) :
    Tk Try.prog n w0 M T H ⟨dd, .binOp .eql 42 x y u, tt, pos, af, g⟩ (.bool (r)) := by
  refine T_eqS (r := r) hx hy (s := 42) (i := ti42) rfl rfl (by kernel_rfl) (by kernel_rfl) rfl ?_
  subst hr
  obtain ⟨a1, a2, a3⟩ := a
  obtain ⟨b1, b2, b3⟩ := b
  show (eqVal (sv a1) (sv b1) && ((a2 == b2) && (eqVal (sv a3) (sv b3) && true))) = _
  rw [eqv_sv, eqv_sv, Bool.and_true, Bool.eq_iff_iff]
  simp
theorem T_neRw {u : TypeId} {a b : Rw} {r : Bool} (hx : oget T x = some (.agg (rwc a).toArray)) (hy : oget T y = some (.agg (rwc b).toArray)) (hr : decide (a = b) = r) :
    Tk Try.prog n w0 M T H ⟨dd, .binOp .neq 56 x y u, tt, pos, af, g⟩ (.bool (!r)) := by
  refine T_neS (r := r) hx hy (s := 56) (i := ti56) rfl rfl (by kernel_rfl) (by kernel_rfl) rfl ?_
  subst hr
  obtain ⟨a1, a2⟩ := a
  obtain ⟨b1, b2⟩ := b
  show (eqVal (sv a1) (sv b1) && (eqVal (sv a2) (sv b2) && true)) = _
  rw [eqv_sv, eqv_sv, Bool.and_true, Bool.eq_iff_iff]
  simp
theorem T_neCh {u : TypeId} {a b : Ch} {r : Bool} (hx : oget T x = some (.agg (chc a).toArray)) (hy : oget T y = some (.agg (chc b).toArray)) (hr : decide (a = b) = r) :
    Tk Try.prog n w0 M T H ⟨dd, .binOp .neq 42 x y u, tt, pos, af, g⟩ (.bool (!r)) := by
  refine T_neS (r := r) hx hy (s := 42) (i := ti42) rfl rfl (by kernel_rfl) (by kernel_rfl) rfl ?_
  subst hr
  obtain ⟨a1, a2, a3⟩ := a
  obtain ⟨b1, b2, b3⟩ := b
  show (eqVal (sv a1) (sv b1) && ((a2 == b2) && (eqVal (sv a3) (sv b3) && true))) = _
  rw [eqv_sv, eqv_sv, Bool.and_true, Bool.eq_iff_iff]
  simp
end
def wkL : List Rw := [([97], [49]), ([98], [50])]
def wkC : List Ch := [([98], false, []), ([99], true, [51])]
theorem wk_R : appR wkL wkC = [([97], [49]), ([99], [51])] := by kernel_rfl
theorem wk_E : appE wkL wkC = 0 := by kernel_rfl
set_option maxRecDepth 100000 in
set_option maxHeartbeats 4000000 in
theorem wakes_any (w : World) :
    Gives Try.prog 9 [] [] w (X := Unit) (fun _ => .bool true) (fun _ => True) (fun _ => []) := by
  refine gives_S Try.func9 rfl Try.ntmps9 Try.results9 (by simp) (St.enter w) (fun B hB => ?_)
  have hat := fun e v => cellsL_at (f := rwc) rwc_len [([97], [49]), ([99], [51])] default 1 (by decide) e v
  have hq : (1 : Nat) < 2 := by omega
  focus (refine S_seq rfl ?_; refine S_region rfl rfl ?_; refine R_p rfl ?_ rfl rfl; refine R_nil ?_; refine S_seq rfl ?_; refine S_region rfl rfl ?_; refine R_take (T_build2 rfl rfl (rw_built2 [97] [49])) ?_ rfl rfl; refine R_take (T_build2 rfl rfl (rw_built2 [98] [50])) ?_ rfl rfl; (refine R_eff (E_litS (vs := [.agg (rwc ([97], [49])).toArray, .agg (rwc ([98], [50])).toArray]) (size := 2) (ds := cellsL rwc wkL) rfl rfl rfl rfl rfl rfl (by simp [vcells, rwc]) rfl (by omega)) ?_ rfl rfl; rintro _ _ ⟨ba, rfl, rfl⟩); refine R_take (T_build1 rfl (mp_built1 _ _ _)) ?_ rfl rfl; refine R_take (T_build1 rfl (ch_built1 [98])) ?_ rfl rfl; refine R_take (T_build3 rfl rfl rfl (ch_built3 [99] [51] true)) ?_ rfl rfl; (refine R_eff (E_litS (vs := [.agg (chc ([98], false, [])).toArray, .agg (chc ([99], true, [51])).toArray]) (size := 3) (ds := cellsL chc wkC) rfl rfl rfl rfl rfl rfl (by simp [vcells, chc]) rfl (by omega)) ?_ rfl rfl; rintro _ _ ⟨bb, rfl, rfl⟩); refine R_take (T_build1 rfl (mp_built1 _ _ _)) ?_ rfl rfl; (refine R_eff (E_applyW (L := wkL) (C := wkC) (k := 2) (R := [([97], [49]), ([99], [51])]) (e := 0) (m := 2) (c := 2) (m2 := 2) (c2 := 2) (A := some ⟨ba, 0, none⟩) (A2 := some ⟨bb, 0, none⟩) rfl rfl (Srd.pt (g := ba) (n := 2) (ds := cellsL rwc wkL) rfl (fun j u hj => by rw [Nat.zero_add]; exact hj)) (Srd.pt (g := bb) (n := 2) (ds := cellsL chc wkC) rfl (fun j u hj => by rw [Nat.zero_add]; exact hj)) (by omega) (by omega) (by simp [wkL]) (by simp [wkC]) wk_R wk_E rfl) ?_ rfl rfl; rintro _ _ ⟨A', c', rfl, hne, rfl⟩); refine R_p rfl ?_ rfl rfl; refine R_p rfl ?_ rfl rfl; refine R_p rfl ?_ rfl rfl; (refine R_eff (E_alloca rfl mp_alloc) ?_ rfl rfl; rintro _ _ ⟨b1, rfl, rfl⟩); (refine R_eff0 (E_storew (ds := [.slice A' 2 c']) (cs := [.slice none 0 0]) rfl rfl rfl rfl (sl_one _ _ _) rfl) ?_ rfl; rintro _ _ rfl); refine R_p rfl ?_ rfl rfl; refine R_nil ?_; refine S_seq rfl ?_; refine S_region rfl rfl ?_; refine R_p rfl ?_ rfl rfl; refine R_take (T_decT rfl (by omega)) ?_ rfl rfl; refine R_p rfl ?_ rfl rfl; refine R_p rfl ?_ rfl rfl; refine R_take (T_load rfl rfl rfl (by first | rfl | assumption)) ?_ rfl rfl; refine R_p rfl ?_ rfl rfl; refine R_take (T_decT rfl (by omega)) ?_ rfl rfl; refine R_p rfl ?_ rfl rfl; refine R_p rfl ?_ rfl rfl; refine R_p rfl ?_ rfl rfl; refine R_take (T_load rfl rfl rfl (by first | rfl | assumption)) ?_ rfl rfl; refine R_take (T_ixM (sz := 2) (q := 1) rfl rfl rfl rfl rfl rfl (hne (by omega)) hq) ?_ rfl rfl; refine R_take (T_lda (ds := rwc ([99], [51])) rfl rfl rfl (Srd.row (n := 2) (c := c')) rfl (by omega) hat) ?_ rfl rfl; refine R_take (T_build2 rfl rfl (rw_built2 [99] [51])) ?_ rfl rfl; refine R_take (T_eqRw (a := ([99], [51])) (b := ([99], [51])) (r := true) rfl rfl rfl) ?_ rfl rfl; refine R_p rfl ?_ rfl rfl; refine R_p rfl ?_ rfl rfl; refine R_nil ?_)
  exact hB _ _ _ _ _ rfl rfl fun w' hS => ⟨(), rfl, trivial, hS.sublist (List.nil_sublist _)⟩
end Go.Proofs.Ytebbnbddlnpldaa
