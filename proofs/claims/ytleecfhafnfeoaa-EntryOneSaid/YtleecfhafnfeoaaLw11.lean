/- EntryEncodes. -/
import Derived.Test.YtleecfhafnfeoaaWk11
import Derived.Test.YtleecfhafnfeoaaOpC
namespace Go.Proofs.Ytleecfhafnfeoaa
open Go.RowKit
open Asn (pt row rb)
set_option linter.unusedVariables false
set_option linter.unusedSimpArgs false
section
variable {n : Nat} {w0 : World} {M : Nat → Prop} {T : Slots} {H Hr : List Asn} {dd : Option Tmp} {tt : TypeId} {pos : String} {af : Array Edge} {g : Option (Nat × Bool)} {x y : Operand} {ts : Array TypeId}
theorem E_wakes : Ef Try.prog n w0 M T H ⟨dd, .call ⟨.value (.func 7), #[], ts⟩, tt, pos, af, g⟩ (fun u H' => u = .bool true ∧ H' = H) := by
  refine (E_gv ⟨_, Try.func7, rfl, by kernel_rfl⟩ (vs := []) rfl fun w hS => wakes11 w).mono ?_
  rintro v H' ⟨_, rfl, _, rfl⟩ w hS
  exact ⟨_, _, rfl, ⟨rfl, rfl⟩, hS⟩
theorem E_same {A1 A2 : Option Addr} {n1 c1 n2 c2 : Nat} {l1 l2 : List UInt8} (hx : oget T x = some (.slice A1 n1 c1)) (hy : oget T y = some (.slice A2 n2 c2)) (h1 : Src w0 M H A1 n1 c1 l1) (h2 : Src w0 M H A2 n2 c2 l2) :
    Ef Try.prog n w0 M T H ⟨dd, .call ⟨.value (.func 12), #[x, y], ts⟩, tt, pos, af, g⟩ (fun u H' => u = .bool (decide (l1 = l2)) ∧ H' = H) :=
  E_g0 ⟨_, Try.func12, rfl, by kernel_rfl⟩ (vs := [.slice A1 n1 c1, .slice A2 n2 c2]) (by simp [ogets, hx, hy]) fun w hS => same_any w A1 A2 n1 c1 n2 c2 l1 l2 All All (h1.bs w hS) (h2.bs w hS)
theorem E_equal {A1 A2 : Option Addr} {n1 c1 n2 c2 : Nat} {l1 l2 : List UInt8} (hx : oget T x = some (.slice A1 n1 c1)) (hy : oget T y = some (.slice A2 n2 c2)) (h1 : Src w0 M H A1 n1 c1 l1) (h2 : Src w0 M H A2 n2 c2 l2) :
    Ef Try.prog n w0 M T H ⟨dd, .call ⟨.value (.func 17), #[x, y], ts⟩, tt, pos, af, g⟩ (fun u H' => u = .bool (decide (l1 = l2)) ∧ H' = H) :=
  E_g0 ⟨_, Try.func17, rfl, by kernel_rfl⟩ (vs := [.slice A1 n1 c1, .slice A2 n2 c2]) (by simp [ogets, hx, hy]) fun w hS => equal_kp w A1 A2 n1 c1 n2 c2 l1 l2 All All (h1.bs w hS) (h2.bs w hS)
end
theorem sameB_refl (k c : Int) (s : Nat) (br old new d : List UInt8) : sameB k c s br old new d k c s br old new d = true := by simp [sameB]

set_option maxRecDepth 100000 in
set_option maxHeartbeats 4000000 in
theorem encodes_walk (w : World) (k c : Int) (s : Nat) (br : ByteArray) (old new d : List UInt8) (A : Option Addr) (n cp : Nat) (lo : old.length = 32) (ln : new.length = 32) (hbm : br.size ≤ maxLen) (hsq : s < 4294967296) (hd : Bs w All A n cp d) :
    Gives Try.prog 3 [.agg (cmdL k c s br old new A n cp).toArray] [] w (X := Unit) (fun _ => .bool true) (fun _ => True) (fun _ => []) := by
  refine gives_S Try.func3 rfl Try.ntmps3 Try.results3 (by simp) (St.enter w) (fun B hB => ?_)
  have hcl := cmd_len (k := k) (c := c) (s := s) (br := br) (A := A) (n := n) (cp := cp) lo ln
  have h68 := cmd_68 (k := k) (c := c) (s := s) (br := br) (A := A) (n := n) (cp := cp) lo ln
  have hnm : n ≤ maxLen := Nat.le_trans hd.cap hd.capm
  have hD : ∀ H, Src w (owns []) H A n cp d := fun H => Src.old hd fun k _ => noOwns k
  cases hR : rightB k c s (bl br) old new n
  · repeat' (first | refine R_p rfl ?_ rfl rfl | refine R_nil ?_ | refine R_skip ?_ rfl rfl | refine R_skip0 ?_ rfl | refine R_take (T_loada (ds := cmdL k c s br old new A n cp) rfl rfl rfl hcl (fun j v h => by simpa using h)) ?_ rfl rfl | refine R_take (T_load rfl rfl rfl h68) ?_ rfl rfl | refine R_take (T_load rfl rfl rfl (by first | rfl | assumption)) ?_ rfl rfl | refine R_take (T_sum rfl rfl rfl (by unfold fits; omega)) ?_ rfl rfl | refine R_take (T_notd rfl) ?_ rfl rfl | refine R_take (T_not rfl) ?_ rfl rfl | refine R_take (T_ix1 rfl rfl rfl rfl rfl rfl (by assumption) (by first | assumption | omega)) ?_ rfl rfl | refine R_take (T_ldb rfl rfl rfl (by assumption) (by first | assumption | omega)) ?_ rfl rfl | refine R_take (T_ixs rfl rfl rfl rfl (by first | assumption | omega)) ?_ rfl rfl | refine R_take (T_convf rfl rfl rfl rfl (by unfold fits; omega)) ?_ rfl rfl | refine R_take (T_conv rfl rfl rfl rfl) ?_ rfl rfl | refine S_seq rfl ?_ | refine S_region rfl rfl ?_ | refine S_true rfl rfl ?_ | refine S_false rfl rfl ?_ | refine S_block rfl ?_ | refine RS_blk ?_ | refine S_exit rfl rfl ?_ | refine S_skip rfl ?_ | refine S_label rfl ?_ | refine S_scope rfl ?_ | refine RS_seg ?_ | (refine R_eff E_wakes ?_ rfl rfl; rintro _ _ ⟨rfl, rfl⟩) | (refine R_eff (E_esame rfl lo ln hbm (hD _) hnm rfl lo ln hbm (hD _) hnm) ?_ rfl rfl; rintro _ _ ⟨rfl, rfl⟩; rw [sameB_refl]) | (refine R_eff (E_enc rfl lo ln hbm (hD _) hnm hsq) ?_ rfl rfl; rintro _ _ ⟨A1, n1, c1, hn1, _, rfl, rfl⟩; simp only [encR, hR, Bool.false_eq_true, if_false, if_true] at hn1 ⊢) | (refine R_eff (E_right rfl lo ln hbm hnm) ?_ rfl rfl; rintro _ _ ⟨rfl, rfl⟩; simp only [hR]) | (refine R_eff (E_check rfl lo ln hbm hnm) ?_ rfl rfl; rintro _ _ ⟨rfl, rfl⟩; simp only [hR, Bool.false_eq_true, if_false, if_true]) | (refine R_eff (E_bytes rfl lo ln (hD _) hsq hR) ?_ rfl rfl; rintro _ _ ⟨A2, n2, c2, hn2, rfl, rfl⟩) | (refine R_eff (E_same rfl rfl Src.row Src.row) ?_ rfl rfl; rintro _ _ ⟨rfl, rfl⟩) | (refine R_eff (E_boxa rfl) ?_ rfl rfl; rintro _ _ ⟨b, rfl, rfl⟩) | (refine R_eff (E_box1 rfl rfl) ?_ rfl rfl; rintro _ _ ⟨b, rfl, rfl⟩) | (refine R_eff (E_alloc1 rfl rfl rfl) ?_ rfl rfl; rintro _ _ ⟨b, rfl, rfl⟩) | (refine R_eff (E_alloca rfl rfl) ?_ rfl rfl; rintro _ _ ⟨b, rfl, rfl⟩) | (refine R_eff0 (E_store1 rfl rfl rfl rfl rfl rfl (by first | decide | (simp; done) | (simp; omega) | assumption)) ?_ rfl; rintro _ _ rfl) | (refine R_splitd rfl rfl (fun hs => ?_) (fun hs => ?_)) | (refine R_split rfl rfl (fun hs => ?_) (fun hs => ?_)) | (refine S_if rfl rfl (fun hs => ?_) (fun hs => ?_)) | (refine S_cond rfl rfl (fun hs => ?_) (fun hs => ?_)))
    all_goals (refine hB _ _ _ _ _ rfl rfl fun w' hS => ⟨(), ?_, trivial, hS.sublist (List.nil_sublist _)⟩)
    all_goals (refine congrArg Value.bool ?_; clear hB hD)
    all_goals (first | rfl | (simp [*]; done) | (exfalso; simp_all; done) | skip)
  · repeat' (first | refine R_p rfl ?_ rfl rfl | refine R_nil ?_ | refine R_skip ?_ rfl rfl | refine R_skip0 ?_ rfl | refine R_take (T_loada (ds := cmdL k c s br old new A n cp) rfl rfl rfl hcl (fun j v h => by simpa using h)) ?_ rfl rfl | refine R_take (T_load rfl rfl rfl h68) ?_ rfl rfl | refine R_take (T_load rfl rfl rfl (by first | rfl | assumption)) ?_ rfl rfl | refine R_take (T_sum rfl rfl rfl (by unfold fits; omega)) ?_ rfl rfl | refine R_take (T_notd rfl) ?_ rfl rfl | refine R_take (T_not rfl) ?_ rfl rfl | refine R_take (T_ix1 rfl rfl rfl rfl rfl rfl (by assumption) (by first | assumption | omega)) ?_ rfl rfl | refine R_take (T_ldb rfl rfl rfl (by assumption) (by first | assumption | omega)) ?_ rfl rfl | refine R_take (T_ixs rfl rfl rfl rfl (by first | assumption | omega)) ?_ rfl rfl | refine R_take (T_convf rfl rfl rfl rfl (by unfold fits; omega)) ?_ rfl rfl | refine R_take (T_conv rfl rfl rfl rfl) ?_ rfl rfl | refine S_seq rfl ?_ | refine S_region rfl rfl ?_ | refine S_true rfl rfl ?_ | refine S_false rfl rfl ?_ | refine S_block rfl ?_ | refine RS_blk ?_ | refine S_exit rfl rfl ?_ | refine S_skip rfl ?_ | refine S_label rfl ?_ | refine S_scope rfl ?_ | refine RS_seg ?_ | (refine R_eff E_wakes ?_ rfl rfl; rintro _ _ ⟨rfl, rfl⟩) | (refine R_eff (E_esame rfl lo ln hbm (hD _) hnm rfl lo ln hbm (hD _) hnm) ?_ rfl rfl; rintro _ _ ⟨rfl, rfl⟩; rw [sameB_refl]) | (refine R_eff (E_enc rfl lo ln hbm (hD _) hnm hsq) ?_ rfl rfl; rintro _ _ ⟨A1, n1, c1, hn1, _, rfl, rfl⟩; simp only [encR, hR, Bool.false_eq_true, if_false, if_true] at hn1 ⊢) | (refine R_eff (E_right rfl lo ln hbm hnm) ?_ rfl rfl; rintro _ _ ⟨rfl, rfl⟩; simp only [hR]) | (refine R_eff (E_check rfl lo ln hbm hnm) ?_ rfl rfl; rintro _ _ ⟨rfl, rfl⟩; simp only [hR, Bool.false_eq_true, if_false, if_true]) | (refine R_eff (E_bytes rfl lo ln (hD _) hsq hR) ?_ rfl rfl; rintro _ _ ⟨A2, n2, c2, hn2, rfl, rfl⟩) | (refine R_eff (E_same rfl rfl Src.row Src.row) ?_ rfl rfl; rintro _ _ ⟨rfl, rfl⟩) | (refine R_eff (E_boxa rfl) ?_ rfl rfl; rintro _ _ ⟨b, rfl, rfl⟩) | (refine R_eff (E_box1 rfl rfl) ?_ rfl rfl; rintro _ _ ⟨b, rfl, rfl⟩) | (refine R_eff (E_alloc1 rfl rfl rfl) ?_ rfl rfl; rintro _ _ ⟨b, rfl, rfl⟩) | (refine R_eff (E_alloca rfl rfl) ?_ rfl rfl; rintro _ _ ⟨b, rfl, rfl⟩) | (refine R_eff0 (E_store1 rfl rfl rfl rfl rfl rfl (by first | decide | (simp; done) | (simp; omega) | assumption)) ?_ rfl; rintro _ _ rfl) | (refine R_splitd rfl rfl (fun hs => ?_) (fun hs => ?_)) | (refine R_split rfl rfl (fun hs => ?_) (fun hs => ?_)) | (refine S_if rfl rfl (fun hs => ?_) (fun hs => ?_)) | (refine S_cond rfl rfl (fun hs => ?_) (fun hs => ?_)))
    all_goals (refine hB _ _ _ _ _ rfl rfl fun w' hS => ⟨(), ?_, trivial, hS.sublist (List.nil_sublist _)⟩)
    all_goals (refine congrArg Value.bool ?_; clear hB hD)
    all_goals (first | rfl | (simp [*]; done) | (exfalso; simp_all; done) | skip)
theorem Gives.pure {P : Program} {f : FuncId} {vs : List Value} {w : World} {v : Value} {I : Unit → Prop} {A : Unit → List Asn} (h : Gives P f vs [] w (fun _ => v) I A) : Calls P f vs.toArray w fun e w' => e = .returned v ∧ Kp All w w' :=
  h.mono fun e w' ⟨_, he, _, hS⟩ => ⟨he, hS.kpO⟩
theorem EntryEncodes_open {H : Type} {enc : TypeId × Value → H} (W : World) {r : Reach} (base : Nat) (v0 : Value) {d0 : DataW H} {p0 : List MemPlace}
    (hv0 : Value.okWide Try.prog W r base 27 v0) (h0 : DataW.Trod enc Try.prog W 0 (fun _ => true) true 27 v0 d0 p0) :
    Calls Try.prog 3 #[v0] W fun e w' => e = .returned (.bool true) ∧ Kp All W w' := by
  obtain ⟨k, c, s, br, old, new, A, n, cp, l, rfl, lo, ln, hb, hs, hd⟩ := open_cmd hv0 h0
  exact (encodes_walk W k c s br old new l A n cp lo ln hb hs hd).pure
end Go.Proofs.Ytleecfhafnfeoaa
