/- Digests: a digest goes by the beginning and the blocks. -/
import Derived.Test.YtemgfoakffappaaDoorShJ
namespace Go.Proofs.YtemgfoakffappaaDoor
open Go.RowKit Go.ChangeShapes Go.WideShapes Go.ChangeAt
open Asn (pt row rb)
set_option linter.unusedVariables false
set_option linter.unusedSimpArgs false
--@use N
section
variable {n : Nat} {w0 : World} {M : Nat → Prop} {T : Slots} {H Hr : List Asn} {dd : Option Tmp} {tt : TypeId} {pos : String} {af : Array Edge} {g : Option (Nat × Bool)} {x y z : Operand} {ts : Array TypeId}
theorem E_bytesEq {A1 A2 : Option Addr} {n1 c1 n2 c2 : Nat} (l : List UInt8) (hx : oget T x = some (.slice A1 n1 c1)) (hy : oget T y = some (.slice A2 n2 c2)) (h1 : Src w0 M H A1 n1 c1 l) (h2 : Src w0 M H A2 n2 c2 l) :
    Ef Tryd.prog n w0 M T H ⟨dd, .call ⟨.value (.func 45), #[x, y], ts⟩, tt, pos, af, g⟩ (fun u H' => u = .bool true ∧ H' = H) := by
  have h := E_g0 (P := Tryd.prog) (n := n) (w0 := w0) (M := M) (T := T) (H := H) (dd := dd) (ts := ts) (tt := tt) (pos := pos) (af := af) (g := g) (f := 45) (v := .bool (decide (l = l))) ⟨_, Tryd.func45, rfl, by kernel_rfl⟩ (xs := #[x, y]) (vs := [.slice A1 n1 c1, .slice A2 n2 c2]) (by simp [ogets, hx, hy]) fun w hS => (beq_equal w A1 A2 n1 c1 n2 c2 l l All All (h1.bs w hS) (h2.bs w hS)).mono fun e w' ⟨he, hw⟩ => ⟨he, hw ▸ Kp.refl _ _⟩
  rwa [decide_eq_true rfl] at h
end
set_option maxRecDepth 100000 in
set_option maxHeartbeats 4000000 in
theorem prefix_any (w : World) (A1 A2 : Option Addr) (n1 c1 n2 c2 : Nat) (l2 r : List UInt8) (h1 : Bs w All A1 n1 c1 (l2 ++ r)) (h2 : Bs w All A2 n2 c2 l2) :
    Gives Tryd.prog 29 [.slice A1 n1 c1, .slice A2 n2 c2] [] w (X := Unit) (fun x => .bool true) (fun _ => True) (fun x => []) := by
  refine gives_S Tryd.func29 rfl Tryd.ntmps29 Tryd.results29 (by simp) (St.enter w) (fun B hB => ?_)
  have e1 := h1.len
  have e2 := h2.len
  have e3 := h1.cap
  rw [List.length_append] at e1
  have h3 : Bs w All A1 n2 c1 l2 := by
    have := h1.head (k := n2) (by omega)
    rwa [List.take_append_of_le_length (by omega), List.take_of_length_le (by omega)] at this
  focus (refine S_seq rfl ?_; refine S_region rfl rfl ?_; refine R_p rfl ?_ rfl rfl; refine R_nil ?_; refine S_seq rfl ?_; refine S_region rfl rfl ?_; refine R_p rfl ?_ rfl rfl; refine R_p rfl ?_ rfl rfl; refine R_p rfl ?_ rfl rfl; refine R_p rfl ?_ rfl rfl; refine R_take (T_decT rfl (by omega)) ?_ rfl rfl; refine R_p rfl ?_ rfl rfl; refine R_p rfl ?_ rfl rfl; refine R_p rfl ?_ rfl rfl; refine R_p rfl ?_ rfl rfl; refine R_take (T_slh (q := n2) rfl rfl rfl rfl rfl (by omega)) ?_ rfl rfl; refine R_p rfl ?_ rfl rfl; (refine R_eff (E_bytesEq l2 rfl rfl (Src.old h3 fun k _ => noOwns k) (Src.old h2 fun k _ => noOwns k)) ?_ rfl rfl; rintro _ _ ⟨rfl, rfl⟩); refine R_p rfl ?_ rfl rfl; refine R_p rfl ?_ rfl rfl; refine R_nil ?_)
  exact hB _ _ _ _ _ rfl rfl fun w' hS => ⟨(), rfl, trivial, hS⟩
set_option maxRecDepth 100000 in
set_option maxHeartbeats 4000000 in
theorem suffix_any (w : World) (A1 A2 : Option Addr) (n1 c1 n2 c2 : Nat) (l2 r : List UInt8) (h1 : Bs w All A1 n1 c1 (r ++ l2)) (h2 : Bs w All A2 n2 c2 l2) (hn : n1 ≤ 1000000) :
    Gives Tryd.prog 30 [.slice A1 n1 c1, .slice A2 n2 c2] [] w (X := Unit) (fun x => .bool true) (fun _ => True) (fun x => []) := by
  refine gives_S Tryd.func30 rfl Tryd.ntmps30 Tryd.results30 (by simp) (St.enter w) (fun B hB => ?_)
  have e1 := h1.len
  have e2 := h2.len
  have e3 := h1.cap
  rw [List.length_append] at e1
  have h3 : Bs w All (cutP A1 c1 (n1 - n2) 1) (n1 - (n1 - n2)) (c1 - (n1 - n2)) l2 := by
    have := h1.cutP (k := n1 - n2) (by omega)
    rwa [List.drop_append_of_le_length (by omega), List.drop_eq_nil_of_le (by omega), List.nil_append] at this
  focus (refine S_seq rfl ?_; refine S_region rfl rfl ?_; refine R_p rfl ?_ rfl rfl; refine R_nil ?_; refine S_seq rfl ?_; refine S_region rfl rfl ?_; refine R_p rfl ?_ rfl rfl; refine R_p rfl ?_ rfl rfl; refine R_p rfl ?_ rfl rfl; refine R_p rfl ?_ rfl rfl; refine R_take (T_decT rfl (by omega)) ?_ rfl rfl; refine R_p rfl ?_ rfl rfl; refine R_p rfl ?_ rfl rfl; refine R_p rfl ?_ rfl rfl; refine R_p rfl ?_ rfl rfl; refine R_p rfl ?_ rfl rfl; refine R_p rfl ?_ rfl rfl; refine R_take (T_subN rfl rfl (by omega) (by unfold fits; omega)) ?_ rfl rfl; refine R_take (T_sll (q := n1 - n2) rfl rfl rfl rfl rfl (by omega) (by omega)) ?_ rfl rfl; refine R_p rfl ?_ rfl rfl; (refine R_eff (E_bytesEq l2 rfl rfl (Src.old h3 fun k _ => noOwns k) (Src.old h2 fun k _ => noOwns k)) ?_ rfl rfl; rintro _ _ ⟨rfl, rfl⟩); refine R_p rfl ?_ rfl rfl; refine R_p rfl ?_ rfl rfl; refine R_nil ?_)
  exact hB _ _ _ _ _ rfl rfl fun w' hS => ⟨(), rfl, trivial, hS⟩
section
variable {n : Nat} {w0 : World} {M : Nat → Prop} {T : Slots} {H Hr : List Asn} {dd : Option Tmp} {tt : TypeId} {pos : String} {af : Array Edge} {g : Option (Nat × Bool)} {x y z : Operand} {ts : Array TypeId}
theorem E_prefix {A1 A2 : Option Addr} {n1 c1 n2 c2 : Nat} {l1 : List UInt8} (l2 r : List UInt8) (hx : oget T x = some (.slice A1 n1 c1)) (hy : oget T y = some (.slice A2 n2 c2)) (h1 : Src w0 M H A1 n1 c1 l1) (h2 : Src w0 M H A2 n2 c2 l2) (hl : l1 = l2 ++ r) :
    Ef Tryd.prog n w0 M T H ⟨dd, .call ⟨.value (.func 29), #[x, y], ts⟩, tt, pos, af, g⟩ (fun u H' => u = .bool true ∧ H' = H) := by
  subst hl
  refine (E_gv ⟨_, Tryd.func29, rfl, by kernel_rfl⟩ (vs := [.slice A1 n1 c1, .slice A2 n2 c2]) (by simp [ogets, hx, hy]) fun w hS => prefix_any w A1 A2 n1 c1 n2 c2 l2 r (h1.bs w hS) (h2.bs w hS)).mono ?_
  rintro v H' ⟨_, rfl, _, rfl⟩ w hS
  exact ⟨_, _, rfl, ⟨rfl, rfl⟩, hS⟩
theorem E_suffix {A1 A2 : Option Addr} {n1 c1 n2 c2 : Nat} {l1 : List UInt8} (l2 r : List UInt8) (hx : oget T x = some (.slice A1 n1 c1)) (hy : oget T y = some (.slice A2 n2 c2)) (h1 : Src w0 M H A1 n1 c1 l1) (h2 : Src w0 M H A2 n2 c2 l2) (hl : l1 = r ++ l2) (hn : n1 ≤ 1000000) :
    Ef Tryd.prog n w0 M T H ⟨dd, .call ⟨.value (.func 30), #[x, y], ts⟩, tt, pos, af, g⟩ (fun u H' => u = .bool true ∧ H' = H) := by
  subst hl
  refine (E_gv ⟨_, Tryd.func30, rfl, by kernel_rfl⟩ (vs := [.slice A1 n1 c1, .slice A2 n2 c2]) (by simp [ogets, hx, hy]) fun w hS => suffix_any w A1 A2 n1 c1 n2 c2 l2 r (h1.bs w hS) (h2.bs w hS) hn).mono ?_
  rintro v H' ⟨_, rfl, _, rfl⟩ w hS
  exact ⟨_, _, rfl, ⟨rfl, rfl⟩, hS⟩
end
end Go.Proofs.YtemgfoakffappaaDoor
