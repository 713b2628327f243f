/- Logs: the iterator over the places; find, has, Has, Term. -/
import Derived.Test.YtkdpfnaaopimoaaLg2
namespace Go.Proofs.Ytkdpfnaaopimoaa
open Go.RowKit
open Asn (pt row rb)
set_option linter.unusedVariables false
set_option linter.unusedSimpArgs false
--@use N

/-- the j-th place of a log; of 0 its base -/
def placeN (a : At) (l : List En) (j : Nat) : At := if j = 0 then a else (a.1 + j, (l.getD (j - 1) default).1)
def plcs (a : At) (l : List En) : List (List Value) := (List.range (l.length + 1)).map fun (j : Nat) => [.int .i64 (j : Int), .agg (atc (placeN a l j)).toArray]
theorem plcs_len (a : At) (l : List En) : (plcs a l).length = l.length + 1 := by simp [plcs]
theorem plcs_at (a : At) (l : List En) (j : Nat) (hj : j < l.length + 1) : (plcs a l).getD j [] = [.int .i64 (j : Int), .agg (atc (placeN a l j)).toArray] := by simp [plcs, List.getD, hj]
theorem placeN_at (a : At) (Q : List Em) (j : Nat) (hj : j < Q.length) {m : Em} (hm : Q.getD j default = m) : placeN a (Q.map emv) (j + 1) = (a.1 + (j + 1), m.1) := by
  subst hm
  unfold placeN
  rw [if_neg (by omega), Nat.add_sub_cancel]
  simp [List.getD, hj, emv]
set_option maxRecDepth 100000 in
set_option maxHeartbeats 4000000 in
theorem places_any (w : World) (a : At) (A : Option Addr) (n c : Nat) :
    Gives Try.prog 54 [.agg (lgc a A n c).toArray] [] w (X := Nat) (fun b => .func (.func 57) #[] [Value.pointer (some ⟨b, 0, none⟩)].toArray) (fun _ => True) (fun b => [pt b 27 (lgc a A n c)]) := by
  refine gives_S Try.func54 rfl Try.ntmps54 Try.results54 (by simp) (St.enter w) (fun B hB => ?_)
  focus (refine S_seq rfl ?_; refine S_region rfl rfl ?_; (refine R_eff (E_boxa (cs := lgc a A n c) rfl) ?_ rfl rfl; rintro _ _ ⟨b, rfl, rfl⟩); refine R_p rfl ?_ rfl rfl; refine R_nil ?_; refine S_seq rfl ?_; refine S_region rfl rfl ?_; refine R_take (T_func rfl rfl) ?_ rfl rfl; refine R_p rfl ?_ rfl rfl; refine R_nil ?_)
  exact hB _ _ _ _ _ rfl rfl fun w' hS => ⟨b, rfl, trivial, hS⟩
set_option maxRecDepth 100000 in
set_option maxHeartbeats 4000000 in
theorem places_iter (w : World) (F : Nat → Prop) (b : Nat) (a : At) (A : Option Addr) (c : Nat) (Q : List Em) (hb : Rd w F 1 (some ⟨b, 0, none⟩) 3 (lgc a A Q.length c)) (h : Rd w F 3 A Q.length (cellsL emc Q)) (hn : Q.length ≤ 100000) (hf : a.1 + Q.length ≤ 18446744073709551615) :
    Iter Try.prog 57 [.pointer (some ⟨b, 0, none⟩)] F (plcs a (Q.map emv)) w := by
  intro l X Z I S x0 h0 hS hFM hy
  refine gives_N2 Try.func57 rfl Try.ntmps57 Try.results57 (by simp) hS (fun B hE hB => ?_)
  have hlen : (plcs a (Q.map emv)).length = Q.length + 1 := by rw [plcs_len, List.length_map]
  have hget := fun j (hj : j < Q.length + 1) => plcs_at a (Q.map emv) j (by rw [List.length_map]; exact hj)
  have hpl := fun j hj m hm => placeN_at a Q j hj (m := m) hm
  rw [hlen] at hE hB hy
  have hp0 : placeN a (Q.map emv) 0 = a := rfl
  have hne : 0 < Q.length → A ≠ none := fun h0 => by obtain ⟨ad, rfl, _⟩ := h.2 (by omega); simp
  have hy0 := hy 0 x0
  rw [hget 0 (by omega), hp0] at hy0
  obtain ⟨i, t⟩ := a
  have hf : i + Q.length ≤ 18446744073709551615 := hf
  focus (refine S_seq rfl ?_; refine S_seq rfl ?_; refine S_region rfl rfl ?_; refine R_p rfl ?_ rfl rfl; refine R_p rfl ?_ rfl rfl; refine R_take (T_loadgs (F := F) (m := 3) (sz := 1) (xs := lgc (i, t) A Q.length c) (ds := atc (i, t)) rfl rfl rfl hb hFM rfl (by decide) rfl) ?_ rfl rfl; (refine R_eff (E_yield (A := Z x0) (Z := Z) (I1 := I 1) (S1 := S 0) (fun w' hS => hy0 w' h0 (by omega) (hS.sublist (by simp))) rfl rfl rfl) ?_ rfl rfl; rintro _ _ ⟨y, bb, rfl, hy1, hy2, rfl⟩; cases bb); refine R_take (T_not rfl) ?_ rfl rfl; refine R_nil ?_; refine S_true rfl rfl ?_; rotate_left; refine R_take (T_not rfl) ?_ rfl rfl; refine R_nil ?_; refine S_false rfl rfl ?_; refine S_skip rfl ?_; refine S_seq rfl ?_; refine S_region rfl rfl ?_; refine R_p rfl ?_ rfl rfl; refine R_take (T_loadg rfl rfl rfl hb hFM rfl) ?_ rfl rfl; refine R_p rfl ?_ rfl rfl; refine R_p rfl ?_ rfl rfl; refine R_nil ?_; refine S_block rfl ?_; rotate_left)
  · skip
    exact hB _ _ _ _ rfl fun w' hS => ⟨(y, some 0), ⟨by omega, hy2 rfl⟩, sub_st _ hS⟩
  have hy1 := hy1 rfl
  skip
  refine S_loop (X := Nat × X) (fun x => [(0, .func (.yield l) #[] #[]), (1, .pointer (some ⟨b, 0, none⟩)), (11, .slice A Q.length c), (12, .int .i64 (Q.length : Int)), (13, .int .i64 (x.1 : Int))]) (fun x => [Z x.2]) (fun x => x.1 ≤ Q.length ∧ I (x.1 + 1) x.2) (fun x => Q.length - x.1) rfl (0, y) ⟨Nat.zero_le _, hy1⟩ (Sub.cons rfl (Sub.cons rfl (Sub.cons rfl (Sub.cons rfl (Sub.cons rfl Sub.nil))))) sub_st ?_
  rintro ⟨j, x⟩ ⟨hj, hI⟩ J hJ
  dsimp only at hj hI ⊢
  rcases Nat.lt_or_ge j Q.length with hjl | hjl
  · have hne := hne (by omega)
    have hat := cellsL_at (f := emc) emc_len Q default j hjl
    obtain ⟨m, hm⟩ : ∃ m, Q.getD j default = m := ⟨_, rfl⟩
    rw [hm] at hat
    have hyj := hy (j + 1) x
    rw [hget (j + 1) (by omega), hpl j hjl m hm] at hyj
    focus (refine S_seq rfl ?_; refine S_region rfl rfl ?_; refine R_take (T_decT rfl (by omega)) ?_ rfl rfl; refine R_nil ?_; refine S_seq rfl ?_; refine S_true rfl rfl ?_; refine S_skip rfl ?_; refine S_seq rfl ?_; refine S_block rfl ?_; refine S_seq rfl ?_; refine S_region rfl rfl ?_; refine R_p rfl ?_ rfl rfl; refine R_take (T_ixM (sz := 3) rfl rfl rfl rfl rfl rfl hne hjl) ?_ rfl rfl; refine R_take (T_lda (ds := emc m) rfl rfl rfl (Srd.old h hFM) rfl (by omega) hat) ?_ rfl rfl; (refine R_eff (E_alloca rfl em_zero) ?_ rfl rfl; rintro _ _ ⟨b4, rfl, rfl⟩); refine R_p rfl ?_ rfl rfl; (refine R_eff0 (E_storew (cs := emc (0, 0, none, 0, [])) (ds := emc m) rfl rfl rfl rfl (emc_one _) rfl) ?_ rfl; rintro _ _ rfl); refine R_nil ?_; refine S_seq rfl ?_; refine S_region rfl rfl ?_; refine R_p rfl ?_ rfl rfl; refine R_p rfl ?_ rfl rfl; refine R_take (T_addN rfl rfl (by unfold fits; omega)) ?_ rfl rfl; refine R_p rfl ?_ rfl rfl; refine R_p rfl ?_ rfl rfl; refine R_take (T_loadg rfl rfl rfl hb hFM rfl) ?_ rfl rfl; refine R_p rfl ?_ rfl rfl; refine R_take (T_convf rfl rfl rfl rfl (by unfold fits; omega)) ?_ rfl rfl; refine R_take (T_addN rfl rfl (by unfold fits; omega)) ?_ rfl rfl; refine R_take (T_addN rfl rfl (by unfold fits; omega)) ?_ rfl rfl; refine R_p rfl ?_ rfl rfl; refine R_take (T_load rfl rfl rfl rfl) ?_ rfl rfl; refine R_take (T_build2 rfl rfl (at_built2 (i + j + 1) m.1)) ?_ rfl rfl; (refine R_eff (E_yield (A := Z x) (Z := Z) (I1 := I (j + 1 + 1)) (S1 := S (j + 1)) (fun w' hS => hyj w' hI (by omega) (hS.sublist (by simp))) rfl rfl rfl) ?_ rfl rfl; rintro _ _ ⟨y, bb, rfl, hy1, hy2, rfl⟩; cases bb); refine R_take (T_not rfl) ?_ rfl rfl; refine R_nil ?_; refine S_true rfl rfl ?_; rotate_left; refine R_take (T_not rfl) ?_ rfl rfl; refine R_nil ?_; refine S_false rfl rfl ?_; refine S_skip rfl ?_; refine RS_blk ?_; refine S_region rfl rfl ?_; refine R_take (T_addN rfl rfl (by unfold fits; omega)) ?_ rfl rfl; refine R_p rfl ?_ rfl rfl; refine R_nil ?_; rotate_left)
    · skip
      exact hB _ _ _ _ rfl fun w' hS => ⟨(y, some (j + 1)), ⟨by omega, hy2 rfl⟩, sub_st _ hS⟩
    · skip
      exact hJ (j + 1, y) _ _ ⟨by show j + 1 ≤ _; omega, hy1 rfl⟩ (Sub.cons rfl (Sub.cons rfl (Sub.cons rfl (Sub.cons rfl (Sub.cons rfl Sub.nil))))) sub_st (by dsimp only; omega)
  have hjn : j = Q.length := by omega
  subst hjn
  focus (refine S_seq rfl ?_; refine S_region rfl rfl ?_; refine R_take (T_decF rfl (by omega)) ?_ rfl rfl; refine R_nil ?_; refine S_seq rfl ?_; refine S_false rfl rfl ?_; refine S_exit rfl rfl ?_)
  first
    | exact hE _ _ fun w' hS => ⟨(x, none), hI, sub_st _ hS⟩
    | exact hB _ _ _ _ rfl fun w' hS => ⟨(x, none), hI, sub_st _ hS⟩
end Go.Proofs.Ytkdpfnaaopimoaa
