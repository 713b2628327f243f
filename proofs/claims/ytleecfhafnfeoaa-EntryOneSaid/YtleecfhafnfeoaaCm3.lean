/- The document's Right. -/
import Derived.Test.YtleecfhafnfeoaaTab
import Derived.Test.YtleecfhafnfeoaaRkP
import Derived.Test.YtleecfhafnfeoaaCmd
namespace Go.Proofs.Ytleecfhafnfeoaa
open Go.RowKit
set_option linter.unusedVariables false
set_option linter.unusedSimpArgs false

/-- the cells of a command -/
def cmdL (k c : Int) (s : Nat) (br : ByteArray) (old new : List UInt8) (A : Option Addr) (n cp : Nat) : List Value :=
  [.int .i64 k, .int .i64 c, .int .u32 s, .string br] ++ old.map bv ++ new.map bv ++ [.slice A n cp]
section
variable {k c : Int} {s : Nat} {br : ByteArray} {old new : List UInt8} {A : Option Addr} {n cp : Nat}
theorem cmd_68 (lo : old.length = 32) (ln : new.length = 32) : (cmdL k c s br old new A n cp)[68]? = some (.slice A n cp) := by
  unfold cmdL
  rw [List.getElem?_append_right (by simp [lo, ln])]
  simp [lo, ln]
theorem cmd_old (lo : old.length = 32) : ∀ j v, (old.map bv)[j]? = some v → (cmdL k c s br old new A n cp)[4 + j]? = some v := by
  intro j v hj
  have hlt := (List.getElem?_eq_some_iff.1 hj).1
  simp at hlt
  unfold cmdL
  rw [List.append_assoc, List.append_assoc, List.getElem?_append_right (by simp), List.getElem?_append_left (by simp; omega)]
  simpa using hj
theorem cmd_new (lo : old.length = 32) : ∀ j v, (new.map bv)[j]? = some v → (cmdL k c s br old new A n cp)[36 + j]? = some v := by
  intro j v hj
  have hlt := (List.getElem?_eq_some_iff.1 hj).1
  simp at hlt
  unfold cmdL
  rw [List.append_assoc, List.getElem?_append_right (by simp [lo] <;> omega), List.getElem?_append_left (by simp [lo] <;> omega)]
  simpa [lo] using hj
theorem cmd_len (lo : old.length = 32) (ln : new.length = 32) : (cmdL k c s br old new A n cp).length = 69 := by simp [cmdL, lo, ln]
theorem cmd_cd (lo : old.length = 32) (ln : new.length = 32) (hb : br.size ≤ maxLen) (hn : n ≤ maxLen) : Cd (cmdL k c s br old new A n cp).toArray k c s br old new A n cp :=
  ⟨rfl, rfl, rfl, rfl, by simpa using cmd_68 lo ln, by simp [cmd_len lo ln], lo, ln, fun j v h => by simpa using cmd_old lo j v h, fun j v h => by simpa using cmd_new lo j v h, hb, hn⟩
end
theorem T_eqid {n : Nat} {w0 : World} {M : Nat → Prop} {T : Slots} {H : List Asn} {dd : Option Tmp} {tt : TypeId} {pos : String} {af : Array Edge} {g : Option (Nat × Bool)} {x y : Operand} {u : TypeId} {l1 l2 : List UInt8}
    (hx : oget T x = some (.agg (l1.map bv).toArray)) (hy : oget T y = some (.agg (l2.map bv).toArray)) (h1 : l1.length = 32) (h2 : l2.length = 32) :
    Tk Try.prog n w0 M T H ⟨dd, .binOp .eql 24 x y u, tt, pos, af, g⟩ (.bool (decide (l1 = l2))) := .mk fun a w ha hS => by
  have h := run_eq_id w l1 l2 h1 h2
  have hg : (Program.eqGuardType Try.prog (Program.depth Try.prog) 24) = false := by kernel_rfl
  have h3 : (Op.equal 24 (.agg (l1.map bv).toArray) (.agg (l2.map bv).toArray)).run Try.prog w = .ok (decide (l1 = l2)) w := h
  simp [execOp, ha.eval hx, ha.eval hy, eqGuard, hg, binOp, h3]
theorem all_bad {l : List UInt8} {j : Nat} (hj : j < l.length) (hb : good (l.getD j 0) = false) : l.all good = false := by
  simp [List.getD, hj] at hb
  rw [← Bool.not_eq_true, List.all_eq_true]
  intro h
  have := h l[j] (List.getElem_mem hj)
  rw [hb] at this
  cases this
theorem all_next {l : List UInt8} {j : Nat} (h : (l.take j).all good = true) (hj : j < l.length) (hb : good (l.getD j 0) = true) : (l.take (j + 1)).all good = true := by
  rw [List.take_succ_eq_append_getElem hj, List.all_append, h]
  rw [List.getD_eq_getElem?_getD, List.getElem?_eq_getElem hj] at hb
  simpa using hb
theorem id_zero : Try.prog.built 24 [] = some (zero32.map bv).toArray := by kernel_rfl
theorem id_alloc : ti24.zero = .agg (zero32.map bv).toArray := by kernel_rfl

set_option maxRecDepth 100000 in
set_option maxHeartbeats 4000000 in
theorem ref_right (w : World) (k c : Int) (s : Nat) (br : ByteArray) (old new : List UInt8) (A : Option Addr) (n cp : Nat) (lo : old.length = 32) (ln : new.length = 32) (hbm : br.size ≤ maxLen) (hnm : n ≤ maxLen) :
    Gives Try.prog 10 [.agg (cmdL k c s br old new A n cp).toArray] [] w (X := Unit) (fun _ => .bool (rightB k c s br.data.toList old new n)) (fun _ => True) (fun _ => []) := by
  refine gives_S Try.func10 rfl Try.ntmps10 Try.results10 (by simp) (St.enter w) (fun B hB => ?_)
  have h68 := cmd_68 (k := k) (c := c) (s := s) (br := br) (A := A) (n := n) (cp := cp) lo ln
  have ho := cmd_old (k := k) (c := c) (s := s) (br := br) (new := new) (A := A) (n := n) (cp := cp) lo
  have hn := cmd_new (k := k) (c := c) (s := s) (br := br) (new := new) (A := A) (n := n) (cp := cp) lo
  have lo2 : (old.map bv).length = 32 := by simpa using lo
  have ln2 : (new.map bv).length = 32 := by simpa using ln
  have hz : ∀ j v, (zero32.map bv)[j]? = some v → (zero32.map bv)[0 + j]? = some v := fun j v h => by simpa using h
  have lz := zero32_len
  unfold maxLen at hbm hnm
  repeat' (first | refine R_p rfl ?_ rfl rfl | refine R_nil ?_ | refine R_skip ?_ rfl rfl | refine R_skip0 ?_ rfl | refine R_take (T_eqid rfl rfl (by assumption) (by assumption)) ?_ rfl rfl | refine R_take (T_build0 id_zero) ?_ rfl rfl | refine R_take (T_loada (ds := old.map bv) rfl rfl rfl lo2 ho) ?_ rfl rfl | refine R_take (T_loada (ds := new.map bv) rfl rfl rfl ln2 hn) ?_ rfl rfl | refine R_take (T_loada (ds := zero32.map bv) rfl rfl rfl rfl hz) ?_ rfl rfl | refine R_take (T_load rfl rfl rfl (by first | rfl | assumption)) ?_ rfl rfl | refine R_take (T_sum rfl rfl rfl (by unfold fits; omega)) ?_ rfl rfl | refine R_take (T_notd rfl) ?_ rfl rfl | refine R_take (T_not rfl) ?_ rfl rfl | refine R_take (T_ix1 rfl rfl rfl rfl rfl rfl (by assumption) (by first | assumption | omega)) ?_ rfl rfl | refine R_take (T_ldb rfl rfl rfl (by assumption) (by first | assumption | omega)) ?_ rfl rfl | refine R_take (T_ixs rfl rfl rfl rfl (by first | assumption | omega)) ?_ rfl rfl | refine R_take (T_convf rfl rfl rfl rfl (by unfold fits; omega)) ?_ rfl rfl | refine R_take (T_conv rfl rfl rfl rfl) ?_ rfl rfl | refine S_seq rfl ?_ | refine S_region rfl rfl ?_ | refine S_true rfl rfl ?_ | refine S_false rfl rfl ?_ | refine S_block rfl ?_ | refine RS_blk ?_ | refine S_exit rfl rfl ?_ | refine S_skip rfl ?_ | refine S_label rfl ?_ | refine S_scope rfl ?_ | refine RS_seg ?_ | (refine R_eff (E_boxa rfl) ?_ rfl rfl; rintro _ _ ⟨bc, rfl, rfl⟩) | (refine R_eff (E_alloca rfl id_alloc) ?_ rfl rfl; rintro _ _ ⟨bz, rfl, rfl⟩) | (refine R_eff0 (E_store (ds := zero32.map bv) rfl rfl rfl rfl rfl (bv_one _) rfl (by decide)) ?_ rfl; rintro _ _ rfl) | (refine R_eff (E_boxa rfl) ?_ rfl rfl; rintro _ _ ⟨b, rfl, rfl⟩) | (refine R_eff (E_box1 rfl rfl) ?_ rfl rfl; rintro _ _ ⟨b, rfl, rfl⟩) | (refine R_eff (E_alloc1 rfl rfl rfl) ?_ rfl rfl; rintro _ _ ⟨b, rfl, rfl⟩) | (refine R_eff (E_alloca rfl rfl) ?_ rfl rfl; rintro _ _ ⟨b, rfl, rfl⟩) | (refine R_eff0 (E_store1 rfl rfl rfl rfl rfl rfl (by first | decide | (simp; done) | (simp; omega) | assumption)) ?_ rfl; rintro _ _ rfl) | (refine R_splitd rfl rfl (fun hs => ?_) (fun hs => ?_)) | (refine R_split rfl rfl (fun hs => ?_) (fun hs => ?_)) | (refine S_if rfl rfl (fun hs => ?_) (fun hs => ?_)) | (refine S_cond rfl rfl (fun hs => ?_) (fun hs => ?_)))
  any_goals (refine hB _ _ _ _ _ rfl rfl fun w' hS => ⟨(), ?_, trivial, hS.sublist (List.nil_sublist _)⟩)
  any_goals (refine congrArg Value.bool ?_; clear hB ho hn hz h68 lo2 ln2 lz lo ln; rw [Bool.eq_iff_iff]; (try simp only [show bl ⟨#[]⟩ = [] from rfl, bl] at *); first | (simp [rightB, baseB, idsB, restB, nameB, *]; done) | (simp [rightB, baseB, idsB, restB, nameB, *]; omega) | (simp [rightB, baseB, idsB, restB, nameB]; omega))
  have hk4 : ¬ k = 4 := by assumption
  have hb1 : ¬ (br.size : Int) < 1 := by assumption
  have hb2 : ¬ (24 : Int) < (br.size : Int) := by assumption
  have hn0 : ¬ (0 : Int) < (n : Int) := by assumption
  have hk1 : ¬ k < 1 := by assumption
  have hk5 : ¬ 4 < k := by assumption
  have hc1 : ¬ c < 1 := by assumption
  have hc3 : ¬ 3 < c := by assumption
  have hs0 : ¬ (s : Int) = 0 := by assumption
  have hR : rightB k c s br.data.toList old new n = ((decide (k = 2) || decide (old = zero32)) && (decide (¬ k = 1) || decide (new = zero32)) && br.data.toList.all good) := by
    rw [Bool.eq_iff_iff]
    clear hB ho hn hz h68 lo2 ln2 lz lo ln
    have h0 : n = 0 := by omega
    subst h0
    have e1 : baseB k c s = true := by simp [baseB]; omega
    have e2 : decide (1 ≤ br.data.toList.length) = true := by simp; omega
    have e3 : decide (br.data.toList.length ≤ 24) = true := by simp; omega
    have e4 : restB k br.data.toList 0 = br.data.toList.all good := by simp only [restB, if_neg hk4, nameB, e2, e3, Bool.and_true, decide_true]
    simp only [rightB, e1, e4, idsB, Bool.true_and, Bool.and_eq_true, Bool.or_eq_true, decide_eq_true_eq]
    constructor
    · rintro ⟨⟨h1, h2⟩, h3⟩
      refine ⟨⟨h1, ?_⟩, h3⟩
      rcases h2 with (h2 | h2) | h2
      · exact .inl (by omega)
      · exact .inl (by omega)
      · exact .inr h2
    · rintro ⟨⟨h1, h2⟩, h3⟩
      refine ⟨⟨h1, ?_⟩, h3⟩
      rcases h2 with h2 | h2
      · exact .inl (by omega)
      · exact .inr h2
  rw [hR] at hB
  clear hR
  refine S_loop (X := Nat) (fun j => [(1, .pointer (some ⟨bc, 0, none⟩)), (3, .pointer (some ⟨bz, 0, none⟩)), (4, .int .i64 (j : Int))]) (fun _ => _) (fun j => j ≤ br.size ∧ (br.data.toList.take j).all good = true) (fun j => br.size - j) rfl 0 ⟨Nat.zero_le _, by simp⟩ (Sub.cons rfl (Sub.cons rfl (Sub.cons rfl Sub.nil))) (fun _ h => h) ?_
  rintro j ⟨hj, hall⟩ J hJ
  repeat' (first | refine R_p rfl ?_ rfl rfl | refine R_nil ?_ | refine R_skip ?_ rfl rfl | refine R_skip0 ?_ rfl | refine R_take (T_eqid rfl rfl (by assumption) (by assumption)) ?_ rfl rfl | refine R_take (T_build0 id_zero) ?_ rfl rfl | refine R_take (T_loada (ds := old.map bv) rfl rfl rfl lo2 ho) ?_ rfl rfl | refine R_take (T_loada (ds := new.map bv) rfl rfl rfl ln2 hn) ?_ rfl rfl | refine R_take (T_loada (ds := zero32.map bv) rfl rfl rfl rfl hz) ?_ rfl rfl | refine R_take (T_load rfl rfl rfl (by first | rfl | assumption)) ?_ rfl rfl | refine R_take (T_sum rfl rfl rfl (by unfold fits; omega)) ?_ rfl rfl | refine R_take (T_notd rfl) ?_ rfl rfl | refine R_take (T_not rfl) ?_ rfl rfl | refine R_take (T_ix1 rfl rfl rfl rfl rfl rfl (by assumption) (by first | assumption | omega)) ?_ rfl rfl | refine R_take (T_ldb rfl rfl rfl (by assumption) (by first | assumption | omega)) ?_ rfl rfl | refine R_take (T_ixs rfl rfl rfl rfl (by first | assumption | omega)) ?_ rfl rfl | refine R_take (T_convf rfl rfl rfl rfl (by unfold fits; omega)) ?_ rfl rfl | refine R_take (T_conv rfl rfl rfl rfl) ?_ rfl rfl | refine S_seq rfl ?_ | refine S_region rfl rfl ?_ | refine S_true rfl rfl ?_ | refine S_false rfl rfl ?_ | refine S_block rfl ?_ | refine RS_blk ?_ | refine S_exit rfl rfl ?_ | refine S_skip rfl ?_ | refine S_label rfl ?_ | refine S_scope rfl ?_ | refine RS_seg ?_ | (refine R_eff (E_boxa rfl) ?_ rfl rfl; rintro _ _ ⟨bc, rfl, rfl⟩) | (refine R_eff (E_alloca rfl id_alloc) ?_ rfl rfl; rintro _ _ ⟨bz, rfl, rfl⟩) | (refine R_eff0 (E_store (ds := zero32.map bv) rfl rfl rfl rfl rfl (bv_one _) rfl (by decide)) ?_ rfl; rintro _ _ rfl) | (refine R_eff (E_boxa rfl) ?_ rfl rfl; rintro _ _ ⟨b, rfl, rfl⟩) | (refine R_eff (E_box1 rfl rfl) ?_ rfl rfl; rintro _ _ ⟨b, rfl, rfl⟩) | (refine R_eff (E_alloc1 rfl rfl rfl) ?_ rfl rfl; rintro _ _ ⟨b, rfl, rfl⟩) | (refine R_eff (E_alloca rfl rfl) ?_ rfl rfl; rintro _ _ ⟨b, rfl, rfl⟩) | (refine R_eff0 (E_store1 rfl rfl rfl rfl rfl rfl (by first | decide | (simp; done) | (simp; omega) | assumption)) ?_ rfl; rintro _ _ rfl) | (refine R_splitd rfl rfl (fun hs => ?_) (fun hs => ?_)) | (refine R_split rfl rfl (fun hs => ?_) (fun hs => ?_)) | (refine S_if rfl rfl (fun hs => ?_) (fun hs => ?_)) | (refine S_cond rfl rfl (fun hs => ?_) (fun hs => ?_)))
  any_goals (refine hB _ _ _ _ _ rfl rfl fun w' hS => ⟨(), ?_, trivial, hS.sublist (List.nil_sublist _)⟩; refine congrArg Value.bool ?_; clear hB ho hn hz h68 lo2 ln2 lz lo ln)
  · rw [all_bad (j := j) (by simp; omega) (by simp [good]; simp [bl] at *; omega), Bool.and_false]
  · rw [all_bad (j := j) (by simp; omega) (by simp [good]; simp [bl] at *; omega), Bool.and_false]
  · refine hJ (j + 1) _ _ ⟨by omega, ?_⟩ (Sub.cons rfl (Sub.cons rfl (Sub.cons rfl Sub.nil))) (fun _ h => h) (by first | omega | (simp; omega))
    exact all_next hall (by simp; omega) (by unfold good; rw [decide_eq_true_eq]; (try simp only [bl] at *); omega)
  all_goals
    have hj' : j = br.size := by omega
    have hall' : br.data.toList.all good = true := by rwa [List.take_of_length_le (by simp; omega)] at hall
    rw [hall']
    clear hall hall' hJ
    first | (simp [*]; done) | (exfalso; omega)
end Go.Proofs.Ytleecfhafnfeoaa
