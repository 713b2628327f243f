/- Messages: the document's Same. -/
import Derived.Test.YtdbehejbeioboaaDoorFr6
namespace Go.Proofs.YtdbehejbeioboaaDoor
open Go.RowKit
open Asn (pt row rb)
set_option linter.unusedVariables false
set_option linter.unusedSimpArgs false
--@use N

theorem es_no {x y : Ms} {j : Nat} (h : x.es.getD j default ≠ y.es.getD j default) : (eqL x y).all id = false := all_no 5 (congrArg some (decide_eq_false fun e => h (by rw [e])))
theorem cf_no {x y : Ms} {j : Nat} (h : x.cf.getD j 0 ≠ y.cf.getD j 0) : (eqL x y).all id = false := all_no 9 (congrArg some (decide_eq_false fun e => h (by rw [e])))
theorem cf_eq {l m : List Int} (hl : l.length = m.length) (h : ∀ i, i < l.length → l.getD i 0 = m.getD i 0) : l = m := by
  refine List.ext_getElem hl fun i h1 h2 => ?_
  have := h i h1
  simpa [List.getD, h1, h2] using this
set_option maxRecDepth 100000 in
set_option maxHeartbeats 4000000 in
theorem sameMD_k (w : World) (x : Ms) (p : Mp) (h : MsR w x p) (y : Ms) (q : Mp) (h2 : MsR w y q) (r : Bool) (hr : (eqL x y).all id = r) :
    Gives Tryd.prog 19 [.agg (mgc x p).toArray, .agg (mgc y q).toArray] [] w (X := Unit) (fun _ => .bool r) (fun _ => True) (fun _ => []) := by
  refine gives_S Tryd.func19 rfl Tryd.ntmps19 Tryd.results19 (by simp) (St.enter w) (fun B hB => ?_)
  have hm := h.hm
  have hmc' := h.hmc
  unfold maxLen at hm hmc'
  have hne : 0 < p.n → p.A ≠ none := fun h0 => by obtain ⟨ad, e, _⟩ := h.rq.2 h0; rw [e]; simp
  have hnc : 0 < p.cn → p.cA ≠ none := fun h0 => by obtain ⟨ad, e, _⟩ := h.rc.2 h0; rw [e]; simp
  have hmb : 0 < q.n → q.A ≠ none := fun h0 => by obtain ⟨ad, e, _⟩ := h2.rq.2 h0; rw [e]; simp
  have hmc : 0 < q.cn → q.cA ≠ none := fun h0 => by obtain ⟨ad, e, _⟩ := h2.rc.2 h0; rw [e]; simp
  by_cases he0 : x.K = y.K
  rotate_left
  · obtain rfl : r = false := by rw [← hr]; exact all_no 0 (congrArg some (decide_eq_false he0))
    focus (refine S_seq rfl ?_; refine S_region rfl rfl ?_; (refine R_eff (E_boxa (cs := mgc x p) rfl) ?_ rfl rfl; rintro _ _ ⟨b2, rfl, rfl⟩); (refine R_eff (E_boxa (cs := mgc y q) rfl) ?_ rfl rfl; rintro _ _ ⟨b3, rfl, rfl⟩); refine R_p rfl ?_ rfl rfl; refine R_nil ?_; refine S_seq rfl ?_; refine S_seq rfl (S_region rfl rfl ?_); refine R_p rfl ?_ rfl rfl; refine R_take (T_load rfl rfl rfl rfl) ?_ rfl rfl; refine R_p rfl ?_ rfl rfl; refine R_take (T_load rfl rfl rfl rfl) ?_ rfl rfl; refine R_take (T_decT rfl (by omega)) ?_ rfl rfl; refine R_p rfl ?_ rfl rfl; (iterate 5 refine R_skip ?_ rfl rfl); (iterate 2 refine R_p rfl ?_ rfl rfl); (iterate 5 refine R_skip ?_ rfl rfl); (iterate 2 refine R_p rfl ?_ rfl rfl); (iterate 5 refine R_skip ?_ rfl rfl); (iterate 2 refine R_p rfl ?_ rfl rfl); (iterate 5 refine R_skip ?_ rfl rfl); (iterate 2 refine R_p rfl ?_ rfl rfl); (iterate 5 refine R_skip ?_ rfl rfl); (iterate 2 refine R_p rfl ?_ rfl rfl); (iterate 5 refine R_skip ?_ rfl rfl); (iterate 2 refine R_p rfl ?_ rfl rfl); (iterate 5 refine R_skip ?_ rfl rfl); (iterate 2 refine R_p rfl ?_ rfl rfl); (iterate 7 refine R_skip ?_ rfl rfl); (iterate 2 refine R_p rfl ?_ rfl rfl); (iterate 9 refine R_skip ?_ rfl rfl); refine R_p rfl ?_ rfl rfl; refine R_nil ?_; refine S_true rfl rfl ?_; refine S_seq rfl (S_region rfl rfl ?_); refine R_p rfl ?_ rfl rfl; refine R_nil ?_)
    exact hB _ _ _ _ _ rfl rfl fun w' hS => ⟨(), rfl, trivial, hS.sublist (List.nil_sublist _)⟩
  by_cases he1 : x.F = y.F
  rotate_left
  · obtain rfl : r = false := by rw [← hr]; exact all_no 1 (congrArg some (decide_eq_false he1))
    focus (refine S_seq rfl ?_; refine S_region rfl rfl ?_; (refine R_eff (E_boxa (cs := mgc x p) rfl) ?_ rfl rfl; rintro _ _ ⟨b2, rfl, rfl⟩); (refine R_eff (E_boxa (cs := mgc y q) rfl) ?_ rfl rfl; rintro _ _ ⟨b3, rfl, rfl⟩); refine R_p rfl ?_ rfl rfl; refine R_nil ?_; refine S_seq rfl ?_; refine S_seq rfl (S_region rfl rfl ?_); refine R_p rfl ?_ rfl rfl; refine R_take (T_load rfl rfl rfl rfl) ?_ rfl rfl; refine R_p rfl ?_ rfl rfl; refine R_take (T_load rfl rfl rfl rfl) ?_ rfl rfl; refine R_take (T_decF rfl (by omega)) ?_ rfl rfl; (iterate 2 refine R_p rfl ?_ rfl rfl); refine R_take (T_load rfl rfl rfl rfl) ?_ rfl rfl; refine R_p rfl ?_ rfl rfl; refine R_take (T_load rfl rfl rfl rfl) ?_ rfl rfl; refine R_take (T_decT rfl (by omega)) ?_ rfl rfl; (iterate 2 refine R_p rfl ?_ rfl rfl); (iterate 5 refine R_skip ?_ rfl rfl); (iterate 2 refine R_p rfl ?_ rfl rfl); (iterate 5 refine R_skip ?_ rfl rfl); (iterate 2 refine R_p rfl ?_ rfl rfl); (iterate 5 refine R_skip ?_ rfl rfl); (iterate 2 refine R_p rfl ?_ rfl rfl); (iterate 5 refine R_skip ?_ rfl rfl); (iterate 2 refine R_p rfl ?_ rfl rfl); (iterate 5 refine R_skip ?_ rfl rfl); (iterate 2 refine R_p rfl ?_ rfl rfl); (iterate 5 refine R_skip ?_ rfl rfl); (iterate 2 refine R_p rfl ?_ rfl rfl); (iterate 7 refine R_skip ?_ rfl rfl); (iterate 2 refine R_p rfl ?_ rfl rfl); (iterate 9 refine R_skip ?_ rfl rfl); refine R_p rfl ?_ rfl rfl; refine R_nil ?_; refine S_true rfl rfl ?_; refine S_seq rfl (S_region rfl rfl ?_); refine R_p rfl ?_ rfl rfl; refine R_nil ?_)
    exact hB _ _ _ _ _ rfl rfl fun w' hS => ⟨(), rfl, trivial, hS.sublist (List.nil_sublist _)⟩
  by_cases he2 : x.T = y.T
  rotate_left
  · obtain rfl : r = false := by rw [← hr]; exact all_no 2 (congrArg some (decide_eq_false he2))
    focus (refine S_seq rfl ?_; refine S_region rfl rfl ?_; (refine R_eff (E_boxa (cs := mgc x p) rfl) ?_ rfl rfl; rintro _ _ ⟨b2, rfl, rfl⟩); (refine R_eff (E_boxa (cs := mgc y q) rfl) ?_ rfl rfl; rintro _ _ ⟨b3, rfl, rfl⟩); refine R_p rfl ?_ rfl rfl; refine R_nil ?_; refine S_seq rfl ?_; refine S_seq rfl (S_region rfl rfl ?_); refine R_p rfl ?_ rfl rfl; refine R_take (T_load rfl rfl rfl rfl) ?_ rfl rfl; refine R_p rfl ?_ rfl rfl; refine R_take (T_load rfl rfl rfl rfl) ?_ rfl rfl; refine R_take (T_decF rfl (by omega)) ?_ rfl rfl; (iterate 2 refine R_p rfl ?_ rfl rfl); refine R_take (T_load rfl rfl rfl rfl) ?_ rfl rfl; refine R_p rfl ?_ rfl rfl; refine R_take (T_load rfl rfl rfl rfl) ?_ rfl rfl; refine R_take (T_decF rfl (by omega)) ?_ rfl rfl; (iterate 3 refine R_p rfl ?_ rfl rfl); refine R_take (T_load rfl rfl rfl rfl) ?_ rfl rfl; refine R_p rfl ?_ rfl rfl; refine R_take (T_load rfl rfl rfl rfl) ?_ rfl rfl; refine R_take (T_decT rfl (by omega)) ?_ rfl rfl; (iterate 2 refine R_p rfl ?_ rfl rfl); (iterate 5 refine R_skip ?_ rfl rfl); (iterate 2 refine R_p rfl ?_ rfl rfl); (iterate 5 refine R_skip ?_ rfl rfl); (iterate 2 refine R_p rfl ?_ rfl rfl); (iterate 5 refine R_skip ?_ rfl rfl); (iterate 2 refine R_p rfl ?_ rfl rfl); (iterate 5 refine R_skip ?_ rfl rfl); (iterate 2 refine R_p rfl ?_ rfl rfl); (iterate 5 refine R_skip ?_ rfl rfl); (iterate 2 refine R_p rfl ?_ rfl rfl); (iterate 7 refine R_skip ?_ rfl rfl); (iterate 2 refine R_p rfl ?_ rfl rfl); (iterate 9 refine R_skip ?_ rfl rfl); refine R_p rfl ?_ rfl rfl; refine R_nil ?_; refine S_true rfl rfl ?_; refine S_seq rfl (S_region rfl rfl ?_); refine R_p rfl ?_ rfl rfl; refine R_nil ?_)
    exact hB _ _ _ _ _ rfl rfl fun w' hS => ⟨(), rfl, trivial, hS.sublist (List.nil_sublist _)⟩
  by_cases he3 : x.tm = y.tm
  rotate_left
  · obtain rfl : r = false := by rw [← hr]; exact all_no 3 (congrArg some (decide_eq_false he3))
    focus (refine S_seq rfl ?_; refine S_region rfl rfl ?_; (refine R_eff (E_boxa (cs := mgc x p) rfl) ?_ rfl rfl; rintro _ _ ⟨b2, rfl, rfl⟩); (refine R_eff (E_boxa (cs := mgc y q) rfl) ?_ rfl rfl; rintro _ _ ⟨b3, rfl, rfl⟩); refine R_p rfl ?_ rfl rfl; refine R_nil ?_; refine S_seq rfl ?_; refine S_seq rfl (S_region rfl rfl ?_); refine R_p rfl ?_ rfl rfl; refine R_take (T_load rfl rfl rfl rfl) ?_ rfl rfl; refine R_p rfl ?_ rfl rfl; refine R_take (T_load rfl rfl rfl rfl) ?_ rfl rfl; refine R_take (T_decF rfl (by omega)) ?_ rfl rfl; (iterate 2 refine R_p rfl ?_ rfl rfl); refine R_take (T_load rfl rfl rfl rfl) ?_ rfl rfl; refine R_p rfl ?_ rfl rfl; refine R_take (T_load rfl rfl rfl rfl) ?_ rfl rfl; refine R_take (T_decF rfl (by omega)) ?_ rfl rfl; (iterate 3 refine R_p rfl ?_ rfl rfl); refine R_take (T_load rfl rfl rfl rfl) ?_ rfl rfl; refine R_p rfl ?_ rfl rfl; refine R_take (T_load rfl rfl rfl rfl) ?_ rfl rfl; refine R_take (T_decF rfl (by omega)) ?_ rfl rfl; (iterate 3 refine R_p rfl ?_ rfl rfl); refine R_take (T_load rfl rfl rfl rfl) ?_ rfl rfl; refine R_p rfl ?_ rfl rfl; refine R_take (T_load rfl rfl rfl rfl) ?_ rfl rfl; refine R_take (T_decT rfl (by omega)) ?_ rfl rfl; (iterate 2 refine R_p rfl ?_ rfl rfl); (iterate 5 refine R_skip ?_ rfl rfl); (iterate 2 refine R_p rfl ?_ rfl rfl); (iterate 5 refine R_skip ?_ rfl rfl); (iterate 2 refine R_p rfl ?_ rfl rfl); (iterate 5 refine R_skip ?_ rfl rfl); (iterate 2 refine R_p rfl ?_ rfl rfl); (iterate 5 refine R_skip ?_ rfl rfl); (iterate 2 refine R_p rfl ?_ rfl rfl); (iterate 7 refine R_skip ?_ rfl rfl); (iterate 2 refine R_p rfl ?_ rfl rfl); (iterate 9 refine R_skip ?_ rfl rfl); refine R_p rfl ?_ rfl rfl; refine R_nil ?_; refine S_true rfl rfl ?_; refine S_seq rfl (S_region rfl rfl ?_); refine R_p rfl ?_ rfl rfl; refine R_nil ?_)
    exact hB _ _ _ _ _ rfl rfl fun w' hS => ⟨(), rfl, trivial, hS.sublist (List.nil_sublist _)⟩
  cases he4 : (decide (x.pl = y.pl))
  · obtain rfl : r = false := by rw [← hr]; exact all_no 4 (congrArg some he4)
    focus (refine S_seq rfl ?_; refine S_region rfl rfl ?_; (refine R_eff (E_boxa (cs := mgc x p) rfl) ?_ rfl rfl; rintro _ _ ⟨b2, rfl, rfl⟩); (refine R_eff (E_boxa (cs := mgc y q) rfl) ?_ rfl rfl; rintro _ _ ⟨b3, rfl, rfl⟩); refine R_p rfl ?_ rfl rfl; refine R_nil ?_; refine S_seq rfl ?_; refine S_seq rfl (S_region rfl rfl ?_); refine R_p rfl ?_ rfl rfl; refine R_take (T_load rfl rfl rfl rfl) ?_ rfl rfl; refine R_p rfl ?_ rfl rfl; refine R_take (T_load rfl rfl rfl rfl) ?_ rfl rfl; refine R_take (T_decF rfl (by omega)) ?_ rfl rfl; (iterate 2 refine R_p rfl ?_ rfl rfl); refine R_take (T_load rfl rfl rfl rfl) ?_ rfl rfl; refine R_p rfl ?_ rfl rfl; refine R_take (T_load rfl rfl rfl rfl) ?_ rfl rfl; refine R_take (T_decF rfl (by omega)) ?_ rfl rfl; (iterate 3 refine R_p rfl ?_ rfl rfl); refine R_take (T_load rfl rfl rfl rfl) ?_ rfl rfl; refine R_p rfl ?_ rfl rfl; refine R_take (T_load rfl rfl rfl rfl) ?_ rfl rfl; refine R_take (T_decF rfl (by omega)) ?_ rfl rfl; (iterate 3 refine R_p rfl ?_ rfl rfl); refine R_take (T_load rfl rfl rfl rfl) ?_ rfl rfl; refine R_p rfl ?_ rfl rfl; refine R_take (T_load rfl rfl rfl rfl) ?_ rfl rfl; refine R_take (T_decF rfl (by omega)) ?_ rfl rfl; (iterate 3 refine R_p rfl ?_ rfl rfl); refine R_take (T_loads (ds := atc x.pl) rfl rfl rfl rfl rfl) ?_ rfl rfl; refine R_p rfl ?_ rfl rfl; refine R_take (T_loads (ds := atc y.pl) rfl rfl rfl rfl rfl) ?_ rfl rfl; refine R_take (T_neAt (a := x.pl) (b := y.pl) rfl rfl he4) ?_ rfl rfl; (iterate 2 refine R_p rfl ?_ rfl rfl); (iterate 5 refine R_skip ?_ rfl rfl); (iterate 2 refine R_p rfl ?_ rfl rfl); (iterate 5 refine R_skip ?_ rfl rfl); (iterate 2 refine R_p rfl ?_ rfl rfl); (iterate 5 refine R_skip ?_ rfl rfl); (iterate 2 refine R_p rfl ?_ rfl rfl); (iterate 7 refine R_skip ?_ rfl rfl); (iterate 2 refine R_p rfl ?_ rfl rfl); (iterate 9 refine R_skip ?_ rfl rfl); refine R_p rfl ?_ rfl rfl; refine R_nil ?_; refine S_true rfl rfl ?_; refine S_seq rfl (S_region rfl rfl ?_); refine R_p rfl ?_ rfl rfl; refine R_nil ?_)
    exact hB _ _ _ _ _ rfl rfl fun w' hS => ⟨(), rfl, trivial, hS.sublist (List.nil_sublist _)⟩
  by_cases he6 : x.cm = y.cm
  rotate_left
  · obtain rfl : r = false := by rw [← hr]; exact all_no 6 (congrArg some (decide_eq_false he6))
    focus (refine S_seq rfl ?_; refine S_region rfl rfl ?_; (refine R_eff (E_boxa (cs := mgc x p) rfl) ?_ rfl rfl; rintro _ _ ⟨b2, rfl, rfl⟩); (refine R_eff (E_boxa (cs := mgc y q) rfl) ?_ rfl rfl; rintro _ _ ⟨b3, rfl, rfl⟩); refine R_p rfl ?_ rfl rfl; refine R_nil ?_; refine S_seq rfl ?_; refine S_seq rfl (S_region rfl rfl ?_); refine R_p rfl ?_ rfl rfl; refine R_take (T_load rfl rfl rfl rfl) ?_ rfl rfl; refine R_p rfl ?_ rfl rfl; refine R_take (T_load rfl rfl rfl rfl) ?_ rfl rfl; refine R_take (T_decF rfl (by omega)) ?_ rfl rfl; (iterate 2 refine R_p rfl ?_ rfl rfl); refine R_take (T_load rfl rfl rfl rfl) ?_ rfl rfl; refine R_p rfl ?_ rfl rfl; refine R_take (T_load rfl rfl rfl rfl) ?_ rfl rfl; refine R_take (T_decF rfl (by omega)) ?_ rfl rfl; (iterate 3 refine R_p rfl ?_ rfl rfl); refine R_take (T_load rfl rfl rfl rfl) ?_ rfl rfl; refine R_p rfl ?_ rfl rfl; refine R_take (T_load rfl rfl rfl rfl) ?_ rfl rfl; refine R_take (T_decF rfl (by omega)) ?_ rfl rfl; (iterate 3 refine R_p rfl ?_ rfl rfl); refine R_take (T_load rfl rfl rfl rfl) ?_ rfl rfl; refine R_p rfl ?_ rfl rfl; refine R_take (T_load rfl rfl rfl rfl) ?_ rfl rfl; refine R_take (T_decF rfl (by omega)) ?_ rfl rfl; (iterate 3 refine R_p rfl ?_ rfl rfl); refine R_take (T_loads (ds := atc x.pl) rfl rfl rfl rfl rfl) ?_ rfl rfl; refine R_p rfl ?_ rfl rfl; refine R_take (T_loads (ds := atc y.pl) rfl rfl rfl rfl rfl) ?_ rfl rfl; refine R_take (T_neAt (a := x.pl) (b := y.pl) rfl rfl he4) ?_ rfl rfl; (iterate 3 refine R_p rfl ?_ rfl rfl); refine R_take (T_load rfl rfl rfl rfl) ?_ rfl rfl; refine R_p rfl ?_ rfl rfl; refine R_take (T_load rfl rfl rfl rfl) ?_ rfl rfl; refine R_take (T_decT rfl (by omega)) ?_ rfl rfl; (iterate 2 refine R_p rfl ?_ rfl rfl); (iterate 5 refine R_skip ?_ rfl rfl); (iterate 2 refine R_p rfl ?_ rfl rfl); (iterate 5 refine R_skip ?_ rfl rfl); (iterate 2 refine R_p rfl ?_ rfl rfl); (iterate 7 refine R_skip ?_ rfl rfl); (iterate 2 refine R_p rfl ?_ rfl rfl); (iterate 9 refine R_skip ?_ rfl rfl); refine R_p rfl ?_ rfl rfl; refine R_nil ?_; refine S_true rfl rfl ?_; refine S_seq rfl (S_region rfl rfl ?_); refine R_p rfl ?_ rfl rfl; refine R_nil ?_)
    exact hB _ _ _ _ _ rfl rfl fun w' hS => ⟨(), rfl, trivial, hS.sublist (List.nil_sublist _)⟩
  cases he7 : (x.ok == y.ok)
  · obtain rfl : r = false := by rw [← hr]; exact all_no 7 (congrArg some he7)
    focus (refine S_seq rfl ?_; refine S_region rfl rfl ?_; (refine R_eff (E_boxa (cs := mgc x p) rfl) ?_ rfl rfl; rintro _ _ ⟨b2, rfl, rfl⟩); (refine R_eff (E_boxa (cs := mgc y q) rfl) ?_ rfl rfl; rintro _ _ ⟨b3, rfl, rfl⟩); refine R_p rfl ?_ rfl rfl; refine R_nil ?_; refine S_seq rfl ?_; refine S_seq rfl (S_region rfl rfl ?_); refine R_p rfl ?_ rfl rfl; refine R_take (T_load rfl rfl rfl rfl) ?_ rfl rfl; refine R_p rfl ?_ rfl rfl; refine R_take (T_load rfl rfl rfl rfl) ?_ rfl rfl; refine R_take (T_decF rfl (by omega)) ?_ rfl rfl; (iterate 2 refine R_p rfl ?_ rfl rfl); refine R_take (T_load rfl rfl rfl rfl) ?_ rfl rfl; refine R_p rfl ?_ rfl rfl; refine R_take (T_load rfl rfl rfl rfl) ?_ rfl rfl; refine R_take (T_decF rfl (by omega)) ?_ rfl rfl; (iterate 3 refine R_p rfl ?_ rfl rfl); refine R_take (T_load rfl rfl rfl rfl) ?_ rfl rfl; refine R_p rfl ?_ rfl rfl; refine R_take (T_load rfl rfl rfl rfl) ?_ rfl rfl; refine R_take (T_decF rfl (by omega)) ?_ rfl rfl; (iterate 3 refine R_p rfl ?_ rfl rfl); refine R_take (T_load rfl rfl rfl rfl) ?_ rfl rfl; refine R_p rfl ?_ rfl rfl; refine R_take (T_load rfl rfl rfl rfl) ?_ rfl rfl; refine R_take (T_decF rfl (by omega)) ?_ rfl rfl; (iterate 3 refine R_p rfl ?_ rfl rfl); refine R_take (T_loads (ds := atc x.pl) rfl rfl rfl rfl rfl) ?_ rfl rfl; refine R_p rfl ?_ rfl rfl; refine R_take (T_loads (ds := atc y.pl) rfl rfl rfl rfl rfl) ?_ rfl rfl; refine R_take (T_neAt (a := x.pl) (b := y.pl) rfl rfl he4) ?_ rfl rfl; (iterate 3 refine R_p rfl ?_ rfl rfl); refine R_take (T_load rfl rfl rfl rfl) ?_ rfl rfl; refine R_p rfl ?_ rfl rfl; refine R_take (T_load rfl rfl rfl rfl) ?_ rfl rfl; refine R_take (T_decF rfl (by omega)) ?_ rfl rfl; (iterate 3 refine R_p rfl ?_ rfl rfl); refine R_take (T_load rfl rfl rfl rfl) ?_ rfl rfl; refine R_p rfl ?_ rfl rfl; refine R_take (T_load rfl rfl rfl rfl) ?_ rfl rfl; refine R_take (T_bnq (r := true) rfl rfl rfl rfl (by show (!(x.ok == y.ok)) = _; rw [he7]; rfl)) ?_ rfl rfl; (iterate 2 refine R_p rfl ?_ rfl rfl); (iterate 5 refine R_skip ?_ rfl rfl); (iterate 2 refine R_p rfl ?_ rfl rfl); (iterate 7 refine R_skip ?_ rfl rfl); (iterate 2 refine R_p rfl ?_ rfl rfl); (iterate 9 refine R_skip ?_ rfl rfl); refine R_p rfl ?_ rfl rfl; refine R_nil ?_; refine S_true rfl rfl ?_; refine S_seq rfl (S_region rfl rfl ?_); refine R_p rfl ?_ rfl rfl; refine R_nil ?_)
    exact hB _ _ _ _ _ rfl rfl fun w' hS => ⟨(), rfl, trivial, hS.sublist (List.nil_sublist _)⟩
  by_cases he8 : x.ix = y.ix
  rotate_left
  · obtain rfl : r = false := by rw [← hr]; exact all_no 8 (congrArg some (decide_eq_false he8))
    focus (refine S_seq rfl ?_; refine S_region rfl rfl ?_; (refine R_eff (E_boxa (cs := mgc x p) rfl) ?_ rfl rfl; rintro _ _ ⟨b2, rfl, rfl⟩); (refine R_eff (E_boxa (cs := mgc y q) rfl) ?_ rfl rfl; rintro _ _ ⟨b3, rfl, rfl⟩); refine R_p rfl ?_ rfl rfl; refine R_nil ?_; refine S_seq rfl ?_; refine S_seq rfl (S_region rfl rfl ?_); refine R_p rfl ?_ rfl rfl; refine R_take (T_load rfl rfl rfl rfl) ?_ rfl rfl; refine R_p rfl ?_ rfl rfl; refine R_take (T_load rfl rfl rfl rfl) ?_ rfl rfl; refine R_take (T_decF rfl (by omega)) ?_ rfl rfl; (iterate 2 refine R_p rfl ?_ rfl rfl); refine R_take (T_load rfl rfl rfl rfl) ?_ rfl rfl; refine R_p rfl ?_ rfl rfl; refine R_take (T_load rfl rfl rfl rfl) ?_ rfl rfl; refine R_take (T_decF rfl (by omega)) ?_ rfl rfl; (iterate 3 refine R_p rfl ?_ rfl rfl); refine R_take (T_load rfl rfl rfl rfl) ?_ rfl rfl; refine R_p rfl ?_ rfl rfl; refine R_take (T_load rfl rfl rfl rfl) ?_ rfl rfl; refine R_take (T_decF rfl (by omega)) ?_ rfl rfl; (iterate 3 refine R_p rfl ?_ rfl rfl); refine R_take (T_load rfl rfl rfl rfl) ?_ rfl rfl; refine R_p rfl ?_ rfl rfl; refine R_take (T_load rfl rfl rfl rfl) ?_ rfl rfl; refine R_take (T_decF rfl (by omega)) ?_ rfl rfl; (iterate 3 refine R_p rfl ?_ rfl rfl); refine R_take (T_loads (ds := atc x.pl) rfl rfl rfl rfl rfl) ?_ rfl rfl; refine R_p rfl ?_ rfl rfl; refine R_take (T_loads (ds := atc y.pl) rfl rfl rfl rfl rfl) ?_ rfl rfl; refine R_take (T_neAt (a := x.pl) (b := y.pl) rfl rfl he4) ?_ rfl rfl; (iterate 3 refine R_p rfl ?_ rfl rfl); refine R_take (T_load rfl rfl rfl rfl) ?_ rfl rfl; refine R_p rfl ?_ rfl rfl; refine R_take (T_load rfl rfl rfl rfl) ?_ rfl rfl; refine R_take (T_decF rfl (by omega)) ?_ rfl rfl; (iterate 3 refine R_p rfl ?_ rfl rfl); refine R_take (T_load rfl rfl rfl rfl) ?_ rfl rfl; refine R_p rfl ?_ rfl rfl; refine R_take (T_load rfl rfl rfl rfl) ?_ rfl rfl; refine R_take (T_bnq (r := false) rfl rfl rfl rfl (by show (!(x.ok == y.ok)) = _; rw [he7]; rfl)) ?_ rfl rfl; (iterate 3 refine R_p rfl ?_ rfl rfl); refine R_take (T_load rfl rfl rfl rfl) ?_ rfl rfl; refine R_p rfl ?_ rfl rfl; refine R_take (T_load rfl rfl rfl rfl) ?_ rfl rfl; refine R_take (T_decT rfl (by omega)) ?_ rfl rfl; (iterate 2 refine R_p rfl ?_ rfl rfl); (iterate 7 refine R_skip ?_ rfl rfl); (iterate 2 refine R_p rfl ?_ rfl rfl); (iterate 9 refine R_skip ?_ rfl rfl); refine R_p rfl ?_ rfl rfl; refine R_nil ?_; refine S_true rfl rfl ?_; refine S_seq rfl (S_region rfl rfl ?_); refine R_p rfl ?_ rfl rfl; refine R_nil ?_)
    exact hB _ _ _ _ _ rfl rfl fun w' hS => ⟨(), rfl, trivial, hS.sublist (List.nil_sublist _)⟩
  by_cases hl5 : p.n = q.n
  rotate_left
  · obtain rfl : r = false := by rw [← hr]; exact all_no 5 (congrArg some (decide_eq_false fun e => hl5 (by rw [← h.ln, ← h2.ln, e])))
    focus (refine S_seq rfl ?_; refine S_region rfl rfl ?_; (refine R_eff (E_boxa (cs := mgc x p) rfl) ?_ rfl rfl; rintro _ _ ⟨b2, rfl, rfl⟩); (refine R_eff (E_boxa (cs := mgc y q) rfl) ?_ rfl rfl; rintro _ _ ⟨b3, rfl, rfl⟩); refine R_p rfl ?_ rfl rfl; refine R_nil ?_; refine S_seq rfl ?_; refine S_seq rfl (S_region rfl rfl ?_); refine R_p rfl ?_ rfl rfl; refine R_take (T_load rfl rfl rfl rfl) ?_ rfl rfl; refine R_p rfl ?_ rfl rfl; refine R_take (T_load rfl rfl rfl rfl) ?_ rfl rfl; refine R_take (T_decF rfl (by omega)) ?_ rfl rfl; (iterate 2 refine R_p rfl ?_ rfl rfl); refine R_take (T_load rfl rfl rfl rfl) ?_ rfl rfl; refine R_p rfl ?_ rfl rfl; refine R_take (T_load rfl rfl rfl rfl) ?_ rfl rfl; refine R_take (T_decF rfl (by omega)) ?_ rfl rfl; (iterate 3 refine R_p rfl ?_ rfl rfl); refine R_take (T_load rfl rfl rfl rfl) ?_ rfl rfl; refine R_p rfl ?_ rfl rfl; refine R_take (T_load rfl rfl rfl rfl) ?_ rfl rfl; refine R_take (T_decF rfl (by omega)) ?_ rfl rfl; (iterate 3 refine R_p rfl ?_ rfl rfl); refine R_take (T_load rfl rfl rfl rfl) ?_ rfl rfl; refine R_p rfl ?_ rfl rfl; refine R_take (T_load rfl rfl rfl rfl) ?_ rfl rfl; refine R_take (T_decF rfl (by omega)) ?_ rfl rfl; (iterate 3 refine R_p rfl ?_ rfl rfl); refine R_take (T_loads (ds := atc x.pl) rfl rfl rfl rfl rfl) ?_ rfl rfl; refine R_p rfl ?_ rfl rfl; refine R_take (T_loads (ds := atc y.pl) rfl rfl rfl rfl rfl) ?_ rfl rfl; refine R_take (T_neAt (a := x.pl) (b := y.pl) rfl rfl he4) ?_ rfl rfl; (iterate 3 refine R_p rfl ?_ rfl rfl); refine R_take (T_load rfl rfl rfl rfl) ?_ rfl rfl; refine R_p rfl ?_ rfl rfl; refine R_take (T_load rfl rfl rfl rfl) ?_ rfl rfl; refine R_take (T_decF rfl (by omega)) ?_ rfl rfl; (iterate 3 refine R_p rfl ?_ rfl rfl); refine R_take (T_load rfl rfl rfl rfl) ?_ rfl rfl; refine R_p rfl ?_ rfl rfl; refine R_take (T_load rfl rfl rfl rfl) ?_ rfl rfl; refine R_take (T_bnq (r := false) rfl rfl rfl rfl (by show (!(x.ok == y.ok)) = _; rw [he7]; rfl)) ?_ rfl rfl; (iterate 3 refine R_p rfl ?_ rfl rfl); refine R_take (T_load rfl rfl rfl rfl) ?_ rfl rfl; refine R_p rfl ?_ rfl rfl; refine R_take (T_load rfl rfl rfl rfl) ?_ rfl rfl; refine R_take (T_decF rfl (by omega)) ?_ rfl rfl; (iterate 3 refine R_p rfl ?_ rfl rfl); refine R_take (T_load rfl rfl rfl rfl) ?_ rfl rfl; (iterate 2 refine R_p rfl ?_ rfl rfl); refine R_take (T_load rfl rfl rfl rfl) ?_ rfl rfl; refine R_p rfl ?_ rfl rfl; refine R_take (T_decT rfl (by omega)) ?_ rfl rfl; (iterate 2 refine R_p rfl ?_ rfl rfl); (iterate 9 refine R_skip ?_ rfl rfl); refine R_p rfl ?_ rfl rfl; refine R_nil ?_; refine S_true rfl rfl ?_; refine S_seq rfl (S_region rfl rfl ?_); refine R_p rfl ?_ rfl rfl; refine R_nil ?_)
    exact hB _ _ _ _ _ rfl rfl fun w' hS => ⟨(), rfl, trivial, hS.sublist (List.nil_sublist _)⟩
  by_cases hl9 : p.cn = q.cn
  rotate_left
  · obtain rfl : r = false := by rw [← hr]; exact all_no 9 (congrArg some (decide_eq_false fun e => hl9 (by rw [← h.hc, ← h2.hc, e])))
    focus (refine S_seq rfl ?_; refine S_region rfl rfl ?_; (refine R_eff (E_boxa (cs := mgc x p) rfl) ?_ rfl rfl; rintro _ _ ⟨b2, rfl, rfl⟩); (refine R_eff (E_boxa (cs := mgc y q) rfl) ?_ rfl rfl; rintro _ _ ⟨b3, rfl, rfl⟩); refine R_p rfl ?_ rfl rfl; refine R_nil ?_; refine S_seq rfl ?_; refine S_seq rfl (S_region rfl rfl ?_); refine R_p rfl ?_ rfl rfl; refine R_take (T_load rfl rfl rfl rfl) ?_ rfl rfl; refine R_p rfl ?_ rfl rfl; refine R_take (T_load rfl rfl rfl rfl) ?_ rfl rfl; refine R_take (T_decF rfl (by omega)) ?_ rfl rfl; (iterate 2 refine R_p rfl ?_ rfl rfl); refine R_take (T_load rfl rfl rfl rfl) ?_ rfl rfl; refine R_p rfl ?_ rfl rfl; refine R_take (T_load rfl rfl rfl rfl) ?_ rfl rfl; refine R_take (T_decF rfl (by omega)) ?_ rfl rfl; (iterate 3 refine R_p rfl ?_ rfl rfl); refine R_take (T_load rfl rfl rfl rfl) ?_ rfl rfl; refine R_p rfl ?_ rfl rfl; refine R_take (T_load rfl rfl rfl rfl) ?_ rfl rfl; refine R_take (T_decF rfl (by omega)) ?_ rfl rfl; (iterate 3 refine R_p rfl ?_ rfl rfl); refine R_take (T_load rfl rfl rfl rfl) ?_ rfl rfl; refine R_p rfl ?_ rfl rfl; refine R_take (T_load rfl rfl rfl rfl) ?_ rfl rfl; refine R_take (T_decF rfl (by omega)) ?_ rfl rfl; (iterate 3 refine R_p rfl ?_ rfl rfl); refine R_take (T_loads (ds := atc x.pl) rfl rfl rfl rfl rfl) ?_ rfl rfl; refine R_p rfl ?_ rfl rfl; refine R_take (T_loads (ds := atc y.pl) rfl rfl rfl rfl rfl) ?_ rfl rfl; refine R_take (T_neAt (a := x.pl) (b := y.pl) rfl rfl he4) ?_ rfl rfl; (iterate 3 refine R_p rfl ?_ rfl rfl); refine R_take (T_load rfl rfl rfl rfl) ?_ rfl rfl; refine R_p rfl ?_ rfl rfl; refine R_take (T_load rfl rfl rfl rfl) ?_ rfl rfl; refine R_take (T_decF rfl (by omega)) ?_ rfl rfl; (iterate 3 refine R_p rfl ?_ rfl rfl); refine R_take (T_load rfl rfl rfl rfl) ?_ rfl rfl; refine R_p rfl ?_ rfl rfl; refine R_take (T_load rfl rfl rfl rfl) ?_ rfl rfl; refine R_take (T_bnq (r := false) rfl rfl rfl rfl (by show (!(x.ok == y.ok)) = _; rw [he7]; rfl)) ?_ rfl rfl; (iterate 3 refine R_p rfl ?_ rfl rfl); refine R_take (T_load rfl rfl rfl rfl) ?_ rfl rfl; refine R_p rfl ?_ rfl rfl; refine R_take (T_load rfl rfl rfl rfl) ?_ rfl rfl; refine R_take (T_decF rfl (by omega)) ?_ rfl rfl; (iterate 3 refine R_p rfl ?_ rfl rfl); refine R_take (T_load rfl rfl rfl rfl) ?_ rfl rfl; (iterate 2 refine R_p rfl ?_ rfl rfl); refine R_take (T_load rfl rfl rfl rfl) ?_ rfl rfl; refine R_p rfl ?_ rfl rfl; refine R_take (T_decF rfl (by omega)) ?_ rfl rfl; (iterate 4 refine R_p rfl ?_ rfl rfl); refine R_take (T_load rfl rfl rfl rfl) ?_ rfl rfl; (iterate 3 refine R_p rfl ?_ rfl rfl); refine R_take (T_load rfl rfl rfl rfl) ?_ rfl rfl; refine R_p rfl ?_ rfl rfl; refine R_take (T_decT rfl (by omega)) ?_ rfl rfl; refine R_p rfl ?_ rfl rfl; refine R_nil ?_; refine S_true rfl rfl ?_; refine S_seq rfl (S_region rfl rfl ?_); refine R_p rfl ?_ rfl rfl; refine R_nil ?_)
    exact hB _ _ _ _ _ rfl rfl fun w' hS => ⟨(), rfl, trivial, hS.sublist (List.nil_sublist _)⟩
  focus (refine S_seq rfl ?_; refine S_region rfl rfl ?_; (refine R_eff (E_boxa (cs := mgc x p) rfl) ?_ rfl rfl; rintro _ _ ⟨b2, rfl, rfl⟩); (refine R_eff (E_boxa (cs := mgc y q) rfl) ?_ rfl rfl; rintro _ _ ⟨b3, rfl, rfl⟩); refine R_p rfl ?_ rfl rfl; refine R_nil ?_; refine S_seq rfl ?_; refine S_seq rfl (S_region rfl rfl ?_); refine R_p rfl ?_ rfl rfl; refine R_take (T_load rfl rfl rfl rfl) ?_ rfl rfl; refine R_p rfl ?_ rfl rfl; refine R_take (T_load rfl rfl rfl rfl) ?_ rfl rfl; refine R_take (T_decF rfl (by omega)) ?_ rfl rfl; (iterate 2 refine R_p rfl ?_ rfl rfl); refine R_take (T_load rfl rfl rfl rfl) ?_ rfl rfl; refine R_p rfl ?_ rfl rfl; refine R_take (T_load rfl rfl rfl rfl) ?_ rfl rfl; refine R_take (T_decF rfl (by omega)) ?_ rfl rfl; (iterate 3 refine R_p rfl ?_ rfl rfl); refine R_take (T_load rfl rfl rfl rfl) ?_ rfl rfl; refine R_p rfl ?_ rfl rfl; refine R_take (T_load rfl rfl rfl rfl) ?_ rfl rfl; refine R_take (T_decF rfl (by omega)) ?_ rfl rfl; (iterate 3 refine R_p rfl ?_ rfl rfl); refine R_take (T_load rfl rfl rfl rfl) ?_ rfl rfl; refine R_p rfl ?_ rfl rfl; refine R_take (T_load rfl rfl rfl rfl) ?_ rfl rfl; refine R_take (T_decF rfl (by omega)) ?_ rfl rfl; (iterate 3 refine R_p rfl ?_ rfl rfl); refine R_take (T_loads (ds := atc x.pl) rfl rfl rfl rfl rfl) ?_ rfl rfl; refine R_p rfl ?_ rfl rfl; refine R_take (T_loads (ds := atc y.pl) rfl rfl rfl rfl rfl) ?_ rfl rfl; refine R_take (T_neAt (a := x.pl) (b := y.pl) rfl rfl he4) ?_ rfl rfl; (iterate 3 refine R_p rfl ?_ rfl rfl); refine R_take (T_load rfl rfl rfl rfl) ?_ rfl rfl; refine R_p rfl ?_ rfl rfl; refine R_take (T_load rfl rfl rfl rfl) ?_ rfl rfl; refine R_take (T_decF rfl (by omega)) ?_ rfl rfl; (iterate 3 refine R_p rfl ?_ rfl rfl); refine R_take (T_load rfl rfl rfl rfl) ?_ rfl rfl; refine R_p rfl ?_ rfl rfl; refine R_take (T_load rfl rfl rfl rfl) ?_ rfl rfl; refine R_take (T_bnq (r := false) rfl rfl rfl rfl (by show (!(x.ok == y.ok)) = _; rw [he7]; rfl)) ?_ rfl rfl; (iterate 3 refine R_p rfl ?_ rfl rfl); refine R_take (T_load rfl rfl rfl rfl) ?_ rfl rfl; refine R_p rfl ?_ rfl rfl; refine R_take (T_load rfl rfl rfl rfl) ?_ rfl rfl; refine R_take (T_decF rfl (by omega)) ?_ rfl rfl; (iterate 3 refine R_p rfl ?_ rfl rfl); refine R_take (T_load rfl rfl rfl rfl) ?_ rfl rfl; (iterate 2 refine R_p rfl ?_ rfl rfl); refine R_take (T_load rfl rfl rfl rfl) ?_ rfl rfl; refine R_p rfl ?_ rfl rfl; refine R_take (T_decF rfl (by omega)) ?_ rfl rfl; (iterate 4 refine R_p rfl ?_ rfl rfl); refine R_take (T_load rfl rfl rfl rfl) ?_ rfl rfl; (iterate 3 refine R_p rfl ?_ rfl rfl); refine R_take (T_load rfl rfl rfl rfl) ?_ rfl rfl; refine R_p rfl ?_ rfl rfl; refine R_take (T_decF rfl (by omega)) ?_ rfl rfl; refine R_p rfl ?_ rfl rfl; refine R_nil ?_; refine S_false rfl rfl ?_; refine S_skip rfl ?_; refine S_seq rfl ?_; refine S_seq rfl (S_region rfl rfl ?_); refine R_p rfl ?_ rfl rfl; refine R_nil ?_; refine S_block rfl ?_)
  refine S_loop (X := Nat) (fun j => [(2, .pointer (some ⟨b2, 0, none⟩)), (3, .pointer (some ⟨b3, 0, none⟩)), (5, .int .i64 (j : Int))]) (fun _ => [pt b2 31 (mgc x p), pt b3 31 (mgc y q)]) (fun j => j ≤ p.n ∧ ∀ i, i < j → x.es.getD i default = y.es.getD i default) (fun j => p.n - j) rfl 0 ⟨Nat.zero_le _, fun i hi => absurd hi (Nat.not_lt_zero _)⟩ (Sub.cons rfl (Sub.cons rfl (Sub.cons rfl Sub.nil))) sub_st ?_
  rintro j ⟨hj, hok⟩ J hJ
  rcases Nat.lt_or_ge j p.n with hjl | hjl
  · have hne := hne (by omega)
    have hmb := hmb (by omega)
    have hjm : j < q.n := by omega
    have hQ1 := h.hn
    have hQ2 := h2.hn
    have hat := cellsL_at (f := emc) emc_len p.Q default j (by omega)
    have hau := cellsL_at (f := emc) emc_len q.Q default j (by omega)
    have eq1 : x.es.getD j default = emv (p.Q.getD j default) := by rw [← h.hQ]; simp [List.getD, show j < p.Q.length by omega]
    have eq2 : y.es.getD j default = emv (q.Q.getD j default) := by rw [← h2.hQ]; simp [List.getD, show j < q.Q.length by omega]
    have hb1 := h.bq (p.Q.getD j default) (by simp [List.getD, show j < p.Q.length by omega])
    have hb2 := h2.bq (q.Q.getD j default) (by simp [List.getD, show j < q.Q.length by omega])
    have hnx : emv (p.Q.getD j default) = emv (q.Q.getD j default) → ∀ i, i < j + 1 → x.es.getD i default = y.es.getD i default := fun e i hi => by
      rcases Nat.lt_or_ge i j with h3 | h3
      · exact hok i h3
      · rw [show i = j by omega, eq1, eq2]; exact e
    have hno : emv (p.Q.getD j default) ≠ emv (q.Q.getD j default) → (eqL x y).all id = false := fun e => es_no (j := j) (by rw [eq1, eq2]; exact e)
    generalize p.Q.getD j default = m at hat hb1 hnx hno
    generalize q.Q.getD j default = m2 at hau hb2 hnx hno
    obtain ⟨f, t, F, cf, l⟩ := m
    obtain ⟨f2, t2, F2, cf2, l2⟩ := m2
    have hb1 : Bs w All F l.length cf l := hb1
    have hb2 : Bs w All F2 l2.length cf2 l2 := hb2
    have hat0 : (cellsL emc p.Q)[j * 3 + 0]? = some (.int .u64 (f : Int)) := hat 0 _ rfl
    have hat1 : (cellsL emc p.Q)[j * 3 + 1]? = some (.int .i64 t) := hat 1 _ rfl
    have hat2 : (cellsL emc p.Q)[j * 3 + 2]? = some (.slice F l.length cf) := hat 2 _ rfl
    have hau0 : (cellsL emc q.Q)[j * 3 + 0]? = some (.int .u64 (f2 : Int)) := hau 0 _ rfl
    have hau1 : (cellsL emc q.Q)[j * 3 + 1]? = some (.int .i64 t2) := hau 1 _ rfl
    have hau2 : (cellsL emc q.Q)[j * 3 + 2]? = some (.slice F2 l2.length cf2) := hau 2 _ rfl
    obtain ⟨lq, hlq⟩ : ∃ q, decide (l = l2) = q := ⟨_, rfl⟩
    focus (refine S_seq rfl ?_; refine S_seq rfl (S_region rfl rfl ?_); (iterate 2 refine R_p rfl ?_ rfl rfl); refine R_take (T_load rfl rfl rfl rfl) ?_ rfl rfl; refine R_p rfl ?_ rfl rfl; refine R_take (T_decT rfl (by omega)) ?_ rfl rfl; refine R_nil ?_; refine S_true rfl rfl ?_; refine S_skip rfl ?_; refine S_seq rfl ?_; refine S_block rfl ?_; refine S_seq rfl ?_)
    by_cases e1 : f = f2
    · by_cases e2 : t = t2
      · skip
        refine S_draw ([pt b2 31 (mgc x p), pt b3 31 (mgc y q)]) sub_st (by kernel_rfl) rfl (by kernel_rfl) (by kernel_rfl : _ = 44) ?_
        refine D_take 0 rfl (pev_ok rfl) ?_ rfl rfl (by kernel_rfl) (by kernel_rfl)
        refine D_take 1 rfl (T_load rfl rfl rfl rfl) ?_ rfl rfl (by kernel_rfl) (by kernel_rfl)
        refine D_take 2 rfl (pev_ok rfl) ?_ rfl rfl (by kernel_rfl) (by kernel_rfl)
        refine D_take 3 rfl (T_ixM (sz := 3) (q := j) rfl rfl rfl rfl rfl rfl hne hjl) ?_ rfl rfl (by kernel_rfl) (by kernel_rfl)
        refine D_take 4 rfl (T_fap rfl rfl rfl rfl rfl hne) ?_ rfl rfl (by kernel_rfl) (by kernel_rfl)
        refine D_take 5 rfl (T_ldr rfl rfl rfl (Srd.old h.rq (fun k _ => noOwns k)) (by omega) hat0) ?_ rfl rfl (by kernel_rfl) (by kernel_rfl)
        refine D_take 6 rfl (pev_ok rfl) ?_ rfl rfl (by kernel_rfl) (by kernel_rfl)
        refine D_take 7 rfl (T_load rfl rfl rfl rfl) ?_ rfl rfl (by kernel_rfl) (by kernel_rfl)
        refine D_take 8 rfl (pev_ok rfl) ?_ rfl rfl (by kernel_rfl) (by kernel_rfl)
        refine D_take 9 rfl (T_ixM (sz := 3) (q := j) rfl rfl rfl rfl rfl rfl hmb hjm) ?_ rfl rfl (by kernel_rfl) (by kernel_rfl)
        refine D_take 10 rfl (T_fap rfl rfl rfl rfl rfl hmb) ?_ rfl rfl (by kernel_rfl) (by kernel_rfl)
        refine D_take 11 rfl (T_ldr rfl rfl rfl (Srd.old h2.rq (fun k _ => noOwns k)) (by omega) hau0) ?_ rfl rfl (by kernel_rfl) (by kernel_rfl)
        refine D_take 12 rfl (T_decF rfl (by omega)) ?_ rfl rfl (by kernel_rfl) (by kernel_rfl)
        refine D_take 13 rfl (pev_ok rfl) ?_ rfl rfl (by kernel_rfl) (by kernel_rfl)
        refine D_take 14 rfl (pev_ok rfl) ?_ rfl rfl (by kernel_rfl) (by kernel_rfl)
        refine D_take 15 rfl (T_load rfl rfl rfl rfl) ?_ rfl rfl (by kernel_rfl) (by kernel_rfl)
        refine D_take 16 rfl (pev_ok rfl) ?_ rfl rfl (by kernel_rfl) (by kernel_rfl)
        refine D_take 17 rfl (T_ixM (sz := 3) (q := j) rfl rfl rfl rfl rfl rfl hne hjl) ?_ rfl rfl (by kernel_rfl) (by kernel_rfl)
        refine D_take 18 rfl (T_fap rfl rfl rfl rfl rfl hne) ?_ rfl rfl (by kernel_rfl) (by kernel_rfl)
        refine D_take 19 rfl (T_ldr rfl rfl rfl (Srd.old h.rq (fun k _ => noOwns k)) (by omega) hat1) ?_ rfl rfl (by kernel_rfl) (by kernel_rfl)
        refine D_take 20 rfl (pev_ok rfl) ?_ rfl rfl (by kernel_rfl) (by kernel_rfl)
        refine D_take 21 rfl (T_load rfl rfl rfl rfl) ?_ rfl rfl (by kernel_rfl) (by kernel_rfl)
        refine D_take 22 rfl (pev_ok rfl) ?_ rfl rfl (by kernel_rfl) (by kernel_rfl)
        refine D_take 23 rfl (T_ixM (sz := 3) (q := j) rfl rfl rfl rfl rfl rfl hmb hjm) ?_ rfl rfl (by kernel_rfl) (by kernel_rfl)
        refine D_take 24 rfl (T_fap rfl rfl rfl rfl rfl hmb) ?_ rfl rfl (by kernel_rfl) (by kernel_rfl)
        refine D_take 25 rfl (T_ldr rfl rfl rfl (Srd.old h2.rq (fun k _ => noOwns k)) (by omega) hau1) ?_ rfl rfl (by kernel_rfl) (by kernel_rfl)
        refine D_take 26 rfl (T_decF rfl (by omega)) ?_ rfl rfl (by kernel_rfl) (by kernel_rfl)
        refine D_take 27 rfl (pev_ok rfl) ?_ rfl rfl (by kernel_rfl) (by kernel_rfl)
        refine D_take 28 rfl (pev_ok rfl) ?_ rfl rfl (by kernel_rfl) (by kernel_rfl)
        refine D_take 29 rfl (pev_ok rfl) ?_ rfl rfl (by kernel_rfl) (by kernel_rfl)
        refine D_take 30 rfl (T_load rfl rfl rfl rfl) ?_ rfl rfl (by kernel_rfl) (by kernel_rfl)
        refine D_take 31 rfl (pev_ok rfl) ?_ rfl rfl (by kernel_rfl) (by kernel_rfl)
        refine D_take 32 rfl (T_ixM (sz := 3) (q := j) rfl rfl rfl rfl rfl rfl hne hjl) ?_ rfl rfl (by kernel_rfl) (by kernel_rfl)
        refine D_take 33 rfl (T_fap rfl rfl rfl rfl rfl hne) ?_ rfl rfl (by kernel_rfl) (by kernel_rfl)
        refine D_take 34 rfl (T_ldr rfl rfl rfl (Srd.old h.rq (fun k _ => noOwns k)) (by omega) hat2) ?_ rfl rfl (by kernel_rfl) (by kernel_rfl)
        refine D_take 35 rfl (pev_ok rfl) ?_ rfl rfl (by kernel_rfl) (by kernel_rfl)
        refine D_take 36 rfl (T_load rfl rfl rfl rfl) ?_ rfl rfl (by kernel_rfl) (by kernel_rfl)
        refine D_take 37 rfl (pev_ok rfl) ?_ rfl rfl (by kernel_rfl) (by kernel_rfl)
        refine D_take 38 rfl (T_ixM (sz := 3) (q := j) rfl rfl rfl rfl rfl rfl hmb hjm) ?_ rfl rfl (by kernel_rfl) (by kernel_rfl)
        refine D_take 39 rfl (T_fap rfl rfl rfl rfl rfl hmb) ?_ rfl rfl (by kernel_rfl) (by kernel_rfl)
        refine D_take 40 rfl (T_ldr rfl rfl rfl (Srd.old h2.rq (fun k _ => noOwns k)) (by omega) hau2) ?_ rfl rfl (by kernel_rfl) (by kernel_rfl)
        refine D_one 41 rfl (E_hv0 (f := 15) ⟨_, Tryd.func15, rfl, by kernel_rfl⟩ (fun w hS => s01_k w F F2 l.length cf l2.length cf2 l l2 ((Src.old hb1 (fun k _ => noOwns k)).bs w hS) ((Src.old hb2 (fun k _ => noOwns k)).bs w hS) _ hlq) rfl rfl (fun _ => rfl)) ?_ rfl rfl (by kernel_rfl)
        rintro _ _ ⟨_, rfl, _, rfl⟩
        refine Nx_same sub_st ?_
        refine D_take 42 rfl (T_not rfl) ?_ rfl rfl (by kernel_rfl) (by kernel_rfl)
        refine D_take 43 rfl (pev_ok rfl) ?_ rfl rfl (by kernel_rfl) (by kernel_rfl)
        refine D_done ?_ (by kernel_rfl)
        skip
        cases lq
        · rw [hno (fun e => of_decide_eq_false hlq (congrArg (fun z : En => z.2.2) e))] at hr
          subst hr
          focus (refine S_true rfl rfl ?_; refine S_seq rfl (S_region rfl rfl ?_); refine R_p rfl ?_ rfl rfl; refine R_nil ?_)
          exact hB _ _ _ _ _ rfl rfl fun w' hS => ⟨(), rfl, trivial, hS.sublist (List.nil_sublist _)⟩
        · focus (refine S_false rfl rfl ?_; refine S_skip rfl ?_; refine RS_blk ?_; refine S_region rfl rfl ?_; refine R_p rfl ?_ rfl rfl; refine R_take (T_addN rfl rfl (by unfold fits; omega)) ?_ rfl rfl; refine R_p rfl ?_ rfl rfl; refine R_nil ?_)
          exact hJ (j + 1) _ _ ⟨by omega, hnx (by show (f, t, l) = (f2, t2, l2); rw [e1, e2, of_decide_eq_true hlq])⟩ (Sub.cons rfl (Sub.cons rfl (Sub.cons rfl Sub.nil))) sub_st (by omega)
      · rw [hno (fun e => e2 (congrArg (fun z : En => z.2.1) e))] at hr
        subst hr
        refine S_draw ([pt b2 31 (mgc x p), pt b3 31 (mgc y q)]) sub_st (by kernel_rfl) rfl (by kernel_rfl) (by kernel_rfl : _ = 44) ?_
        refine D_take 0 rfl (pev_ok rfl) ?_ rfl rfl (by kernel_rfl) (by kernel_rfl)
        refine D_take 1 rfl (T_load rfl rfl rfl rfl) ?_ rfl rfl (by kernel_rfl) (by kernel_rfl)
        refine D_take 2 rfl (pev_ok rfl) ?_ rfl rfl (by kernel_rfl) (by kernel_rfl)
        refine D_take 3 rfl (T_ixM (sz := 3) (q := j) rfl rfl rfl rfl rfl rfl hne hjl) ?_ rfl rfl (by kernel_rfl) (by kernel_rfl)
        refine D_take 4 rfl (T_fap rfl rfl rfl rfl rfl hne) ?_ rfl rfl (by kernel_rfl) (by kernel_rfl)
        refine D_take 5 rfl (T_ldr rfl rfl rfl (Srd.old h.rq (fun k _ => noOwns k)) (by omega) hat0) ?_ rfl rfl (by kernel_rfl) (by kernel_rfl)
        refine D_take 6 rfl (pev_ok rfl) ?_ rfl rfl (by kernel_rfl) (by kernel_rfl)
        refine D_take 7 rfl (T_load rfl rfl rfl rfl) ?_ rfl rfl (by kernel_rfl) (by kernel_rfl)
        refine D_take 8 rfl (pev_ok rfl) ?_ rfl rfl (by kernel_rfl) (by kernel_rfl)
        refine D_take 9 rfl (T_ixM (sz := 3) (q := j) rfl rfl rfl rfl rfl rfl hmb hjm) ?_ rfl rfl (by kernel_rfl) (by kernel_rfl)
        refine D_take 10 rfl (T_fap rfl rfl rfl rfl rfl hmb) ?_ rfl rfl (by kernel_rfl) (by kernel_rfl)
        refine D_take 11 rfl (T_ldr rfl rfl rfl (Srd.old h2.rq (fun k _ => noOwns k)) (by omega) hau0) ?_ rfl rfl (by kernel_rfl) (by kernel_rfl)
        refine D_take 12 rfl (T_decF rfl (by omega)) ?_ rfl rfl (by kernel_rfl) (by kernel_rfl)
        refine D_take 13 rfl (pev_ok rfl) ?_ rfl rfl (by kernel_rfl) (by kernel_rfl)
        refine D_take 14 rfl (pev_ok rfl) ?_ rfl rfl (by kernel_rfl) (by kernel_rfl)
        refine D_take 15 rfl (T_load rfl rfl rfl rfl) ?_ rfl rfl (by kernel_rfl) (by kernel_rfl)
        refine D_take 16 rfl (pev_ok rfl) ?_ rfl rfl (by kernel_rfl) (by kernel_rfl)
        refine D_take 17 rfl (T_ixM (sz := 3) (q := j) rfl rfl rfl rfl rfl rfl hne hjl) ?_ rfl rfl (by kernel_rfl) (by kernel_rfl)
        refine D_take 18 rfl (T_fap rfl rfl rfl rfl rfl hne) ?_ rfl rfl (by kernel_rfl) (by kernel_rfl)
        refine D_take 19 rfl (T_ldr rfl rfl rfl (Srd.old h.rq (fun k _ => noOwns k)) (by omega) hat1) ?_ rfl rfl (by kernel_rfl) (by kernel_rfl)
        refine D_take 20 rfl (pev_ok rfl) ?_ rfl rfl (by kernel_rfl) (by kernel_rfl)
        refine D_take 21 rfl (T_load rfl rfl rfl rfl) ?_ rfl rfl (by kernel_rfl) (by kernel_rfl)
        refine D_take 22 rfl (pev_ok rfl) ?_ rfl rfl (by kernel_rfl) (by kernel_rfl)
        refine D_take 23 rfl (T_ixM (sz := 3) (q := j) rfl rfl rfl rfl rfl rfl hmb hjm) ?_ rfl rfl (by kernel_rfl) (by kernel_rfl)
        refine D_take 24 rfl (T_fap rfl rfl rfl rfl rfl hmb) ?_ rfl rfl (by kernel_rfl) (by kernel_rfl)
        refine D_take 25 rfl (T_ldr rfl rfl rfl (Srd.old h2.rq (fun k _ => noOwns k)) (by omega) hau1) ?_ rfl rfl (by kernel_rfl) (by kernel_rfl)
        refine D_take 26 rfl (T_decT rfl (by omega)) ?_ rfl rfl (by kernel_rfl) (by kernel_rfl)
        refine D_take 27 rfl (pev_ok rfl) ?_ rfl rfl (by kernel_rfl) (by kernel_rfl)
        refine D_take 28 rfl (pev_ok rfl) ?_ rfl rfl (by kernel_rfl) (by kernel_rfl)
        refine D_skip 29 rfl ?_ rfl rfl (by kernel_rfl) (by kernel_rfl)
        refine D_skip 30 rfl ?_ rfl rfl (by kernel_rfl) (by kernel_rfl)
        refine D_skip 31 rfl ?_ rfl rfl (by kernel_rfl) (by kernel_rfl)
        refine D_skip 32 rfl ?_ rfl rfl (by kernel_rfl) (by kernel_rfl)
        refine D_skip 33 rfl ?_ rfl rfl (by kernel_rfl) (by kernel_rfl)
        refine D_skip 34 rfl ?_ rfl rfl (by kernel_rfl) (by kernel_rfl)
        refine D_skip 35 rfl ?_ rfl rfl (by kernel_rfl) (by kernel_rfl)
        refine D_skip 36 rfl ?_ rfl rfl (by kernel_rfl) (by kernel_rfl)
        refine D_skip 37 rfl ?_ rfl rfl (by kernel_rfl) (by kernel_rfl)
        refine D_skip 38 rfl ?_ rfl rfl (by kernel_rfl) (by kernel_rfl)
        refine D_skip 39 rfl ?_ rfl rfl (by kernel_rfl) (by kernel_rfl)
        refine D_skip 40 rfl ?_ rfl rfl (by kernel_rfl) (by kernel_rfl)
        refine D_skip 41 rfl ?_ rfl rfl (by kernel_rfl) (by kernel_rfl)
        refine D_skip 42 rfl ?_ rfl rfl (by kernel_rfl) (by kernel_rfl)
        refine D_take 43 rfl (pev_ok rfl) ?_ rfl rfl (by kernel_rfl) (by kernel_rfl)
        refine D_done ?_ (by kernel_rfl)
        skip
        focus (refine S_true rfl rfl ?_; refine S_seq rfl (S_region rfl rfl ?_); refine R_p rfl ?_ rfl rfl; refine R_nil ?_)
        exact hB _ _ _ _ _ rfl rfl fun w' hS => ⟨(), rfl, trivial, hS.sublist (List.nil_sublist _)⟩
    · rw [hno (fun e => e1 (congrArg (fun z : En => z.1) e))] at hr
      subst hr
      refine S_draw ([pt b2 31 (mgc x p), pt b3 31 (mgc y q)]) sub_st (by kernel_rfl) rfl (by kernel_rfl) (by kernel_rfl : _ = 44) ?_
      refine D_take 0 rfl (pev_ok rfl) ?_ rfl rfl (by kernel_rfl) (by kernel_rfl)
      refine D_take 1 rfl (T_load rfl rfl rfl rfl) ?_ rfl rfl (by kernel_rfl) (by kernel_rfl)
      refine D_take 2 rfl (pev_ok rfl) ?_ rfl rfl (by kernel_rfl) (by kernel_rfl)
      refine D_take 3 rfl (T_ixM (sz := 3) (q := j) rfl rfl rfl rfl rfl rfl hne hjl) ?_ rfl rfl (by kernel_rfl) (by kernel_rfl)
      refine D_take 4 rfl (T_fap rfl rfl rfl rfl rfl hne) ?_ rfl rfl (by kernel_rfl) (by kernel_rfl)
      refine D_take 5 rfl (T_ldr rfl rfl rfl (Srd.old h.rq (fun k _ => noOwns k)) (by omega) hat0) ?_ rfl rfl (by kernel_rfl) (by kernel_rfl)
      refine D_take 6 rfl (pev_ok rfl) ?_ rfl rfl (by kernel_rfl) (by kernel_rfl)
      refine D_take 7 rfl (T_load rfl rfl rfl rfl) ?_ rfl rfl (by kernel_rfl) (by kernel_rfl)
      refine D_take 8 rfl (pev_ok rfl) ?_ rfl rfl (by kernel_rfl) (by kernel_rfl)
      refine D_take 9 rfl (T_ixM (sz := 3) (q := j) rfl rfl rfl rfl rfl rfl hmb hjm) ?_ rfl rfl (by kernel_rfl) (by kernel_rfl)
      refine D_take 10 rfl (T_fap rfl rfl rfl rfl rfl hmb) ?_ rfl rfl (by kernel_rfl) (by kernel_rfl)
      refine D_take 11 rfl (T_ldr rfl rfl rfl (Srd.old h2.rq (fun k _ => noOwns k)) (by omega) hau0) ?_ rfl rfl (by kernel_rfl) (by kernel_rfl)
      refine D_take 12 rfl (T_decT rfl (by omega)) ?_ rfl rfl (by kernel_rfl) (by kernel_rfl)
      refine D_take 13 rfl (pev_ok rfl) ?_ rfl rfl (by kernel_rfl) (by kernel_rfl)
      refine D_skip 14 rfl ?_ rfl rfl (by kernel_rfl) (by kernel_rfl)
      refine D_skip 15 rfl ?_ rfl rfl (by kernel_rfl) (by kernel_rfl)
      refine D_skip 16 rfl ?_ rfl rfl (by kernel_rfl) (by kernel_rfl)
      refine D_skip 17 rfl ?_ rfl rfl (by kernel_rfl) (by kernel_rfl)
      refine D_skip 18 rfl ?_ rfl rfl (by kernel_rfl) (by kernel_rfl)
      refine D_skip 19 rfl ?_ rfl rfl (by kernel_rfl) (by kernel_rfl)
      refine D_skip 20 rfl ?_ rfl rfl (by kernel_rfl) (by kernel_rfl)
      refine D_skip 21 rfl ?_ rfl rfl (by kernel_rfl) (by kernel_rfl)
      refine D_skip 22 rfl ?_ rfl rfl (by kernel_rfl) (by kernel_rfl)
      refine D_skip 23 rfl ?_ rfl rfl (by kernel_rfl) (by kernel_rfl)
      refine D_skip 24 rfl ?_ rfl rfl (by kernel_rfl) (by kernel_rfl)
      refine D_skip 25 rfl ?_ rfl rfl (by kernel_rfl) (by kernel_rfl)
      refine D_skip 26 rfl ?_ rfl rfl (by kernel_rfl) (by kernel_rfl)
      refine D_take 27 rfl (pev_ok rfl) ?_ rfl rfl (by kernel_rfl) (by kernel_rfl)
      refine D_take 28 rfl (pev_ok rfl) ?_ rfl rfl (by kernel_rfl) (by kernel_rfl)
      refine D_skip 29 rfl ?_ rfl rfl (by kernel_rfl) (by kernel_rfl)
      refine D_skip 30 rfl ?_ rfl rfl (by kernel_rfl) (by kernel_rfl)
      refine D_skip 31 rfl ?_ rfl rfl (by kernel_rfl) (by kernel_rfl)
      refine D_skip 32 rfl ?_ rfl rfl (by kernel_rfl) (by kernel_rfl)
      refine D_skip 33 rfl ?_ rfl rfl (by kernel_rfl) (by kernel_rfl)
      refine D_skip 34 rfl ?_ rfl rfl (by kernel_rfl) (by kernel_rfl)
      refine D_skip 35 rfl ?_ rfl rfl (by kernel_rfl) (by kernel_rfl)
      refine D_skip 36 rfl ?_ rfl rfl (by kernel_rfl) (by kernel_rfl)
      refine D_skip 37 rfl ?_ rfl rfl (by kernel_rfl) (by kernel_rfl)
      refine D_skip 38 rfl ?_ rfl rfl (by kernel_rfl) (by kernel_rfl)
      refine D_skip 39 rfl ?_ rfl rfl (by kernel_rfl) (by kernel_rfl)
      refine D_skip 40 rfl ?_ rfl rfl (by kernel_rfl) (by kernel_rfl)
      refine D_skip 41 rfl ?_ rfl rfl (by kernel_rfl) (by kernel_rfl)
      refine D_skip 42 rfl ?_ rfl rfl (by kernel_rfl) (by kernel_rfl)
      refine D_take 43 rfl (pev_ok rfl) ?_ rfl rfl (by kernel_rfl) (by kernel_rfl)
      refine D_done ?_ (by kernel_rfl)
      skip
      focus (refine S_true rfl rfl ?_; refine S_seq rfl (S_region rfl rfl ?_); refine R_p rfl ?_ rfl rfl; refine R_nil ?_)
      exact hB _ _ _ _ _ rfl rfl fun w' hS => ⟨(), rfl, trivial, hS.sublist (List.nil_sublist _)⟩
  have hlx := h.ln
  have hly := h2.ln
  have he5 : x.es = y.es := eq_uptoE (by omega) (fun i hi => hok i (by omega))
  focus (refine S_seq rfl ?_; refine S_seq rfl (S_region rfl rfl ?_); (iterate 2 refine R_p rfl ?_ rfl rfl); refine R_take (T_load rfl rfl rfl rfl) ?_ rfl rfl; refine R_p rfl ?_ rfl rfl; refine R_take (T_decF rfl (by omega)) ?_ rfl rfl; refine R_nil ?_; refine S_false rfl rfl ?_; refine S_exit rfl rfl ?_; refine S_seq rfl ?_; refine S_seq rfl (S_region rfl rfl ?_); refine R_p rfl ?_ rfl rfl; refine R_nil ?_; refine S_block rfl ?_)
  refine S_loop (X := Nat) (fun j => [(2, .pointer (some ⟨b2, 0, none⟩)), (3, .pointer (some ⟨b3, 0, none⟩)), (6, .int .i64 (j : Int))]) (fun _ => [pt b2 31 (mgc x p), pt b3 31 (mgc y q)]) (fun j => j ≤ p.cn ∧ ∀ i, i < j → x.cf.getD i 0 = y.cf.getD i 0) (fun j => p.cn - j) rfl 0 ⟨Nat.zero_le _, fun i hi => absurd hi (Nat.not_lt_zero _)⟩ (Sub.cons rfl (Sub.cons rfl (Sub.cons rfl Sub.nil))) sub_st ?_
  clear hjl hj hok hJ J j
  rintro j ⟨hj, hok⟩ J hJ
  have hcx := h.hc
  have hcy := h2.hc
  rcases Nat.lt_or_ge j p.cn with hjl | hjl
  · have hnc := hnc (by omega)
    have hmc := hmc (by omega)
    have hjm : j < q.cn := by omega
    have hat := zv_at (l := x.cf) (j := j) (by omega)
    have hau := zv_at (l := y.cf) (j := j) (by omega)
    have hnx : x.cf.getD j 0 = y.cf.getD j 0 → ∀ i, i < j + 1 → x.cf.getD i 0 = y.cf.getD i 0 := fun e i hi => by
      rcases Nat.lt_or_ge i j with h3 | h3
      · exact hok i h3
      · rw [show i = j by omega]; exact e
    have hno : x.cf.getD j 0 ≠ y.cf.getD j 0 → (eqL x y).all id = false := fun e => cf_no (j := j) e
    generalize x.cf.getD j 0 = m at hat hnx hno
    generalize y.cf.getD j 0 = m2 at hau hnx hno
    unfold zv at hat hau
    focus (refine S_seq rfl ?_; refine S_seq rfl (S_region rfl rfl ?_); (iterate 3 refine R_p rfl ?_ rfl rfl); refine R_take (T_load rfl rfl rfl rfl) ?_ rfl rfl; refine R_p rfl ?_ rfl rfl; refine R_take (T_decT rfl (by omega)) ?_ rfl rfl; refine R_nil ?_; refine S_true rfl rfl ?_; refine S_skip rfl ?_; refine S_seq rfl ?_; refine S_block rfl ?_; refine S_seq rfl ?_)
    by_cases e1 : m = m2
    · skip
      refine S_draw ([pt b2 31 (mgc x p), pt b3 31 (mgc y q)]) sub_st (by kernel_rfl) rfl (by kernel_rfl) (by kernel_rfl : _ = 13) ?_
      refine D_take 0 rfl (pev_ok rfl) ?_ rfl rfl (by kernel_rfl) (by kernel_rfl)
      refine D_take 1 rfl (pev_ok rfl) ?_ rfl rfl (by kernel_rfl) (by kernel_rfl)
      refine D_take 2 rfl (T_load rfl rfl rfl rfl) ?_ rfl rfl (by kernel_rfl) (by kernel_rfl)
      refine D_take 3 rfl (pev_ok rfl) ?_ rfl rfl (by kernel_rfl) (by kernel_rfl)
      refine D_take 4 rfl (T_ixM (sz := 1) (q := j) rfl rfl rfl rfl rfl rfl hnc hjl) ?_ rfl rfl (by kernel_rfl) (by kernel_rfl)
      (refine D_take 5 rfl (T_ldr (v := .int .i64 m) rfl rfl rfl (Srd.old h.rc (fun k _ => noOwns k)) (by omega) (by rw [Nat.mul_one]; exact hat)) ?_ rfl rfl (by kernel_rfl) (by kernel_rfl))
      refine D_take 6 rfl (pev_ok rfl) ?_ rfl rfl (by kernel_rfl) (by kernel_rfl)
      refine D_take 7 rfl (pev_ok rfl) ?_ rfl rfl (by kernel_rfl) (by kernel_rfl)
      refine D_take 8 rfl (T_load rfl rfl rfl rfl) ?_ rfl rfl (by kernel_rfl) (by kernel_rfl)
      refine D_take 9 rfl (pev_ok rfl) ?_ rfl rfl (by kernel_rfl) (by kernel_rfl)
      refine D_take 10 rfl (T_ixM (sz := 1) (q := j) rfl rfl rfl rfl rfl rfl hmc hjm) ?_ rfl rfl (by kernel_rfl) (by kernel_rfl)
      (refine D_take 11 rfl (T_ldr (v := .int .i64 m2) rfl rfl rfl (Srd.old h2.rc (fun k _ => noOwns k)) (by omega) (by rw [Nat.mul_one]; exact hau)) ?_ rfl rfl (by kernel_rfl) (by kernel_rfl))
      refine D_take 12 rfl (T_decF rfl (by omega)) ?_ rfl rfl (by kernel_rfl) (by kernel_rfl)
      refine D_done ?_ (by kernel_rfl)
      skip
      focus (refine S_false rfl rfl ?_; refine S_skip rfl ?_; refine RS_blk ?_; refine S_region rfl rfl ?_; refine R_p rfl ?_ rfl rfl; refine R_take (T_addN rfl rfl (by unfold fits; omega)) ?_ rfl rfl; refine R_p rfl ?_ rfl rfl; refine R_nil ?_)
      exact hJ (j + 1) _ _ ⟨by omega, hnx e1⟩ (Sub.cons rfl (Sub.cons rfl (Sub.cons rfl Sub.nil))) sub_st (by omega)
    · rw [hno e1] at hr
      subst hr
      refine S_draw ([pt b2 31 (mgc x p), pt b3 31 (mgc y q)]) sub_st (by kernel_rfl) rfl (by kernel_rfl) (by kernel_rfl : _ = 13) ?_
      refine D_take 0 rfl (pev_ok rfl) ?_ rfl rfl (by kernel_rfl) (by kernel_rfl)
      refine D_take 1 rfl (pev_ok rfl) ?_ rfl rfl (by kernel_rfl) (by kernel_rfl)
      refine D_take 2 rfl (T_load rfl rfl rfl rfl) ?_ rfl rfl (by kernel_rfl) (by kernel_rfl)
      refine D_take 3 rfl (pev_ok rfl) ?_ rfl rfl (by kernel_rfl) (by kernel_rfl)
      refine D_take 4 rfl (T_ixM (sz := 1) (q := j) rfl rfl rfl rfl rfl rfl hnc hjl) ?_ rfl rfl (by kernel_rfl) (by kernel_rfl)
      (refine D_take 5 rfl (T_ldr (v := .int .i64 m) rfl rfl rfl (Srd.old h.rc (fun k _ => noOwns k)) (by omega) (by rw [Nat.mul_one]; exact hat)) ?_ rfl rfl (by kernel_rfl) (by kernel_rfl))
      refine D_take 6 rfl (pev_ok rfl) ?_ rfl rfl (by kernel_rfl) (by kernel_rfl)
      refine D_take 7 rfl (pev_ok rfl) ?_ rfl rfl (by kernel_rfl) (by kernel_rfl)
      refine D_take 8 rfl (T_load rfl rfl rfl rfl) ?_ rfl rfl (by kernel_rfl) (by kernel_rfl)
      refine D_take 9 rfl (pev_ok rfl) ?_ rfl rfl (by kernel_rfl) (by kernel_rfl)
      refine D_take 10 rfl (T_ixM (sz := 1) (q := j) rfl rfl rfl rfl rfl rfl hmc hjm) ?_ rfl rfl (by kernel_rfl) (by kernel_rfl)
      (refine D_take 11 rfl (T_ldr (v := .int .i64 m2) rfl rfl rfl (Srd.old h2.rc (fun k _ => noOwns k)) (by omega) (by rw [Nat.mul_one]; exact hau)) ?_ rfl rfl (by kernel_rfl) (by kernel_rfl))
      refine D_take 12 rfl (T_decT rfl (by omega)) ?_ rfl rfl (by kernel_rfl) (by kernel_rfl)
      refine D_done ?_ (by kernel_rfl)
      skip
      focus (refine S_true rfl rfl ?_; refine S_seq rfl (S_region rfl rfl ?_); refine R_p rfl ?_ rfl rfl; refine R_nil ?_)
      exact hB _ _ _ _ _ rfl rfl fun w' hS => ⟨(), rfl, trivial, hS.sublist (List.nil_sublist _)⟩
  have he9 : x.cf = y.cf := cf_eq (by omega) (fun i hi => hok i (by omega))
  have hr2 : decide (x.dt = y.dt) = r := by
    rw [← hr, eqL_eq, decide_eq_true he0, decide_eq_true he1, decide_eq_true he2, decide_eq_true he3, he4, decide_eq_true he5, decide_eq_true he6, he7, decide_eq_true he8, decide_eq_true he9]
    cases decide (x.dt = y.dt) <;> rfl
  focus (refine S_seq rfl ?_; refine S_seq rfl (S_region rfl rfl ?_); (iterate 3 refine R_p rfl ?_ rfl rfl); refine R_take (T_load rfl rfl rfl rfl) ?_ rfl rfl; refine R_p rfl ?_ rfl rfl; refine R_take (T_decF rfl (by omega)) ?_ rfl rfl; refine R_nil ?_; refine S_false rfl rfl ?_; refine S_exit rfl rfl ?_; refine S_seq rfl (S_region rfl rfl ?_); refine R_p rfl ?_ rfl rfl; refine R_take (T_load rfl rfl rfl rfl) ?_ rfl rfl; refine R_p rfl ?_ rfl rfl; refine R_take (T_load rfl rfl rfl rfl) ?_ rfl rfl; (refine R_eff (E_hv0 (f := 15) ⟨_, Tryd.func15, rfl, by kernel_rfl⟩ (fun w hS => s01_k w p.dA q.dA p.dn p.dc q.dn q.dc x.dt y.dt (h.keep hS.kpO).bd (h2.keep hS.kpO).bd _ hr2) rfl rfl (fun _ => rfl)) ?_ rfl rfl; rintro _ _ ⟨_, rfl, _, rfl⟩); refine R_p rfl ?_ rfl rfl; refine R_nil ?_)
  exact hB _ _ _ _ _ rfl rfl fun w' hS => ⟨(), rfl, trivial, hS.sublist (List.nil_sublist _)⟩
end Go.Proofs.YtdbehejbeioboaaDoor
