/- The document's Agreed. -/
import Derived.Test.YtlihhjldkopfhaaCoT
import Derived.Test.YtlihhjldkopfhaaCoL
namespace Go.Proofs.Ytlihhjldkopfhaa
open Go.RowKit
open Asn (pt row rb)
set_option linter.unusedVariables false
set_option linter.unusedSimpArgs false
--@use N

section
variable {n : Nat} {w0 : World} {M : Nat → Prop} {T : Slots} {H Hr : List Asn} {dd : Option Tmp} {tt : TypeId} {pos : String} {af : Array Edge} {g : Option (Nat × Bool)} {x y z : Operand} {ts : Array TypeId} {A A1 A2 : Option Addr} {m c m1 cc1 m2 cc2 : Nat} {ms ks : List Int} {L : List (Int × Nat)} {a : Int}
theorem E_idxW {r : Nat} (hx : oget T x = some (.slice A m c)) (hy : oget T y = some (zv a)) (hs : Srd w0 M H 2 A m (mtc L)) (hm : m ≤ 900) (hr : idxN L a = r) :
    Ef Try.prog n w0 M T H ⟨dd, .call ⟨.value (.func 48), #[x, y], ts⟩, tt, pos, af, g⟩ (fun u H' => u = uv r ∧ H' = H) := by
  refine (E_gv ⟨_, Try.func48, rfl, by kernel_rfl⟩ (vs := [.slice A m c, zv a]) (by simp [ogets, hx, hy]) fun w hS => index14_any w A m c L a (hs.rd w hS) hm).mono ?_
  rintro v H' ⟨_, rfl, _, rfl⟩ w hS
  exact ⟨_, _, rfl, ⟨by rw [hr], rfl⟩, hS⟩
theorem E_rmajW {r : Bool} (hx : oget T x = some (cfv A m c)) (hy : oget T y = some (.slice A2 m2 cc2)) (hs : Srd w0 M H 1 A m (ms.map zv)) (hs2 : Srd w0 M H 1 A2 m2 (ks.map zv)) (hm : m ≤ 900) (hm2 : m2 ≤ 900) (hr : rmajB ms ks = r) :
    Ef Try.prog n w0 M T H ⟨dd, .call ⟨.value (.func 33), #[x, y], ts⟩, tt, pos, af, g⟩ (fun u H' => u = .bool r ∧ H' = H) := by
  refine (E_gv ⟨_, Try.func33, rfl, by kernel_rfl⟩ (vs := [cfv A m c, .slice A2 m2 cc2]) (by simp [ogets, hx, hy]) fun w hS => rmaj_any w A A2 m c m2 cc2 ms ks (hs.rd w hS) (hs2.rd w hS) hm hm2).mono ?_
  rintro v H' ⟨_, rfl, _, rfl⟩ w hS
  exact ⟨_, _, rfl, ⟨by rw [hr], rfl⟩, hS⟩
end
theorem filt_next (p : Int → Bool) (ms : List Int) (j : Nat) (hj : j < ms.length) : (ms.take (j + 1)).filter p = (ms.take j).filter p ++ if p (ms.getD j 0) then [ms.getD j 0] else [] := by
  rw [List.take_succ_eq_append_getElem hj, List.filter_append]
  simp [List.getD, hj, List.filter_cons]
set_option maxRecDepth 100000 in
set_option maxHeartbeats 4000000 in
theorem ragr_any (w : World) (A A2 : Option Addr) (n c n2 c2' : Nat) (ms : List Int) (L : List (Int × Nat)) (h : Rd w All 1 A n (ms.map zv)) (h2 : Rd w All 2 A2 n2 (mtc L)) (hn : n ≤ 900) (hn2 : n2 ≤ 900) :
    Gives Try.prog 34 [cfv A n c, .slice A2 n2 c2'] [] w (X := Unit) (fun _ => uv (ragN L ms ms.length)) (fun _ => True) (fun _ => []) := by
  refine gives_S Try.func34 rfl Try.ntmps34 Try.results34 (by simp) (St.enter w) (fun B hB => ?_)
  have hl : ms.length = n := by have := h.1; simpa using this
  have hne : 0 < n → A ≠ none := fun h0 => by obtain ⟨ad, rfl, _⟩ := h.2 h0; simp
  subst hl
  have hld : ∀ j, j < ms.length → (ms.map zv)[j]? = some (zv (ms.getD j 0)) := fun j hj => zv_at hj
  focus (refine S_seq rfl ?_; refine S_region rfl rfl ?_; (refine R_eff (E_boxa rfl) ?_ rfl rfl; rintro _ _ ⟨b, rfl, rfl⟩); refine R_p rfl ?_ rfl rfl; refine R_nil ?_; refine S_seq rfl ?_; refine S_region rfl rfl ?_; refine R_p rfl ?_ rfl rfl; refine R_nil ?_; refine S_seq rfl ?_; refine S_seq rfl ?_; refine S_region rfl rfl ?_; refine R_p rfl ?_ rfl rfl; refine R_take (T_load rfl rfl rfl (by first | rfl | assumption)) ?_ rfl rfl; refine R_p rfl ?_ rfl rfl; refine R_p rfl ?_ rfl rfl; refine R_nil ?_; refine S_block rfl ?_)
  refine S_loop (X := Nat) (fun j => [(1, .slice A2 n2 c2'), (2, .pointer (some ⟨b, 0, none⟩)), (5, uv (ragN L ms j)), (13, .slice A ms.length c), (14, .int .i64 (ms.length : Int)), (15, .int .i64 (j : Int))]) (fun _ => [pt b 24 [.slice A ms.length c]]) (fun j => j ≤ ms.length) (fun j => ms.length - j) rfl 0 (Nat.zero_le _) (Sub.cons rfl (Sub.cons rfl (Sub.cons rfl (Sub.cons rfl (Sub.cons rfl (Sub.cons rfl Sub.nil)))))) (fun _ h => h) ?_
  rintro j hj J hJ
  have hnx := rag_next L ms j
  obtain ⟨q, hq⟩ : ∃ q, ragN L ms j = q := ⟨_, rfl⟩
  rw [hq] at hnx ⊢
  rcases Nat.lt_or_ge j ms.length with hjl | hjl
  rotate_left
  · have hjn : j = ms.length := by omega
    subst hjn
    focus (refine S_seq rfl ?_; refine S_region rfl rfl ?_; refine R_take (T_decF rfl (by omega)) ?_ rfl rfl; refine R_nil ?_; refine S_seq rfl ?_; refine S_false rfl rfl ?_; refine S_exit rfl rfl ?_; refine S_seq rfl ?_; refine S_region rfl rfl ?_; refine R_p rfl ?_ rfl rfl; refine R_p rfl ?_ rfl rfl; refine R_nil ?_)
    refine hB _ _ _ _ _ rfl rfl fun w' hS => ⟨(), ?_, trivial, hS.sublist (List.nil_sublist _)⟩
    rw [hq]
    rfl
  have hnx := hnx hjl
  have hld' := hld j hjl
  obtain ⟨x, hx⟩ : ∃ x, ms.getD j 0 = x := ⟨_, rfl⟩
  rw [hx] at hnx hld'
  obtain ⟨at_, hat⟩ : ∃ k, idxN L x = k := ⟨_, rfl⟩
  rw [hat] at hnx
  focus (refine S_seq rfl ?_; refine S_region rfl rfl ?_; refine R_take (T_decT rfl (by omega)) ?_ rfl rfl; refine R_nil ?_; refine S_seq rfl ?_; refine S_true rfl rfl ?_; refine S_skip rfl ?_; refine S_seq rfl ?_; refine S_block rfl ?_; refine S_seq rfl ?_; refine S_region rfl rfl ?_; refine R_take (T_ixN rfl rfl rfl rfl rfl rfl (by first | assumption | exact hne (by omega) | exact hne2 (by omega)) (by omega)) ?_ rfl rfl; refine R_take (T_ldr rfl rfl rfl (Srd.old h (fun k _ => noOwns k)) (by omega) hld') ?_ rfl rfl; refine R_p rfl ?_ rfl rfl; refine R_nil ?_; refine S_seq rfl ?_; refine S_region rfl rfl ?_; refine R_p rfl ?_ rfl rfl; refine R_p rfl ?_ rfl rfl; (refine R_eff (E_idxW (L := L) rfl rfl (Srd.old h2 (fun k _ => noOwns k)) hn2 hat) ?_ rfl rfl; rintro _ _ ⟨rfl, rfl⟩); refine R_p rfl ?_ rfl rfl; refine R_nil ?_; refine S_seq rfl ?_; refine S_region rfl rfl ?_; refine R_p rfl ?_ rfl rfl; refine R_nil ?_; refine S_seq rfl ?_; refine S_seq rfl ?_; refine S_region rfl rfl ?_; refine R_p rfl ?_ rfl rfl; refine R_take (T_load rfl rfl rfl (by first | rfl | assumption)) ?_ rfl rfl; refine R_p rfl ?_ rfl rfl; refine R_p rfl ?_ rfl rfl; refine R_nil ?_; refine S_block rfl ?_)
  refine S_loop (X := Nat × Option Addr × Nat) (fun y => [(1, .slice A2 n2 c2'), (2, .pointer (some ⟨b, 0, none⟩)), (5, uv q), (8, uv at_), (9, .slice y.2.1 ((ms.take y.1).filter fun z => decide (at_ ≤ idxN L z)).length y.2.2), (13, .slice A ms.length c), (14, .int .i64 (ms.length : Int)), (15, .int .i64 (j : Int)), (23, .slice A ms.length c), (24, .int .i64 (ms.length : Int)), (25, .int .i64 (y.1 : Int))]) (fun y => [row 3 1 y.2.1 ((ms.take y.1).filter fun z => decide (at_ ≤ idxN L z)).length y.2.2 (((ms.take y.1).filter fun z => decide (at_ ≤ idxN L z)).map zv), pt b 24 [.slice A ms.length c]]) (fun y => y.1 ≤ ms.length) (fun y => ms.length - y.1) rfl (0, none, 0) (Nat.zero_le _) (Sub.cons rfl (Sub.cons rfl (Sub.cons rfl (Sub.cons rfl (Sub.cons rfl (Sub.cons rfl (Sub.cons rfl (Sub.cons rfl (Sub.cons rfl (Sub.cons rfl (Sub.cons rfl Sub.nil))))))))))) (fun w hS => (hS.nilrow _ _).sublist (.cons_cons _ (.cons_cons _ (List.nil_sublist _)))) ?_
  rintro ⟨i, A3, c3⟩ hi J2 hJ2
  simp only at hi ⊢
  have hnf := filt_next (fun z => decide (at_ ≤ idxN L z)) ms i
  have hlen : ((ms.take i).filter fun z => decide (at_ ≤ idxN L z)).length ≤ (ms.take i).length := List.length_filter_le _ _
  have hmj := rmaj_filter ms (fun z => decide (at_ ≤ idxN L z))
  obtain ⟨R, hR⟩ : ∃ R, ((ms.take i).filter fun z => decide (at_ ≤ idxN L z)) = R := ⟨_, rfl⟩
  rw [hR] at hnf hlen ⊢
  simp only [List.length_take] at hlen
  rcases Nat.lt_or_ge i ms.length with hil | hil
  rotate_left
  · have hin : i = ms.length := by omega
    subst hin
    rw [List.take_length] at hR
    rw [hR] at hmj
    have hR9 : R.length ≤ 900 := by omega
    obtain ⟨r, hr⟩ : ∃ r, decide (ms.length < 2 * ms.countP (fun z => decide (at_ ≤ idxN L z))) = r := ⟨_, rfl⟩
    rw [hr] at hmj
    cases r
    · rw [if_neg (of_decide_eq_false hr)] at hnx
      focus (refine S_seq rfl ?_; refine S_region rfl rfl ?_; refine R_take (T_decF rfl (by omega)) ?_ rfl rfl; refine R_nil ?_; refine S_seq rfl ?_; refine S_false rfl rfl ?_; refine S_exit rfl rfl ?_; refine S_seq rfl ?_; refine S_region rfl rfl ?_; refine R_take (T_loada (ds := [.slice A ms.length c]) rfl rfl rfl rfl (fun j v h => by simpa using h)) ?_ rfl rfl; refine R_p rfl ?_ rfl rfl; (refine R_eff (E_rmajW (ms := ms) (ks := R) rfl rfl (Srd.old h (fun k _ => noOwns k)) (Srd.row (n := R.length) (c := c3)) hn hR9 hmj) ?_ rfl rfl; rintro _ _ ⟨rfl, rfl⟩); refine R_nil ?_; refine S_false rfl rfl ?_; refine S_skip rfl ?_; refine RS_blk ?_; refine S_region rfl rfl ?_; refine R_take (T_addN rfl rfl (by unfold fits; omega)) ?_ rfl rfl; refine R_p rfl ?_ rfl rfl; refine R_nil ?_)
      refine hJ (j + 1) _ _ (by omega) ?_ (fun w' hS => hS.sublist (.cons _ (.refl _))) (by omega)
      rw [hnx]
      exact (Sub.cons rfl (Sub.cons rfl (Sub.cons rfl (Sub.cons rfl (Sub.cons rfl (Sub.cons rfl Sub.nil))))))
    · rw [if_pos (of_decide_eq_true hr)] at hnx
      focus (refine S_seq rfl ?_; refine S_region rfl rfl ?_; refine R_take (T_decF rfl (by omega)) ?_ rfl rfl; refine R_nil ?_; refine S_seq rfl ?_; refine S_false rfl rfl ?_; refine S_exit rfl rfl ?_; refine S_seq rfl ?_; refine S_region rfl rfl ?_; refine R_take (T_loada (ds := [.slice A ms.length c]) rfl rfl rfl rfl (fun j v h => by simpa using h)) ?_ rfl rfl; refine R_p rfl ?_ rfl rfl; (refine R_eff (E_rmajW (ms := ms) (ks := R) rfl rfl (Srd.old h (fun k _ => noOwns k)) (Srd.row (n := R.length) (c := c3)) hn hR9 hmj) ?_ rfl rfl; rintro _ _ ⟨rfl, rfl⟩); refine R_nil ?_; refine S_true rfl rfl ?_; refine S_region rfl rfl ?_; refine R_p rfl ?_ rfl rfl; refine R_p rfl ?_ rfl rfl; refine R_take (T_maxN rfl rfl) ?_ rfl rfl; refine R_p rfl ?_ rfl rfl; refine R_nil ?_; refine RS_blk ?_; refine S_region rfl rfl ?_; refine R_take (T_addN rfl rfl (by unfold fits; omega)) ?_ rfl rfl; refine R_p rfl ?_ rfl rfl; refine R_nil ?_)
      refine hJ (j + 1) _ _ (by omega) ?_ (fun w' hS => hS.sublist (.cons _ (.refl _))) (by omega)
      rw [hnx]
      exact (Sub.cons rfl (Sub.cons rfl (Sub.cons rfl (Sub.cons rfl (Sub.cons rfl (Sub.cons rfl Sub.nil))))))
  have hnf := hnf hil
  have hld2 := hld i hil
  obtain ⟨y, hy⟩ : ∃ y, ms.getD i 0 = y := ⟨_, rfl⟩
  rw [hy] at hnf hld2
  obtain ⟨v, hv⟩ : ∃ k, idxN L y = k := ⟨_, rfl⟩
  rw [hv] at hnf
  have hR9 : R.length ≤ 1800 := by omega
  by_cases hav : at_ ≤ v
  · skip
    rw [show decide (at_ ≤ v) = true from decide_eq_true hav, if_pos rfl] at hnf
    focus (refine S_seq rfl ?_; refine S_region rfl rfl ?_; refine R_take (T_decT rfl (by omega)) ?_ rfl rfl; refine R_nil ?_; refine S_seq rfl ?_; refine S_true rfl rfl ?_; refine S_skip rfl ?_; refine S_seq rfl ?_; refine S_block rfl ?_; refine S_seq rfl ?_; refine S_region rfl rfl ?_; refine R_take (T_ixN rfl rfl rfl rfl rfl rfl (by first | assumption | exact hne (by omega) | exact hne2 (by omega)) (by omega)) ?_ rfl rfl; refine R_take (T_ldr rfl rfl rfl (Srd.old h (fun k _ => noOwns k)) (by omega) hld2) ?_ rfl rfl; refine R_p rfl ?_ rfl rfl; refine R_nil ?_; refine S_seq rfl ?_; refine S_region rfl rfl ?_; refine R_p rfl ?_ rfl rfl; refine R_p rfl ?_ rfl rfl; (refine R_eff (E_idxW (L := L) rfl rfl (Srd.old h2 (fun k _ => noOwns k)) hn2 hv) ?_ rfl rfl; rintro _ _ ⟨rfl, rfl⟩); refine R_p rfl ?_ rfl rfl; refine R_take (T_decT rfl (by omega)) ?_ rfl rfl; refine R_nil ?_; refine S_true rfl rfl ?_; refine S_region rfl rfl ?_; refine R_p rfl ?_ rfl rfl; refine R_p rfl ?_ rfl rfl; (refine R_eff (E_lit1 (m := 1) (vs := [zv y]) rfl rfl rfl rfl rfl rfl rfl (by simp [zv, Value.oneCell']) (by decide)) ?_ rfl rfl; rintro _ _ ⟨bx, rfl, rfl⟩); (refine R_eff (E_app1 rfl rfl rfl rfl rfl rfl rfl (Srd.pt (ds := [zv y]) rfl (fun j u hj => by rw [Nat.zero_add]; exact hj)) (by simp [zv, Value.oneCell']) (by show _ * 8 ≤ _; omega) (by unfold maxLen; omega)) ?_ rfl rfl; rintro _ _ ⟨A7, c7, rfl, rfl⟩); refine R_p rfl ?_ rfl rfl; refine R_nil ?_; refine RS_blk ?_; refine S_region rfl rfl ?_; refine R_take (T_addN rfl rfl (by unfold fits; omega)) ?_ rfl rfl; refine R_p rfl ?_ rfl rfl; refine R_nil ?_)
    have e1 : (R ++ [y]).length = R.length + 1 := by simp
    refine hJ2 (i + 1, A7, c7) _ _ (by show i + 1 ≤ _; omega) ?_ (fun w' hS => ?_) (by show ms.length - (i + 1) < _; omega)
    · dsimp only
      rw [hnf, e1]
      exact (Sub.cons rfl (Sub.cons rfl (Sub.cons rfl (Sub.cons rfl (Sub.cons rfl (Sub.cons rfl (Sub.cons rfl (Sub.cons rfl (Sub.cons rfl (Sub.cons rfl (Sub.cons rfl Sub.nil)))))))))))
    · dsimp only
      rw [hnf, e1, List.map_append]
      exact hS.sublist (.cons_cons _ (.cons _ (.refl _)))
  · skip
    rw [show decide (at_ ≤ v) = false from decide_eq_false hav, if_neg (by decide), List.append_nil] at hnf
    focus (refine S_seq rfl ?_; refine S_region rfl rfl ?_; refine R_take (T_decT rfl (by omega)) ?_ rfl rfl; refine R_nil ?_; refine S_seq rfl ?_; refine S_true rfl rfl ?_; refine S_skip rfl ?_; refine S_seq rfl ?_; refine S_block rfl ?_; refine S_seq rfl ?_; refine S_region rfl rfl ?_; refine R_take (T_ixN rfl rfl rfl rfl rfl rfl (by first | assumption | exact hne (by omega) | exact hne2 (by omega)) (by omega)) ?_ rfl rfl; refine R_take (T_ldr rfl rfl rfl (Srd.old h (fun k _ => noOwns k)) (by omega) hld2) ?_ rfl rfl; refine R_p rfl ?_ rfl rfl; refine R_nil ?_; refine S_seq rfl ?_; refine S_region rfl rfl ?_; refine R_p rfl ?_ rfl rfl; refine R_p rfl ?_ rfl rfl; (refine R_eff (E_idxW (L := L) rfl rfl (Srd.old h2 (fun k _ => noOwns k)) hn2 hv) ?_ rfl rfl; rintro _ _ ⟨rfl, rfl⟩); refine R_p rfl ?_ rfl rfl; refine R_take (T_decF rfl (by show ¬ (_ : Int) ≥ _; omega)) ?_ rfl rfl; refine R_nil ?_; refine S_false rfl rfl ?_; refine S_skip rfl ?_; refine RS_blk ?_; refine S_region rfl rfl ?_; refine R_take (T_addN rfl rfl (by unfold fits; omega)) ?_ rfl rfl; refine R_p rfl ?_ rfl rfl; refine R_nil ?_)
    refine hJ2 (i + 1, A3, c3) _ _ (by show i + 1 ≤ _; omega) ?_ (fun w' hS => ?_) (by show ms.length - (i + 1) < _; omega)
    · dsimp only
      rw [hnf]
      exact (Sub.cons rfl (Sub.cons rfl (Sub.cons rfl (Sub.cons rfl (Sub.cons rfl (Sub.cons rfl (Sub.cons rfl (Sub.cons rfl (Sub.cons rfl (Sub.cons rfl (Sub.cons rfl Sub.nil)))))))))))
    · dsimp only
      rw [hnf]
      exact hS
end Go.Proofs.Ytlihhjldkopfhaa
