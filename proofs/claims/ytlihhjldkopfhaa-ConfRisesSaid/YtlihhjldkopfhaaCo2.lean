/- Members: Check; where one is; Has. -/
import Derived.Test.YtlihhjldkopfhaaCo1
namespace Go.Proofs.Ytlihhjldkopfhaa
open Go.RowKit
open Asn (pt row rb)
set_option linter.unusedVariables false
set_option linter.unusedSimpArgs false
--@use N

def cfv (A : Option Addr) (n c : Nat) : Value := .agg #[.slice A n c]
def chkE (ms : List Int) : Int := if right ms then 0 else 240
theorem zv_at {l : List Int} {j : Nat} (h : j < l.length) : (l.map zv)[j]? = some (zv (l.getD j 0)) := by
  simp [List.getD, h]
set_option maxRecDepth 100000 in
set_option maxHeartbeats 4000000 in
theorem check_any (w : World) (A : Option Addr) (n c : Nat) (ms : List Int) (h : Rd w All 1 A n (ms.map zv)) (hn : n ≤ 1000) :
    Gives Try.prog 26 [cfv A n c] [] w (X := Unit) (fun _ => .int .i64 (chkE ms)) (fun _ => True) (fun _ => []) := by
  refine gives_S Try.func26 rfl Try.ntmps26 Try.results26 (by simp) (St.enter w) (fun B hB => ?_)
  have hl : ms.length = n := by have := h.1; simpa using this
  have hne : 0 < n → A ≠ none := fun h0 => by obtain ⟨ad, rfl, _⟩ := h.2 h0; simp
  subst hl
  have hld : ∀ j, j < ms.length → (ms.map zv)[j]? = some (zv (ms.getD j 0)) := fun j hj => zv_at hj
  focus (refine S_seq rfl ?_; refine S_region rfl rfl ?_; (refine R_eff (E_boxa rfl) ?_ rfl rfl; rintro _ _ ⟨b, rfl, rfl⟩); refine R_p rfl ?_ rfl rfl; refine R_nil ?_; refine S_seq rfl ?_; refine S_region rfl rfl ?_; refine R_p rfl ?_ rfl rfl; refine R_nil ?_; refine S_seq rfl ?_; refine S_region rfl rfl ?_; refine R_p rfl ?_ rfl rfl; refine R_take (T_load rfl rfl rfl (by first | rfl | assumption)) ?_ rfl rfl; refine R_p rfl ?_ rfl rfl; refine R_p rfl ?_ rfl rfl; refine R_p rfl ?_ rfl rfl; refine R_nil ?_; refine S_seq rfl ?_; refine S_seq rfl ?_; refine S_region rfl rfl ?_; refine R_p rfl ?_ rfl rfl; refine R_take (T_load rfl rfl rfl (by first | rfl | assumption)) ?_ rfl rfl; refine R_p rfl ?_ rfl rfl; refine R_p rfl ?_ rfl rfl; refine R_nil ?_; refine S_block rfl ?_)
  obtain ⟨st, hst⟩ : ∃ st : Nat → Bool × Int, ∀ j, st j = chk (ms.take j) (decide ((0 : Int) < (ms.length : Int)), 0) := ⟨_, fun _ => rfl⟩
  have hs0 := hst 0
  have hsn := hst ms.length
  have hnx : ∀ j, j < ms.length → st (j + 1) = ((st j).1 && memb (ms.getD j 0) && decide ((st j).2 < ms.getD j 0), ms.getD j 0) := fun j hj => by rw [hst, hst, chk_next ms _ j hj]
  refine S_loop (X := Nat) (fun j => [(3, zv (st j).2), (4, .bool (st j).1), (12, .slice A ms.length c), (13, .int .i64 (ms.length : Int)), (14, .int .i64 (j : Int))]) (fun _ => _) (fun j => j ≤ ms.length) (fun j => ms.length - j) rfl 0 (Nat.zero_le _) ?_ (fun _ h => h) ?_
  · rw [hs0]; exact (Sub.cons rfl (Sub.cons rfl (Sub.cons rfl (Sub.cons rfl (Sub.cons rfl Sub.nil)))))
  intro j hj J hJ
  obtain ⟨x, hx⟩ : ∃ x, ms.getD j 0 = x := ⟨_, rfl⟩
  have hnx' := hnx j
  have hld' := hld j
  obtain ⟨b, hb⟩ : ∃ b, (st j).1 = b := ⟨_, rfl⟩
  obtain ⟨y, hy⟩ : ∃ y, (st j).2 = y := ⟨_, rfl⟩
  rw [hx] at hnx' hld'
  rw [hb, hy] at hnx' ⊢
  focus (refine S_seq rfl ?_; refine S_region rfl rfl ?_; refine R_p rfl ?_ rfl rfl; refine R_nil ?_; refine S_seq rfl ?_; (refine S_if rfl rfl (fun hs => ?_) (fun hs => ?_)); refine S_skip rfl ?_; refine S_seq rfl ?_; refine S_block rfl ?_; refine S_seq rfl ?_; refine S_region rfl rfl ?_; refine R_take (T_ixN rfl rfl rfl rfl rfl rfl (by first | assumption | exact hne (by omega) | exact hne2 (by omega)) (by omega)) ?_ rfl rfl; refine R_take (T_ldr rfl rfl rfl (Srd.old h (fun k _ => noOwns k)) (by omega) (hld' (by omega))) ?_ rfl rfl; refine R_p rfl ?_ rfl rfl; refine R_nil ?_; refine S_seq rfl ?_; refine S_region rfl rfl ?_; refine R_p rfl ?_ rfl rfl; refine R_p rfl ?_ rfl rfl; (refine R_split rfl rfl (fun hs => ?_) (fun hs => ?_)); refine R_p rfl ?_ rfl rfl; (refine R_eff (E_member rfl) ?_ rfl rfl; rintro _ _ ⟨rfl, rfl⟩); refine R_p rfl ?_ rfl rfl; refine R_p rfl ?_ rfl rfl; (refine R_splitd rfl rfl (fun hs => ?_) (fun hs => ?_)); refine R_p rfl ?_ rfl rfl; refine R_p rfl ?_ rfl rfl; refine R_p rfl ?_ rfl rfl; refine R_p rfl ?_ rfl rfl; refine R_p rfl ?_ rfl rfl; refine R_nil ?_; refine S_region rfl rfl ?_; refine R_p rfl ?_ rfl rfl; refine R_p rfl ?_ rfl rfl; refine R_nil ?_; refine RS_blk ?_; refine S_region rfl rfl ?_; refine R_take (T_addN rfl rfl (by unfold fits; omega)) ?_ rfl rfl; refine R_p rfl ?_ rfl rfl; refine R_nil ?_; rotate_left; refine R_skip ?_ rfl rfl; refine R_skip ?_ rfl rfl; refine R_skip ?_ rfl rfl; refine R_p rfl ?_ rfl rfl; refine R_p rfl ?_ rfl rfl; refine R_nil ?_; refine S_region rfl rfl ?_; refine R_p rfl ?_ rfl rfl; refine R_p rfl ?_ rfl rfl; refine R_nil ?_; refine RS_blk ?_; refine S_region rfl rfl ?_; refine R_take (T_addN rfl rfl (by unfold fits; omega)) ?_ rfl rfl; refine R_p rfl ?_ rfl rfl; refine R_nil ?_; rotate_left; refine R_skip ?_ rfl rfl; refine R_skip ?_ rfl rfl; refine R_p rfl ?_ rfl rfl; refine R_p rfl ?_ rfl rfl; refine R_skip ?_ rfl rfl; refine R_skip ?_ rfl rfl; refine R_skip ?_ rfl rfl; refine R_p rfl ?_ rfl rfl; refine R_p rfl ?_ rfl rfl; refine R_nil ?_; refine S_region rfl rfl ?_; refine R_p rfl ?_ rfl rfl; refine R_p rfl ?_ rfl rfl; refine R_nil ?_; refine RS_blk ?_; refine S_region rfl rfl ?_; refine R_take (T_addN rfl rfl (by unfold fits; omega)) ?_ rfl rfl; refine R_p rfl ?_ rfl rfl; refine R_nil ?_; rotate_left; refine S_exit rfl rfl ?_; refine S_seq rfl ?_; refine S_seq rfl ?_; refine S_region rfl rfl ?_; refine R_p rfl ?_ rfl rfl; refine R_take (T_not rfl) ?_ rfl rfl; refine R_nil ?_; (refine S_cond rfl rfl (fun hs => ?_) (fun hs => ?_)); refine S_seq rfl ?_; refine S_region rfl rfl ?_; refine R_p rfl ?_ rfl rfl; refine R_nil ?_; rotate_left; refine S_skip rfl ?_; refine S_seq rfl ?_; refine S_region rfl rfl ?_; refine R_p rfl ?_ rfl rfl; refine R_nil ?_; rotate_left)
  · refine hJ (j + 1) _ _ (by omega) ?_ (fun _ h => h) (by omega)
    rw [hnx' (by omega), show (b && memb x && decide (y < x)) = decide (y < x) by simp [memb, *]]
    exact (Sub.cons rfl (Sub.cons rfl (Sub.cons rfl (Sub.cons rfl (Sub.cons rfl Sub.nil)))))
  · refine hJ (j + 1) _ _ (by omega) ?_ (fun _ h => h) (by omega)
    rw [hnx' (by omega), show (b && memb x && decide (y < x)) = false by rw [show memb x = false by simp only [memb]; exact decide_eq_false (by assumption), Bool.and_false, Bool.false_and]]
    exact (Sub.cons rfl (Sub.cons rfl (Sub.cons rfl (Sub.cons rfl (Sub.cons rfl Sub.nil)))))
  · refine hJ (j + 1) _ _ (by omega) ?_ (fun _ h => h) (by omega)
    rw [hnx' (by omega), show (b && memb x && decide (y < x)) = false by simp [*]]
    exact (Sub.cons rfl (Sub.cons rfl (Sub.cons rfl (Sub.cons rfl (Sub.cons rfl Sub.nil)))))
  all_goals
    have hjn : j = ms.length := by omega
    subst hjn
    have hr : right ms = b := by rw [right, ← hb, hst, List.take_length]
    refine hB _ _ _ _ _ rfl rfl fun w' hS => ⟨(), ?_, trivial, hS.sublist (List.nil_sublist _)⟩
    rw [chkE, hr]
    simp_all
    try rfl
end Go.Proofs.Ytlihhjldkopfhaa
