/- The document's Majority and index. -/
import Derived.Test.YtlihhjldkopfhaaCoG
namespace Go.Proofs.Ytlihhjldkopfhaa
open Go.RowKit
open Asn (pt row rb)
set_option linter.unusedVariables false
set_option linter.unusedSimpArgs false
--@use N

/-- the document's majority of members -/
def rmajB (ms set : List Int) : Bool := decide (ms.length < 2 * ms.countP (fun m => decide (m ∈ set)))
set_option maxRecDepth 100000 in
set_option maxHeartbeats 4000000 in
theorem rmaj_any (w : World) (A A2 : Option Addr) (n c n2 c2' : Nat) (ms set : List Int) (h : Rd w All 1 A n (ms.map zv)) (h2 : Rd w All 1 A2 n2 (set.map zv)) (hn : n ≤ 900) (hn2 : n2 ≤ 900) :
    Gives Try.prog 33 [cfv A n c, .slice A2 n2 c2'] [] w (X := Unit) (fun _ => .bool (rmajB ms set)) (fun _ => True) (fun _ => []) := by
  refine gives_S Try.func33 rfl Try.ntmps33 Try.results33 (by simp) (St.enter w) (fun B hB => ?_)
  have hl : ms.length = n := by have := h.1; simpa using this
  have hne : 0 < n → A ≠ none := fun h0 => by obtain ⟨ad, rfl, _⟩ := h.2 h0; simp
  subst hl
  have hld : ∀ j, j < ms.length → (ms.map zv)[j]? = some (zv (ms.getD j 0)) := fun j hj => zv_at hj
  have hle : ∀ j, (ms.take j).countP (fun m => decide (m ∈ set)) ≤ j := fun j => Nat.le_trans List.countP_le_length (by simp; omega)
  focus (refine S_seq rfl ?_; refine S_region rfl rfl ?_; (refine R_eff (E_boxa rfl) ?_ rfl rfl; rintro _ _ ⟨b, rfl, rfl⟩); refine R_p rfl ?_ rfl rfl; refine R_nil ?_; refine S_seq rfl ?_; refine S_region rfl rfl ?_; refine R_p rfl ?_ rfl rfl; refine R_nil ?_; refine S_seq rfl ?_; refine S_seq rfl ?_; refine S_region rfl rfl ?_; refine R_p rfl ?_ rfl rfl; refine R_take (T_load rfl rfl rfl (by first | rfl | assumption)) ?_ rfl rfl; refine R_p rfl ?_ rfl rfl; refine R_p rfl ?_ rfl rfl; refine R_nil ?_; refine S_block rfl ?_)
  refine S_loop (X := Nat) (fun j => [(1, .slice A2 n2 c2'), (2, .pointer (some ⟨b, 0, none⟩)), (5, .int .i64 ((ms.take j).countP (fun m => decide (m ∈ set)) : Nat)), (9, .slice A ms.length c), (10, .int .i64 (ms.length : Int)), (11, .int .i64 (j : Int))]) (fun _ => [pt b 24 [.slice A ms.length c]]) (fun j => j ≤ ms.length) (fun j => ms.length - j) rfl 0 (Nat.zero_le _) (Sub.cons rfl (Sub.cons rfl (Sub.cons rfl (Sub.cons rfl (Sub.cons rfl (Sub.cons rfl Sub.nil)))))) (fun _ h => h) ?_
  rintro j hj J hJ
  have hnx := cnt_next (fun m => decide (m ∈ set)) ms j
  have hld' := hld j
  have hlj := hle j
  obtain ⟨x, hx⟩ : ∃ x, ms.getD j 0 = x := ⟨_, rfl⟩
  obtain ⟨q, hq⟩ : ∃ q, (ms.take j).countP (fun m => decide (m ∈ set)) = q := ⟨_, rfl⟩
  rw [hx] at hnx hld'
  rw [hq] at hnx hlj ⊢
  rcases Nat.lt_or_ge j ms.length with hjl | hjl
  rotate_left
  · have hjn : j = ms.length := by omega
    subst hjn
    rw [List.take_length] at hq
    focus (refine S_seq rfl ?_; refine S_region rfl rfl ?_; refine R_take (T_decF rfl (by omega)) ?_ rfl rfl; refine R_nil ?_; refine S_seq rfl ?_; refine S_false rfl rfl ?_; refine S_exit rfl rfl ?_; refine S_seq rfl ?_; refine S_region rfl rfl ?_; refine R_p rfl ?_ rfl rfl; refine R_take (T_mulN rfl rfl (by unfold fits; omega)) ?_ rfl rfl; refine R_p rfl ?_ rfl rfl; refine R_take (T_load rfl rfl rfl (by first | rfl | assumption)) ?_ rfl rfl; refine R_p rfl ?_ rfl rfl; refine R_p rfl ?_ rfl rfl; refine R_p rfl ?_ rfl rfl; refine R_nil ?_)
    refine hB _ _ _ _ _ rfl rfl fun w' hS => ⟨(), ?_, trivial, hS.sublist (List.nil_sublist _)⟩
    rw [rmajB, hq]
    show Value.bool _ = _
    congr 1
    exact decide_eq_decide.2 (by omega)
  obtain ⟨r, hr⟩ : ∃ r, decide (x ∈ set) = r := ⟨_, rfl⟩
  rw [hr] at hnx
  cases r
  · have e : (ms.take (j + 1)).countP (fun m => decide (m ∈ set)) = q := by rw [hnx hjl]; rfl
    focus (refine S_seq rfl ?_; refine S_region rfl rfl ?_; refine R_take (T_decT rfl (by omega)) ?_ rfl rfl; refine R_nil ?_; refine S_seq rfl ?_; refine S_true rfl rfl ?_; refine S_skip rfl ?_; refine S_seq rfl ?_; refine S_block rfl ?_; refine S_seq rfl ?_; refine S_region rfl rfl ?_; refine R_take (T_ixN rfl rfl rfl rfl rfl rfl (by first | assumption | exact hne (by omega) | exact hne2 (by omega)) (by omega)) ?_ rfl rfl; refine R_take (T_ldr rfl rfl rfl (Srd.old h (fun k _ => noOwns k)) (by omega) (hld' (by omega))) ?_ rfl rfl; refine R_p rfl ?_ rfl rfl; refine R_nil ?_; refine S_seq rfl ?_; refine S_region rfl rfl ?_; refine R_p rfl ?_ rfl rfl; refine R_take (T_build1 rfl (cf_built1 _ _ _)) ?_ rfl rfl; refine R_p rfl ?_ rfl rfl; (refine R_eff (E_rhasW rfl rfl (Srd.old h2 (fun k _ => noOwns k)) hn2 hr) ?_ rfl rfl; rintro _ _ ⟨rfl, rfl⟩); refine R_nil ?_; refine S_false rfl rfl ?_; refine S_skip rfl ?_; refine RS_blk ?_; refine S_region rfl rfl ?_; refine R_take (T_addN rfl rfl (by unfold fits; omega)) ?_ rfl rfl; refine R_p rfl ?_ rfl rfl; refine R_nil ?_)
    refine hJ (j + 1) _ _ (by omega) ?_ (fun _ h => h) (by omega)
    rw [e]
    exact (Sub.cons rfl (Sub.cons rfl (Sub.cons rfl (Sub.cons rfl (Sub.cons rfl (Sub.cons rfl Sub.nil))))))
  · have e : (ms.take (j + 1)).countP (fun m => decide (m ∈ set)) = q + 1 := by rw [hnx hjl]; rfl
    focus (refine S_seq rfl ?_; refine S_region rfl rfl ?_; refine R_take (T_decT rfl (by omega)) ?_ rfl rfl; refine R_nil ?_; refine S_seq rfl ?_; refine S_true rfl rfl ?_; refine S_skip rfl ?_; refine S_seq rfl ?_; refine S_block rfl ?_; refine S_seq rfl ?_; refine S_region rfl rfl ?_; refine R_take (T_ixN rfl rfl rfl rfl rfl rfl (by first | assumption | exact hne (by omega) | exact hne2 (by omega)) (by omega)) ?_ rfl rfl; refine R_take (T_ldr rfl rfl rfl (Srd.old h (fun k _ => noOwns k)) (by omega) (hld' (by omega))) ?_ rfl rfl; refine R_p rfl ?_ rfl rfl; refine R_nil ?_; refine S_seq rfl ?_; refine S_region rfl rfl ?_; refine R_p rfl ?_ rfl rfl; refine R_take (T_build1 rfl (cf_built1 _ _ _)) ?_ rfl rfl; refine R_p rfl ?_ rfl rfl; (refine R_eff (E_rhasW rfl rfl (Srd.old h2 (fun k _ => noOwns k)) hn2 hr) ?_ rfl rfl; rintro _ _ ⟨rfl, rfl⟩); refine R_nil ?_; refine S_true rfl rfl ?_; refine S_region rfl rfl ?_; refine R_p rfl ?_ rfl rfl; refine R_take (T_addN rfl rfl (by unfold fits; omega)) ?_ rfl rfl; refine R_p rfl ?_ rfl rfl; refine R_nil ?_; refine RS_blk ?_; refine S_region rfl rfl ?_; refine R_take (T_addN rfl rfl (by unfold fits; omega)) ?_ rfl rfl; refine R_p rfl ?_ rfl rfl; refine R_nil ?_)
    refine hJ (j + 1) _ _ (by omega) ?_ (fun _ h => h) (by omega)
    rw [e]
    exact (Sub.cons rfl (Sub.cons rfl (Sub.cons rfl (Sub.cons rfl (Sub.cons rfl (Sub.cons rfl Sub.nil))))))
end Go.Proofs.Ytlihhjldkopfhaa
