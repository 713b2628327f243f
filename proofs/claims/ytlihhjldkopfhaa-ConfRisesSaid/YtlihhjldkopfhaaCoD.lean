/- Members: of, short, whole. -/
import Derived.Test.YtlihhjldkopfhaaCoC
namespace Go.Proofs.Ytlihhjldkopfhaa
open Go.RowKit
open Asn (pt row rb)
set_option linter.unusedVariables false
set_option linter.unusedSimpArgs false
--@use N

set_option maxRecDepth 100000 in
set_option maxHeartbeats 4000000 in
theorem of_any (w : World) (A : Option Addr) (n c : Nat) :
    Gives Try.prog 35 [.slice A n c] [] w (X := Unit) (fun _ => cfv A n c) (fun _ => True) (fun _ => []) := by
  refine gives_C Try.func35 rfl Try.ntmps35 Try.results35 (by simp) (St.enter w) (fun B hB => ?_)
  focus (refine S_seq rfl ?_; refine S_region rfl rfl ?_; (refine R_eff (E_alloca rfl cf_alloc) ?_ rfl rfl; rintro _ _ ⟨bc, rfl, rfl⟩); refine R_nil ?_; refine S_seq rfl ?_; refine S_region rfl rfl ?_; refine R_p rfl ?_ rfl rfl; refine R_take (T_build1 rfl (cf_built1 _ _ _)) ?_ rfl rfl; (refine R_eff0 (E_storew (cs := [.slice none 0 0]) rfl rfl rfl rfl (sl_one _ _ _) rfl) ?_ rfl; rintro _ _ rfl); refine R_nil ?_)
  refine hB _ _ _ _ _ rfl (.cell rfl rfl rfl inferInstance rfl .nil) fun w' hS => ⟨(), rfl, trivial, hS.sublist (List.nil_sublist _)⟩
def wide (ms : List Int) : List Value := ms.map zv ++ [zv 77, zv 0]
theorem wide_at (ms : List Int) : ∀ j v, (ms.map zv)[j]? = some v → (wide ms)[0 + j]? = some v := fun j v hj => by
  rw [Nat.zero_add, wide, List.getElem?_append_left (List.getElem?_eq_some_iff.1 hj).1]
  exact hj
theorem short_cells (S : List Value) (k : Nat) (hk : S.length = k) (z : Value) : ((((List.replicate (k + 2) z).take (0 + 0 * 1) ++ S ++ (List.replicate (k + 2) z).drop (0 + 0 * 1 + S.length))).take (0 + (0 + k) * 1) ++ [zv 77] ++ (((List.replicate (k + 2) z).take (0 + 0 * 1) ++ S ++ (List.replicate (k + 2) z).drop (0 + 0 * 1 + S.length))).drop (0 + (0 + k) * 1 + [zv 77].length)) = S ++ [zv 77, z] := by
  subst hk
  simp
set_option maxRecDepth 100000 in
set_option maxHeartbeats 4000000 in
theorem short_any (w : World) (A : Option Addr) (n c : Nat) (ms : List Int) (h : Rd w All 1 A n (ms.map zv)) (hn : n ≤ c) (hc : c ≤ maxLen) :
    Gives Try.prog 11 [cfv A n c] [] w (X := Nat) (fun g => cfv (some ⟨g, 0, none⟩) (ms.take 9).length ((ms.take 9).length + 2)) (fun _ => True) (fun g => [pt g 3 (wide (ms.take 9))]) := by
  refine gives_C Try.func11 rfl Try.ntmps11 Try.results11 (by simp) (St.enter w) (fun B hB => ?_)
  have hl : ms.length = n := by have := h.1; simpa using this
  obtain ⟨k, hk⟩ : ∃ k, (ms.take 9).length = k := ⟨_, rfl⟩
  have hk9 : k ≤ 9 ∧ k ≤ n ∧ (n ≤ 9 → k = n) ∧ (9 ≤ n → k = 9) := by rw [List.length_take] at hk; omega
  have htk : ms.take 9 = ms.take k := by
    rcases Nat.lt_or_ge n 9 with h9 | h9
    · rw [List.take_of_length_le (by omega), List.take_of_length_le (by omega)]
    · rw [hk9.2.2.2 h9]
  rw [hk] at hB
  unfold maxLen at hc
  focus (refine S_seq rfl ?_; refine S_region rfl rfl ?_; (refine R_eff (E_boxa rfl) ?_ rfl rfl; rintro _ _ ⟨b, rfl, rfl⟩); (refine R_eff (E_alloca rfl rfl) ?_ rfl rfl; rintro _ _ ⟨b, rfl, rfl⟩); refine R_nil ?_; refine S_seq rfl ?_; refine S_region rfl rfl ?_; refine R_p rfl ?_ rfl rfl; refine R_take (T_load rfl rfl rfl (by first | rfl | assumption)) ?_ rfl rfl; refine R_p rfl ?_ rfl rfl; refine R_take (T_min rfl rfl) ?_ rfl rfl; refine R_p rfl ?_ rfl rfl; refine R_nil ?_; refine S_seq rfl ?_)
  rw [show (if (9 : Int) < (n : Int) then (9 : Int) else (n : Int)) = (k : Int) by split <;> omega]
  have hSl : ((ms.map zv).take (k * 1)).length = k := by simp; omega
  have hS1 : ∀ v ∈ (ms.map zv).take (k * 1), v.oneCell' = true := fun v hv => zv_ones ms v (List.mem_of_mem_take hv)
  skip
  refine S_draw (_) (fun _ h => h) (by kernel_rfl) rfl (by kernel_rfl) (by kernel_rfl : _ = 9) ?_
  refine D_take 0 rfl (pev_ok rfl) ?_ rfl rfl (by kernel_rfl) (by kernel_rfl)
  (refine D_take 1 rfl (T_addN rfl rfl (by unfold fits; omega)) ?_ rfl rfl (by kernel_rfl) (by kernel_rfl))
  refine D_take 3 rfl (pev_ok rfl) ?_ rfl rfl (by kernel_rfl) (by kernel_rfl)
  refine D_take 4 rfl (T_load rfl rfl rfl (by first | rfl | assumption)) ?_ rfl rfl (by kernel_rfl) (by kernel_rfl)
  refine D_take 5 rfl (pev_ok rfl) ?_ rfl rfl (by kernel_rfl) (by kernel_rfl)
  refine D_take 6 rfl (T_slhN rfl rfl rfl rfl rfl (by omega)) ?_ rfl rfl (by kernel_rfl) (by kernel_rfl)
  refine D_one 2 rfl (E_make1 (m := 0) (c := k + 2) rfl rfl rfl rfl rfl rfl rfl (by omega) (by show 8 * (k + 2) ≤ _; omega) (by unfold maxLen; omega)) ?_ rfl rfl (by kernel_rfl)
  rintro _ _ ⟨g, rfl, rfl⟩
  refine Nx_same sub_st ?_
  refine D_one 7 rfl (E_appin (sz := 1) (m2 := k) (news := (ms.map zv).take (k * 1)) rfl rfl rfl rfl rfl rfl ((Srd.old h (fun k _ => noOwns k)).head (by omega)) hS1 (by omega) (by rw [hSl, List.length_replicate]; omega) rfl) ?_ rfl rfl (by kernel_rfl)
  rintro _ _ ⟨rfl, rfl⟩
  refine Nx_same sub_st ?_
  refine D_take 8 rfl (pev_ok rfl) ?_ rfl rfl (by kernel_rfl) (by kernel_rfl)
  refine D_done ?_ (by kernel_rfl)
  skip
  focus (refine S_seq rfl ?_; refine S_region rfl rfl ?_; refine R_p rfl ?_ rfl rfl; (refine R_eff (E_lit1 (m := 1) (vs := [zv 77]) rfl rfl rfl rfl rfl rfl rfl (by simp [zv, Value.oneCell']) (by decide)) ?_ rfl rfl; rintro _ _ ⟨b77, rfl, rfl⟩); (refine R_eff (E_appin (sz := 1) (m2 := 1) (news := [zv 77]) rfl rfl rfl rfl rfl rfl (Srd.pt (g := b77) rfl (fun j u hj => by rw [Nat.zero_add]; exact hj)) (by simp [zv, Value.oneCell']) (by omega) (by simp only [List.length_append, List.length_take, List.length_drop, List.length_replicate, List.length_cons, List.length_nil]; omega) rfl) ?_ rfl rfl; rintro _ _ ⟨rfl, rfl⟩); refine R_p rfl ?_ rfl rfl; refine R_take (T_slhN rfl rfl rfl rfl rfl (by omega)) ?_ rfl rfl; refine R_take (T_build1 rfl (cf_built1 _ _ _)) ?_ rfl rfl; (refine R_eff0 (E_storew (cs := [.slice none 0 0]) rfl rfl rfl rfl (sl_one _ _ _) rfl) ?_ rfl; rintro _ _ rfl); refine R_nil ?_)
  have e : _ = wide (ms.take 9) := (short_cells ((ms.map zv).take (k * 1)) k hSl (zv 0)).trans (by rw [wide, htk, Nat.mul_one, List.map_take])
  refine hB _ _ _ _ _ rfl (.cell rfl rfl rfl inferInstance rfl .nil) fun w' hS => ⟨g, rfl, trivial, ?_⟩
  exact (congrArg (fun cs => St w (owns []) [pt g 3 cs] w') e).mp (hS.sublist (.cons _ (.cons_cons _ (List.nil_sublist _))))
set_option maxRecDepth 100000 in
set_option maxHeartbeats 4000000 in
theorem whole_any (w : World) (A2 : Option Addr) (g n2 c2 : Nat) (ms ks : List Int) (h : Rd w All 1 (some ⟨g, 0, none⟩) (ms.length + 2) (wide ms)) (h2 : Rd w All 1 A2 n2 (ks.map zv)) (hn : ms.length ≤ 900) (hn2 : n2 ≤ 1000) :
    Gives Try.prog 16 [cfv (some ⟨g, 0, none⟩) ms.length (ms.length + 2), cfv A2 n2 c2] [] w (X := Unit) (fun _ => .bool (decide (ms = ks))) (fun _ => True) (fun _ => []) := by
  refine gives_S Try.func16 rfl Try.ntmps16 Try.results16 (by simp) (St.enter w) (fun B hB => ?_)
  have h1 : Rd w All 1 (some ⟨g, 0, none⟩) ms.length (ms.map zv) := by
    have := h.head (k := ms.length) (by omega)
    rwa [Nat.mul_one, wide, List.take_left' (by simp)] at this
  focus (refine S_seq rfl ?_; refine S_region rfl rfl ?_; (refine R_eff (E_boxa rfl) ?_ rfl rfl; rintro _ _ ⟨b, rfl, rfl⟩); (refine R_eff (E_boxa rfl) ?_ rfl rfl; rintro _ _ ⟨b, rfl, rfl⟩); refine R_p rfl ?_ rfl rfl; refine R_nil ?_; refine S_seq rfl ?_; refine S_region rfl rfl ?_; refine R_p rfl ?_ rfl rfl; refine R_take (T_load rfl rfl rfl (by first | rfl | assumption)) ?_ rfl rfl; refine R_p rfl ?_ rfl rfl; refine R_p rfl ?_ rfl rfl; refine R_nil ?_; refine S_seq rfl ?_; refine S_region rfl rfl ?_; refine R_take (T_loada (ds := [.slice (some ⟨g, 0, none⟩) ms.length (ms.length + 2)]) rfl rfl rfl rfl (fun j v h => by simpa using h)) ?_ rfl rfl; refine R_take (T_loada (ds := [.slice A2 n2 c2]) rfl rfl rfl rfl (fun j v h => by simpa using h)) ?_ rfl rfl; (refine R_eff (E_gv0 (f := 18) ⟨_, Try.func18, rfl, by kernel_rfl⟩ rfl (fun w hS => rsame_any w (some ⟨g, 0, none⟩) A2 _ (ms.length + 2) _ c2 ms ks ((Srd.old h1 (fun k _ => noOwns k)).rd w hS) ((Srd.old h2 (fun k _ => noOwns k)).rd w hS) (by omega) hn2) (fun _ => rfl)) ?_ rfl rfl; rintro _ _ ⟨_, rfl, _, rfl⟩); refine R_p rfl ?_ rfl rfl; (refine R_splitd rfl rfl (fun hs => ?_) (fun hs => ?_)); refine R_p rfl ?_ rfl rfl; refine R_take (T_load rfl rfl rfl (by first | rfl | assumption)) ?_ rfl rfl; refine R_p rfl ?_ rfl rfl; refine R_take (T_addN rfl rfl (by unfold fits; omega)) ?_ rfl rfl; refine R_take (T_slhN rfl rfl rfl rfl rfl (by omega)) ?_ rfl rfl; refine R_p rfl ?_ rfl rfl; refine R_take (T_ixNg rfl rfl rfl rfl rfl rfl (by omega)) ?_ rfl rfl; refine R_take (T_loadg (off := 0 + ms.length) rfl rfl rfl h (fun k _ => noOwns k) (by rw [Nat.zero_add, wide, List.getElem?_append_right (by simp)]; simp; rfl)) ?_ rfl rfl; refine R_p rfl ?_ rfl rfl; refine R_p rfl ?_ rfl rfl; refine R_p rfl ?_ rfl rfl; refine R_nil ?_; rotate_left; refine R_skip ?_ rfl rfl; refine R_skip ?_ rfl rfl; refine R_skip ?_ rfl rfl; refine R_skip ?_ rfl rfl; refine R_skip ?_ rfl rfl; refine R_skip ?_ rfl rfl; refine R_skip ?_ rfl rfl; refine R_skip ?_ rfl rfl; refine R_skip ?_ rfl rfl; refine R_p rfl ?_ rfl rfl; refine R_p rfl ?_ rfl rfl; refine R_nil ?_; rotate_left)
  · refine hB _ _ _ _ _ rfl rfl fun w' hS => ⟨(), ?_, trivial, hS.sublist (List.nil_sublist _)⟩
    rw [decide_eq_true hs]
    rfl
  · refine hB _ _ _ _ _ rfl rfl fun w' hS => ⟨(), ?_, trivial, hS.sublist (List.nil_sublist _)⟩
    rw [decide_eq_false hs]
    rfl
end Go.Proofs.Ytlihhjldkopfhaa
