/- Members: the document's With, Without, Far. -/
import Derived.Test.YtlihhjldkopfhaaCoB
namespace Go.Proofs.Ytlihhjldkopfhaa
open Go.RowKit
open Asn (pt row rb)
set_option linter.unusedVariables false
set_option linter.unusedSimpArgs false
--@use N

/-- With's loop -/
def wth (m : Int) (s : List Int × Bool) (x : Int) : List Int × Bool := (if m < x ∧ s.2 = false then s.1 ++ [m] ++ [x] else s.1 ++ [x], s.2 || decide (m < x))
def wthL (m : Int) (ms : List Int) : List Int × Bool := ms.foldl (wth m) ([], false)
theorem wthL_next (m : Int) (ms : List Int) (j : Nat) (hj : j < ms.length) : wthL m (ms.take (j + 1)) = wth m (wthL m (ms.take j)) (ms.getD j 0) := by
  rw [List.take_succ_eq_append_getElem hj, wthL, List.foldl_append, getD_at hj]
  rfl
theorem wthL_len (m : Int) (ms : List Int) : (wthL m ms).1.length ≤ 2 * ms.length := by
  have h : ∀ (ms : List Int) (s : List Int × Bool), (ms.foldl (wth m) s).1.length ≤ s.1.length + 2 * ms.length := by
    intro ms
    induction ms with
    | nil => intro s; simp
    | cons x ms ih =>
      intro s
      refine Nat.le_trans (ih _) ?_
      simp only [wth, List.length_cons]
      split <;> simp <;> omega
  simpa [wthL] using h ms ([], false)
def withL (ms : List Int) (m : Int) : List Int := if (wthL m ms).2 then (wthL m ms).1 else (wthL m ms).1 ++ [m]
set_option maxRecDepth 100000 in
set_option maxHeartbeats 4000000 in
theorem rwith_any (w : World) (A : Option Addr) (n c : Nat) (ms : List Int) (m : Int) (h : Rd w All 1 A n (ms.map zv)) (hn : n ≤ 900) :
    Gives Try.prog 19 [cfv A n c, zv m] [] w (X := Option Addr × Nat) (fun x => cfv x.1 (withL ms m).length x.2) (fun _ => True) (fun x => [row 3 1 x.1 (withL ms m).length x.2 ((withL ms m).map zv)]) := by
  refine gives_C Try.func19 rfl Try.ntmps19 Try.results19 (by simp) (St.enter w) (fun B hB => ?_)
  have hl : ms.length = n := by have := h.1; simpa using this
  have hne : 0 < n → A ≠ none := fun h0 => by obtain ⟨ad, rfl, _⟩ := h.2 h0; simp
  subst hl
  have hld : ∀ j, j < ms.length → (ms.map zv)[j]? = some (zv (ms.getD j 0)) := fun j hj => zv_at hj
  focus (refine S_seq rfl ?_; refine S_region rfl rfl ?_; (refine R_eff (E_boxa rfl) ?_ rfl rfl; rintro _ _ ⟨b, rfl, rfl⟩); (refine R_eff (E_alloca rfl cf_alloc) ?_ rfl rfl; rintro _ _ ⟨bc, rfl, rfl⟩); refine R_nil ?_; refine S_seq rfl ?_; refine S_region rfl rfl ?_; (refine R_eff (E_alloca rfl cf_alloc) ?_ rfl rfl; rintro _ _ ⟨bc, rfl, rfl⟩); refine R_nil ?_; refine S_seq rfl ?_; refine S_region rfl rfl ?_; refine R_p rfl ?_ rfl rfl; refine R_nil ?_; refine S_seq rfl ?_; refine S_seq rfl ?_; refine S_region rfl rfl ?_; refine R_p rfl ?_ rfl rfl; refine R_take (T_load rfl rfl rfl (by first | rfl | assumption)) ?_ rfl rfl; refine R_p rfl ?_ rfl rfl; refine R_p rfl ?_ rfl rfl; refine R_nil ?_; refine S_block rfl ?_)
  rename_i b4
  refine S_loop (X := Nat × Option Addr × Nat) (fun x => [(1, zv m), (4, .pointer (some ⟨b4, 0, none⟩)), (5, .pointer (some ⟨bc, 0, none⟩)), (6, .bool (wthL m (ms.take x.1)).2), (10, .slice A ms.length c), (11, .int .i64 (ms.length : Int)), (12, .int .i64 (x.1 : Int))]) (fun x => [row 3 1 x.2.1 (wthL m (ms.take x.1)).1.length x.2.2 ((wthL m (ms.take x.1)).1.map zv), pt bc 24 [.slice x.2.1 (wthL m (ms.take x.1)).1.length x.2.2], pt b4 24 [.slice none 0 0]]) (fun x => x.1 ≤ ms.length) (fun x => ms.length - x.1) rfl (0, none, 0) (Nat.zero_le _) (Sub.cons rfl (Sub.cons rfl (Sub.cons rfl (Sub.cons rfl (Sub.cons rfl (Sub.cons rfl (Sub.cons rfl Sub.nil))))))) (fun w hS => (hS.nilrow _ _).sublist (.cons_cons _ (.cons_cons _ (.cons_cons _ (List.nil_sublist _))))) ?_
  rintro ⟨j, A3, c3⟩ hj J hJ
  simp only at hj ⊢
  have hnx := wthL_next m ms j
  have hld' := hld j
  have hlen := wthL_len m (ms.take j)
  obtain ⟨x, hx⟩ : ∃ x, ms.getD j 0 = x := ⟨_, rfl⟩
  rw [hx] at hnx hld'
  obtain ⟨s, hs0⟩ : ∃ s, wthL m (ms.take j) = s := ⟨_, rfl⟩
  obtain ⟨L, d⟩ := s
  rw [hs0] at hnx hlen ⊢
  simp only [List.length_take] at hlen hnx ⊢
  have hL : L.length ≤ 1800 := by omega
  rcases Nat.lt_or_ge j ms.length with hjl | hjl
  · have hnx' := hnx hjl
    by_cases hmx : m < x
    · cases d
      · skip
        focus (refine S_seq rfl ?_; refine S_region rfl rfl ?_; refine R_take (T_decT rfl (by omega)) ?_ rfl rfl; refine R_nil ?_; refine S_seq rfl ?_; refine S_true rfl rfl ?_; refine S_skip rfl ?_; refine S_seq rfl ?_; refine S_block rfl ?_; refine S_seq rfl ?_; refine S_region rfl rfl ?_; refine R_take (T_ixN rfl rfl rfl rfl rfl rfl (by first | assumption | exact hne (by omega) | exact hne2 (by omega)) (by omega)) ?_ rfl rfl; refine R_take (T_ldr rfl rfl rfl (Srd.old h (fun k _ => noOwns k)) (by omega) (hld' (by omega))) ?_ rfl rfl; refine R_p rfl ?_ rfl rfl; refine R_nil ?_; refine S_seq rfl ?_; refine S_seq rfl ?_; refine S_region rfl rfl ?_; refine R_p rfl ?_ rfl rfl; refine R_p rfl ?_ rfl rfl; refine R_take (T_decT rfl (by omega)) ?_ rfl rfl; refine R_p rfl ?_ rfl rfl; refine R_p rfl ?_ rfl rfl; refine R_take (T_not rfl) ?_ rfl rfl; refine R_p rfl ?_ rfl rfl; refine R_nil ?_; refine S_true rfl rfl ?_; refine S_region rfl rfl ?_; refine R_p rfl ?_ rfl rfl; refine R_take (T_load rfl rfl rfl (by first | rfl | assumption)) ?_ rfl rfl; refine R_p rfl ?_ rfl rfl; (refine R_eff (E_lit1 (m := 1) (vs := [zv m]) rfl rfl rfl rfl rfl rfl rfl (by simp [zv, Value.oneCell']) (by decide)) ?_ rfl rfl; rintro _ _ ⟨bm, rfl, rfl⟩); (refine R_eff (E_app1 rfl rfl rfl rfl rfl rfl rfl (Srd.pt (ds := [zv m]) rfl (fun j u hj => by rw [Nat.zero_add]; exact hj)) (by simp [zv, Value.oneCell']) (by show _ * 8 ≤ _; omega) (by unfold maxLen; omega)) ?_ rfl rfl; rintro _ _ ⟨A6, c6, rfl, rfl⟩); refine R_p rfl ?_ rfl rfl; (refine R_eff0 (E_store1 rfl rfl rfl rfl rfl rfl (by first | decide | (simp; done) | (simp; omega) | assumption)) ?_ rfl; rintro _ _ rfl); refine R_p rfl ?_ rfl rfl; refine R_nil ?_; refine S_region rfl rfl ?_; refine R_p rfl ?_ rfl rfl; refine R_take (T_load rfl rfl rfl (by first | rfl | assumption)) ?_ rfl rfl; refine R_p rfl ?_ rfl rfl; (refine R_eff (E_lit1 (m := 1) (vs := [zv x]) rfl rfl rfl rfl rfl rfl rfl (by simp [zv, Value.oneCell']) (by decide)) ?_ rfl rfl; rintro _ _ ⟨bx, rfl, rfl⟩); (refine R_eff (E_app1 rfl rfl rfl rfl rfl rfl rfl (Srd.pt (ds := [zv x]) rfl (fun j u hj => by rw [Nat.zero_add]; exact hj)) (by simp [zv, Value.oneCell']) (by show _ * 8 ≤ _; omega) (by unfold maxLen; omega)) ?_ rfl rfl; rintro _ _ ⟨A7, c7, rfl, rfl⟩); refine R_p rfl ?_ rfl rfl; (refine R_eff0 (E_store1 rfl rfl rfl rfl rfl rfl (by first | decide | (simp; done) | (simp; omega) | assumption)) ?_ rfl; rintro _ _ rfl); refine R_nil ?_; refine RS_blk ?_; refine S_region rfl rfl ?_; refine R_take (T_addN rfl rfl (by unfold fits; omega)) ?_ rfl rfl; refine R_p rfl ?_ rfl rfl; refine R_nil ?_)
        all_goals (try (exfalso; first | contradiction | omega))
        have e : wthL m (ms.take (j + 1)) = (L ++ [m] ++ [x], true) := by rw [hnx']; simp [wth, hmx]
        have e1 : (L ++ [m] ++ [x]).length = L.length + 1 + 1 := by simp
        refine hJ (j + 1, A7, c7) _ _ (by show j + 1 ≤ _; omega) ?_ (fun w' hS => ?_) (by show ms.length - (j + 1) < _; omega)
        · dsimp only
          rw [e]
          exact (Sub.cons rfl (Sub.cons rfl (Sub.cons rfl (Sub.cons rfl (Sub.cons rfl (Sub.cons rfl (Sub.cons rfl Sub.nil)))))))
        · dsimp only
          rw [e, e1]
          simp only [List.map_append]
          exact hS.sublist (.cons_cons _ (.cons _ (.cons _ (.refl _))))
      · skip
        focus (refine S_seq rfl ?_; refine S_region rfl rfl ?_; refine R_take (T_decT rfl (by omega)) ?_ rfl rfl; refine R_nil ?_; refine S_seq rfl ?_; refine S_true rfl rfl ?_; refine S_skip rfl ?_; refine S_seq rfl ?_; refine S_block rfl ?_; refine S_seq rfl ?_; refine S_region rfl rfl ?_; refine R_take (T_ixN rfl rfl rfl rfl rfl rfl (by first | assumption | exact hne (by omega) | exact hne2 (by omega)) (by omega)) ?_ rfl rfl; refine R_take (T_ldr rfl rfl rfl (Srd.old h (fun k _ => noOwns k)) (by omega) (hld' (by omega))) ?_ rfl rfl; refine R_p rfl ?_ rfl rfl; refine R_nil ?_; refine S_seq rfl ?_; refine S_seq rfl ?_; refine S_region rfl rfl ?_; refine R_p rfl ?_ rfl rfl; refine R_p rfl ?_ rfl rfl; refine R_take (T_decT rfl (by omega)) ?_ rfl rfl; refine R_p rfl ?_ rfl rfl; refine R_p rfl ?_ rfl rfl; refine R_take (T_not rfl) ?_ rfl rfl; refine R_p rfl ?_ rfl rfl; refine R_nil ?_; refine S_false rfl rfl ?_; refine S_skip rfl ?_; refine S_region rfl rfl ?_; refine R_p rfl ?_ rfl rfl; refine R_take (T_load rfl rfl rfl (by first | rfl | assumption)) ?_ rfl rfl; refine R_p rfl ?_ rfl rfl; (refine R_eff (E_lit1 (m := 1) (vs := [zv x]) rfl rfl rfl rfl rfl rfl rfl (by simp [zv, Value.oneCell']) (by decide)) ?_ rfl rfl; rintro _ _ ⟨bx, rfl, rfl⟩); (refine R_eff (E_app1 rfl rfl rfl rfl rfl rfl rfl (Srd.pt (ds := [zv x]) rfl (fun j u hj => by rw [Nat.zero_add]; exact hj)) (by simp [zv, Value.oneCell']) (by show _ * 8 ≤ _; omega) (by unfold maxLen; omega)) ?_ rfl rfl; rintro _ _ ⟨A7, c7, rfl, rfl⟩); refine R_p rfl ?_ rfl rfl; (refine R_eff0 (E_store1 rfl rfl rfl rfl rfl rfl (by first | decide | (simp; done) | (simp; omega) | assumption)) ?_ rfl; rintro _ _ rfl); refine R_nil ?_; refine RS_blk ?_; refine S_region rfl rfl ?_; refine R_take (T_addN rfl rfl (by unfold fits; omega)) ?_ rfl rfl; refine R_p rfl ?_ rfl rfl; refine R_nil ?_)
        all_goals (try (exfalso; first | contradiction | omega))
        have e : wthL m (ms.take (j + 1)) = (L ++ [x], true) := by rw [hnx']; simp [wth, hmx]
        have e1 : (L ++ [x]).length = L.length + 1 := by simp
        refine hJ (j + 1, A7, c7) _ _ (by show j + 1 ≤ _; omega) ?_ (fun w' hS => ?_) (by show ms.length - (j + 1) < _; omega)
        · dsimp only
          rw [e]
          exact (Sub.cons rfl (Sub.cons rfl (Sub.cons rfl (Sub.cons rfl (Sub.cons rfl (Sub.cons rfl (Sub.cons rfl Sub.nil)))))))
        · dsimp only
          rw [e, e1]
          simp only [List.map_append]
          exact hS.sublist (.cons_cons _ (.cons _ (.refl _)))
    · skip
      focus (refine S_seq rfl ?_; refine S_region rfl rfl ?_; refine R_take (T_decT rfl (by omega)) ?_ rfl rfl; refine R_nil ?_; refine S_seq rfl ?_; refine S_true rfl rfl ?_; refine S_skip rfl ?_; refine S_seq rfl ?_; refine S_block rfl ?_; refine S_seq rfl ?_; refine S_region rfl rfl ?_; refine R_take (T_ixN rfl rfl rfl rfl rfl rfl (by first | assumption | exact hne (by omega) | exact hne2 (by omega)) (by omega)) ?_ rfl rfl; refine R_take (T_ldr rfl rfl rfl (Srd.old h (fun k _ => noOwns k)) (by omega) (hld' (by omega))) ?_ rfl rfl; refine R_p rfl ?_ rfl rfl; refine R_nil ?_; refine S_seq rfl ?_; refine S_seq rfl ?_; refine S_region rfl rfl ?_; refine R_p rfl ?_ rfl rfl; refine R_p rfl ?_ rfl rfl; refine R_take (T_decF rfl (by omega)) ?_ rfl rfl; refine R_p rfl ?_ rfl rfl; refine R_skip ?_ rfl rfl; refine R_skip ?_ rfl rfl; refine R_p rfl ?_ rfl rfl; refine R_nil ?_; refine S_false rfl rfl ?_; refine S_skip rfl ?_; refine S_region rfl rfl ?_; refine R_p rfl ?_ rfl rfl; refine R_take (T_load rfl rfl rfl (by first | rfl | assumption)) ?_ rfl rfl; refine R_p rfl ?_ rfl rfl; (refine R_eff (E_lit1 (m := 1) (vs := [zv x]) rfl rfl rfl rfl rfl rfl rfl (by simp [zv, Value.oneCell']) (by decide)) ?_ rfl rfl; rintro _ _ ⟨bx, rfl, rfl⟩); (refine R_eff (E_app1 rfl rfl rfl rfl rfl rfl rfl (Srd.pt (ds := [zv x]) rfl (fun j u hj => by rw [Nat.zero_add]; exact hj)) (by simp [zv, Value.oneCell']) (by show _ * 8 ≤ _; omega) (by unfold maxLen; omega)) ?_ rfl rfl; rintro _ _ ⟨A7, c7, rfl, rfl⟩); refine R_p rfl ?_ rfl rfl; (refine R_eff0 (E_store1 rfl rfl rfl rfl rfl rfl (by first | decide | (simp; done) | (simp; omega) | assumption)) ?_ rfl; rintro _ _ rfl); refine R_nil ?_; refine RS_blk ?_; refine S_region rfl rfl ?_; refine R_take (T_addN rfl rfl (by unfold fits; omega)) ?_ rfl rfl; refine R_p rfl ?_ rfl rfl; refine R_nil ?_)
      all_goals (try (exfalso; first | contradiction | omega))
      have e : wthL m (ms.take (j + 1)) = (L ++ [x], d) := by rw [hnx']; simp [wth, hmx]
      have e1 : (L ++ [x]).length = L.length + 1 := by simp
      refine hJ (j + 1, A7, c7) _ _ (by show j + 1 ≤ _; omega) ?_ (fun w' hS => ?_) (by show ms.length - (j + 1) < _; omega)
      · dsimp only
        rw [e]
        exact (Sub.cons rfl (Sub.cons rfl (Sub.cons rfl (Sub.cons rfl (Sub.cons rfl (Sub.cons rfl (Sub.cons rfl Sub.nil)))))))
      · dsimp only
        rw [e, e1]
        simp only [List.map_append]
        exact hS.sublist (.cons_cons _ (.cons _ (.refl _)))
  · skip
    cases d
    · skip
      focus (refine S_seq rfl ?_; refine S_region rfl rfl ?_; refine R_take (T_decF rfl (by omega)) ?_ rfl rfl; refine R_nil ?_; refine S_seq rfl ?_; refine S_false rfl rfl ?_; refine S_exit rfl rfl ?_; refine S_seq rfl ?_; refine S_seq rfl ?_; refine S_region rfl rfl ?_; refine R_p rfl ?_ rfl rfl; refine R_take (T_not rfl) ?_ rfl rfl; refine R_nil ?_; refine S_true rfl rfl ?_; refine S_region rfl rfl ?_; refine R_p rfl ?_ rfl rfl; refine R_take (T_load rfl rfl rfl (by first | rfl | assumption)) ?_ rfl rfl; refine R_p rfl ?_ rfl rfl; (refine R_eff (E_lit1 (m := 1) (vs := [zv m]) rfl rfl rfl rfl rfl rfl rfl (by simp [zv, Value.oneCell']) (by decide)) ?_ rfl rfl; rintro _ _ ⟨bm, rfl, rfl⟩); (refine R_eff (E_app1 rfl rfl rfl rfl rfl rfl rfl (Srd.pt (ds := [zv m]) rfl (fun j u hj => by rw [Nat.zero_add]; exact hj)) (by simp [zv, Value.oneCell']) (by show _ * 8 ≤ _; omega) (by unfold maxLen; omega)) ?_ rfl rfl; rintro _ _ ⟨A6, c6, rfl, rfl⟩); refine R_p rfl ?_ rfl rfl; (refine R_eff0 (E_store1 rfl rfl rfl rfl rfl rfl (by first | decide | (simp; done) | (simp; omega) | assumption)) ?_ rfl; rintro _ _ rfl); refine R_nil ?_; refine S_seq rfl ?_; refine S_region rfl rfl ?_; refine R_take (T_loada (ds := [.slice A6 (L.length + 1) c6]) rfl rfl rfl rfl (fun j v h => by simpa using h)) ?_ rfl rfl; (refine R_eff0 (E_storew (cs := [.slice none 0 0]) rfl rfl rfl rfl (sl_one _ _ _) rfl) ?_ rfl; rintro _ _ rfl); refine R_nil ?_)
      all_goals (try (exfalso; first | contradiction | omega))
      have hjn : j = ms.length := by omega
      subst hjn
      rw [List.take_length] at hs0
      have e : withL ms m = L ++ [m] := by rw [withL, hs0]; rfl
      refine hB _ _ _ _ _ rfl (.cell rfl rfl rfl inferInstance rfl .nil) fun w' hS => ⟨(A6, c6), ?_, trivial, ?_⟩
      · rw [e]; simp only [List.length_append]
        rfl
      · rw [e, List.length_append, List.map_append]
        exact hS.sublist (.cons_cons _ (List.nil_sublist _))
    · skip
      focus (refine S_seq rfl ?_; refine S_region rfl rfl ?_; refine R_take (T_decF rfl (by omega)) ?_ rfl rfl; refine R_nil ?_; refine S_seq rfl ?_; refine S_false rfl rfl ?_; refine S_exit rfl rfl ?_; refine S_seq rfl ?_; refine S_seq rfl ?_; refine S_region rfl rfl ?_; refine R_p rfl ?_ rfl rfl; refine R_take (T_not rfl) ?_ rfl rfl; refine R_nil ?_; refine S_false rfl rfl ?_; refine S_skip rfl ?_; refine S_seq rfl ?_; refine S_region rfl rfl ?_; refine R_take (T_loada (ds := [.slice A3 L.length c3]) rfl rfl rfl rfl (fun j v h => by simpa using h)) ?_ rfl rfl; (refine R_eff0 (E_storew (cs := [.slice none 0 0]) rfl rfl rfl rfl (sl_one _ _ _) rfl) ?_ rfl; rintro _ _ rfl); refine R_nil ?_)
      all_goals (try (exfalso; first | contradiction | omega))
      have hjn : j = ms.length := by omega
      subst hjn
      rw [List.take_length] at hs0
      have e : withL ms m = L := by rw [withL, hs0]; rfl
      refine hB _ _ _ _ _ rfl (.cell rfl rfl rfl inferInstance rfl .nil) fun w' hS => ⟨(A3, c3), ?_, trivial, ?_⟩
      · rw [e]
        rfl
      · rw [e]
        exact hS.sublist (.cons_cons _ (List.nil_sublist _))
def woutL (ms : List Int) (m : Int) : List Int := ms.filter fun x => !decide (x = m)
theorem wout_next (m : Int) (ms : List Int) (j : Nat) (hj : j < ms.length) : woutL (ms.take (j + 1)) m = woutL (ms.take j) m ++ (if ms.getD j 0 = m then [] else [ms.getD j 0]) := by
  rw [List.take_succ_eq_append_getElem hj, woutL, List.filter_append, getD_at hj]
  congr 1
  by_cases h : ms[j] = m <;> simp [h]
set_option maxRecDepth 100000 in
set_option maxHeartbeats 4000000 in
theorem rwout_any (w : World) (A : Option Addr) (n c : Nat) (ms : List Int) (m : Int) (h : Rd w All 1 A n (ms.map zv)) (hn : n ≤ 900) :
    Gives Try.prog 20 [cfv A n c, zv m] [] w (X := Option Addr × Nat) (fun x => cfv x.1 (woutL ms m).length x.2) (fun _ => True) (fun x => [row 3 1 x.1 (woutL ms m).length x.2 ((woutL ms m).map zv)]) := by
  refine gives_C Try.func20 rfl Try.ntmps20 Try.results20 (by simp) (St.enter w) (fun B hB => ?_)
  have hl : ms.length = n := by have := h.1; simpa using this
  have hne : 0 < n → A ≠ none := fun h0 => by obtain ⟨ad, rfl, _⟩ := h.2 h0; simp
  subst hl
  have hld : ∀ j, j < ms.length → (ms.map zv)[j]? = some (zv (ms.getD j 0)) := fun j hj => zv_at hj
  focus (refine S_seq rfl ?_; refine S_region rfl rfl ?_; (refine R_eff (E_boxa rfl) ?_ rfl rfl; rintro _ _ ⟨b, rfl, rfl⟩); (refine R_eff (E_alloca rfl cf_alloc) ?_ rfl rfl; rintro _ _ ⟨bc, rfl, rfl⟩); refine R_nil ?_; refine S_seq rfl ?_; refine S_region rfl rfl ?_; (refine R_eff (E_alloca rfl cf_alloc) ?_ rfl rfl; rintro _ _ ⟨bc, rfl, rfl⟩); refine R_nil ?_; refine S_seq rfl ?_; refine S_seq rfl ?_; refine S_region rfl rfl ?_; refine R_p rfl ?_ rfl rfl; refine R_take (T_load rfl rfl rfl (by first | rfl | assumption)) ?_ rfl rfl; refine R_p rfl ?_ rfl rfl; refine R_p rfl ?_ rfl rfl; refine R_nil ?_; refine S_block rfl ?_)
  rename_i b4
  refine S_loop (X := Nat × Option Addr × Nat) (fun x => [(1, zv m), (4, .pointer (some ⟨b4, 0, none⟩)), (5, .pointer (some ⟨bc, 0, none⟩)), (9, .slice A ms.length c), (10, .int .i64 (ms.length : Int)), (11, .int .i64 (x.1 : Int))]) (fun x => [row 3 1 x.2.1 (woutL (ms.take x.1) m).length x.2.2 ((woutL (ms.take x.1) m).map zv), pt bc 24 [.slice x.2.1 (woutL (ms.take x.1) m).length x.2.2], pt b4 24 [.slice none 0 0]]) (fun x => x.1 ≤ ms.length) (fun x => ms.length - x.1) rfl (0, none, 0) (Nat.zero_le _) (Sub.cons rfl (Sub.cons rfl (Sub.cons rfl (Sub.cons rfl (Sub.cons rfl (Sub.cons rfl Sub.nil)))))) (fun w hS => (hS.nilrow _ _).sublist (.cons_cons _ (.cons_cons _ (.cons_cons _ (List.nil_sublist _))))) ?_
  rintro ⟨j, A3, c3⟩ hj J hJ
  simp only at hj ⊢
  have hnx := wout_next m ms j
  have hld' := hld j
  have hlen : (woutL (ms.take j) m).length ≤ (ms.take j).length := List.length_filter_le _ _
  obtain ⟨x, hx⟩ : ∃ x, ms.getD j 0 = x := ⟨_, rfl⟩
  rw [hx] at hnx hld'
  obtain ⟨L, hs0⟩ : ∃ L, woutL (ms.take j) m = L := ⟨_, rfl⟩
  rw [hs0] at hnx hlen ⊢
  simp only [List.length_take] at hlen
  have hL : L.length ≤ 1800 := by omega
  focus (refine S_seq rfl ?_; refine S_region rfl rfl ?_; refine R_p rfl ?_ rfl rfl; refine R_nil ?_; refine S_seq rfl ?_; (refine S_if rfl rfl (fun hs => ?_) (fun hs => ?_)); refine S_skip rfl ?_; refine S_seq rfl ?_; refine S_block rfl ?_; refine S_seq rfl ?_; refine S_region rfl rfl ?_; refine R_take (T_ixN rfl rfl rfl rfl rfl rfl (by first | assumption | exact hne (by omega) | exact hne2 (by omega)) (by omega)) ?_ rfl rfl; refine R_take (T_ldr rfl rfl rfl (Srd.old h (fun k _ => noOwns k)) (by omega) (hld' (by omega))) ?_ rfl rfl; refine R_p rfl ?_ rfl rfl; refine R_nil ?_; refine S_seq rfl ?_; refine S_region rfl rfl ?_; refine R_p rfl ?_ rfl rfl; refine R_p rfl ?_ rfl rfl; refine R_p rfl ?_ rfl rfl; refine R_nil ?_; (refine S_if rfl rfl (fun hs => ?_) (fun hs => ?_)); refine S_region rfl rfl ?_; refine R_p rfl ?_ rfl rfl; refine R_take (T_load rfl rfl rfl (by first | rfl | assumption)) ?_ rfl rfl; refine R_p rfl ?_ rfl rfl; (refine R_eff (E_lit1 (m := 1) (vs := [zv x]) rfl rfl rfl rfl rfl rfl rfl (by simp [zv, Value.oneCell']) (by decide)) ?_ rfl rfl; rintro _ _ ⟨bx, rfl, rfl⟩); (refine R_eff (E_app1 rfl rfl rfl rfl rfl rfl rfl (Srd.pt (ds := [zv x]) rfl (fun j u hj => by rw [Nat.zero_add]; exact hj)) (by simp [zv, Value.oneCell']) (by show _ * 8 ≤ _; omega) (by unfold maxLen; omega)) ?_ rfl rfl; rintro _ _ ⟨A7, c7, rfl, rfl⟩); refine R_p rfl ?_ rfl rfl; (refine R_eff0 (E_store1 rfl rfl rfl rfl rfl rfl (by first | decide | (simp; done) | (simp; omega) | assumption)) ?_ rfl; rintro _ _ rfl); refine R_nil ?_; refine RS_blk ?_; refine S_region rfl rfl ?_; refine R_take (T_addN rfl rfl (by unfold fits; omega)) ?_ rfl rfl; refine R_p rfl ?_ rfl rfl; refine R_nil ?_; rotate_left; refine S_skip rfl ?_; refine RS_blk ?_; refine S_region rfl rfl ?_; refine R_take (T_addN rfl rfl (by unfold fits; omega)) ?_ rfl rfl; refine R_p rfl ?_ rfl rfl; refine R_nil ?_; rotate_left; refine S_exit rfl rfl ?_; refine S_seq rfl ?_; refine S_region rfl rfl ?_; refine R_take (T_loada (ds := [.slice A3 L.length c3]) rfl rfl rfl rfl (fun j v h => by simpa using h)) ?_ rfl rfl; (refine R_eff0 (E_storew (cs := [.slice none 0 0]) rfl rfl rfl rfl (sl_one _ _ _) rfl) ?_ rfl; rintro _ _ rfl); refine R_nil ?_; rotate_left)
  · have e : woutL (ms.take (j + 1)) m = L ++ [x] := by rw [hnx (by omega), if_neg (by assumption)]
    have e1 : (L ++ [x]).length = L.length + 1 := by simp
    refine hJ (j + 1, A7, c7) _ _ (by show j + 1 ≤ _; omega) (Sub.cons rfl (Sub.cons rfl (Sub.cons rfl (Sub.cons rfl (Sub.cons rfl (Sub.cons rfl Sub.nil)))))) (fun w' hS => ?_) (by show ms.length - (j + 1) < _; omega)
    dsimp only
    rw [e, e1, List.map_append]
    exact hS.sublist (.cons_cons _ (.cons _ (.refl _)))
  · have e : woutL (ms.take (j + 1)) m = L := by rw [hnx (by omega), if_pos (by omega), List.append_nil]
    refine hJ (j + 1, A3, c3) _ _ (by show j + 1 ≤ _; omega) (Sub.cons rfl (Sub.cons rfl (Sub.cons rfl (Sub.cons rfl (Sub.cons rfl (Sub.cons rfl Sub.nil)))))) (fun w' hS => ?_) (by show ms.length - (j + 1) < _; omega)
    dsimp only
    rw [e]
    exact hS
  · have hjn : j = ms.length := by omega
    subst hjn
    rw [List.take_length] at hs0
    refine hB _ _ _ _ _ rfl (.cell rfl rfl rfl inferInstance rfl .nil) fun w' hS => ⟨(A3, c3), ?_, trivial, ?_⟩
    · rw [hs0]
      rfl
    · rw [hs0]
      exact hS.sublist (.cons_cons _ (List.nil_sublist _))
def farN (ms ks : List Int) : Nat := ms.countP (fun m => !decide (m ∈ ks)) + ks.countP (fun m => !decide (m ∈ ms))
set_option maxRecDepth 100000 in
set_option maxHeartbeats 4000000 in
theorem rfar_any (w : World) (A A2 : Option Addr) (n c n2 c2 : Nat) (ms ks : List Int) (h : Rd w All 1 A n (ms.map zv)) (h2 : Rd w All 1 A2 n2 (ks.map zv)) (hn : n ≤ 1000) (hn2 : n2 ≤ 1000) :
    Gives Try.prog 28 [cfv A n c, cfv A2 n2 c2] [] w (X := Unit) (fun _ => .int .i64 (farN ms ks : Nat)) (fun _ => True) (fun _ => []) := by
  refine gives_S Try.func28 rfl Try.ntmps28 Try.results28 (by simp) (St.enter w) (fun B hB => ?_)
  have hl : ms.length = n := by have := h.1; simpa using this
  have hl2 : ks.length = n2 := by have := h2.1; simpa using this
  have hne : 0 < n → A ≠ none := fun h0 => by obtain ⟨ad, rfl, _⟩ := h.2 h0; simp
  have hne2 : 0 < n2 → A2 ≠ none := fun h0 => by obtain ⟨ad, rfl, _⟩ := h2.2 h0; simp
  subst hl hl2
  have hld : ∀ j, j < ms.length → (ms.map zv)[j]? = some (zv (ms.getD j 0)) := fun j hj => zv_at hj
  have hld2 : ∀ j, j < ks.length → (ks.map zv)[j]? = some (zv (ks.getD j 0)) := fun j hj => zv_at hj
  have hle : ∀ j, (ms.take j).countP (fun m => !decide (m ∈ ks)) ≤ j := fun j => Nat.le_trans List.countP_le_length (by simp; omega)
  have hle2 : ∀ j, (ks.take j).countP (fun m => !decide (m ∈ ms)) ≤ j := fun j => Nat.le_trans List.countP_le_length (by simp; omega)
  focus (refine S_seq rfl ?_; refine S_region rfl rfl ?_; (refine R_eff (E_boxa rfl) ?_ rfl rfl; rintro _ _ ⟨b, rfl, rfl⟩); (refine R_eff (E_boxa rfl) ?_ rfl rfl; rintro _ _ ⟨b, rfl, rfl⟩); refine R_p rfl ?_ rfl rfl; refine R_nil ?_; refine S_seq rfl ?_; refine S_region rfl rfl ?_; refine R_p rfl ?_ rfl rfl; refine R_nil ?_; refine S_seq rfl ?_; refine S_seq rfl ?_; refine S_region rfl rfl ?_; refine R_p rfl ?_ rfl rfl; refine R_take (T_load rfl rfl rfl (by first | rfl | assumption)) ?_ rfl rfl; refine R_p rfl ?_ rfl rfl; refine R_p rfl ?_ rfl rfl; refine R_nil ?_; refine S_block rfl ?_)
  rename_i b2
  refine S_loop (X := Nat) (fun j => [(2, .pointer (some ⟨b2, 0, none⟩)), (3, .pointer (some ⟨b, 0, none⟩)), (5, .int .i64 ((ms.take j).countP (fun m => !decide (m ∈ ks)) : Nat)), (11, .slice A ms.length c), (12, .int .i64 (ms.length : Int)), (13, .int .i64 (j : Int))]) (fun _ => [pt b 24 [.slice A2 ks.length c2], pt b2 24 [.slice A ms.length c]]) (fun j => j ≤ ms.length) (fun j => ms.length - j) rfl 0 (Nat.zero_le _) (Sub.cons rfl (Sub.cons rfl (Sub.cons rfl (Sub.cons rfl (Sub.cons rfl (Sub.cons rfl Sub.nil)))))) (fun _ h => h) ?_
  rintro j hj J hJ
  have hnx := cnt_next (fun m => !decide (m ∈ ks)) ms j
  have hld' := hld j
  have hlj := hle j
  obtain ⟨x, hx⟩ : ∃ x, ms.getD j 0 = x := ⟨_, rfl⟩
  obtain ⟨q, hq⟩ : ∃ q, (ms.take j).countP (fun m => !decide (m ∈ ks)) = q := ⟨_, rfl⟩
  rw [hx] at hnx hld'
  rw [hq] at hnx hlj ⊢
  rcases Nat.lt_or_ge j ms.length with hjl | hjl
  · by_cases hxm : x ∈ ks
    · have e : (ms.take (j + 1)).countP (fun m => !decide (m ∈ ks)) = q := by rw [hnx hjl]; simp [hxm]
      focus (refine S_seq rfl ?_; refine S_region rfl rfl ?_; refine R_p rfl ?_ rfl rfl; refine R_nil ?_; refine S_seq rfl ?_; (refine S_if rfl rfl (fun hs => ?_) (fun hs => ?_)); refine S_skip rfl ?_; refine S_seq rfl ?_; refine S_block rfl ?_; refine S_seq rfl ?_; refine S_region rfl rfl ?_; refine R_take (T_ixN rfl rfl rfl rfl rfl rfl (by first | assumption | exact hne (by omega) | exact hne2 (by omega)) (by omega)) ?_ rfl rfl; refine R_take (T_ldr rfl rfl rfl (Srd.old h (fun k _ => noOwns k)) (by omega) (hld' (by omega))) ?_ rfl rfl; refine R_p rfl ?_ rfl rfl; refine R_nil ?_; refine S_seq rfl ?_; refine S_region rfl rfl ?_; refine R_take (T_loada (ds := [.slice A2 ks.length c2]) rfl rfl rfl rfl (fun j v h => by simpa using h)) ?_ rfl rfl; refine R_p rfl ?_ rfl rfl; (refine R_eff (E_gv0 (f := 17) ⟨_, Try.func17, rfl, by kernel_rfl⟩ rfl (fun w hS => rhas_any w A2 _ c2 ks x ((Srd.old h2 (fun k _ => noOwns k)).rd w hS) hn2) (fun _ => rfl)) ?_ rfl rfl; rintro _ _ ⟨_, rfl, _, rfl⟩); refine R_take (T_notd rfl) ?_ rfl rfl; refine R_nil ?_; (refine S_if rfl rfl (fun hs => ?_) (fun hs => ?_)); refine S_region rfl rfl ?_; refine R_p rfl ?_ rfl rfl; refine R_take (T_addN rfl rfl (by unfold fits; omega)) ?_ rfl rfl; refine R_p rfl ?_ rfl rfl; refine R_nil ?_; refine RS_blk ?_; refine S_region rfl rfl ?_; refine R_take (T_addN rfl rfl (by unfold fits; omega)) ?_ rfl rfl; refine R_p rfl ?_ rfl rfl; refine R_nil ?_; rotate_left; refine S_skip rfl ?_; refine RS_blk ?_; refine S_region rfl rfl ?_; refine R_take (T_addN rfl rfl (by unfold fits; omega)) ?_ rfl rfl; refine R_p rfl ?_ rfl rfl; refine R_nil ?_; rotate_left; refine S_exit rfl rfl ?_; refine S_seq rfl ?_; refine S_seq rfl ?_; refine S_region rfl rfl ?_; refine R_p rfl ?_ rfl rfl; refine R_take (T_load rfl rfl rfl (by first | rfl | assumption)) ?_ rfl rfl; refine R_p rfl ?_ rfl rfl; refine R_p rfl ?_ rfl rfl; refine R_nil ?_; refine S_block rfl ?_; rotate_left)
      all_goals (try (exfalso; first | contradiction | omega | (simp_all; done)))
      refine hJ (j + 1) _ _ (by omega) ?_ (fun _ h => h) (by omega)
      rw [e]
      exact (Sub.cons rfl (Sub.cons rfl (Sub.cons rfl (Sub.cons rfl (Sub.cons rfl (Sub.cons rfl Sub.nil))))))
    · have e : (ms.take (j + 1)).countP (fun m => !decide (m ∈ ks)) = q + 1 := by rw [hnx hjl]; simp [hxm]
      focus (refine S_seq rfl ?_; refine S_region rfl rfl ?_; refine R_p rfl ?_ rfl rfl; refine R_nil ?_; refine S_seq rfl ?_; (refine S_if rfl rfl (fun hs => ?_) (fun hs => ?_)); refine S_skip rfl ?_; refine S_seq rfl ?_; refine S_block rfl ?_; refine S_seq rfl ?_; refine S_region rfl rfl ?_; refine R_take (T_ixN rfl rfl rfl rfl rfl rfl (by first | assumption | exact hne (by omega) | exact hne2 (by omega)) (by omega)) ?_ rfl rfl; refine R_take (T_ldr rfl rfl rfl (Srd.old h (fun k _ => noOwns k)) (by omega) (hld' (by omega))) ?_ rfl rfl; refine R_p rfl ?_ rfl rfl; refine R_nil ?_; refine S_seq rfl ?_; refine S_region rfl rfl ?_; refine R_take (T_loada (ds := [.slice A2 ks.length c2]) rfl rfl rfl rfl (fun j v h => by simpa using h)) ?_ rfl rfl; refine R_p rfl ?_ rfl rfl; (refine R_eff (E_gv0 (f := 17) ⟨_, Try.func17, rfl, by kernel_rfl⟩ rfl (fun w hS => rhas_any w A2 _ c2 ks x ((Srd.old h2 (fun k _ => noOwns k)).rd w hS) hn2) (fun _ => rfl)) ?_ rfl rfl; rintro _ _ ⟨_, rfl, _, rfl⟩); refine R_take (T_notd rfl) ?_ rfl rfl; refine R_nil ?_; (refine S_if rfl rfl (fun hs => ?_) (fun hs => ?_)); refine S_region rfl rfl ?_; refine R_p rfl ?_ rfl rfl; refine R_take (T_addN rfl rfl (by unfold fits; omega)) ?_ rfl rfl; refine R_p rfl ?_ rfl rfl; refine R_nil ?_; refine RS_blk ?_; refine S_region rfl rfl ?_; refine R_take (T_addN rfl rfl (by unfold fits; omega)) ?_ rfl rfl; refine R_p rfl ?_ rfl rfl; refine R_nil ?_; rotate_left; refine S_skip rfl ?_; refine RS_blk ?_; refine S_region rfl rfl ?_; refine R_take (T_addN rfl rfl (by unfold fits; omega)) ?_ rfl rfl; refine R_p rfl ?_ rfl rfl; refine R_nil ?_; rotate_left; refine S_exit rfl rfl ?_; refine S_seq rfl ?_; refine S_seq rfl ?_; refine S_region rfl rfl ?_; refine R_p rfl ?_ rfl rfl; refine R_take (T_load rfl rfl rfl (by first | rfl | assumption)) ?_ rfl rfl; refine R_p rfl ?_ rfl rfl; refine R_p rfl ?_ rfl rfl; refine R_nil ?_; refine S_block rfl ?_; rotate_left)
      all_goals (try (exfalso; first | contradiction | omega | (simp_all; done)))
      refine hJ (j + 1) _ _ (by omega) ?_ (fun _ h => h) (by omega)
      rw [e]
      exact (Sub.cons rfl (Sub.cons rfl (Sub.cons rfl (Sub.cons rfl (Sub.cons rfl (Sub.cons rfl Sub.nil))))))
  have hjn : j = ms.length := by omega
  subst hjn
  rw [List.take_length] at hq
  clear hJ hnx hld' hx
  focus (refine S_seq rfl ?_; refine S_region rfl rfl ?_; refine R_take (T_decF rfl (by omega)) ?_ rfl rfl; refine R_nil ?_; refine S_seq rfl ?_; refine S_false rfl rfl ?_; refine S_exit rfl rfl ?_; refine S_seq rfl ?_; refine S_seq rfl ?_; refine S_region rfl rfl ?_; refine R_p rfl ?_ rfl rfl; refine R_take (T_load rfl rfl rfl (by first | rfl | assumption)) ?_ rfl rfl; refine R_p rfl ?_ rfl rfl; refine R_p rfl ?_ rfl rfl; refine R_nil ?_; refine S_block rfl ?_)
  refine S_loop (X := Nat) (fun j => [(2, .pointer (some ⟨b2, 0, none⟩)), (5, .int .i64 ((q + (ks.take j).countP (fun m => !decide (m ∈ ms)) : Nat))), (25, .slice A2 ks.length c2), (26, .int .i64 (ks.length : Int)), (27, .int .i64 (j : Int))]) (fun _ => [pt b2 24 [.slice A ms.length c]]) (fun j => j ≤ ks.length) (fun j => ks.length - j) rfl 0 (Nat.zero_le _) (Sub.cons rfl (Sub.cons rfl (Sub.cons rfl (Sub.cons rfl (Sub.cons rfl Sub.nil))))) sub_st ?_
  rintro j hj2 J hJ
  have hnx := cnt_next (fun m => !decide (m ∈ ms)) ks j
  have hld' := hld2 j
  have hlj2 := hle2 j
  obtain ⟨x, hx⟩ : ∃ x, ks.getD j 0 = x := ⟨_, rfl⟩
  obtain ⟨r, hr⟩ : ∃ r, (ks.take j).countP (fun m => !decide (m ∈ ms)) = r := ⟨_, rfl⟩
  rw [hx] at hnx hld'
  rw [hr] at hnx hlj2 ⊢
  rcases Nat.lt_or_ge j ks.length with hjl | hjl
  · by_cases hxm : x ∈ ms
    · have e : (ks.take (j + 1)).countP (fun m => !decide (m ∈ ms)) = r := by rw [hnx hjl]; simp [hxm]
      focus (refine S_seq rfl ?_; refine S_region rfl rfl ?_; refine R_p rfl ?_ rfl rfl; refine R_nil ?_; refine S_seq rfl ?_; (refine S_if rfl rfl (fun hs => ?_) (fun hs => ?_)); refine S_skip rfl ?_; refine S_seq rfl ?_; refine S_block rfl ?_; refine S_seq rfl ?_; refine S_region rfl rfl ?_; refine R_take (T_ixN rfl rfl rfl rfl rfl rfl (by first | assumption | exact hne (by omega) | exact hne2 (by omega)) (by omega)) ?_ rfl rfl; refine R_take (T_ldr rfl rfl rfl (Srd.old h2 (fun k _ => noOwns k)) (by omega) (hld' (by omega))) ?_ rfl rfl; refine R_p rfl ?_ rfl rfl; refine R_nil ?_; refine S_seq rfl ?_; refine S_region rfl rfl ?_; refine R_take (T_loada (ds := [.slice A ms.length c]) rfl rfl rfl rfl (fun j v h => by simpa using h)) ?_ rfl rfl; refine R_p rfl ?_ rfl rfl; (refine R_eff (E_gv0 (f := 17) ⟨_, Try.func17, rfl, by kernel_rfl⟩ rfl (fun w hS => rhas_any w A _ c ms x ((Srd.old h (fun k _ => noOwns k)).rd w hS) hn) (fun _ => rfl)) ?_ rfl rfl; rintro _ _ ⟨_, rfl, _, rfl⟩); refine R_take (T_notd rfl) ?_ rfl rfl; refine R_nil ?_; (refine S_if rfl rfl (fun hs => ?_) (fun hs => ?_)); refine S_region rfl rfl ?_; refine R_p rfl ?_ rfl rfl; refine R_take (T_addN rfl rfl (by unfold fits; omega)) ?_ rfl rfl; refine R_p rfl ?_ rfl rfl; refine R_nil ?_; refine RS_blk ?_; refine S_region rfl rfl ?_; refine R_take (T_addN rfl rfl (by unfold fits; omega)) ?_ rfl rfl; refine R_p rfl ?_ rfl rfl; refine R_nil ?_; rotate_left; refine S_skip rfl ?_; refine RS_blk ?_; refine S_region rfl rfl ?_; refine R_take (T_addN rfl rfl (by unfold fits; omega)) ?_ rfl rfl; refine R_p rfl ?_ rfl rfl; refine R_nil ?_; rotate_left; refine S_exit rfl rfl ?_; refine S_seq rfl ?_; refine S_region rfl rfl ?_; refine R_p rfl ?_ rfl rfl; refine R_p rfl ?_ rfl rfl; refine R_nil ?_; rotate_left)
      all_goals (try (exfalso; first | contradiction | omega | (simp_all; done)))
      refine hJ (j + 1) _ _ (by omega) ?_ (fun _ h => h) (by omega)
      rw [e]
      exact (Sub.cons rfl (Sub.cons rfl (Sub.cons rfl (Sub.cons rfl (Sub.cons rfl Sub.nil)))))
    · have e : (ks.take (j + 1)).countP (fun m => !decide (m ∈ ms)) = r + 1 := by rw [hnx hjl]; simp [hxm]
      focus (refine S_seq rfl ?_; refine S_region rfl rfl ?_; refine R_p rfl ?_ rfl rfl; refine R_nil ?_; refine S_seq rfl ?_; (refine S_if rfl rfl (fun hs => ?_) (fun hs => ?_)); refine S_skip rfl ?_; refine S_seq rfl ?_; refine S_block rfl ?_; refine S_seq rfl ?_; refine S_region rfl rfl ?_; refine R_take (T_ixN rfl rfl rfl rfl rfl rfl (by first | assumption | exact hne (by omega) | exact hne2 (by omega)) (by omega)) ?_ rfl rfl; refine R_take (T_ldr rfl rfl rfl (Srd.old h2 (fun k _ => noOwns k)) (by omega) (hld' (by omega))) ?_ rfl rfl; refine R_p rfl ?_ rfl rfl; refine R_nil ?_; refine S_seq rfl ?_; refine S_region rfl rfl ?_; refine R_take (T_loada (ds := [.slice A ms.length c]) rfl rfl rfl rfl (fun j v h => by simpa using h)) ?_ rfl rfl; refine R_p rfl ?_ rfl rfl; (refine R_eff (E_gv0 (f := 17) ⟨_, Try.func17, rfl, by kernel_rfl⟩ rfl (fun w hS => rhas_any w A _ c ms x ((Srd.old h (fun k _ => noOwns k)).rd w hS) hn) (fun _ => rfl)) ?_ rfl rfl; rintro _ _ ⟨_, rfl, _, rfl⟩); refine R_take (T_notd rfl) ?_ rfl rfl; refine R_nil ?_; (refine S_if rfl rfl (fun hs => ?_) (fun hs => ?_)); refine S_region rfl rfl ?_; refine R_p rfl ?_ rfl rfl; refine R_take (T_addN rfl rfl (by unfold fits; omega)) ?_ rfl rfl; refine R_p rfl ?_ rfl rfl; refine R_nil ?_; refine RS_blk ?_; refine S_region rfl rfl ?_; refine R_take (T_addN rfl rfl (by unfold fits; omega)) ?_ rfl rfl; refine R_p rfl ?_ rfl rfl; refine R_nil ?_; rotate_left; refine S_skip rfl ?_; refine RS_blk ?_; refine S_region rfl rfl ?_; refine R_take (T_addN rfl rfl (by unfold fits; omega)) ?_ rfl rfl; refine R_p rfl ?_ rfl rfl; refine R_nil ?_; rotate_left; refine S_exit rfl rfl ?_; refine S_seq rfl ?_; refine S_region rfl rfl ?_; refine R_p rfl ?_ rfl rfl; refine R_p rfl ?_ rfl rfl; refine R_nil ?_; rotate_left)
      all_goals (try (exfalso; first | contradiction | omega | (simp_all; done)))
      refine hJ (j + 1) _ _ (by omega) ?_ (fun _ h => h) (by omega)
      rw [e]
      exact (Sub.cons rfl (Sub.cons rfl (Sub.cons rfl (Sub.cons rfl (Sub.cons rfl Sub.nil)))))
  have hjn : j = ks.length := by omega
  subst hjn
  rw [List.take_length] at hr
  focus (refine S_seq rfl ?_; refine S_region rfl rfl ?_; refine R_take (T_decF rfl (by omega)) ?_ rfl rfl; refine R_nil ?_; refine S_seq rfl ?_; refine S_false rfl rfl ?_; refine S_exit rfl rfl ?_; refine S_seq rfl ?_; refine S_region rfl rfl ?_; refine R_p rfl ?_ rfl rfl; refine R_p rfl ?_ rfl rfl; refine R_nil ?_)
  refine hB _ _ _ _ _ rfl rfl fun w' hS => ⟨(), ?_, trivial, hS.sublist (List.nil_sublist _)⟩
  rw [farN, hq, hr]
  rfl
end Go.Proofs.Ytlihhjldkopfhaa
