/- Members: Encode; the document's Bytes. -/
import Derived.Test.YtlihhjldkopfhaaCo7
namespace Go.Proofs.Ytlihhjldkopfhaa
open Go.RowKit
open Asn (pt row rb)
set_option linter.unusedVariables false
set_option linter.unusedSimpArgs false
--@use N

def zb (m : Int) : UInt8 := UInt8.ofNat (m % 256).toNat
theorem zb_bv {m : Int} (h0 : 0 ≤ m) (h1 : m < 256) : (.int .u8 m : Value) = bv (zb m) := by
  simp only [bv, zb, UInt8.toNat_ofNat']
  congr 1
  omega
theorem up_len : ∀ (ms : List Int) (a b : Int), (∀ m ∈ ms, a < m ∧ m ≤ b) → Up_ ms → (ms.length : Int) ≤ max 0 (b - a)
  | [], a, b, _, _ => by simp; omega
  | m :: ms, a, b, h, hu => by
    obtain ⟨h1, h2⟩ := List.pairwise_cons.1 hu
    have ih := up_len ms m b (fun x hx => ⟨h1 x hx, (h x (by simp [hx])).2⟩) h2
    have := h m (by simp)
    simp only [List.length_cons]
    omega
theorem right_len {ms : List Int} (h : right ms = true) : 0 < ms.length ∧ ms.length ≤ 5 := by
  obtain ⟨h0, h1, h2⟩ := right_up h
  have := up_len ms 0 5 (fun m hm => by have := h1 m hm; omega) h2
  refine ⟨List.length_pos_iff.2 h0, by omega⟩
def encM (ms : List Int) : List UInt8 := zb ms.length :: ms.map zb
theorem encM_next (ms : List Int) (j : Nat) (hj : j < ms.length) : zb ms.length :: (ms.take (j + 1)).map zb = (zb ms.length :: (ms.take j).map zb) ++ [zb (ms.getD j 0)] := by
  rw [List.take_succ_eq_append_getElem hj, List.map_append]
  simp [List.getD, hj]
set_option maxRecDepth 100000 in
set_option maxHeartbeats 4000000 in
theorem enc_no (w : World) (A : Option Addr) (n c : Nat) (ms : List Int) (h : Rd w All 1 A n (ms.map zv)) (hn : n ≤ 1000) (hr : right ms = false) :
    Gives Try.prog 21 [cfv A n c] [] w (X := Unit) (fun _ => .tuple #[.slice none 0 0, .int .i64 240]) (fun _ => True) (fun _ => []) := by
  refine gives_S Try.func21 rfl Try.ntmps21 Try.results21 (by simp) (St.enter w) (fun B hB => ?_)
  focus (refine S_seq rfl ?_; refine S_region rfl rfl ?_; (refine R_eff (E_boxa rfl) ?_ rfl rfl; rintro _ _ ⟨b, rfl, rfl⟩); refine R_p rfl ?_ rfl rfl; refine R_p rfl ?_ rfl rfl; refine R_nil ?_; refine S_seq rfl ?_; refine S_seq rfl ?_; refine S_region rfl rfl ?_; refine R_take (T_loada (ds := [.slice A n c]) rfl rfl rfl rfl (fun j v h => by simpa using h)) ?_ rfl rfl; (refine R_eff (E_checkF rfl (Srd.old h (fun k _ => noOwns k)) hn hr) ?_ rfl rfl; rintro _ _ ⟨rfl, rfl⟩); refine R_p rfl ?_ rfl rfl; refine R_nil ?_; refine S_seq rfl ?_; refine S_region rfl rfl ?_; refine R_p rfl ?_ rfl rfl; refine R_p rfl ?_ rfl rfl; refine R_nil ?_; refine S_true rfl rfl ?_; refine S_seq rfl ?_; refine S_region rfl rfl ?_; refine R_p rfl ?_ rfl rfl; refine R_p rfl ?_ rfl rfl; refine R_p rfl ?_ rfl rfl; refine R_nil ?_)
  all_goals (try (exfalso; simp_all; done))
  refine hB _ _ _ _ _ rfl rfl fun w' hS => ⟨(), rfl, trivial, hS.sublist (List.nil_sublist _)⟩
set_option maxRecDepth 100000 in
set_option maxHeartbeats 4000000 in
theorem enc_ok (w : World) (A : Option Addr) (n c : Nat) (ms : List Int) (h : Rd w All 1 A n (ms.map zv)) (hn : n ≤ 1000) (hr : right ms = true) :
    Gives Try.prog 21 [cfv A n c] [] w (X := Option Addr × Nat) (fun x => .tuple #[.slice x.1 (n + 1) x.2, .int .i64 0]) (fun _ => True) (fun x => [row 5 1 x.1 (n + 1) x.2 ((encM ms).map bv)]) := by
  refine gives_S Try.func21 rfl Try.ntmps21 Try.results21 (by simp) (St.enter w) (fun B hB => ?_)
  obtain ⟨hr0, hr1, hr2⟩ := right_up hr
  obtain ⟨hl0, hl5⟩ := right_len hr
  have hl : ms.length = n := by have := h.1; simpa using this
  have hne : 0 < n → A ≠ none := fun h0 => by obtain ⟨ad, rfl, _⟩ := h.2 h0; simp
  subst hl
  have hld : ∀ j, j < ms.length → (ms.map zv)[j]? = some (zv (ms.getD j 0)) := fun j hj => zv_at hj
  have hrg : ∀ j, j < ms.length → 1 ≤ ms.getD j 0 ∧ ms.getD j 0 ≤ 5 := fun j hj => by
    have := hr1 (ms[j]) (List.getElem_mem hj)
    simpa [List.getD, hj] using this
  focus (refine S_seq rfl ?_; refine S_region rfl rfl ?_; (refine R_eff (E_boxa rfl) ?_ rfl rfl; rintro _ _ ⟨b, rfl, rfl⟩); refine R_p rfl ?_ rfl rfl; refine R_p rfl ?_ rfl rfl; refine R_nil ?_; refine S_seq rfl ?_; refine S_seq rfl ?_; refine S_region rfl rfl ?_; refine R_take (T_loada (ds := [.slice A ms.length c]) rfl rfl rfl rfl (fun j v h => by simpa using h)) ?_ rfl rfl; (refine R_eff (E_checkT rfl (Srd.old h (fun k _ => noOwns k)) hn hr) ?_ rfl rfl; rintro _ _ ⟨rfl, rfl⟩); refine R_p rfl ?_ rfl rfl; refine R_nil ?_; refine S_seq rfl ?_; refine S_region rfl rfl ?_; refine R_p rfl ?_ rfl rfl; refine R_p rfl ?_ rfl rfl; refine R_nil ?_; refine S_false rfl rfl ?_; refine S_skip rfl ?_; refine S_seq rfl ?_; refine S_region rfl rfl ?_; refine R_p rfl ?_ rfl rfl; refine R_take (T_load rfl rfl rfl (by first | rfl | assumption)) ?_ rfl rfl; refine R_p rfl ?_ rfl rfl; refine R_take (T_convf rfl rfl rfl rfl (by unfold fits; omega)) ?_ rfl rfl; (refine R_eff (E_litr (vs := [.int .u8 (ms.length : Int)]) rfl rfl rfl rfl rfl rfl rfl (by simp [Value.oneCell']) (by decide) rfl) ?_ rfl rfl; rintro _ _ ⟨bl, rfl, rfl⟩); refine R_p rfl ?_ rfl rfl; refine R_nil ?_; refine S_seq rfl ?_; refine S_seq rfl ?_; refine S_region rfl rfl ?_; refine R_p rfl ?_ rfl rfl; refine R_take (T_load rfl rfl rfl (by first | rfl | assumption)) ?_ rfl rfl; refine R_p rfl ?_ rfl rfl; refine R_p rfl ?_ rfl rfl; refine R_nil ?_; refine S_block rfl ?_)
  refine S_loop (X := Nat × Option Addr × Nat) (fun x => [(5, .slice x.2.1 (x.1 + 1) x.2.2), (19, .slice A ms.length c), (20, .int .i64 (ms.length : Int)), (21, .int .i64 (x.1 : Int))]) (fun x => [row 5 1 x.2.1 (x.1 + 1) x.2.2 ((zb ms.length :: (ms.take x.1).map zb).map bv)]) (fun x => x.1 ≤ ms.length) (fun x => ms.length - x.1) rfl (0, some ⟨bl, 0, none⟩, 1) (Nat.zero_le _) (Sub.cons rfl (Sub.cons rfl (Sub.cons rfl (Sub.cons rfl Sub.nil)))) ?_ ?_
  · intro w' hS
    rw [zb_bv (by omega) (by omega)] at hS
    exact hS.sublist (by simp)
  rintro ⟨j, A5, c5⟩ hj J hJ
  simp only at hj ⊢
  have hld' := hld j
  have hrg' := hrg j
  have hnx := encM_next ms j
  obtain ⟨x, hx⟩ : ∃ x, ms.getD j 0 = x := ⟨_, rfl⟩
  rw [hx] at hld' hrg' hnx
  rcases Nat.lt_or_ge j ms.length with hjl | hjl
  · obtain ⟨hx1, hx5⟩ := hrg' hjl
    focus (refine S_seq rfl ?_; refine S_region rfl rfl ?_; refine R_p rfl ?_ rfl rfl; refine R_nil ?_; refine S_seq rfl ?_; (refine S_if rfl rfl (fun hs => ?_) (fun hs => ?_)); refine S_skip rfl ?_; refine S_seq rfl ?_; refine S_block rfl ?_; refine S_seq rfl ?_; refine S_region rfl rfl ?_; refine R_take (T_ixN rfl rfl rfl rfl rfl rfl (by first | assumption | exact hne (by omega) | exact hne2 (by omega)) (by omega)) ?_ rfl rfl; refine R_take (T_ldr rfl rfl rfl (Srd.old h (fun k _ => noOwns k)) (by omega) (hld' (by omega))) ?_ rfl rfl; refine R_p rfl ?_ rfl rfl; refine R_nil ?_; refine S_region rfl rfl ?_; refine R_p rfl ?_ rfl rfl; refine R_p rfl ?_ rfl rfl; refine R_take (T_convf rfl rfl rfl rfl (by unfold fits; omega)) ?_ rfl rfl; (refine R_eff (E_lit1 (vs := [.int .u8 x]) rfl rfl rfl rfl rfl rfl rfl (by simp [Value.oneCell']) (by decide)) ?_ rfl rfl; rintro _ _ ⟨bm, rfl, rfl⟩); (refine R_eff (E_app1 rfl rfl rfl rfl rfl rfl rfl (Srd.pt (ds := [.int .u8 x]) rfl (fun j u hj => by rw [Nat.zero_add]; exact hj)) (by simp [Value.oneCell']) (by show _ * 1 ≤ _; omega) (by unfold maxLen; omega)) ?_ rfl rfl; rintro _ _ ⟨A6, c6, rfl, rfl⟩); refine R_p rfl ?_ rfl rfl; refine R_nil ?_; refine RS_blk ?_; refine S_region rfl rfl ?_; refine R_take (T_addN rfl rfl (by unfold fits; omega)) ?_ rfl rfl; refine R_p rfl ?_ rfl rfl; refine R_nil ?_; rotate_left; refine S_exit rfl rfl ?_; refine S_seq rfl ?_; refine S_region rfl rfl ?_; refine R_p rfl ?_ rfl rfl; refine R_p rfl ?_ rfl rfl; refine R_p rfl ?_ rfl rfl; refine R_nil ?_; rotate_left)
    all_goals (try (exfalso; omega))
    refine hJ (j + 1, A6, c6) _ _ (by show j + 1 ≤ _; omega) (Sub.cons rfl (Sub.cons rfl (Sub.cons rfl (Sub.cons rfl Sub.nil)))) (fun w' hS => ?_) (by show ms.length - (j + 1) < _; omega)
    show St _ _ [row _ 1 _ _ _ ((zb ms.length :: (ms.take (j + 1)).map zb).map bv)] w'
    rw [hnx hjl, List.map_append, List.map_singleton, ← zb_bv (by omega) (by omega)]
    exact hS.sublist (by simp)
  · focus (refine S_seq rfl ?_; refine S_region rfl rfl ?_; refine R_p rfl ?_ rfl rfl; refine R_nil ?_; refine S_seq rfl ?_; (refine S_if rfl rfl (fun hs => ?_) (fun hs => ?_)); refine S_skip rfl ?_; refine S_seq rfl ?_; refine S_block rfl ?_; refine S_seq rfl ?_; refine S_region rfl rfl ?_; refine R_take (T_ixN rfl rfl rfl rfl rfl rfl (by first | assumption | exact hne (by omega) | exact hne2 (by omega)) (by omega)) ?_ rfl rfl; refine R_take (T_ldr rfl rfl rfl (Srd.old h (fun k _ => noOwns k)) (by omega) (hld' (by omega))) ?_ rfl rfl; refine R_p rfl ?_ rfl rfl; refine R_nil ?_; refine S_region rfl rfl ?_; refine R_p rfl ?_ rfl rfl; refine R_p rfl ?_ rfl rfl; refine R_take (T_convf rfl rfl rfl rfl (by unfold fits; omega)) ?_ rfl rfl; (refine R_eff (E_lit1 (vs := [.int .u8 x]) rfl rfl rfl rfl rfl rfl rfl (by simp [Value.oneCell']) (by decide)) ?_ rfl rfl; rintro _ _ ⟨bm, rfl, rfl⟩); (refine R_eff (E_app1 rfl rfl rfl rfl rfl rfl rfl (Srd.pt (ds := [.int .u8 x]) rfl (fun j u hj => by rw [Nat.zero_add]; exact hj)) (by simp [Value.oneCell']) (by show _ * 1 ≤ _; omega) (by unfold maxLen; omega)) ?_ rfl rfl; rintro _ _ ⟨A6, c6, rfl, rfl⟩); refine R_p rfl ?_ rfl rfl; refine R_nil ?_; refine RS_blk ?_; refine S_region rfl rfl ?_; refine R_take (T_addN rfl rfl (by unfold fits; omega)) ?_ rfl rfl; refine R_p rfl ?_ rfl rfl; refine R_nil ?_; rotate_left; refine S_exit rfl rfl ?_; refine S_seq rfl ?_; refine S_region rfl rfl ?_; refine R_p rfl ?_ rfl rfl; refine R_p rfl ?_ rfl rfl; refine R_p rfl ?_ rfl rfl; refine R_nil ?_; rotate_left)
    all_goals (try (exfalso; omega))
    have hjn : j = ms.length := by omega
    subst hjn
    refine hB _ _ _ _ _ rfl rfl fun w' hS => ⟨(A5, c5), rfl, trivial, ?_⟩
    rw [List.take_length] at hS
    exact hS.sublist (List.Sublist.cons_cons _ (List.nil_sublist _))
set_option maxRecDepth 100000 in
set_option maxHeartbeats 4000000 in
theorem byt_ok (w : World) (A : Option Addr) (n c : Nat) (ms : List Int) (h : Rd w All 1 A n (ms.map zv)) (hn : n ≤ 1000) (hr : right ms = true) :
    Gives Try.prog 23 [cfv A n c] [] w (X := Option Addr × Nat) (fun x => .slice x.1 (n + 1) x.2) (fun _ => True) (fun x => [row 5 1 x.1 (n + 1) x.2 ((encM ms).map bv)]) := by
  refine gives_S Try.func23 rfl Try.ntmps23 Try.results23 (by simp) (St.enter w) (fun B hB => ?_)
  obtain ⟨hr0, hr1, hr2⟩ := right_up hr
  obtain ⟨hl0, hl5⟩ := right_len hr
  have hl : ms.length = n := by have := h.1; simpa using this
  have hne : 0 < n → A ≠ none := fun h0 => by obtain ⟨ad, rfl, _⟩ := h.2 h0; simp
  subst hl
  have hld : ∀ j, j < ms.length → (ms.map zv)[j]? = some (zv (ms.getD j 0)) := fun j hj => zv_at hj
  have hrg : ∀ j, j < ms.length → 1 ≤ ms.getD j 0 ∧ ms.getD j 0 ≤ 5 := fun j hj => by
    have := hr1 (ms[j]) (List.getElem_mem hj)
    simpa [List.getD, hj] using this
  focus (refine S_seq rfl ?_; refine S_region rfl rfl ?_; (refine R_eff (E_boxa rfl) ?_ rfl rfl; rintro _ _ ⟨b, rfl, rfl⟩); refine R_p rfl ?_ rfl rfl; refine R_nil ?_; refine S_seq rfl ?_; refine S_region rfl rfl ?_; refine R_p rfl ?_ rfl rfl; refine R_take (T_load rfl rfl rfl (by first | rfl | assumption)) ?_ rfl rfl; refine R_p rfl ?_ rfl rfl; refine R_take (T_convf rfl rfl rfl rfl (by unfold fits; omega)) ?_ rfl rfl; (refine R_eff (E_litr (vs := [.int .u8 (ms.length : Int)]) rfl rfl rfl rfl rfl rfl rfl (by simp [Value.oneCell']) (by decide) rfl) ?_ rfl rfl; rintro _ _ ⟨bl, rfl, rfl⟩); refine R_p rfl ?_ rfl rfl; refine R_nil ?_; refine S_seq rfl ?_; refine S_seq rfl ?_; refine S_region rfl rfl ?_; refine R_p rfl ?_ rfl rfl; refine R_take (T_load rfl rfl rfl (by first | rfl | assumption)) ?_ rfl rfl; refine R_p rfl ?_ rfl rfl; refine R_p rfl ?_ rfl rfl; refine R_nil ?_; refine S_block rfl ?_)
  refine S_loop (X := Nat × Option Addr × Nat) (fun x => [(3, .slice x.2.1 (x.1 + 1) x.2.2), (12, .slice A ms.length c), (13, .int .i64 (ms.length : Int)), (14, .int .i64 (x.1 : Int))]) (fun x => [row 5 1 x.2.1 (x.1 + 1) x.2.2 ((zb ms.length :: (ms.take x.1).map zb).map bv)]) (fun x => x.1 ≤ ms.length) (fun x => ms.length - x.1) rfl (0, some ⟨bl, 0, none⟩, 1) (Nat.zero_le _) (Sub.cons rfl (Sub.cons rfl (Sub.cons rfl (Sub.cons rfl Sub.nil)))) ?_ ?_
  · intro w' hS
    rw [zb_bv (by omega) (by omega)] at hS
    exact hS.sublist (by simp)
  rintro ⟨j, A5, c5⟩ hj J hJ
  simp only at hj ⊢
  have hld' := hld j
  have hrg' := hrg j
  have hnx := encM_next ms j
  obtain ⟨x, hx⟩ : ∃ x, ms.getD j 0 = x := ⟨_, rfl⟩
  rw [hx] at hld' hrg' hnx
  rcases Nat.lt_or_ge j ms.length with hjl | hjl
  · obtain ⟨hx1, hx5⟩ := hrg' hjl
    focus (refine S_seq rfl ?_; refine S_region rfl rfl ?_; refine R_p rfl ?_ rfl rfl; refine R_nil ?_; refine S_seq rfl ?_; (refine S_if rfl rfl (fun hs => ?_) (fun hs => ?_)); refine S_skip rfl ?_; refine S_seq rfl ?_; refine S_block rfl ?_; refine S_seq rfl ?_; refine S_region rfl rfl ?_; refine R_take (T_ixN rfl rfl rfl rfl rfl rfl (by first | assumption | exact hne (by omega) | exact hne2 (by omega)) (by omega)) ?_ rfl rfl; refine R_take (T_ldr rfl rfl rfl (Srd.old h (fun k _ => noOwns k)) (by omega) (hld' (by omega))) ?_ rfl rfl; refine R_p rfl ?_ rfl rfl; refine R_nil ?_; refine S_region rfl rfl ?_; refine R_p rfl ?_ rfl rfl; refine R_p rfl ?_ rfl rfl; refine R_take (T_convf rfl rfl rfl rfl (by unfold fits; omega)) ?_ rfl rfl; (refine R_eff (E_lit1 (vs := [.int .u8 x]) rfl rfl rfl rfl rfl rfl rfl (by simp [Value.oneCell']) (by decide)) ?_ rfl rfl; rintro _ _ ⟨bm, rfl, rfl⟩); (refine R_eff (E_app1 rfl rfl rfl rfl rfl rfl rfl (Srd.pt (ds := [.int .u8 x]) rfl (fun j u hj => by rw [Nat.zero_add]; exact hj)) (by simp [Value.oneCell']) (by show _ * 1 ≤ _; omega) (by unfold maxLen; omega)) ?_ rfl rfl; rintro _ _ ⟨A6, c6, rfl, rfl⟩); refine R_p rfl ?_ rfl rfl; refine R_nil ?_; refine RS_blk ?_; refine S_region rfl rfl ?_; refine R_take (T_addN rfl rfl (by unfold fits; omega)) ?_ rfl rfl; refine R_p rfl ?_ rfl rfl; refine R_nil ?_; rotate_left; refine S_exit rfl rfl ?_; refine S_seq rfl ?_; refine S_region rfl rfl ?_; refine R_p rfl ?_ rfl rfl; refine R_p rfl ?_ rfl rfl; refine R_nil ?_; rotate_left)
    all_goals (try (exfalso; omega))
    refine hJ (j + 1, A6, c6) _ _ (by show j + 1 ≤ _; omega) (Sub.cons rfl (Sub.cons rfl (Sub.cons rfl (Sub.cons rfl Sub.nil)))) (fun w' hS => ?_) (by show ms.length - (j + 1) < _; omega)
    show St _ _ [row _ 1 _ _ _ ((zb ms.length :: (ms.take (j + 1)).map zb).map bv)] w'
    rw [hnx hjl, List.map_append, List.map_singleton, ← zb_bv (by omega) (by omega)]
    exact hS.sublist (by simp)
  · focus (refine S_seq rfl ?_; refine S_region rfl rfl ?_; refine R_p rfl ?_ rfl rfl; refine R_nil ?_; refine S_seq rfl ?_; (refine S_if rfl rfl (fun hs => ?_) (fun hs => ?_)); refine S_skip rfl ?_; refine S_seq rfl ?_; refine S_block rfl ?_; refine S_seq rfl ?_; refine S_region rfl rfl ?_; refine R_take (T_ixN rfl rfl rfl rfl rfl rfl (by first | assumption | exact hne (by omega) | exact hne2 (by omega)) (by omega)) ?_ rfl rfl; refine R_take (T_ldr rfl rfl rfl (Srd.old h (fun k _ => noOwns k)) (by omega) (hld' (by omega))) ?_ rfl rfl; refine R_p rfl ?_ rfl rfl; refine R_nil ?_; refine S_region rfl rfl ?_; refine R_p rfl ?_ rfl rfl; refine R_p rfl ?_ rfl rfl; refine R_take (T_convf rfl rfl rfl rfl (by unfold fits; omega)) ?_ rfl rfl; (refine R_eff (E_lit1 (vs := [.int .u8 x]) rfl rfl rfl rfl rfl rfl rfl (by simp [Value.oneCell']) (by decide)) ?_ rfl rfl; rintro _ _ ⟨bm, rfl, rfl⟩); (refine R_eff (E_app1 rfl rfl rfl rfl rfl rfl rfl (Srd.pt (ds := [.int .u8 x]) rfl (fun j u hj => by rw [Nat.zero_add]; exact hj)) (by simp [Value.oneCell']) (by show _ * 1 ≤ _; omega) (by unfold maxLen; omega)) ?_ rfl rfl; rintro _ _ ⟨A6, c6, rfl, rfl⟩); refine R_p rfl ?_ rfl rfl; refine R_nil ?_; refine RS_blk ?_; refine S_region rfl rfl ?_; refine R_take (T_addN rfl rfl (by unfold fits; omega)) ?_ rfl rfl; refine R_p rfl ?_ rfl rfl; refine R_nil ?_; rotate_left; refine S_exit rfl rfl ?_; refine S_seq rfl ?_; refine S_region rfl rfl ?_; refine R_p rfl ?_ rfl rfl; refine R_p rfl ?_ rfl rfl; refine R_nil ?_; rotate_left)
    all_goals (try (exfalso; omega))
    have hjn : j = ms.length := by omega
    subst hjn
    refine hB _ _ _ _ _ rfl rfl fun w' hS => ⟨(A5, c5), rfl, trivial, ?_⟩
    rw [List.take_length] at hS
    exact hS.sublist (List.Sublist.cons_cons _ (List.nil_sublist _))
end Go.Proofs.Ytlihhjldkopfhaa
