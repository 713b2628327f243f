/- Digests: their texts. -/
import Derived.Test.YtemgfoakffappaaDoorSh4
namespace Go.Proofs.YtemgfoakffappaaDoor
open Go.RowKit
open Asn (pt row rb)
set_option linter.unusedVariables false
set_option linter.unusedSimpArgs false
--@use N
/-- the sign of a half of a byte -/
def sgn (q : Nat) : UInt8 := (bl ⟨#[48, 49, 50, 51, 52, 53, 54, 55, 56, 57, 97, 98, 99, 100, 101, 102]⟩).getD q 0
def textL (l : List UInt8) : List UInt8 := l.flatMap fun c => [sgn (c.toNat / 16), sgn (c.toNat % 16)]
theorem textL_len (l : List UInt8) : (textL l).length = 2 * l.length := by
  induction l with
  | nil => rfl
  | cons x h ih => simp [textL, List.flatMap_cons] at ih ⊢; omega
theorem textL_next (l : List UInt8) (j : Nat) (hj : j < l.length) : textL (l.take (j + 1)) = textL (l.take j) ++ [sgn ((l.getD j 0).toNat / 16), sgn ((l.getD j 0).toNat % 16)] := by
  simp only [textL]
  rw [List.take_succ_eq_append_getElem hj, List.flatMap_append]
  simp [hj]

set_option maxRecDepth 100000 in
set_option maxHeartbeats 4000000 in
theorem text_any (w : World) (l : List UInt8) (hl : l.length = 32) :
    Gives Tryd.prog 16 [.agg (l.map bv).toArray] [] w (X := Unit) (fun x => .string ⟨(textL l).toArray⟩) (fun _ => True) (fun x => []) := by
  refine gives_S Tryd.func16 rfl Tryd.ntmps16 Tryd.results16 (by simp) (St.enter w) (fun B hB => ?_)
  have ll2 : (l.map bv).length = 32 := by simpa using hl
  focus (refine S_seq rfl ?_; refine S_region rfl rfl ?_; (refine R_eff (E_boxa rfl) ?_ rfl rfl; rintro _ _ ⟨b1, rfl, rfl⟩); refine R_p rfl ?_ rfl rfl; refine R_nil ?_; refine S_seq rfl ?_; refine S_region rfl rfl ?_; (refine R_eff (E_make1 (m := 0) (c := 64) rfl rfl rfl rfl rfl rfl rfl (by decide) (by decide) (by decide)) ?_ rfl rfl; rintro _ _ ⟨b, rfl, rfl⟩); refine R_p rfl ?_ rfl rfl; refine R_nil ?_; refine S_seq rfl ?_; refine S_seq rfl ?_; refine S_region rfl rfl ?_; refine R_take (T_loada (ds := l.map bv) rfl rfl rfl ll2 (fun j v h => by simpa using h)) ?_ rfl rfl; refine R_p rfl ?_ rfl rfl; refine R_nil ?_; refine S_block rfl ?_)
  refine RS_mem (fun w hS => St.rowOf (e := 5) (size := 1) (n := 0) (m := 64) hS .here (by decide) (by decide) rfl) ?_
  refine S_loop (X := Nat × Option Addr × Nat) (fun x => [(3, .slice x.2.1 (2 * x.1) x.2.2), (7, .agg (l.map bv).toArray), (8, .int .i64 (x.1 : Int))]) (fun x => [row 5 1 x.2.1 (2 * x.1) x.2.2 ((textL (l.take x.1)).map bv)]) (fun x => x.1 ≤ 32) (fun x => 32 - x.1) rfl (0, some ⟨b, 0, none⟩, 64) (Nat.zero_le _) (Sub.cons rfl (Sub.cons rfl (Sub.cons rfl Sub.nil))) (fun w hS => sub_st (H := [row 5 1 (some ⟨b, 0, none⟩) 0 64 [], _]) (H' := [row 5 1 (some ⟨b, 0, none⟩) 0 64 []]) w hS) ?_
  rintro ⟨j, A3, c3⟩ hj J hJ
  dsimp only at hj ⊢
  have hc := UInt8.toNat_lt (l.getD j 0)
  focus (refine S_seq rfl ?_; refine S_region rfl rfl ?_; refine R_p rfl ?_ rfl rfl; refine R_nil ?_; refine S_seq rfl ?_; (refine S_if rfl rfl (fun hs => ?_) (fun hs => ?_)); refine S_skip rfl ?_; refine S_seq rfl ?_; refine S_block rfl ?_; refine S_seq rfl ?_; refine S_region rfl rfl ?_; refine R_take (T_ixv (q := j) (v := bv (l.getD j 0)) rfl rfl rfl rfl rfl rfl rfl (by omega) (map_at bv 0 (by rw [hl]; omega))) ?_ rfl rfl; refine R_p rfl ?_ rfl rfl; refine R_nil ?_; rotate_left; refine S_exit rfl rfl ?_; refine S_seq rfl ?_; refine S_region rfl rfl ?_; refine R_p rfl ?_ rfl rfl; refine R_take (T_b2s (bs := textL (l.take j)) rfl rfl rfl rfl rfl rfl rfl Src.row) ?_ rfl rfl; refine R_p rfl ?_ rfl rfl; refine R_nil ?_; rotate_left)
  · skip
    refine S_draw ([]) sub_st (by kernel_rfl) rfl (by kernel_rfl) (by kernel_rfl : _ = 10) ?_
    refine D_take 0 rfl (pev_ok rfl) ?_ rfl rfl (by kernel_rfl) (by kernel_rfl)
    refine D_take 1 rfl (pev_ok rfl) ?_ rfl rfl (by kernel_rfl) (by kernel_rfl)
    (refine D_take 2 rfl (T_divN (p := (l.getD j 0).toNat) (q := 16) rfl rfl (by omega) (by unfold fits; omega)) ?_ rfl rfl (by kernel_rfl) (by kernel_rfl))
    (refine D_take 3 rfl (T_ixs (q := (l.getD j 0).toNat / 16) rfl rfl rfl rfl (by show _ < 16; omega)) ?_ rfl rfl (by kernel_rfl) (by kernel_rfl))
    refine D_take 4 rfl (pev_ok rfl) ?_ rfl rfl (by kernel_rfl) (by kernel_rfl)
    refine D_take 5 rfl (T_modN (p := (l.getD j 0).toNat) (q := 16) rfl rfl (by omega)) ?_ rfl rfl (by kernel_rfl) (by kernel_rfl)
    (refine D_take 6 rfl (T_ixs (q := (l.getD j 0).toNat % 16) rfl rfl rfl rfl (by show _ < 16; omega)) ?_ rfl rfl (by kernel_rfl) (by kernel_rfl))
    refine D_one 7 rfl (E_lit1 (vs := [bv (sgn ((l.getD j 0).toNat / 16)), bv (sgn ((l.getD j 0).toNat % 16))]) rfl rfl rfl rfl rfl rfl rfl (by simp [Value.oneCell', bv]) (by decide)) ?_ rfl rfl (by kernel_rfl)
    rintro _ _ ⟨bl1, rfl, rfl⟩
    refine Nx_same sub_st ?_
    refine D_one 8 rfl (E_appB (m2 := 2) (nb := [sgn ((l.getD j 0).toNat / 16), sgn ((l.getD j 0).toNat % 16)]) rfl rfl rfl rfl rfl rfl (Src.pt rfl (by decide) (by decide) (fun j v h => by simpa using h)) (by omega)) ?_ rfl rfl (by kernel_rfl)
    rintro _ _ ⟨A4, c4, rfl, rfl⟩
    refine Nx_same sub_st ?_
    refine D_take 9 rfl (pev_ok rfl) ?_ rfl rfl (by kernel_rfl) (by kernel_rfl)
    refine D_done ?_ (by kernel_rfl)
    skip
    focus (refine RS_blk ?_; refine S_region rfl rfl ?_; refine R_take (T_addN rfl rfl (by unfold fits; omega)) ?_ rfl rfl; refine R_p rfl ?_ rfl rfl; refine R_nil ?_)
    rw [show 2 * j + 2 = 2 * (j + 1) by omega]
    refine hJ (j + 1, A4, c4) _ _ (by dsimp only; omega) (Sub.cons rfl (Sub.cons rfl (Sub.cons rfl Sub.nil))) ?_ (by dsimp only; omega)
    dsimp only
    rw [textL_next _ _ (by omega)]
    exact sub_st
  · obtain rfl : j = 32 := by omega
    clear hJ
    have e : l.take 32 = l := List.take_of_length_le (by omega)
    rw [e]
    exact hB _ _ _ _ _ rfl rfl fun w' hS => ⟨(), rfl, trivial, hS.sublist (List.nil_sublist _)⟩

/-! the order -/
theorem bytesLess_diff : ∀ (a b : List UInt8) (i : Nat), a.length = b.length → i < a.length → a.take i = b.take i → a.getD i 0 ≠ b.getD i 0 → Op.bytesLess a b = decide ((a.getD i 0).toNat < (b.getD i 0).toNat)
  | [], _, i, _, hi, _, _ => by simp at hi
  | x :: a, [], i, hl, _, _, _ => by simp at hl
  | x :: a, y :: b, 0, hl, hi, ht, hd => by
    simp at hd
    have hxy : (x == y) = false := by simpa using hd
    simp [Op.bytesLess, hxy]
    rw [UInt8.lt_iff_toNat_lt]
  | x :: a, y :: b, i + 1, hl, hi, ht, hd => by
    simp at hl hi ht hd
    obtain ⟨rfl, ht⟩ := ht
    have ih := bytesLess_diff a b i hl hi ht (by simpa using hd)
    have hxx : ¬ x < x := by rw [UInt8.lt_iff_toNat_lt]; omega
    simp [Op.bytesLess, hxx]
    simpa using ih
theorem bytesLess_refl : ∀ a : List UInt8, Op.bytesLess a a = false
  | [] => rfl
  | x :: a => by
    have hxx : ¬ x < x := by rw [UInt8.lt_iff_toNat_lt]; omega
    simp [Op.bytesLess, hxx, bytesLess_refl a]
theorem take_all_eq {a b : List UInt8} (hl : a.length = b.length) {i : Nat} (hi : a.length ≤ i) (h : a.take i = b.take i) : a = b := by
  rwa [List.take_of_length_le hi, List.take_of_length_le (by omega)] at h
theorem take_next {a b : List UInt8} {i : Nat} (hl : a.length = b.length) (hi : i < a.length) (h : a.take i = b.take i) (hd : a.getD i 0 = b.getD i 0) : a.take (i + 1) = b.take (i + 1) := by
  rw [List.take_succ_eq_append_getElem hi, List.take_succ_eq_append_getElem (by omega), h]
  simp [List.getD, hi, show i < b.length by omega] at hd
  rw [hd]

set_option maxRecDepth 100000 in
set_option maxHeartbeats 4000000 in
theorem less_any (w : World) (a b : List UInt8) (la : a.length = 32) (lb : b.length = 32) :
    Gives Tryd.prog 18 [.agg (a.map bv).toArray, .agg (b.map bv).toArray] [] w (X := Unit) (fun x => .bool (Op.bytesLess a b)) (fun _ => True) (fun x => []) := by
  refine gives_S Tryd.func18 rfl Tryd.ntmps18 Tryd.results18 (by simp) (St.enter w) (fun B hB => ?_)
  have la2 : (a.map bv).length = 32 := by simpa using la
  have lb2 : (b.map bv).length = 32 := by simpa using lb
  focus (refine S_seq rfl ?_; refine S_region rfl rfl ?_; (refine R_eff (E_boxa (cs := a.map bv) rfl) ?_ rfl rfl; rintro _ _ ⟨ba, rfl, rfl⟩); (refine R_eff (E_boxa (cs := b.map bv) rfl) ?_ rfl rfl; rintro _ _ ⟨bb, rfl, rfl⟩); refine R_p rfl ?_ rfl rfl; refine R_nil ?_; refine S_seq rfl ?_; refine S_seq rfl ?_; refine S_region rfl rfl ?_; refine R_take (T_loada (ds := a.map bv) rfl rfl rfl la2 (fun j v h => by simpa using h)) ?_ rfl rfl; refine R_take (T_loada (ds := b.map bv) rfl rfl rfl lb2 (fun j v h => by simpa using h)) ?_ rfl rfl; refine R_take (T_eqbs rfl rfl rfl rfl rfl rfl rfl (by kernel_rfl) la lb) ?_ rfl rfl; refine R_nil ?_; (refine S_if rfl rfl (fun hs => ?_) (fun hs => ?_)); refine S_seq rfl ?_; refine S_region rfl rfl ?_; refine R_p rfl ?_ rfl rfl; refine R_nil ?_; rotate_left; refine S_skip rfl ?_; refine S_seq rfl ?_; refine S_region rfl rfl ?_; refine R_p rfl ?_ rfl rfl; refine R_nil ?_; refine S_seq rfl ?_; refine S_block rfl ?_; rotate_left)
  · refine hB _ _ _ _ _ rfl rfl fun w' hS => ⟨(), ?_, trivial, hS.sublist (List.nil_sublist _)⟩
    have : a = b := by assumption
    rw [this, bytesLess_refl]
    rfl
  have hne : ¬ a = b := by assumption
  refine S_loop (X := Nat) (fun i => [(2, .pointer (some ⟨ba, 0, none⟩)), (3, .pointer (some ⟨bb, 0, none⟩)), (5, .int .i64 (i : Int))]) (fun i => _) (fun i => i < 32 ∧ a.take i = b.take i) (fun i => 32 - i) rfl 0 ⟨by decide, rfl⟩ (Sub.cons rfl (Sub.cons rfl (Sub.cons rfl Sub.nil))) (fun _ h => h) ?_
  rintro i ⟨hi, ht⟩ J hJ
  focus (refine S_seq rfl ?_; refine S_seq rfl ?_; (refine S_draw _ (fun _ h => h) (by kernel_rfl) rfl (by kernel_rfl) (rfl : _ = 7) ?_; (refine D_take 0 rfl (pev_ok rfl) ?_ rfl rfl (by kernel_rfl) (by kernel_rfl)); (refine D_take 1 rfl (T_ixaN rfl rfl rfl rfl rfl rfl (by omega)) ?_ rfl rfl (by kernel_rfl) (by kernel_rfl)); ((refine D_take 2 rfl (T_load rfl rfl rfl (map_at0 bv 0 (by rw [la]; omega))) ?_ rfl rfl (by kernel_rfl) (by kernel_rfl))); (refine D_take 3 rfl (pev_ok rfl) ?_ rfl rfl (by kernel_rfl) (by kernel_rfl)); (refine D_take 4 rfl (T_ixaN rfl rfl rfl rfl rfl rfl (by omega)) ?_ rfl rfl (by kernel_rfl) (by kernel_rfl)); ((refine D_take 5 rfl (T_load rfl rfl rfl (map_at0 bv 0 (by rw [lb]; omega))) ?_ rfl rfl (by kernel_rfl) (by kernel_rfl))); (refine D_take 6 rfl (pev_ok rfl) ?_ rfl rfl (by kernel_rfl) (by kernel_rfl)); refine D_done ?_ (by kernel_rfl)); (refine S_if rfl rfl (fun hs => ?_) (fun hs => ?_)); refine S_skip rfl ?_; refine S_block rfl ?_; refine S_region rfl rfl ?_; refine R_p rfl ?_ rfl rfl; refine R_take (T_addN rfl rfl (by unfold fits; omega)) ?_ rfl rfl; refine R_p rfl ?_ rfl rfl; refine R_nil ?_; refine RS_blk ?_; rotate_left; refine S_exit rfl rfl ?_; refine S_seq rfl ?_; (refine S_draw _ (fun _ h => h) (by kernel_rfl) rfl (by kernel_rfl) (rfl : _ = 8) ?_; (refine D_take 0 rfl (pev_ok rfl) ?_ rfl rfl (by kernel_rfl) (by kernel_rfl)); (refine D_take 1 rfl (T_ixaN rfl rfl rfl rfl rfl rfl (by omega)) ?_ rfl rfl (by kernel_rfl) (by kernel_rfl)); ((refine D_take 2 rfl (T_load rfl rfl rfl (map_at0 bv 0 (by rw [la]; omega))) ?_ rfl rfl (by kernel_rfl) (by kernel_rfl))); (refine D_take 3 rfl (pev_ok rfl) ?_ rfl rfl (by kernel_rfl) (by kernel_rfl)); (refine D_take 4 rfl (T_ixaN rfl rfl rfl rfl rfl rfl (by omega)) ?_ rfl rfl (by kernel_rfl) (by kernel_rfl)); ((refine D_take 5 rfl (T_load rfl rfl rfl (map_at0 bv 0 (by rw [lb]; omega))) ?_ rfl rfl (by kernel_rfl) (by kernel_rfl))); (refine D_take 6 rfl (pev_ok rfl) ?_ rfl rfl (by kernel_rfl) (by kernel_rfl)); (refine D_take 7 rfl (pev_ok rfl) ?_ rfl rfl (by kernel_rfl) (by kernel_rfl)); refine D_done ?_ (by kernel_rfl)); rotate_left)
  · have hd : a.getD i 0 = b.getD i 0 := UInt8.toNat_inj.1 (by omega)
    have h2 := take_next (by omega) (by omega) ht hd
    refine hJ (i + 1) _ _ ⟨?_, h2⟩ (Sub.cons rfl (Sub.cons rfl (Sub.cons rfl Sub.nil))) (fun _ h => h) (by omega)
    rcases Nat.lt_or_ge (i + 1) 32 with h3 | h3
    · exact h3
    · exact absurd (take_all_eq (by omega) (by omega) h2) hne
  · refine hB _ _ _ _ _ rfl rfl fun w' hS => ⟨(), ?_, trivial, hS.sublist (List.nil_sublist _)⟩
    have hd : a.getD i 0 ≠ b.getD i 0 := fun h => by have := congrArg UInt8.toNat h; omega
    rw [bytesLess_diff a b i (by omega) (by omega) ht hd]
    simp [retv]
end Go.Proofs.YtemgfoakffappaaDoor
