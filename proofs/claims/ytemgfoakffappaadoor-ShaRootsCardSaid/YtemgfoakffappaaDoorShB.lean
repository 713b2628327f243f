/- Digests: the document's digest. -/
import Derived.Test.YtemgfoakffappaaDoorShA
namespace Go.Proofs.YtemgfoakffappaaDoor
open Go.RowKit
open Asn (pt row rb)
set_option linter.unusedVariables false
set_option linter.unusedSimpArgs false
--@use N
set_option maxRecDepth 100000 in
set_option maxHeartbeats 4000000 in
theorem known_any (w : World) :
    Gives Tryd.prog 13 [] [] w (X := Nat) (fun g => .slice (some ⟨g, 0, none⟩) 64 64) (fun _ => True) (fun g => [pt g 22 (rootsL.map w32)]) := by
  refine gives_S Tryd.func13 rfl Tryd.ntmps13 Tryd.results13 (by simp) (St.enter w) (fun B hB => ?_)
  focus (refine S_seq rfl ?_; refine S_region rfl rfl ?_; refine R_p rfl ?_ rfl rfl; refine R_nil ?_; refine S_seq rfl ?_; refine S_region rfl rfl ?_; (refine R_eff (E_lit1 (vs := rootsL.map w32) (by kernel_rfl) (by kernel_rfl) rfl rfl rfl rfl rfl (w32_ones _) (by decide)) ?_ rfl rfl; rintro _ _ ⟨bl1, rfl, rfl⟩); refine R_p rfl ?_ rfl rfl; refine R_nil ?_)
  exact hB _ _ _ _ _ rfl rfl fun w' hS => ⟨bl1, rfl, trivial, hS⟩

set_option maxRecDepth 100000 in
set_option maxHeartbeats 4000000 in
theorem refpad_any (w : World) (A : Option Addr) (n c : Nat) (l : List UInt8) (F : Nat → Prop) (h : Bs w F A n c l) (hn : n ≤ 100000) :
    Gives Tryd.prog 24 [.slice A n c] [] w (X := Option Addr × Nat) (fun x => .slice x.1 (padL l).length x.2) (fun _ => True) (fun x => [row 5 1 x.1 (padL l).length x.2 ((padL l).map bv)]) := by
  refine gives_S Tryd.func24 rfl Tryd.ntmps24 Tryd.results24 (by simp) (St.enter w) (fun B hB => ?_)
  have hl := h.len
  focus (refine S_seq rfl ?_; refine S_region rfl rfl ?_; refine R_p rfl ?_ rfl rfl; refine R_nil ?_; refine S_seq rfl ?_; refine S_region rfl rfl ?_; refine R_p rfl ?_ rfl rfl; (refine R_eff (E_lit1 (vs := [bv 128]) rfl rfl rfl rfl rfl rfl rfl (by simp [bv, Value.oneCell']) (by decide)) ?_ rfl rfl; rintro _ _ ⟨bl1, rfl, rfl⟩); (refine R_eff (E_both (l1 := l) (l2 := [128]) rfl rfl (Src.old h fun k _ => noOwns k) (Src.pt rfl (by decide) (by decide) (fun j v h => by simpa using h)) (by omega)) ?_ rfl rfl; rintro _ _ ⟨A1, c1, rfl, rfl⟩); refine R_p rfl ?_ rfl rfl; refine R_nil ?_; refine S_seq rfl ?_; refine S_block rfl ?_)
  refine S_loop (X := Nat × Option Addr × Nat) (fun x => [(0, .slice A n c), (3, .slice x.2.1 (n + 1 + x.1) x.2.2)]) (fun x => [row 5 1 x.2.1 (n + 1 + x.1) x.2.2 ((l ++ 128 :: List.replicate x.1 0).map bv)]) (fun x => x.1 ≤ (n + 72) / 64 * 64 - 9 - n) (fun x => (n + 72) / 64 * 64 - 9 - n - x.1) rfl (0, A1, c1) (Nat.zero_le _) (Sub.cons rfl (Sub.cons rfl Sub.nil)) (fun w hS => sub_st (H' := [row 5 1 A1 (n + 1) c1 ((l ++ [128]).map bv)]) w hS) ?_
  rintro ⟨k, A2, c2⟩ hk J hJ
  dsimp only at hk ⊢
  focus (refine S_seq rfl ?_; refine S_seq rfl ?_; refine S_region rfl rfl ?_; refine R_p rfl ?_ rfl rfl; refine R_p rfl ?_ rfl rfl; refine R_take (T_addN rfl rfl (by unfold fits; omega)) ?_ rfl rfl; refine R_take (T_modN rfl rfl (by omega)) ?_ rfl rfl; refine R_p rfl ?_ rfl rfl; refine R_nil ?_; (refine S_if rfl rfl (fun hs => ?_) (fun hs => ?_)); refine S_skip rfl ?_; refine S_block rfl ?_; refine S_region rfl rfl ?_; refine R_p rfl ?_ rfl rfl; (refine R_eff (E_lit1 (vs := [bv 0]) rfl rfl rfl rfl rfl rfl rfl (by simp [bv, Value.oneCell']) (by decide)) ?_ rfl rfl; rintro _ _ ⟨bl1, rfl, rfl⟩); (refine R_eff (E_appB (m2 := 1) (bs := l ++ 128 :: List.replicate k 0) (nb := [0]) rfl rfl rfl rfl rfl rfl (Src.pt rfl (by decide) (by decide) (fun j v h => by simpa using h)) (by omega)) ?_ rfl rfl; rintro _ _ ⟨A3, c3, rfl, rfl⟩); refine R_p rfl ?_ rfl rfl; refine R_nil ?_; refine RS_blk ?_; rotate_left; refine S_exit rfl rfl ?_; refine S_seq rfl ?_; refine S_region rfl rfl ?_; refine R_p rfl ?_ rfl rfl; refine R_p rfl ?_ rfl rfl; refine R_p rfl ?_ rfl rfl; refine R_take (T_convf rfl rfl rfl rfl (by unfold fits; omega)) ?_ rfl rfl; refine R_take (T_mulN rfl rfl (by unfold fits; omega)) ?_ rfl rfl; (refine R_eff (E_high (k := 8) (X := ((n * 8 : Nat) : Int)) rfl rfl (by omega) (by decide)) ?_ rfl rfl; rintro _ _ ⟨A4, c4, rfl, rfl⟩); (refine R_eff (E_both (l1 := l ++ 128 :: List.replicate k 0) rfl rfl Src.row Src.row (by omega)) ?_ rfl rfl; rintro _ _ ⟨A5, c5, rfl, rfl⟩); refine R_p rfl ?_ rfl rfl; refine R_nil ?_; rotate_left)
  · refine hJ (k + 1, A3, c3) _ _ (by dsimp only; omega) (Sub.cons rfl (Sub.cons rfl Sub.nil)) ?_ (by dsimp only; omega)
    dsimp only
    rw [show l ++ 128 :: List.replicate (k + 1) 0 = l ++ 128 :: List.replicate k 0 ++ [0] by rw [List.append_assoc, List.cons_append, ← List.replicate_succ']]
    exact sub_st
  · have hk2 : k = (n + 72) / 64 * 64 - 9 - n := by omega
    subst hk2
    have e2 : n + 1 + ((n + 72) / 64 * 64 - 9 - n) + 8 = (padL l).length := by rw [padL_len, ← hl]; omega
    have e3 : l ++ 128 :: List.replicate ((n + 72) / 64 * 64 - 9 - n) 0 ++ be 8 (((n * 8 : Nat) : Int)).toNat = padL l := by rw [Int.toNat_natCast, Nat.mul_comm n 8, hl]; rfl
    rw [e2, e3]
    exact hB _ _ _ _ _ rfl rfl fun w' hS => ⟨(A5, c5), rfl, trivial, hS.sublist (List.Sublist.cons_cons _ (List.nil_sublist _))⟩
section
variable {n : Nat} {w0 : World} {M : Nat → Prop} {T : Slots} {H Hr : List Asn} {dd : Option Tmp} {tt : TypeId} {pos : String} {af : Array Edge} {g : Option (Nat × Bool)} {x y z : Operand} {ts : Array TypeId}
theorem E_known : Ef Tryd.prog n w0 M T H ⟨dd, .call ⟨.value (.func 13), #[], ts⟩, tt, pos, af, g⟩ (fun u H' => ∃ gb, u = .slice (some ⟨gb, 0, none⟩) 64 64 ∧ H' = pt gb 22 (rootsL.map w32) :: H) := by
  refine (E_gv ⟨_, Tryd.func13, rfl, by kernel_rfl⟩ (vs := []) (by simp [ogets]) fun w hS => known_any w).mono ?_
  rintro v H' ⟨x, rfl, _, rfl⟩ w hS
  exact ⟨_, _, rfl, ⟨x, rfl, rfl⟩, hS⟩
theorem E_refpad {A : Option Addr} {m c : Nat} {l : List UInt8} (hx : oget T x = some (.slice A m c)) (hs : Src w0 M H A m c l) (hm : m ≤ 100000) :
    Ef Tryd.prog n w0 M T H ⟨dd, .call ⟨.value (.func 24), #[x], ts⟩, tt, pos, af, g⟩ (fun u H' => ∃ A' c', (padL l).length ≤ c' ∧ u = .slice A' (padL l).length c' ∧ H' = row 5 1 A' (padL l).length c' ((padL l).map bv) :: H) := by
  refine (E_gv ⟨_, Tryd.func24, rfl, by kernel_rfl⟩ (vs := [.slice A m c]) (by simp [ogets, hx]) fun w hS => refpad_any w A m c l All (hs.bs w hS) hm).mono ?_
  rintro v H' ⟨x, rfl, _, rfl⟩ w hS
  exact ⟨_, _, rfl, ⟨x.1, x.2, row_cap (hS.at_ (A := row 5 1 x.1 (padL l).length x.2 ((padL l).map bv)) (by simp)), rfl, rfl⟩, hS⟩
theorem E_refinto {h : List UInt32} {A Ak : Option Addr} {m c ck : Nat} {l : List UInt8} (hx : oget T x = some (.agg (h.map w32).toArray)) (hy : oget T y = some (.slice A m c)) (hz : oget T z = some (.slice Ak 64 ck)) (lh : h.length = 8) (hs : Src w0 M H A m c l) (hl : l.length = 64) (hk : Srd w0 M H 1 Ak 64 (rootsL.map w32)) :
    Ef Tryd.prog n w0 M T H ⟨dd, .call ⟨.value (.func 12), #[x, y, z], ts⟩, tt, pos, af, g⟩ (fun u H' => u = .agg ((blockW h l).map w32).toArray ∧ H' = H) := by
  refine (E_gv ⟨_, Tryd.func12, rfl, by kernel_rfl⟩ (vs := [.agg (h.map w32).toArray, .slice A m c, .slice Ak 64 ck]) (by simp [ogets, hx, hy, hz]) fun w hS => refinto_any w h lh A m c l All (hs.bs w hS) hl Ak ck (hk.rd w hS)).mono ?_
  rintro v H' ⟨_, rfl, _, rfl⟩ w hS
  exact ⟨_, _, rfl, ⟨rfl, rfl⟩, hS⟩
end
theorem wordsB_at {h : List UInt32} {i : Nat} (hi : i < 4 * h.length) : (wordsB h).getD i 0 = (be 4 (h.getD (i / 4) 0).toNat).getD (i % 4) 0 := by
  induction h generalizing i with
  | nil => simp at hi
  | cons x h ih =>
    have e : wordsB (x :: h) = be 4 x.toNat ++ wordsB h := rfl
    rw [e]
    simp only [List.length_cons] at hi
    rcases Nat.lt_or_ge i 4 with h4 | h4
    · rw [show i / 4 = 0 by omega, show i % 4 = i by omega]
      simp only [List.getD_eq_getElem?_getD]
      rw [List.getElem?_append_left (by rw [be_len]; exact h4)]
      rfl
    · have h1 := ih (i := i - 4) (by omega)
      rw [show i / 4 = (i - 4) / 4 + 1 by omega, show i % 4 = (i - 4) % 4 by omega]
      simp only [List.getD_eq_getElem?_getD] at h1 ⊢
      rw [List.getElem?_append_right (by rw [be_len]; exact h4), be_len, h1]
      rfl
end Go.Proofs.YtemgfoakffappaaDoor
