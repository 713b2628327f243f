/- The document's index: how far a member has the log. -/
import Derived.Test.YtlihhjldkopfhaaCoR
namespace Go.Proofs.Ytlihhjldkopfhaa
open Go.RowKit
open Asn (pt row rb)
set_option linter.unusedVariables false
set_option linter.unusedSimpArgs false
--@use N

def uv (n : Nat) : Value := .int .u64 (n : Int)
/-- members and how far they are -/
def mtc (L : List (Int × Nat)) : List Value := L.flatMap fun x => [zv x.1, uv x.2]
theorem mtc_len : ∀ L : List (Int × Nat), (mtc L).length = L.length * 2
  | [] => rfl
  | x :: L => by
    have := mtc_len L
    simp only [mtc, List.flatMap_cons, List.length_append, List.length_cons, List.length_nil] at this ⊢
    omega
theorem mtc_at : ∀ (L : List (Int × Nat)) (j : Nat), j < L.length → ∀ e v, [zv (L.getD j (0, 0)).1, uv (L.getD j (0, 0)).2][e]? = some v → (mtc L)[j * 2 + e]? = some v
  | [], j, h => by cases h
  | x :: L, 0, _ => fun e v he => by
    simp only [List.getD_cons_zero] at he
    simp only [mtc, List.flatMap_cons, Nat.zero_mul, Nat.zero_add]
    rw [List.getElem?_append_left (List.getElem?_eq_some_iff.1 he).1]
    exact he
  | x :: L, j + 1, h => fun e v he => by
    have ih := mtc_at L j (by simpa using h) e v (by simpa using he)
    simp only [mtc, List.flatMap_cons] at ih ⊢
    rw [List.getElem?_append_right (by simp; omega), ← ih]
    congr 1
    simp
    omega
def idxN (L : List (Int × Nat)) (m : Int) : Nat := L.foldl (fun n x => if x.1 = m then max n x.2 else n) 0
theorem idx_next (L : List (Int × Nat)) (m : Int) (j : Nat) (hj : j < L.length) : idxN (L.take (j + 1)) m = if (L.getD j (0, 0)).1 = m then max (idxN (L.take j) m) (L.getD j (0, 0)).2 else idxN (L.take j) m := by
  rw [List.take_succ_eq_append_getElem hj, idxN, List.foldl_append]
  simp [List.getD, hj, idxN]
theorem mt_alloc : ti56.zero = .agg [zv 0, uv 0].toArray := by kernel_rfl
theorem mt_one (a : Int) (b : Nat) : ∀ u ∈ [zv a, uv b], u.oneCell' = true := by simp [zv, uv, Value.oneCell']
section
variable {n : Nat} {w0 : World} {M : Nat → Prop} {T : Slots} {H Hr : List Asn} {dd : Option Tmp} {tt : TypeId} {pos : String} {af : Array Edge} {g : Option (Nat × Bool)} {x y z : Operand} {ts : Array TypeId} {A A1 A2 : Option Addr}
theorem T_maxN {P : Program} {s t : TypeId} {kk : IntKind} {p q : Nat} (hx : oget T x = some (.int kk (p : Int))) (hy : oget T y = some (.int kk (q : Int))) :
    Tk P n w0 M T H ⟨dd, .call ⟨.builtin .max, #[x, y], #[s, t]⟩, tt, pos, af, g⟩ (.int kk ((max p q : Nat) : Int)) := by
  have h := T_max (P := P) (n := n) (w0 := w0) (M := M) (H := H) (dd := dd) (tt := tt) (pos := pos) (af := af) (g := g) (s := s) (t := t) hx hy
  first
  | rwa [show (if (p : Int) < (q : Int) then (q : Int) else (p : Int)) = ((max p q : Nat) : Int) by rw [Nat.max_def]; split <;> split <;> omega] at h
  | rwa [show (if (q : Int) < (p : Int) then (p : Int) else (q : Int)) = ((max p q : Nat) : Int) by rw [Nat.max_def]; split <;> split <;> omega] at h
end
set_option maxRecDepth 100000 in
set_option maxHeartbeats 4000000 in
theorem index14_any (w : World) (A : Option Addr) (n c : Nat) (L : List (Int × Nat)) (m : Int) (h : Rd w All 2 A n (mtc L)) (hn : n ≤ 900) :
    Gives Try.prog 48 [.slice A n c, zv m] [] w (X := Unit) (fun _ => uv (idxN L m)) (fun _ => True) (fun _ => []) := by
  refine gives_S Try.func48 rfl Try.ntmps48 Try.results48 (by simp) (St.enter w) (fun B hB => ?_)
  have hl : L.length = n := by have := h.1; rw [mtc_len] at this; omega
  have hne : 0 < n → A ≠ none := fun h0 => by obtain ⟨ad, rfl, _⟩ := h.2 h0; simp
  subst hl
  focus (refine S_seq rfl ?_; refine S_region rfl rfl ?_; refine R_p rfl ?_ rfl rfl; refine R_nil ?_; refine S_seq rfl ?_; refine S_region rfl rfl ?_; refine R_p rfl ?_ rfl rfl; refine R_nil ?_; refine S_seq rfl ?_; refine S_seq rfl ?_; refine S_region rfl rfl ?_; refine R_p rfl ?_ rfl rfl; refine R_p rfl ?_ rfl rfl; refine R_p rfl ?_ rfl rfl; refine R_nil ?_; refine S_block rfl ?_)
  refine S_loop (X := Nat) (fun j => [(1, zv m), (5, uv (idxN (L.take j) m)), (8, .slice A L.length c), (9, .int .i64 (L.length : Int)), (10, .int .i64 (j : Int))]) (fun _ => []) (fun j => j ≤ L.length) (fun j => L.length - j) rfl 0 (Nat.zero_le _) (Sub.cons rfl (Sub.cons rfl (Sub.cons rfl (Sub.cons rfl (Sub.cons rfl Sub.nil))))) (fun _ h => h) ?_
  rintro j hj J hJ
  rcases Nat.lt_or_ge j L.length with hjl | hjl
  rotate_left
  · have hjn : j = L.length := by omega
    subst hjn
    focus (refine S_seq rfl ?_; refine S_region rfl rfl ?_; refine R_take (T_decF rfl (by omega)) ?_ rfl rfl; refine R_nil ?_; refine S_seq rfl ?_; refine S_false rfl rfl ?_; refine S_exit rfl rfl ?_; refine S_seq rfl ?_; refine S_region rfl rfl ?_; refine R_p rfl ?_ rfl rfl; refine R_p rfl ?_ rfl rfl; refine R_nil ?_)
    refine hB _ _ _ _ _ rfl rfl fun w' hS => ⟨(), ?_, trivial, hS.sublist (List.nil_sublist _)⟩
    rw [List.take_length]
    rfl
  have hnx := idx_next L m j hjl
  have hat := mtc_at L j hjl
  obtain ⟨⟨a, v⟩, hx⟩ : ∃ x, L.getD j (0, 0) = x := ⟨_, rfl⟩
  obtain ⟨q, hq⟩ : ∃ q, idxN (L.take j) m = q := ⟨_, rfl⟩
  rw [hx, hq] at hnx
  rw [hx] at hat
  rw [hq]
  dsimp only at hnx hat
  by_cases ham : a = m
  · rw [if_pos ham] at hnx
    focus (refine S_seq rfl ?_; refine S_region rfl rfl ?_; refine R_take (T_decT rfl (by omega)) ?_ rfl rfl; refine R_nil ?_; refine S_seq rfl ?_; refine S_true rfl rfl ?_; refine S_skip rfl ?_; refine S_seq rfl ?_; refine S_block rfl ?_; refine S_seq rfl ?_; refine S_region rfl rfl ?_; refine R_take (T_ix rfl rfl rfl rfl rfl (hne (by omega)) (by omega)) ?_ rfl rfl; refine R_take (T_loadoa (ds := [zv a, uv v]) rfl rfl rfl h rfl (by omega) hat (fun k _ => noOwns k)) ?_ rfl rfl; (refine R_eff (E_alloca rfl mt_alloc) ?_ rfl rfl; rintro _ _ ⟨b7, rfl, rfl⟩); (refine R_eff0 (E_storew (cs := [zv 0, uv 0]) rfl rfl rfl rfl (mt_one _ _) rfl) ?_ rfl; rintro _ _ rfl); refine R_nil ?_; refine S_seq rfl ?_; refine S_region rfl rfl ?_; refine R_p rfl ?_ rfl rfl; refine R_take (T_load rfl rfl rfl (by first | rfl | assumption)) ?_ rfl rfl; refine R_p rfl ?_ rfl rfl; refine R_take (T_decT rfl (by omega)) ?_ rfl rfl; refine R_nil ?_; refine S_true rfl rfl ?_; refine S_region rfl rfl ?_; refine R_p rfl ?_ rfl rfl; refine R_p rfl ?_ rfl rfl; refine R_take (T_load rfl rfl rfl (by first | rfl | assumption)) ?_ rfl rfl; refine R_take (T_maxN rfl rfl) ?_ rfl rfl; refine R_p rfl ?_ rfl rfl; refine R_nil ?_; refine RS_blk ?_; refine S_region rfl rfl ?_; refine R_take (T_addN rfl rfl (by unfold fits; omega)) ?_ rfl rfl; refine R_p rfl ?_ rfl rfl; refine R_nil ?_)
    refine hJ (j + 1) _ _ (by omega) ?_ (fun _ hS => hS.sublist (List.nil_sublist _)) (by omega)
    rw [hnx]
    exact (Sub.cons rfl (Sub.cons rfl (Sub.cons rfl (Sub.cons rfl (Sub.cons rfl Sub.nil)))))
  · rw [if_neg ham] at hnx
    focus (refine S_seq rfl ?_; refine S_region rfl rfl ?_; refine R_take (T_decT rfl (by omega)) ?_ rfl rfl; refine R_nil ?_; refine S_seq rfl ?_; refine S_true rfl rfl ?_; refine S_skip rfl ?_; refine S_seq rfl ?_; refine S_block rfl ?_; refine S_seq rfl ?_; refine S_region rfl rfl ?_; refine R_take (T_ix rfl rfl rfl rfl rfl (hne (by omega)) (by omega)) ?_ rfl rfl; refine R_take (T_loadoa (ds := [zv a, uv v]) rfl rfl rfl h rfl (by omega) hat (fun k _ => noOwns k)) ?_ rfl rfl; (refine R_eff (E_alloca rfl mt_alloc) ?_ rfl rfl; rintro _ _ ⟨b7, rfl, rfl⟩); (refine R_eff0 (E_storew (cs := [zv 0, uv 0]) rfl rfl rfl rfl (mt_one _ _) rfl) ?_ rfl; rintro _ _ rfl); refine R_nil ?_; refine S_seq rfl ?_; refine S_region rfl rfl ?_; refine R_p rfl ?_ rfl rfl; refine R_take (T_load rfl rfl rfl (by first | rfl | assumption)) ?_ rfl rfl; refine R_p rfl ?_ rfl rfl; refine R_take (T_decF rfl ham) ?_ rfl rfl; refine R_nil ?_; refine S_false rfl rfl ?_; refine S_skip rfl ?_; refine RS_blk ?_; refine S_region rfl rfl ?_; refine R_take (T_addN rfl rfl (by unfold fits; omega)) ?_ rfl rfl; refine R_p rfl ?_ rfl rfl; refine R_nil ?_)
    refine hJ (j + 1) _ _ (by omega) ?_ (fun _ hS => hS.sublist (List.nil_sublist _)) (by omega)
    rw [hnx]
    exact (Sub.cons rfl (Sub.cons rfl (Sub.cons rfl (Sub.cons rfl (Sub.cons rfl Sub.nil)))))
end Go.Proofs.Ytlihhjldkopfhaa
