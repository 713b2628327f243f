/- Digests: the laws of whatever bytes. -/
import Derived.Test.YtemgfoakffappaaDoorShI
namespace Go.Proofs.YtemgfoakffappaaDoor
open Go.RowKit Go.ChangeShapes Go.WideShapes Go.ChangeAt
open Asn (pt row rb)
set_option linter.unusedVariables false
set_option linter.unusedSimpArgs false
--@use N
section
variable {n : Nat} {w0 : World} {M : Nat → Prop} {T : Slots} {H Hr : List Asn} {dd : Option Tmp} {tt : TypeId} {pos : String} {af : Array Edge} {g : Option (Nat × Bool)} {x y z : Operand} {ts : Array TypeId}
theorem E_own {A : Option Addr} {m c : Nat} {l : List UInt8} (hx : oget T x = some (.slice A m c)) (hs : Src w0 M H A m c l) :
    Ef Tryd.prog n w0 M T H ⟨dd, .call ⟨.value (.func 19), #[x], ts⟩, tt, pos, af, g⟩ (fun u H' => ∃ A' c', u = .slice A' (min m 700) c' ∧ H' = row 5 1 A' (min m 700) c' ((l.take (min m 700)).map bv) :: H) := by
  refine (E_gv ⟨_, Tryd.func19, rfl, by kernel_rfl⟩ (vs := [.slice A m c]) (by simp [ogets, hx]) fun w hS => own3_any w A m c l All (hs.bs w hS)).mono ?_
  rintro v H' ⟨x, rfl, _, rfl⟩ w hS
  exact ⟨_, _, rfl, ⟨x.1, x.2, rfl, rfl⟩, hS⟩
theorem E_eqb {A1 A2 : Option Addr} {n1 c1 n2 c2 : Nat} {l1 l2 : List UInt8} (hx : oget T x = some (.slice A1 n1 c1)) (hy : oget T y = some (.slice A2 n2 c2)) (h1 : Src w0 M H A1 n1 c1 l1) (h2 : Src w0 M H A2 n2 c2 l2) (hn : n1 ≤ 1000000) :
    Ef Tryd.prog n w0 M T H ⟨dd, .call ⟨.value (.func 23), #[x, y], ts⟩, tt, pos, af, g⟩ (fun u H' => u = .bool (decide (l1 = l2)) ∧ H' = H) := by
  refine (E_gv ⟨_, Tryd.func23, rfl, by kernel_rfl⟩ (vs := [.slice A1 n1 c1, .slice A2 n2 c2]) (by simp [ogets, hx, hy]) fun w hS => eqb_any w A1 A2 n1 c1 n2 c2 l1 l2 (h1.rd.rd w hS) (h2.rd.rd w hS) hn).mono ?_
  rintro v H' ⟨_, rfl, _, rfl⟩ w hS
  exact ⟨_, _, rfl, ⟨rfl, rfl⟩, hS⟩
theorem E_eqbS {A1 A2 : Option Addr} {n1 c1 n2 c2 : Nat} (l : List UInt8) (hx : oget T x = some (.slice A1 n1 c1)) (hy : oget T y = some (.slice A2 n2 c2)) (h1 : Src w0 M H A1 n1 c1 l) (h2 : Src w0 M H A2 n2 c2 l) (hn : n1 ≤ 1000000) :
    Ef Tryd.prog n w0 M T H ⟨dd, .call ⟨.value (.func 23), #[x, y], ts⟩, tt, pos, af, g⟩ (fun u H' => u = .bool true ∧ H' = H) := by
  have h := E_eqb (n := n) (dd := dd) (ts := ts) (tt := tt) (pos := pos) (af := af) (g := g) hx hy h1 h2 hn
  rwa [decide_eq_true rfl] at h
end

set_option maxRecDepth 100000 in
set_option maxHeartbeats 4000000 in
theorem digests_walk (w : World) (hr : Roots w) (A : Option Addr) (n c : Nat) (l : List UInt8) (h : Bs w All A n c l) :
    Gives Tryd.prog 7 [.slice A n c] [] w (X := Unit) (fun _ => .bool true) (fun _ => True) (fun _ => []) := by
  refine gives_S Tryd.func7 rfl Tryd.ntmps7 Tryd.results7 (by simp) (St.enter w) (fun B hB => ?_)
  obtain ⟨m, hm⟩ : ∃ m, min n 700 = m := ⟨_, rfl⟩
  have hm7 : m ≤ 700 := by omega
  obtain ⟨lb, hlb⟩ : ∃ lb, l.take m = lb := ⟨_, rfl⟩
  have hlbl : lb.length = m := by rw [← hlb, List.length_take, ← h.len]; omega
  have hpl := padL_len lb
  obtain ⟨N, hN⟩ : ∃ N, (padL lb).length = N := ⟨_, rfl⟩
  focus (refine S_seq rfl ?_; refine S_region rfl rfl ?_; refine R_p rfl ?_ rfl rfl; refine R_nil ?_; refine S_seq rfl ?_; refine S_seq rfl ?_; refine S_region rfl rfl ?_; (refine R_eff (E_wakes hr (noOwns 0)) ?_ rfl rfl; rintro _ _ ⟨rfl, rfl⟩); refine R_take (T_not rfl) ?_ rfl rfl; refine R_nil ?_; refine S_false rfl rfl ?_; refine S_skip rfl ?_; refine S_seq rfl ?_; refine S_region rfl rfl ?_; refine R_p rfl ?_ rfl rfl; (refine R_eff (E_own (l := l) rfl (Src.old h fun k _ => noOwns k)) ?_ rfl rfl; rintro _ _ ⟨Ab, cb, rfl, rfl⟩; rw [hm, hlb]); refine R_p rfl ?_ rfl rfl; refine R_nil ?_; refine S_seq rfl ?_; refine S_region rfl rfl ?_; refine R_p rfl ?_ rfl rfl; (refine R_eff (E_pad (l := lb) rfl Src.row (by omega)) ?_ rfl rfl; rintro _ _ ⟨Af, cf, hcf, rfl, rfl⟩; rw [hN] at hcf ⊢); refine R_p rfl ?_ rfl rfl; refine R_nil ?_; refine S_seq rfl ?_; refine S_seq rfl ?_; refine S_region rfl rfl ?_; refine R_p rfl ?_ rfl rfl; (refine R_eff (E_sum (l := lb) rfl Src.row (by omega) hr (noOwns 0)) ?_ rfl rfl; rintro _ _ ⟨rfl, rfl⟩); refine R_p rfl ?_ rfl rfl)
  focus ((refine R_eff (E_refsum (l := lb) rfl Src.row (by omega)) ?_ rfl rfl; rintro _ _ ⟨rfl, rfl⟩); refine R_take (T_nebsS rfl rfl rfl rfl rfl rfl rfl (by kernel_rfl) (sumL_len _)) ?_ rfl rfl; refine R_p rfl ?_ rfl rfl; refine R_p rfl ?_ rfl rfl; refine R_p rfl ?_ rfl rfl; (refine R_eff (E_own (l := l) rfl (Src.old h fun k _ => noOwns k)) ?_ rfl rfl; rintro _ _ ⟨A2, c2, rfl, rfl⟩; rw [hm, hlb]); (refine R_eff (E_refpad (l := lb) rfl Src.row (by omega)) ?_ rfl rfl; rintro _ _ ⟨A3, c3, _, rfl, rfl⟩; rw [hN]); (refine R_eff (E_eqbS (padL lb) rfl rfl Src.row Src.row (by omega)) ?_ rfl rfl; rintro _ _ ⟨rfl, rfl⟩); refine R_take (T_not rfl) ?_ rfl rfl; refine R_p rfl ?_ rfl rfl; refine R_nil ?_; refine S_false rfl rfl ?_; refine S_skip rfl ?_; refine S_seq rfl ?_; refine S_seq rfl ?_; refine S_region rfl rfl ?_; refine R_p rfl ?_ rfl rfl; refine R_p rfl ?_ rfl rfl; refine R_p rfl ?_ rfl rfl; refine R_nil ?_; refine S_block rfl ?_)
  refine S_loop (X := Nat × List Int) (fun x => [(0, .slice A n c), (3, .slice Ab m cb), (4, .slice Af N cf), (26, .int .i64 (N : Int)), (27, .int .i64 (x.1 : Int))]) (fun x => [row 5 1 Af N cf (x.2.map (Value.int .u8)), row 5 1 Ab m cb (lb.map bv)]) (fun x => x.1 ≤ N) (fun x => N - x.1) rfl (0, (padL lb).map fun b => (b.toNat : Int)) (Nat.zero_le _) (Sub.cons rfl (Sub.cons rfl (Sub.cons rfl (Sub.cons rfl (Sub.cons rfl Sub.nil))))) (by dsimp only; rw [← bv_ints]; exact sub_st) ?_
  rintro ⟨j, zs⟩ hj J hJ
  dsimp only at hj ⊢
  refine RS_row Af N cf fun hrc hrm hne0 hrl => ?_
  have hzl : zs.length = N := by simpa using hrl
  rcases Nat.lt_or_ge j N with hlt | hge
  · have hne := hne0 (by omega)
    focus (refine S_seq rfl ?_; refine S_region rfl rfl ?_; refine R_p rfl ?_ rfl rfl; refine R_nil ?_; refine S_seq rfl ?_; (refine S_if rfl rfl (fun hs => ?_) (fun hs => ?_)); refine S_skip rfl ?_; refine S_seq rfl ?_; refine S_block rfl ?_; refine S_seq rfl ?_; refine S_region rfl rfl ?_; refine R_p rfl ?_ rfl rfl; refine R_p rfl ?_ rfl rfl; refine R_nil ?_; refine S_region rfl rfl ?_; refine R_p rfl ?_ rfl rfl; refine R_p rfl ?_ rfl rfl; refine R_take (T_ixN rfl rfl rfl rfl rfl rfl (by first | assumption | exact hne (by omega) | exact hne2 (by omega)) (by omega)) ?_ rfl rfl; refine R_take (T_ldr (sz := 1) (m := N) (v := .int .u8 (zs.getD j 0)) rfl rfl rfl (Srd.row (c := cf)) (by omega) (map_at (Value.int .u8) 0 (by omega))) ?_ rfl rfl; refine R_take (T_arith (op := .xor) rfl rfl rfl) ?_ rfl rfl; refine R_take (T_ixN rfl rfl rfl rfl rfl rfl (by first | assumption | exact hne (by omega) | exact hne2 (by omega)) (by omega)) ?_ rfl rfl; (refine R_eff0 (E_storeR1 (xs := zs.map (Value.int .u8)) (m := N) (c := cf) rfl rfl rfl rfl rfl (by rw [List.length_map]; omega)) ?_ rfl; rintro _ _ rfl); refine R_nil ?_; refine RS_blk ?_; refine S_region rfl rfl ?_; refine R_take (T_addN rfl rfl (by unfold fits; omega)) ?_ rfl rfl; refine R_p rfl ?_ rfl rfl; refine R_nil ?_; rotate_left; refine S_exit rfl rfl ?_; refine S_seq rfl ?_; refine S_region rfl rfl ?_; refine R_p rfl ?_ rfl rfl; refine R_p rfl ?_ rfl rfl; rotate_left)
    any_goals (exfalso; omega)
    rw [← List.map_set]
    exact hJ (j + 1, zs.set j _) _ _ (by dsimp only; omega) (Sub.cons rfl (Sub.cons rfl (Sub.cons rfl (Sub.cons rfl (Sub.cons rfl Sub.nil))))) (fun _ h => h) (by dsimp only; omega)
  · skip
    skip
    focus (refine S_seq rfl ?_; refine S_region rfl rfl ?_; refine R_p rfl ?_ rfl rfl; refine R_nil ?_; refine S_seq rfl ?_; (refine S_if rfl rfl (fun hs => ?_) (fun hs => ?_)); refine S_skip rfl ?_; refine S_seq rfl ?_; refine S_block rfl ?_; refine S_seq rfl ?_; refine S_region rfl rfl ?_; refine R_p rfl ?_ rfl rfl; refine R_p rfl ?_ rfl rfl; refine R_nil ?_; refine S_region rfl rfl ?_; refine R_p rfl ?_ rfl rfl; refine R_p rfl ?_ rfl rfl; (exfalso; omega); refine S_exit rfl rfl ?_; refine S_seq rfl ?_; refine S_region rfl rfl ?_; refine R_p rfl ?_ rfl rfl; refine R_p rfl ?_ rfl rfl; (refine R_eff (E_own (l := l) rfl (Src.old h fun k _ => noOwns k)) ?_ rfl rfl; rintro _ _ ⟨A4, c4, rfl, rfl⟩; rw [hm, hlb]); (refine R_eff (E_eqbS lb rfl rfl Src.row Src.row (by omega)) ?_ rfl rfl; rintro _ _ ⟨rfl, rfl⟩); refine R_p rfl ?_ rfl rfl; refine R_nil ?_)
    exact hB _ _ _ _ _ rfl rfl fun w' hS => ⟨(), rfl, trivial, hS.sublist (List.nil_sublist _)⟩
theorem ShaDigests_open {H : Type} {enc : TypeId × Value → H} (W : World) {r : Reach} (base : Nat) (v0 : Value) {d0 : DataW H} {p0 : List MemPlace}
    (hv0 : Value.okWide Tryd.prog W r base 28 v0) (h0 : DataW.Trod enc Tryd.prog W 0 (fun _ => true) true 28 v0 d0 p0) (hL : laidMetH Tryd.prog [("confluence/sha.roots", Rows.laid_confluence_sha_roots)] W) :
    Calls Tryd.prog 7 #[v0] W fun e w' => e = .returned (.bool true) ∧ Kp All W w' := by
  obtain ⟨A, n, c, l, rfl, hb⟩ := open_bytes hv0 h0
  exact (digests_walk W (laid_roots hL) A n c l hb).pure
end Go.Proofs.YtemgfoakffappaaDoor
