/- The statement ConfRises: what is agreed a majority has, and nothing greater; it does not fall. -/
import Derived.Test.YtlihhjldkopfhaaCoX
import Derived.Test.YtlihhjldkopfhaaRkC
import Derived.Test.YtlihhjldkopfhaaCoP
namespace Go.Proofs.Ytlihhjldkopfhaa
open Go.RowKit Go.ChangeShapes Go.WideShapes Go.ChangeAt
open Asn (pt row rb)
set_option linter.unusedVariables false
set_option linter.unusedSimpArgs false
--@use N

section
variable {n : Nat} {w0 : World} {M : Nat → Prop} {T : Slots} {H Hr : List Asn} {dd : Option Tmp} {tt : TypeId} {pos : String} {af : Array Edge} {g : Option (Nat × Bool)} {x y z : Operand} {ts : Array TypeId} {A A1 A2 : Option Addr} {m c m1 cc1 m2 cc2 : Nat} {ms ks : List Int} {L : List (Int × Nat)} {a : Int}
theorem E_agrW (hx : oget T x = some (cfv A m c)) (hy : oget T y = some (.slice A2 m2 cc2)) (hs : Srd w0 M H 1 A m (ms.map zv)) (hs2 : Srd w0 M H 2 A2 m2 (mtc L)) (hm : m ≤ 900) (hm2 : m2 ≤ 900) :
    Ef Try.prog n w0 M T H ⟨dd, .call ⟨.value (.func 32), #[x, y], ts⟩, tt, pos, af, g⟩ (fun u H' => ∃ v, u = uv v ∧ (if right ms then IsAg (ms.map (idxN L)) v else v = 0) ∧ H' = H) := by
  refine (E_gv ⟨_, Try.func32, rfl, by kernel_rfl⟩ (vs := [cfv A m c, .slice A2 m2 cc2]) (by simp [ogets, hx, hy]) fun w hS => agr_any w A A2 m c m2 cc2 ms L (hs.rd w hS) (hs2.rd w hS) hm hm2).mono ?_
  rintro v H' ⟨q, rfl, hI, rfl⟩ w hS
  exact ⟨_, _, rfl, ⟨q, rfl, hI, rfl⟩, hS⟩
theorem E_ragrW {r : Nat} (hx : oget T x = some (cfv A m c)) (hy : oget T y = some (.slice A2 m2 cc2)) (hs : Srd w0 M H 1 A m (ms.map zv)) (hs2 : Srd w0 M H 2 A2 m2 (mtc L)) (hm : m ≤ 900) (hm2 : m2 ≤ 900) (hr : ragN L ms ms.length = r) :
    Ef Try.prog n w0 M T H ⟨dd, .call ⟨.value (.func 34), #[x, y], ts⟩, tt, pos, af, g⟩ (fun u H' => u = uv r ∧ H' = H) := by
  refine (E_gv ⟨_, Try.func34, rfl, by kernel_rfl⟩ (vs := [cfv A m c, .slice A2 m2 cc2]) (by simp [ogets, hx, hy]) fun w hS => ragr_any w A A2 m c m2 cc2 ms L (hs.rd w hS) (hs2.rd w hS) hm hm2).mono ?_
  rintro v H' ⟨_, rfl, _, rfl⟩ w hS
  exact ⟨_, _, rfl, ⟨by rw [hr], rfl⟩, hS⟩
end
theorem T_beqs {P : Program} {n : Nat} {w0 : World} {M : Nat → Prop} {T : Slots} {H : List Asn} {dd : Option Tmp} {tt : TypeId} {pos : String} {af : Array Edge} {g : Option (Nat × Bool)} [HasTab P] {x y : Operand} {t u : TypeId} {b : Bool} {i : Ti} (hx : oget T x = some (.bool b)) (hy : oget T y = some (.bool b)) (ht : ty P t = some i) (hi : i.desc = .bool) :
    Tk P n w0 M T H ⟨dd, .binOp .eql t x y u, tt, pos, af, g⟩ (.bool true) := by
  have h := T_beq (n := n) (w0 := w0) (M := M) (H := H) (dd := dd) (tt := tt) (pos := pos) (af := af) (g := g) (u := u) hx hy ht hi
  rwa [show (b == b) = true by cases b <;> rfl] at h
theorem mtc_ones (L : List (Int × Nat)) : ∀ u ∈ mtc L, u.oneCell' = true := by
  intro u hu
  obtain ⟨x, _, hx⟩ := List.mem_flatMap.1 hu
  simp only [List.mem_cons, List.not_mem_nil, or_false] at hx
  rcases hx with rfl | rfl <;> simp [zv, uv, Value.oneCell']
theorem mtc_take (L : List (Int × Nat)) (q : Nat) : mtc (L.take q) = (mtc L).take (q * 2) := cellsL_take (f := fun x : Int × Nat => [zv x.1, uv x.2]) (fun _ => rfl) L q
set_option maxRecDepth 100000 in
set_option maxHeartbeats 4000000 in
theorem agrees_any (w : World) (k1 : Cf) (hk1 : k1.ok w) (s1 : Cf) (hs1 : s1.ok w) (A2 : Option Addr) (n2 c2 : Nat) (L : List (Int × Nat)) (hL : Rd w All 2 A2 n2 (mtc L)) (hn2 : n2 ≤ c2) (hc2 : c2 ≤ maxLen) :
    Gives Try.prog 8 [cfv k1.A k1.n k1.c, s1.v, .slice A2 n2 c2] [] w (X := Unit) (fun _ => .bool true) (fun _ => True) (fun _ => []) := by
  refine gives_S Try.func8 rfl Try.ntmps8 Try.results8 (by simp) (St.enter w) (fun B hB => ?_)
  obtain ⟨hr1, hn1, hc1⟩ := hk1
  obtain ⟨hq1, hm1, hcm1⟩ := hs1
  obtain ⟨k1A, k1n, k1c, k1ms⟩ := k1
  obtain ⟨s1A, s1n, s1c, s1ms⟩ := s1
  simp only [Cf.v] at hr1 hn1 hc1 hq1 hm1 hcm1 ⊢
  obtain ⟨a, ha⟩ : ∃ a, k1ms.take 9 = a := ⟨_, rfl⟩
  have ha9 : a.length ≤ 900 := ha ▸ take9 _
  have haa : a.take 9 = a := by rw [← ha, List.take_take]; rfl
  have ham : a.length + 2 ≤ maxLen := by unfold maxLen; omega
  obtain ⟨q1, hqq1⟩ : ∃ q1, min s1n 20 = q1 := ⟨_, rfl⟩
  obtain ⟨q2, hqq2⟩ : ∃ q2, min n2 20 = q2 := ⟨_, rfl⟩
  have hx1 := hq1.head (k := q1) (by omega)
  rw [Nat.mul_one, ← List.map_take] at hx1
  have hx2 := hL.head (k := q2) (by omega)
  rw [← mtc_take] at hx2
  obtain ⟨xs, hxs⟩ : ∃ xs, s1ms.take q1 = xs := ⟨_, rfl⟩
  obtain ⟨ys, hys⟩ : ∃ ys, L.take q2 = ys := ⟨_, rfl⟩
  rw [hxs] at hx1
  rw [hys] at hx2
  have hxl : xs.length = q1 := by have := hx1.1; simpa using this
  have hyl : ys.length = q2 := by have := hx2.1; rw [mtc_len] at this; omega
  have hq20 : q1 ≤ 20 := by omega
  have hq220 : q2 ≤ 20 := by omega
  unfold maxLen at hcm1 hc2
  focus (refine S_seq rfl ?_; refine S_region rfl rfl ?_; (refine R_eff (E_boxa rfl) ?_ rfl rfl; rintro _ _ ⟨b, rfl, rfl⟩); refine R_p rfl ?_ rfl rfl; refine R_nil ?_; refine S_seq rfl ?_; refine S_seq rfl ?_; refine S_region rfl rfl ?_; (refine R_eff (E_gv0 (f := 10) ⟨_, Try.func10, rfl, by kernel_rfl⟩ rfl (fun w hS => wakes_any w) (fun _ => rfl)) ?_ rfl rfl; rintro _ _ ⟨_, rfl, _, rfl⟩); refine R_take (T_not rfl) ?_ rfl rfl; refine R_nil ?_; refine S_false rfl rfl ?_; refine S_skip rfl ?_; refine S_seq rfl ?_; refine S_region rfl rfl ?_; refine R_take (T_loada (ds := [.slice k1A k1n k1c]) rfl rfl rfl rfl (fun j v h => by simpa using h)) ?_ rfl rfl; (refine R_eff (E_short (A := k1A) (m := k1n) (c := k1c) rfl (Srd.old hr1 (fun k _ => noOwns k)) hn1 hc1 ha) ?_ rfl rfl; rintro _ _ ⟨ga, rfl, rfl⟩); (refine R_eff0 (E_storew (cs := [.slice k1A k1n k1c]) rfl rfl rfl rfl (sl_one _ _ _) rfl) ?_ rfl; rintro _ _ rfl); refine R_nil ?_; refine S_seq rfl ?_)
  refine S_cut (X := Option Addr × Nat × Option Addr × Nat) (fun x => [(1, .slice x.1 q1 x.2.1), (2, .slice x.2.2.1 q2 x.2.2.2), (3, .pointer (some ⟨b, 0, none⟩))]) (fun x => [row 3 1 x.1 q1 x.2.1 (xs.map zv), row 56 2 x.2.2.1 q2 x.2.2.2 (mtc ys), pt b 24 [.slice (some ⟨ga, 0, none⟩) a.length (a.length + 2)], pt ga 3 (wide a)]) (fun _ => True) (fun J hJ => ?_) (fun x _ => ?_)
  · skip
    refine S_draw (_) (fun _ h => h) (by kernel_rfl) rfl (by kernel_rfl) (by kernel_rfl : _ = 16) ?_
    refine D_take 1 rfl (pev_ok rfl) ?_ rfl rfl (by kernel_rfl) (by kernel_rfl)
    refine D_take 2 rfl (pev_ok rfl) ?_ rfl rfl (by kernel_rfl) (by kernel_rfl)
    refine D_take 3 rfl (pev_ok rfl) ?_ rfl rfl (by kernel_rfl) (by kernel_rfl)
    refine D_take 4 rfl (T_minE hqq1 rfl rfl) ?_ rfl rfl (by kernel_rfl) (by kernel_rfl)
    refine D_take 5 rfl (T_slhN rfl rfl rfl rfl rfl (by omega)) ?_ rfl rfl (by kernel_rfl) (by kernel_rfl)
    refine D_take 8 rfl (pev_ok rfl) ?_ rfl rfl (by kernel_rfl) (by kernel_rfl)
    refine D_take 9 rfl (pev_ok rfl) ?_ rfl rfl (by kernel_rfl) (by kernel_rfl)
    refine D_take 10 rfl (pev_ok rfl) ?_ rfl rfl (by kernel_rfl) (by kernel_rfl)
    refine D_take 11 rfl (T_minE hqq2 rfl rfl) ?_ rfl rfl (by kernel_rfl) (by kernel_rfl)
    refine D_take 12 rfl (T_slhN rfl rfl rfl rfl rfl (by omega)) ?_ rfl rfl (by kernel_rfl) (by kernel_rfl)
    refine D_two 0 7 (by decide) rfl rfl (E_litS (vs := []) (size := 1) (ds := []) rfl rfl rfl rfl rfl rfl (by simp) rfl (by omega)) (E_litS (vs := []) (size := 2) (ds := []) rfl rfl rfl rfl rfl rfl (by simp) rfl (by omega)) ?_ ?_ rfl rfl rfl rfl (by kernel_rfl)
    · rintro _ _ ⟨bl1, rfl, rfl⟩
      refine Nx_same sub_st ?_
      refine D_two 6 7 (by decide) rfl rfl (E_apple (sz := 1) (m2 := q1) (news := xs.map zv) rfl rfl rfl rfl rfl rfl rfl (by decide) (by first | exact Rem.here | exact Rem.there Rem.here | exact Rem.there (Rem.there Rem.here)) (Srd.old hx1 (fun k _ => noOwns k)) (zv_ones _) (by show q1 * 8 ≤ _; omega) (by unfold maxLen; omega)) (E_litS (vs := []) (size := 2) (ds := []) rfl rfl rfl rfl rfl rfl (by simp) rfl (by omega)) ?_ ?_ rfl rfl rfl rfl (by kernel_rfl)
      · rintro _ _ ⟨A3, c3, rfl, rfl⟩
        refine Nx_same sub_st ?_
        refine D_one 7 rfl (E_litS (vs := []) (size := 2) (ds := []) rfl rfl rfl rfl rfl rfl (by simp) rfl (by omega)) ?_ rfl rfl (by kernel_rfl)
        rintro _ _ ⟨bl2, rfl, rfl⟩
        refine Nx_same sub_st ?_
        refine D_one 13 rfl (E_apple (sz := 2) (m2 := q2) (news := mtc ys) rfl rfl rfl rfl rfl rfl rfl (by decide) (by first | exact Rem.here | exact Rem.there Rem.here | exact Rem.there (Rem.there Rem.here)) (Srd.old hx2 (fun k _ => noOwns k)) (mtc_ones _) (by show q2 * 16 ≤ _; omega) (by unfold maxLen; omega)) ?_ rfl rfl (by kernel_rfl)
        rintro _ _ ⟨A4, c4, rfl, rfl⟩
        refine Nx_same sub_st ?_
        refine D_take 14 rfl (pev_ok rfl) ?_ rfl rfl (by kernel_rfl) (by kernel_rfl)
        refine D_take 15 rfl (pev_ok rfl) ?_ rfl rfl (by kernel_rfl) (by kernel_rfl)
        refine D_done ?_ (by kernel_rfl)
        exact hJ (A3, c3, A4, c4) _ _ trivial (Sub.cons rfl (Sub.cons rfl (Sub.cons rfl Sub.nil))) sub_st
      · rintro _ _ ⟨bl2, rfl, rfl⟩
        refine Nx_same sub_st ?_
        refine D_one 6 rfl (E_apple (sz := 1) (m2 := q1) (news := xs.map zv) rfl rfl rfl rfl rfl rfl rfl (by decide) (by first | exact Rem.here | exact Rem.there Rem.here | exact Rem.there (Rem.there Rem.here)) (Srd.old hx1 (fun k _ => noOwns k)) (zv_ones _) (by show q1 * 8 ≤ _; omega) (by unfold maxLen; omega)) ?_ rfl rfl (by kernel_rfl)
        rintro _ _ ⟨A3, c3, rfl, rfl⟩
        refine Nx_same sub_st ?_
        refine D_one 13 rfl (E_apple (sz := 2) (m2 := q2) (news := mtc ys) rfl rfl rfl rfl rfl rfl rfl (by decide) (by first | exact Rem.here | exact Rem.there Rem.here | exact Rem.there (Rem.there Rem.here)) (Srd.old hx2 (fun k _ => noOwns k)) (mtc_ones _) (by show q2 * 16 ≤ _; omega) (by unfold maxLen; omega)) ?_ rfl rfl (by kernel_rfl)
        rintro _ _ ⟨A4, c4, rfl, rfl⟩
        refine Nx_same sub_st ?_
        refine D_take 14 rfl (pev_ok rfl) ?_ rfl rfl (by kernel_rfl) (by kernel_rfl)
        refine D_take 15 rfl (pev_ok rfl) ?_ rfl rfl (by kernel_rfl) (by kernel_rfl)
        refine D_done ?_ (by kernel_rfl)
        exact hJ (A3, c3, A4, c4) _ _ trivial (Sub.cons rfl (Sub.cons rfl (Sub.cons rfl Sub.nil))) sub_st
    · rintro _ _ ⟨bl2, rfl, rfl⟩
      refine Nx_same sub_st ?_
      refine D_one 0 rfl (E_litS (vs := []) (size := 1) (ds := []) rfl rfl rfl rfl rfl rfl (by simp) rfl (by omega)) ?_ rfl rfl (by kernel_rfl)
      rintro _ _ ⟨bl1, rfl, rfl⟩
      refine Nx_same sub_st ?_
      refine D_one 6 rfl (E_apple (sz := 1) (m2 := q1) (news := xs.map zv) rfl rfl rfl rfl rfl rfl rfl (by decide) (by first | exact Rem.here | exact Rem.there Rem.here | exact Rem.there (Rem.there Rem.here)) (Srd.old hx1 (fun k _ => noOwns k)) (zv_ones _) (by show q1 * 8 ≤ _; omega) (by unfold maxLen; omega)) ?_ rfl rfl (by kernel_rfl)
      rintro _ _ ⟨A3, c3, rfl, rfl⟩
      refine Nx_same sub_st ?_
      refine D_one 13 rfl (E_apple (sz := 2) (m2 := q2) (news := mtc ys) rfl rfl rfl rfl rfl rfl rfl (by decide) (by first | exact Rem.here | exact Rem.there Rem.here | exact Rem.there (Rem.there Rem.here)) (Srd.old hx2 (fun k _ => noOwns k)) (mtc_ones _) (by show q2 * 16 ≤ _; omega) (by unfold maxLen; omega)) ?_ rfl rfl (by kernel_rfl)
      rintro _ _ ⟨A4, c4, rfl, rfl⟩
      refine Nx_same sub_st ?_
      refine D_take 14 rfl (pev_ok rfl) ?_ rfl rfl (by kernel_rfl) (by kernel_rfl)
      refine D_take 15 rfl (pev_ok rfl) ?_ rfl rfl (by kernel_rfl) (by kernel_rfl)
      refine D_done ?_ (by kernel_rfl)
      exact hJ (A3, c3, A4, c4) _ _ trivial (Sub.cons rfl (Sub.cons rfl (Sub.cons rfl Sub.nil))) sub_st
  obtain ⟨A3, c3, A4, c4⟩ := x
  dsimp only
  focus (refine S_seq rfl ?_; refine S_region rfl rfl ?_; (refine R_eff (E_litS (vs := []) (size := 1) (ds := []) rfl rfl rfl rfl rfl rfl (by simp) rfl (by omega)) ?_ rfl rfl; rintro _ _ ⟨bl3, rfl, rfl⟩); refine R_p rfl ?_ rfl rfl; (refine R_eff (E_apple (sz := 1) (m2 := q1) (news := xs.map zv) rfl rfl rfl rfl rfl rfl rfl (by decide) (by first | exact Rem.here | exact Rem.there Rem.here) (Srd.row (n := q1) (c := c3)) (zv_ones _) (by show q1 * 8 ≤ _; omega) (by unfold maxLen; omega)) ?_ rfl rfl; rintro _ _ ⟨A5, c5, rfl, rfl⟩); (refine R_eff (E_litS (vs := []) (size := 2) (ds := []) rfl rfl rfl rfl rfl rfl (by simp) rfl (by omega)) ?_ rfl rfl; rintro _ _ ⟨bl4, rfl, rfl⟩); refine R_p rfl ?_ rfl rfl; (refine R_eff (E_apple (sz := 2) (m2 := q2) (news := mtc ys) rfl rfl rfl rfl rfl rfl rfl (by decide) (by first | exact Rem.here | exact Rem.there Rem.here) (Srd.row (n := q2) (c := c4)) (mtc_ones _) (by show q2 * 16 ≤ _; omega) (by unfold maxLen; omega)) ?_ rfl rfl; rintro _ _ ⟨A6, c6, rfl, rfl⟩); refine R_p rfl ?_ rfl rfl; refine R_p rfl ?_ rfl rfl; refine R_nil ?_; refine S_seq rfl ?_; refine S_region rfl rfl ?_; refine R_take (T_loada (ds := [.slice (some ⟨ga, 0, none⟩) a.length (a.length + 2)]) rfl rfl rfl rfl (fun j v h => by simpa using h)) ?_ rfl rfl; (refine R_eff (E_short (A := some ⟨ga, 0, none⟩) (m := a.length) (c := a.length + 2) rfl (wide_rd (g := ga)) (by omega) ham haa) ?_ rfl rfl; rintro _ _ ⟨gb, rfl, rfl⟩); (refine R_eff (E_alloca rfl cf_alloc) ?_ rfl rfl; rintro _ _ ⟨b9, rfl, rfl⟩); (refine R_eff0 (E_storew (cs := [.slice none 0 0]) rfl rfl rfl rfl (sl_one _ _ _) rfl) ?_ rfl; rintro _ _ rfl); refine R_nil ?_; refine S_seq rfl ?_)
  obtain ⟨m1, hm1'⟩ : ∃ m1, majB a xs = m1 := ⟨_, rfl⟩
  refine S_cut (X := Nat) (fun v => [(1, .slice A3 q1 c3), (2, .slice A4 q2 c4), (3, .pointer (some ⟨b, 0, none⟩)), (7, .slice A5 q1 c5), (8, .slice A6 q2 c6), (9, .pointer (some ⟨b9, 0, none⟩)), (10, .bool m1), (11, uv v)]) (fun v => [pt b9 24 [.slice (some ⟨gb, 0, none⟩) a.length (a.length + 2)], pt gb 3 (wide a), row 56 2 A6 q2 c6 (mtc ys), row 3 1 A5 q1 c5 (xs.map zv), row 3 1 A3 q1 c3 (xs.map zv), row 56 2 A4 q2 c4 (mtc ys), pt b 24 [.slice (some ⟨ga, 0, none⟩) a.length (a.length + 2)], pt ga 3 (wide a)]) (fun v => if right a then IsAg (a.map (idxN ys)) v else v = 0) (fun J hJ => ?_) (fun v hv => ?_)
  · skip
    refine S_draw (_) (fun _ h => h) (by kernel_rfl) rfl (by kernel_rfl) (by kernel_rfl : _ = 8) ?_
    refine D_take 0 rfl (T_loada (ds := [.slice (some ⟨ga, 0, none⟩) a.length (a.length + 2)]) rfl rfl rfl rfl (fun j v h => by simpa using h)) ?_ rfl rfl (by kernel_rfl) (by kernel_rfl)
    refine D_take 1 rfl (pev_ok rfl) ?_ rfl rfl (by kernel_rfl) (by kernel_rfl)
    refine D_take 3 rfl (T_loada (ds := [.slice (some ⟨ga, 0, none⟩) a.length (a.length + 2)]) rfl rfl rfl rfl (fun j v h => by simpa using h)) ?_ rfl rfl (by kernel_rfl) (by kernel_rfl)
    refine D_take 4 rfl (pev_ok rfl) ?_ rfl rfl (by kernel_rfl) (by kernel_rfl)
    refine D_one 2 rfl (E_majW (ms := a) (ks := xs) rfl rfl (wide_rd (g := ga)) (Srd.row (n := q1) (c := c3)) ha9 (by omega) hm1') ?_ rfl rfl (by kernel_rfl)
    rintro _ _ ⟨rfl, rfl⟩
    refine Nx_same sub_st ?_
    refine D_one 5 rfl (E_agrW (ms := a) (L := ys) rfl rfl (wide_rd (g := ga)) (Srd.row (n := q2) (c := c4)) ha9 (by omega)) ?_ rfl rfl (by kernel_rfl)
    rintro _ _ ⟨v, rfl, hv, rfl⟩
    refine Nx_same sub_st ?_
    refine D_take 6 rfl (pev_ok rfl) ?_ rfl rfl (by kernel_rfl) (by kernel_rfl)
    refine D_take 7 rfl (pev_ok rfl) ?_ rfl rfl (by kernel_rfl) (by kernel_rfl)
    refine D_done ?_ (by kernel_rfl)
    exact hJ v _ _ hv (Sub.cons rfl (Sub.cons rfl (Sub.cons rfl (Sub.cons rfl (Sub.cons rfl (Sub.cons rfl (Sub.cons rfl (Sub.cons rfl Sub.nil)))))))) sub_st
  refine RS_row A3 q1 c3 fun _ _ hne3 _ => ?_
  refine RS_row A4 q2 c4 fun _ _ hne4 _ => ?_
  refine RS_row A5 q1 c5 fun _ _ hne5 _ => ?_
  refine RS_row A6 q2 c6 fun _ _ hne6 _ => ?_
  focus (refine S_seq rfl ?_; refine S_seq rfl ?_; refine S_region rfl rfl ?_; refine R_p rfl ?_ rfl rfl; refine R_p rfl ?_ rfl rfl; refine R_p rfl ?_ rfl rfl; refine R_nil ?_; refine S_block rfl ?_)
  refine S_loop (X := Nat) (fun j => [(1, .slice A3 q1 c3), (2, .slice A4 q2 c4), (3, .pointer (some ⟨b, 0, none⟩)), (7, .slice A5 q1 c5), (8, .slice A6 q2 c6), (9, .pointer (some ⟨b9, 0, none⟩)), (10, .bool m1), (11, uv v), (47, .int .i64 (q1 : Int)), (48, .int .i64 (j : Int))]) (fun _ => [pt b9 24 [.slice (some ⟨gb, 0, none⟩) a.length (a.length + 2)], pt gb 3 (wide a), row 56 2 A6 q2 c6 (mtc ys), row 3 1 A5 q1 c5 (xs.map zv), row 3 1 A3 q1 c3 (xs.map zv), row 56 2 A4 q2 c4 (mtc ys), pt b 24 [.slice (some ⟨ga, 0, none⟩) a.length (a.length + 2)], pt ga 3 (wide a)]) (fun j => j ≤ q1) (fun j => q1 - j) rfl 0 (Nat.zero_le _) (Sub.cons rfl (Sub.cons rfl (Sub.cons rfl (Sub.cons rfl (Sub.cons rfl (Sub.cons rfl (Sub.cons rfl (Sub.cons rfl (Sub.cons rfl (Sub.cons rfl Sub.nil)))))))))) (fun _ h => h) ?_
  rintro j hj J hJ
  rcases Nat.lt_or_ge j q1 with hjl | hjl
  · have hz := zv_at (l := xs) (h := show j < xs.length by omega)
    have hne3 := hne3 (by omega)
    have hne5 := hne5 (by omega)
    obtain ⟨y, hy⟩ : ∃ y, xs.getD j 0 = y := ⟨_, rfl⟩
    rw [hy] at hz
    focus (refine S_seq rfl ?_; refine S_region rfl rfl ?_; refine R_take (T_decT rfl (by omega)) ?_ rfl rfl; refine R_nil ?_; refine S_seq rfl ?_; refine S_true rfl rfl ?_; refine S_skip rfl ?_; refine S_seq rfl ?_; refine S_block rfl ?_; refine S_seq rfl ?_; refine S_region rfl rfl ?_; refine R_p rfl ?_ rfl rfl; refine R_p rfl ?_ rfl rfl; refine R_nil ?_; refine S_seq rfl ?_; (refine S_draw _ (fun _ h => h) (by kernel_rfl) rfl (by kernel_rfl) (rfl : _ = 9) ?_; (refine D_take 0 rfl (pev_ok rfl) ?_ rfl rfl (by kernel_rfl) (by kernel_rfl)); (refine D_take 1 rfl (pev_ok rfl) ?_ rfl rfl (by kernel_rfl) (by kernel_rfl)); (refine D_take 2 rfl (T_ixN rfl rfl rfl rfl rfl rfl (by first | assumption | exact hne (by omega) | exact hne2 (by omega)) (by omega)) ?_ rfl rfl (by kernel_rfl) (by kernel_rfl)); (refine D_take 3 rfl (T_ldr rfl rfl rfl (Srd.row (n := q1) (c := c3)) (by omega) hz) ?_ rfl rfl (by kernel_rfl) (by kernel_rfl)); (refine D_take 4 rfl (pev_ok rfl) ?_ rfl rfl (by kernel_rfl) (by kernel_rfl)); (refine D_take 5 rfl (pev_ok rfl) ?_ rfl rfl (by kernel_rfl) (by kernel_rfl)); (refine D_take 6 rfl (T_ixN rfl rfl rfl rfl rfl rfl (by first | assumption | exact hne (by omega) | exact hne2 (by omega)) (by omega)) ?_ rfl rfl (by kernel_rfl) (by kernel_rfl)); (refine D_take 7 rfl (T_ldr rfl rfl rfl (Srd.row (n := q1) (c := c5)) (by omega) hz) ?_ rfl rfl (by kernel_rfl) (by kernel_rfl)); (refine D_take 8 rfl (T_decF rfl (fun h => h rfl)) ?_ rfl rfl (by kernel_rfl) (by kernel_rfl)); refine D_done ?_ (by kernel_rfl)); refine S_false rfl rfl ?_; refine S_skip rfl ?_; refine RS_blk ?_; refine S_region rfl rfl ?_; refine R_take (T_addN rfl rfl (by unfold fits; omega)) ?_ rfl rfl; refine R_p rfl ?_ rfl rfl; refine R_nil ?_)
    exact hJ (j + 1) _ _ (by omega) (Sub.cons rfl (Sub.cons rfl (Sub.cons rfl (Sub.cons rfl (Sub.cons rfl (Sub.cons rfl (Sub.cons rfl (Sub.cons rfl (Sub.cons rfl (Sub.cons rfl Sub.nil)))))))))) (fun _ h => h) (by omega)
  clear hj
  have hjn : ¬ (j : Int) < (q1 : Int) := by omega
  focus (refine S_seq rfl ?_; refine S_region rfl rfl ?_; refine R_take (T_decF rfl hjn) ?_ rfl rfl; refine R_nil ?_; refine S_seq rfl ?_; refine S_false rfl rfl ?_; refine S_exit rfl rfl ?_; refine S_seq rfl ?_; refine S_seq rfl ?_; refine S_region rfl rfl ?_; refine R_p rfl ?_ rfl rfl; refine R_p rfl ?_ rfl rfl; refine R_p rfl ?_ rfl rfl; refine R_nil ?_; refine S_block rfl ?_)
  refine S_loop (X := Nat) (fun j => [(1, .slice A3 q1 c3), (2, .slice A4 q2 c4), (3, .pointer (some ⟨b, 0, none⟩)), (7, .slice A5 q1 c5), (8, .slice A6 q2 c6), (9, .pointer (some ⟨b9, 0, none⟩)), (10, .bool m1), (11, uv v), (62, .int .i64 (q2 : Int)), (63, .int .i64 (j : Int))]) (fun _ => [pt b9 24 [.slice (some ⟨gb, 0, none⟩) a.length (a.length + 2)], pt gb 3 (wide a), row 56 2 A6 q2 c6 (mtc ys), row 3 1 A5 q1 c5 (xs.map zv), row 3 1 A3 q1 c3 (xs.map zv), row 56 2 A4 q2 c4 (mtc ys), pt b 24 [.slice (some ⟨ga, 0, none⟩) a.length (a.length + 2)], pt ga 3 (wide a)]) (fun j => j ≤ q2) (fun j => q2 - j) rfl 0 (Nat.zero_le _) (Sub.cons rfl (Sub.cons rfl (Sub.cons rfl (Sub.cons rfl (Sub.cons rfl (Sub.cons rfl (Sub.cons rfl (Sub.cons rfl (Sub.cons rfl (Sub.cons rfl Sub.nil)))))))))) (fun _ h => h) ?_
  clear hjn hjl
  rintro j hj J2 hJ2
  rcases Nat.lt_or_ge j q2 with hjl | hjl
  · have hz := mtc_at ys j (by omega)
    have hne4 := hne4 (by omega)
    have hne6 := hne6 (by omega)
    obtain ⟨⟨y, u⟩, hy⟩ : ∃ y, ys.getD j (0, 0) = y := ⟨_, rfl⟩
    rw [hy] at hz
    focus (refine S_seq rfl ?_; refine S_region rfl rfl ?_; refine R_take (T_decT rfl (by omega)) ?_ rfl rfl; refine R_nil ?_; refine S_seq rfl ?_; refine S_true rfl rfl ?_; refine S_skip rfl ?_; refine S_seq rfl ?_; refine S_block rfl ?_; refine S_seq rfl ?_; refine S_region rfl rfl ?_; refine R_p rfl ?_ rfl rfl; refine R_p rfl ?_ rfl rfl; refine R_nil ?_; refine S_seq rfl ?_; (refine S_draw _ (fun _ h => h) (by kernel_rfl) rfl (by kernel_rfl) (rfl : _ = 9) ?_; (refine D_take 0 rfl (pev_ok rfl) ?_ rfl rfl (by kernel_rfl) (by kernel_rfl)); (refine D_take 1 rfl (pev_ok rfl) ?_ rfl rfl (by kernel_rfl) (by kernel_rfl)); (refine D_take 2 rfl (T_ixM (sz := 2) rfl rfl rfl rfl rfl rfl hne4 hjl) ?_ rfl rfl (by kernel_rfl) (by kernel_rfl)); (refine D_take 3 rfl (T_lda (ds := [zv y, uv u]) rfl rfl rfl (Srd.row (n := q2) (c := c4)) rfl (by omega) hz) ?_ rfl rfl (by kernel_rfl) (by kernel_rfl)); (refine D_take 4 rfl (pev_ok rfl) ?_ rfl rfl (by kernel_rfl) (by kernel_rfl)); (refine D_take 5 rfl (pev_ok rfl) ?_ rfl rfl (by kernel_rfl) (by kernel_rfl)); (refine D_take 6 rfl (T_ixM (sz := 2) rfl rfl rfl rfl rfl rfl hne6 hjl) ?_ rfl rfl (by kernel_rfl) (by kernel_rfl)); (refine D_take 7 rfl (T_lda (ds := [zv y, uv u]) rfl rfl rfl (Srd.row (n := q2) (c := c6)) rfl (by omega) hz) ?_ rfl rfl (by kernel_rfl) (by kernel_rfl)); (refine D_take 8 rfl (T_neS (r := true) rfl rfl rfl rfl (by kernel_rfl) (by kernel_rfl) rfl (by simp [eqFl, eqVal, zv, uv])) ?_ rfl rfl (by kernel_rfl) (by kernel_rfl)); refine D_done ?_ (by kernel_rfl)); refine S_false rfl rfl ?_; refine S_skip rfl ?_; refine RS_blk ?_; refine S_region rfl rfl ?_; refine R_take (T_addN rfl rfl (by unfold fits; omega)) ?_ rfl rfl; refine R_p rfl ?_ rfl rfl; refine R_nil ?_)
    exact hJ2 (j + 1) _ _ (by omega) (Sub.cons rfl (Sub.cons rfl (Sub.cons rfl (Sub.cons rfl (Sub.cons rfl (Sub.cons rfl (Sub.cons rfl (Sub.cons rfl (Sub.cons rfl (Sub.cons rfl Sub.nil)))))))))) (fun _ h => h) (by omega)
  clear hj
  have hjn : ¬ (j : Int) < (q2 : Int) := by omega
  clear hjl
  obtain ⟨ra, hra⟩ : ∃ ra, right a = ra := ⟨_, rfl⟩
  rw [hra] at hv
  have hmm : ra = true → rmajB a xs = m1 := fun h => by rw [← hm1', majB, rmajB, hra, h, Bool.true_and]
  have hm0 : ra = false → m1 = false := fun h => by rw [← hm1', majB, hra, h, Bool.false_and]
  cases ra
  · obtain rfl : v = 0 := by simpa using hv
    obtain rfl := hm0 rfl
    focus (refine S_seq rfl ?_; refine S_region rfl rfl ?_; refine R_take (T_decF rfl hjn) ?_ rfl rfl; refine R_nil ?_; refine S_seq rfl ?_; refine S_false rfl rfl ?_; refine S_exit rfl rfl ?_; refine S_seq rfl ?_; refine S_seq rfl ?_; refine S_region rfl rfl ?_; refine R_take (T_loada (ds := [.slice (some ⟨ga, 0, none⟩) a.length (a.length + 2)]) rfl rfl rfl rfl (fun j v h => by simpa using h)) ?_ rfl rfl; refine R_take (T_loada (ds := [.slice (some ⟨gb, 0, none⟩) a.length (a.length + 2)]) rfl rfl rfl rfl (fun j v h => by simpa using h)) ?_ rfl rfl; (refine R_eff (E_whole (b := ga) (r := true) rfl rfl wide_rw (wide_rd (g := gb)) ha9 ha9 (decide_eq_true rfl)) ?_ rfl rfl; rintro _ _ ⟨rfl, rfl⟩); refine R_take (T_not rfl) ?_ rfl rfl; refine R_nil ?_; refine S_false rfl rfl ?_; refine S_skip rfl ?_; refine S_seq rfl ?_; refine S_seq rfl ?_; refine S_region rfl rfl ?_; refine R_take (T_loada (ds := [.slice (some ⟨gb, 0, none⟩) a.length (a.length + 2)]) rfl rfl rfl rfl (fun j v h => by simpa using h)) ?_ rfl rfl; (refine R_eff (E_rrightW rfl (wide_rd (g := gb)) ha9 hra) ?_ rfl rfl; rintro _ _ ⟨rfl, rfl⟩); refine R_take (T_not rfl) ?_ rfl rfl; refine R_nil ?_; refine S_true rfl rfl ?_; refine S_seq rfl ?_; refine S_region rfl rfl ?_; refine R_p rfl ?_ rfl rfl; refine R_take (T_not rfl) ?_ rfl rfl; refine R_p rfl ?_ rfl rfl; refine R_p rfl ?_ rfl rfl; refine R_take (T_decT rfl rfl) ?_ rfl rfl; refine R_p rfl ?_ rfl rfl; refine R_p rfl ?_ rfl rfl; refine R_nil ?_)
    refine hB _ _ _ _ _ rfl rfl fun w' hS => ⟨(), rfl, trivial, hS.sublist (List.nil_sublist _)⟩
  · have hv : IsAg (a.map (idxN ys)) v := by simpa using hv
    have hrv := rag_is hv
    have hmm := hmm rfl
    focus (refine S_seq rfl ?_; refine S_region rfl rfl ?_; refine R_take (T_decF rfl hjn) ?_ rfl rfl; refine R_nil ?_; refine S_seq rfl ?_; refine S_false rfl rfl ?_; refine S_exit rfl rfl ?_; refine S_seq rfl ?_; refine S_seq rfl ?_; refine S_region rfl rfl ?_; refine R_take (T_loada (ds := [.slice (some ⟨ga, 0, none⟩) a.length (a.length + 2)]) rfl rfl rfl rfl (fun j v h => by simpa using h)) ?_ rfl rfl; refine R_take (T_loada (ds := [.slice (some ⟨gb, 0, none⟩) a.length (a.length + 2)]) rfl rfl rfl rfl (fun j v h => by simpa using h)) ?_ rfl rfl; (refine R_eff (E_whole (b := ga) (r := true) rfl rfl wide_rw (wide_rd (g := gb)) ha9 ha9 (decide_eq_true rfl)) ?_ rfl rfl; rintro _ _ ⟨rfl, rfl⟩); refine R_take (T_not rfl) ?_ rfl rfl; refine R_nil ?_; refine S_false rfl rfl ?_; refine S_skip rfl ?_; refine S_seq rfl ?_; refine S_seq rfl ?_; refine S_region rfl rfl ?_; refine R_take (T_loada (ds := [.slice (some ⟨gb, 0, none⟩) a.length (a.length + 2)]) rfl rfl rfl rfl (fun j v h => by simpa using h)) ?_ rfl rfl; (refine R_eff (E_rrightW rfl (wide_rd (g := gb)) ha9 hra) ?_ rfl rfl; rintro _ _ ⟨rfl, rfl⟩); refine R_take (T_not rfl) ?_ rfl rfl; refine R_nil ?_; refine S_false rfl rfl ?_; refine S_skip rfl ?_; refine S_seq rfl ?_; refine S_region rfl rfl ?_; refine R_p rfl ?_ rfl rfl; refine R_take (T_loada (ds := [.slice (some ⟨gb, 0, none⟩) a.length (a.length + 2)]) rfl rfl rfl rfl (fun j v h => by simpa using h)) ?_ rfl rfl; refine R_p rfl ?_ rfl rfl; (refine R_eff (E_rmajW (ms := a) (ks := xs) rfl rfl (wide_rd (g := gb)) (Srd.row (n := q1) (c := c5)) ha9 (by omega) hmm) ?_ rfl rfl; rintro _ _ ⟨rfl, rfl⟩); refine R_take (T_beqs (b := m1) rfl rfl rfl rfl) ?_ rfl rfl; refine R_p rfl ?_ rfl rfl; refine R_p rfl ?_ rfl rfl; refine R_take (T_loada (ds := [.slice (some ⟨gb, 0, none⟩) a.length (a.length + 2)]) rfl rfl rfl rfl (fun j v h => by simpa using h)) ?_ rfl rfl; refine R_p rfl ?_ rfl rfl; (refine R_eff (E_ragrW (ms := a) (L := ys) rfl rfl (wide_rd (g := gb)) (Srd.row (n := q2) (c := c6)) ha9 (by omega) hrv) ?_ rfl rfl; rintro _ _ ⟨rfl, rfl⟩); refine R_take (T_decT rfl rfl) ?_ rfl rfl; refine R_p rfl ?_ rfl rfl; refine R_p rfl ?_ rfl rfl; refine R_nil ?_)
    refine hB _ _ _ _ _ rfl rfl fun w' hS => ⟨(), rfl, trivial, hS.sublist (List.nil_sublist _)⟩
set_option maxRecDepth 100000 in
theorem open_mts {H : Type} {enc : TypeId × Value → H} {W : World} {r : Reach} {base : Nat} {v : Value} {d : DataW H} {p : List MemPlace}
    (hv : Value.okWide Try.prog W r base 52 v) (h : DataW.Trod enc Try.prog W 0 (fun _ => true) true 52 v d p) :
    ∃ A n c, ∃ L : List (Int × Nat), v = .slice A n c ∧ n ≤ c ∧ c ≤ maxLen ∧ Rd W All 2 A n (mtc L) := by
  obtain ⟨a0, len0, cap0, rfl⟩ := okWide_slice Try.underlying52 hv
  obtain ⟨A, n, c, xs, hcs, h1, h2, h3, h4⟩ := (Op_.of_trod h).slice Try.underlying52 (size := 2) (by kernel_rfl)
  simp [Value.cells] at hcs
  obtain ⟨rfl, rfl, rfl⟩ := hcs
  obtain ⟨L, _, rfl, _⟩ := rows_of (n := 0) (size := 2) (f := fun x : Int × Nat => [zv x.1, uv x.2]) (fun _ => rfl) (fun _ => True) _ _ h3.1 fun i hi => by
    obtain ⟨hl, hf⟩ := (h4 i hi).struct Try.underlying56
    have f0 : Op_ enc Try.prog W 3 (((((xs.drop (i * 2)).take 2).drop 0)).take (Try.prog.cellsOf 3)) := hf 0 _ rfl
    have f1 : Op_ enc Try.prog W 53 (((((xs.drop (i * 2)).take 2).drop 1)).take (Try.prog.cellsOf 53)) := hf 1 _ rfl
    have c2 : Try.prog.cellsOf 56 = 2 := by kernel_rfl
    have c1 : Try.prog.cellsOf 3 = 1 := by kernel_rfl
    have c3 : Try.prog.cellsOf 53 = 1 := by kernel_rfl
    rw [c1] at f0
    rw [c3] at f1
    rw [c2] at hl
    obtain ⟨a, ha, _⟩ := Op_.int Try.underlying3 f0
    obtain ⟨b, hb, hb2⟩ := Op_.int Try.underlying53 f1
    have hb3 := bounds_u64 hb2
    generalize (xs.drop (i * 2)).take 2 = cs at hl ha hb ⊢
    match cs, hl with
    | [u, v], _ =>
      simp at ha hb
      refine ⟨(a, b.toNat), ?_, trivial⟩
      rw [ha, hb]
      simp [zv, uv]
      omega
  exact ⟨_, _, _, L, rfl, h1, h2, h3⟩
theorem ConfAgrees_open {H : Type} {enc : TypeId × Value → H} (W : World) {r : Reach} (base : Nat) (v0 v1 v2 : Value) {d0 d1 d2 : DataW H} {p0 p1 p2 : List MemPlace}
    (hv0 : Value.okWide Try.prog W r base 24 v0) (hv1 : Value.okWide Try.prog W r base 22 v1) (hv2 : Value.okWide Try.prog W r base 52 v2)
    (h0 : DataW.Trod enc Try.prog W 0 (fun _ => true) true 24 v0 d0 p0) (h1 : DataW.Trod enc Try.prog W 0 (fun _ => true) true 22 v1 d1 p1) (h2 : DataW.Trod enc Try.prog W 0 (fun _ => true) true 52 v2 d2 p2) :
    Calls Try.prog 8 #[v0, v1, v2] W fun e w' => e = .returned (.bool true) ∧ Kp All W w' := by
  obtain ⟨k1, rfl, hk1⟩ := open_cf hv0 h0
  obtain ⟨A1, n1, c1', l1, rfl, g1, g2, g3⟩ := open_is hv1 h1
  obtain ⟨A2, n2, c2', L, rfl, e1, e2, e3⟩ := open_mts hv2 h2
  exact (agrees_any W k1 hk1 ⟨A1, n1, c1', l1⟩ ⟨g3, g1, g2⟩ A2 n2 c2' L e3 e1 e2).pure

open Go.RowKit Go.ChangeShapes Go.WideShapes Go.ChangeAt
open Asn (pt row rb)
set_option linter.unusedVariables false
set_option linter.unusedSimpArgs false
--@use N

theorem wrap_u64 (k : Int) : ∃ z : Nat, IntKind.u64.wrap k = (z : Int) := by
  refine ⟨(IntKind.u64.wrap k).toNat, ?_⟩
  have : 0 ≤ IntKind.u64.wrap k := by
    simp only [IntKind.wrap]
    simp [IntKind.signed, IntKind.bits]
    omega
  omega
theorem T_convU {P : Program} {n : Nat} {w0 : World} {M : Nat → Prop} {T : Slots} {H : List Asn} {dd : Option Tmp} {tt : TypeId} {pos : String} {af : Array Edge} {g : Option (Nat × Bool)} [HasTab P] {x : Operand} {s t : TypeId} {kk kd : IntKind} {z r : Int} {i j : Ti} (hr : kd.wrap z = r) (hx : oget T x = some (.int kk z)) (hs : ty P s = some i) (ht : ty P t = some j) (hj : j.desc = .int kd) :
    Tk P n w0 M T H ⟨dd, .convert s t x, tt, pos, af, g⟩ (.int kd r) := by
  subst hr
  exact T_conv hx hs ht hj
theorem mtc_set : ∀ (L : List (Int × Nat)) (r : Nat) (a : Int) (u b : Nat), r < L.length → L.getD r (0, 0) = (a, u) → (mtc L).set (r * 2 + 1) (uv b) = mtc (L.set r (a, b))
  | x :: L, 0, a, u, b, _, h => by
    simp only [List.getD_cons_zero] at h
    subst h
    rfl
  | x :: L, r + 1, a, u, b, hr, h => by
    have ih := mtc_set L r a u b (by simpa using hr) (by simpa using h)
    have e : (r + 1) * 2 + 1 = (r * 2 + 1) + 1 + 1 := by omega
    simp only [mtc, List.flatMap_cons] at ih ⊢
    rw [e]
    simp only [List.cons_append, List.nil_append, List.set_cons_succ, List.flatMap_cons]
    rw [ih]
/-- those from a place on -/
def hasL (v : Nat) (L : List (Int × Nat)) : List Int := (L.filter fun y => decide (v ≤ y.2)).map (·.1)
def morL (v : Nat) (L : List (Int × Nat)) : List Int := (L.filter fun y => decide (v < y.2)).map (·.1)
theorem has_next (v : Nat) (L : List (Int × Nat)) (j : Nat) (hj : j < L.length) : hasL v (L.take (j + 1)) = hasL v (L.take j) ++ if v ≤ (L.getD j (0, 0)).2 then [(L.getD j (0, 0)).1] else [] := by
  rw [hasL, List.take_succ_eq_append_getElem hj, List.filter_append, List.map_append]
  simp only [hasL, List.getD, List.getElem?_eq_getElem hj, Option.getD_some]
  by_cases h : v ≤ L[j].2 <;> simp [h, List.filter_cons]
theorem mor_next (v : Nat) (L : List (Int × Nat)) (j : Nat) (hj : j < L.length) : morL v (L.take (j + 1)) = morL v (L.take j) ++ if v < (L.getD j (0, 0)).2 then [(L.getD j (0, 0)).1] else [] := by
  rw [morL, List.take_succ_eq_append_getElem hj, List.filter_append, List.map_append]
  simp only [morL, List.getD, List.getElem?_eq_getElem hj, Option.getD_some]
  by_cases h : v < L[j].2 <;> simp [h, List.filter_cons]
theorem has_len (v : Nat) (L : List (Int × Nat)) : (hasL v L).length ≤ L.length := by
  rw [hasL, List.length_map]
  exact List.length_filter_le _ _
theorem mor_len (v : Nat) (L : List (Int × Nat)) : (morL v L).length ≤ L.length := by
  rw [morL, List.length_map]
  exact List.length_filter_le _ _
theorem ag_none {ms : List Int} {v : Nat} (h : IsAg (ms.map (idxN [])) v) : v = 0 := by
  obtain ⟨m, _, hm⟩ := List.mem_map.1 h.1
  rw [← hm]
  rfl
theorem ag_rise {ys : List (Int × Nat)} {ms : List Int} {v v2 r : Nat} {a : Int} {u : Nat} (hr : r < ys.length) (hy : ys.getD r (0, 0) = (a, u)) (h1 : IsAg (ms.map (idxN ys)) v) (h2 : IsAg (ms.map (idxN (ys.set r (a, u * 2)))) v2) : v ≤ v2 := by
  refine ag_mono (idx_mono fun x hx => ?_) h1 h2
  obtain ⟨i, hi, rfl⟩ := List.mem_iff_getElem.1 hx
  by_cases hir : r = i
  · subst hir
    refine ⟨(a, u * 2), List.mem_iff_getElem.2 ⟨r, by simpa using hi, by simp⟩, ?_⟩
    have : ys[r] = (a, u) := by simpa [List.getD, hi] using hy
    rw [this]
    exact ⟨rfl, by show u ≤ u * 2; omega⟩
  · exact ⟨ys[i], List.mem_iff_getElem.2 ⟨i, by simpa using hi, by simp [hir]⟩, rfl, Nat.le_refl _⟩
set_option maxRecDepth 100000 in
set_option maxHeartbeats 4000000 in
theorem rises_any (w : World) (k1 : Cf) (hk1 : k1.ok w) (A2 : Option Addr) (n2 c2 : Nat) (L : List (Int × Nat)) (hL : Rd w All 2 A2 n2 (mtc L)) (hn2 : n2 ≤ c2) (hc2 : c2 ≤ maxLen) (k : Int) :
    Gives Try.prog 9 [cfv k1.A k1.n k1.c, .slice A2 n2 c2, zv k] [] w (X := Unit) (fun _ => .bool true) (fun _ => True) (fun _ => []) := by
  refine gives_S Try.func9 rfl Try.ntmps9 Try.results9 (by simp) (St.enter w) (fun B hB => ?_)
  obtain ⟨hr1, hn1, hc1⟩ := hk1
  obtain ⟨k1A, k1n, k1c, k1ms⟩ := k1
  simp only [Cf.v] at hr1 hn1 hc1 ⊢
  obtain ⟨a, ha⟩ : ∃ a, k1ms.take 9 = a := ⟨_, rfl⟩
  have ha9 : a.length ≤ 900 := ha ▸ take9 _
  obtain ⟨q, hqq⟩ : ∃ q, min n2 12 = q := ⟨_, rfl⟩
  have hx2 := hL.head (k := q) (by omega)
  rw [← mtc_take] at hx2
  obtain ⟨ys, hys⟩ : ∃ ys, L.take q = ys := ⟨_, rfl⟩
  rw [hys] at hx2
  have hyl : ys.length = q := by have := hx2.1; rw [mtc_len] at this; omega
  have hq12 : q ≤ 12 := by omega
  unfold maxLen at hc2
  obtain ⟨e, he⟩ : ∃ e, chkE a = e := ⟨_, rfl⟩
  cases hra : right a
  · have he0 : e ≠ 0 := by rw [← he, chkE, hra]; decide
    focus (refine S_seq rfl ?_; refine S_region rfl rfl ?_; (refine R_eff (E_boxa rfl) ?_ rfl rfl; rintro _ _ ⟨b, rfl, rfl⟩); refine R_p rfl ?_ rfl rfl; refine R_nil ?_; refine S_seq rfl ?_; refine S_seq rfl ?_; refine S_region rfl rfl ?_; (refine R_eff (E_gv0 (f := 10) ⟨_, Try.func10, rfl, by kernel_rfl⟩ rfl (fun w hS => wakes_any w) (fun _ => rfl)) ?_ rfl rfl; rintro _ _ ⟨_, rfl, _, rfl⟩); refine R_take (T_not rfl) ?_ rfl rfl; refine R_nil ?_; refine S_false rfl rfl ?_; refine S_skip rfl ?_; refine S_seq rfl ?_; refine S_region rfl rfl ?_; refine R_take (T_loada (ds := [.slice k1A k1n k1c]) rfl rfl rfl rfl (fun j v h => by simpa using h)) ?_ rfl rfl; (refine R_eff (E_short (A := k1A) (m := k1n) (c := k1c) rfl (Srd.old hr1 (fun k _ => noOwns k)) hn1 hc1 ha) ?_ rfl rfl; rintro _ _ ⟨ga, rfl, rfl⟩); (refine R_eff0 (E_storew (cs := [.slice k1A k1n k1c]) rfl rfl rfl rfl (sl_one _ _ _) rfl) ?_ rfl; rintro _ _ rfl); refine R_nil ?_; refine S_seq rfl ?_; refine S_region rfl rfl ?_; (refine R_eff (E_litS (vs := []) (size := 2) (ds := []) rfl rfl rfl rfl rfl rfl (by simp) rfl (by omega)) ?_ rfl rfl; rintro _ _ ⟨bl4, rfl, rfl⟩); refine R_p rfl ?_ rfl rfl; refine R_p rfl ?_ rfl rfl; refine R_p rfl ?_ rfl rfl; refine R_take (T_minE hqq rfl rfl) ?_ rfl rfl; refine R_take (T_slhN rfl rfl rfl rfl rfl (by omega)) ?_ rfl rfl; (refine R_eff (E_apple (sz := 2) (m2 := q) (news := mtc ys) rfl rfl rfl rfl rfl rfl rfl (by decide) (by first | exact Rem.here | exact Rem.there Rem.here) (Srd.old hx2 (fun k _ => noOwns k)) (mtc_ones _) (by show q * 16 ≤ _; omega) (by unfold maxLen; omega)) ?_ rfl rfl; rintro _ _ ⟨A1, c1, rfl, rfl⟩); refine R_p rfl ?_ rfl rfl; refine R_nil ?_; refine S_seq rfl ?_; refine S_region rfl rfl ?_)
    focus (refine R_take (T_loada (ds := [.slice (some ⟨ga, 0, none⟩) a.length (a.length + 2)]) rfl rfl rfl rfl (fun j v h => by simpa using h)) ?_ rfl rfl; refine R_p rfl ?_ rfl rfl; (refine R_eff (E_agrW (ms := a) (L := ys) rfl rfl (wide_rd (g := ga)) (Srd.row (n := q) (c := c1)) ha9 (by omega)) ?_ rfl rfl; rintro _ _ ⟨v, rfl, hv, rfl⟩; rw [hra] at hv; obtain rfl : v = 0 := by simpa using hv); refine R_p rfl ?_ rfl rfl; refine R_nil ?_; refine S_seq rfl ?_; refine S_seq rfl ?_; refine S_region rfl rfl ?_; refine R_take (T_loada (ds := [.slice (some ⟨ga, 0, none⟩) a.length (a.length + 2)]) rfl rfl rfl rfl (fun j v h => by simpa using h)) ?_ rfl rfl; (refine R_eff (E_chkW rfl (wide_rd (g := ga)) ha9 he) ?_ rfl rfl; rintro _ _ ⟨rfl, rfl⟩); refine R_take (T_decT rfl he0) ?_ rfl rfl; refine R_nil ?_; refine S_true rfl rfl ?_; refine S_seq rfl ?_; refine S_region rfl rfl ?_; refine R_p rfl ?_ rfl rfl; refine R_take (T_decT rfl rfl) ?_ rfl rfl; refine R_p rfl ?_ rfl rfl; refine R_nil ?_)
    refine hB _ _ _ _ _ rfl rfl fun w' hS => ⟨(), rfl, trivial, hS.sublist (List.nil_sublist _)⟩
  have he0 : e = 0 := by rw [← he, chkE, hra]; rfl
  subst he0
  focus (refine S_seq rfl ?_; refine S_region rfl rfl ?_; (refine R_eff (E_boxa rfl) ?_ rfl rfl; rintro _ _ ⟨b, rfl, rfl⟩); refine R_p rfl ?_ rfl rfl; refine R_nil ?_; refine S_seq rfl ?_; refine S_seq rfl ?_; refine S_region rfl rfl ?_; (refine R_eff (E_gv0 (f := 10) ⟨_, Try.func10, rfl, by kernel_rfl⟩ rfl (fun w hS => wakes_any w) (fun _ => rfl)) ?_ rfl rfl; rintro _ _ ⟨_, rfl, _, rfl⟩); refine R_take (T_not rfl) ?_ rfl rfl; refine R_nil ?_; refine S_false rfl rfl ?_; refine S_skip rfl ?_; refine S_seq rfl ?_; refine S_region rfl rfl ?_; refine R_take (T_loada (ds := [.slice k1A k1n k1c]) rfl rfl rfl rfl (fun j v h => by simpa using h)) ?_ rfl rfl; (refine R_eff (E_short (A := k1A) (m := k1n) (c := k1c) rfl (Srd.old hr1 (fun k _ => noOwns k)) hn1 hc1 ha) ?_ rfl rfl; rintro _ _ ⟨ga, rfl, rfl⟩); (refine R_eff0 (E_storew (cs := [.slice k1A k1n k1c]) rfl rfl rfl rfl (sl_one _ _ _) rfl) ?_ rfl; rintro _ _ rfl); refine R_nil ?_; refine S_seq rfl ?_; refine S_region rfl rfl ?_; (refine R_eff (E_litS (vs := []) (size := 2) (ds := []) rfl rfl rfl rfl rfl rfl (by simp) rfl (by omega)) ?_ rfl rfl; rintro _ _ ⟨bl4, rfl, rfl⟩); refine R_p rfl ?_ rfl rfl; refine R_p rfl ?_ rfl rfl; refine R_p rfl ?_ rfl rfl; refine R_take (T_minE hqq rfl rfl) ?_ rfl rfl; refine R_take (T_slhN rfl rfl rfl rfl rfl (by omega)) ?_ rfl rfl; (refine R_eff (E_apple (sz := 2) (m2 := q) (news := mtc ys) rfl rfl rfl rfl rfl rfl rfl (by decide) (by first | exact Rem.here | exact Rem.there Rem.here) (Srd.old hx2 (fun k _ => noOwns k)) (mtc_ones _) (by show q * 16 ≤ _; omega) (by unfold maxLen; omega)) ?_ rfl rfl; rintro _ _ ⟨A1, c1, rfl, rfl⟩); refine R_p rfl ?_ rfl rfl; refine R_nil ?_; refine S_seq rfl ?_; refine S_region rfl rfl ?_)
  focus (refine R_take (T_loada (ds := [.slice (some ⟨ga, 0, none⟩) a.length (a.length + 2)]) rfl rfl rfl rfl (fun j v h => by simpa using h)) ?_ rfl rfl; refine R_p rfl ?_ rfl rfl; (refine R_eff (E_agrW (ms := a) (L := ys) rfl rfl (wide_rd (g := ga)) (Srd.row (n := q) (c := c1)) ha9 (by omega)) ?_ rfl rfl; rintro _ _ ⟨v, rfl, hv, rfl⟩; rw [hra] at hv; simp only [if_true] at hv); refine R_p rfl ?_ rfl rfl; refine R_nil ?_; refine S_seq rfl ?_; refine S_seq rfl ?_; refine S_region rfl rfl ?_; refine R_take (T_loada (ds := [.slice (some ⟨ga, 0, none⟩) a.length (a.length + 2)]) rfl rfl rfl rfl (fun j v h => by simpa using h)) ?_ rfl rfl; (refine R_eff (E_chkW rfl (wide_rd (g := ga)) ha9 he) ?_ rfl rfl; rintro _ _ ⟨rfl, rfl⟩); refine R_take (T_decF rfl (by simp)) ?_ rfl rfl; refine R_nil ?_; refine S_false rfl rfl ?_; refine S_skip rfl ?_; refine S_seq rfl ?_; refine S_region rfl rfl ?_; refine R_p rfl ?_ rfl rfl; refine R_p rfl ?_ rfl rfl; refine R_nil ?_; refine S_seq rfl ?_; refine S_seq rfl ?_; refine S_region rfl rfl ?_; refine R_p rfl ?_ rfl rfl; refine R_p rfl ?_ rfl rfl; refine R_p rfl ?_ rfl rfl; refine R_nil ?_; refine S_block rfl ?_)
  refine RS_row A1 q c1 fun _ _ hne1 _ => ?_
  refine S_loop (X := Nat × Option Addr × Nat × Option Addr × Nat) (fun x => [(1, .slice A1 q c1), (2, zv k), (3, .pointer (some ⟨b, 0, none⟩)), (7, uv v), (8, .slice x.2.1 (hasL v (ys.take x.1)).length x.2.2.1), (9, .slice x.2.2.2.1 (morL v (ys.take x.1)).length x.2.2.2.2), (32, .slice A1 q c1), (33, .int .i64 (q : Int)), (34, .int .i64 (x.1 : Int))]) (fun x => [row 3 1 x.2.1 (hasL v (ys.take x.1)).length x.2.2.1 ((hasL v (ys.take x.1)).map zv), row 3 1 x.2.2.2.1 (morL v (ys.take x.1)).length x.2.2.2.2 ((morL v (ys.take x.1)).map zv), row 56 2 A1 q c1 (mtc ys), pt b 24 [.slice (some ⟨ga, 0, none⟩) a.length (a.length + 2)], pt ga 3 (wide a)]) (fun x => x.1 ≤ q) (fun x => q - x.1) rfl (0, none, 0, none, 0) (Nat.zero_le _) (Sub.cons rfl (Sub.cons rfl (Sub.cons rfl (Sub.cons rfl (Sub.cons rfl (Sub.cons rfl (Sub.cons rfl (Sub.cons rfl (Sub.cons rfl Sub.nil))))))))) (fun w hS => sub_st (H' := [row 3 1 none 0 0 [], row 3 1 none 0 0 [], row 56 2 A1 q c1 (mtc ys), pt b 24 [.slice (some ⟨ga, 0, none⟩) a.length (a.length + 2)], pt ga 3 (wide a)]) w ((hS.nilrow 3 1).nilrow 3 1)) ?_
  rintro ⟨j, A8, c8, A9, c9⟩ hj J hJ
  simp only at hj ⊢
  have hnh := has_next v ys j
  have hnm := mor_next v ys j
  have hlh := has_len v (ys.take j)
  have hlm := mor_len v (ys.take j)
  obtain ⟨R8, hR8⟩ : ∃ R, hasL v (ys.take j) = R := ⟨_, rfl⟩
  obtain ⟨R9, hR9⟩ : ∃ R, morL v (ys.take j) = R := ⟨_, rfl⟩
  rw [hR8] at hnh hlh ⊢
  rw [hR9] at hnm hlm ⊢
  simp only [List.length_take] at hlh hlm
  have hR8l : R8.length ≤ 12 := by omega
  have hR9l : R9.length ≤ 12 := by omega
  rcases Nat.lt_or_ge j q with hjl | hjl
  · have hnh := hnh (by omega)
    have hnm := hnm (by omega)
    have hz := mtc_at ys j (by omega)
    have hne1 := hne1 (by omega)
    obtain ⟨⟨y, u⟩, hy⟩ : ∃ y, ys.getD j (0, 0) = y := ⟨_, rfl⟩
    rw [hy] at hz hnh hnm
    dsimp only at hz hnh hnm
    rcases Nat.lt_trichotomy u v with huv | huv | huv
    · rw [if_neg (by omega), List.append_nil] at hnh hnm
      focus (refine S_seq rfl ?_; refine S_region rfl rfl ?_; refine R_take (T_decT rfl (by omega)) ?_ rfl rfl; refine R_nil ?_; refine S_seq rfl ?_; refine S_true rfl rfl ?_; refine S_skip rfl ?_; refine S_seq rfl ?_; refine S_block rfl ?_; refine S_seq rfl ?_; refine S_region rfl rfl ?_; refine R_take (T_ixM (sz := 2) rfl rfl rfl rfl rfl rfl hne1 hjl) ?_ rfl rfl; refine R_take (T_lda (ds := [zv y, uv u]) rfl rfl rfl (Srd.row (n := q) (c := c1)) rfl (by omega) hz) ?_ rfl rfl; (refine R_eff (E_alloca rfl mt_alloc) ?_ rfl rfl; rintro _ _ ⟨b7, rfl, rfl⟩); (refine R_eff0 (E_storew (cs := [zv 0, uv 0]) rfl rfl rfl rfl (mt_one _ _) rfl) ?_ rfl; rintro _ _ rfl); refine R_nil ?_; refine S_seq rfl ?_; refine S_seq rfl ?_; refine S_region rfl rfl ?_; refine R_p rfl ?_ rfl rfl; refine R_take (T_load rfl rfl rfl (by first | rfl | assumption)) ?_ rfl rfl; refine R_p rfl ?_ rfl rfl; refine R_take (T_decF rfl (by show ¬ (_ : Int) ≥ _; omega)) ?_ rfl rfl; refine R_nil ?_; refine S_false rfl rfl ?_; refine S_skip rfl ?_; refine S_seq rfl ?_; refine S_region rfl rfl ?_; refine R_p rfl ?_ rfl rfl; refine R_take (T_load rfl rfl rfl (by first | rfl | assumption)) ?_ rfl rfl; refine R_p rfl ?_ rfl rfl; refine R_take (T_decF rfl (by show ¬ (_ : Int) ≥ _; omega)) ?_ rfl rfl; refine R_nil ?_; refine S_false rfl rfl ?_; refine S_skip rfl ?_; refine RS_blk ?_; refine S_region rfl rfl ?_; refine R_take (T_addN rfl rfl (by unfold fits; omega)) ?_ rfl rfl; refine R_p rfl ?_ rfl rfl; refine R_nil ?_)
      refine hJ (j + 1, A8, c8, A9, c9) _ _ (by show j + 1 ≤ _; omega) ?_ (fun w' hS => ?_) (by show q - (j + 1) < _; omega)
      · dsimp only
        rw [hnh, hnm]
        exact (Sub.cons rfl (Sub.cons rfl (Sub.cons rfl (Sub.cons rfl (Sub.cons rfl (Sub.cons rfl (Sub.cons rfl (Sub.cons rfl (Sub.cons rfl Sub.nil)))))))))
      · dsimp only
        rw [hnh, hnm]
        exact sub_st w' hS
    · rw [if_pos (by omega)] at hnh
      rw [if_neg (by omega), List.append_nil] at hnm
      have e1 : (R8 ++ [y]).length = R8.length + 1 := by simp
      focus (refine S_seq rfl ?_; refine S_region rfl rfl ?_; refine R_take (T_decT rfl (by omega)) ?_ rfl rfl; refine R_nil ?_; refine S_seq rfl ?_; refine S_true rfl rfl ?_; refine S_skip rfl ?_; refine S_seq rfl ?_; refine S_block rfl ?_; refine S_seq rfl ?_; refine S_region rfl rfl ?_; refine R_take (T_ixM (sz := 2) rfl rfl rfl rfl rfl rfl hne1 hjl) ?_ rfl rfl; refine R_take (T_lda (ds := [zv y, uv u]) rfl rfl rfl (Srd.row (n := q) (c := c1)) rfl (by omega) hz) ?_ rfl rfl; (refine R_eff (E_alloca rfl mt_alloc) ?_ rfl rfl; rintro _ _ ⟨b7, rfl, rfl⟩); (refine R_eff0 (E_storew (cs := [zv 0, uv 0]) rfl rfl rfl rfl (mt_one _ _) rfl) ?_ rfl; rintro _ _ rfl); refine R_nil ?_; refine S_seq rfl ?_; refine S_seq rfl ?_; refine S_region rfl rfl ?_; refine R_p rfl ?_ rfl rfl; refine R_take (T_load rfl rfl rfl (by first | rfl | assumption)) ?_ rfl rfl; refine R_p rfl ?_ rfl rfl; refine R_take (T_decT rfl (by omega)) ?_ rfl rfl; refine R_nil ?_; refine S_true rfl rfl ?_; refine S_region rfl rfl ?_; refine R_p rfl ?_ rfl rfl; refine R_p rfl ?_ rfl rfl; refine R_take (T_load rfl rfl rfl (by first | rfl | assumption)) ?_ rfl rfl; (refine R_eff (E_lit1 (m := 1) (vs := [zv y]) rfl rfl rfl rfl rfl rfl rfl (by simp [zv, Value.oneCell']) (by decide)) ?_ rfl rfl; rintro _ _ ⟨bx, rfl, rfl⟩); (refine R_eff (E_app1 (m := R8.length) (c := c8) rfl rfl rfl rfl rfl rfl rfl (Srd.pt (ds := [zv y]) rfl (fun j u hj => by rw [Nat.zero_add]; exact hj)) (by simp [zv, Value.oneCell']) (by show _ * 8 ≤ _; omega) (by unfold maxLen; omega)) ?_ rfl rfl; rintro _ _ ⟨A7, c7, rfl, rfl⟩); refine R_p rfl ?_ rfl rfl; refine R_nil ?_; refine S_seq rfl ?_; refine S_region rfl rfl ?_; refine R_p rfl ?_ rfl rfl; refine R_take (T_load rfl rfl rfl (by first | rfl | assumption)) ?_ rfl rfl; refine R_p rfl ?_ rfl rfl; refine R_take (T_decF rfl (by show ¬ (_ : Int) > _; omega)) ?_ rfl rfl; refine R_nil ?_; refine S_false rfl rfl ?_; refine S_skip rfl ?_; refine RS_blk ?_; refine S_region rfl rfl ?_; refine R_take (T_addN rfl rfl (by unfold fits; omega)) ?_ rfl rfl; refine R_p rfl ?_ rfl rfl; refine R_nil ?_)
      refine hJ (j + 1, A7, c7, A9, c9) _ _ (by show j + 1 ≤ _; omega) ?_ (fun w' hS => ?_) (by show q - (j + 1) < _; omega)
      · dsimp only
        rw [hnh, hnm, e1]
        exact (Sub.cons rfl (Sub.cons rfl (Sub.cons rfl (Sub.cons rfl (Sub.cons rfl (Sub.cons rfl (Sub.cons rfl (Sub.cons rfl (Sub.cons rfl Sub.nil)))))))))
      · dsimp only
        rw [hnh, hnm, e1, List.map_append, List.map_cons, List.map_nil]
        exact sub_st w' hS
    · rw [if_pos (by omega)] at hnh hnm
      have e1 : (R8 ++ [y]).length = R8.length + 1 := by simp
      have e2 : (R9 ++ [y]).length = R9.length + 1 := by simp
      focus (refine S_seq rfl ?_; refine S_region rfl rfl ?_; refine R_take (T_decT rfl (by omega)) ?_ rfl rfl; refine R_nil ?_; refine S_seq rfl ?_; refine S_true rfl rfl ?_; refine S_skip rfl ?_; refine S_seq rfl ?_; refine S_block rfl ?_; refine S_seq rfl ?_; refine S_region rfl rfl ?_; refine R_take (T_ixM (sz := 2) rfl rfl rfl rfl rfl rfl hne1 hjl) ?_ rfl rfl; refine R_take (T_lda (ds := [zv y, uv u]) rfl rfl rfl (Srd.row (n := q) (c := c1)) rfl (by omega) hz) ?_ rfl rfl; (refine R_eff (E_alloca rfl mt_alloc) ?_ rfl rfl; rintro _ _ ⟨b7, rfl, rfl⟩); (refine R_eff0 (E_storew (cs := [zv 0, uv 0]) rfl rfl rfl rfl (mt_one _ _) rfl) ?_ rfl; rintro _ _ rfl); refine R_nil ?_; refine S_seq rfl ?_; refine S_seq rfl ?_; refine S_region rfl rfl ?_; refine R_p rfl ?_ rfl rfl; refine R_take (T_load rfl rfl rfl (by first | rfl | assumption)) ?_ rfl rfl; refine R_p rfl ?_ rfl rfl; refine R_take (T_decT rfl (by omega)) ?_ rfl rfl; refine R_nil ?_; refine S_true rfl rfl ?_; refine S_region rfl rfl ?_; refine R_p rfl ?_ rfl rfl; refine R_p rfl ?_ rfl rfl; refine R_take (T_load rfl rfl rfl (by first | rfl | assumption)) ?_ rfl rfl; (refine R_eff (E_lit1 (m := 1) (vs := [zv y]) rfl rfl rfl rfl rfl rfl rfl (by simp [zv, Value.oneCell']) (by decide)) ?_ rfl rfl; rintro _ _ ⟨bx, rfl, rfl⟩); (refine R_eff (E_app1 (m := R8.length) (c := c8) rfl rfl rfl rfl rfl rfl rfl (Srd.pt (ds := [zv y]) rfl (fun j u hj => by rw [Nat.zero_add]; exact hj)) (by simp [zv, Value.oneCell']) (by show _ * 8 ≤ _; omega) (by unfold maxLen; omega)) ?_ rfl rfl; rintro _ _ ⟨A7, c7, rfl, rfl⟩); refine R_p rfl ?_ rfl rfl; refine R_nil ?_; refine S_seq rfl ?_; refine S_region rfl rfl ?_; refine R_p rfl ?_ rfl rfl; refine R_take (T_load rfl rfl rfl (by first | rfl | assumption)) ?_ rfl rfl; refine R_p rfl ?_ rfl rfl; refine R_take (T_decT rfl (by omega)) ?_ rfl rfl; refine R_nil ?_; refine S_true rfl rfl ?_; refine S_region rfl rfl ?_; refine R_p rfl ?_ rfl rfl; refine R_p rfl ?_ rfl rfl; refine R_take (T_load rfl rfl rfl (by first | rfl | assumption)) ?_ rfl rfl; (refine R_eff (E_lit1 (m := 1) (vs := [zv y]) rfl rfl rfl rfl rfl rfl rfl (by simp [zv, Value.oneCell']) (by decide)) ?_ rfl rfl; rintro _ _ ⟨bx, rfl, rfl⟩); (refine R_eff (E_app1 (m := R9.length) (c := c9) rfl rfl rfl rfl rfl rfl rfl (Srd.pt (ds := [zv y]) rfl (fun j u hj => by rw [Nat.zero_add]; exact hj)) (by simp [zv, Value.oneCell']) (by show _ * 8 ≤ _; omega) (by unfold maxLen; omega)) ?_ rfl rfl; rintro _ _ ⟨A10, c10, rfl, rfl⟩); refine R_p rfl ?_ rfl rfl; refine R_nil ?_; refine RS_blk ?_; refine S_region rfl rfl ?_; refine R_take (T_addN rfl rfl (by unfold fits; omega)) ?_ rfl rfl; refine R_p rfl ?_ rfl rfl; refine R_nil ?_)
      refine hJ (j + 1, A7, c7, A10, c10) _ _ (by show j + 1 ≤ _; omega) ?_ (fun w' hS => ?_) (by show q - (j + 1) < _; omega)
      · dsimp only
        rw [hnh, hnm, e1, e2]
        exact (Sub.cons rfl (Sub.cons rfl (Sub.cons rfl (Sub.cons rfl (Sub.cons rfl (Sub.cons rfl (Sub.cons rfl (Sub.cons rfl (Sub.cons rfl Sub.nil)))))))))
      · dsimp only
        rw [hnh, hnm, e1, e2, List.map_append, List.map_append, List.map_cons, List.map_nil]
        exact sub_st w' hS
  have hjq : j = q := by omega
  subst hjq
  rw [← hyl, List.take_length] at hR8 hR9
  have hM8 : 0 < v → majB a R8 = true := fun h => by rw [← hR8]; exact ag_has hra h hv
  have hM9 : majB a R9 = false := by rw [← hR9]; exact ag_more hv
  have hv0 : j = 0 → v = 0 := fun h => by
    have : ys = [] := List.eq_nil_of_length_eq_zero (by omega)
    subst this
    exact ag_none hv
  have hjn : ¬ (j : Int) < (j : Int) := by omega
  clear hj hnh hnm hlh hlm hjl hJ
  rcases Nat.eq_zero_or_pos j with hj0 | hj0
  · obtain rfl := hv0 hj0
    focus (refine S_seq rfl ?_; refine S_region rfl rfl ?_; refine R_take (T_decF rfl (by omega)) ?_ rfl rfl; refine R_nil ?_; refine S_seq rfl ?_; refine S_false rfl rfl ?_; refine S_exit rfl rfl ?_; refine S_seq rfl ?_; refine S_seq rfl ?_; refine S_region rfl rfl ?_; refine R_p rfl ?_ rfl rfl; refine R_take (T_decF rfl (by omega)) ?_ rfl rfl; refine R_p rfl ?_ rfl rfl; refine R_skip ?_ rfl rfl; refine R_skip ?_ rfl rfl; refine R_skip ?_ rfl rfl; refine R_skip ?_ rfl rfl; refine R_p rfl ?_ rfl rfl; refine R_p rfl ?_ rfl rfl; refine R_take (T_loada (ds := [.slice (some ⟨ga, 0, none⟩) a.length (a.length + 2)]) rfl rfl rfl rfl (fun j v h => by simpa using h)) ?_ rfl rfl; refine R_p rfl ?_ rfl rfl; (refine R_eff (E_majW (ms := a) (ks := R9) rfl rfl (wide_rd (g := ga)) (Srd.row (n := R9.length) (c := c9)) ha9 (by omega) hM9) ?_ rfl rfl; rintro _ _ ⟨rfl, rfl⟩); refine R_p rfl ?_ rfl rfl; refine R_nil ?_; refine S_false rfl rfl ?_; refine S_skip rfl ?_; refine S_seq rfl ?_; refine S_seq rfl ?_; refine S_region rfl rfl ?_; refine R_p rfl ?_ rfl rfl; refine R_p rfl ?_ rfl rfl; refine R_take (T_decT rfl (by omega)) ?_ rfl rfl; refine R_nil ?_; refine S_true rfl rfl ?_; refine S_seq rfl ?_; refine S_region rfl rfl ?_; refine R_p rfl ?_ rfl rfl; refine R_take (T_decT rfl (by omega)) ?_ rfl rfl; refine R_p rfl ?_ rfl rfl; refine R_nil ?_)
    refine hB _ _ _ _ _ rfl rfl fun w' hS => ⟨(), rfl, trivial, hS.sublist (List.nil_sublist _)⟩
  have hne1 := hne1 hj0
  obtain ⟨z, hz⟩ := wrap_u64 k
  have hzr : z % j < j := Nat.mod_lt _ hj0
  have hat := mtc_at ys (z % j) (by omega)
  obtain ⟨⟨y, u⟩, hy⟩ : ∃ y, ys.getD (z % j) (0, 0) = y := ⟨_, rfl⟩
  rw [hy] at hat
  have hat : (mtc ys)[z % j * 2 + 1]? = some (uv u) := hat 1 _ rfl
  have hst := mtc_set ys (z % j) y u (u * 2) (by omega) hy
  by_cases hu : u < 9223372036854775808
  · rcases Nat.eq_zero_or_pos v with hv1 | hv1
    · skip
      focus (refine S_seq rfl ?_; refine S_region rfl rfl ?_; refine R_take (T_decF rfl (by omega)) ?_ rfl rfl; refine R_nil ?_; refine S_seq rfl ?_; refine S_false rfl rfl ?_; refine S_exit rfl rfl ?_; refine S_seq rfl ?_; refine S_seq rfl ?_; refine S_region rfl rfl ?_; refine R_p rfl ?_ rfl rfl; refine R_take (T_decF rfl (by omega)) ?_ rfl rfl; refine R_p rfl ?_ rfl rfl; refine R_skip ?_ rfl rfl; refine R_skip ?_ rfl rfl; refine R_skip ?_ rfl rfl; refine R_skip ?_ rfl rfl; refine R_p rfl ?_ rfl rfl; refine R_p rfl ?_ rfl rfl; refine R_take (T_loada (ds := [.slice (some ⟨ga, 0, none⟩) a.length (a.length + 2)]) rfl rfl rfl rfl (fun j v h => by simpa using h)) ?_ rfl rfl; refine R_p rfl ?_ rfl rfl; (refine R_eff (E_majW (ms := a) (ks := R9) rfl rfl (wide_rd (g := ga)) (Srd.row (n := R9.length) (c := c9)) ha9 (by omega) hM9) ?_ rfl rfl; rintro _ _ ⟨rfl, rfl⟩); refine R_p rfl ?_ rfl rfl; refine R_nil ?_; refine S_false rfl rfl ?_; refine S_skip rfl ?_; refine S_seq rfl ?_; refine S_seq rfl ?_; refine S_region rfl rfl ?_; refine R_p rfl ?_ rfl rfl; refine R_p rfl ?_ rfl rfl; refine R_take (T_decF rfl (by omega)) ?_ rfl rfl; refine R_nil ?_; refine S_false rfl rfl ?_; refine S_skip rfl ?_; refine S_seq rfl ?_; refine S_region rfl rfl ?_; refine R_p rfl ?_ rfl rfl; refine R_p rfl ?_ rfl rfl; refine R_take (T_convU hz rfl rfl rfl rfl) ?_ rfl rfl; refine R_p rfl ?_ rfl rfl; refine R_p rfl ?_ rfl rfl; refine R_take (T_convf rfl rfl rfl rfl (by unfold fits; omega)) ?_ rfl rfl; refine R_take (T_modN rfl rfl (by omega)) ?_ rfl rfl; refine R_take (T_convf rfl rfl rfl rfl (by unfold fits; omega)) ?_ rfl rfl; refine R_take (T_ixM (sz := 2) rfl rfl rfl rfl rfl rfl hne1 hzr) ?_ rfl rfl; refine R_p rfl ?_ rfl rfl; refine R_nil ?_; refine S_seq rfl ?_; refine S_seq rfl ?_; refine S_region rfl rfl ?_; refine R_p rfl ?_ rfl rfl; refine R_take (T_nilP rfl hne1) ?_ rfl rfl; refine R_take (T_fap rfl rfl rfl rfl rfl hne1) ?_ rfl rfl; refine R_take (T_ldr rfl rfl rfl (Srd.row (n := j) (c := c1)) (by omega) hat) ?_ rfl rfl; refine R_take (T_decT rfl (by omega)) ?_ rfl rfl; refine R_nil ?_; refine S_true rfl rfl ?_; refine S_region rfl rfl ?_; refine R_p rfl ?_ rfl rfl; refine R_take (T_nilP rfl hne1) ?_ rfl rfl; refine R_take (T_fap rfl rfl rfl rfl rfl hne1) ?_ rfl rfl; refine R_take (T_ldr rfl rfl rfl (Srd.row (n := j) (c := c1)) (by omega) hat) ?_ rfl rfl; refine R_take (T_mulN rfl rfl (by unfold fits; omega)) ?_ rfl rfl; refine R_take (T_nilP rfl hne1) ?_ rfl rfl; refine R_take (T_fap rfl rfl rfl rfl rfl hne1) ?_ rfl rfl; (refine R_eff0 (E_storeRS (sz := 2) (m := j) (c := c1) (A := A1) (xs := mtc ys) (v := uv (u * 2)) rfl rfl rfl rfl rfl (by rw [mtc_len]; omega)) ?_ rfl; rintro _ _ rfl; rw [hst]); refine R_nil ?_; refine S_seq rfl ?_; refine S_region rfl rfl ?_; refine R_take (T_loada (ds := [.slice (some ⟨ga, 0, none⟩) a.length (a.length + 2)]) rfl rfl rfl rfl (fun j v h => by simpa using h)) ?_ rfl rfl; refine R_p rfl ?_ rfl rfl; (refine R_eff (E_agrW (ms := a) (L := ys.set (z % j) (y, u * 2)) rfl rfl (wide_rd (g := ga)) (Srd.row (n := j) (c := c1)) ha9 (by omega)) ?_ rfl rfl; rintro _ _ ⟨v2, rfl, hv2, rfl⟩; rw [hra, if_pos rfl] at hv2; have hle : v ≤ v2 := ag_rise (by omega) hy hv hv2); refine R_p rfl ?_ rfl rfl; refine R_take (T_decT rfl (by omega)) ?_ rfl rfl; refine R_p rfl ?_ rfl rfl; refine R_nil ?_)
      all_goals (refine hB _ _ _ _ _ rfl rfl fun w' hS => ⟨(), rfl, trivial, hS.sublist (List.nil_sublist _)⟩)
    · skip
      focus (refine S_seq rfl ?_; refine S_region rfl rfl ?_; refine R_take (T_decF rfl (by omega)) ?_ rfl rfl; refine R_nil ?_; refine S_seq rfl ?_; refine S_false rfl rfl ?_; refine S_exit rfl rfl ?_; refine S_seq rfl ?_; refine S_seq rfl ?_; refine S_region rfl rfl ?_; refine R_p rfl ?_ rfl rfl; refine R_take (T_decT rfl (by omega)) ?_ rfl rfl; refine R_p rfl ?_ rfl rfl; refine R_take (T_loada (ds := [.slice (some ⟨ga, 0, none⟩) a.length (a.length + 2)]) rfl rfl rfl rfl (fun j v h => by simpa using h)) ?_ rfl rfl; refine R_p rfl ?_ rfl rfl; (refine R_eff (E_majW (ms := a) (ks := R8) rfl rfl (wide_rd (g := ga)) (Srd.row (n := R8.length) (c := c8)) ha9 (by omega) (hM8 (by omega))) ?_ rfl rfl; rintro _ _ ⟨rfl, rfl⟩); refine R_take (T_not rfl) ?_ rfl rfl; refine R_p rfl ?_ rfl rfl; refine R_p rfl ?_ rfl rfl; refine R_take (T_loada (ds := [.slice (some ⟨ga, 0, none⟩) a.length (a.length + 2)]) rfl rfl rfl rfl (fun j v h => by simpa using h)) ?_ rfl rfl; refine R_p rfl ?_ rfl rfl; (refine R_eff (E_majW (ms := a) (ks := R9) rfl rfl (wide_rd (g := ga)) (Srd.row (n := R9.length) (c := c9)) ha9 (by omega) hM9) ?_ rfl rfl; rintro _ _ ⟨rfl, rfl⟩); refine R_p rfl ?_ rfl rfl; refine R_nil ?_; refine S_false rfl rfl ?_; refine S_skip rfl ?_; refine S_seq rfl ?_; refine S_seq rfl ?_; refine S_region rfl rfl ?_; refine R_p rfl ?_ rfl rfl; refine R_p rfl ?_ rfl rfl; refine R_take (T_decF rfl (by omega)) ?_ rfl rfl; refine R_nil ?_; refine S_false rfl rfl ?_; refine S_skip rfl ?_; refine S_seq rfl ?_; refine S_region rfl rfl ?_; refine R_p rfl ?_ rfl rfl; refine R_p rfl ?_ rfl rfl; refine R_take (T_convU hz rfl rfl rfl rfl) ?_ rfl rfl; refine R_p rfl ?_ rfl rfl; refine R_p rfl ?_ rfl rfl; refine R_take (T_convf rfl rfl rfl rfl (by unfold fits; omega)) ?_ rfl rfl; refine R_take (T_modN rfl rfl (by omega)) ?_ rfl rfl; refine R_take (T_convf rfl rfl rfl rfl (by unfold fits; omega)) ?_ rfl rfl; refine R_take (T_ixM (sz := 2) rfl rfl rfl rfl rfl rfl hne1 hzr) ?_ rfl rfl; refine R_p rfl ?_ rfl rfl; refine R_nil ?_; refine S_seq rfl ?_; refine S_seq rfl ?_; refine S_region rfl rfl ?_; refine R_p rfl ?_ rfl rfl; refine R_take (T_nilP rfl hne1) ?_ rfl rfl; refine R_take (T_fap rfl rfl rfl rfl rfl hne1) ?_ rfl rfl; refine R_take (T_ldr rfl rfl rfl (Srd.row (n := j) (c := c1)) (by omega) hat) ?_ rfl rfl; refine R_take (T_decT rfl (by omega)) ?_ rfl rfl; refine R_nil ?_; refine S_true rfl rfl ?_; refine S_region rfl rfl ?_; refine R_p rfl ?_ rfl rfl; refine R_take (T_nilP rfl hne1) ?_ rfl rfl; refine R_take (T_fap rfl rfl rfl rfl rfl hne1) ?_ rfl rfl; refine R_take (T_ldr rfl rfl rfl (Srd.row (n := j) (c := c1)) (by omega) hat) ?_ rfl rfl; refine R_take (T_mulN rfl rfl (by unfold fits; omega)) ?_ rfl rfl; refine R_take (T_nilP rfl hne1) ?_ rfl rfl; refine R_take (T_fap rfl rfl rfl rfl rfl hne1) ?_ rfl rfl; (refine R_eff0 (E_storeRS (sz := 2) (m := j) (c := c1) (A := A1) (xs := mtc ys) (v := uv (u * 2)) rfl rfl rfl rfl rfl (by rw [mtc_len]; omega)) ?_ rfl; rintro _ _ rfl; rw [hst]); refine R_nil ?_; refine S_seq rfl ?_; refine S_region rfl rfl ?_; refine R_take (T_loada (ds := [.slice (some ⟨ga, 0, none⟩) a.length (a.length + 2)]) rfl rfl rfl rfl (fun j v h => by simpa using h)) ?_ rfl rfl; refine R_p rfl ?_ rfl rfl; (refine R_eff (E_agrW (ms := a) (L := ys.set (z % j) (y, u * 2)) rfl rfl (wide_rd (g := ga)) (Srd.row (n := j) (c := c1)) ha9 (by omega)) ?_ rfl rfl; rintro _ _ ⟨v2, rfl, hv2, rfl⟩; rw [hra, if_pos rfl] at hv2; have hle : v ≤ v2 := ag_rise (by omega) hy hv hv2); refine R_p rfl ?_ rfl rfl; refine R_take (T_decT rfl (by omega)) ?_ rfl rfl; refine R_p rfl ?_ rfl rfl; refine R_nil ?_)
      all_goals (refine hB _ _ _ _ _ rfl rfl fun w' hS => ⟨(), rfl, trivial, hS.sublist (List.nil_sublist _)⟩)
  · rcases Nat.eq_zero_or_pos v with hv1 | hv1
    · skip
      focus (refine S_seq rfl ?_; refine S_region rfl rfl ?_; refine R_take (T_decF rfl (by omega)) ?_ rfl rfl; refine R_nil ?_; refine S_seq rfl ?_; refine S_false rfl rfl ?_; refine S_exit rfl rfl ?_; refine S_seq rfl ?_; refine S_seq rfl ?_; refine S_region rfl rfl ?_; refine R_p rfl ?_ rfl rfl; refine R_take (T_decF rfl (by omega)) ?_ rfl rfl; refine R_p rfl ?_ rfl rfl; refine R_skip ?_ rfl rfl; refine R_skip ?_ rfl rfl; refine R_skip ?_ rfl rfl; refine R_skip ?_ rfl rfl; refine R_p rfl ?_ rfl rfl; refine R_p rfl ?_ rfl rfl; refine R_take (T_loada (ds := [.slice (some ⟨ga, 0, none⟩) a.length (a.length + 2)]) rfl rfl rfl rfl (fun j v h => by simpa using h)) ?_ rfl rfl; refine R_p rfl ?_ rfl rfl; (refine R_eff (E_majW (ms := a) (ks := R9) rfl rfl (wide_rd (g := ga)) (Srd.row (n := R9.length) (c := c9)) ha9 (by omega) hM9) ?_ rfl rfl; rintro _ _ ⟨rfl, rfl⟩); refine R_p rfl ?_ rfl rfl; refine R_nil ?_; refine S_false rfl rfl ?_; refine S_skip rfl ?_; refine S_seq rfl ?_; refine S_seq rfl ?_; refine S_region rfl rfl ?_; refine R_p rfl ?_ rfl rfl; refine R_p rfl ?_ rfl rfl; refine R_take (T_decF rfl (by omega)) ?_ rfl rfl; refine R_nil ?_; refine S_false rfl rfl ?_; refine S_skip rfl ?_; refine S_seq rfl ?_; refine S_region rfl rfl ?_; refine R_p rfl ?_ rfl rfl; refine R_p rfl ?_ rfl rfl; refine R_take (T_convU hz rfl rfl rfl rfl) ?_ rfl rfl; refine R_p rfl ?_ rfl rfl; refine R_p rfl ?_ rfl rfl; refine R_take (T_convf rfl rfl rfl rfl (by unfold fits; omega)) ?_ rfl rfl; refine R_take (T_modN rfl rfl (by omega)) ?_ rfl rfl; refine R_take (T_convf rfl rfl rfl rfl (by unfold fits; omega)) ?_ rfl rfl; refine R_take (T_ixM (sz := 2) rfl rfl rfl rfl rfl rfl hne1 hzr) ?_ rfl rfl; refine R_p rfl ?_ rfl rfl; refine R_nil ?_; refine S_seq rfl ?_; refine S_seq rfl ?_; refine S_region rfl rfl ?_; refine R_p rfl ?_ rfl rfl; refine R_take (T_nilP rfl hne1) ?_ rfl rfl; refine R_take (T_fap rfl rfl rfl rfl rfl hne1) ?_ rfl rfl; refine R_take (T_ldr rfl rfl rfl (Srd.row (n := j) (c := c1)) (by omega) hat) ?_ rfl rfl; refine R_take (T_decF rfl (by omega)) ?_ rfl rfl; refine R_nil ?_; refine S_false rfl rfl ?_; refine S_skip rfl ?_; refine S_seq rfl ?_; refine S_region rfl rfl ?_; refine R_take (T_loada (ds := [.slice (some ⟨ga, 0, none⟩) a.length (a.length + 2)]) rfl rfl rfl rfl (fun j v h => by simpa using h)) ?_ rfl rfl; refine R_p rfl ?_ rfl rfl; (refine R_eff (E_agrW (ms := a) (L := ys) rfl rfl (wide_rd (g := ga)) (Srd.row (n := j) (c := c1)) ha9 (by omega)) ?_ rfl rfl; rintro _ _ ⟨v2, rfl, hv2, rfl⟩; rw [hra, if_pos rfl] at hv2; have hle : v ≤ v2 := ag_mono (fun _ => Nat.le_refl _) hv hv2); refine R_p rfl ?_ rfl rfl; refine R_take (T_decT rfl (by omega)) ?_ rfl rfl; refine R_p rfl ?_ rfl rfl; refine R_nil ?_)
      all_goals (refine hB _ _ _ _ _ rfl rfl fun w' hS => ⟨(), rfl, trivial, hS.sublist (List.nil_sublist _)⟩)
    · skip
      focus (refine S_seq rfl ?_; refine S_region rfl rfl ?_; refine R_take (T_decF rfl (by omega)) ?_ rfl rfl; refine R_nil ?_; refine S_seq rfl ?_; refine S_false rfl rfl ?_; refine S_exit rfl rfl ?_; refine S_seq rfl ?_; refine S_seq rfl ?_; refine S_region rfl rfl ?_; refine R_p rfl ?_ rfl rfl; refine R_take (T_decT rfl (by omega)) ?_ rfl rfl; refine R_p rfl ?_ rfl rfl; refine R_take (T_loada (ds := [.slice (some ⟨ga, 0, none⟩) a.length (a.length + 2)]) rfl rfl rfl rfl (fun j v h => by simpa using h)) ?_ rfl rfl; refine R_p rfl ?_ rfl rfl; (refine R_eff (E_majW (ms := a) (ks := R8) rfl rfl (wide_rd (g := ga)) (Srd.row (n := R8.length) (c := c8)) ha9 (by omega) (hM8 (by omega))) ?_ rfl rfl; rintro _ _ ⟨rfl, rfl⟩); refine R_take (T_not rfl) ?_ rfl rfl; refine R_p rfl ?_ rfl rfl; refine R_p rfl ?_ rfl rfl; refine R_take (T_loada (ds := [.slice (some ⟨ga, 0, none⟩) a.length (a.length + 2)]) rfl rfl rfl rfl (fun j v h => by simpa using h)) ?_ rfl rfl; refine R_p rfl ?_ rfl rfl; (refine R_eff (E_majW (ms := a) (ks := R9) rfl rfl (wide_rd (g := ga)) (Srd.row (n := R9.length) (c := c9)) ha9 (by omega) hM9) ?_ rfl rfl; rintro _ _ ⟨rfl, rfl⟩); refine R_p rfl ?_ rfl rfl; refine R_nil ?_; refine S_false rfl rfl ?_; refine S_skip rfl ?_; refine S_seq rfl ?_; refine S_seq rfl ?_; refine S_region rfl rfl ?_; refine R_p rfl ?_ rfl rfl; refine R_p rfl ?_ rfl rfl; refine R_take (T_decF rfl (by omega)) ?_ rfl rfl; refine R_nil ?_; refine S_false rfl rfl ?_; refine S_skip rfl ?_; refine S_seq rfl ?_; refine S_region rfl rfl ?_; refine R_p rfl ?_ rfl rfl; refine R_p rfl ?_ rfl rfl; refine R_take (T_convU hz rfl rfl rfl rfl) ?_ rfl rfl; refine R_p rfl ?_ rfl rfl; refine R_p rfl ?_ rfl rfl; refine R_take (T_convf rfl rfl rfl rfl (by unfold fits; omega)) ?_ rfl rfl; refine R_take (T_modN rfl rfl (by omega)) ?_ rfl rfl; refine R_take (T_convf rfl rfl rfl rfl (by unfold fits; omega)) ?_ rfl rfl; refine R_take (T_ixM (sz := 2) rfl rfl rfl rfl rfl rfl hne1 hzr) ?_ rfl rfl; refine R_p rfl ?_ rfl rfl; refine R_nil ?_; refine S_seq rfl ?_; refine S_seq rfl ?_; refine S_region rfl rfl ?_; refine R_p rfl ?_ rfl rfl; refine R_take (T_nilP rfl hne1) ?_ rfl rfl; refine R_take (T_fap rfl rfl rfl rfl rfl hne1) ?_ rfl rfl; refine R_take (T_ldr rfl rfl rfl (Srd.row (n := j) (c := c1)) (by omega) hat) ?_ rfl rfl; refine R_take (T_decF rfl (by omega)) ?_ rfl rfl; refine R_nil ?_; refine S_false rfl rfl ?_; refine S_skip rfl ?_; refine S_seq rfl ?_; refine S_region rfl rfl ?_; refine R_take (T_loada (ds := [.slice (some ⟨ga, 0, none⟩) a.length (a.length + 2)]) rfl rfl rfl rfl (fun j v h => by simpa using h)) ?_ rfl rfl; refine R_p rfl ?_ rfl rfl; (refine R_eff (E_agrW (ms := a) (L := ys) rfl rfl (wide_rd (g := ga)) (Srd.row (n := j) (c := c1)) ha9 (by omega)) ?_ rfl rfl; rintro _ _ ⟨v2, rfl, hv2, rfl⟩; rw [hra, if_pos rfl] at hv2; have hle : v ≤ v2 := ag_mono (fun _ => Nat.le_refl _) hv hv2); refine R_p rfl ?_ rfl rfl; refine R_take (T_decT rfl (by omega)) ?_ rfl rfl; refine R_p rfl ?_ rfl rfl; refine R_nil ?_)
      all_goals (refine hB _ _ _ _ _ rfl rfl fun w' hS => ⟨(), rfl, trivial, hS.sublist (List.nil_sublist _)⟩)
theorem ConfRises_open {H : Type} {enc : TypeId × Value → H} (W : World) {r : Reach} (base : Nat) (v0 v1 v2 : Value) {d0 d1 d2 : DataW H} {p0 p1 p2 : List MemPlace}
    (hv0 : Value.okWide Try.prog W r base 24 v0) (hv1 : Value.okWide Try.prog W r base 52 v1) (hv2 : Value.okWide Try.prog W r base 3 v2)
    (h0 : DataW.Trod enc Try.prog W 0 (fun _ => true) true 24 v0 d0 p0) (h1 : DataW.Trod enc Try.prog W 0 (fun _ => true) true 52 v1 d1 p1) (h2 : DataW.Trod enc Try.prog W 0 (fun _ => true) true 3 v2 d2 p2) :
    Calls Try.prog 9 #[v0, v1, v2] W fun e w' => e = .returned (.bool true) ∧ Kp All W w' := by
  obtain ⟨k1, rfl, hk1⟩ := open_cf hv0 h0
  obtain ⟨A2, n2, c2', L, rfl, e1, e2, e3⟩ := open_mts hv1 h1
  obtain ⟨z, rfl⟩ := okWide_int Try.underlying3 hv2
  exact (rises_any W k1 hk1 A2 n2 c2' L e3 e1 e2 z).pure
end Go.Proofs.Ytlihhjldkopfhaa
