/- The document: Apply. -/
import Derived.Test.YtebbnbddlnpldaaPmF
namespace Go.Proofs.Ytebbnbddlnpldaa
open Go.RowKit
open Asn (pt row rb)
set_option linter.unusedVariables false
set_option linter.unusedSimpArgs false
--@use N

def gt (o : Option Rw) : Str := match o with | some x => x.2 | none => []
def sb (o : Option Ch) : Bool := match o with | some x => x.2.1 | none => false
def st (o : Option Ch) : Str := match o with | some x => x.2.2 | none => []
/-- what is at a path when an edit is applied -/
def resOf (L : List Rw) (C : List Ch) (p : Str) : Option Rw := match fstK (·.1) C p with
  | some c => if c.2.1 then some (p, c.2.2) else none
  | none => match fstK (·.1) L p with
    | some x => some (p, x.2)
    | none => none
def allP (L : List Rw) (C : List Ch) : List Str := pathsS (pathsS [] (L.map (·.1))) (C.map (·.1))
def resA (L : List Rw) (C : List Ch) : List Rw := (allP L C).filterMap (resOf L C)
theorem res_next (L : List Rw) (C : List Ch) (l : List Str) (j : Nat) (hj : j < l.length) : (l.take (j + 1)).filterMap (resOf L C) = (l.take j).filterMap (resOf L C) ++ (match resOf L C (l.getD j []) with | some x => [x] | none => []) := by
  rw [List.take_succ_eq_append_getElem hj, List.filterMap_append]
  simp only [List.getD, List.getElem?_eq_getElem hj, Option.getD_some, List.filterMap_cons, List.filterMap_nil]
  cases resOf L C l[j] <;> rfl
section
variable {n : Nat} {w0 : World} {M : Nat → Prop} {T : Slots} {H : List Asn} {dd : Option Tmp} {tt : TypeId} {pos : String} {af : Array Edge} {g : Option (Nat × Bool)} {x y z : Operand} {ts : Array TypeId} {A A2 : Option Addr} {m c m2 c2 : Nat}
theorem E_rgetW {L : List Rw} {p : Str} {o : Option Rw} (hx : oget T x = some (.agg #[.slice A m c])) (hy : oget T y = some (sv p)) (hs : Srd w0 M H 2 A m (cellsL rwc L)) (hm : m ≤ 100000) (ho : fstK (·.1) L p = o) :
    Ef Try.prog n w0 M T H ⟨dd, .call ⟨.value (.func 26), #[x, y], ts⟩, tt, pos, af, g⟩ (fun u H' => u = .tuple #[sv (gt o), .bool o.isSome] ∧ H' = H) := by
  subst ho
  refine (E_gv ⟨_, Try.func26, rfl, by kernel_rfl⟩ (vs := [.agg #[.slice A m c], sv p]) (by simp [ogets, hx, hy]) fun w hS => rget_any w A m c L p (hs.rd w hS) hm).mono ?_
  rintro v H' ⟨_, rfl, _, rfl⟩ w hS
  exact ⟨_, _, rfl, ⟨by cases fstK (·.1) L p <;> rfl, rfl⟩, hS⟩
theorem E_saidW {L : List Ch} {p : Str} {o : Option Ch} (hx : oget T x = some (.agg #[.slice A m c])) (hy : oget T y = some (sv p)) (hs : Srd w0 M H 3 A m (cellsL chc L)) (hm : m ≤ 100000) (ho : fstK (·.1) L p = o) :
    Ef Try.prog n w0 M T H ⟨dd, .call ⟨.value (.func 37), #[x, y], ts⟩, tt, pos, af, g⟩ (fun u H' => u = .tuple #[.bool o.isSome, .bool (sb o), sv (st o)] ∧ H' = H) := by
  subst ho
  refine (E_gv ⟨_, Try.func37, rfl, by kernel_rfl⟩ (vs := [.agg #[.slice A m c], sv p]) (by simp [ogets, hx, hy]) fun w hS => said_any w A m c L p (hs.rd w hS) hm).mono ?_
  rintro v H' ⟨_, rfl, _, rfl⟩ w hS
  exact ⟨_, _, rfl, ⟨by cases fstK (·.1) L p <;> rfl, rfl⟩, hS⟩
theorem E_rpaths0 {L : List Rw} (hM : ∀ k, ¬ M k) (hx : oget T x = some (.slice none 0 0)) (hy : oget T y = some (.agg #[.slice A m c])) (hs : Rd w0 All 2 A m (cellsL rwc L)) (hm : m ≤ 900) :
    Ef Try.prog n w0 M T H ⟨dd, .call ⟨.value (.func 28), #[x, y], ts⟩, tt, pos, af, g⟩ (fun u H' => ∃ A' c', u = .slice A' (pathsS [] (L.map (·.1))).length c' ∧ H' = row 9 1 A' (pathsS [] (L.map (·.1))).length c' ((pathsS [] (L.map (·.1))).map sv) :: H) := by
  have hnil : ∀ w, St w0 M H w → St w0 M ([row 9 1 none 0 0 (List.map sv [])] ++ H) w := fun w hS => hS.nilrow _ _
  refine (E_call [row 9 1 none 0 0 (List.map sv [])] H (fun x : Option Addr × Nat => .slice x.1 (pathsS [] (L.map (·.1))).length x.2) (fun _ : Option Addr × Nat => True) (fun x : Option Addr × Nat => [row 9 1 x.1 (pathsS [] (L.map (·.1))).length x.2 ((pathsS [] (L.map (·.1))).map sv)]) (vs := [.slice none 0 0, .agg #[.slice A m c]]) (by simp [ogets, hx, hy]) ⟨_, Try.func28, rfl, by kernel_rfl⟩ hnil fun w hS => rpaths_any w none A 0 0 m c [] L List.Pairwise.nil (rd_apart hs (by decide) hM hS) (by omega) (St.again (As := [row 9 1 none 0 0 (List.map sv [])]) hS)).mono ?_
  rintro v H' ⟨⟨A', c'⟩, _, rfl, rfl⟩ w hS
  exact ⟨_, _, rfl, ⟨A', c', rfl, rfl⟩, hS⟩
end
set_option maxRecDepth 100000 in
set_option maxHeartbeats 4000000 in
theorem rapply_any (w : World) (A A2 : Option Addr) (n c n2 c2 : Nat) (L : List Rw) (C : List Ch) (h : Rd w All 2 A n (cellsL rwc L)) (h2 : Rd w All 3 A2 n2 (cellsL chc C)) (hn : n ≤ 200) (hn2 : n2 ≤ 200) :
    Gives Try.prog 16 [.agg #[.slice A n c], .agg #[.slice A2 n2 c2]] [] w (X := Option Addr × Nat) (fun x => .agg #[.slice x.1 (resA L C).length x.2]) (fun _ => True) (fun x => [row 56 2 x.1 (resA L C).length x.2 (cellsL rwc (resA L C))]) := by
  refine gives_C Try.func16 rfl Try.ntmps16 Try.results16 (by simp) (St.enter w) (fun B hB => ?_)
  have hl : L.length = n := by have := h.1; rw [cellsL_len rwc_len] at this; omega
  have hl2 : C.length = n2 := by have := h2.1; rw [cellsL_len chc_len] at this; omega
  subst hl
  subst hl2
  have hne2 : 0 < C.length → A2 ≠ none := fun h0 => by obtain ⟨ad, rfl, _⟩ := h2.2 (by omega); simp
  have hl0 := paths_len [] (L.map (·.1))
  have hs0 := paths_srt (l := []) List.Pairwise.nil (L.map (·.1))
  rw [List.length_map, List.length_nil] at hl0
  obtain ⟨P0, hP0⟩ : ∃ P0, pathsS [] (L.map (·.1)) = P0 := ⟨_, rfl⟩
  have hall : allP L C = pathsS P0 (C.map (·.1)) := by rw [allP, hP0]
  rw [hP0] at hl0 hs0
  focus (refine S_seq rfl ?_; refine S_region rfl rfl ?_; (refine R_eff (E_boxa (cs := [.slice A L.length c]) rfl) ?_ rfl rfl; rintro _ _ ⟨b2, rfl, rfl⟩); (refine R_eff (E_boxa (cs := [.slice A2 C.length c2]) rfl) ?_ rfl rfl; rintro _ _ ⟨b3, rfl, rfl⟩); (refine R_eff (E_alloca rfl mp_alloc) ?_ rfl rfl; rintro _ _ ⟨b4, rfl, rfl⟩); refine R_nil ?_; refine S_seq rfl ?_; refine S_region rfl rfl ?_; refine R_take (T_loada (ds := [.slice A L.length c]) rfl rfl rfl rfl (fun j v h => by simpa using h)) ?_ rfl rfl; (refine R_eff (E_rpaths0 (L := L) (fun k => noOwns k) rfl rfl h (by omega)) ?_ rfl rfl; rintro _ _ ⟨A5, c5, rfl, rfl⟩; rw [hP0]); refine R_p rfl ?_ rfl rfl; refine R_nil ?_; refine S_seq rfl ?_; refine S_seq rfl ?_; refine S_region rfl rfl ?_; refine R_p rfl ?_ rfl rfl; refine R_nil ?_; refine S_block rfl ?_)
  refine S_loop (X := Nat × Option Addr × Nat) (fun x => [(2, .pointer (some ⟨b2, 0, none⟩)), (3, .pointer (some ⟨b3, 0, none⟩)), (4, .pointer (some ⟨b4, 0, none⟩)), (5, .slice x.2.1 (pathsS P0 ((C.map (·.1)).take x.1)).length x.2.2), (6, .int .i64 (x.1 : Int))]) (fun x => [row 9 1 x.2.1 (pathsS P0 ((C.map (·.1)).take x.1)).length x.2.2 ((pathsS P0 ((C.map (·.1)).take x.1)).map sv), pt b4 24 [.slice none 0 0], pt b3 27 [.slice A2 C.length c2], pt b2 24 [.slice A L.length c]]) (fun x => x.1 ≤ C.length) (fun x => C.length - x.1) rfl (0, A5, c5) (Nat.zero_le _) (Sub.cons rfl (Sub.cons rfl (Sub.cons rfl (Sub.cons rfl (Sub.cons rfl Sub.nil))))) (fun w hS => sub_st (H' := [row 9 1 A5 P0.length c5 (P0.map sv), pt b4 24 [.slice none 0 0], pt b3 27 [.slice A2 C.length c2], pt b2 24 [.slice A L.length c]]) w hS) ?_
  rintro ⟨j, A6, c6⟩ hj J hJ
  dsimp only at hj ⊢
  have hRs := paths_srt hs0 ((C.map (·.1)).take j)
  have hRl := paths_len P0 ((C.map (·.1)).take j)
  have hnx := paths_next P0 (C.map (·.1)) j
  rw [List.length_take] at hRl
  have hend : j = C.length → allP L C = pathsS P0 ((C.map (·.1)).take j) := fun e => by rw [hall, e, List.take_of_length_le (by simp)]
  obtain ⟨l, hR⟩ : ∃ R, pathsS P0 ((C.map (·.1)).take j) = R := ⟨_, rfl⟩
  rw [hR] at hRs hRl hnx hend ⊢
  rcases Nat.lt_or_ge j C.length with hjl | hjl
  · have hne := hne2 (by omega)
    have hnx := hnx (by simpa using hjl)
    rw [map_getD C j hjl] at hnx
    have hat := fun e v => cellsL_at (f := chc) chc_len C default j hjl e v
    obtain ⟨⟨s, is, t⟩, hx⟩ : ∃ x, C.getD j default = x := ⟨_, rfl⟩
    rw [hx] at hat hnx
    have hat : (cellsL chc C)[j * 3 + 0]? = some (sv s) := hat 0 _ rfl
    focus (refine S_seq rfl ?_; refine S_seq rfl ?_; refine S_region rfl rfl ?_; refine R_p rfl ?_ rfl rfl; refine R_p rfl ?_ rfl rfl; refine R_take (T_load rfl rfl rfl (by first | rfl | assumption)) ?_ rfl rfl; refine R_p rfl ?_ rfl rfl; refine R_take (T_decT rfl (by omega)) ?_ rfl rfl; refine R_nil ?_; refine S_true rfl rfl ?_; refine S_skip rfl ?_; refine S_seq rfl ?_; refine S_block rfl ?_; refine S_region rfl rfl ?_; refine R_p rfl ?_ rfl rfl; refine R_p rfl ?_ rfl rfl; refine R_take (T_load rfl rfl rfl (by first | rfl | assumption)) ?_ rfl rfl; refine R_p rfl ?_ rfl rfl; refine R_take (T_ixM (sz := 3) rfl rfl rfl rfl rfl rfl hne hjl) ?_ rfl rfl; refine R_take (T_fap rfl rfl rfl rfl rfl hne) ?_ rfl rfl; refine R_take (T_ldr rfl rfl rfl (Srd.old h2 (fun k _ => noOwns k)) (by omega) hat) ?_ rfl rfl; (refine R_eff (E_gt1 (A1 := row 9 1 A6 l.length c6 (l.map sv)) (f := 36) ⟨_, Try.func36, rfl, by kernel_rfl⟩ rfl (fun w hS hS2 => with_any w A6 l.length c6 l s hRs (by omega) hS2) (fun _ => rfl)) ?_ rfl rfl; rintro _ _ ⟨⟨A7, c7⟩, rfl, _, rfl⟩); refine R_p rfl ?_ rfl rfl; refine R_nil ?_; refine RS_blk ?_; refine S_region rfl rfl ?_; refine R_p rfl ?_ rfl rfl; refine R_take (T_addN rfl rfl (by unfold fits; omega)) ?_ rfl rfl; refine R_p rfl ?_ rfl rfl; refine R_nil ?_)
    refine hJ (j + 1, A7, c7) _ _ (by show j + 1 ≤ _; omega) ?_ (fun w' hS => ?_) (by show C.length - (j + 1) < _; omega)
    · dsimp only
      rw [hnx]
      exact (Sub.cons rfl (Sub.cons rfl (Sub.cons rfl (Sub.cons rfl (Sub.cons rfl Sub.nil)))))
    · dsimp only
      rw [hnx]
      exact sub_st w' hS
  have hend := hend (by omega)
  have hlen : l.length ≤ 400 := by omega
  have hra : resA L C = l.filterMap (resOf L C) := by rw [resA, hend]
  rw [hra] at hB
  clear hJ hnx hend hRl hRs hR hra hall hP0 hl0 hs0 hj
  refine RS_row A6 l.length c6 fun _ _ hne6 _ => ?_
  focus (refine S_seq rfl ?_; refine S_seq rfl ?_; refine S_region rfl rfl ?_; refine R_p rfl ?_ rfl rfl; refine R_p rfl ?_ rfl rfl; refine R_take (T_load rfl rfl rfl (by first | rfl | assumption)) ?_ rfl rfl; refine R_p rfl ?_ rfl rfl; refine R_take (T_decF rfl (by omega)) ?_ rfl rfl; refine R_nil ?_; refine S_false rfl rfl ?_; refine S_exit rfl rfl ?_; refine S_seq rfl ?_; refine S_region rfl rfl ?_; refine R_take (T_build0 mp_built0) ?_ rfl rfl; (refine R_eff (E_alloca rfl mp_alloc) ?_ rfl rfl; rintro _ _ ⟨b7, rfl, rfl⟩); (refine R_eff0 (E_storew (ds := [.slice none 0 0]) (cs := [.slice none 0 0]) rfl rfl rfl rfl (sl_one _ _ _) rfl) ?_ rfl; rintro _ _ rfl); refine R_nil ?_; refine S_seq rfl ?_; refine S_seq rfl ?_; refine S_region rfl rfl ?_; refine R_p rfl ?_ rfl rfl; refine R_nil ?_; refine S_block rfl ?_)
  refine S_loop (X := Nat × Option Addr × Nat) (fun x => [(2, .pointer (some ⟨b2, 0, none⟩)), (3, .pointer (some ⟨b3, 0, none⟩)), (4, .pointer (some ⟨b4, 0, none⟩)), (5, .slice A6 l.length c6), (7, .pointer (some ⟨b7, 0, none⟩)), (8, .int .i64 (x.1 : Int))]) (fun x => [row 56 2 x.2.1 ((l.take x.1).filterMap (resOf L C)).length x.2.2 (cellsL rwc ((l.take x.1).filterMap (resOf L C))), pt b7 24 [.slice x.2.1 ((l.take x.1).filterMap (resOf L C)).length x.2.2], row 9 1 A6 l.length c6 (l.map sv), pt b4 24 [.slice none 0 0], pt b3 27 [.slice A2 C.length c2], pt b2 24 [.slice A L.length c]]) (fun x => x.1 ≤ l.length) (fun x => l.length - x.1) rfl (0, none, 0) (Nat.zero_le _) (Sub.cons rfl (Sub.cons rfl (Sub.cons rfl (Sub.cons rfl (Sub.cons rfl (Sub.cons rfl Sub.nil)))))) (fun w hS => sub_st (H' := [row 56 2 none 0 0 [], pt b7 24 [.slice none 0 0], row 9 1 A6 l.length c6 (l.map sv), pt b4 24 [.slice none 0 0], pt b3 27 [.slice A2 C.length c2], pt b2 24 [.slice A L.length c]]) w (hS.nilrow 56 2)) ?_
  rintro ⟨j, A8, c8⟩ hj J hJ
  dsimp only at hj ⊢
  have hnx := res_next L C l j
  have hOl : ((l.take j).filterMap (resOf L C)).length ≤ j := Nat.le_trans (List.length_filterMap_le _ _) (by rw [List.length_take]; omega)
  have hend : j = l.length → l.filterMap (resOf L C) = (l.take j).filterMap (resOf L C) := fun e => by rw [e, List.take_length]
  obtain ⟨O, hO⟩ : ∃ O, (l.take j).filterMap (resOf L C) = O := ⟨_, rfl⟩
  rw [hO] at hnx hOl hend ⊢
  rcases Nat.lt_or_ge j l.length with hjl | hjl
  · have hne6 := hne6 (by omega)
    have hnx := hnx hjl
    have hat := fun x (h : l.getD j [] = x) => sv_at hjl h
    obtain ⟨p, hp⟩ : ∃ p, l.getD j [] = p := ⟨_, rfl⟩
    have hat := hat p hp
    rw [hp, resOf] at hnx
    obtain ⟨o, ho⟩ : ∃ o, fstK (·.1) L p = o := ⟨_, rfl⟩
    obtain ⟨q, hq⟩ : ∃ q, fstK (·.1) C p = q := ⟨_, rfl⟩
    rw [ho, hq] at hnx
    focus (refine S_seq rfl ?_; refine S_seq rfl ?_; refine S_region rfl rfl ?_; refine R_p rfl ?_ rfl rfl; refine R_p rfl ?_ rfl rfl; refine R_p rfl ?_ rfl rfl; refine R_take (T_decT rfl (by omega)) ?_ rfl rfl; refine R_nil ?_; refine S_true rfl rfl ?_; refine S_skip rfl ?_; refine S_seq rfl ?_; refine S_block rfl ?_; refine S_seq rfl ?_)
    refine S_draw ([row 9 1 A6 l.length c6 (l.map sv), pt b2 24 [.slice A L.length c]]) sub_st (by kernel_rfl) rfl (by kernel_rfl) (by kernel_rfl : _ = 11) ?_
    refine D_take 0 rfl (T_loada (ds := [.slice A L.length c]) rfl rfl rfl rfl (fun j v h => by simpa using h)) ?_ rfl rfl (by kernel_rfl) (by kernel_rfl)
    refine D_take 1 rfl (pev_ok rfl) ?_ rfl rfl (by kernel_rfl) (by kernel_rfl)
    refine D_take 2 rfl (pev_ok rfl) ?_ rfl rfl (by kernel_rfl) (by kernel_rfl)
    refine D_take 3 rfl (T_ixN rfl rfl rfl rfl rfl rfl hne6 hjl) ?_ rfl rfl (by kernel_rfl) (by kernel_rfl)
    refine D_take 4 rfl (T_ldr rfl rfl rfl (Srd.row (n := l.length) (c := c6)) (by omega) hat) ?_ rfl rfl (by kernel_rfl) (by kernel_rfl)
    refine D_one 5 rfl (E_rgetW (L := L) (p := p) rfl rfl (Srd.old h (fun k _ => noOwns k)) (by omega) ho) ?_ rfl rfl (by kernel_rfl)
    rintro _ _ ⟨rfl, rfl⟩
    refine Nx_same sub_st ?_
    refine D_take 6 rfl (pev_ok rfl) ?_ rfl rfl (by kernel_rfl) (by kernel_rfl)
    refine D_take 7 rfl (pev_ok rfl) ?_ rfl rfl (by kernel_rfl) (by kernel_rfl)
    refine D_take 8 rfl (pev_ok rfl) ?_ rfl rfl (by kernel_rfl) (by kernel_rfl)
    refine D_take 9 rfl (pev_ok rfl) ?_ rfl rfl (by kernel_rfl) (by kernel_rfl)
    refine D_take 10 rfl (pev_ok rfl) ?_ rfl rfl (by kernel_rfl) (by kernel_rfl)
    refine D_done ?_ (by kernel_rfl)
    skip
    focus (refine S_seq rfl ?_)
    refine S_draw ([row 9 1 A6 l.length c6 (l.map sv), pt b3 27 [.slice A2 C.length c2]]) sub_st (by kernel_rfl) rfl (by kernel_rfl) (by kernel_rfl : _ = 13) ?_
    refine D_take 0 rfl (T_loada (ds := [.slice A2 C.length c2]) rfl rfl rfl rfl (fun j v h => by simpa using h)) ?_ rfl rfl (by kernel_rfl) (by kernel_rfl)
    refine D_take 1 rfl (pev_ok rfl) ?_ rfl rfl (by kernel_rfl) (by kernel_rfl)
    refine D_take 2 rfl (pev_ok rfl) ?_ rfl rfl (by kernel_rfl) (by kernel_rfl)
    refine D_take 3 rfl (T_ixN rfl rfl rfl rfl rfl rfl hne6 hjl) ?_ rfl rfl (by kernel_rfl) (by kernel_rfl)
    refine D_take 4 rfl (T_ldr rfl rfl rfl (Srd.row (n := l.length) (c := c6)) (by omega) hat) ?_ rfl rfl (by kernel_rfl) (by kernel_rfl)
    refine D_one 5 rfl (E_saidW (L := C) (p := p) rfl rfl (Srd.old h2 (fun k _ => noOwns k)) (by omega) hq) ?_ rfl rfl (by kernel_rfl)
    rintro _ _ ⟨rfl, rfl⟩
    refine Nx_same sub_st ?_
    refine D_take 6 rfl (pev_ok rfl) ?_ rfl rfl (by kernel_rfl) (by kernel_rfl)
    refine D_take 7 rfl (pev_ok rfl) ?_ rfl rfl (by kernel_rfl) (by kernel_rfl)
    refine D_take 8 rfl (pev_ok rfl) ?_ rfl rfl (by kernel_rfl) (by kernel_rfl)
    refine D_take 9 rfl (pev_ok rfl) ?_ rfl rfl (by kernel_rfl) (by kernel_rfl)
    refine D_take 10 rfl (pev_ok rfl) ?_ rfl rfl (by kernel_rfl) (by kernel_rfl)
    refine D_take 11 rfl (pev_ok rfl) ?_ rfl rfl (by kernel_rfl) (by kernel_rfl)
    refine D_take 12 rfl (pev_ok rfl) ?_ rfl rfl (by kernel_rfl) (by kernel_rfl)
    refine D_done ?_ (by kernel_rfl)
    skip
    obtain ⟨tx, htx⟩ : ∃ tx, gt o = tx := ⟨_, rfl⟩
    rw [htx]
    cases q with
    | some c0 =>
      obtain ⟨s0, is0, t0⟩ := c0
      cases is0
      · skip
        replace hnx : (l.take (j + 1)).filterMap (resOf L C) = O := by rw [hnx]; simp
        focus (refine S_seq rfl ?_; refine S_seq rfl ?_; refine S_region rfl rfl ?_; refine R_p rfl ?_ rfl rfl; refine R_nil ?_; refine S_true rfl rfl ?_; refine S_region rfl rfl ?_; refine R_p rfl ?_ rfl rfl; refine R_p rfl ?_ rfl rfl; refine R_p rfl ?_ rfl rfl; refine R_p rfl ?_ rfl rfl; refine R_nil ?_; refine S_seq rfl ?_; refine S_region rfl rfl ?_; refine R_p rfl ?_ rfl rfl; refine R_nil ?_; refine S_false rfl rfl ?_; refine S_skip rfl ?_; refine RS_blk ?_; refine S_region rfl rfl ?_; refine R_p rfl ?_ rfl rfl; refine R_take (T_addN rfl rfl (by unfold fits; omega)) ?_ rfl rfl; refine R_p rfl ?_ rfl rfl; refine R_nil ?_)
        refine hJ (j + 1, A8, c8) _ _ (by show j + 1 ≤ _; omega) ?_ (fun w' hS => ?_) (by show l.length - (j + 1) < _; omega)
        · exact (Sub.cons rfl (Sub.cons rfl (Sub.cons rfl (Sub.cons rfl (Sub.cons rfl (Sub.cons rfl Sub.nil))))))
        · dsimp only
          rw [hnx]
          exact sub_st w' hS
      · skip
        replace hnx : (l.take (j + 1)).filterMap (resOf L C) = O ++ [(p, t0)] := by rw [hnx]; simp
        focus (refine S_seq rfl ?_; refine S_seq rfl ?_; refine S_region rfl rfl ?_; refine R_p rfl ?_ rfl rfl; refine R_nil ?_; refine S_true rfl rfl ?_; refine S_region rfl rfl ?_; refine R_p rfl ?_ rfl rfl; refine R_p rfl ?_ rfl rfl; refine R_p rfl ?_ rfl rfl; refine R_p rfl ?_ rfl rfl; refine R_nil ?_; refine S_seq rfl ?_; refine S_region rfl rfl ?_; refine R_p rfl ?_ rfl rfl; refine R_nil ?_; refine S_true rfl rfl ?_)
        refine S_draw ([pt b7 24 [.slice A8 O.length c8], row 9 1 A6 l.length c6 (l.map sv)]) sub_st (by kernel_rfl) rfl (by kernel_rfl) (by kernel_rfl : _ = 12) ?_
        refine D_take 0 rfl (pev_ok rfl) ?_ rfl rfl (by kernel_rfl) (by kernel_rfl)
        refine D_take 1 rfl (T_load rfl rfl rfl (by first | rfl | assumption)) ?_ rfl rfl (by kernel_rfl) (by kernel_rfl)
        refine D_take 2 rfl (pev_ok rfl) ?_ rfl rfl (by kernel_rfl) (by kernel_rfl)
        refine D_take 3 rfl (pev_ok rfl) ?_ rfl rfl (by kernel_rfl) (by kernel_rfl)
        refine D_take 4 rfl (T_ixN rfl rfl rfl rfl rfl rfl hne6 hjl) ?_ rfl rfl (by kernel_rfl) (by kernel_rfl)
        refine D_take 5 rfl (T_ldr rfl rfl rfl (Srd.row (n := l.length) (c := c6)) (by omega) hat) ?_ rfl rfl (by kernel_rfl) (by kernel_rfl)
        refine D_take 6 rfl (pev_ok rfl) ?_ rfl rfl (by kernel_rfl) (by kernel_rfl)
        refine D_take 7 rfl (T_build2 rfl rfl (rw_built2 p t0)) ?_ rfl rfl (by kernel_rfl) (by kernel_rfl)
        refine D_one 8 rfl (E_litS (vs := [.agg (rwc (p, t0)).toArray]) (size := 2) (ds := rwc (p, t0)) rfl rfl rfl rfl rfl rfl (by simp [vcells, rwc]) rfl (by omega)) ?_ rfl rfl (by kernel_rfl)
        rintro _ _ ⟨vb, rfl, rfl⟩
        refine Nx_same sub_st ?_
        refine D_one 9 rfl (E_appS (sz := 2) (m := O.length) (c := c8) (A := A8) rfl rfl rfl rfl rfl rfl rfl (by decide) (Srd.pt (n := 1) (g := vb) (ds := rwc (p, t0)) rfl (fun j u hj => by rw [Nat.zero_add]; exact hj)) (rwc_one _) (by show (O.length + 1) * 32 ≤ _; omega) (by unfold maxLen; omega)) ?_ rfl rfl (by kernel_rfl)
        rintro _ _ ⟨A9, c9, rfl, rfl⟩
        refine Nx_same sub_st ?_
        refine D_take 10 rfl (pev_ok rfl) ?_ rfl rfl (by kernel_rfl) (by kernel_rfl)
        refine D_one 11 rfl (E_store1 rfl rfl rfl rfl rfl rfl (by first | (simp; done) | (simp; omega) | decide)) ?_ rfl rfl (by kernel_rfl)
        rintro _ _ rfl
        refine Nx_pivot (by kernel_rfl) ?_
        refine D_done ?_ (by kernel_rfl)
        skip
        focus (refine RS_blk ?_; refine S_region rfl rfl ?_; refine R_p rfl ?_ rfl rfl; refine R_take (T_addN rfl rfl (by unfold fits; omega)) ?_ rfl rfl; refine R_p rfl ?_ rfl rfl; refine R_nil ?_)
        have e1 : (O ++ [(p, t0)]).length = O.length + 1 := by simp
        refine hJ (j + 1, A9, c9) _ _ (by show j + 1 ≤ _; omega) ?_ (fun w' hS => ?_) (by show l.length - (j + 1) < _; omega)
        · exact (Sub.cons rfl (Sub.cons rfl (Sub.cons rfl (Sub.cons rfl (Sub.cons rfl (Sub.cons rfl Sub.nil))))))
        · dsimp only
          rw [hnx, e1, cellsL_app, cellsL_one]
          simp only [Nat.add_zero, List.set_cons_zero] at hS
          exact sub_st w' hS
    | none =>
      cases o with
      | none =>
        replace hnx : (l.take (j + 1)).filterMap (resOf L C) = O := by rw [hnx]; simp
        focus (refine S_seq rfl ?_; refine S_seq rfl ?_; refine S_region rfl rfl ?_; refine R_p rfl ?_ rfl rfl; refine R_nil ?_; refine S_false rfl rfl ?_; refine S_skip rfl ?_; refine S_seq rfl ?_; refine S_region rfl rfl ?_; refine R_p rfl ?_ rfl rfl; refine R_nil ?_; refine S_false rfl rfl ?_; refine S_skip rfl ?_; refine RS_blk ?_; refine S_region rfl rfl ?_; refine R_p rfl ?_ rfl rfl; refine R_take (T_addN rfl rfl (by unfold fits; omega)) ?_ rfl rfl; refine R_p rfl ?_ rfl rfl; refine R_nil ?_)
        refine hJ (j + 1, A8, c8) _ _ (by show j + 1 ≤ _; omega) ?_ (fun w' hS => ?_) (by show l.length - (j + 1) < _; omega)
        · exact (Sub.cons rfl (Sub.cons rfl (Sub.cons rfl (Sub.cons rfl (Sub.cons rfl (Sub.cons rfl Sub.nil))))))
        · dsimp only
          rw [hnx]
          exact sub_st w' hS
      | some x0 =>
        obtain rfl : x0.2 = tx := htx
        replace hnx : (l.take (j + 1)).filterMap (resOf L C) = O ++ [(p, x0.2)] := by rw [hnx]
        focus (refine S_seq rfl ?_; refine S_seq rfl ?_; refine S_region rfl rfl ?_; refine R_p rfl ?_ rfl rfl; refine R_nil ?_; refine S_false rfl rfl ?_; refine S_skip rfl ?_; refine S_seq rfl ?_; refine S_region rfl rfl ?_; refine R_p rfl ?_ rfl rfl; refine R_nil ?_; refine S_true rfl rfl ?_)
        refine S_draw ([pt b7 24 [.slice A8 O.length c8], row 9 1 A6 l.length c6 (l.map sv)]) sub_st (by kernel_rfl) rfl (by kernel_rfl) (by kernel_rfl : _ = 12) ?_
        refine D_take 0 rfl (pev_ok rfl) ?_ rfl rfl (by kernel_rfl) (by kernel_rfl)
        refine D_take 1 rfl (T_load rfl rfl rfl (by first | rfl | assumption)) ?_ rfl rfl (by kernel_rfl) (by kernel_rfl)
        refine D_take 2 rfl (pev_ok rfl) ?_ rfl rfl (by kernel_rfl) (by kernel_rfl)
        refine D_take 3 rfl (pev_ok rfl) ?_ rfl rfl (by kernel_rfl) (by kernel_rfl)
        refine D_take 4 rfl (T_ixN rfl rfl rfl rfl rfl rfl hne6 hjl) ?_ rfl rfl (by kernel_rfl) (by kernel_rfl)
        refine D_take 5 rfl (T_ldr rfl rfl rfl (Srd.row (n := l.length) (c := c6)) (by omega) hat) ?_ rfl rfl (by kernel_rfl) (by kernel_rfl)
        refine D_take 6 rfl (pev_ok rfl) ?_ rfl rfl (by kernel_rfl) (by kernel_rfl)
        refine D_take 7 rfl (T_build2 rfl rfl (rw_built2 p x0.2)) ?_ rfl rfl (by kernel_rfl) (by kernel_rfl)
        refine D_one 8 rfl (E_litS (vs := [.agg (rwc (p, x0.2)).toArray]) (size := 2) (ds := rwc (p, x0.2)) rfl rfl rfl rfl rfl rfl (by simp [vcells, rwc]) rfl (by omega)) ?_ rfl rfl (by kernel_rfl)
        rintro _ _ ⟨vb, rfl, rfl⟩
        refine Nx_same sub_st ?_
        refine D_one 9 rfl (E_appS (sz := 2) (m := O.length) (c := c8) (A := A8) rfl rfl rfl rfl rfl rfl rfl (by decide) (Srd.pt (n := 1) (g := vb) (ds := rwc (p, x0.2)) rfl (fun j u hj => by rw [Nat.zero_add]; exact hj)) (rwc_one _) (by show (O.length + 1) * 32 ≤ _; omega) (by unfold maxLen; omega)) ?_ rfl rfl (by kernel_rfl)
        rintro _ _ ⟨A9, c9, rfl, rfl⟩
        refine Nx_same sub_st ?_
        refine D_take 10 rfl (pev_ok rfl) ?_ rfl rfl (by kernel_rfl) (by kernel_rfl)
        refine D_one 11 rfl (E_store1 rfl rfl rfl rfl rfl rfl (by first | (simp; done) | (simp; omega) | decide)) ?_ rfl rfl (by kernel_rfl)
        rintro _ _ rfl
        refine Nx_pivot (by kernel_rfl) ?_
        refine D_done ?_ (by kernel_rfl)
        skip
        focus (refine RS_blk ?_; refine S_region rfl rfl ?_; refine R_p rfl ?_ rfl rfl; refine R_take (T_addN rfl rfl (by unfold fits; omega)) ?_ rfl rfl; refine R_p rfl ?_ rfl rfl; refine R_nil ?_)
        have e1 : (O ++ [(p, x0.2)]).length = O.length + 1 := by simp
        refine hJ (j + 1, A9, c9) _ _ (by show j + 1 ≤ _; omega) ?_ (fun w' hS => ?_) (by show l.length - (j + 1) < _; omega)
        · exact (Sub.cons rfl (Sub.cons rfl (Sub.cons rfl (Sub.cons rfl (Sub.cons rfl (Sub.cons rfl Sub.nil))))))
        · dsimp only
          rw [hnx, e1, cellsL_app, cellsL_one]
          simp only [Nat.add_zero, List.set_cons_zero] at hS
          exact sub_st w' hS
  have hend := hend (by omega)
  rw [hend] at hB
  focus (refine S_seq rfl ?_; refine S_seq rfl ?_; refine S_region rfl rfl ?_; refine R_p rfl ?_ rfl rfl; refine R_p rfl ?_ rfl rfl; refine R_p rfl ?_ rfl rfl; refine R_take (T_decF rfl (by omega)) ?_ rfl rfl; refine R_nil ?_; refine S_false rfl rfl ?_; refine S_exit rfl rfl ?_; refine S_seq rfl ?_; refine S_region rfl rfl ?_; refine R_take (T_loada (ds := [.slice A8 O.length c8]) rfl rfl rfl rfl (fun j v h => by simpa using h)) ?_ rfl rfl; (refine R_eff0 (E_storew (ds := [.slice A8 O.length c8]) (cs := [.slice none 0 0]) rfl rfl rfl rfl (sl_one _ _ _) rfl) ?_ rfl; rintro _ _ rfl); refine R_nil ?_)
  refine hB _ _ _ _ _ rfl (.cell rfl rfl rfl inferInstance rfl .nil) fun w' hS => ⟨(A8, c8), rfl, trivial, sub_st _ hS⟩
end Go.Proofs.Ytebbnbddlnpldaa
