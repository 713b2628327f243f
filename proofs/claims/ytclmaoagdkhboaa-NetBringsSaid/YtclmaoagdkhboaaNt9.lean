/- Nets: Double. -/
import Derived.Test.YtclmaoagdkhboaaNt8
namespace Go.Proofs.Ytclmaoagdkhboaa
open Go.RowKit
open Asn (pt row rb)
set_option linter.unusedVariables false
set_option linter.unusedSimpArgs false
--@use N

set_option maxRecDepth 100000 in
set_option maxHeartbeats 4000000 in
theorem double1_any (w : World) (bn : Nat) (m : Pk) (A : Option Addr) (c n : Nat) (A2 : Option Addr) (c2' n2 : Nat) (h2 : Rd w All 1 (some ⟨bn, 0, none⟩) 2 (ntc A n c A2 n2 c2')) (e : Int) (he : (if 80 ≤ n then 6 else 0) = e) :
    Gives Try.prog 36 [.agg (pkc m).toArray, .pointer (some ⟨bn, 0, none⟩)] [] w (X := Unit) (fun _ => .int .i64 e) (fun _ => True) (fun _ => []) := by
  refine gives_S Try.func36 rfl Try.ntmps36 Try.results36 (by simp) (St.enter w) (fun B hB => ?_)
  by_cases h : 80 ≤ n
  · rw [if_pos h] at he
    subst he
    focus (refine S_seq rfl ?_; refine S_region rfl rfl ?_; (refine R_eff (E_boxa (cs := pkc m) rfl) ?_ rfl rfl; rintro _ _ ⟨b2, rfl, rfl⟩); refine R_p rfl ?_ rfl rfl; refine R_nil ?_; refine S_seq rfl ?_; refine S_seq rfl ?_; refine S_region rfl rfl ?_; refine R_p rfl ?_ rfl rfl; refine R_take (T_loadg (v := .slice A n c) rfl rfl rfl h2 (fun k _ => noOwns k) rfl) ?_ rfl rfl; refine R_p rfl ?_ rfl rfl; refine R_take (T_decT rfl (by omega)) ?_ rfl rfl; refine R_nil ?_; refine S_true rfl rfl ?_; refine S_seq rfl ?_; refine S_region rfl rfl ?_; refine R_p rfl ?_ rfl rfl; refine R_nil ?_)
    exact hB _ _ _ _ _ rfl rfl fun w' hS => ⟨(), rfl, trivial, hS.sublist (List.nil_sublist _)⟩
  · rw [if_neg h] at he
    subst he
    focus (refine S_seq rfl ?_; refine S_region rfl rfl ?_; (refine R_eff (E_boxa (cs := pkc m) rfl) ?_ rfl rfl; rintro _ _ ⟨b2, rfl, rfl⟩); refine R_p rfl ?_ rfl rfl; refine R_nil ?_; refine S_seq rfl ?_; refine S_seq rfl ?_; refine S_region rfl rfl ?_; refine R_p rfl ?_ rfl rfl; refine R_take (T_loadg (v := .slice A n c) rfl rfl rfl h2 (fun k _ => noOwns k) rfl) ?_ rfl rfl; refine R_p rfl ?_ rfl rfl; refine R_take (T_decF rfl (by omega)) ?_ rfl rfl; refine R_nil ?_; refine S_false rfl rfl ?_; refine S_skip rfl ?_; refine S_seq rfl ?_; refine S_region rfl rfl ?_; refine R_p rfl ?_ rfl rfl; refine R_nil ?_)
    exact hB _ _ _ _ _ rfl rfl fun w' hS => ⟨(), rfl, trivial, hS.sublist (List.nil_sublist _)⟩
set_option maxRecDepth 100000 in
set_option maxHeartbeats 4000000 in
theorem double2_any (w : World) (W : List Pn) (b ba : Nat) (A5 : Option Addr) (c5 n : Nat) (P5 : ShP W) (A6 : Option Addr) (c6 n2 : Nat) (C : List Ct) (B0 : Asn) (hl : W.length = n) (hn : n ≤ 500) (q : Nat) (hq : q < n) (hkk : ∀ x ∈ W, x.2.2.length ≤ 100000) (hR : Rd w (fun k => ¬ owns [pt b 25 (ntc A5 n c5 A6 n2 c6), row 30 3 A5 n c5 (cellsL pkc P5.1), dtB 5 (P5.1.map pkd), row 73 2 A6 n2 c6 (cellsL ctc C), B0] k) 1 (some ⟨ba, 0, none⟩) 1 [.int .i64 (q : Int)]) (hS0 : St w (owns [pt b 25 (ntc A5 n c5 A6 n2 c6), row 30 3 A5 n c5 (cellsL pkc P5.1), dtB 5 (P5.1.map pkd), row 73 2 A6 n2 c6 (cellsL ctc C), B0]) [pt b 25 (ntc A5 n c5 A6 n2 c6), row 30 3 A5 n c5 (cellsL pkc P5.1), dtB 5 (P5.1.map pkd), row 73 2 A6 n2 c6 (cellsL ctc C), B0] w) :
    Gives Try.prog 37 [.pointer (some ⟨b, 0, none⟩), .pointer (some ⟨ba, 0, none⟩)] [pt b 25 (ntc A5 n c5 A6 n2 c6), row 30 3 A5 n c5 (cellsL pkc P5.1), dtB 5 (P5.1.map pkd), row 73 2 A6 n2 c6 (cellsL ctc C), B0] w (X := (Option Addr × Nat) × ShP (W ++ [W.getD q default]) × (Option Addr × Nat)) (fun _ => .tuple #[]) (fun _ => True) (fun y => pt b 25 (ntc y.1.1 (n + 1) y.1.2 y.2.2.1 n2 y.2.2.2) :: [row 30 3 y.1.1 (n + 1) y.1.2 (cellsL pkc y.2.1.1), dtB 5 (y.2.1.1.map pkd), row 73 2 y.2.2.1 n2 y.2.2.2 (cellsL ctc C), B0]) := by
  refine gives_N2 Try.func37 rfl Try.ntmps37 Try.results37 (by simp) hS0 (fun B hB hB2 => ?_)
  obtain ⟨P5, hP, hcap⟩ := P5
  dsimp only at hS0 hR hB hB2 ⊢
  have hl5 : P5.length = n := (pk_len hP).trans hl
  have hat := cellsL_at (f := pkc) pkc_len P5 default q (by omega)
  obtain ⟨m, hm⟩ : ∃ m, P5.getD q default = m := ⟨_, rfl⟩
  have hmi : m ∈ P5 := by rw [← hm]; simp [List.getD, show q < P5.length by omega]
  have hmv : W.getD q default = pkv m := by rw [← hP, ← hm]; simp [List.getD, show q < P5.length by omega]
  have hmd : pkd m ∈ P5.map pkd := List.mem_map.2 ⟨m, hmi, rfl⟩
  have hbk := hkk (pkv m) (by rw [← hP]; exact List.mem_map.2 ⟨m, hmi, rfl⟩)
  rw [hm] at hat
  obtain ⟨f, t, D, cd, bs⟩ := m
  have hmd : (D, cd, bs) ∈ P5.map pkd := hmd
  have hbk : bs.length ≤ 100000 := hbk
  refine RS_row A5 n c5 fun _ _ hne _ => ?_
  have hne := hne (by omega)
  focus (refine S_seq rfl ?_)
  refine S_draw ([pt b 25 (ntc A5 n c5 A6 n2 c6), row 30 3 A5 n c5 (cellsL pkc P5)]) sub_st (by kernel_rfl) rfl (by kernel_rfl) (by kernel_rfl : _ = 9) ?_
  refine D_take 0 rfl (pev_ok rfl) ?_ rfl rfl (by kernel_rfl) (by kernel_rfl)
  refine D_take 1 rfl (T_nilCheck rfl) ?_ rfl rfl (by kernel_rfl) (by kernel_rfl)
  refine D_take 2 rfl (pev_ok rfl) ?_ rfl rfl (by kernel_rfl) (by kernel_rfl)
  refine D_take 3 rfl (T_load rfl rfl rfl rfl) ?_ rfl rfl (by kernel_rfl) (by kernel_rfl)
  refine D_take 4 rfl (T_loadg rfl rfl rfl hR (fun k hk => hk) rfl) ?_ rfl rfl (by kernel_rfl) (by kernel_rfl)
  refine D_take 5 rfl (T_ixM (sz := 3) (q := q) rfl rfl rfl rfl rfl rfl hne hq) ?_ rfl rfl (by kernel_rfl) (by kernel_rfl)
  refine D_take 6 rfl (T_lda (ds := pkc (f, t, D, cd, bs)) rfl rfl rfl (Srd.row (A := A5) (n := n) (c := c5)) rfl (by omega) hat) ?_ rfl rfl (by kernel_rfl) (by kernel_rfl)
  refine D_one 7 rfl (E_alloca rfl pk_zero) ?_ rfl rfl (by kernel_rfl)
  rintro _ _ ⟨b3, rfl, rfl⟩
  refine Nx_same sub_st ?_
  refine D_one 8 rfl (E_storew (cs := pkc (0, 0, none, 0, [])) (ds := pkc (f, t, D, cd, bs)) rfl rfl rfl rfl (pkc_one _) rfl) ?_ rfl rfl (by kernel_rfl)
  rintro _ _ rfl
  refine Nx_same sub_st ?_
  refine D_done ?_ (by kernel_rfl)
  skip
  focus (refine S_seq rfl ?_; refine S_region rfl rfl ?_; refine R_p rfl ?_ rfl rfl; refine R_take (T_load (v := .slice D bs.length cd) rfl rfl rfl rfl) ?_ rfl rfl; (refine R_eff (E_hvG (f := 38) ⟨_, Try.func38, rfl, by kernel_rfl⟩ (fun w hS => bclone_any w D bs.length cd (bs.map bv) (((SDt.own (e := 5) (D := P5.map pkd) (by simp)).rd w hS) (D, cd, bs) hmd) (bv_ones _) hbk) rfl rfl) ?_ rfl rfl; rintro _ _ ⟨⟨A', c'⟩, rfl, _, rfl⟩; dsimp only [List.cons_append, List.nil_append]); refine R_p rfl ?_ rfl rfl; (refine R_eff0 (E_store1 rfl rfl rfl rfl rfl rfl (by show _ < 3; omega)) ?_ rfl; rintro _ _ rfl); refine R_nil ?_)
  refine S_draw ([pt b 25 (ntc A5 n c5 A6 n2 c6), pt b3 30 ((pkc (f, t, D, cd, bs)).set (0 + 2) (.slice A' bs.length c'))]) sub_st (by kernel_rfl) rfl (by kernel_rfl) (by kernel_rfl : _ = 12) ?_
  refine D_take 0 rfl (pev_ok rfl) ?_ rfl rfl (by kernel_rfl) (by kernel_rfl)
  refine D_take 1 rfl (pev_ok rfl) ?_ rfl rfl (by kernel_rfl) (by kernel_rfl)
  refine D_take 2 rfl (T_nilCheck rfl) ?_ rfl rfl (by kernel_rfl) (by kernel_rfl)
  refine D_take 3 rfl (pev_ok rfl) ?_ rfl rfl (by kernel_rfl) (by kernel_rfl)
  refine D_take 4 rfl (T_load rfl rfl rfl rfl) ?_ rfl rfl (by kernel_rfl) (by kernel_rfl)
  refine D_take 5 rfl (T_loads (ds := [.int .i64 f, .int .i64 t, .slice A' bs.length c']) rfl rfl rfl rfl rfl) ?_ rfl rfl (by kernel_rfl) (by kernel_rfl)
  refine D_one 6 rfl (E_litS (vs := [.agg ([.int .i64 f, .int .i64 t, .slice A' bs.length c']).toArray]) (size := 3) (ds := [.int .i64 f, .int .i64 t, .slice A' bs.length c']) rfl rfl rfl rfl rfl rfl (by simp [vcells]) rfl (by omega)) ?_ rfl rfl (by kernel_rfl)
  rintro _ _ ⟨vb, rfl, rfl⟩
  refine Nx_same sub_st ?_
  refine D_one 7 rfl (E_lit1 (m := 2) (vs := [.slice A5 n c5, .slice (some ⟨vb, 0, none⟩) 1 1]) rfl rfl rfl rfl rfl rfl rfl (by simp [Value.oneCell']) (by decide)) ?_ rfl rfl (by kernel_rfl)
  rintro _ _ ⟨va, rfl, rfl⟩
  refine Nx_same sub_st ?_
  refine D_one 8 rfl (E_hvG (f := 39) ⟨_, Try.func39, rfl, by kernel_rfl⟩ (fun w hS => concat_any w va A5 n c5 vb (cellsL pkc P5) ([.int .i64 f, .int .i64 t, .slice A' bs.length c']) ((Srd.pt (n := 2) (g := va) (size := 1) (ds := [.slice A5 n c5, .slice (some ⟨vb, 0, none⟩) 1 1]) rfl (fun j u hj => by rw [Nat.zero_add]; exact hj)).rd w hS) ((Srd.row (A := A5) (n := n) (c := c5)).rd w hS) ((Srd.pt (n := 1) (g := vb) (ds := [.int .i64 f, .int .i64 t, .slice A' bs.length c']) rfl (fun j u hj => by rw [Nat.zero_add]; exact hj)).rd w hS) (pk_ones P5) (by simp [Value.oneCell']) hn) rfl rfl) ?_ rfl rfl (by kernel_rfl)
  rintro _ _ ⟨⟨A7, c7⟩, rfl, _, rfl⟩; dsimp only [List.cons_append, List.nil_append]
  refine Nx_same sub_st ?_
  refine D_take 9 rfl (T_nilCheck rfl) ?_ rfl rfl (by kernel_rfl) (by kernel_rfl)
  refine D_take 10 rfl (pev_ok rfl) ?_ rfl rfl (by kernel_rfl) (by kernel_rfl)
  refine D_one 11 rfl (E_store1 rfl rfl rfl rfl rfl rfl (by show _ < 2; omega)) ?_ rfl rfl (by kernel_rfl)
  rintro _ _ rfl
  refine Nx_pivot (by kernel_rfl) ?_
  refine D_done ?_ (by kernel_rfl)
  skip
  skip
  refine hB _ _ fun w' hS => ⟨((A7, c7), ⟨P5 ++ [(f, t, A', c', bs)], by rw [List.map_append, hP, hmv]; rfl, fun m hm => ?_⟩, (A6, c6)), trivial, ?_⟩
  · have hf := row_facts (hS.at_ (A := row 5 1 A' bs.length c' (bs.map bv)) (by simp))
    rcases List.mem_append.1 hm with h | h
    · exact hcap m h
    · rw [List.mem_singleton.1 h]
      exact hf.1
  dsimp only
  have h1 := sub_st (H' := [row 5 1 A' bs.length c' (bs.map bv), dtB 5 (P5.map pkd), pt b 25 ((ntc A5 n c5 A6 n2 c6).set (0 + 0) (.slice A7 (n + 1) c7)), row 30 3 A7 (n + 1) c7 (cellsL pkc P5 ++ [.int .i64 f, .int .i64 t, .slice A' bs.length c']), row 73 2 A6 n2 c6 (cellsL ctc C), B0]) w' hS
  have h2 : St w (owns [pt b 25 (ntc A5 n c5 A6 n2 c6), row 30 3 A5 n c5 (cellsL pkc P5), dtB 5 (P5.map pkd), row 73 2 A6 n2 c6 (cellsL ctc C), B0]) [dtA 5 (A', c', bs), dtB 5 (P5.map pkd), pt b 25 (ntc A7 (n + 1) c7 A6 n2 c6), row 30 3 A7 (n + 1) c7 (cellsL pkc P5 ++ [.int .i64 f, .int .i64 t, .slice A' bs.length c']), row 73 2 A6 n2 c6 (cellsL ctc C), B0] w' := h1
  have h3 := dtB_put h2
  have e1 : pkc (f, t, A', c', bs) = [.int .i64 f, .int .i64 t, .slice A' bs.length c'] := rfl
  rw [cellsL_app, cellsL_one, e1, List.map_append]
  exact sub_st (H' := [pt b 25 (ntc A7 (n + 1) c7 A6 n2 c6), row 30 3 A7 (n + 1) c7 (cellsL pkc P5 ++ [.int .i64 f, .int .i64 t, .slice A' bs.length c']), dtB 5 (P5.map pkd ++ [(A', c', bs)]), row 73 2 A6 n2 c6 (cellsL ctc C), B0]) w' h3
theorem doubleE {q0 : Bool} {n : Nat} {at_ e : Int} {Q : Nat → Prop} (he : q0 = false ∧ e = 330 ∨ q0 = true ∧ ((at_ < 0 ∨ (n : Int) ≤ at_) ∧ e = 2 ∨ (∃ q : Nat, at_ = (q : Int) ∧ q < n) ∧ 80 ≤ n ∧ e = 6)) (hch : q0 = true) (hQ : ∀ q : Nat, q < n → 80 ≤ n ∧ e = 6 → Q q) : (at_ < 0 ∨ (n : Int) ≤ at_) ∧ e = 2 ∨ ∃ q : Nat, at_ = (q : Int) ∧ q < n ∧ Q q := by
  rcases he with ⟨h1, _⟩ | ⟨_, h2⟩
  · rw [hch] at h1
    cases h1
  · rcases h2 with h2 | ⟨⟨q, h3, h4⟩, h5⟩
    · exact .inl h2
    · exact .inr ⟨q, h3, h4, hQ q h4 h5⟩
set_option maxRecDepth 100000 in
set_option maxHeartbeats 4000000 in
theorem double_bad (w : World) (A : Option Addr) (c n : Nat) (P : List Pk) (W : List Pn) (hk : P.length = n) (hW : P.map pkv = W) (h : Rd w All 3 A n (cellsL pkc P)) (A2 : Option Addr) (c2' n2 : Nat) (C : List Ct) (hk2 : C.length = n2) (h2 : Rd w All 2 A2 n2 (cellsL ctc C)) (hn : n ≤ 1000) (hn2 : n2 ≤ 1000) (at_ : Int) (e : Int) (he : chkB W C = false ∧ e = 330 ∨ chkB W C = true ∧ ((at_ < 0 ∨ (n : Int) ≤ at_) ∧ e = 2 ∨ (∃ q : Nat, at_ = (q : Int) ∧ q < n) ∧ 80 ≤ n ∧ e = 6)) :
    Gives Try.prog 13 [.agg (ntc A n c A2 n2 c2').toArray, .int .i64 at_] [] w (X := Unit) (fun _ => .tuple #[.agg (ntc none 0 0 none 0 0).toArray, .int .i64 e]) (fun _ => True) (fun _ => []) := by
  refine gives_C Try.func13 rfl Try.ntmps13 Try.results13 (by simp) (St.enter w) (fun B hB => ?_)
  focus (refine S_seq rfl ?_; refine S_region rfl rfl ?_; (refine R_eff (E_boxa (cs := ntc A n c A2 n2 c2') rfl) ?_ rfl rfl; rintro _ _ ⟨b2, rfl, rfl⟩); (refine R_eff (E_box1 (v := .int .i64 at_) rfl rfl) ?_ rfl rfl; rintro _ _ ⟨b3, rfl, rfl⟩); (refine R_eff (E_alloca rfl nt_zero) ?_ rfl rfl; rintro _ _ ⟨b4, rfl, rfl⟩); refine R_p rfl ?_ rfl rfl; refine R_nil ?_; refine S_seq rfl ?_; refine S_region rfl rfl ?_; refine R_take (T_func rfl rfl) ?_ rfl rfl; refine R_p rfl ?_ rfl rfl; refine R_nil ?_; refine S_seq rfl ?_)
  refine S_draw ([pt b2 25 (ntc A n c A2 n2 c2'), pt b3 3 [.int .i64 at_]]) sub_st (by kernel_rfl) rfl (by kernel_rfl) (by kernel_rfl : _ = 11) ?_
  refine D_take 0 rfl (T_loads (ds := ntc A n c A2 n2 c2') rfl rfl rfl rfl rfl) ?_ rfl rfl (by kernel_rfl) (by kernel_rfl)
  refine D_take 1 rfl (T_loads (ds := ntc A n c A2 n2 c2') rfl rfl rfl rfl rfl) ?_ rfl rfl (by kernel_rfl) (by kernel_rfl)
  refine D_take 2 rfl (T_load rfl rfl rfl rfl) ?_ rfl rfl (by kernel_rfl) (by kernel_rfl)
  refine D_take 3 rfl (pev_ok rfl) ?_ rfl rfl (by kernel_rfl) (by kernel_rfl)
  refine D_take 5 rfl (T_func rfl rfl) ?_ rfl rfl (by kernel_rfl) (by kernel_rfl)
  refine D_one 4 rfl (E_hvG (f := 29) ⟨_, Try.func29, rfl, by kernel_rfl⟩ (fun w hS => there_any w (ntc A n c A2 n2 c2') rfl (ntc_one _ _ _ _ _ _) at_ 36 [.pointer (some ⟨b2, 0, none⟩)]) rfl rfl) ?_ rfl rfl (by kernel_rfl)
  rintro _ _ ⟨⟨bt, bn, bg⟩, rfl, _, rfl⟩; dsimp only [List.cons_append, List.nil_append]
  refine Nx_same sub_st ?_
  refine D_one 6 rfl (E_hv0 (f := 28) ⟨_, Try.func28, rfl, by kernel_rfl⟩ (fun w hS => turn_bad w A c n P W hk hW ((Srd.old h (fun k _ => noOwns k)).rd w hS) A2 c2' n2 C hk2 ((Srd.old h2 (fun k _ => noOwns k)).rd w hS) hn hn2 56 (.func (.func 37) #[] ([.pointer (some ⟨b3, 0, none⟩)] : List Value).toArray) [.pointer (some ⟨bt, 0, none⟩), .pointer (some ⟨bn, 0, none⟩), .pointer (some ⟨bg, 0, none⟩)] ⟨_, Try.func56, rfl, by kernel_rfl⟩ e (he.imp id fun h3 => ⟨h3.1, by rcases h3.2 with h4 | h4 <;> omega⟩) (fun hch w' hS' => there1_any w' bt bn bg at_ A c n P hk (((Srd.old h (fun k _ => noOwns k)).rd w hS).keep hS'.kpO) A2 c2' n2 36 [.pointer (some ⟨b2, 0, none⟩)] ⟨_, Try.func36, rfl, by kernel_rfl⟩ (((Srd.pt (n := 1) (g := bt) (size := 1) (ds := [.int .i64 at_]) rfl (fun j u hj => by rw [Nat.zero_add]; exact hj)).rd w hS).keep hS'.kpO) (((Srd.pt (n := 2) (g := bn) (size := 1) (ds := ntc A n c A2 n2 c2') rfl (fun j u hj => by rw [Nat.zero_add]; exact hj)).rd w hS).keep hS'.kpO) (((Srd.pt (n := 1) (g := bg) (size := 1) (ds := [.func (.func 36) #[] ([.pointer (some ⟨b2, 0, none⟩)] : List Value).toArray]) rfl (fun j u hj => by rw [Nat.zero_add]; exact hj)).rd w hS).keep hS'.kpO) hn e (doubleE he hch (fun q hq h80 w'' hk => double1_any w'' b2 _ A c n A2 c2' n2 ((((Srd.pt (n := 2) (g := b2) (size := 1) (ds := ntc A n c A2 n2 c2') rfl (fun j u hj => by rw [Nat.zero_add]; exact hj)).rd w hS).keep hS'.kpO).keep hk) e (by rw [if_pos h80.1]; exact h80.2.symm))))) rfl rfl (fun _ => rfl)) ?_ rfl rfl (by kernel_rfl)
  rintro _ _ ⟨_, rfl, _, rfl⟩
  refine Nx_same sub_st ?_
  refine D_take 7 rfl (pev_ok rfl) ?_ rfl rfl (by kernel_rfl) (by kernel_rfl)
  refine D_take 8 rfl (pev_ok rfl) ?_ rfl rfl (by kernel_rfl) (by kernel_rfl)
  refine D_one 9 rfl (E_storew (cs := ntc none 0 0 none 0 0) (ds := ntc none 0 0 none 0 0) rfl rfl rfl rfl (ntc_one _ _ _ _ _ _) rfl) ?_ rfl rfl (by kernel_rfl)
  rintro _ _ rfl
  refine Nx_same sub_st ?_
  refine D_take 10 rfl (pev_ok rfl) ?_ rfl rfl (by kernel_rfl) (by kernel_rfl)
  refine D_done ?_ (by kernel_rfl)
  skip
  skip
  refine hB _ _ _ _ _ rfl (.cell rfl rfl rfl inferInstance rfl (.tmp rfl .nil)) fun w' hS => ⟨(), rfl, trivial, hS.sublist (List.nil_sublist _)⟩
set_option maxRecDepth 100000 in
set_option maxHeartbeats 4000000 in
theorem double_ok (w : World) (A : Option Addr) (c n : Nat) (P : List Pk) (W : List Pn) (hk : P.length = n) (hW : P.map pkv = W) (h : Rd w All 3 A n (cellsL pkc P)) (A2 : Option Addr) (c2' n2 : Nat) (C : List Ct) (hk2 : C.length = n2) (h2 : Rd w All 2 A2 n2 (cellsL ctc C)) (hn : n ≤ 500) (hn2 : n2 ≤ 1000) (hd : RDt w All (P.map pkd)) (hkk : ∀ m ∈ P, m.2.2.2.2.length ≤ 100000) (hch : chkB W C = true) (q : Nat) (hq : q < n) (h80 : n < 80) :
    Gives Try.prog 13 [.agg (ntc A n c A2 n2 c2').toArray, .int .i64 (q : Int)] [] w (X := (Option Addr × Nat) × ShP (W ++ [W.getD q default]) × (Option Addr × Nat)) (fun y => .tuple #[.agg (ntc y.1.1 (n + 1) y.1.2 y.2.2.1 n2 y.2.2.2).toArray, .int .i64 0]) (fun _ => True) (fun y => [row 30 3 y.1.1 (n + 1) y.1.2 (cellsL pkc y.2.1.1), dtB 5 (y.2.1.1.map pkd), row 73 2 y.2.2.1 n2 y.2.2.2 (cellsL ctc C)]) := by
  refine gives_C Try.func13 rfl Try.ntmps13 Try.results13 (by simp) (St.enter w) (fun B hB => ?_)
  have hWn : W.length = n := by rw [← hW, List.length_map, hk]
  have hkW : ∀ x ∈ W, x.2.2.length ≤ 100000 := fun x hx => by
    rw [← hW] at hx
    obtain ⟨m, hm, rfl⟩ := List.mem_map.1 hx
    exact hkk m hm
  refine RS_mem (fun w hS => dtB_nil (e := 5) hS) ?_
  focus (refine S_seq rfl ?_; refine S_region rfl rfl ?_; (refine R_eff (E_boxa (cs := ntc A n c A2 n2 c2') rfl) ?_ rfl rfl; rintro _ _ ⟨b2, rfl, rfl⟩); (refine R_eff (E_box1 (v := .int .i64 (q : Int)) rfl rfl) ?_ rfl rfl; rintro _ _ ⟨b3, rfl, rfl⟩); (refine R_eff (E_alloca rfl nt_zero) ?_ rfl rfl; rintro _ _ ⟨b4, rfl, rfl⟩); refine R_p rfl ?_ rfl rfl; refine R_nil ?_; refine S_seq rfl ?_; refine S_region rfl rfl ?_; refine R_take (T_func rfl rfl) ?_ rfl rfl; refine R_p rfl ?_ rfl rfl; refine R_nil ?_; refine S_seq rfl ?_)
  refine S_draw ([pt b2 25 (ntc A n c A2 n2 c2'), pt b3 3 [.int .i64 (q : Int)]]) sub_st (by kernel_rfl) rfl (by kernel_rfl) (by kernel_rfl : _ = 11) ?_
  refine D_take 0 rfl (T_loads (ds := ntc A n c A2 n2 c2') rfl rfl rfl rfl rfl) ?_ rfl rfl (by kernel_rfl) (by kernel_rfl)
  refine D_take 1 rfl (T_loads (ds := ntc A n c A2 n2 c2') rfl rfl rfl rfl rfl) ?_ rfl rfl (by kernel_rfl) (by kernel_rfl)
  refine D_take 2 rfl (T_load rfl rfl rfl rfl) ?_ rfl rfl (by kernel_rfl) (by kernel_rfl)
  refine D_take 3 rfl (pev_ok rfl) ?_ rfl rfl (by kernel_rfl) (by kernel_rfl)
  refine D_take 5 rfl (T_func rfl rfl) ?_ rfl rfl (by kernel_rfl) (by kernel_rfl)
  refine D_one 4 rfl (E_hvG (f := 29) ⟨_, Try.func29, rfl, by kernel_rfl⟩ (fun w hS => there_any w (ntc A n c A2 n2 c2') rfl (ntc_one _ _ _ _ _ _) (q : Int) 36 [.pointer (some ⟨b2, 0, none⟩)]) rfl rfl) ?_ rfl rfl (by kernel_rfl)
  rintro _ _ ⟨⟨bt, bn, bg⟩, rfl, _, rfl⟩; dsimp only [List.cons_append, List.nil_append]
  refine Nx_same sub_st ?_
  refine D_one 6 rfl (E_htG (f := 28) (A1 := dtB 5 []) ⟨_, Try.func28, rfl, by kernel_rfl⟩ (fun w hS hS2 => turn_ok w A c n P W hk hW ((Srd.old h (fun k _ => noOwns k)).rd w hS) A2 c2' n2 C hk2 ((Srd.old h2 (fun k _ => noOwns k)).rd w hS) (by omega) (by omega) ((SDt.old hd (fun k _ => noOwns k)).rd w hS) hkk hch 56 37 [.pointer (some ⟨bt, 0, none⟩), .pointer (some ⟨bn, 0, none⟩), .pointer (some ⟨bg, 0, none⟩)] [.pointer (some ⟨b3, 0, none⟩)] ⟨_, Try.func56, rfl, by kernel_rfl⟩ ⟨_, Try.func37, rfl, by kernel_rfl⟩ (dtB 5 []) hS2 (Y := (Option Addr × Nat) × ShP (W ++ [W.getD q default]) × (Option Addr × Nat)) (fun _ => True) (fun y => ntc y.1.1 (n + 1) y.1.2 y.2.2.1 n2 y.2.2.2) (fun y => [row 30 3 y.1.1 (n + 1) y.1.2 (cellsL pkc y.2.1.1), dtB 5 (y.2.1.1.map pkd), row 73 2 y.2.2.1 n2 y.2.2.2 (cellsL ctc C), dtB 5 []]) (fun _ => rfl) (fun _ => ntc_one _ _ _ _ _ _) (rd_one h (by decide) (fun k => noOwns k) hS) (rd_one h2 (by decide) (fun k => noOwns k) hS) (rdt_one hd (fun k => noOwns k) hS) (fun w' hS' => there1_any w' bt bn bg (q : Int) A c n P hk (rd_keep (rd_one h (by decide) (fun k => noOwns k) hS) hS' (fun k hk => hk)) A2 c2' n2 36 [.pointer (some ⟨b2, 0, none⟩)] ⟨_, Try.func36, rfl, by kernel_rfl⟩ (rd_keep (pt_apart (b := bt) hS rfl) hS' (fun k hk => hk)) (rd_keep (pt_apart (b := bn) hS rfl) hS' (fun k hk => hk)) (rd_keep (pt_apart (b := bg) hS rfl) hS' (fun k hk => hk)) (by omega) 0 (.inr ⟨q, rfl, hq, fun w'' hk => double1_any w'' b2 _ A c n A2 c2' n2 ((rd_keep (pt_apart (b := b2) hS rfl) hS' (fun k hk => hk)).keep hk) 0 (by rw [if_neg (by omega)])⟩)) (fun w' b A5 c5 P5 A6 c6 hS' hS'' => double2_any w' W b b3 A5 c5 n P5 A6 c6 n2 C (dtB 5 []) hWn hn q hq hkW (rd_in (pt_apart (b := b3) hS rfl) (by decide) hS' (fun k hk => hk)) hS'')) rfl rfl) ?_ rfl rfl (by kernel_rfl)
  rintro _ _ ⟨⟨⟨A7, c7⟩, P7, ⟨A8, c8⟩⟩, rfl, _, rfl⟩; dsimp only [List.cons_append, List.nil_append]
  refine Nx_same sub_st ?_
  refine D_take 7 rfl (pev_ok rfl) ?_ rfl rfl (by kernel_rfl) (by kernel_rfl)
  refine D_take 8 rfl (pev_ok rfl) ?_ rfl rfl (by kernel_rfl) (by kernel_rfl)
  refine D_one 9 rfl (E_storew (cs := ntc none 0 0 none 0 0) (ds := ntc A7 (n + 1) c7 A8 n2 c8) rfl rfl rfl rfl (ntc_one _ _ _ _ _ _) rfl) ?_ rfl rfl (by kernel_rfl)
  rintro _ _ rfl
  refine Nx_same sub_st ?_
  refine D_take 10 rfl (pev_ok rfl) ?_ rfl rfl (by kernel_rfl) (by kernel_rfl)
  refine D_done ?_ (by kernel_rfl)
  skip
  skip
  refine hB _ _ _ _ _ rfl (.cell rfl rfl rfl inferInstance rfl (.tmp rfl .nil)) fun w' hS => ⟨((A7, c7), P7, (A8, c8)), rfl, trivial, sub_st w' hS⟩
end Go.Proofs.Ytclmaoagdkhboaa
