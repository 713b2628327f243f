/- Nets: Deliver. -/
import Derived.Test.YtclmaoagdkhboaaNt9
namespace Go.Proofs.Ytclmaoagdkhboaa
open Go.RowKit
open Asn (pt row rb)
set_option linter.unusedVariables false
set_option linter.unusedSimpArgs false
--@use N

set_option maxRecDepth 100000 in
set_option maxHeartbeats 4000000 in
theorem deliver1_any (w : World) (bn : Nat) (m : Pk) (A : Option Addr) (c n : Nat) (P : List Pk) (W : List Pn) (hk : P.length = n) (hW : P.map pkv = W) (h : Rd w All 3 A n (cellsL pkc P)) (A2 : Option Addr) (c2' n2 : Nat) (C : List Ct) (hk2 : C.length = n2) (h2 : Rd w All 2 A2 n2 (cellsL ctc C)) (hn : n ≤ 1000) (hn2 : n2 ≤ 1000) (h3 : Rd w All 1 (some ⟨bn, 0, none⟩) 2 (ntc A n c A2 n2 c2')) (e : Int) (he : (if partP C m.1 m.2.1 = true then 331 else 0) = e) :
    Gives Try.prog 30 [.agg (pkc m).toArray, .pointer (some ⟨bn, 0, none⟩)] [] w (X := Unit) (fun _ => .int .i64 e) (fun _ => True) (fun _ => []) := by
  refine gives_S Try.func30 rfl Try.ntmps30 Try.results30 (by simp) (St.enter w) (fun B hB => ?_)
  obtain ⟨r, hr⟩ : ∃ r, partP C m.1 m.2.1 = r := ⟨_, rfl⟩
  rw [hr] at he
  cases r
  · rw [if_neg Bool.false_ne_true] at he
    subst he
    focus (refine S_seq rfl ?_; refine S_region rfl rfl ?_; (refine R_eff (E_boxa (cs := pkc m) rfl) ?_ rfl rfl; rintro _ _ ⟨b2, rfl, rfl⟩); refine R_p rfl ?_ rfl rfl; refine R_nil ?_; refine S_seq rfl ?_; refine S_seq rfl ?_; refine S_region rfl rfl ?_; refine R_take (T_loadgs (m := 2) (sz := 1) (xs := ntc A n c A2 n2 c2') (ds := ntc A n c A2 n2 c2') rfl rfl rfl h3 (fun k _ => noOwns k) rfl (by decide) rfl) ?_ rfl rfl; refine R_take (T_loads (ds := pkc m) rfl rfl rfl rfl rfl) ?_ rfl rfl; (refine R_eff (E_hv0 (f := 31) ⟨_, Try.func31, rfl, by kernel_rfl⟩ (fun w hS => parted_k w A c n P W hk hW ((Srd.old h (fun k _ => noOwns k)).rd w hS) A2 c2' n2 C hk2 ((Srd.old h2 (fun k _ => noOwns k)).rd w hS) hn hn2 m _ hr) rfl rfl (fun _ => rfl)) ?_ rfl rfl; rintro _ _ ⟨_, rfl, _, rfl⟩); refine R_nil ?_; refine S_false rfl rfl ?_; refine S_skip rfl ?_; refine S_seq rfl ?_; refine S_region rfl rfl ?_; refine R_p rfl ?_ rfl rfl; refine R_nil ?_)
    exact hB _ _ _ _ _ rfl rfl fun w' hS => ⟨(), rfl, trivial, hS.sublist (List.nil_sublist _)⟩
  · rw [if_pos rfl] at he
    subst he
    focus (refine S_seq rfl ?_; refine S_region rfl rfl ?_; (refine R_eff (E_boxa (cs := pkc m) rfl) ?_ rfl rfl; rintro _ _ ⟨b2, rfl, rfl⟩); refine R_p rfl ?_ rfl rfl; refine R_nil ?_; refine S_seq rfl ?_; refine S_seq rfl ?_; refine S_region rfl rfl ?_; refine R_take (T_loadgs (m := 2) (sz := 1) (xs := ntc A n c A2 n2 c2') (ds := ntc A n c A2 n2 c2') rfl rfl rfl h3 (fun k _ => noOwns k) rfl (by decide) rfl) ?_ rfl rfl; refine R_take (T_loads (ds := pkc m) rfl rfl rfl rfl rfl) ?_ rfl rfl; (refine R_eff (E_hv0 (f := 31) ⟨_, Try.func31, rfl, by kernel_rfl⟩ (fun w hS => parted_k w A c n P W hk hW ((Srd.old h (fun k _ => noOwns k)).rd w hS) A2 c2' n2 C hk2 ((Srd.old h2 (fun k _ => noOwns k)).rd w hS) hn hn2 m _ hr) rfl rfl (fun _ => rfl)) ?_ rfl rfl; rintro _ _ ⟨_, rfl, _, rfl⟩); refine R_nil ?_; refine S_true rfl rfl ?_; refine S_seq rfl ?_; refine S_region rfl rfl ?_; refine R_p rfl ?_ rfl rfl; refine R_nil ?_)
    exact hB _ _ _ _ _ rfl rfl fun w' hS => ⟨(), rfl, trivial, hS.sublist (List.nil_sublist _)⟩
theorem getW {P : List Pk} {W : List Pn} {n q : Nat} (hk : P.length = n) (hW : P.map pkv = W) (hq : q < n) : W.getD q default = pkv (P.getD q default) := by
  rw [← hW]
  simp [List.getD, show q < P.length by omega]
theorem deliverE {q0 : Bool} {n : Nat} {at_ e : Int} {R Q : Nat → Prop} (he : q0 = false ∧ e = 330 ∨ q0 = true ∧ ((at_ < 0 ∨ (n : Int) ≤ at_) ∧ e = 2 ∨ (∃ q : Nat, at_ = (q : Int) ∧ q < n ∧ R q) ∧ e = 331)) (hch : q0 = true) (hQ : ∀ q : Nat, q < n → R q ∧ e = 331 → Q q) : (at_ < 0 ∨ (n : Int) ≤ at_) ∧ e = 2 ∨ ∃ q : Nat, at_ = (q : Int) ∧ q < n ∧ Q q := by
  rcases he with ⟨h1, _⟩ | ⟨_, h2⟩
  · rw [hch] at h1
    cases h1
  · rcases h2 with h2 | ⟨⟨q, h3, h4, h6⟩, h5⟩
    · exact .inl h2
    · exact .inr ⟨q, h3, h4, hQ q h4 ⟨h6, h5⟩⟩
set_option maxRecDepth 100000 in
set_option maxHeartbeats 4000000 in
theorem deliver2_any (w : World) (W : List Pn) (b ba bp : Nat) (A5 : Option Addr) (c5 n : Nat) (P5 : ShP W) (A6 : Option Addr) (c6 n2 : Nat) (C : List Ct) (hl : W.length = n) (hn : n ≤ 500) (q : Nat) (hq : q < n) (hR : Rd w (fun k => ¬ owns [pt b 25 (ntc A5 n c5 A6 n2 c6), row 30 3 A5 n c5 (cellsL pkc P5.1), dtB 5 (P5.1.map pkd), row 73 2 A6 n2 c6 (cellsL ctc C), pt bp 30 (pkc (0, 0, none, 0, []))] k) 1 (some ⟨ba, 0, none⟩) 1 [.int .i64 (q : Int)]) (hS0 : St w (owns [pt b 25 (ntc A5 n c5 A6 n2 c6), row 30 3 A5 n c5 (cellsL pkc P5.1), dtB 5 (P5.1.map pkd), row 73 2 A6 n2 c6 (cellsL ctc C), pt bp 30 (pkc (0, 0, none, 0, []))]) [pt b 25 (ntc A5 n c5 A6 n2 c6), row 30 3 A5 n c5 (cellsL pkc P5.1), dtB 5 (P5.1.map pkd), row 73 2 A6 n2 c6 (cellsL ctc C), pt bp 30 (pkc (0, 0, none, 0, []))] w) :
    Gives Try.prog 32 [.pointer (some ⟨b, 0, none⟩), .pointer (some ⟨ba, 0, none⟩), .pointer (some ⟨bp, 0, none⟩)] [pt b 25 (ntc A5 n c5 A6 n2 c6), row 30 3 A5 n c5 (cellsL pkc P5.1), dtB 5 (P5.1.map pkd), row 73 2 A6 n2 c6 (cellsL ctc C), pt bp 30 (pkc (0, 0, none, 0, []))] w (X := ((Option Addr × Nat) × ShP (del W q) × (Option Addr × Nat)) × {m : Pk // pkv m = W.getD q default ∧ m.2.2.2.2.length ≤ m.2.2.2.1}) (fun _ => .tuple #[]) (fun _ => True) (fun y => pt b 25 (ntc y.1.1.1 (q + (n - (q + 1))) y.1.1.2 y.1.2.2.1 n2 y.1.2.2.2) :: [row 30 3 y.1.1.1 (q + (n - (q + 1))) y.1.1.2 (cellsL pkc y.1.2.1.1), dtB 5 (y.1.2.1.1.map pkd), row 73 2 y.1.2.2.1 n2 y.1.2.2.2 (cellsL ctc C), dtA 5 (pkd y.2.1), pt bp 30 (pkc y.2.1)]) := by
  refine gives_N2 Try.func32 rfl Try.ntmps32 Try.results32 (by simp) hS0 (fun B hB hB2 => ?_)
  obtain ⟨P5, hP, hcap⟩ := P5
  dsimp only at hS0 hR hB hB2 ⊢
  have hl5 : P5.length = n := (pk_len hP).trans hl
  have hat := cellsL_at (f := pkc) pkc_len P5 default q (by omega)
  obtain ⟨m, hm⟩ : ∃ m, P5.getD q default = m := ⟨_, rfl⟩
  have hmi : m ∈ P5 := by rw [← hm]; simp [List.getD, show q < P5.length by omega]
  have hmv : pkv m = W.getD q default := by rw [← hP, ← hm]; simp [List.getD, show q < P5.length by omega]
  have hsp : P5.map pkd = (P5.take q).map pkd ++ pkd m :: (P5.drop (q + 1)).map pkd := by
    conv => lhs; rw [← List.take_append_drop q P5, List.drop_eq_getElem_cons (show q < P5.length by omega)]
    rw [List.map_append, List.map_cons]
    congr 2
    rw [← hm]
    simp [List.getD, show q < P5.length by omega]
  have hcm := hcap m hmi
  rw [hm] at hat
  refine RS_row A5 n c5 fun _ _ hne _ => ?_
  have hne := hne (by omega)
  focus (refine S_seq rfl ?_)
  refine S_draw ([pt b 25 (ntc A5 n c5 A6 n2 c6), row 30 3 A5 n c5 (cellsL pkc P5)]) sub_st (by kernel_rfl) rfl (by kernel_rfl) (by kernel_rfl : _ = 8) ?_
  refine D_take 0 rfl (pev_ok rfl) ?_ rfl rfl (by kernel_rfl) (by kernel_rfl)
  refine D_take 1 rfl (T_nilCheck rfl) ?_ rfl rfl (by kernel_rfl) (by kernel_rfl)
  refine D_take 2 rfl (pev_ok rfl) ?_ rfl rfl (by kernel_rfl) (by kernel_rfl)
  refine D_take 3 rfl (T_load rfl rfl rfl rfl) ?_ rfl rfl (by kernel_rfl) (by kernel_rfl)
  refine D_take 4 rfl (T_loadg rfl rfl rfl hR (fun k hk => hk) rfl) ?_ rfl rfl (by kernel_rfl) (by kernel_rfl)
  refine D_take 5 rfl (T_ixM (sz := 3) (q := q) rfl rfl rfl rfl rfl rfl hne hq) ?_ rfl rfl (by kernel_rfl) (by kernel_rfl)
  refine D_take 6 rfl (T_lda (ds := pkc m) rfl rfl rfl (Srd.row (A := A5) (n := n) (c := c5)) rfl (by omega) hat) ?_ rfl rfl (by kernel_rfl) (by kernel_rfl)
  refine D_one 7 rfl (E_storew (cs := pkc (0, 0, none, 0, [])) (ds := pkc m) rfl rfl rfl rfl (pkc_one _) rfl) ?_ rfl rfl (by kernel_rfl)
  rintro _ _ rfl
  refine Nx_same sub_st ?_
  refine D_done ?_ (by kernel_rfl)
  skip
  skip
  refine S_draw ([pt b 25 (ntc A5 n c5 A6 n2 c6)]) sub_st (by kernel_rfl) rfl (by kernel_rfl) (by kernel_rfl : _ = 12) ?_
  refine D_take 0 rfl (pev_ok rfl) ?_ rfl rfl (by kernel_rfl) (by kernel_rfl)
  refine D_take 1 rfl (pev_ok rfl) ?_ rfl rfl (by kernel_rfl) (by kernel_rfl)
  refine D_take 2 rfl (T_nilCheck rfl) ?_ rfl rfl (by kernel_rfl) (by kernel_rfl)
  refine D_take 3 rfl (pev_ok rfl) ?_ rfl rfl (by kernel_rfl) (by kernel_rfl)
  refine D_take 4 rfl (T_load rfl rfl rfl rfl) ?_ rfl rfl (by kernel_rfl) (by kernel_rfl)
  refine D_take 5 rfl (T_loadg rfl rfl rfl hR (fun k hk => hk) rfl) ?_ rfl rfl (by kernel_rfl) (by kernel_rfl)
  refine D_take 6 rfl (T_loadg rfl rfl rfl hR (fun k hk => hk) rfl) ?_ rfl rfl (by kernel_rfl) (by kernel_rfl)
  (refine D_take 7 rfl (T_addN rfl rfl (by unfold fits; omega)) ?_ rfl rfl (by kernel_rfl) (by kernel_rfl))
  refine D_one 8 rfl (E_ht1 (f := 33) (A1 := row 30 3 A5 n c5 (cellsL pkc P5)) ⟨_, Try.func33, rfl, by kernel_rfl⟩ (fun w _ hS => deleteP_any w A5 n c5 q (q + 1) (cellsL pkc P5) (by omega) (by omega) (by omega) (pk_ones P5) hS) rfl rfl (fun _ => rfl)) ?_ rfl rfl (by kernel_rfl)
  rintro _ _ ⟨⟨A7, c7⟩, rfl, _, rfl⟩
  refine Nx_same sub_st ?_
  refine D_take 9 rfl (T_nilCheck rfl) ?_ rfl rfl (by kernel_rfl) (by kernel_rfl)
  refine D_take 10 rfl (pev_ok rfl) ?_ rfl rfl (by kernel_rfl) (by kernel_rfl)
  refine D_one 11 rfl (E_store1 rfl rfl rfl rfl rfl rfl (by show _ < 2; omega)) ?_ rfl rfl (by kernel_rfl)
  rintro _ _ rfl
  refine Nx_pivot (by kernel_rfl) ?_
  refine D_done ?_ (by kernel_rfl)
  skip
  skip
  refine hB _ _ fun w' hS => ⟨(((A7, c7), ⟨del P5 q, by rw [del_map, hP], fun m hm => hcap m ((del_sub P5 q).subset hm)⟩, (A6, c6)), ⟨m, hmv, hcm⟩), trivial, ?_⟩
  dsimp only
  have h1 := sub_st (H' := [dtB 5 (P5.map pkd), pt b 25 ((ntc A5 n c5 A6 n2 c6).set (0 + 0) (.slice A7 (q + (n - (q + 1))) c7)), row 30 3 A7 (q + (n - (q + 1))) c7 ((cellsL pkc P5).take (q * 3) ++ (cellsL pkc P5).drop ((q + 1) * 3)), row 73 2 A6 n2 c6 (cellsL ctc C), pt bp 30 (pkc m)]) w' hS
  rw [del_cells] at h1
  have h1b : St w (owns [pt b 25 (ntc A5 n c5 A6 n2 c6), row 30 3 A5 n c5 (cellsL pkc P5), dtB 5 (P5.map pkd), row 73 2 A6 n2 c6 (cellsL ctc C), pt bp 30 (pkc (0, 0, none, 0, []))]) (dtB 5 ((P5.take q).map pkd ++ pkd m :: (P5.drop (q + 1)).map pkd) :: [pt b 25 (ntc A7 (q + (n - (q + 1))) c7 A6 n2 c6), row 30 3 A7 (q + (n - (q + 1))) c7 (cellsL pkc (del P5 q)), row 73 2 A6 n2 c6 (cellsL ctc C), pt bp 30 (pkc m)]) w' := by
    rw [← hsp]
    exact h1
  have h2 := dtB_take h1b
  rw [← List.map_append] at h2
  have h2 : St w (owns [pt b 25 (ntc A5 n c5 A6 n2 c6), row 30 3 A5 n c5 (cellsL pkc P5), dtB 5 (P5.map pkd), row 73 2 A6 n2 c6 (cellsL ctc C), pt bp 30 (pkc (0, 0, none, 0, []))]) [dtA 5 (pkd m), dtB 5 ((del P5 q).map pkd), pt b 25 (ntc A7 (q + (n - (q + 1))) c7 A6 n2 c6), row 30 3 A7 (q + (n - (q + 1))) c7 (cellsL pkc (del P5 q)), row 73 2 A6 n2 c6 (cellsL ctc C), pt bp 30 (pkc m)] w' := h2
  exact sub_st (H' := [pt b 25 (ntc A7 (q + (n - (q + 1))) c7 A6 n2 c6), row 30 3 A7 (q + (n - (q + 1))) c7 (cellsL pkc (del P5 q)), dtB 5 ((del P5 q).map pkd), row 73 2 A6 n2 c6 (cellsL ctc C), dtA 5 (pkd m), pt bp 30 (pkc m)]) w' h2
set_option maxRecDepth 100000 in
set_option maxHeartbeats 4000000 in
theorem deliver_bad (w : World) (A : Option Addr) (c n : Nat) (P : List Pk) (W : List Pn) (hk : P.length = n) (hW : P.map pkv = W) (h : Rd w All 3 A n (cellsL pkc P)) (A2 : Option Addr) (c2' n2 : Nat) (C : List Ct) (hk2 : C.length = n2) (h2 : Rd w All 2 A2 n2 (cellsL ctc C)) (hn : n ≤ 1000) (hn2 : n2 ≤ 1000) (at_ : Int) (e : Int) (he : chkB W C = false ∧ e = 330 ∨ chkB W C = true ∧ ((at_ < 0 ∨ (n : Int) ≤ at_) ∧ e = 2 ∨ (∃ q : Nat, at_ = (q : Int) ∧ q < n ∧ partP C (W.getD q default).1 (W.getD q default).2.1 = true) ∧ e = 331)) :
    Gives Try.prog 10 [.agg (ntc A n c A2 n2 c2').toArray, .int .i64 at_] [] w (X := Unit) (fun _ => .tuple #[.agg (ntc none 0 0 none 0 0).toArray, .agg (pkc (0, 0, none, 0, [])).toArray, .int .i64 e]) (fun _ => True) (fun _ => []) := by
  refine gives_C Try.func10 rfl Try.ntmps10 Try.results10 (by simp) (St.enter w) (fun B hB => ?_)
  focus (refine S_seq rfl ?_; refine S_region rfl rfl ?_; (refine R_eff (E_boxa (cs := ntc A n c A2 n2 c2') rfl) ?_ rfl rfl; rintro _ _ ⟨b2, rfl, rfl⟩); (refine R_eff (E_box1 (v := .int .i64 at_) rfl rfl) ?_ rfl rfl; rintro _ _ ⟨b3, rfl, rfl⟩); (refine R_eff (E_alloca rfl nt_zero) ?_ rfl rfl; rintro _ _ ⟨b4, rfl, rfl⟩); (refine R_eff (E_alloca rfl pk_zero) ?_ rfl rfl; rintro _ _ ⟨bp, rfl, rfl⟩); refine R_p rfl ?_ rfl rfl; refine R_nil ?_; refine S_seq rfl ?_; refine S_region rfl rfl ?_; (refine R_eff (E_alloca rfl pk_zero) ?_ rfl rfl; rintro _ _ ⟨bp, rfl, rfl⟩); refine R_nil ?_; refine S_seq rfl ?_)
  rename_i b5
  refine S_cut (X := Nat) (fun b8 => [(4, .pointer (some ⟨b4, 0, none⟩)), (5, .pointer (some ⟨b5, 0, none⟩)), (7, .pointer (some ⟨bp, 0, none⟩)), (8, .pointer (some ⟨b8, 0, none⟩)), (9, .int .i64 e)]) (fun b8 => [pt b8 25 (ntc none 0 0 none 0 0), pt bp 30 (pkc (0, 0, none, 0, [])), pt b4 25 (ntc none 0 0 none 0 0), pt b5 30 (pkc (0, 0, none, 0, []))]) (fun _ => True) (fun J hJ => ?_) (fun b8 _ => ?_)
  · skip
    refine S_draw ([pt b2 25 (ntc A n c A2 n2 c2'), pt b3 3 [.int .i64 at_]]) sub_st (by kernel_rfl) rfl (by kernel_rfl) (by kernel_rfl : _ = 13) ?_
    refine D_take 0 rfl (T_loads (ds := ntc A n c A2 n2 c2') rfl rfl rfl rfl rfl) ?_ rfl rfl (by kernel_rfl) (by kernel_rfl)
    refine D_take 1 rfl (T_loads (ds := ntc A n c A2 n2 c2') rfl rfl rfl rfl rfl) ?_ rfl rfl (by kernel_rfl) (by kernel_rfl)
    refine D_take 2 rfl (T_load rfl rfl rfl rfl) ?_ rfl rfl (by kernel_rfl) (by kernel_rfl)
    refine D_take 3 rfl (T_func rfl rfl) ?_ rfl rfl (by kernel_rfl) (by kernel_rfl)
    refine D_take 5 rfl (T_func rfl rfl) ?_ rfl rfl (by kernel_rfl) (by kernel_rfl)
    refine D_two 4 10 (by decide) rfl rfl (E_hvG (f := 29) ⟨_, Try.func29, rfl, by kernel_rfl⟩ (fun w hS => there_any w (ntc A n c A2 n2 c2') rfl (ntc_one _ _ _ _ _ _) at_ 30 [.pointer (some ⟨b2, 0, none⟩)]) rfl rfl) (E_alloca rfl nt_zero) ?_ ?_ rfl rfl rfl rfl (by kernel_rfl)
    · rintro _ _ ⟨⟨bt, bn, bg⟩, rfl, _, rfl⟩; dsimp only [List.cons_append, List.nil_append]
      refine Nx_same sub_st ?_
      refine D_two 6 10 (by decide) rfl rfl (E_hv0 (f := 28) ⟨_, Try.func28, rfl, by kernel_rfl⟩ (fun w hS => turn_bad w A c n P W hk hW ((Srd.old h (fun k _ => noOwns k)).rd w hS) A2 c2' n2 C hk2 ((Srd.old h2 (fun k _ => noOwns k)).rd w hS) hn hn2 56 (.func (.func 32) #[] ([.pointer (some ⟨b3, 0, none⟩), .pointer (some ⟨bp, 0, none⟩)] : List Value).toArray) [.pointer (some ⟨bt, 0, none⟩), .pointer (some ⟨bn, 0, none⟩), .pointer (some ⟨bg, 0, none⟩)] ⟨_, Try.func56, rfl, by kernel_rfl⟩ e (he.imp id fun h3 => ⟨h3.1, by rcases h3.2 with h4 | h4 <;> omega⟩) (fun hch w' hS' => there1_any w' bt bn bg at_ A c n P hk (((Srd.old h (fun k _ => noOwns k)).rd w hS).keep hS'.kpO) A2 c2' n2 30 [.pointer (some ⟨b2, 0, none⟩)] ⟨_, Try.func30, rfl, by kernel_rfl⟩ (((Srd.pt (n := 1) (g := bt) (size := 1) (ds := [.int .i64 at_]) rfl (fun j u hj => by rw [Nat.zero_add]; exact hj)).rd w hS).keep hS'.kpO) (((Srd.pt (n := 2) (g := bn) (size := 1) (ds := ntc A n c A2 n2 c2') rfl (fun j u hj => by rw [Nat.zero_add]; exact hj)).rd w hS).keep hS'.kpO) (((Srd.pt (n := 1) (g := bg) (size := 1) (ds := [.func (.func 30) #[] ([.pointer (some ⟨b2, 0, none⟩)] : List Value).toArray]) rfl (fun j u hj => by rw [Nat.zero_add]; exact hj)).rd w hS).keep hS'.kpO) hn e (deliverE he hch (fun q hq hp w'' hk' => deliver1_any w'' b2 _ A c n P W hk hW ((((Srd.old h (fun k _ => noOwns k)).rd w hS).keep hS'.kpO).keep hk') A2 c2' n2 C hk2 ((((Srd.old h2 (fun k _ => noOwns k)).rd w hS).keep hS'.kpO).keep hk') hn hn2 ((((Srd.pt (n := 2) (g := b2) (size := 1) (ds := ntc A n c A2 n2 c2') rfl (fun j u hj => by rw [Nat.zero_add]; exact hj)).rd w hS).keep hS'.kpO).keep hk') e (by rw [getW hk hW hq] at hp; exact (if_pos hp.1).trans hp.2.symm))))) rfl rfl (fun _ => rfl)) (E_alloca rfl nt_zero) ?_ ?_ rfl rfl rfl rfl (by kernel_rfl)
      · rintro _ _ ⟨_, rfl, _, rfl⟩
        refine Nx_same sub_st ?_
        refine D_take 7 rfl (pev_ok rfl) ?_ rfl rfl (by kernel_rfl) (by kernel_rfl)
        refine D_take 8 rfl (pev_ok rfl) ?_ rfl rfl (by kernel_rfl) (by kernel_rfl)
        refine D_take 9 rfl (pev_ok rfl) ?_ rfl rfl (by kernel_rfl) (by kernel_rfl)
        refine D_one 10 rfl (E_alloca rfl nt_zero) ?_ rfl rfl (by kernel_rfl)
        rintro _ _ ⟨b8, rfl, rfl⟩
        refine Nx_same sub_st ?_
        refine D_one 11 rfl (E_storew (cs := ntc none 0 0 none 0 0) (ds := ntc none 0 0 none 0 0) rfl rfl rfl rfl (ntc_one _ _ _ _ _ _) rfl) ?_ rfl rfl (by kernel_rfl)
        rintro _ _ rfl
        refine Nx_same sub_st ?_
        refine D_take 12 rfl (pev_ok rfl) ?_ rfl rfl (by kernel_rfl) (by kernel_rfl)
        refine D_done ?_ (by kernel_rfl)
        (skip; exact hJ b8 _ _ trivial (Sub.cons rfl (Sub.cons rfl (Sub.cons rfl (Sub.cons rfl (Sub.cons rfl Sub.nil))))) sub_st)
      · rintro _ _ ⟨b8, rfl, rfl⟩
        refine Nx_same sub_st ?_
        refine D_one 6 rfl (E_hv0 (f := 28) ⟨_, Try.func28, rfl, by kernel_rfl⟩ (fun w hS => turn_bad w A c n P W hk hW ((Srd.old h (fun k _ => noOwns k)).rd w hS) A2 c2' n2 C hk2 ((Srd.old h2 (fun k _ => noOwns k)).rd w hS) hn hn2 56 (.func (.func 32) #[] ([.pointer (some ⟨b3, 0, none⟩), .pointer (some ⟨bp, 0, none⟩)] : List Value).toArray) [.pointer (some ⟨bt, 0, none⟩), .pointer (some ⟨bn, 0, none⟩), .pointer (some ⟨bg, 0, none⟩)] ⟨_, Try.func56, rfl, by kernel_rfl⟩ e (he.imp id fun h3 => ⟨h3.1, by rcases h3.2 with h4 | h4 <;> omega⟩) (fun hch w' hS' => there1_any w' bt bn bg at_ A c n P hk (((Srd.old h (fun k _ => noOwns k)).rd w hS).keep hS'.kpO) A2 c2' n2 30 [.pointer (some ⟨b2, 0, none⟩)] ⟨_, Try.func30, rfl, by kernel_rfl⟩ (((Srd.pt (n := 1) (g := bt) (size := 1) (ds := [.int .i64 at_]) rfl (fun j u hj => by rw [Nat.zero_add]; exact hj)).rd w hS).keep hS'.kpO) (((Srd.pt (n := 2) (g := bn) (size := 1) (ds := ntc A n c A2 n2 c2') rfl (fun j u hj => by rw [Nat.zero_add]; exact hj)).rd w hS).keep hS'.kpO) (((Srd.pt (n := 1) (g := bg) (size := 1) (ds := [.func (.func 30) #[] ([.pointer (some ⟨b2, 0, none⟩)] : List Value).toArray]) rfl (fun j u hj => by rw [Nat.zero_add]; exact hj)).rd w hS).keep hS'.kpO) hn e (deliverE he hch (fun q hq hp w'' hk' => deliver1_any w'' b2 _ A c n P W hk hW ((((Srd.old h (fun k _ => noOwns k)).rd w hS).keep hS'.kpO).keep hk') A2 c2' n2 C hk2 ((((Srd.old h2 (fun k _ => noOwns k)).rd w hS).keep hS'.kpO).keep hk') hn hn2 ((((Srd.pt (n := 2) (g := b2) (size := 1) (ds := ntc A n c A2 n2 c2') rfl (fun j u hj => by rw [Nat.zero_add]; exact hj)).rd w hS).keep hS'.kpO).keep hk') e (by rw [getW hk hW hq] at hp; exact (if_pos hp.1).trans hp.2.symm))))) rfl rfl (fun _ => rfl)) ?_ rfl rfl (by kernel_rfl)
        rintro _ _ ⟨_, rfl, _, rfl⟩
        refine Nx_same sub_st ?_
        refine D_take 7 rfl (pev_ok rfl) ?_ rfl rfl (by kernel_rfl) (by kernel_rfl)
        refine D_take 8 rfl (pev_ok rfl) ?_ rfl rfl (by kernel_rfl) (by kernel_rfl)
        refine D_take 9 rfl (pev_ok rfl) ?_ rfl rfl (by kernel_rfl) (by kernel_rfl)
        refine D_one 11 rfl (E_storew (cs := ntc none 0 0 none 0 0) (ds := ntc none 0 0 none 0 0) rfl rfl rfl rfl (ntc_one _ _ _ _ _ _) rfl) ?_ rfl rfl (by kernel_rfl)
        rintro _ _ rfl
        refine Nx_same sub_st ?_
        refine D_take 12 rfl (pev_ok rfl) ?_ rfl rfl (by kernel_rfl) (by kernel_rfl)
        refine D_done ?_ (by kernel_rfl)
        (skip; exact hJ b8 _ _ trivial (Sub.cons rfl (Sub.cons rfl (Sub.cons rfl (Sub.cons rfl (Sub.cons rfl Sub.nil))))) sub_st)
    · rintro _ _ ⟨b8, rfl, rfl⟩
      refine Nx_same sub_st ?_
      refine D_one 4 rfl (E_hvG (f := 29) ⟨_, Try.func29, rfl, by kernel_rfl⟩ (fun w hS => there_any w (ntc A n c A2 n2 c2') rfl (ntc_one _ _ _ _ _ _) at_ 30 [.pointer (some ⟨b2, 0, none⟩)]) rfl rfl) ?_ rfl rfl (by kernel_rfl)
      rintro _ _ ⟨⟨bt, bn, bg⟩, rfl, _, rfl⟩; dsimp only [List.cons_append, List.nil_append]
      refine Nx_same sub_st ?_
      refine D_one 6 rfl (E_hv0 (f := 28) ⟨_, Try.func28, rfl, by kernel_rfl⟩ (fun w hS => turn_bad w A c n P W hk hW ((Srd.old h (fun k _ => noOwns k)).rd w hS) A2 c2' n2 C hk2 ((Srd.old h2 (fun k _ => noOwns k)).rd w hS) hn hn2 56 (.func (.func 32) #[] ([.pointer (some ⟨b3, 0, none⟩), .pointer (some ⟨bp, 0, none⟩)] : List Value).toArray) [.pointer (some ⟨bt, 0, none⟩), .pointer (some ⟨bn, 0, none⟩), .pointer (some ⟨bg, 0, none⟩)] ⟨_, Try.func56, rfl, by kernel_rfl⟩ e (he.imp id fun h3 => ⟨h3.1, by rcases h3.2 with h4 | h4 <;> omega⟩) (fun hch w' hS' => there1_any w' bt bn bg at_ A c n P hk (((Srd.old h (fun k _ => noOwns k)).rd w hS).keep hS'.kpO) A2 c2' n2 30 [.pointer (some ⟨b2, 0, none⟩)] ⟨_, Try.func30, rfl, by kernel_rfl⟩ (((Srd.pt (n := 1) (g := bt) (size := 1) (ds := [.int .i64 at_]) rfl (fun j u hj => by rw [Nat.zero_add]; exact hj)).rd w hS).keep hS'.kpO) (((Srd.pt (n := 2) (g := bn) (size := 1) (ds := ntc A n c A2 n2 c2') rfl (fun j u hj => by rw [Nat.zero_add]; exact hj)).rd w hS).keep hS'.kpO) (((Srd.pt (n := 1) (g := bg) (size := 1) (ds := [.func (.func 30) #[] ([.pointer (some ⟨b2, 0, none⟩)] : List Value).toArray]) rfl (fun j u hj => by rw [Nat.zero_add]; exact hj)).rd w hS).keep hS'.kpO) hn e (deliverE he hch (fun q hq hp w'' hk' => deliver1_any w'' b2 _ A c n P W hk hW ((((Srd.old h (fun k _ => noOwns k)).rd w hS).keep hS'.kpO).keep hk') A2 c2' n2 C hk2 ((((Srd.old h2 (fun k _ => noOwns k)).rd w hS).keep hS'.kpO).keep hk') hn hn2 ((((Srd.pt (n := 2) (g := b2) (size := 1) (ds := ntc A n c A2 n2 c2') rfl (fun j u hj => by rw [Nat.zero_add]; exact hj)).rd w hS).keep hS'.kpO).keep hk') e (by rw [getW hk hW hq] at hp; exact (if_pos hp.1).trans hp.2.symm))))) rfl rfl (fun _ => rfl)) ?_ rfl rfl (by kernel_rfl)
      rintro _ _ ⟨_, rfl, _, rfl⟩
      refine Nx_same sub_st ?_
      refine D_take 7 rfl (pev_ok rfl) ?_ rfl rfl (by kernel_rfl) (by kernel_rfl)
      refine D_take 8 rfl (pev_ok rfl) ?_ rfl rfl (by kernel_rfl) (by kernel_rfl)
      refine D_take 9 rfl (pev_ok rfl) ?_ rfl rfl (by kernel_rfl) (by kernel_rfl)
      refine D_one 11 rfl (E_storew (cs := ntc none 0 0 none 0 0) (ds := ntc none 0 0 none 0 0) rfl rfl rfl rfl (ntc_one _ _ _ _ _ _) rfl) ?_ rfl rfl (by kernel_rfl)
      rintro _ _ rfl
      refine Nx_same sub_st ?_
      refine D_take 12 rfl (pev_ok rfl) ?_ rfl rfl (by kernel_rfl) (by kernel_rfl)
      refine D_done ?_ (by kernel_rfl)
      (skip; exact hJ b8 _ _ trivial (Sub.cons rfl (Sub.cons rfl (Sub.cons rfl (Sub.cons rfl (Sub.cons rfl Sub.nil))))) sub_st)
  focus (refine S_seq rfl ?_)
  refine S_draw ([pt b8 25 (ntc none 0 0 none 0 0), pt bp 30 (pkc (0, 0, none, 0, []))]) sub_st (by kernel_rfl) rfl (by kernel_rfl) (by kernel_rfl : _ = 6) ?_
  refine D_take 0 rfl (T_loads (ds := ntc none 0 0 none 0 0) rfl rfl rfl rfl rfl) ?_ rfl rfl (by kernel_rfl) (by kernel_rfl)
  refine D_take 1 rfl (T_loads (ds := pkc (0, 0, none, 0, [])) rfl rfl rfl rfl rfl) ?_ rfl rfl (by kernel_rfl) (by kernel_rfl)
  refine D_take 2 rfl (pev_ok rfl) ?_ rfl rfl (by kernel_rfl) (by kernel_rfl)
  refine D_one 3 rfl (E_storew (cs := ntc none 0 0 none 0 0) (ds := ntc none 0 0 none 0 0) rfl rfl rfl rfl (ntc_one _ _ _ _ _ _) rfl) ?_ rfl rfl (by kernel_rfl)
  rintro _ _ rfl
  refine Nx_same sub_st ?_
  refine D_one 4 rfl (E_storew (cs := pkc (0, 0, none, 0, [])) (ds := pkc (0, 0, none, 0, [])) rfl rfl rfl rfl (pkc_one _) rfl) ?_ rfl rfl (by kernel_rfl)
  rintro _ _ rfl
  refine Nx_same sub_st ?_
  refine D_take 5 rfl (pev_ok rfl) ?_ rfl rfl (by kernel_rfl) (by kernel_rfl)
  refine D_done ?_ (by kernel_rfl)
  skip
  skip
  refine hB _ _ _ _ _ rfl (.cell rfl rfl rfl inferInstance rfl (.cell rfl rfl rfl inferInstance rfl (.tmp rfl .nil))) fun w' hS => ⟨(), rfl, trivial, hS.sublist (List.nil_sublist _)⟩
set_option maxRecDepth 100000 in
set_option maxHeartbeats 4000000 in
theorem deliver_ok (w : World) (A : Option Addr) (c n : Nat) (P : List Pk) (W : List Pn) (hk : P.length = n) (hW : P.map pkv = W) (h : Rd w All 3 A n (cellsL pkc P)) (A2 : Option Addr) (c2' n2 : Nat) (C : List Ct) (hk2 : C.length = n2) (h2 : Rd w All 2 A2 n2 (cellsL ctc C)) (hn : n ≤ 500) (hn2 : n2 ≤ 1000) (hd : RDt w All (P.map pkd)) (hkk : ∀ m ∈ P, m.2.2.2.2.length ≤ 100000) (hch : chkB W C = true) (q : Nat) (hq : q < n) (hnp : partP C (W.getD q default).1 (W.getD q default).2.1 = false) :
    Gives Try.prog 10 [.agg (ntc A n c A2 n2 c2').toArray, .int .i64 (q : Int)] [] w (X := ((Option Addr × Nat) × ShP (del W q) × (Option Addr × Nat)) × {m : Pk // pkv m = W.getD q default ∧ m.2.2.2.2.length ≤ m.2.2.2.1}) (fun y => .tuple #[.agg (ntc y.1.1.1 (q + (n - (q + 1))) y.1.1.2 y.1.2.2.1 n2 y.1.2.2.2).toArray, .agg (pkc y.2.1).toArray, .int .i64 0]) (fun _ => True) (fun y => [row 30 3 y.1.1.1 (q + (n - (q + 1))) y.1.1.2 (cellsL pkc y.1.2.1.1), dtB 5 (y.1.2.1.1.map pkd), row 73 2 y.1.2.2.1 n2 y.1.2.2.2 (cellsL ctc C), dtA 5 (pkd y.2.1)]) := by
  refine gives_C Try.func10 rfl Try.ntmps10 Try.results10 (by simp) (St.enter w) (fun B hB => ?_)
  have hWn : W.length = n := by rw [← hW, List.length_map, hk]
  rw [getW hk hW hq] at hnp
  focus (refine S_seq rfl ?_; refine S_region rfl rfl ?_; (refine R_eff (E_boxa (cs := ntc A n c A2 n2 c2') rfl) ?_ rfl rfl; rintro _ _ ⟨b2, rfl, rfl⟩); (refine R_eff (E_box1 (v := .int .i64 (q : Int)) rfl rfl) ?_ rfl rfl; rintro _ _ ⟨b3, rfl, rfl⟩); (refine R_eff (E_alloca rfl nt_zero) ?_ rfl rfl; rintro _ _ ⟨b4, rfl, rfl⟩); (refine R_eff (E_alloca rfl pk_zero) ?_ rfl rfl; rintro _ _ ⟨bp, rfl, rfl⟩); refine R_p rfl ?_ rfl rfl; refine R_nil ?_; refine S_seq rfl ?_; refine S_region rfl rfl ?_; (refine R_eff (E_alloca rfl pk_zero) ?_ rfl rfl; rintro _ _ ⟨bp, rfl, rfl⟩); refine R_nil ?_; refine S_seq rfl ?_)
  rename_i b5
  refine S_cut (X := Nat × ((((Option Addr × Nat) × ShP (del W q) × (Option Addr × Nat)) × {m : Pk // pkv m = W.getD q default ∧ m.2.2.2.2.length ≤ m.2.2.2.1}))) (fun x => [(4, .pointer (some ⟨b4, 0, none⟩)), (5, .pointer (some ⟨b5, 0, none⟩)), (7, .pointer (some ⟨bp, 0, none⟩)), (8, .pointer (some ⟨x.1, 0, none⟩)), (9, .int .i64 0)]) (fun x => [pt x.1 25 (ntc x.2.1.1.1 (q + (n - (q + 1))) x.2.1.1.2 x.2.1.2.2.1 n2 x.2.1.2.2.2), row 30 3 x.2.1.1.1 (q + (n - (q + 1))) x.2.1.1.2 (cellsL pkc x.2.1.2.1.1), dtB 5 (x.2.1.2.1.1.map pkd), row 73 2 x.2.1.2.2.1 n2 x.2.1.2.2.2 (cellsL ctc C), dtA 5 (pkd x.2.2.1), pt bp 30 (pkc x.2.2.1), pt b4 25 (ntc none 0 0 none 0 0), pt b5 30 (pkc (0, 0, none, 0, []))]) (fun _ => True) (fun J hJ => ?_) (fun x _ => ?_)
  · skip
    refine S_draw ([pt b2 25 (ntc A n c A2 n2 c2'), pt b3 3 [.int .i64 (q : Int)]]) sub_st (by kernel_rfl) rfl (by kernel_rfl) (by kernel_rfl : _ = 13) ?_
    refine D_take 0 rfl (T_loads (ds := ntc A n c A2 n2 c2') rfl rfl rfl rfl rfl) ?_ rfl rfl (by kernel_rfl) (by kernel_rfl)
    refine D_take 1 rfl (T_loads (ds := ntc A n c A2 n2 c2') rfl rfl rfl rfl rfl) ?_ rfl rfl (by kernel_rfl) (by kernel_rfl)
    refine D_take 2 rfl (T_load rfl rfl rfl rfl) ?_ rfl rfl (by kernel_rfl) (by kernel_rfl)
    refine D_take 3 rfl (T_func rfl rfl) ?_ rfl rfl (by kernel_rfl) (by kernel_rfl)
    refine D_take 5 rfl (T_func rfl rfl) ?_ rfl rfl (by kernel_rfl) (by kernel_rfl)
    refine D_two 4 10 (by decide) rfl rfl (E_hvG (f := 29) ⟨_, Try.func29, rfl, by kernel_rfl⟩ (fun w hS => there_any w (ntc A n c A2 n2 c2') rfl (ntc_one _ _ _ _ _ _) (q : Int) 30 [.pointer (some ⟨b2, 0, none⟩)]) rfl rfl) (E_alloca rfl nt_zero) ?_ ?_ rfl rfl rfl rfl (by kernel_rfl)
    · rintro _ _ ⟨⟨bt, bn, bg⟩, rfl, _, rfl⟩; dsimp only [List.cons_append, List.nil_append]
      refine Nx_same sub_st ?_
      refine D_two 6 10 (by decide) rfl rfl (E_htG (f := 28) (A1 := pt bp 30 (pkc (0, 0, none, 0, []))) ⟨_, Try.func28, rfl, by kernel_rfl⟩ (fun w hS hS2 => turn_ok w A c n P W hk hW ((Srd.old h (fun k _ => noOwns k)).rd w hS) A2 c2' n2 C hk2 ((Srd.old h2 (fun k _ => noOwns k)).rd w hS) (by omega) (by omega) ((SDt.old hd (fun k _ => noOwns k)).rd w hS) hkk hch 56 32 [.pointer (some ⟨bt, 0, none⟩), .pointer (some ⟨bn, 0, none⟩), .pointer (some ⟨bg, 0, none⟩)] [.pointer (some ⟨b3, 0, none⟩), .pointer (some ⟨bp, 0, none⟩)] ⟨_, Try.func56, rfl, by kernel_rfl⟩ ⟨_, Try.func32, rfl, by kernel_rfl⟩ (pt bp 30 (pkc (0, 0, none, 0, []))) hS2 (Y := ((Option Addr × Nat) × ShP (del W q) × (Option Addr × Nat)) × {m : Pk // pkv m = W.getD q default ∧ m.2.2.2.2.length ≤ m.2.2.2.1}) (fun _ => True) (fun y => ntc y.1.1.1 (q + (n - (q + 1))) y.1.1.2 y.1.2.2.1 n2 y.1.2.2.2) (fun y => [row 30 3 y.1.1.1 (q + (n - (q + 1))) y.1.1.2 (cellsL pkc y.1.2.1.1), dtB 5 (y.1.2.1.1.map pkd), row 73 2 y.1.2.2.1 n2 y.1.2.2.2 (cellsL ctc C), dtA 5 (pkd y.2.1), pt bp 30 (pkc y.2.1)]) (fun _ => rfl) (fun _ => ntc_one _ _ _ _ _ _) (rd_one h (by decide) (fun k => noOwns k) hS) (rd_one h2 (by decide) (fun k => noOwns k) hS) (rdt_one hd (fun k => noOwns k) hS) (fun w' hS' => there1_any w' bt bn bg (q : Int) A c n P hk (rd_keep (rd_one h (by decide) (fun k => noOwns k) hS) hS' (fun k hk => hk)) A2 c2' n2 30 [.pointer (some ⟨b2, 0, none⟩)] ⟨_, Try.func30, rfl, by kernel_rfl⟩ (rd_keep (pt_apart (b := bt) hS rfl) hS' (fun k hk => hk)) (rd_keep (pt_apart (b := bn) hS rfl) hS' (fun k hk => hk)) (rd_keep (pt_apart (b := bg) hS rfl) hS' (fun k hk => hk)) (by omega) 0 (.inr ⟨q, rfl, hq, fun w'' hk' => deliver1_any w'' b2 _ A c n P W hk hW ((rd_keep (rd_one h (by decide) (fun k => noOwns k) hS) hS' (fun k hk => hk)).keep hk') A2 c2' n2 C hk2 ((rd_keep (rd_one h2 (by decide) (fun k => noOwns k) hS) hS' (fun k hk => hk)).keep hk') (by omega) hn2 ((rd_keep (pt_apart (b := b2) hS rfl) hS' (fun k hk => hk)).keep hk') 0 (if_neg (fun h3 => Bool.false_ne_true (hnp.symm.trans h3)))⟩)) (fun w' b A5 c5 P5 A6 c6 hS' hS'' => deliver2_any w' W b b3 bp A5 c5 n P5 A6 c6 n2 C hWn hn q hq (rd_in (pt_apart (b := b3) hS rfl) (by decide) hS' (fun k hk => hk)) hS'')) rfl rfl) (E_alloca rfl nt_zero) ?_ ?_ rfl rfl rfl rfl (by kernel_rfl)
      · rintro _ _ ⟨⟨⟨⟨A7, c7⟩, P7, ⟨A8, c8⟩⟩, m7⟩, rfl, _, rfl⟩; dsimp only [List.cons_append, List.nil_append]
        refine Nx_same sub_st ?_
        refine D_take 7 rfl (pev_ok rfl) ?_ rfl rfl (by kernel_rfl) (by kernel_rfl)
        refine D_take 8 rfl (pev_ok rfl) ?_ rfl rfl (by kernel_rfl) (by kernel_rfl)
        refine D_take 9 rfl (pev_ok rfl) ?_ rfl rfl (by kernel_rfl) (by kernel_rfl)
        refine D_one 10 rfl (E_alloca rfl nt_zero) ?_ rfl rfl (by kernel_rfl)
        rintro _ _ ⟨b8, rfl, rfl⟩
        refine Nx_same sub_st ?_
        refine D_one 11 rfl (E_storew (cs := ntc none 0 0 none 0 0) (ds := ntc A7 (q + (n - (q + 1))) c7 A8 n2 c8) rfl rfl rfl rfl (ntc_one _ _ _ _ _ _) rfl) ?_ rfl rfl (by kernel_rfl)
        rintro _ _ rfl
        refine Nx_same sub_st ?_
        refine D_take 12 rfl (pev_ok rfl) ?_ rfl rfl (by kernel_rfl) (by kernel_rfl)
        refine D_done ?_ (by kernel_rfl)
        (skip; exact hJ (b8, (((A7, c7), P7, (A8, c8)), m7)) _ _ trivial (Sub.cons rfl (Sub.cons rfl (Sub.cons rfl (Sub.cons rfl (Sub.cons rfl Sub.nil))))) sub_st)
      · rintro _ _ ⟨b8, rfl, rfl⟩
        refine Nx_same sub_st ?_
        refine D_one 6 rfl (E_htG (f := 28) (A1 := pt bp 30 (pkc (0, 0, none, 0, []))) ⟨_, Try.func28, rfl, by kernel_rfl⟩ (fun w hS hS2 => turn_ok w A c n P W hk hW ((Srd.old h (fun k _ => noOwns k)).rd w hS) A2 c2' n2 C hk2 ((Srd.old h2 (fun k _ => noOwns k)).rd w hS) (by omega) (by omega) ((SDt.old hd (fun k _ => noOwns k)).rd w hS) hkk hch 56 32 [.pointer (some ⟨bt, 0, none⟩), .pointer (some ⟨bn, 0, none⟩), .pointer (some ⟨bg, 0, none⟩)] [.pointer (some ⟨b3, 0, none⟩), .pointer (some ⟨bp, 0, none⟩)] ⟨_, Try.func56, rfl, by kernel_rfl⟩ ⟨_, Try.func32, rfl, by kernel_rfl⟩ (pt bp 30 (pkc (0, 0, none, 0, []))) hS2 (Y := ((Option Addr × Nat) × ShP (del W q) × (Option Addr × Nat)) × {m : Pk // pkv m = W.getD q default ∧ m.2.2.2.2.length ≤ m.2.2.2.1}) (fun _ => True) (fun y => ntc y.1.1.1 (q + (n - (q + 1))) y.1.1.2 y.1.2.2.1 n2 y.1.2.2.2) (fun y => [row 30 3 y.1.1.1 (q + (n - (q + 1))) y.1.1.2 (cellsL pkc y.1.2.1.1), dtB 5 (y.1.2.1.1.map pkd), row 73 2 y.1.2.2.1 n2 y.1.2.2.2 (cellsL ctc C), dtA 5 (pkd y.2.1), pt bp 30 (pkc y.2.1)]) (fun _ => rfl) (fun _ => ntc_one _ _ _ _ _ _) (rd_one h (by decide) (fun k => noOwns k) hS) (rd_one h2 (by decide) (fun k => noOwns k) hS) (rdt_one hd (fun k => noOwns k) hS) (fun w' hS' => there1_any w' bt bn bg (q : Int) A c n P hk (rd_keep (rd_one h (by decide) (fun k => noOwns k) hS) hS' (fun k hk => hk)) A2 c2' n2 30 [.pointer (some ⟨b2, 0, none⟩)] ⟨_, Try.func30, rfl, by kernel_rfl⟩ (rd_keep (pt_apart (b := bt) hS rfl) hS' (fun k hk => hk)) (rd_keep (pt_apart (b := bn) hS rfl) hS' (fun k hk => hk)) (rd_keep (pt_apart (b := bg) hS rfl) hS' (fun k hk => hk)) (by omega) 0 (.inr ⟨q, rfl, hq, fun w'' hk' => deliver1_any w'' b2 _ A c n P W hk hW ((rd_keep (rd_one h (by decide) (fun k => noOwns k) hS) hS' (fun k hk => hk)).keep hk') A2 c2' n2 C hk2 ((rd_keep (rd_one h2 (by decide) (fun k => noOwns k) hS) hS' (fun k hk => hk)).keep hk') (by omega) hn2 ((rd_keep (pt_apart (b := b2) hS rfl) hS' (fun k hk => hk)).keep hk') 0 (if_neg (fun h3 => Bool.false_ne_true (hnp.symm.trans h3)))⟩)) (fun w' b A5 c5 P5 A6 c6 hS' hS'' => deliver2_any w' W b b3 bp A5 c5 n P5 A6 c6 n2 C hWn hn q hq (rd_in (pt_apart (b := b3) hS rfl) (by decide) hS' (fun k hk => hk)) hS'')) rfl rfl) ?_ rfl rfl (by kernel_rfl)
        rintro _ _ ⟨⟨⟨⟨A7, c7⟩, P7, ⟨A8, c8⟩⟩, m7⟩, rfl, _, rfl⟩; dsimp only [List.cons_append, List.nil_append]
        refine Nx_same sub_st ?_
        refine D_take 7 rfl (pev_ok rfl) ?_ rfl rfl (by kernel_rfl) (by kernel_rfl)
        refine D_take 8 rfl (pev_ok rfl) ?_ rfl rfl (by kernel_rfl) (by kernel_rfl)
        refine D_take 9 rfl (pev_ok rfl) ?_ rfl rfl (by kernel_rfl) (by kernel_rfl)
        refine D_one 11 rfl (E_storew (cs := ntc none 0 0 none 0 0) (ds := ntc A7 (q + (n - (q + 1))) c7 A8 n2 c8) rfl rfl rfl rfl (ntc_one _ _ _ _ _ _) rfl) ?_ rfl rfl (by kernel_rfl)
        rintro _ _ rfl
        refine Nx_same sub_st ?_
        refine D_take 12 rfl (pev_ok rfl) ?_ rfl rfl (by kernel_rfl) (by kernel_rfl)
        refine D_done ?_ (by kernel_rfl)
        (skip; exact hJ (b8, (((A7, c7), P7, (A8, c8)), m7)) _ _ trivial (Sub.cons rfl (Sub.cons rfl (Sub.cons rfl (Sub.cons rfl (Sub.cons rfl Sub.nil))))) sub_st)
    · rintro _ _ ⟨b8, rfl, rfl⟩
      refine Nx_same sub_st ?_
      refine D_one 4 rfl (E_hvG (f := 29) ⟨_, Try.func29, rfl, by kernel_rfl⟩ (fun w hS => there_any w (ntc A n c A2 n2 c2') rfl (ntc_one _ _ _ _ _ _) (q : Int) 30 [.pointer (some ⟨b2, 0, none⟩)]) rfl rfl) ?_ rfl rfl (by kernel_rfl)
      rintro _ _ ⟨⟨bt, bn, bg⟩, rfl, _, rfl⟩; dsimp only [List.cons_append, List.nil_append]
      refine Nx_same sub_st ?_
      refine D_one 6 rfl (E_htG (f := 28) (A1 := pt bp 30 (pkc (0, 0, none, 0, []))) ⟨_, Try.func28, rfl, by kernel_rfl⟩ (fun w hS hS2 => turn_ok w A c n P W hk hW ((Srd.old h (fun k _ => noOwns k)).rd w hS) A2 c2' n2 C hk2 ((Srd.old h2 (fun k _ => noOwns k)).rd w hS) (by omega) (by omega) ((SDt.old hd (fun k _ => noOwns k)).rd w hS) hkk hch 56 32 [.pointer (some ⟨bt, 0, none⟩), .pointer (some ⟨bn, 0, none⟩), .pointer (some ⟨bg, 0, none⟩)] [.pointer (some ⟨b3, 0, none⟩), .pointer (some ⟨bp, 0, none⟩)] ⟨_, Try.func56, rfl, by kernel_rfl⟩ ⟨_, Try.func32, rfl, by kernel_rfl⟩ (pt bp 30 (pkc (0, 0, none, 0, []))) hS2 (Y := ((Option Addr × Nat) × ShP (del W q) × (Option Addr × Nat)) × {m : Pk // pkv m = W.getD q default ∧ m.2.2.2.2.length ≤ m.2.2.2.1}) (fun _ => True) (fun y => ntc y.1.1.1 (q + (n - (q + 1))) y.1.1.2 y.1.2.2.1 n2 y.1.2.2.2) (fun y => [row 30 3 y.1.1.1 (q + (n - (q + 1))) y.1.1.2 (cellsL pkc y.1.2.1.1), dtB 5 (y.1.2.1.1.map pkd), row 73 2 y.1.2.2.1 n2 y.1.2.2.2 (cellsL ctc C), dtA 5 (pkd y.2.1), pt bp 30 (pkc y.2.1)]) (fun _ => rfl) (fun _ => ntc_one _ _ _ _ _ _) (rd_one h (by decide) (fun k => noOwns k) hS) (rd_one h2 (by decide) (fun k => noOwns k) hS) (rdt_one hd (fun k => noOwns k) hS) (fun w' hS' => there1_any w' bt bn bg (q : Int) A c n P hk (rd_keep (rd_one h (by decide) (fun k => noOwns k) hS) hS' (fun k hk => hk)) A2 c2' n2 30 [.pointer (some ⟨b2, 0, none⟩)] ⟨_, Try.func30, rfl, by kernel_rfl⟩ (rd_keep (pt_apart (b := bt) hS rfl) hS' (fun k hk => hk)) (rd_keep (pt_apart (b := bn) hS rfl) hS' (fun k hk => hk)) (rd_keep (pt_apart (b := bg) hS rfl) hS' (fun k hk => hk)) (by omega) 0 (.inr ⟨q, rfl, hq, fun w'' hk' => deliver1_any w'' b2 _ A c n P W hk hW ((rd_keep (rd_one h (by decide) (fun k => noOwns k) hS) hS' (fun k hk => hk)).keep hk') A2 c2' n2 C hk2 ((rd_keep (rd_one h2 (by decide) (fun k => noOwns k) hS) hS' (fun k hk => hk)).keep hk') (by omega) hn2 ((rd_keep (pt_apart (b := b2) hS rfl) hS' (fun k hk => hk)).keep hk') 0 (if_neg (fun h3 => Bool.false_ne_true (hnp.symm.trans h3)))⟩)) (fun w' b A5 c5 P5 A6 c6 hS' hS'' => deliver2_any w' W b b3 bp A5 c5 n P5 A6 c6 n2 C hWn hn q hq (rd_in (pt_apart (b := b3) hS rfl) (by decide) hS' (fun k hk => hk)) hS'')) rfl rfl) ?_ rfl rfl (by kernel_rfl)
      rintro _ _ ⟨⟨⟨⟨A7, c7⟩, P7, ⟨A8, c8⟩⟩, m7⟩, rfl, _, rfl⟩; dsimp only [List.cons_append, List.nil_append]
      refine Nx_same sub_st ?_
      refine D_take 7 rfl (pev_ok rfl) ?_ rfl rfl (by kernel_rfl) (by kernel_rfl)
      refine D_take 8 rfl (pev_ok rfl) ?_ rfl rfl (by kernel_rfl) (by kernel_rfl)
      refine D_take 9 rfl (pev_ok rfl) ?_ rfl rfl (by kernel_rfl) (by kernel_rfl)
      refine D_one 11 rfl (E_storew (cs := ntc none 0 0 none 0 0) (ds := ntc A7 (q + (n - (q + 1))) c7 A8 n2 c8) rfl rfl rfl rfl (ntc_one _ _ _ _ _ _) rfl) ?_ rfl rfl (by kernel_rfl)
      rintro _ _ rfl
      refine Nx_same sub_st ?_
      refine D_take 12 rfl (pev_ok rfl) ?_ rfl rfl (by kernel_rfl) (by kernel_rfl)
      refine D_done ?_ (by kernel_rfl)
      (skip; exact hJ (b8, (((A7, c7), P7, (A8, c8)), m7)) _ _ trivial (Sub.cons rfl (Sub.cons rfl (Sub.cons rfl (Sub.cons rfl (Sub.cons rfl Sub.nil))))) sub_st)
  obtain ⟨b8, ⟨⟨A7, c7⟩, P7, ⟨A8, c8⟩⟩, m7⟩ := x
  dsimp only
  focus (refine S_seq rfl ?_)
  refine S_draw ([pt b8 25 (ntc A7 (q + (n - (q + 1))) c7 A8 n2 c8), pt bp 30 (pkc m7.1)]) sub_st (by kernel_rfl) rfl (by kernel_rfl) (by kernel_rfl : _ = 6) ?_
  refine D_take 0 rfl (T_loads (ds := ntc A7 (q + (n - (q + 1))) c7 A8 n2 c8) rfl rfl rfl rfl rfl) ?_ rfl rfl (by kernel_rfl) (by kernel_rfl)
  refine D_take 1 rfl (T_loads (ds := pkc m7.1) rfl rfl rfl rfl rfl) ?_ rfl rfl (by kernel_rfl) (by kernel_rfl)
  refine D_take 2 rfl (pev_ok rfl) ?_ rfl rfl (by kernel_rfl) (by kernel_rfl)
  refine D_one 3 rfl (E_storew (cs := ntc none 0 0 none 0 0) (ds := ntc A7 (q + (n - (q + 1))) c7 A8 n2 c8) rfl rfl rfl rfl (ntc_one _ _ _ _ _ _) rfl) ?_ rfl rfl (by kernel_rfl)
  rintro _ _ rfl
  refine Nx_same sub_st ?_
  refine D_one 4 rfl (E_storew (cs := pkc (0, 0, none, 0, [])) (ds := pkc m7.1) rfl rfl rfl rfl (pkc_one _) rfl) ?_ rfl rfl (by kernel_rfl)
  rintro _ _ rfl
  refine Nx_same sub_st ?_
  refine D_take 5 rfl (pev_ok rfl) ?_ rfl rfl (by kernel_rfl) (by kernel_rfl)
  refine D_done ?_ (by kernel_rfl)
  skip
  skip
  refine hB _ _ _ _ _ rfl (.cell rfl rfl rfl inferInstance rfl (.cell rfl rfl rfl inferInstance rfl (.tmp rfl .nil))) fun w' hS => ⟨(((A7, c7), P7, (A8, c8)), m7), rfl, trivial, sub_st w' hS⟩
end Go.Proofs.Ytclmaoagdkhboaa
