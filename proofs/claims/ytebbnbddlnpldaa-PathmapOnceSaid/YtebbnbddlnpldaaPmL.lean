/- The statement PathmapChecks: which maps and edits may be, and are the same. -/
import Derived.Test.YtebbnbddlnpldaaPmJ
import Derived.Test.YtebbnbddlnpldaaPmK
import Derived.Test.YtebbnbddlnpldaaRkF
namespace Go.Proofs.Ytebbnbddlnpldaa
open Go.RowKit Go.ChangeShapes Go.WideShapes Go.ChangeAt
open Asn (pt row rb)
set_option linter.unusedVariables false
set_option linter.unusedSimpArgs false
--@use N

theorem T_bnes {P : Program} {n : Nat} {w0 : World} {M : Nat → Prop} {T : Slots} {H : List Asn} {dd : Option Tmp} {tt : TypeId} {pos : String} {af : Array Edge} {g : Option (Nat × Bool)} [HasTab P] {x y : Operand} {t u : TypeId} {b : Bool} {i : Ti} (hx : oget T x = some (.bool b)) (hy : oget T y = some (.bool b)) (ht : ty P t = some i) (hi : i.desc = .bool) :
    Tk P n w0 M T H ⟨dd, .binOp .neq t x y u, tt, pos, af, g⟩ (.bool false) := by
  have h := T_bne (n := n) (w0 := w0) (M := M) (H := H) (dd := dd) (tt := tt) (pos := pos) (af := af) (g := g) (u := u) hx hy ht hi
  rwa [show (b != b) = false by cases b <;> rfl] at h
theorem T_beqs {P : Program} {n : Nat} {w0 : World} {M : Nat → Prop} {T : Slots} {H : List Asn} {dd : Option Tmp} {tt : TypeId} {pos : String} {af : Array Edge} {g : Option (Nat × Bool)} [HasTab P] {x y : Operand} {t u : TypeId} {b : Bool} {i : Ti} (hx : oget T x = some (.bool b)) (hy : oget T y = some (.bool b)) (ht : ty P t = some i) (hi : i.desc = .bool) :
    Tk P n w0 M T H ⟨dd, .binOp .eql t x y u, tt, pos, af, g⟩ (.bool true) := by
  have h := T_beq (n := n) (w0 := w0) (M := M) (H := H) (dd := dd) (tt := tt) (pos := pos) (af := af) (g := g) (u := u) hx hy ht hi
  rwa [show (b == b) = true by cases b <;> rfl] at h
theorem Same_self (w : World) (A A2 : Option Addr) (n c n2 c2 : Nat) (L : List Rw) (h : Rd w All 2 A n (cellsL rwc L)) (h2 : Rd w All 2 A2 n2 (cellsL rwc L)) (hn : n ≤ 100000) (hn2 : n2 ≤ 100000) :
    Gives Try.prog 20 [.agg #[.slice A n c], .agg #[.slice A2 n2 c2]] [] w (X := Unit) (fun _ => .bool true) (fun _ => True) (fun _ => []) := by
  have := Same_any w A A2 n c n2 c2 L L h h2 hn hn2
  rwa [decide_eq_true (rfl : L = L)] at this
theorem SameEdit_self (w : World) (A A2 : Option Addr) (n c n2 c2 : Nat) (L : List Ch) (h : Rd w All 3 A n (cellsL chc L)) (h2 : Rd w All 3 A2 n2 (cellsL chc L)) (hn : n ≤ 100000) (hn2 : n2 ≤ 100000) :
    Gives Try.prog 21 [.agg #[.slice A n c], .agg #[.slice A2 n2 c2]] [] w (X := Unit) (fun _ => .bool true) (fun _ => True) (fun _ => []) := by
  have := SameEdit_any w A A2 n c n2 c2 L L h h2 hn hn2
  rwa [decide_eq_true (rfl : L = L)] at this
set_option maxRecDepth 100000 in
set_option maxHeartbeats 4000000 in
theorem checks_any (w : World) (A A2 A3 : Option Addr) (n c n2 c2 n3 c3 : Nat) (L M : List Rw) (C : List Ch) (h : Rd w All 2 A n (cellsL rwc L)) (h2 : Rd w All 2 A2 n2 (cellsL rwc M)) (h3 : Rd w All 3 A3 n3 (cellsL chc C)) :
    Gives Try.prog 4 [.agg #[.slice A n c], .agg #[.slice A2 n2 c2], .agg #[.slice A3 n3 c3]] [] w (X := Unit) (fun _ => .bool true) (fun _ => True) (fun _ => []) := by
  refine gives_S Try.func4 rfl Try.ntmps4 Try.results4 (by simp) (St.enter w) (fun B hB => ?_)
  have hl : L.length = n := by have := h.1; rw [cellsL_len rwc_len] at this; omega
  have hl2 : M.length = n2 := by have := h2.1; rw [cellsL_len rwc_len] at this; omega
  have hl3 : C.length = n3 := by have := h3.1; rw [cellsL_len chc_len] at this; omega
  subst hl
  subst hl2
  subst hl3
  focus (refine S_seq rfl ?_; refine S_region rfl rfl ?_; (refine R_eff (E_boxa (cs := [.slice A L.length c]) rfl) ?_ rfl rfl; rintro _ _ ⟨b3, rfl, rfl⟩); (refine R_eff (E_boxa (cs := [.slice A2 M.length c2]) rfl) ?_ rfl rfl; rintro _ _ ⟨b4, rfl, rfl⟩); (refine R_eff (E_boxa (cs := [.slice A3 C.length c3]) rfl) ?_ rfl rfl; rintro _ _ ⟨b5, rfl, rfl⟩); refine R_p rfl ?_ rfl rfl; refine R_nil ?_; refine S_seq rfl ?_; refine S_seq rfl ?_; refine S_region rfl rfl ?_; (refine R_eff (E_gv0 (f := 9) ⟨_, Try.func9, rfl, by kernel_rfl⟩ rfl (fun w hS => wakes_any w) (fun _ => rfl)) ?_ rfl rfl; rintro _ _ ⟨_, rfl, _, rfl⟩); refine R_take (T_not rfl) ?_ rfl rfl; refine R_nil ?_; refine S_false rfl rfl ?_; refine S_skip rfl ?_; refine S_seq rfl ?_; refine S_seq rfl ?_; refine S_region rfl rfl ?_; refine R_take (T_loada (ds := [.slice A L.length c]) rfl rfl rfl rfl (fun j v h => by simpa using h)) ?_ rfl rfl; refine R_take (T_loada (ds := [.slice A3 C.length c3]) rfl rfl rfl rfl (fun j v h => by simpa using h)) ?_ rfl rfl; ((refine R_eff (E_hv0 (f := 10) ⟨_, Try.func10, rfl, by kernel_rfl⟩ (fun w hS => large_any w A A3 L.length c C.length c3 L C ((Srd.old h (fun k _ => noOwns k)).rd w hS) ((Srd.old h3 (fun k _ => noOwns k)).rd w hS)) rfl rfl (fun _ => rfl)) ?_ rfl rfl; rintro _ _ ⟨bg, rfl, hbg, rfl⟩); cases bg); refine R_p rfl ?_ rfl rfl; refine R_take (T_loada (ds := [.slice A2 M.length c2]) rfl rfl rfl rfl (fun j v h => by simpa using h)) ?_ rfl rfl; refine R_take (T_loada (ds := [.slice A3 C.length c3]) rfl rfl rfl rfl (fun j v h => by simpa using h)) ?_ rfl rfl; ((refine R_eff (E_hv0 (f := 10) ⟨_, Try.func10, rfl, by kernel_rfl⟩ (fun w hS => large_any w A2 A3 M.length c2 C.length c3 M C ((Srd.old h2 (fun k _ => noOwns k)).rd w hS) ((Srd.old h3 (fun k _ => noOwns k)).rd w hS)) rfl rfl (fun _ => rfl)) ?_ rfl rfl; rintro _ _ ⟨bh, rfl, hbh, rfl⟩); cases bh); refine R_p rfl ?_ rfl rfl; refine R_nil ?_; refine S_false rfl rfl ?_; refine S_skip rfl ?_; refine S_seq rfl ?_; rotate_left; refine R_p rfl ?_ rfl rfl; refine R_nil ?_; refine S_true rfl rfl ?_; refine S_seq rfl ?_; refine S_region rfl rfl ?_; refine R_p rfl ?_ rfl rfl; refine R_nil ?_; rotate_left; refine R_p rfl ?_ rfl rfl; refine R_skip ?_ rfl rfl; refine R_skip ?_ rfl rfl; refine R_skip ?_ rfl rfl; refine R_p rfl ?_ rfl rfl; refine R_nil ?_; refine S_true rfl rfl ?_; refine S_seq rfl ?_; refine S_region rfl rfl ?_; refine R_p rfl ?_ rfl rfl; refine R_nil ?_; rotate_left)
  rotate_left
  · exact hB _ _ _ _ _ rfl rfl fun w' hS => ⟨(), rfl, trivial, hS.sublist (List.nil_sublist _)⟩
  · exact hB _ _ _ _ _ rfl rfl fun w' hS => ⟨(), rfl, trivial, hS.sublist (List.nil_sublist _)⟩
  obtain ⟨⟨hL1, hL2⟩, hC1, hC2⟩ := hbg rfl
  obtain ⟨⟨hM1, hM2⟩, _, _⟩ := hbh rfl
  have hp : ∀ x ∈ L, x.1.length ≤ 100000 := fun x hx => by have := (hL2 x hx).1; omega
  have hp2 : ∀ x ∈ C, x.1.length ≤ 100000 := fun x hx => by have := (hC2 x hx).1; omega
  refine S_cut (X := Unit) (fun _ => [(3, .pointer (some ⟨b3, 0, none⟩)), (4, .pointer (some ⟨b4, 0, none⟩)), (5, .pointer (some ⟨b5, 0, none⟩)), (7, zi (if chkR L then 0 else 150)), (8, zi (if chkC C then 0 else 151))]) (fun x => [pt b5 27 [.slice A3 C.length c3], pt b4 24 [.slice A2 M.length c2], pt b3 24 [.slice A L.length c]]) (fun _ => True) (fun J hJ => ?_) (fun x _ => ?_)
  · skip
    refine S_draw ([pt b5 27 [.slice A3 C.length c3], pt b4 24 [.slice A2 M.length c2], pt b3 24 [.slice A L.length c]]) sub_st (by kernel_rfl) rfl (by kernel_rfl) (by kernel_rfl : _ = 8) ?_
    refine D_take 0 rfl (T_loada (ds := [.slice A L.length c]) rfl rfl rfl rfl (fun j v h => by simpa using h)) ?_ rfl rfl (by kernel_rfl) (by kernel_rfl)
    refine D_take 3 rfl (T_loada (ds := [.slice A3 C.length c3]) rfl rfl rfl rfl (fun j v h => by simpa using h)) ?_ rfl rfl (by kernel_rfl) (by kernel_rfl)
    refine D_one 1 rfl (E_gv1 ⟨_, Try.func12, rfl, by kernel_rfl⟩ rfl (fun w' hS => copied_any w' A L.length c L ((Srd.old h (fun k _ => noOwns k)).rd w' hS) (by omega)) (fun _ => rfl)) ?_ rfl rfl (by kernel_rfl)
    rintro _ _ ⟨⟨A6, c6⟩, rfl, _, rfl⟩
    refine Nx_same sub_st ?_
    refine D_one 2 rfl (E_chkRW (L := L) (m := L.length) (c := c6) (A := A6) rfl (Srd.row (n := L.length) (c := c6)) (by omega) hp rfl) ?_ rfl rfl (by kernel_rfl)
    rintro _ _ ⟨rfl, rfl⟩
    refine Nx_same sub_st ?_
    refine D_one 4 rfl (E_gv1 ⟨_, Try.func13, rfl, by kernel_rfl⟩ rfl (fun w' hS => copiedEdit_any w' A3 C.length c3 C ((Srd.old h3 (fun k _ => noOwns k)).rd w' hS) (by omega)) (fun _ => rfl)) ?_ rfl rfl (by kernel_rfl)
    rintro _ _ ⟨⟨A7, c7⟩, rfl, _, rfl⟩
    refine Nx_same sub_st ?_
    refine D_one 5 rfl (E_chkCW (L := C) (m := C.length) (c := c7) (A := A7) rfl (Srd.row (n := C.length) (c := c7)) (by omega) hp2 rfl) ?_ rfl rfl (by kernel_rfl)
    rintro _ _ ⟨rfl, rfl⟩
    refine Nx_same sub_st ?_
    refine D_take 6 rfl (pev_ok rfl) ?_ rfl rfl (by kernel_rfl) (by kernel_rfl)
    refine D_take 7 rfl (pev_ok rfl) ?_ rfl rfl (by kernel_rfl) (by kernel_rfl)
    refine D_done ?_ (by kernel_rfl)
    exact hJ () _ _ trivial (Sub.cons rfl (Sub.cons rfl (Sub.cons rfl (Sub.cons rfl (Sub.cons rfl Sub.nil))))) sub_st
  refine S_seq rfl ?_
  refine S_cut (X := Unit) (fun _ => [(3, .pointer (some ⟨b3, 0, none⟩)), (4, .pointer (some ⟨b4, 0, none⟩)), (5, .pointer (some ⟨b5, 0, none⟩))]) (fun x => [pt b5 27 [.slice A3 C.length c3], pt b4 24 [.slice A2 M.length c2], pt b3 24 [.slice A L.length c]]) (fun _ => True) (fun J hJ => ?_) (fun x _ => ?_)
  · skip
    cases hr : chkR L <;> cases hrc : chkC C
    · skip
      focus (refine S_seq rfl ?_; refine S_region rfl rfl ?_; refine R_p rfl ?_ rfl rfl; refine R_take (T_decF rfl (by decide)) ?_ rfl rfl; refine R_take (T_loada (ds := [.slice A L.length c]) rfl rfl rfl rfl (fun j v h => by simpa using h)) ?_ rfl rfl; (refine R_eff (E_rightRW (L := L) (r := false) rfl (Srd.old h (fun k _ => noOwns k)) (by omega) hp hr) ?_ rfl rfl; rintro _ _ ⟨rfl, rfl⟩); refine R_take (T_bnes rfl rfl rfl rfl) ?_ rfl rfl; refine R_p rfl ?_ rfl rfl; refine R_p rfl ?_ rfl rfl; refine R_take (T_decT rfl (by decide)) ?_ rfl rfl; refine R_p rfl ?_ rfl rfl; refine R_p rfl ?_ rfl rfl; refine R_take (T_decF rfl (by decide)) ?_ rfl rfl; refine R_p rfl ?_ rfl rfl; refine R_p rfl ?_ rfl rfl; refine R_p rfl ?_ rfl rfl; refine R_p rfl ?_ rfl rfl; refine R_take (T_decF rfl (by decide)) ?_ rfl rfl; refine R_take (T_loada (ds := [.slice A3 C.length c3]) rfl rfl rfl rfl (fun j v h => by simpa using h)) ?_ rfl rfl; (refine R_eff (E_rightCW (L := C) (r := false) rfl (Srd.old h3 (fun k _ => noOwns k)) (by omega) hp2 hrc) ?_ rfl rfl; rintro _ _ ⟨rfl, rfl⟩); refine R_take (T_bnes rfl rfl rfl rfl) ?_ rfl rfl; refine R_p rfl ?_ rfl rfl; refine R_p rfl ?_ rfl rfl; refine R_p rfl ?_ rfl rfl; refine R_take (T_decT rfl (by decide)) ?_ rfl rfl; refine R_p rfl ?_ rfl rfl; refine R_p rfl ?_ rfl rfl; refine R_take (T_decF rfl (by decide)) ?_ rfl rfl; refine R_p rfl ?_ rfl rfl; refine R_p rfl ?_ rfl rfl; refine R_nil ?_; refine S_false rfl rfl ?_; refine S_skip rfl ?_)
      exact hJ () _ _ trivial (Sub.cons rfl (Sub.cons rfl (Sub.cons rfl Sub.nil))) sub_st
    · skip
      focus (refine S_seq rfl ?_; refine S_region rfl rfl ?_; refine R_p rfl ?_ rfl rfl; refine R_take (T_decF rfl (by decide)) ?_ rfl rfl; refine R_take (T_loada (ds := [.slice A L.length c]) rfl rfl rfl rfl (fun j v h => by simpa using h)) ?_ rfl rfl; (refine R_eff (E_rightRW (L := L) (r := false) rfl (Srd.old h (fun k _ => noOwns k)) (by omega) hp hr) ?_ rfl rfl; rintro _ _ ⟨rfl, rfl⟩); refine R_take (T_bnes rfl rfl rfl rfl) ?_ rfl rfl; refine R_p rfl ?_ rfl rfl; refine R_p rfl ?_ rfl rfl; refine R_take (T_decT rfl (by decide)) ?_ rfl rfl; refine R_p rfl ?_ rfl rfl; refine R_p rfl ?_ rfl rfl; refine R_take (T_decF rfl (by decide)) ?_ rfl rfl; refine R_p rfl ?_ rfl rfl; refine R_p rfl ?_ rfl rfl; refine R_p rfl ?_ rfl rfl; refine R_p rfl ?_ rfl rfl; refine R_take (T_decT rfl (by decide)) ?_ rfl rfl; refine R_take (T_loada (ds := [.slice A3 C.length c3]) rfl rfl rfl rfl (fun j v h => by simpa using h)) ?_ rfl rfl; (refine R_eff (E_rightCW (L := C) (r := true) rfl (Srd.old h3 (fun k _ => noOwns k)) (by omega) hp2 hrc) ?_ rfl rfl; rintro _ _ ⟨rfl, rfl⟩); refine R_take (T_bnes rfl rfl rfl rfl) ?_ rfl rfl; refine R_p rfl ?_ rfl rfl; refine R_p rfl ?_ rfl rfl; refine R_p rfl ?_ rfl rfl; refine R_take (T_decF rfl (by decide)) ?_ rfl rfl; refine R_p rfl ?_ rfl rfl; refine R_skip ?_ rfl rfl; refine R_skip ?_ rfl rfl; refine R_p rfl ?_ rfl rfl; refine R_p rfl ?_ rfl rfl; refine R_nil ?_; refine S_false rfl rfl ?_; refine S_skip rfl ?_)
      exact hJ () _ _ trivial (Sub.cons rfl (Sub.cons rfl (Sub.cons rfl Sub.nil))) sub_st
    · skip
      focus (refine S_seq rfl ?_; refine S_region rfl rfl ?_; refine R_p rfl ?_ rfl rfl; refine R_take (T_decT rfl (by decide)) ?_ rfl rfl; refine R_take (T_loada (ds := [.slice A L.length c]) rfl rfl rfl rfl (fun j v h => by simpa using h)) ?_ rfl rfl; (refine R_eff (E_rightRW (L := L) (r := true) rfl (Srd.old h (fun k _ => noOwns k)) (by omega) hp hr) ?_ rfl rfl; rintro _ _ ⟨rfl, rfl⟩); refine R_take (T_bnes rfl rfl rfl rfl) ?_ rfl rfl; refine R_p rfl ?_ rfl rfl; refine R_p rfl ?_ rfl rfl; refine R_take (T_decF rfl (by decide)) ?_ rfl rfl; refine R_p rfl ?_ rfl rfl; refine R_skip ?_ rfl rfl; refine R_skip ?_ rfl rfl; refine R_p rfl ?_ rfl rfl; refine R_p rfl ?_ rfl rfl; refine R_p rfl ?_ rfl rfl; refine R_p rfl ?_ rfl rfl; refine R_take (T_decF rfl (by decide)) ?_ rfl rfl; refine R_take (T_loada (ds := [.slice A3 C.length c3]) rfl rfl rfl rfl (fun j v h => by simpa using h)) ?_ rfl rfl; (refine R_eff (E_rightCW (L := C) (r := false) rfl (Srd.old h3 (fun k _ => noOwns k)) (by omega) hp2 hrc) ?_ rfl rfl; rintro _ _ ⟨rfl, rfl⟩); refine R_take (T_bnes rfl rfl rfl rfl) ?_ rfl rfl; refine R_p rfl ?_ rfl rfl; refine R_p rfl ?_ rfl rfl; refine R_p rfl ?_ rfl rfl; refine R_take (T_decT rfl (by decide)) ?_ rfl rfl; refine R_p rfl ?_ rfl rfl; refine R_p rfl ?_ rfl rfl; refine R_take (T_decF rfl (by decide)) ?_ rfl rfl; refine R_p rfl ?_ rfl rfl; refine R_p rfl ?_ rfl rfl; refine R_nil ?_; refine S_false rfl rfl ?_; refine S_skip rfl ?_)
      exact hJ () _ _ trivial (Sub.cons rfl (Sub.cons rfl (Sub.cons rfl Sub.nil))) sub_st
    · skip
      focus (refine S_seq rfl ?_; refine S_region rfl rfl ?_; refine R_p rfl ?_ rfl rfl; refine R_take (T_decT rfl (by decide)) ?_ rfl rfl; refine R_take (T_loada (ds := [.slice A L.length c]) rfl rfl rfl rfl (fun j v h => by simpa using h)) ?_ rfl rfl; (refine R_eff (E_rightRW (L := L) (r := true) rfl (Srd.old h (fun k _ => noOwns k)) (by omega) hp hr) ?_ rfl rfl; rintro _ _ ⟨rfl, rfl⟩); refine R_take (T_bnes rfl rfl rfl rfl) ?_ rfl rfl; refine R_p rfl ?_ rfl rfl; refine R_p rfl ?_ rfl rfl; refine R_take (T_decF rfl (by decide)) ?_ rfl rfl; refine R_p rfl ?_ rfl rfl; refine R_skip ?_ rfl rfl; refine R_skip ?_ rfl rfl; refine R_p rfl ?_ rfl rfl; refine R_p rfl ?_ rfl rfl; refine R_p rfl ?_ rfl rfl; refine R_p rfl ?_ rfl rfl; refine R_take (T_decT rfl (by decide)) ?_ rfl rfl; refine R_take (T_loada (ds := [.slice A3 C.length c3]) rfl rfl rfl rfl (fun j v h => by simpa using h)) ?_ rfl rfl; (refine R_eff (E_rightCW (L := C) (r := true) rfl (Srd.old h3 (fun k _ => noOwns k)) (by omega) hp2 hrc) ?_ rfl rfl; rintro _ _ ⟨rfl, rfl⟩); refine R_take (T_bnes rfl rfl rfl rfl) ?_ rfl rfl; refine R_p rfl ?_ rfl rfl; refine R_p rfl ?_ rfl rfl; refine R_p rfl ?_ rfl rfl; refine R_take (T_decF rfl (by decide)) ?_ rfl rfl; refine R_p rfl ?_ rfl rfl; refine R_skip ?_ rfl rfl; refine R_skip ?_ rfl rfl; refine R_p rfl ?_ rfl rfl; refine R_p rfl ?_ rfl rfl; refine R_nil ?_; refine S_false rfl rfl ?_; refine S_skip rfl ?_)
      exact hJ () _ _ trivial (Sub.cons rfl (Sub.cons rfl (Sub.cons rfl Sub.nil))) sub_st
  refine S_seq rfl ?_
  refine S_cut (X := Nat × Option Addr × Nat) (fun x => [(3, .pointer (some ⟨b3, 0, none⟩)), (4, .pointer (some ⟨b4, 0, none⟩)), (5, .pointer (some ⟨b5, 0, none⟩)), (9, .pointer (some ⟨x.1, 0, none⟩))]) (fun x => [pt x.1 27 [.slice x.2.1 C.length x.2.2], row 42 3 x.2.1 C.length x.2.2 (cellsL chc C), pt b5 27 [.slice A3 C.length c3], pt b4 24 [.slice A2 M.length c2], pt b3 24 [.slice A L.length c]]) (fun _ => True) (fun J hJ => ?_) (fun x _ => ?_)
  · skip
    focus (refine S_region rfl rfl ?_; refine R_take (T_loada (ds := [.slice A3 C.length c3]) rfl rfl rfl rfl (fun j v h => by simpa using h)) ?_ rfl rfl; (refine R_eff (E_hv1 (f := 13) ⟨_, Try.func13, rfl, by kernel_rfl⟩ (fun w hS => copiedEdit_any w A3 C.length c3 C ((Srd.old h3 (fun k _ => noOwns k)).rd w hS) (by omega)) rfl rfl (fun _ => rfl)) ?_ rfl rfl; rintro _ _ ⟨⟨A9, c9⟩, rfl, _, rfl⟩); (refine R_eff (E_alloca rfl ed_alloc) ?_ rfl rfl; rintro _ _ ⟨b9, rfl, rfl⟩); (refine R_eff0 (E_storew (ds := [.slice A9 C.length c9]) (cs := [.slice none 0 0]) rfl rfl rfl rfl (sl_one _ _ _) rfl) ?_ rfl; rintro _ _ rfl); refine R_nil ?_)
    exact hJ (b9, A9, c9) _ _ trivial (Sub.cons rfl (Sub.cons rfl (Sub.cons rfl (Sub.cons rfl Sub.nil)))) sub_st
  obtain ⟨b9, A9, c9⟩ := x
  dsimp only
  refine S_seq rfl ?_
  refine S_cut (X := List Ch) (fun x => [(3, .pointer (some ⟨b3, 0, none⟩)), (4, .pointer (some ⟨b4, 0, none⟩)), (5, .pointer (some ⟨b5, 0, none⟩)), (9, .pointer (some ⟨b9, 0, none⟩))]) (fun x => [pt b9 27 [.slice A9 C.length c9], row 42 3 A9 C.length c9 (cellsL chc x), pt b5 27 [.slice A3 C.length c3], pt b4 24 [.slice A2 M.length c2], pt b3 24 [.slice A L.length c]]) (fun x => x.length = C.length) (fun J hJ => ?_) (fun F hF => ?_)
  · rcases Nat.eq_zero_or_pos C.length with h0 | h0
    · --
      focus (refine S_seq rfl ?_; refine S_region rfl rfl ?_; refine R_p rfl ?_ rfl rfl; refine R_take (T_load rfl rfl rfl (by first | rfl | assumption)) ?_ rfl rfl; refine R_p rfl ?_ rfl rfl; refine R_take (T_decF rfl (by omega)) ?_ rfl rfl; refine R_nil ?_; refine S_false rfl rfl ?_; refine S_skip rfl ?_)
      exact hJ C _ _ rfl (Sub.cons rfl (Sub.cons rfl (Sub.cons rfl (Sub.cons rfl Sub.nil)))) sub_st
    · refine RS_row A9 C.length c9 fun hmc hcm hne hxl => ?_
      have hne9 := hne h0
      obtain ⟨⟨s, is, t⟩, C0, hC⟩ : ∃ x C0, C = x :: C0 := by cases C with
        | nil => simp at h0
        | cons x C0 => exact ⟨x, C0, rfl⟩
      have hset : (cellsL chc C).set (0 * 3 + 1) (.bool (!is)) = cellsL chc ((s, !is, t) :: C0) := by rw [hC]; rfl
      have hat : (cellsL chc C)[0 * 3 + 1]? = some (.bool is) := by rw [hC]; rfl
      refine S_seq rfl ?_
      focus (refine S_region rfl rfl ?_; refine R_p rfl ?_ rfl rfl; refine R_take (T_load rfl rfl rfl (by first | rfl | assumption)) ?_ rfl rfl; refine R_p rfl ?_ rfl rfl; refine R_take (T_decT rfl (by omega)) ?_ rfl rfl; refine R_nil ?_; refine S_true rfl rfl ?_)
      refine S_draw ([pt b9 27 [.slice A9 C.length c9], row 42 3 A9 C.length c9 (cellsL chc C)]) sub_st (by kernel_rfl) rfl (by kernel_rfl) (by kernel_rfl : _ = 11) ?_
      refine D_take 0 rfl (pev_ok rfl) ?_ rfl rfl (by kernel_rfl) (by kernel_rfl)
      refine D_take 1 rfl (T_load rfl rfl rfl (by first | rfl | assumption)) ?_ rfl rfl (by kernel_rfl) (by kernel_rfl)
      refine D_take 2 rfl (pev_ok rfl) ?_ rfl rfl (by kernel_rfl) (by kernel_rfl)
      refine D_take 3 rfl (T_load rfl rfl rfl (by first | rfl | assumption)) ?_ rfl rfl (by kernel_rfl) (by kernel_rfl)
      refine D_take 4 rfl (T_ixM (sz := 3) rfl rfl rfl rfl rfl rfl hne9 h0) ?_ rfl rfl (by kernel_rfl) (by kernel_rfl)
      refine D_take 5 rfl (T_fap rfl rfl rfl rfl rfl hne9) ?_ rfl rfl (by kernel_rfl) (by kernel_rfl)
      refine D_take 6 rfl (T_ldr rfl rfl rfl (Srd.row (n := C.length) (c := c9)) h0 hat) ?_ rfl rfl (by kernel_rfl) (by kernel_rfl)
      refine D_take 7 rfl (T_not rfl) ?_ rfl rfl (by kernel_rfl) (by kernel_rfl)
      refine D_take 8 rfl (T_ixM (sz := 3) rfl rfl rfl rfl rfl rfl hne9 h0) ?_ rfl rfl (by kernel_rfl) (by kernel_rfl)
      refine D_take 9 rfl (T_fap rfl rfl rfl rfl rfl hne9) ?_ rfl rfl (by kernel_rfl) (by kernel_rfl)
      refine D_one 10 rfl (E_storeRS (A := A9) (m := C.length) (c := c9) (sz := 3) (xs := cellsL chc C) rfl rfl rfl rfl rfl (by omega)) ?_ rfl rfl (by kernel_rfl)
      rintro _ _ rfl
      refine Nx_pivot (by kernel_rfl) ?_
      refine D_done ?_ (by kernel_rfl)
      rw [hset]
      exact hJ ((s, !is, t) :: C0) _ _ (by rw [hC]; rfl) (Sub.cons rfl (Sub.cons rfl (Sub.cons rfl (Sub.cons rfl Sub.nil)))) sub_st
  refine S_seq rfl ?_
  refine S_draw ([pt b9 27 [.slice A9 C.length c9], pt b5 27 [.slice A3 C.length c3], pt b4 24 [.slice A2 M.length c2], pt b3 24 [.slice A L.length c]]) sub_st (by kernel_rfl) rfl (by kernel_rfl) (by kernel_rfl : _ = 29) ?_
  refine D_take 0 rfl (T_loada (ds := [.slice A L.length c]) rfl rfl rfl rfl (fun j v h => by simpa using h)) ?_ rfl rfl (by kernel_rfl) (by kernel_rfl)
  refine D_take 1 rfl (T_loada (ds := [.slice A2 M.length c2]) rfl rfl rfl rfl (fun j v h => by simpa using h)) ?_ rfl rfl (by kernel_rfl) (by kernel_rfl)
  refine D_take 3 rfl (T_loada (ds := [.slice A L.length c]) rfl rfl rfl rfl (fun j v h => by simpa using h)) ?_ rfl rfl (by kernel_rfl) (by kernel_rfl)
  refine D_take 4 rfl (T_loada (ds := [.slice A2 M.length c2]) rfl rfl rfl rfl (fun j v h => by simpa using h)) ?_ rfl rfl (by kernel_rfl) (by kernel_rfl)
  refine D_one 2 rfl (E_hv0 ⟨_, Try.func20, rfl, by kernel_rfl⟩ (fun w hS => Same_any w A A2 L.length c M.length c2 L M ((Srd.old h (fun k _ => noOwns k)).rd w hS) ((Srd.old h2 (fun k _ => noOwns k)).rd w hS) (by omega) (by omega)) rfl rfl (fun _ => rfl)) ?_ rfl rfl (by kernel_rfl)
  rintro _ _ ⟨_, rfl, _, rfl⟩
  refine Nx_same sub_st ?_
  refine D_one 5 rfl (E_hv0 ⟨_, Try.func17, rfl, by kernel_rfl⟩ (fun w hS => rSame_any w A A2 L.length c M.length c2 L M ((Srd.old h (fun k _ => noOwns k)).rd w hS) ((Srd.old h2 (fun k _ => noOwns k)).rd w hS) (by omega) (by omega)) rfl rfl (fun _ => rfl)) ?_ rfl rfl (by kernel_rfl)
  rintro _ _ ⟨_, rfl, _, rfl⟩
  refine Nx_same sub_st ?_
  refine D_take 6 rfl (T_beqs rfl rfl rfl rfl) ?_ rfl rfl (by kernel_rfl) (by kernel_rfl)
  refine D_take 7 rfl (pev_ok rfl) ?_ rfl rfl (by kernel_rfl) (by kernel_rfl)
  refine D_take 8 rfl (T_loada (ds := [.slice A L.length c]) rfl rfl rfl rfl (fun j v h => by simpa using h)) ?_ rfl rfl (by kernel_rfl) (by kernel_rfl)
  refine D_take 9 rfl (T_loada (ds := [.slice A L.length c]) rfl rfl rfl rfl (fun j v h => by simpa using h)) ?_ rfl rfl (by kernel_rfl) (by kernel_rfl)
  refine D_one 10 rfl (E_hv1 ⟨_, Try.func12, rfl, by kernel_rfl⟩ (fun w hS => copied_any w A L.length c L ((Srd.old h (fun k _ => noOwns k)).rd w hS) (by omega)) rfl rfl (fun _ => rfl)) ?_ rfl rfl (by kernel_rfl)
  rintro _ _ ⟨⟨A10, c10⟩, rfl, _, rfl⟩
  refine Nx_same sub_st ?_
  refine D_one 11 rfl (E_hv0 ⟨_, Try.func20, rfl, by kernel_rfl⟩ (fun w hS => Same_self w A A10 L.length c L.length c10 L ((Srd.old h (fun k _ => noOwns k)).rd w hS) ((Srd.row (n := L.length) (c := c10)).rd w hS) (by omega) (by omega)) rfl rfl (fun _ => rfl)) ?_ rfl rfl (by kernel_rfl)
  rintro _ _ ⟨_, rfl, _, rfl⟩
  refine Nx_same sub_st ?_
  refine D_take 12 rfl (pev_ok rfl) ?_ rfl rfl (by kernel_rfl) (by kernel_rfl)
  refine D_take 13 rfl (pev_ok rfl) ?_ rfl rfl (by kernel_rfl) (by kernel_rfl)
  refine D_take 14 rfl (T_loada (ds := [.slice A3 C.length c3]) rfl rfl rfl rfl (fun j v h => by simpa using h)) ?_ rfl rfl (by kernel_rfl) (by kernel_rfl)
  refine D_take 15 rfl (T_loada (ds := [.slice A3 C.length c3]) rfl rfl rfl rfl (fun j v h => by simpa using h)) ?_ rfl rfl (by kernel_rfl) (by kernel_rfl)
  refine D_one 16 rfl (E_hv1 ⟨_, Try.func13, rfl, by kernel_rfl⟩ (fun w hS => copiedEdit_any w A3 C.length c3 C ((Srd.old h3 (fun k _ => noOwns k)).rd w hS) (by omega)) rfl rfl (fun _ => rfl)) ?_ rfl rfl (by kernel_rfl)
  rintro _ _ ⟨⟨A11, c11⟩, rfl, _, rfl⟩
  refine Nx_same sub_st ?_
  refine D_one 17 rfl (E_hv0 ⟨_, Try.func21, rfl, by kernel_rfl⟩ (fun w hS => SameEdit_self w A3 A11 C.length c3 C.length c11 C ((Srd.old h3 (fun k _ => noOwns k)).rd w hS) ((Srd.row (n := C.length) (c := c11)).rd w hS) (by omega) (by omega)) rfl rfl (fun _ => rfl)) ?_ rfl rfl (by kernel_rfl)
  rintro _ _ ⟨_, rfl, _, rfl⟩
  refine Nx_same sub_st ?_
  refine D_take 18 rfl (pev_ok rfl) ?_ rfl rfl (by kernel_rfl) (by kernel_rfl)
  refine D_take 19 rfl (pev_ok rfl) ?_ rfl rfl (by kernel_rfl) (by kernel_rfl)
  refine D_take 20 rfl (T_loada (ds := [.slice A3 C.length c3]) rfl rfl rfl rfl (fun j v h => by simpa using h)) ?_ rfl rfl (by kernel_rfl) (by kernel_rfl)
  refine D_take 21 rfl (T_loada (ds := [.slice A9 C.length c9]) rfl rfl rfl rfl (fun j v h => by simpa using h)) ?_ rfl rfl (by kernel_rfl) (by kernel_rfl)
  refine D_take 23 rfl (T_loada (ds := [.slice A3 C.length c3]) rfl rfl rfl rfl (fun j v h => by simpa using h)) ?_ rfl rfl (by kernel_rfl) (by kernel_rfl)
  refine D_take 24 rfl (T_loada (ds := [.slice A9 C.length c9]) rfl rfl rfl rfl (fun j v h => by simpa using h)) ?_ rfl rfl (by kernel_rfl) (by kernel_rfl)
  refine D_one 22 rfl (E_hv0 ⟨_, Try.func21, rfl, by kernel_rfl⟩ (fun w hS => SameEdit_any w A3 A9 C.length c3 C.length c9 C F ((Srd.old h3 (fun k _ => noOwns k)).rd w hS) ((Srd.row (n := C.length) (c := c9)).rd w hS) (by omega) (by omega)) rfl rfl (fun _ => rfl)) ?_ rfl rfl (by kernel_rfl)
  rintro _ _ ⟨_, rfl, _, rfl⟩
  refine Nx_same sub_st ?_
  refine D_one 25 rfl (E_hv0 ⟨_, Try.func22, rfl, by kernel_rfl⟩ (fun w hS => rSameEdit_any w A3 A9 C.length c3 C.length c9 C F ((Srd.old h3 (fun k _ => noOwns k)).rd w hS) ((Srd.row (n := C.length) (c := c9)).rd w hS) (by omega) (by omega)) rfl rfl (fun _ => rfl)) ?_ rfl rfl (by kernel_rfl)
  rintro _ _ ⟨_, rfl, _, rfl⟩
  refine Nx_same sub_st ?_
  refine D_take 26 rfl (T_beqs rfl rfl rfl rfl) ?_ rfl rfl (by kernel_rfl) (by kernel_rfl)
  refine D_take 27 rfl (pev_ok rfl) ?_ rfl rfl (by kernel_rfl) (by kernel_rfl)
  refine D_take 28 rfl (pev_ok rfl) ?_ rfl rfl (by kernel_rfl) (by kernel_rfl)
  refine D_done ?_ (by kernel_rfl)
  skip
  skip
  exact hB _ _ _ _ _ rfl rfl fun w' hS => ⟨(), rfl, trivial, hS.sublist (List.nil_sublist _)⟩
set_option maxRecDepth 100000 in
theorem PathmapChecks_open {H : Type} {enc : TypeId × Value → H} (W : World) {r : Reach} (base : Nat) (v0 v1 v2 : Value) {d0 d1 d2 : DataW H} {p0 p1 p2 : List MemPlace}
    (hv0 : Value.okWide Try.prog W r base 24 v0) (hv1 : Value.okWide Try.prog W r base 24 v1) (hv2 : Value.okWide Try.prog W r base 27 v2)
    (h0 : DataW.Trod enc Try.prog W 0 (fun _ => true) true 24 v0 d0 p0) (h1 : DataW.Trod enc Try.prog W 0 (fun _ => true) true 24 v1 d1 p1) (h2 : DataW.Trod enc Try.prog W 0 (fun _ => true) true 27 v2 d2 p2) :
    Calls Try.prog 4 #[v0, v1, v2] W fun e W' => e = .returned (.bool true) ∧ Kp All W W' := by
  obtain ⟨A, n, c, L, rfl, _, _, g⟩ := open_map hv0 h0
  obtain ⟨A2, n2, c2, M, rfl, _, _, g2⟩ := open_map hv1 h1
  obtain ⟨A3, n3, c3, C, rfl, _, _, g3⟩ := open_edit hv2 h2
  exact (checks_any W A A2 A3 n c n2 c2 n3 c3 L M C g g2 g3).pure
end Go.Proofs.Ytebbnbddlnpldaa
