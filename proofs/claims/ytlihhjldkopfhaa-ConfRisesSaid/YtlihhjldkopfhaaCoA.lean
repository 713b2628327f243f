/- Members: Decode, and the document's. The document's Right. -/
import Derived.Test.YtlihhjldkopfhaaCo9
namespace Go.Proofs.Ytlihhjldkopfhaa
open Go.RowKit
open Asn (pt row rb)
set_option linter.unusedVariables false
set_option linter.unusedSimpArgs false
--@use N

def b0 (l : List UInt8) : Nat := (l.getD 0 0).toNat
def decM (l : List UInt8) : List Int := (l.drop 1).map fun b => (b.toNat : Int)
def decE (l : List UInt8) : Int := if l.length ≤ b0 l then 7 else if l.length - 1 = b0 l ∧ right (decM l) = true then 0 else 240
def decL (l : List UInt8) : List Int := if decE l = 0 then decM l else []
theorem b0_nil : b0 [] = 0 := rfl
theorem decM_next (l : List UInt8) (j : Nat) (hj : j < l.length - 1) : (decM l).take (j + 1) = (decM l).take j ++ [(((l.drop 1).getD j 0).toNat : Int)] := by
  have h : j < (decM l).length := by simp [decM]; omega
  rw [List.take_succ_eq_append_getElem h]
  congr 1
  simp [decM, List.getD, show j + 1 < l.length by omega]
theorem decM_len (l : List UInt8) : (decM l).length = l.length - 1 := by simp [decM]
section
variable {n : Nat} {w0 : World} {M : Nat → Prop} {T : Slots} {H Hr : List Asn} {dd : Option Tmp} {tt : TypeId} {pos : String} {af : Array Edge} {g : Option (Nat × Bool)} {x y z : Operand} {ts : Array TypeId}
end
set_option maxRecDepth 100000 in
set_option maxHeartbeats 4000000 in
theorem dec_any (w : World) (A : Option Addr) (n c : Nat) (l : List UInt8) (h : Bs w All A n c l) (hn : n ≤ 900) :
    Gives Try.prog 24 [.slice A n c] [] w (X := Option Addr × Nat) (fun x => .tuple #[cfv x.1 (decL l).length x.2, .int .i64 (decE l)]) (fun _ => True) (fun x => [row 3 1 x.1 (decL l).length x.2 ((decL l).map zv)]) := by
  refine gives_C Try.func24 rfl Try.ntmps24 Try.results24 (by simp) (St.enter w) (fun B hB => ?_)
  have hl : n = l.length := h.len
  have hcap := h.cap
  have hne : 0 < n → A ≠ none := fun h0 => by obtain ⟨ad, rfl, _⟩ := h.rd.2 h0; simp
  obtain ⟨q, hq⟩ : ∃ q, b0 l = q := ⟨_, rfl⟩
  have hq' : (l.getD 0 0).toNat = q := hq
  have hq8 : (l.getD 0 0).toNat < 256 := UInt8.toNat_lt _
  have hdl := decM_len l
  by_cases hsh : l.length ≤ b0 l
  · have e1 : decE l = 7 := by rw [decE, if_pos hsh]
    have e2 : decL l = [] := by rw [decL, e1]; rfl
    rw [e1, e2] at hB
    rw [hq] at hsh
    focus (refine S_seq rfl ?_; refine S_region rfl rfl ?_; (refine R_eff (E_alloca rfl cf_alloc) ?_ rfl rfl; rintro _ _ ⟨bc, rfl, rfl⟩); refine R_p rfl ?_ rfl rfl; refine R_nil ?_; refine S_seq rfl ?_; refine S_seq rfl ?_; refine S_region rfl rfl ?_; refine R_p rfl ?_ rfl rfl; refine R_p rfl ?_ rfl rfl; refine R_p rfl ?_ rfl rfl; refine R_p rfl ?_ rfl rfl; (refine R_splitd rfl rfl (fun hs => ?_) (fun hs => ?_)); refine R_skip ?_ rfl rfl; refine R_skip ?_ rfl rfl; refine R_skip ?_ rfl rfl; refine R_skip ?_ rfl rfl; refine R_skip ?_ rfl rfl; refine R_skip ?_ rfl rfl; refine R_skip ?_ rfl rfl; refine R_p rfl ?_ rfl rfl; refine R_nil ?_; refine S_true rfl rfl ?_; refine S_seq rfl ?_; refine S_region rfl rfl ?_; refine R_take (T_build0 cf_built0) ?_ rfl rfl; (refine R_eff0 (E_storew (ds := [.slice none 0 0]) (cs := [.slice none 0 0]) rfl rfl rfl rfl (sl_one _ _ _) rfl) ?_ rfl; rintro _ _ rfl); refine R_p rfl ?_ rfl rfl; refine R_nil ?_; rotate_left; refine R_p rfl ?_ rfl rfl; refine R_p rfl ?_ rfl rfl; refine R_p rfl ?_ rfl rfl; refine R_take (T_ixN rfl rfl rfl rfl rfl rfl (by first | assumption | exact hne (by omega) | exact hne2 (by omega)) (by omega)) ?_ rfl rfl; refine R_take (T_ldb (j := 0) rfl rfl rfl (Src.old h (fun k _ => noOwns k)) (by omega)) ?_ rfl rfl; refine R_take (T_convf rfl rfl rfl rfl (by unfold fits; omega)) ?_ rfl rfl; refine R_take (T_decT rfl (by omega)) ?_ rfl rfl; refine R_p rfl ?_ rfl rfl; refine R_nil ?_; refine S_true rfl rfl ?_; refine S_seq rfl ?_; refine S_region rfl rfl ?_; refine R_take (T_build0 cf_built0) ?_ rfl rfl; (refine R_eff0 (E_storew (ds := [.slice none 0 0]) (cs := [.slice none 0 0]) rfl rfl rfl rfl (sl_one _ _ _) rfl) ?_ rfl; rintro _ _ rfl); refine R_p rfl ?_ rfl rfl; refine R_nil ?_; rotate_left)
    all_goals (try (exfalso; first | contradiction | omega))
    all_goals (refine hB _ _ _ _ _ rfl (.cell rfl rfl rfl inferInstance rfl (.tmp rfl .nil)) fun w' hS => ⟨(none, 0), rfl, trivial, (hS.sublist (List.nil_sublist _)).nilrow _ _⟩)
  have hsh' : ¬ l.length ≤ q := by rw [hq] at hsh; exact hsh
  focus (refine S_seq rfl ?_; refine S_region rfl rfl ?_; (refine R_eff (E_alloca rfl cf_alloc) ?_ rfl rfl; rintro _ _ ⟨bc, rfl, rfl⟩); refine R_p rfl ?_ rfl rfl; refine R_nil ?_; refine S_seq rfl ?_; refine S_seq rfl ?_; refine S_region rfl rfl ?_; refine R_p rfl ?_ rfl rfl; refine R_p rfl ?_ rfl rfl; refine R_take (T_decF rfl (by omega)) ?_ rfl rfl; refine R_p rfl ?_ rfl rfl; refine R_p rfl ?_ rfl rfl; refine R_p rfl ?_ rfl rfl; refine R_p rfl ?_ rfl rfl; refine R_take (T_ixN rfl rfl rfl rfl rfl rfl (by first | assumption | exact hne (by omega) | exact hne2 (by omega)) (by omega)) ?_ rfl rfl; refine R_take (T_ldb (j := 0) rfl rfl rfl (Src.old h (fun k _ => noOwns k)) (by omega)) ?_ rfl rfl; refine R_take (T_convf rfl rfl rfl rfl (by unfold fits; omega)) ?_ rfl rfl; refine R_take (T_decF rfl (by omega)) ?_ rfl rfl; refine R_p rfl ?_ rfl rfl; refine R_nil ?_; refine S_false rfl rfl ?_; refine S_skip rfl ?_; refine S_seq rfl ?_; refine S_region rfl rfl ?_; (refine R_eff (E_alloca rfl cf_alloc) ?_ rfl rfl; rintro _ _ ⟨bc, rfl, rfl⟩); refine R_nil ?_; refine S_seq rfl ?_; refine S_seq rfl ?_; refine S_region rfl rfl ?_; refine R_p rfl ?_ rfl rfl; refine R_take (T_slN (sz := 1) rfl rfl rfl rfl rfl rfl (by omega) (by omega)) ?_ rfl rfl; refine R_p rfl ?_ rfl rfl; refine R_p rfl ?_ rfl rfl; refine R_nil ?_; refine S_block rfl ?_)
  rename_i b2
  have h1 := h.cutP (k := 1) (by omega)
  obtain ⟨A1, hA1⟩ : ∃ A1, cutP A c 1 1 = A1 := ⟨_, rfl⟩
  rw [hA1] at h1 ⊢
  have hne1 : 0 < n - 1 → A1 ≠ none := fun h0 => by obtain ⟨ad, rfl, _⟩ := h1.rd.2 h0; simp
  refine S_loop (X := Nat × Option Addr × Nat) (fun x => [(0, .slice A n c), (2, .pointer (some ⟨b2, 0, none⟩)), (4, .pointer (some ⟨bc, 0, none⟩)), (21, .slice A1 (n - 1) (c - 1)), (22, .int .i64 ((n - 1 : Nat) : Int)), (23, .int .i64 (x.1 : Int))]) (fun x => [row 3 1 x.2.1 x.1 x.2.2 (((decM l).take x.1).map zv), pt bc 24 [.slice x.2.1 x.1 x.2.2], pt b2 24 [.slice none 0 0]]) (fun x => x.1 ≤ n - 1) (fun x => n - 1 - x.1) rfl (0, none, 0) (Nat.zero_le _) (Sub.cons rfl (Sub.cons rfl (Sub.cons rfl (Sub.cons rfl (Sub.cons rfl (Sub.cons rfl Sub.nil)))))) (fun w hS => hS.nilrow _ _) ?_
  rintro ⟨j, A3, c3⟩ hj J hJ
  simp only at hj ⊢
  have hnx := decM_next l j
  obtain ⟨x, hx⟩ : ∃ x, (l.drop 1).getD j 0 = x := ⟨_, rfl⟩
  have hx8 : x.toNat < 256 := UInt8.toNat_lt _
  rw [hx] at hnx
  rcases Nat.lt_or_ge j (n - 1) with hjl | hjl
  · have hv : ((l.drop 1).map bv)[j]? = some (.int .u8 (x.toNat : Int)) := by
      rw [← hx]
      have : j < (l.drop 1).length := by simp; omega
      simp [bv, List.getD, show j + 1 < l.length by omega]
    focus (refine S_seq rfl ?_; refine S_region rfl rfl ?_; refine R_take (T_decT rfl (by omega)) ?_ rfl rfl; refine R_nil ?_; refine S_seq rfl ?_; refine S_true rfl rfl ?_; refine S_skip rfl ?_; refine S_seq rfl ?_; refine S_block rfl ?_; refine S_seq rfl ?_; refine S_region rfl rfl ?_; refine R_take (T_ixN rfl rfl rfl rfl rfl rfl (hne1 (by omega)) (by omega)) ?_ rfl rfl; refine R_take (T_ldr (v := .int .u8 (x.toNat : Int)) rfl rfl rfl (Src.old h1 (fun k _ => noOwns k)).rd (by omega) hv) ?_ rfl rfl; refine R_p rfl ?_ rfl rfl; refine R_nil ?_; refine S_region rfl rfl ?_; refine R_p rfl ?_ rfl rfl; refine R_take (T_load rfl rfl rfl (by first | rfl | assumption)) ?_ rfl rfl; refine R_p rfl ?_ rfl rfl; refine R_take (T_convf rfl rfl rfl rfl (by unfold fits; omega)) ?_ rfl rfl; (refine R_eff (E_lit1 (m := 1) (vs := [zv x.toNat]) rfl rfl rfl rfl rfl rfl rfl (by simp [zv, Value.oneCell']) (by decide)) ?_ rfl rfl; rintro _ _ ⟨bm, rfl, rfl⟩); (refine R_eff (E_app1 rfl rfl rfl rfl rfl rfl rfl (Srd.pt (ds := [zv x.toNat]) rfl (fun j u hj => by rw [Nat.zero_add]; exact hj)) (by simp [zv, Value.oneCell']) (by show _ * 8 ≤ _; omega) (by unfold maxLen; omega)) ?_ rfl rfl; rintro _ _ ⟨A6, c6, rfl, rfl⟩); refine R_p rfl ?_ rfl rfl; (refine R_eff0 (E_store1 rfl rfl rfl rfl rfl rfl (by first | decide | (simp; done) | (simp; omega) | assumption)) ?_ rfl; rintro _ _ rfl); refine R_nil ?_; refine RS_blk ?_; refine S_region rfl rfl ?_; refine R_take (T_addN rfl rfl (by unfold fits; omega)) ?_ rfl rfl; refine R_p rfl ?_ rfl rfl; refine R_nil ?_)
    all_goals (try (exfalso; omega))
    refine hJ (j + 1, A6, c6) _ _ (by show j + 1 ≤ _; omega) (Sub.cons rfl (Sub.cons rfl (Sub.cons rfl (Sub.cons rfl (Sub.cons rfl (Sub.cons rfl Sub.nil)))))) (fun w' hS => ?_) (by show n - 1 - (j + 1) < _; omega)
    show St _ _ [row _ 1 _ _ _ (((decM l).take (j + 1)).map zv), _, _] w'
    rw [hnx (by omega), List.map_append]
    exact hS.sublist (.cons_cons _ (.cons _ (.refl _)))
  have hjn : j = n - 1 := by omega
  subst hjn
  rw [List.take_of_length_le (by omega)]
  by_cases hq1 : n - 1 = q
  · cases hr : right (decM l)
    · have e1 : decE l = 240 := by rw [decE, if_neg hsh, if_neg]; simp [hr]
      have e2 : decL l = [] := by rw [decL, e1]; rfl
      rw [e1, e2] at hB
      focus (refine S_seq rfl ?_; refine S_region rfl rfl ?_; refine R_take (T_decF rfl (by omega)) ?_ rfl rfl; refine R_nil ?_; refine S_seq rfl ?_; refine S_false rfl rfl ?_; refine S_exit rfl rfl ?_; refine S_seq rfl ?_; refine S_seq rfl ?_)
      refine S_draw (_) (fun _ h => h) (by kernel_rfl) rfl (by kernel_rfl) (by kernel_rfl : _ = 13) ?_
      refine D_take 0 rfl (pev_ok rfl) ?_ rfl rfl (by kernel_rfl) (by kernel_rfl)
      refine D_take 1 rfl (T_load rfl rfl rfl (by first | rfl | assumption)) ?_ rfl rfl (by kernel_rfl) (by kernel_rfl)
      refine D_take 2 rfl (pev_ok rfl) ?_ rfl rfl (by kernel_rfl) (by kernel_rfl)
      refine D_take 3 rfl (pev_ok rfl) ?_ rfl rfl (by kernel_rfl) (by kernel_rfl)
      refine D_take 4 rfl (T_ixN rfl rfl rfl rfl rfl rfl (hne (by omega)) (by omega)) ?_ rfl rfl (by kernel_rfl) (by kernel_rfl)
      refine D_take 5 rfl (T_ldb (j := 0) rfl rfl rfl (Src.old h (fun k _ => noOwns k)) (by omega)) ?_ rfl rfl (by kernel_rfl) (by kernel_rfl)
      (refine D_take 6 rfl (T_convf rfl rfl rfl rfl (by unfold fits; omega)) ?_ rfl rfl (by kernel_rfl) (by kernel_rfl))
      refine D_take 7 rfl (T_decF rfl (by omega)) ?_ rfl rfl (by kernel_rfl) (by kernel_rfl)
      refine D_take 8 rfl (pev_ok rfl) ?_ rfl rfl (by kernel_rfl) (by kernel_rfl)
      refine D_take 9 rfl (T_loada (ds := [.slice A3 (n - 1) c3]) rfl rfl rfl rfl (fun j v h => by simpa using h)) ?_ rfl rfl (by kernel_rfl) (by kernel_rfl)
      refine D_one 10 rfl (E_checkF rfl (Srd.row (n := n - 1) (c := c3)) (by omega) hr) ?_ rfl rfl (by kernel_rfl)
      rintro _ _ ⟨rfl, rfl⟩
      refine Nx_same sub_st ?_
      refine D_take 11 rfl (pev_ok rfl) ?_ rfl rfl (by kernel_rfl) (by kernel_rfl)
      refine D_take 12 rfl (pev_ok rfl) ?_ rfl rfl (by kernel_rfl) (by kernel_rfl)
      refine D_done ?_ (by kernel_rfl)
      skip
      focus (refine S_true rfl rfl ?_; refine S_seq rfl ?_; refine S_region rfl rfl ?_; refine R_take (T_build0 cf_built0) ?_ rfl rfl; (refine R_eff0 (E_storew (ds := [.slice none 0 0]) (cs := [.slice none 0 0]) rfl rfl rfl rfl (sl_one _ _ _) rfl) ?_ rfl; rintro _ _ rfl); refine R_p rfl ?_ rfl rfl; refine R_nil ?_)
      all_goals (try (exfalso; first | contradiction | omega))
      refine hB _ _ _ _ _ rfl (.cell rfl rfl rfl inferInstance rfl (.tmp rfl .nil)) fun w' hS => ⟨(none, 0), rfl, trivial, (hS.sublist (List.nil_sublist _)).nilrow _ _⟩
    · have e1 : decE l = 0 := by rw [decE, if_neg hsh, if_pos ⟨by omega, hr⟩]
      have e2 : decL l = decM l := by rw [decL, e1]; rfl
      rw [e1, e2, hdl, ← hl] at hB
      focus (refine S_seq rfl ?_; refine S_region rfl rfl ?_; refine R_take (T_decF rfl (by omega)) ?_ rfl rfl; refine R_nil ?_; refine S_seq rfl ?_; refine S_false rfl rfl ?_; refine S_exit rfl rfl ?_; refine S_seq rfl ?_; refine S_seq rfl ?_)
      refine S_draw (_) (fun _ h => h) (by kernel_rfl) rfl (by kernel_rfl) (by kernel_rfl : _ = 13) ?_
      refine D_take 0 rfl (pev_ok rfl) ?_ rfl rfl (by kernel_rfl) (by kernel_rfl)
      refine D_take 1 rfl (T_load rfl rfl rfl (by first | rfl | assumption)) ?_ rfl rfl (by kernel_rfl) (by kernel_rfl)
      refine D_take 2 rfl (pev_ok rfl) ?_ rfl rfl (by kernel_rfl) (by kernel_rfl)
      refine D_take 3 rfl (pev_ok rfl) ?_ rfl rfl (by kernel_rfl) (by kernel_rfl)
      refine D_take 4 rfl (T_ixN rfl rfl rfl rfl rfl rfl (hne (by omega)) (by omega)) ?_ rfl rfl (by kernel_rfl) (by kernel_rfl)
      refine D_take 5 rfl (T_ldb (j := 0) rfl rfl rfl (Src.old h (fun k _ => noOwns k)) (by omega)) ?_ rfl rfl (by kernel_rfl) (by kernel_rfl)
      (refine D_take 6 rfl (T_convf rfl rfl rfl rfl (by unfold fits; omega)) ?_ rfl rfl (by kernel_rfl) (by kernel_rfl))
      refine D_take 7 rfl (T_decF rfl (by omega)) ?_ rfl rfl (by kernel_rfl) (by kernel_rfl)
      refine D_take 8 rfl (pev_ok rfl) ?_ rfl rfl (by kernel_rfl) (by kernel_rfl)
      refine D_take 9 rfl (T_loada (ds := [.slice A3 (n - 1) c3]) rfl rfl rfl rfl (fun j v h => by simpa using h)) ?_ rfl rfl (by kernel_rfl) (by kernel_rfl)
      refine D_one 10 rfl (E_checkT rfl (Srd.row (n := n - 1) (c := c3)) (by omega) hr) ?_ rfl rfl (by kernel_rfl)
      rintro _ _ ⟨rfl, rfl⟩
      refine Nx_same sub_st ?_
      refine D_take 11 rfl (T_decF rfl (by omega)) ?_ rfl rfl (by kernel_rfl) (by kernel_rfl)
      refine D_take 12 rfl (pev_ok rfl) ?_ rfl rfl (by kernel_rfl) (by kernel_rfl)
      refine D_done ?_ (by kernel_rfl)
      skip
      focus (refine S_false rfl rfl ?_; refine S_skip rfl ?_; refine S_seq rfl ?_; refine S_region rfl rfl ?_; refine R_take (T_loada (ds := [.slice A3 (n - 1) c3]) rfl rfl rfl rfl (fun j v h => by simpa using h)) ?_ rfl rfl; (refine R_eff0 (E_storew (ds := [.slice A3 (n - 1) c3]) (cs := [.slice none 0 0]) rfl rfl rfl rfl (sl_one _ _ _) rfl) ?_ rfl; rintro _ _ rfl); refine R_p rfl ?_ rfl rfl; refine R_nil ?_)
      all_goals (try (exfalso; first | contradiction | omega))
      refine hB _ _ _ _ _ rfl (.cell rfl rfl rfl inferInstance rfl (.tmp rfl .nil)) fun w' hS => ⟨(A3, c3), rfl, trivial, sub_st _ hS⟩
  · have e1 : decE l = 240 := by rw [decE, if_neg hsh, if_neg]; rintro ⟨h1, h2⟩; omega
    have e2 : decL l = [] := by rw [decL, e1]; rfl
    rw [e1, e2] at hB
    focus (refine S_seq rfl ?_; refine S_region rfl rfl ?_; refine R_take (T_decF rfl (by omega)) ?_ rfl rfl; refine R_nil ?_; refine S_seq rfl ?_; refine S_false rfl rfl ?_; refine S_exit rfl rfl ?_; refine S_seq rfl ?_; refine S_seq rfl ?_)
    refine S_draw (_) (fun _ h => h) (by kernel_rfl) rfl (by kernel_rfl) (by kernel_rfl : _ = 13) ?_
    refine D_take 0 rfl (pev_ok rfl) ?_ rfl rfl (by kernel_rfl) (by kernel_rfl)
    refine D_take 1 rfl (T_load rfl rfl rfl (by first | rfl | assumption)) ?_ rfl rfl (by kernel_rfl) (by kernel_rfl)
    refine D_take 2 rfl (pev_ok rfl) ?_ rfl rfl (by kernel_rfl) (by kernel_rfl)
    refine D_take 3 rfl (pev_ok rfl) ?_ rfl rfl (by kernel_rfl) (by kernel_rfl)
    refine D_take 4 rfl (T_ixN rfl rfl rfl rfl rfl rfl (hne (by omega)) (by omega)) ?_ rfl rfl (by kernel_rfl) (by kernel_rfl)
    refine D_take 5 rfl (T_ldb (j := 0) rfl rfl rfl (Src.old h (fun k _ => noOwns k)) (by omega)) ?_ rfl rfl (by kernel_rfl) (by kernel_rfl)
    (refine D_take 6 rfl (T_convf rfl rfl rfl rfl (by unfold fits; omega)) ?_ rfl rfl (by kernel_rfl) (by kernel_rfl))
    refine D_take 7 rfl (T_decT rfl (by omega)) ?_ rfl rfl (by kernel_rfl) (by kernel_rfl)
    refine D_take 8 rfl (pev_ok rfl) ?_ rfl rfl (by kernel_rfl) (by kernel_rfl)
    refine D_skip 9 rfl ?_ rfl rfl (by kernel_rfl) (by kernel_rfl)
    refine D_skip 10 rfl ?_ rfl rfl (by kernel_rfl) (by kernel_rfl)
    refine D_skip 11 rfl ?_ rfl rfl (by kernel_rfl) (by kernel_rfl)
    refine D_take 12 rfl (pev_ok rfl) ?_ rfl rfl (by kernel_rfl) (by kernel_rfl)
    refine D_done ?_ (by kernel_rfl)
    skip
    focus (refine S_true rfl rfl ?_; refine S_seq rfl ?_; refine S_region rfl rfl ?_; refine R_take (T_build0 cf_built0) ?_ rfl rfl; (refine R_eff0 (E_storew (ds := [.slice none 0 0]) (cs := [.slice none 0 0]) rfl rfl rfl rfl (sl_one _ _ _) rfl) ?_ rfl; rintro _ _ rfl); refine R_p rfl ?_ rfl rfl; refine R_nil ?_)
    all_goals (try (exfalso; first | contradiction | omega))
    refine hB _ _ _ _ _ rfl (.cell rfl rfl rfl inferInstance rfl (.tmp rfl .nil)) fun w' hS => ⟨(none, 0), rfl, trivial, (hS.sublist (List.nil_sublist _)).nilrow _ _⟩
end Go.Proofs.Ytlihhjldkopfhaa
