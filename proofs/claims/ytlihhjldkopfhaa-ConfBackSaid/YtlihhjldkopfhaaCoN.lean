/- The statement ConfBack: one more and one less, and bytes, lead back. -/
import Derived.Test.YtlihhjldkopfhaaCoM
import Derived.Test.YtlihhjldkopfhaaCoL
namespace Go.Proofs.Ytlihhjldkopfhaa
open Go.RowKit Go.ChangeShapes Go.WideShapes Go.ChangeAt
open Asn (pt row rb)
set_option linter.unusedVariables false
set_option linter.unusedSimpArgs false
--@use N

theorem addE_0 {a : List Int} {m : Int} (h : addE a m = 0) : right a = true ∧ (1 ≤ m ∧ m ≤ 5) ∧ ¬ m ∈ a ∧ addL a m = oneM a m := by
  rw [addE] at h
  cases hr : right a
  · rw [hr] at h; cases h
  rw [hr] at h
  cases hm : memb m
  · rw [hm] at h; cases h
  rw [hm] at h
  by_cases hma : m ∈ a
  · rw [if_pos hma] at h; cases h
  · exact ⟨rfl, of_decide_eq_true hm, hma, by rw [addL, hr, hm, decide_eq_false hma]; rfl⟩
theorem addL_len (a : List Int) (m : Int) : (addL a m).length ≤ a.length + 1 := by
  rw [addL]
  split
  · simp
    have := cut_le a m
    omega
  · simp
set_option maxRecDepth 100000 in
set_option maxHeartbeats 4000000 in
theorem back_any (w : World) (k : Cf) (hk : k.ok w) (m : Int) (A : Option Addr) (n c : Nat) (bs : List UInt8) (h : Bs w All A n c bs) :
    Gives Try.prog 7 [cfv k.A k.n k.c, zv m, .slice A n c] [] w (X := Unit) (fun _ => .bool true) (fun _ => True) (fun _ => []) := by
  refine gives_S Try.func7 rfl Try.ntmps7 Try.results7 (by simp) (St.enter w) (fun B hB => ?_)
  obtain ⟨hkr, hkn, hkc⟩ := hk
  have hcap := h.cap
  obtain ⟨a, ha⟩ : ∃ a, k.ms.take 9 = a := ⟨_, rfl⟩
  have ha9 : a.length ≤ 9 := by rw [← ha, List.length_take]; omega
  -- the last part: any bytes
  obtain ⟨q, hq⟩ : ∃ q, min n 300 = q := ⟨_, rfl⟩
  have hqn : q ≤ n ∧ q ≤ 300 := by omega
  have hrq := h.head hqn.1
  obtain ⟨l, hlq⟩ : ∃ l, bs.take q = l := ⟨_, rfl⟩
  rw [hlq] at hrq
  have hll := hrq.len
  obtain ⟨kL, hkL⟩ : ∃ kL, (decL l).length = kL := ⟨_, rfl⟩
  have hkL9 : kL ≤ 900 := by have := decM_le l; omega
  obtain ⟨e, he⟩ : ∃ e, decE l = e := ⟨_, rfl⟩
  obtain ⟨ra, hra⟩ : ∃ ra, right a = ra := ⟨_, rfl⟩
  obtain ⟨e1, he1⟩ : ∃ e1, addE a m = e1 := ⟨_, rfl⟩
  obtain ⟨k1, hk1⟩ : ∃ k1, (addL a m).length = k1 := ⟨_, rfl⟩
  have hk19 : k1 ≤ 10 := by have := addL_len a m; omega
  focus (refine S_seq rfl ?_; refine S_region rfl rfl ?_; (refine R_eff (E_boxa rfl) ?_ rfl rfl; rintro _ _ ⟨b, rfl, rfl⟩); refine R_p rfl ?_ rfl rfl; refine R_nil ?_; refine S_seq rfl ?_; refine S_seq rfl ?_; refine S_region rfl rfl ?_; (refine R_eff (E_gv0 (f := 10) ⟨_, Try.func10, rfl, by kernel_rfl⟩ rfl (fun w hS => wakes_any w) (fun _ => rfl)) ?_ rfl rfl; rintro _ _ ⟨_, rfl, _, rfl⟩); refine R_take (T_not rfl) ?_ rfl rfl; refine R_nil ?_; refine S_false rfl rfl ?_; refine S_skip rfl ?_; refine S_seq rfl ?_; refine S_region rfl rfl ?_; refine R_take (T_loada (ds := [.slice k.A k.n k.c]) rfl rfl rfl rfl (fun j v h => by simpa using h)) ?_ rfl rfl; (refine R_eff (E_short (A := k.A) (m := k.n) (c := k.c) rfl (Srd.old hkr (fun k _ => noOwns k)) hkn hkc ha) ?_ rfl rfl; rintro _ _ ⟨ga, rfl, rfl⟩); (refine R_eff0 (E_storew (cs := [.slice k.A k.n k.c]) rfl rfl rfl rfl (sl_one _ _ _) rfl) ?_ rfl; rintro _ _ rfl); refine R_nil ?_; refine S_seq rfl ?_; refine S_seq rfl ?_; refine S_region rfl rfl ?_; refine R_take (T_loada (ds := [.slice (some ⟨ga, 0, none⟩) a.length (a.length + 2)]) rfl rfl rfl rfl (fun j v h => by simpa using h)) ?_ rfl rfl; refine R_p rfl ?_ rfl rfl; (refine R_eff (E_addW rfl rfl (wide_rd (g := ga)) (by omega) he1 rfl hk1) ?_ rfl rfl; rintro _ _ ⟨A1, cc1, rfl, rfl⟩); refine R_p rfl ?_ rfl rfl; refine R_p rfl ?_ rfl rfl; refine R_p rfl ?_ rfl rfl; (refine R_eff (E_alloca rfl cf_alloc) ?_ rfl rfl; rintro _ _ ⟨b7, rfl, rfl⟩); (refine R_eff0 (E_storew (cs := [.slice none 0 0]) rfl rfl rfl rfl (sl_one _ _ _) rfl) ?_ rfl; rintro _ _ rfl); refine R_p rfl ?_ rfl rfl; refine R_nil ?_; refine S_seq rfl ?_; refine S_region rfl rfl ?_; refine R_p rfl ?_ rfl rfl; refine R_p rfl ?_ rfl rfl; refine R_nil ?_)
  refine S_cut (X := Unit) (fun _ => [(3, .pointer (some ⟨b, 0, none⟩)), (2, .slice A n c)]) (fun _ => [pt ga 3 (wide a), pt b 24 [.slice (some ⟨ga, 0, none⟩) a.length (a.length + 2)]]) (fun _ => True) (fun J hJ => ?_) (fun _ _ => ?_)
  · by_cases h0 : e1 = 0
    · subst h0
      obtain ⟨hr, hmm, hma, hL⟩ := addE_0 he1
      have hd1 : drpE (addL a m) m = 0 := by rw [hL]; exact (oneM_drop hr hmm hma).1
      have hd2 : drpL (addL a m) m = a := by rw [hL]; exact (oneM_drop hr hmm hma).2
      have hs1 : stpE a (addL a m) = 0 := by rw [hL]; exact (oneM_steps hr hmm hma).1
      have hs2 : stpE (addL a m) a = 0 := by rw [hL]; exact (oneM_steps hr hmm hma).2
      focus (refine S_true rfl rfl ?_; refine S_seq rfl ?_; refine S_region rfl rfl ?_; refine R_take (T_loada (ds := [.slice A1 k1 cc1]) rfl rfl rfl rfl (fun j v h => by simpa using h)) ?_ rfl rfl; refine R_p rfl ?_ rfl rfl; (refine R_eff (E_drpW (ms := addL a m) rfl rfl (Srd.row (n := k1) (c := cc1)) (by omega) hd1 hd2 rfl) ?_ rfl rfl; rintro _ _ ⟨A3, cc3, rfl, rfl⟩); refine R_p rfl ?_ rfl rfl; refine R_p rfl ?_ rfl rfl; refine R_p rfl ?_ rfl rfl; (refine R_eff (E_alloca rfl cf_alloc) ?_ rfl rfl; rintro _ _ ⟨b9, rfl, rfl⟩); (refine R_eff0 (E_storew (cs := [.slice none 0 0]) rfl rfl rfl rfl (sl_one _ _ _) rfl) ?_ rfl; rintro _ _ rfl); refine R_p rfl ?_ rfl rfl; refine R_nil ?_; refine S_seq rfl ?_; refine S_region rfl rfl ?_; refine R_p rfl ?_ rfl rfl; refine R_take (T_decF rfl (by decide)) ?_ rfl rfl; refine R_p rfl ?_ rfl rfl; refine R_take (T_loada (ds := [.slice A3 a.length cc3]) rfl rfl rfl rfl (fun j v h => by simpa using h)) ?_ rfl rfl; refine R_take (T_loada (ds := [.slice (some ⟨ga, 0, none⟩) a.length (a.length + 2)]) rfl rfl rfl rfl (fun j v h => by simpa using h)) ?_ rfl rfl; (refine R_eff (E_sameW (ms := a) (ks := a) rfl rfl (Srd.row (n := a.length) (c := cc3)) (wide_rd (g := ga)) (by omega) (by omega) (decide_eq_true rfl)) ?_ rfl rfl; rintro _ _ ⟨rfl, rfl⟩); refine R_take (T_not rfl) ?_ rfl rfl; refine R_p rfl ?_ rfl rfl; refine R_p rfl ?_ rfl rfl; refine R_take (T_loada (ds := [.slice (some ⟨ga, 0, none⟩) a.length (a.length + 2)]) rfl rfl rfl rfl (fun j v h => by simpa using h)) ?_ rfl rfl; refine R_take (T_loada (ds := [.slice A1 k1 cc1]) rfl rfl rfl rfl (fun j v h => by simpa using h)) ?_ rfl rfl; (refine R_eff (E_stepW (ms := a) (ks := addL a m) rfl rfl (wide_rd (g := ga)) (Srd.row (n := k1) (c := cc1)) (by omega) (by omega) hs1) ?_ rfl rfl; rintro _ _ ⟨rfl, rfl⟩); refine R_take (T_decF rfl (by decide)) ?_ rfl rfl; refine R_p rfl ?_ rfl rfl; refine R_p rfl ?_ rfl rfl; refine R_take (T_loada (ds := [.slice A1 k1 cc1]) rfl rfl rfl rfl (fun j v h => by simpa using h)) ?_ rfl rfl; refine R_take (T_loada (ds := [.slice (some ⟨ga, 0, none⟩) a.length (a.length + 2)]) rfl rfl rfl rfl (fun j v h => by simpa using h)) ?_ rfl rfl; (refine R_eff (E_stepW (ms := addL a m) (ks := a) rfl rfl (Srd.row (n := k1) (c := cc1)) (wide_rd (g := ga)) (by omega) (by omega) hs2) ?_ rfl rfl; rintro _ _ ⟨rfl, rfl⟩); refine R_take (T_decF rfl (by decide)) ?_ rfl rfl; refine R_p rfl ?_ rfl rfl; refine R_nil ?_; refine S_false rfl rfl ?_; refine S_skip rfl ?_)
      exact hJ () _ _ trivial (Sub.cons rfl (Sub.cons rfl Sub.nil)) sub_st
    · skip
      refine S_false rfl (by rw [decide_eq_false h0]; rfl) ?_
      focus (refine S_skip rfl ?_)
      exact hJ () _ _ trivial (Sub.cons rfl (Sub.cons rfl Sub.nil)) sub_st
  refine S_seq rfl ?_
  refine S_cut (X := Unit) (fun _ => [(2, .slice A n c)]) (fun _ => []) (fun _ => True) (fun J hJ => ?_) (fun _ _ => ?_)
  · cases ra
    · skip
      focus (refine S_seq rfl ?_; refine S_region rfl rfl ?_; refine R_take (T_loada (ds := [.slice (some ⟨ga, 0, none⟩) a.length (a.length + 2)]) rfl rfl rfl rfl (fun j v h => by simpa using h)) ?_ rfl rfl; (refine R_eff (E_encF rfl (wide_rd (g := ga)) (by omega) hra) ?_ rfl rfl; rintro _ _ ⟨rfl, rfl⟩); refine R_p rfl ?_ rfl rfl; refine R_p rfl ?_ rfl rfl; refine R_p rfl ?_ rfl rfl; refine R_p rfl ?_ rfl rfl; refine R_p rfl ?_ rfl rfl; refine R_nil ?_; refine S_seq rfl ?_; refine S_region rfl rfl ?_; refine R_p rfl ?_ rfl rfl; refine R_take (T_decF rfl (by decide)) ?_ rfl rfl; refine R_nil ?_; refine S_false rfl rfl ?_; refine S_skip rfl ?_)
      exact hJ () _ _ trivial (Sub.cons rfl Sub.nil) (fun _ hS => hS.sublist (List.nil_sublist _))
    · skip
      focus (refine S_seq rfl ?_; refine S_region rfl rfl ?_; refine R_take (T_loada (ds := [.slice (some ⟨ga, 0, none⟩) a.length (a.length + 2)]) rfl rfl rfl rfl (fun j v h => by simpa using h)) ?_ rfl rfl; (refine R_eff (E_encT rfl (wide_rd (g := ga)) (by omega) hra rfl) ?_ rfl rfl; rintro _ _ ⟨Ae, ce, rfl, rfl⟩); refine R_p rfl ?_ rfl rfl; refine R_p rfl ?_ rfl rfl; refine R_p rfl ?_ rfl rfl; refine R_p rfl ?_ rfl rfl; refine R_p rfl ?_ rfl rfl; refine R_nil ?_; refine S_seq rfl ?_; refine S_region rfl rfl ?_; refine R_p rfl ?_ rfl rfl; refine R_take (T_decT rfl rfl) ?_ rfl rfl; refine R_nil ?_; refine S_true rfl rfl ?_; refine S_seq rfl ?_; refine S_region rfl rfl ?_; refine R_p rfl ?_ rfl rfl; (refine R_eff (E_decW (l := encM a) rfl (Src.row (c := ce)) (by omega) (enc_dec hra).1 (enc_dec hra).2 rfl) ?_ rfl rfl; rintro _ _ ⟨Ad, cd, rfl, rfl⟩); refine R_p rfl ?_ rfl rfl; refine R_p rfl ?_ rfl rfl; refine R_p rfl ?_ rfl rfl; (refine R_eff (E_alloca rfl cf_alloc) ?_ rfl rfl; rintro _ _ ⟨b13, rfl, rfl⟩); (refine R_eff0 (E_storew (cs := [.slice none 0 0]) rfl rfl rfl rfl (sl_one _ _ _) rfl) ?_ rfl; rintro _ _ rfl); refine R_p rfl ?_ rfl rfl; refine R_nil ?_; refine S_seq rfl ?_; refine S_seq rfl ?_; refine S_region rfl rfl ?_; refine R_p rfl ?_ rfl rfl; refine R_take (T_decF rfl (by decide)) ?_ rfl rfl; refine R_p rfl ?_ rfl rfl; refine R_take (T_loada (ds := [.slice (some ⟨ga, 0, none⟩) a.length (a.length + 2)]) rfl rfl rfl rfl (fun j v h => by simpa using h)) ?_ rfl rfl; refine R_take (T_loada (ds := [.slice Ad a.length cd]) rfl rfl rfl rfl (fun j v h => by simpa using h)) ?_ rfl rfl; (refine R_eff (E_sameW (ms := a) (ks := a) rfl rfl (wide_rd (g := ga)) (Srd.row (n := a.length) (c := cd)) (by omega) (by omega) (decide_eq_true rfl)) ?_ rfl rfl; rintro _ _ ⟨rfl, rfl⟩); refine R_take (T_not rfl) ?_ rfl rfl; refine R_p rfl ?_ rfl rfl; refine R_nil ?_; refine S_false rfl rfl ?_; refine S_skip rfl ?_; refine S_seq rfl ?_; refine S_region rfl rfl ?_; refine R_p rfl ?_ rfl rfl; refine R_p rfl ?_ rfl rfl; refine R_p rfl ?_ rfl rfl; refine R_nil ?_; refine S_block rfl ?_)
      refine RS_row Ae (a.length + 1) ce fun hcc hccm _ _ => ?_
      refine S_loop (X := Nat) (fun j => [(2, .slice A n c), (11, .slice Ae (a.length + 1) ce), (80, .int .i64 ((a.length + 1 : Nat) : Int)), (81, .int .i64 (j : Int))]) (fun _ => [row 5 1 Ae (a.length + 1) ce ((encM a).map bv)]) (fun j => j ≤ a.length + 1) (fun j => a.length + 1 - j) rfl 0 (Nat.zero_le _) (Sub.cons rfl (Sub.cons rfl (Sub.cons rfl (Sub.cons rfl Sub.nil)))) sub_st ?_
      rintro j hj J2 hJ2
      rcases Nat.lt_or_ge j (a.length + 1) with hjl | hjl
      · have hsh := enc_short hra j (by omega)
        focus (refine S_seq rfl ?_; refine S_region rfl rfl ?_; refine R_take (T_decT rfl (by omega)) ?_ rfl rfl; refine R_nil ?_; refine S_seq rfl ?_; refine S_true rfl rfl ?_; refine S_skip rfl ?_; refine S_seq rfl ?_; refine S_block rfl ?_; refine S_seq rfl ?_; refine S_region rfl rfl ?_; refine R_p rfl ?_ rfl rfl; refine R_p rfl ?_ rfl rfl; refine R_nil ?_; refine S_seq rfl ?_; refine S_region rfl rfl ?_; refine R_p rfl ?_ rfl rfl; refine R_p rfl ?_ rfl rfl; refine R_take (T_slhN rfl rfl rfl rfl rfl (by omega)) ?_ rfl rfl; (refine R_eff (E_decW (l := (encM a).take j) rfl ((Src.row (n := a.length + 1) (c := ce)).head (by omega)) (by omega) hsh.1 hsh.2 rfl) ?_ rfl rfl; rintro _ _ ⟨Ad, cd, rfl, rfl⟩); refine R_p rfl ?_ rfl rfl; refine R_p rfl ?_ rfl rfl; refine R_p rfl ?_ rfl rfl; (refine R_eff (E_alloca rfl cf_alloc) ?_ rfl rfl; rintro _ _ ⟨b13, rfl, rfl⟩); (refine R_eff0 (E_storew (cs := [.slice none 0 0]) rfl rfl rfl rfl (sl_one _ _ _) rfl) ?_ rfl; rintro _ _ rfl); refine R_p rfl ?_ rfl rfl; refine R_nil ?_; refine S_seq rfl ?_; refine S_region rfl rfl ?_; refine R_p rfl ?_ rfl rfl; refine R_take (T_decF rfl (by decide)) ?_ rfl rfl; refine R_nil ?_; refine S_false rfl rfl ?_; refine S_skip rfl ?_; refine RS_blk ?_; refine S_region rfl rfl ?_; refine R_take (T_addN rfl rfl (by unfold fits; omega)) ?_ rfl rfl; refine R_p rfl ?_ rfl rfl; refine R_nil ?_)
        exact hJ2 (j + 1) _ _ (by omega) (Sub.cons rfl (Sub.cons rfl (Sub.cons rfl (Sub.cons rfl Sub.nil)))) sub_st (by omega)
      · skip
        focus (refine S_seq rfl ?_; refine S_region rfl rfl ?_; refine R_take (T_decF rfl (by omega)) ?_ rfl rfl; refine R_nil ?_; refine S_seq rfl ?_; refine S_false rfl rfl ?_; refine S_exit rfl rfl ?_)
        exact hJ () _ _ trivial (Sub.cons rfl Sub.nil) (fun _ hS => hS.sublist (List.nil_sublist _))
  by_cases h0 : e = 0
  · subst h0
    obtain ⟨g1, g2, g3⟩ := dec_enc he
    have hrL : right (decL l) = true := by rw [g3]; exact g1
    have hen : encM (decL l) = l := by rw [g3]; exact g2
    focus (refine S_seq rfl ?_; refine S_region rfl rfl ?_; refine R_p rfl ?_ rfl rfl; refine R_p rfl ?_ rfl rfl; refine R_p rfl ?_ rfl rfl; refine R_take ((hq ▸ T_minN rfl rfl)) ?_ rfl rfl; refine R_take (T_slhN rfl rfl rfl rfl rfl (by omega)) ?_ rfl rfl; refine R_p rfl ?_ rfl rfl; refine R_nil ?_; refine S_seq rfl ?_; refine S_region rfl rfl ?_; refine R_p rfl ?_ rfl rfl; (refine R_eff (E_decW (l := l) rfl (Src.old hrq (fun k _ => noOwns k)) (by omega) he rfl hkL) ?_ rfl rfl; rintro _ _ ⟨Ad, cd, rfl, rfl⟩); refine R_p rfl ?_ rfl rfl; refine R_p rfl ?_ rfl rfl; refine R_p rfl ?_ rfl rfl; (refine R_eff (E_alloca rfl cf_alloc) ?_ rfl rfl; rintro _ _ ⟨b18, rfl, rfl⟩); (refine R_eff0 (E_storew (cs := [.slice none 0 0]) rfl rfl rfl rfl (sl_one _ _ _) rfl) ?_ rfl; rintro _ _ rfl); refine R_p rfl ?_ rfl rfl; refine R_nil ?_; refine S_seq rfl ?_; refine S_seq rfl ?_; refine S_region rfl rfl ?_; refine R_p rfl ?_ rfl rfl; refine R_take (T_decF rfl (by decide)) ?_ rfl rfl; refine R_nil ?_; refine S_false rfl rfl ?_; refine S_skip rfl ?_; refine S_seq rfl ?_; refine S_region rfl rfl ?_; refine R_take (T_loada (ds := [.slice Ad kL cd]) rfl rfl rfl rfl (fun j v h => by simpa using h)) ?_ rfl rfl; (refine R_eff (E_encT (ms := decL l) rfl (Srd.row (n := kL) (c := cd)) hkL9 hrL hen) ?_ rfl rfl; rintro _ _ ⟨Ax, cx, rfl, rfl⟩); refine R_p rfl ?_ rfl rfl; refine R_p rfl ?_ rfl rfl; refine R_p rfl ?_ rfl rfl; refine R_p rfl ?_ rfl rfl; refine R_p rfl ?_ rfl rfl; refine R_nil ?_; refine S_seq rfl ?_; refine S_region rfl rfl ?_; refine R_p rfl ?_ rfl rfl; refine R_take (T_decT rfl rfl) ?_ rfl rfl; refine R_p rfl ?_ rfl rfl; refine R_p rfl ?_ rfl rfl; refine R_p rfl ?_ rfl rfl; (refine R_eff (E_equal (l1 := l) (l2 := l) rfl rfl (Src.row (c := cx)) (Src.old hrq (fun k _ => noOwns k)) (decide_eq_true rfl)) ?_ rfl rfl; rintro _ _ ⟨rfl, rfl⟩); refine R_p rfl ?_ rfl rfl; refine R_p rfl ?_ rfl rfl; refine R_nil ?_)
    refine hB _ _ _ _ _ rfl rfl fun w' hS => ⟨(), rfl, trivial, hS.sublist (List.nil_sublist _)⟩
  · have hk0 : kL = 0 := by rw [← hkL, decL, if_neg (by rw [he]; exact h0)]; rfl
    subst hk0
    focus (refine S_seq rfl ?_; refine S_region rfl rfl ?_; refine R_p rfl ?_ rfl rfl; refine R_p rfl ?_ rfl rfl; refine R_p rfl ?_ rfl rfl; refine R_take ((hq ▸ T_minN rfl rfl)) ?_ rfl rfl; refine R_take (T_slhN rfl rfl rfl rfl rfl (by omega)) ?_ rfl rfl; refine R_p rfl ?_ rfl rfl; refine R_nil ?_; refine S_seq rfl ?_; refine S_region rfl rfl ?_; refine R_p rfl ?_ rfl rfl; (refine R_eff (E_decW (l := l) rfl (Src.old hrq (fun k _ => noOwns k)) (by omega) he rfl hkL) ?_ rfl rfl; rintro _ _ ⟨Ad, cd, rfl, rfl⟩); refine R_p rfl ?_ rfl rfl; refine R_p rfl ?_ rfl rfl; refine R_p rfl ?_ rfl rfl; (refine R_eff (E_alloca rfl cf_alloc) ?_ rfl rfl; rintro _ _ ⟨b18, rfl, rfl⟩); (refine R_eff0 (E_storew (cs := [.slice none 0 0]) rfl rfl rfl rfl (sl_one _ _ _) rfl) ?_ rfl; rintro _ _ rfl); refine R_p rfl ?_ rfl rfl; refine R_nil ?_; refine S_seq rfl ?_; refine S_seq rfl ?_; refine S_region rfl rfl ?_; refine R_p rfl ?_ rfl rfl; refine R_take (T_decT rfl h0) ?_ rfl rfl; refine R_nil ?_; refine S_true rfl rfl ?_; refine S_seq rfl ?_; refine S_region rfl rfl ?_; refine R_p rfl ?_ rfl rfl; refine R_take (T_load rfl rfl rfl (by first | rfl | assumption)) ?_ rfl rfl; refine R_p rfl ?_ rfl rfl; refine R_p rfl ?_ rfl rfl; refine R_p rfl ?_ rfl rfl; refine R_nil ?_)
    refine hB _ _ _ _ _ rfl rfl fun w' hS => ⟨(), rfl, trivial, hS.sublist (List.nil_sublist _)⟩
theorem ConfBack_open {H : Type} {enc : TypeId × Value → H} (W : World) {r : Reach} (base : Nat) (v0 v1 v2 : Value) {d0 d1 d2 : DataW H} {p0 p1 p2 : List MemPlace}
    (hv0 : Value.okWide Try.prog W r base 24 v0) (hv1 : Value.okWide Try.prog W r base 3 v1) (hv2 : Value.okWide Try.prog W r base 37 v2)
    (h0 : DataW.Trod enc Try.prog W 0 (fun _ => true) true 24 v0 d0 p0) (h1 : DataW.Trod enc Try.prog W 0 (fun _ => true) true 3 v1 d1 p1) (h2 : DataW.Trod enc Try.prog W 0 (fun _ => true) true 37 v2 d2 p2) :
    Calls Try.prog 7 #[v0, v1, v2] W fun e w' => e = .returned (.bool true) ∧ Kp All W w' := by
  obtain ⟨k, rfl, hk⟩ := open_cf hv0 h0
  obtain ⟨z, rfl⟩ := okWide_int Try.underlying3 hv1
  obtain ⟨A, n, c, l, rfl, hb⟩ := open_bytes hv2 h2
  exact (back_any W k hk z A n c l hb).pure
end Go.Proofs.Ytlihhjldkopfhaa
