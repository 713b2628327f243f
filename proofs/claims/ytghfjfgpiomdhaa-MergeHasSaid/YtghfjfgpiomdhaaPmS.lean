/- Get and Paths of maps, walked. -/
import Derived.Test.YtghfjfgpiomdhaaPmR
import Derived.Test.YtghfjfgpiomdhaaPmM
namespace Go.Proofs.Ytghfjfgpiomdhaa
open Go.RowKit
open Asn (pt row rb)
set_option linter.unusedVariables false
set_option linter.unusedSimpArgs false
--@use N

set_option maxRecDepth 100000 in
set_option maxHeartbeats 4000000 in
theorem getclo_any (w : World) (b : Nat) (x : Rw) (p : Str) (h : Rd w All 1 (some ⟨b, 0, none⟩) 1 [sv p]) :
    Gives Try.prog 57 [.agg (rwc x).toArray, .pointer (some ⟨b, 0, none⟩)] [] w (X := Unit) (fun _ => .bool (decide (x.1 = p))) (fun _ => True) (fun _ => []) := by
  refine gives_S Try.func57 rfl Try.ntmps57 Try.results57 (by simp) (St.enter w) (fun B hB => ?_)
  obtain ⟨s, t⟩ := x
  obtain ⟨r, hr⟩ : ∃ r, decide (s = p) = r := ⟨_, rfl⟩
  have hcm : scmp .eql s p = some r := by
    have : scmp .eql s p = some (decide (s = p)) := rfl
    rw [this, hr]
  focus (refine S_seq rfl ?_; refine S_region rfl rfl ?_; (refine R_eff (E_boxa (cs := rwc (s, t)) rfl) ?_ rfl rfl; rintro _ _ ⟨b2, rfl, rfl⟩); refine R_p rfl ?_ rfl rfl; refine R_nil ?_; refine S_seq rfl ?_; refine S_region rfl rfl ?_; refine R_p rfl ?_ rfl rfl; refine R_take (T_load rfl rfl rfl (by first | rfl | assumption)) ?_ rfl rfl; refine R_take (T_loadg rfl rfl rfl h (fun k _ => noOwns k) rfl) ?_ rfl rfl; refine R_take (T_scm (a := s) (b := p) rfl rfl hcm) ?_ rfl rfl; refine R_p rfl ?_ rfl rfl; refine R_nil ?_)
  refine hB _ _ _ _ _ rfl rfl fun w' hS => ⟨(), ?_, trivial, hS.sublist (List.nil_sublist _)⟩
  show Value.bool r = Value.bool (decide (s = p))
  rw [hr]
theorem idx_fst (L : List Rw) (p : Str) : (idxR (fun x => decide (x.1 = p)) L = -1 ∧ fstK (·.1) L p = none) ∨ ∃ i : Nat, idxR (fun x => decide (x.1 = p)) L = (i : Int) ∧ i < L.length ∧ fstK (·.1) L p = some (L.getD i default) := by
  by_cases h : L.all (fun x => !decide (x.1 = p)) = true
  · refine .inl ⟨by rw [idxR, if_pos h], fst_not.2 fun x hx => ?_⟩
    have := List.all_eq_true.1 h x hx
    simpa using this
  · refine .inr ⟨L.findIdx (fun x => decide (x.1 = p)), by rw [idxR, if_neg h], ?_, ?_⟩
    · rw [List.findIdx_lt_length]
      simpa using h
    · have hlt : L.findIdx (fun x => decide (x.1 = p)) < L.length := by
        rw [List.findIdx_lt_length]
        simpa using h
      refine fst_hit (k := (·.1)) hlt (fun x hx => ?_) ?_
      · obtain ⟨j, hj, rfl⟩ := List.getElem_of_mem hx
        simp only [List.length_take] at hj
        rw [List.getElem_take]
        have := List.not_of_lt_findIdx (p := fun x : Rw => decide (x.1 = p)) (xs := L) (i := j) (by omega)
        simpa using this
      · have := List.findIdx_getElem (p := fun x : Rw => decide (x.1 = p)) (xs := L) (w := hlt)
        simpa [List.getD, hlt] using this
set_option maxRecDepth 100000 in
set_option maxHeartbeats 4000000 in
theorem get_any (w : World) (A : Option Addr) (n c : Nat) (L : List Rw) (p : Str) (h : Rd w All 2 A n (cellsL rwc L)) (hn : n ≤ 100000) :
    Gives Try.prog 28 [.agg #[.slice A n c], sv p] [] w (X := Unit) (fun _ => getV (fstK (·.1) L p)) (fun _ => True) (fun _ => []) := by
  refine gives_S Try.func28 rfl Try.ntmps28 Try.results28 (by simp) (St.enter w) (fun B hB => ?_)
  have hl : L.length = n := by have := h.1; rw [cellsL_len rwc_len] at this; omega
  have hne : 0 < n → A ≠ none := fun h0 => by obtain ⟨ad, rfl, _⟩ := h.2 (by omega); simp
  subst hl
  focus (refine S_seq rfl ?_; refine S_region rfl rfl ?_; (refine R_eff (E_boxa (cs := [.slice A L.length c]) rfl) ?_ rfl rfl; rintro _ _ ⟨b2, rfl, rfl⟩); (refine R_eff (E_box1 (v := sv p) rfl rfl) ?_ rfl rfl; rintro _ _ ⟨b3, rfl, rfl⟩); refine R_p rfl ?_ rfl rfl; refine R_p rfl ?_ rfl rfl; refine R_nil ?_; refine S_seq rfl ?_; refine S_region rfl rfl ?_; refine R_p rfl ?_ rfl rfl; refine R_take (T_load rfl rfl rfl (by first | rfl | assumption)) ?_ rfl rfl; refine R_take (T_func rfl rfl) ?_ rfl rfl; ((refine R_eff (E_hv0 (f := 56) ⟨_, Try.func56, rfl, by kernel_rfl⟩ (fun w hS => idxfR_any w A L.length c 57 [.pointer (some ⟨b3, 0, none⟩)] L (fun x => decide (x.1 = p)) ((Srd.old h (fun k _ => noOwns k)).rd w hS) hn ⟨_, Try.func57, rfl, by kernel_rfl⟩ (fun w' hk x hx => getclo_any w' b3 x p (((Srd.pt (g := b3) (n := 1) (size := 1) (off := 0) (ds := [sv p]) rfl (fun j u hj => by rw [Nat.zero_add]; exact hj)).rd w hS).keep hk))) rfl rfl (fun _ => rfl)) ?_ rfl rfl; rintro _ _ ⟨_, rfl, _, rfl⟩)); refine R_p rfl ?_ rfl rfl; refine R_nil ?_; refine S_seq rfl ?_; refine S_seq rfl ?_; refine S_region rfl rfl ?_; refine R_p rfl ?_ rfl rfl; refine R_p rfl ?_ rfl rfl; refine R_nil ?_)
  rcases idx_fst L p with ⟨h1, h2⟩ | ⟨i, h1, hil, h2⟩
  · rw [h1]
    rw [h2] at hB
    focus (refine S_true rfl rfl ?_; refine S_seq rfl ?_; refine S_region rfl rfl ?_; refine R_p rfl ?_ rfl rfl; refine R_p rfl ?_ rfl rfl; refine R_nil ?_)
    exact hB _ _ _ _ _ rfl rfl fun w' hS => ⟨(), rfl, trivial, hS.sublist (List.nil_sublist _)⟩
  · rw [h1]
    rw [h2] at hB
    have hne := hne (by omega)
    have hat := fun e v => cellsL_at (f := rwc) rwc_len L default i hil e v
    obtain ⟨⟨s, t⟩, hx⟩ : ∃ x, L.getD i default = x := ⟨_, rfl⟩
    rw [hx] at hat hB
    have hat1 : (cellsL rwc L)[i * 2 + 1]? = some (sv t) := hat 1 _ rfl
    focus (refine S_false rfl rfl ?_; refine S_skip rfl ?_; refine S_seq rfl ?_; refine S_region rfl rfl ?_; refine R_p rfl ?_ rfl rfl; refine R_take (T_load rfl rfl rfl (by first | rfl | assumption)) ?_ rfl rfl; refine R_p rfl ?_ rfl rfl; refine R_take (T_ixM (sz := 2) (q := i) rfl rfl rfl rfl rfl rfl hne hil) ?_ rfl rfl; refine R_take (T_fap rfl rfl rfl rfl rfl hne) ?_ rfl rfl; refine R_take (T_ldr rfl rfl rfl (Srd.old h (fun k _ => noOwns k)) (by omega) hat1) ?_ rfl rfl; refine R_p rfl ?_ rfl rfl; refine R_p rfl ?_ rfl rfl; refine R_nil ?_)
    exact hB _ _ _ _ _ rfl rfl fun w' hS => ⟨(), rfl, trivial, hS.sublist (List.nil_sublist _)⟩
theorem E_getW {n : Nat} {w0 : World} {M : Nat → Prop} {T : Slots} {H : List Asn} {dd : Option Tmp} {tt : TypeId} {pos : String} {af : Array Edge} {g : Option (Nat × Bool)} {x y : Operand} {ts : Array TypeId} {A : Option Addr} {m c : Nat} {L : List Rw} {p : Str} {o : Option Rw} (hx : oget T x = some (.agg #[.slice A m c])) (hy : oget T y = some (sv p)) (hs : Srd w0 M H 2 A m (cellsL rwc L)) (hm : m ≤ 100000) (ho : fstK (·.1) L p = o) :
    Ef Try.prog n w0 M T H ⟨dd, .call ⟨.value (.func 28), #[x, y], ts⟩, tt, pos, af, g⟩ (fun u H' => u = .tuple #[sv (gt o), .bool o.isSome] ∧ H' = H) := by
  subst ho
  refine (E_gv ⟨_, Try.func28, rfl, by kernel_rfl⟩ (vs := [.agg #[.slice A m c], sv p]) (by simp [ogets, hx, hy]) fun w hS => get_any w A m c L p (hs.rd w hS) hm).mono ?_
  rintro v H' ⟨_, rfl, _, rfl⟩ w hS
  exact ⟨_, _, rfl, ⟨by cases fstK (·.1) L p <;> rfl, rfl⟩, hS⟩
/-- maps in a row -/
abbrev Mp := Option Addr × Nat × List Rw
def mpv (m : Mp) : Value := .slice m.1 m.2.2.length m.2.1
def keysM (ms : List Mp) : List Str := ms.flatMap fun m => m.2.2.map (·.1)
theorem keysM_next (ms : List Mp) (j : Nat) (hj : j < ms.length) : keysM (ms.take (j + 1)) = keysM (ms.take j) ++ (ms.getD j default).2.2.map (·.1) := by
  rw [keysM, List.take_succ_eq_append_getElem hj, List.flatMap_append]
  simp [keysM, List.getD, hj]
theorem keysM_le (ms : List Mp) (j : Nat) : (keysM (ms.take j)).length ≤ (keysM ms).length := by
  conv => rhs; rw [← List.take_append_drop j ms]
  rw [keysM, keysM, List.flatMap_append, List.length_append]
  omega
theorem keysM_in (ms : List Mp) (m : Mp) (hm : m ∈ ms) : m.2.2.length ≤ (keysM ms).length := by
  obtain ⟨j, hj, rfl⟩ := List.getElem_of_mem hm
  have h1 := keysM_next ms j hj
  have h2 := keysM_le ms (j + 1)
  rw [h1, List.length_append] at h2
  simp [List.getD, hj] at h2
  omega
def pathsP (ms : List Mp) : List Str := Lib.compact (srtS (keysM ms))
set_option maxRecDepth 100000 in
set_option maxHeartbeats 4000000 in
theorem paths_any (w : World) (A : Option Addr) (n c : Nat) (ms : List Mp) (h : Rd w All 1 A n (ms.map mpv)) (hr : ∀ m ∈ ms, Rd w All 2 m.1 m.2.2.length (cellsL rwc m.2.2)) (hn : n ≤ 100) (ht : (keysM ms).length ≤ 10000) :
    Gives Try.prog 29 [.slice A n c] [] w (X := Option Addr × Nat) (fun x => .slice x.1 (pathsP ms).length x.2) (fun _ => True) (fun x => [row 9 1 x.1 (pathsP ms).length x.2 ((pathsP ms).map sv)]) := by
  refine gives_S Try.func29 rfl Try.ntmps29 Try.results29 (by simp) (St.enter w) (fun B hB => ?_)
  have hl : ms.length = n := by have := h.1; rw [List.length_map] at this; omega
  have hne : 0 < n → A ≠ none := fun h0 => by obtain ⟨ad, rfl, _⟩ := h.2 (by omega); simp
  subst hl
  focus (refine S_seq rfl ?_; refine S_region rfl rfl ?_; refine R_p rfl ?_ rfl rfl; refine R_nil ?_; refine S_seq rfl ?_; refine S_region rfl rfl ?_; refine R_p rfl ?_ rfl rfl; refine R_nil ?_; refine S_seq rfl ?_; refine S_seq rfl ?_; refine S_region rfl rfl ?_; refine R_p rfl ?_ rfl rfl; refine R_p rfl ?_ rfl rfl; refine R_p rfl ?_ rfl rfl; refine R_nil ?_; refine S_block rfl ?_)
  refine S_loop (X := Nat × Option Addr × Nat) (fun x => [(3, .slice x.2.1 (keysM (ms.take x.1)).length x.2.2), (8, .slice A ms.length c), (9, .int .i64 (ms.length : Int)), (10, .int .i64 (x.1 : Int))]) (fun x => [row 9 1 x.2.1 (keysM (ms.take x.1)).length x.2.2 ((keysM (ms.take x.1)).map sv)]) (fun x => x.1 ≤ ms.length) (fun x => ms.length - x.1) rfl (0, none, 0) (Nat.zero_le _) (Sub.cons rfl (Sub.cons rfl (Sub.cons rfl (Sub.cons rfl Sub.nil)))) (fun w hS => sub_st (H' := [row 9 1 none 0 0 []]) w (hS.nilrow 9 1)) ?_
  rintro ⟨j, A6, c6⟩ hj J hJ
  dsimp only at hj ⊢
  have hkl := keysM_le ms j
  rcases Nat.lt_or_ge j ms.length with hjl | hjl
  · have hne := hne (by omega)
    have hnx := keysM_next ms j hjl
    have hkl2 := keysM_le ms (j + 1)
    have hmem : ms.getD j default ∈ ms := by simp [List.getD, hjl]
    have hat : (ms.map mpv)[j * 1]? = some (mpv (ms.getD j default)) := by simp [List.getD, hjl]
    obtain ⟨⟨A2, c2, L⟩, hx⟩ : ∃ x, ms.getD j default = x := ⟨_, rfl⟩
    have h2 := hr _ hmem
    rw [hx] at hat hnx h2
    dsimp only at h2 hnx
    rw [hnx, List.length_append, List.length_map] at hkl2
    have hat : ∀ e v, [Value.slice A2 L.length c2][e]? = some v → (ms.map mpv)[j * 1 + e]? = some v := fun e v he => by
      cases e with
      | zero => simp at he; rw [← he]; exact hat
      | succ e => simp at he
    have hne2 : 0 < L.length → A2 ≠ none := fun h0 => by obtain ⟨ad, rfl, _⟩ := h2.2 (by omega); simp
    focus (refine S_seq rfl ?_; refine S_region rfl rfl ?_; refine R_take (T_decT rfl (by omega)) ?_ rfl rfl; refine R_nil ?_; refine S_seq rfl ?_; refine S_true rfl rfl ?_; refine S_skip rfl ?_; refine S_seq rfl ?_; refine S_block rfl ?_; refine S_seq rfl ?_; refine S_region rfl rfl ?_; refine R_take (T_ixM (sz := 1) rfl rfl rfl rfl rfl rfl hne hjl) ?_ rfl rfl; refine R_take (T_lda (ds := [.slice A2 L.length c2]) rfl rfl rfl (Srd.old h (fun k _ => noOwns k)) rfl (by omega) hat) ?_ rfl rfl; (refine R_eff (E_alloca rfl mp_alloc) ?_ rfl rfl; rintro _ _ ⟨b5, rfl, rfl⟩); (refine R_eff0 (E_storew (ds := [.slice A2 L.length c2]) (cs := [.slice none 0 0]) rfl rfl rfl rfl (sl_one _ _ _) rfl) ?_ rfl; rintro _ _ rfl); refine R_nil ?_; refine S_seq rfl ?_; refine S_region rfl rfl ?_; refine R_p rfl ?_ rfl rfl; refine R_take (T_load rfl rfl rfl (by first | rfl | assumption)) ?_ rfl rfl; refine R_p rfl ?_ rfl rfl; refine R_p rfl ?_ rfl rfl; refine R_nil ?_; refine S_block rfl ?_)
    obtain ⟨K, hK⟩ : ∃ K, keysM (ms.take j) = K := ⟨_, rfl⟩
    rw [hK] at hnx hkl2 hkl ⊢
    refine S_loop (X := Nat × Option Addr × Nat) (fun x => [(3, .slice x.2.1 (K.length + x.1) x.2.2), (8, .slice A ms.length c), (9, .int .i64 (ms.length : Int)), (10, .int .i64 (j : Int)), (15, .slice A2 L.length c2), (16, .int .i64 (L.length : Int)), (17, .int .i64 (x.1 : Int))]) (fun x => [row 9 1 x.2.1 (K.length + x.1) x.2.2 ((K ++ (L.take x.1).map (·.1)).map sv)]) (fun x => x.1 ≤ L.length) (fun x => L.length - x.1) rfl (0, A6, c6) (Nat.zero_le _) (Sub.cons rfl (Sub.cons rfl (Sub.cons rfl (Sub.cons rfl (Sub.cons rfl (Sub.cons rfl (Sub.cons rfl Sub.nil))))))) (fun w hS => by simpa using sub_st (H' := [row 9 1 A6 K.length c6 (K.map sv)]) w hS) ?_
    rintro ⟨i, A7, c7⟩ hi J2 hJ2
    dsimp only at hi ⊢
    rcases Nat.lt_or_ge i L.length with hil | hil
    · have hneL := hne2 (by omega)
      have hatL := fun e v => cellsL_at (f := rwc) rwc_len L default i hil e v
      have htk : L.take (i + 1) = L.take i ++ [L.getD i default] := by rw [List.take_succ_eq_append_getElem hil]; simp [List.getD, hil]
      obtain ⟨⟨s, t⟩, hy⟩ : ∃ x, L.getD i default = x := ⟨_, rfl⟩
      rw [hy] at hatL htk
      focus (refine S_seq rfl ?_; refine S_region rfl rfl ?_; refine R_take (T_decT rfl (by omega)) ?_ rfl rfl; refine R_nil ?_; refine S_seq rfl ?_; refine S_true rfl rfl ?_; refine S_skip rfl ?_; refine S_seq rfl ?_; refine S_block rfl ?_; refine S_seq rfl ?_; refine S_region rfl rfl ?_; refine R_take (T_ixM (sz := 2) rfl rfl rfl rfl rfl rfl hneL hil) ?_ rfl rfl; refine R_take (T_lda (ds := rwc (s, t)) rfl rfl rfl (Srd.old h2 (fun k _ => noOwns k)) rfl (by omega) hatL) ?_ rfl rfl; (refine R_eff (E_alloca rfl rwc_zero) ?_ rfl rfl; rintro _ _ ⟨b7, rfl, rfl⟩); (refine R_eff0 (E_storew (cs := rwc default) (ds := rwc (s, t)) rfl rfl rfl rfl (rwc_one _) rfl) ?_ rfl; rintro _ _ rfl); refine R_nil ?_; refine S_region rfl rfl ?_; refine R_p rfl ?_ rfl rfl; refine R_p rfl ?_ rfl rfl; refine R_take (T_load rfl rfl rfl (by first | rfl | assumption)) ?_ rfl rfl; (refine R_eff (E_lit1 (m := 1) (vs := [sv s]) rfl rfl rfl rfl rfl rfl rfl (by simp [sv, Value.oneCell']) (by decide)) ?_ rfl rfl; rintro _ _ ⟨bs, rfl, rfl⟩); (refine R_eff (E_app1 (m := K.length + i) (c := c7) rfl rfl rfl rfl rfl rfl rfl (Srd.pt (ds := [sv s]) rfl (fun j u hj => by rw [Nat.zero_add]; exact hj)) (by simp [sv, Value.oneCell']) (by show _ * 16 ≤ _; omega) (by unfold maxLen; omega)) ?_ rfl rfl; rintro _ _ ⟨A8, c8, rfl, rfl⟩); refine R_p rfl ?_ rfl rfl; refine R_nil ?_; refine RS_blk ?_; refine S_region rfl rfl ?_; refine R_take (T_addN rfl rfl (by unfold fits; omega)) ?_ rfl rfl; refine R_p rfl ?_ rfl rfl; refine R_nil ?_)
      refine hJ2 (i + 1, A8, c8) _ _ (by show i + 1 ≤ _; omega) ?_ (fun w' hS => ?_) (by dsimp only; omega)
      · exact (Sub.cons rfl (Sub.cons rfl (Sub.cons rfl (Sub.cons rfl (Sub.cons rfl (Sub.cons rfl (Sub.cons rfl Sub.nil)))))))
      · dsimp only
        have e3 : K ++ (L.take (i + 1)).map (·.1) = (K ++ (L.take i).map (·.1)) ++ [s] := by rw [htk]; simp
        rw [e3, List.map_append, show K.length + (i + 1) = K.length + i + 1 from rfl, List.map_cons, List.map_nil]
        exact sub_st w' hS
    have hil2 : i = L.length := by omega
    subst hil2
    rw [List.take_length, ← hnx]
    have e1 : K.length + L.length = (keysM (ms.take (j + 1))).length := by rw [hnx]; simp
    rw [e1]
    focus (refine S_seq rfl ?_; refine S_region rfl rfl ?_; refine R_take (T_decF rfl (by omega)) ?_ rfl rfl; refine R_nil ?_; refine S_seq rfl ?_; refine S_false rfl rfl ?_; refine S_exit rfl rfl ?_; refine RS_blk ?_; refine S_region rfl rfl ?_; refine R_take (T_addN rfl rfl (by unfold fits; omega)) ?_ rfl rfl; refine R_p rfl ?_ rfl rfl; refine R_nil ?_)
    exact hJ (j + 1, A7, c7) _ _ (by show j + 1 ≤ _; omega) (Sub.cons rfl (Sub.cons rfl (Sub.cons rfl (Sub.cons rfl Sub.nil)))) sub_st (by dsimp only; omega)
  have hjn : j = ms.length := by omega
  subst hjn
  rw [List.take_length]
  obtain ⟨K, hK⟩ : ∃ K, keysM ms = K := ⟨_, rfl⟩
  have hP : pathsP ms = Lib.compact (srtS K) := by rw [pathsP, hK]
  rw [hK] at ht ⊢
  rw [hP] at hB
  have e2 : K.length = (srtS K).length := (srtS_len K).symm
  focus (refine S_seq rfl ?_; refine S_region rfl rfl ?_; refine R_take (T_decF rfl (by omega)) ?_ rfl rfl; refine R_nil ?_; refine S_seq rfl ?_; refine S_false rfl rfl ?_; refine S_exit rfl rfl ?_; refine S_seq rfl ?_; refine S_region rfl rfl ?_; refine R_p rfl ?_ rfl rfl; (refine R_eff (E_ht1 (A1 := row 9 1 A6 K.length c6 (K.map sv)) ⟨_, Try.func58, rfl, by kernel_rfl⟩ (fun w hS hS2 => sort_any w A6 K.length c6 K hS2 (by omega)) rfl rfl (fun _ => rfl)) ?_ rfl rfl; rintro _ _ ⟨_, rfl, _, rfl⟩); refine R_nil ?_; refine S_seq rfl ?_; refine S_region rfl rfl ?_; refine R_p rfl ?_ rfl rfl; (refine R_eff (E_ht1 (A1 := row 9 1 A6 K.length c6 ((srtS K).map sv)) ⟨_, Try.func59, rfl, by kernel_rfl⟩ (fun w hS hS2 => compact_any w A6 K.length c6 (srtS K) hS2 (by omega)) rfl rfl (fun _ => rfl)) ?_ rfl rfl; rintro _ _ ⟨_, rfl, _, rfl⟩); refine R_p rfl ?_ rfl rfl; refine R_nil ?_)
  exact hB _ _ _ _ _ rfl rfl fun w' hS => ⟨(A6, c6), rfl, trivial, sub_st _ hS⟩
end Go.Proofs.Ytghfjfgpiomdhaa
