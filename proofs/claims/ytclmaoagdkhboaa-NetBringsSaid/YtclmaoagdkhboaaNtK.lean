/- Nets: a change of cuts. -/
import Derived.Test.YtclmaoagdkhboaaNtJ
namespace Go.Proofs.Ytclmaoagdkhboaa
open Go.RowKit Go.ChangeShapes Go.WideShapes Go.ChangeAt
open Asn (pt row rb)
set_option linter.unusedVariables false
set_option linter.unusedSimpArgs false
--@use N

/-- how many cuts stand before one -/
def idxC (C : List Ct) (m : Ct) : Nat := (C.filter fun c => decide (keyC c < keyC m)).length
def FoundI (C : List Ct) (n : Nat) (x : Ct) (u : Nat × Bool) : Prop := u.1 ≤ n ∧ (u.2 = true → u.1 < n) ∧ (GoodC C n x → (∀ k, k < u.1 → keyC (C.getD k default) < keyC x) ∧ (∀ k, u.1 ≤ k → k < n → ¬ keyC (C.getD k default) < keyC x) ∧ (u.2 = true ↔ u.1 < n ∧ C.getD u.1 default = x))
theorem cut_srt {C : List Ct} (h : cutsB C C.length = true) : ∀ d p, p + d + 1 < C.length → keyC (C.getD p default) < keyC (C.getD (p + d + 1) default) := by
  have h1 : ∀ q, q + 1 < C.length → keyC (C.getD q default) < keyC (C.getD (q + 1) default) := fun q hq => by
    have h2 := cutsB_at h hq
    unfold cutOk at h2
    rw [Bool.and_eq_true, Bool.or_eq_true, decide_eq_true_eq, decide_eq_true_eq] at h2
    rcases h2.2 with h3 | h3
    · omega
    · unfold keyC
      exact h3
  intro d
  induction d with
  | zero => intro p hp; exact h1 p hp
  | succ d ih => intro p hp; exact Int.lt_trans (ih p (by omega)) (h1 (p + d + 1) (by omega))
theorem good_of {W : List Pn} {C : List Ct} {n2 : Nat} {a b : Int} (hch : chkB W C = true) (hp : pairB a b = true) (hk2 : C.length = n2) : GoodC C n2 (minI a b, maxI a b) := by
  have hcut : cutsB C C.length = true := by
    unfold chkB at hch
    rw [Bool.and_eq_true] at hch
    exact hch.2
  have hl := pairB_lo hp
  refine ⟨?_, fun k hk => cutOk_lo (cutsB_at hcut (by omega)), fun p q hpq hq => ?_⟩
  · unfold okC minI maxI
    dsimp only
    split <;> split <;> omega
  · have h := cut_srt hcut (q - p - 1) p (by omega)
    rw [show p + (q - p - 1) + 1 = q by omega] at h
    exact h
theorem found_eq {C : List Ct} {n2 i : Nat} {f : Bool} {m : Ct} (hk2 : C.length = n2) (hG : GoodC C n2 m) (hI : FoundI C n2 m (i, f)) : f = decide (m ∈ C) := by
  obtain ⟨h1, h2, h3⟩ := hI
  obtain ⟨h4, h5, h6⟩ := h3 hG
  dsimp only at h1 h2 h4 h5 h6
  rw [Bool.eq_iff_iff, decide_eq_true_eq, h6]
  constructor
  · rintro ⟨h7, rfl⟩
    simp [List.getD, show i < C.length by omega]
  · intro hm
    obtain ⟨q, hq, hqm⟩ := List.getElem_of_mem hm
    have e : C.getD q default = m := by simp [List.getD, hq, hqm]
    rcases Nat.lt_trichotomy q i with h7 | h7 | h7
    · have h8 := h4 q h7
      rw [e] at h8
      exact absurd h8 (Int.lt_irrefl _)
    · rw [← h7]
      exact ⟨by omega, e⟩
    · have h8 := hG.2.2 i q h7 (by omega)
      rw [e] at h8
      exact absurd h8 (h5 i (Nat.le_refl _) (by omega))
theorem idx_eq {C : List Ct} {n2 i : Nat} {f : Bool} {m : Ct} (hk2 : C.length = n2) (hG : GoodC C n2 m) (hI : FoundI C n2 m (i, f)) : i = idxC C m := by
  obtain ⟨h1, h2, h3⟩ := hI
  obtain ⟨h4, h5, h6⟩ := h3 hG
  dsimp only at h1 h2 h4 h5 h6
  unfold idxC
  have e1 : (C.take i).filter (fun c => decide (keyC c < keyC m)) = C.take i := by
    rw [List.filter_eq_self]
    intro c hc
    obtain ⟨k, hk, rfl⟩ := List.getElem_of_mem hc
    rw [List.length_take] at hk
    have h7 := h4 k (by omega)
    have e : C.getD k default = (C.take i)[k]'(by rw [List.length_take]; omega) := by simp [List.getD, show k < C.length by omega]
    rw [e] at h7
    exact decide_eq_true h7
  have e2 : (C.drop i).filter (fun c => decide (keyC c < keyC m)) = [] := by
    rw [List.filter_eq_nil_iff]
    intro c hc
    obtain ⟨k, hk, rfl⟩ := List.getElem_of_mem hc
    rw [List.length_drop] at hk
    have h7 := h5 (i + k) (by omega) (by omega)
    have e : C.getD (i + k) default = (C.drop i)[k]'(by rw [List.length_drop]; omega) := by simp [List.getD, show i + k < C.length by omega]
    rw [e] at h7
    rw [decide_eq_true_eq]
    exact h7
  have e3 : C.filter (fun c => decide (keyC c < keyC m)) = C.take i := by
    conv => lhs; rw [← List.take_append_drop i C]
    rw [List.filter_append, e1, e2, List.append_nil]
  rw [e3, List.length_take]
  omega
set_option maxRecDepth 100000 in
set_option maxHeartbeats 4000000 in
theorem change_bad (w : World) (A : Option Addr) (c n : Nat) (P : List Pk) (W : List Pn) (hk : P.length = n) (hW : P.map pkv = W) (h : Rd w All 3 A n (cellsL pkc P)) (A2 : Option Addr) (c2' n2 : Nat) (C : List Ct) (hk2 : C.length = n2) (h2 : Rd w All 2 A2 n2 (cellsL ctc C)) (hn : n ≤ 1000) (hn2 : n2 ≤ 1000) (a b : Int) (o : Bool) (er e : Int) (he : chkB W C = false ∧ e = 330 ∨ chkB W C = true ∧ (if pairB a b = true then (if partP C a b = o then er else 0) else 2) = e ∧ e ≠ 0) :
    Gives Try.prog 54 [.agg (ntc A n c A2 n2 c2').toArray, .int .i64 a, .int .i64 b, .bool o, .int .i64 er] [] w (X := Unit) (fun _ => .tuple #[.agg (ntc none 0 0 none 0 0).toArray, .int .i64 e]) (fun _ => True) (fun _ => []) := by
  refine gives_C Try.func54 rfl Try.ntmps54 Try.results54 (by simp) (St.enter w) (fun B hB => ?_)
  obtain ⟨p, hp⟩ : ∃ p, pairB a b = p := ⟨_, rfl⟩
  focus (refine S_seq rfl ?_; refine S_region rfl rfl ?_; (refine R_eff (E_boxa (cs := ntc A n c A2 n2 c2') rfl) ?_ rfl rfl; rintro _ _ ⟨b5, rfl, rfl⟩); (refine R_eff (E_box1 (v := .bool o) rfl rfl) ?_ rfl rfl; rintro _ _ ⟨b8, rfl, rfl⟩); (refine R_eff (E_box1 (v := .int .i64 er) rfl rfl) ?_ rfl rfl; rintro _ _ ⟨b9, rfl, rfl⟩); (refine R_eff (E_alloca rfl nt_zero) ?_ rfl rfl; rintro _ _ ⟨b10, rfl, rfl⟩); refine R_p rfl ?_ rfl rfl; refine R_nil ?_; refine S_seq rfl ?_; refine S_region rfl rfl ?_; refine R_p rfl ?_ rfl rfl; refine R_p rfl ?_ rfl rfl; (refine R_eff (E_hv0 (f := 52) ⟨_, Try.func52, rfl, by kernel_rfl⟩ (fun w hS => pair_k w a b p hp) rfl rfl (fun _ => rfl)) ?_ rfl rfl; rintro _ _ ⟨_, rfl, _, rfl⟩); refine R_p rfl ?_ rfl rfl; refine R_p rfl ?_ rfl rfl; refine R_p rfl ?_ rfl rfl; (refine R_eff (E_alloca rfl ct_zero) ?_ rfl rfl; rintro _ _ ⟨b12, rfl, rfl⟩); (refine R_eff (E_alloc1 (v := .bool false) rfl rfl rfl) ?_ rfl rfl; rintro _ _ ⟨b13, rfl, rfl⟩); (refine R_eff0 (E_storew (cs := ctc (0, 0)) (ds := ctc (minI a b, maxI a b)) rfl rfl rfl rfl (ctc_one _) rfl) ?_ rfl; rintro _ _ rfl); (refine R_eff0 (E_store1 rfl rfl rfl rfl rfl rfl (by show _ < 1; omega)) ?_ rfl; rintro _ _ rfl); refine R_nil ?_; refine S_seq rfl ?_; refine S_region rfl rfl ?_; refine R_p rfl ?_ rfl rfl; refine R_take (T_load rfl rfl rfl rfl) ?_ rfl rfl; refine R_take (T_loads (ds := ctc (minI a b, maxI a b)) rfl rfl rfl rfl rfl) ?_ rfl rfl)
  focus ((refine R_eff (E_hv0 (f := 62) ⟨_, Try.func62, rfl, by kernel_rfl⟩ (fun w hS => searchC_any w A2 n2 c2' C hk2 (minI a b, maxI a b) ((Srd.old h2 (fun k _ => noOwns k)).rd w hS) hn2) rfl rfl (fun _ => rfl)) ?_ rfl rfl; rintro _ _ ⟨⟨i, f⟩, rfl, hI, rfl⟩); refine R_p rfl ?_ rfl rfl; refine R_p rfl ?_ rfl rfl; refine R_p rfl ?_ rfl rfl; (refine R_eff (E_alloc1 (v := .int .i64 0) rfl rfl rfl) ?_ rfl rfl; rintro _ _ ⟨b14, rfl, rfl⟩); (refine R_eff (E_alloc1 (v := .bool false) rfl rfl rfl) ?_ rfl rfl; rintro _ _ ⟨b15, rfl, rfl⟩); (refine R_eff0 (E_store1 rfl rfl rfl rfl rfl rfl (by show _ < 1; omega)) ?_ rfl; rintro _ _ rfl); (refine R_eff0 (E_store1 rfl rfl rfl rfl rfl rfl (by show _ < 1; omega)) ?_ rfl; rintro _ _ rfl); refine R_nil ?_; refine S_seq rfl ?_; refine S_region rfl rfl ?_; refine R_take (T_func rfl rfl) ?_ rfl rfl; refine R_p rfl ?_ rfl rfl; refine R_nil ?_; refine S_seq rfl ?_; refine S_region rfl rfl ?_; refine R_take (T_loads (ds := ntc A n c A2 n2 c2') rfl rfl rfl rfl rfl) ?_ rfl rfl; refine R_p rfl ?_ rfl rfl; refine R_take (T_func rfl rfl) ?_ rfl rfl)
  dsimp only at hI
  have hmay : chkB W C = true → (if p = true then (if f = o then er else 0) else 2) = e := fun hch => by
    rcases he with ⟨h3, _⟩ | ⟨_, h3, _⟩
    · rw [hch] at h3; cases h3
    rw [← h3, hp]
    cases p
    · rfl
    · have hf : f = partP C a b := found_eq hk2 (good_of hch hp hk2) hI
      rw [hf]
  focus ((refine R_eff (E_hv0 (f := 28) ⟨_, Try.func28, rfl, by kernel_rfl⟩ (fun w hS => turn_bad w A c n P W hk hW ((Srd.old h (fun k _ => noOwns k)).rd w hS) A2 c2' n2 C hk2 ((Srd.old h2 (fun k _ => noOwns k)).rd w hS) hn hn2 63 (.func (.func 64) #[] ([.pointer (some ⟨b8, 0, none⟩), .pointer (some ⟨b14, 0, none⟩), .pointer (some ⟨b12, 0, none⟩)] : List Value).toArray) [.pointer (some ⟨b13, 0, none⟩), .pointer (some ⟨b15, 0, none⟩), .pointer (some ⟨b8, 0, none⟩), .pointer (some ⟨b9, 0, none⟩)] ⟨_, Try.func63, rfl, by kernel_rfl⟩ e (he.imp id fun h3 => ⟨h3.1, h3.2.2⟩) (fun hch w' hS' => may_any w' b13 b15 b8 b9 p f o er (((Srd.pt (n := 1) (g := b13) (size := 1) (ds := [.bool p]) rfl (fun j u hj => by rw [Nat.zero_add]; exact hj)).rd w hS).keep hS'.kpO) (((Srd.pt (n := 1) (g := b15) (size := 1) (ds := [.bool f]) rfl (fun j u hj => by rw [Nat.zero_add]; exact hj)).rd w hS).keep hS'.kpO) (((Srd.pt (n := 1) (g := b8) (size := 1) (ds := [.bool o]) rfl (fun j u hj => by rw [Nat.zero_add]; exact hj)).rd w hS).keep hS'.kpO) (((Srd.pt (n := 1) (g := b9) (size := 1) (ds := [.int .i64 er]) rfl (fun j u hj => by rw [Nat.zero_add]; exact hj)).rd w hS).keep hS'.kpO) e (hmay hch))) rfl rfl (fun _ => rfl)) ?_ rfl rfl; rintro _ _ ⟨_, rfl, _, rfl⟩); refine R_p rfl ?_ rfl rfl; refine R_p rfl ?_ rfl rfl; (refine R_eff0 (E_storew (cs := ntc none 0 0 none 0 0) (ds := ntc none 0 0 none 0 0) rfl rfl rfl rfl (ntc_one _ _ _ _ _ _) rfl) ?_ rfl; rintro _ _ rfl); refine R_p rfl ?_ rfl rfl; refine R_nil ?_)
  refine hB _ _ _ _ _ rfl (.cell rfl rfl rfl inferInstance rfl (.tmp rfl .nil)) fun w' hS => ⟨(), rfl, trivial, hS.sublist (List.nil_sublist _)⟩
set_option maxRecDepth 100000 in
set_option maxHeartbeats 4000000 in
theorem change_on (w : World) (A : Option Addr) (c n : Nat) (P : List Pk) (W : List Pn) (hk : P.length = n) (hW : P.map pkv = W) (h : Rd w All 3 A n (cellsL pkc P)) (A2 : Option Addr) (c2' n2 : Nat) (C : List Ct) (hk2 : C.length = n2) (h2 : Rd w All 2 A2 n2 (cellsL ctc C)) (hn : n ≤ 500) (hn2 : n2 ≤ 1000) (hd : RDt w All (P.map pkd)) (hkk : ∀ m ∈ P, m.2.2.2.2.length ≤ 100000) (hch : chkB W C = true) (a b : Int) (er : Int) (hp : pairB a b = true) (hq : partP C a b = false) :
    Gives Try.prog 54 [.agg (ntc A n c A2 n2 c2').toArray, .int .i64 a, .int .i64 b, .bool true, .int .i64 er] [] w (X := (Option Addr × Nat) × ShP W × (Option Addr × Nat)) (fun y => .tuple #[.agg (ntc y.1.1 n y.1.2 y.2.2.1 (n2 + 1) y.2.2.2).toArray, .int .i64 0]) (fun _ => True) (fun y => [row 30 3 y.1.1 n y.1.2 (cellsL pkc y.2.1.1), dtB 5 (y.2.1.1.map pkd), row 73 2 y.2.2.1 (n2 + 1) y.2.2.2 (cellsL ctc (C.take (idxC C (minI a b, maxI a b)) ++ [(minI a b, maxI a b)] ++ C.drop (idxC C (minI a b, maxI a b))))]) := by
  refine gives_C Try.func54 rfl Try.ntmps54 Try.results54 (by simp) (St.enter w) (fun B hB => ?_)
  have hG := good_of hch hp hk2
  refine RS_mem (fun w hS => dtB_nil (e := 5) hS) ?_
  focus (refine S_seq rfl ?_; refine S_region rfl rfl ?_; (refine R_eff (E_boxa (cs := ntc A n c A2 n2 c2') rfl) ?_ rfl rfl; rintro _ _ ⟨b5, rfl, rfl⟩); (refine R_eff (E_box1 (v := .bool true) rfl rfl) ?_ rfl rfl; rintro _ _ ⟨b8, rfl, rfl⟩); (refine R_eff (E_box1 (v := .int .i64 er) rfl rfl) ?_ rfl rfl; rintro _ _ ⟨b9, rfl, rfl⟩); (refine R_eff (E_alloca rfl nt_zero) ?_ rfl rfl; rintro _ _ ⟨b10, rfl, rfl⟩); refine R_p rfl ?_ rfl rfl; refine R_nil ?_; refine S_seq rfl ?_; refine S_region rfl rfl ?_; refine R_p rfl ?_ rfl rfl; refine R_p rfl ?_ rfl rfl; (refine R_eff (E_hv0 (f := 52) ⟨_, Try.func52, rfl, by kernel_rfl⟩ (fun w hS => pair_k w a b true hp) rfl rfl (fun _ => rfl)) ?_ rfl rfl; rintro _ _ ⟨_, rfl, _, rfl⟩); refine R_p rfl ?_ rfl rfl; refine R_p rfl ?_ rfl rfl; refine R_p rfl ?_ rfl rfl; (refine R_eff (E_alloca rfl ct_zero) ?_ rfl rfl; rintro _ _ ⟨b12, rfl, rfl⟩); (refine R_eff (E_alloc1 (v := .bool false) rfl rfl rfl) ?_ rfl rfl; rintro _ _ ⟨b13, rfl, rfl⟩); (refine R_eff0 (E_storew (cs := ctc (0, 0)) (ds := ctc (minI a b, maxI a b)) rfl rfl rfl rfl (ctc_one _) rfl) ?_ rfl; rintro _ _ rfl); (refine R_eff0 (E_store1 rfl rfl rfl rfl rfl rfl (by show _ < 1; omega)) ?_ rfl; rintro _ _ rfl); refine R_nil ?_; refine S_seq rfl ?_; refine S_region rfl rfl ?_; refine R_p rfl ?_ rfl rfl; refine R_take (T_load rfl rfl rfl rfl) ?_ rfl rfl; refine R_take (T_loads (ds := ctc (minI a b, maxI a b)) rfl rfl rfl rfl rfl) ?_ rfl rfl)
  focus ((refine R_eff (E_hv0 (f := 62) ⟨_, Try.func62, rfl, by kernel_rfl⟩ (fun w hS => searchC_any w A2 n2 c2' C hk2 (minI a b, maxI a b) ((Srd.old h2 (fun k _ => noOwns k)).rd w hS) hn2) rfl rfl (fun _ => rfl)) ?_ rfl rfl; rintro _ _ ⟨⟨i, f⟩, rfl, hI, rfl⟩); refine R_p rfl ?_ rfl rfl; refine R_p rfl ?_ rfl rfl; refine R_p rfl ?_ rfl rfl; (refine R_eff (E_alloc1 (v := .int .i64 0) rfl rfl rfl) ?_ rfl rfl; rintro _ _ ⟨b14, rfl, rfl⟩); (refine R_eff (E_alloc1 (v := .bool false) rfl rfl rfl) ?_ rfl rfl; rintro _ _ ⟨b15, rfl, rfl⟩); (refine R_eff0 (E_store1 rfl rfl rfl rfl rfl rfl (by show _ < 1; omega)) ?_ rfl; rintro _ _ rfl); (refine R_eff0 (E_store1 rfl rfl rfl rfl rfl rfl (by show _ < 1; omega)) ?_ rfl; rintro _ _ rfl); refine R_nil ?_; refine S_seq rfl ?_; refine S_region rfl rfl ?_; refine R_take (T_func rfl rfl) ?_ rfl rfl; refine R_p rfl ?_ rfl rfl; refine R_nil ?_; refine S_seq rfl ?_; refine S_region rfl rfl ?_; refine R_take (T_loads (ds := ntc A n c A2 n2 c2') rfl rfl rfl rfl rfl) ?_ rfl rfl; refine R_p rfl ?_ rfl rfl; refine R_take (T_func rfl rfl) ?_ rfl rfl)
  dsimp only at hI
  have hf := found_eq hk2 hG hI
  have hf : f = partP C a b := hf
  rw [hq] at hf
  have hii : i = idxC C (minI a b, maxI a b) := idx_eq hk2 hG hI
  have hix : idxC C (minI a b, maxI a b) ≤ n2 := by rw [← hii]; exact hI.1
  subst hf
  subst hii
  focus ((refine R_eff (E_htG (f := 28) (A1 := dtB 5 []) ⟨_, Try.func28, rfl, by kernel_rfl⟩ (fun w hS hS2 => turn_ok w A c n P W hk hW ((Srd.old h (fun k _ => noOwns k)).rd w hS) A2 c2' n2 C hk2 ((Srd.old h2 (fun k _ => noOwns k)).rd w hS) (by omega) (by omega) ((SDt.old hd (fun k _ => noOwns k)).rd w hS) hkk hch 63 64 [.pointer (some ⟨b13, 0, none⟩), .pointer (some ⟨b15, 0, none⟩), .pointer (some ⟨b8, 0, none⟩), .pointer (some ⟨b9, 0, none⟩)] [.pointer (some ⟨b8, 0, none⟩), .pointer (some ⟨b14, 0, none⟩), .pointer (some ⟨b12, 0, none⟩)] ⟨_, Try.func63, rfl, by kernel_rfl⟩ ⟨_, Try.func64, rfl, by kernel_rfl⟩ (dtB 5 []) hS2 (Y := (Option Addr × Nat) × ShP W × (Option Addr × Nat)) (fun _ => True) (fun y => ntc y.1.1 n y.1.2 y.2.2.1 (n2 + 1) y.2.2.2) (fun y => [row 30 3 y.1.1 n y.1.2 (cellsL pkc y.2.1.1), dtB 5 (y.2.1.1.map pkd), row 73 2 y.2.2.1 (n2 + 1) y.2.2.2 (cellsL ctc (C.take (idxC C (minI a b, maxI a b)) ++ [(minI a b, maxI a b)] ++ C.drop (idxC C (minI a b, maxI a b)))), dtB 5 []]) (fun _ => rfl) (fun _ => ntc_one _ _ _ _ _ _) (rd_one h (by decide) (fun k => noOwns k) hS) (rd_one h2 (by decide) (fun k => noOwns k) hS) (rdt_one hd (fun k => noOwns k) hS) (fun w' hS' => may_any w' b13 b15 b8 b9 true false true er (rd_keep (pt_apart (b := b13) hS rfl) hS' (fun k hk => hk)) (rd_keep (pt_apart (b := b15) hS rfl) hS' (fun k hk => hk)) (rd_keep (pt_apart (b := b8) hS rfl) hS' (fun k hk => hk)) (rd_keep (pt_apart (b := b9) hS rfl) hS' (fun k hk => hk)) 0 rfl) (fun w' b0 A5 c5 P5 A6 c6 hS' hS'' => (does_on w' b0 b8 b14 b12 A5 c5 n P5.1 A6 c6 n2 C hk2 (dtB 5 []) hn2 (idxC C (minI a b, maxI a b)) hix (minI a b, maxI a b) (rd_in (pt_apart (b := b8) hS rfl) (by decide) hS' (fun k hk => hk)) (rd_in (pt_apart (b := b14) hS rfl) (by decide) hS' (fun k hk => hk)) (rd_in (pt_apart (b := b12) hS rfl) (by decide) hS' (fun k hk => hk)) hS'').mono fun u w'' ⟨⟨A7, c7⟩, he, _, hS3⟩ => ⟨((A5, c5), P5, (A7, c7)), he, trivial, hS3⟩)) rfl rfl) ?_ rfl rfl; rintro _ _ ⟨⟨⟨A7, c7⟩, P7, ⟨A8, c8⟩⟩, rfl, _, rfl⟩; dsimp only [List.cons_append, List.nil_append]); refine R_p rfl ?_ rfl rfl; refine R_p rfl ?_ rfl rfl; (refine R_eff0 (E_storew (cs := ntc none 0 0 none 0 0) (ds := ntc A7 n c7 A8 (n2 + 1) c8) rfl rfl rfl rfl (ntc_one _ _ _ _ _ _) rfl) ?_ rfl; rintro _ _ rfl); refine R_p rfl ?_ rfl rfl; refine R_nil ?_)
  refine hB _ _ _ _ _ rfl (.cell rfl rfl rfl inferInstance rfl (.tmp rfl .nil)) fun w' hS => ⟨((A7, c7), P7, (A8, c8)), rfl, trivial, sub_st w' hS⟩
set_option maxRecDepth 100000 in
set_option maxHeartbeats 4000000 in
theorem change_off (w : World) (A : Option Addr) (c n : Nat) (P : List Pk) (W : List Pn) (hk : P.length = n) (hW : P.map pkv = W) (h : Rd w All 3 A n (cellsL pkc P)) (A2 : Option Addr) (c2' n2 : Nat) (C : List Ct) (hk2 : C.length = n2) (h2 : Rd w All 2 A2 n2 (cellsL ctc C)) (hn : n ≤ 500) (hn2 : n2 ≤ 1000) (hd : RDt w All (P.map pkd)) (hkk : ∀ m ∈ P, m.2.2.2.2.length ≤ 100000) (hch : chkB W C = true) (a b : Int) (er : Int) (hp : pairB a b = true) (hq : partP C a b = true) :
    Gives Try.prog 54 [.agg (ntc A n c A2 n2 c2').toArray, .int .i64 a, .int .i64 b, .bool false, .int .i64 er] [] w (X := (Option Addr × Nat) × ShP W × (Option Addr × Nat)) (fun y => .tuple #[.agg (ntc y.1.1 n y.1.2 y.2.2.1 (idxC C (minI a b, maxI a b) + (n2 - (idxC C (minI a b, maxI a b) + 1))) y.2.2.2).toArray, .int .i64 0]) (fun _ => True) (fun y => [row 30 3 y.1.1 n y.1.2 (cellsL pkc y.2.1.1), dtB 5 (y.2.1.1.map pkd), row 73 2 y.2.2.1 (idxC C (minI a b, maxI a b) + (n2 - (idxC C (minI a b, maxI a b) + 1))) y.2.2.2 (cellsL ctc (del C (idxC C (minI a b, maxI a b))))]) := by
  refine gives_C Try.func54 rfl Try.ntmps54 Try.results54 (by simp) (St.enter w) (fun B hB => ?_)
  have hG := good_of hch hp hk2
  refine RS_mem (fun w hS => dtB_nil (e := 5) hS) ?_
  focus (refine S_seq rfl ?_; refine S_region rfl rfl ?_; (refine R_eff (E_boxa (cs := ntc A n c A2 n2 c2') rfl) ?_ rfl rfl; rintro _ _ ⟨b5, rfl, rfl⟩); (refine R_eff (E_box1 (v := .bool false) rfl rfl) ?_ rfl rfl; rintro _ _ ⟨b8, rfl, rfl⟩); (refine R_eff (E_box1 (v := .int .i64 er) rfl rfl) ?_ rfl rfl; rintro _ _ ⟨b9, rfl, rfl⟩); (refine R_eff (E_alloca rfl nt_zero) ?_ rfl rfl; rintro _ _ ⟨b10, rfl, rfl⟩); refine R_p rfl ?_ rfl rfl; refine R_nil ?_; refine S_seq rfl ?_; refine S_region rfl rfl ?_; refine R_p rfl ?_ rfl rfl; refine R_p rfl ?_ rfl rfl; (refine R_eff (E_hv0 (f := 52) ⟨_, Try.func52, rfl, by kernel_rfl⟩ (fun w hS => pair_k w a b true hp) rfl rfl (fun _ => rfl)) ?_ rfl rfl; rintro _ _ ⟨_, rfl, _, rfl⟩); refine R_p rfl ?_ rfl rfl; refine R_p rfl ?_ rfl rfl; refine R_p rfl ?_ rfl rfl; (refine R_eff (E_alloca rfl ct_zero) ?_ rfl rfl; rintro _ _ ⟨b12, rfl, rfl⟩); (refine R_eff (E_alloc1 (v := .bool false) rfl rfl rfl) ?_ rfl rfl; rintro _ _ ⟨b13, rfl, rfl⟩); (refine R_eff0 (E_storew (cs := ctc (0, 0)) (ds := ctc (minI a b, maxI a b)) rfl rfl rfl rfl (ctc_one _) rfl) ?_ rfl; rintro _ _ rfl); (refine R_eff0 (E_store1 rfl rfl rfl rfl rfl rfl (by show _ < 1; omega)) ?_ rfl; rintro _ _ rfl); refine R_nil ?_; refine S_seq rfl ?_; refine S_region rfl rfl ?_; refine R_p rfl ?_ rfl rfl; refine R_take (T_load rfl rfl rfl rfl) ?_ rfl rfl; refine R_take (T_loads (ds := ctc (minI a b, maxI a b)) rfl rfl rfl rfl rfl) ?_ rfl rfl)
  focus ((refine R_eff (E_hv0 (f := 62) ⟨_, Try.func62, rfl, by kernel_rfl⟩ (fun w hS => searchC_any w A2 n2 c2' C hk2 (minI a b, maxI a b) ((Srd.old h2 (fun k _ => noOwns k)).rd w hS) hn2) rfl rfl (fun _ => rfl)) ?_ rfl rfl; rintro _ _ ⟨⟨i, f⟩, rfl, hI, rfl⟩); refine R_p rfl ?_ rfl rfl; refine R_p rfl ?_ rfl rfl; refine R_p rfl ?_ rfl rfl; (refine R_eff (E_alloc1 (v := .int .i64 0) rfl rfl rfl) ?_ rfl rfl; rintro _ _ ⟨b14, rfl, rfl⟩); (refine R_eff (E_alloc1 (v := .bool false) rfl rfl rfl) ?_ rfl rfl; rintro _ _ ⟨b15, rfl, rfl⟩); (refine R_eff0 (E_store1 rfl rfl rfl rfl rfl rfl (by show _ < 1; omega)) ?_ rfl; rintro _ _ rfl); (refine R_eff0 (E_store1 rfl rfl rfl rfl rfl rfl (by show _ < 1; omega)) ?_ rfl; rintro _ _ rfl); refine R_nil ?_; refine S_seq rfl ?_; refine S_region rfl rfl ?_; refine R_take (T_func rfl rfl) ?_ rfl rfl; refine R_p rfl ?_ rfl rfl; refine R_nil ?_; refine S_seq rfl ?_; refine S_region rfl rfl ?_; refine R_take (T_loads (ds := ntc A n c A2 n2 c2') rfl rfl rfl rfl rfl) ?_ rfl rfl; refine R_p rfl ?_ rfl rfl; refine R_take (T_func rfl rfl) ?_ rfl rfl)
  dsimp only at hI
  have hf := found_eq hk2 hG hI
  have hf : f = partP C a b := hf
  rw [hq] at hf
  have hii : i = idxC C (minI a b, maxI a b) := idx_eq hk2 hG hI
  have hix : idxC C (minI a b, maxI a b) < n2 := by rw [← hii]; exact hI.2.1 hf
  subst hf
  subst hii
  focus ((refine R_eff (E_htG (f := 28) (A1 := dtB 5 []) ⟨_, Try.func28, rfl, by kernel_rfl⟩ (fun w hS hS2 => turn_ok w A c n P W hk hW ((Srd.old h (fun k _ => noOwns k)).rd w hS) A2 c2' n2 C hk2 ((Srd.old h2 (fun k _ => noOwns k)).rd w hS) (by omega) (by omega) ((SDt.old hd (fun k _ => noOwns k)).rd w hS) hkk hch 63 64 [.pointer (some ⟨b13, 0, none⟩), .pointer (some ⟨b15, 0, none⟩), .pointer (some ⟨b8, 0, none⟩), .pointer (some ⟨b9, 0, none⟩)] [.pointer (some ⟨b8, 0, none⟩), .pointer (some ⟨b14, 0, none⟩), .pointer (some ⟨b12, 0, none⟩)] ⟨_, Try.func63, rfl, by kernel_rfl⟩ ⟨_, Try.func64, rfl, by kernel_rfl⟩ (dtB 5 []) hS2 (Y := (Option Addr × Nat) × ShP W × (Option Addr × Nat)) (fun _ => True) (fun y => ntc y.1.1 n y.1.2 y.2.2.1 (idxC C (minI a b, maxI a b) + (n2 - (idxC C (minI a b, maxI a b) + 1))) y.2.2.2) (fun y => [row 30 3 y.1.1 n y.1.2 (cellsL pkc y.2.1.1), dtB 5 (y.2.1.1.map pkd), row 73 2 y.2.2.1 (idxC C (minI a b, maxI a b) + (n2 - (idxC C (minI a b, maxI a b) + 1))) y.2.2.2 (cellsL ctc (del C (idxC C (minI a b, maxI a b)))), dtB 5 []]) (fun _ => rfl) (fun _ => ntc_one _ _ _ _ _ _) (rd_one h (by decide) (fun k => noOwns k) hS) (rd_one h2 (by decide) (fun k => noOwns k) hS) (rdt_one hd (fun k => noOwns k) hS) (fun w' hS' => may_any w' b13 b15 b8 b9 true true false er (rd_keep (pt_apart (b := b13) hS rfl) hS' (fun k hk => hk)) (rd_keep (pt_apart (b := b15) hS rfl) hS' (fun k hk => hk)) (rd_keep (pt_apart (b := b8) hS rfl) hS' (fun k hk => hk)) (rd_keep (pt_apart (b := b9) hS rfl) hS' (fun k hk => hk)) 0 rfl) (fun w' b0 A5 c5 P5 A6 c6 hS' hS'' => (does_off w' b0 b8 b14 b12 A5 c5 n P5.1 A6 c6 n2 C hk2 (dtB 5 []) hn2 (idxC C (minI a b, maxI a b)) hix (minI a b, maxI a b) (rd_in (pt_apart (b := b8) hS rfl) (by decide) hS' (fun k hk => hk)) (rd_in (pt_apart (b := b14) hS rfl) (by decide) hS' (fun k hk => hk)) (rd_in (pt_apart (b := b12) hS rfl) (by decide) hS' (fun k hk => hk)) hS'').mono fun u w'' ⟨⟨A7, c7⟩, he, _, hS3⟩ => ⟨((A5, c5), P5, (A7, c7)), he, trivial, hS3⟩)) rfl rfl) ?_ rfl rfl; rintro _ _ ⟨⟨⟨A7, c7⟩, P7, ⟨A8, c8⟩⟩, rfl, _, rfl⟩; dsimp only [List.cons_append, List.nil_append]); refine R_p rfl ?_ rfl rfl; refine R_p rfl ?_ rfl rfl; (refine R_eff0 (E_storew (cs := ntc none 0 0 none 0 0) (ds := ntc A7 n c7 A8 (idxC C (minI a b, maxI a b) + (n2 - (idxC C (minI a b, maxI a b) + 1))) c8) rfl rfl rfl rfl (ntc_one _ _ _ _ _ _) rfl) ?_ rfl; rintro _ _ rfl); refine R_p rfl ?_ rfl rfl; refine R_nil ?_)
  refine hB _ _ _ _ _ rfl (.cell rfl rfl rfl inferInstance rfl (.tmp rfl .nil)) fun w' hS => ⟨((A7, c7), P7, (A8, c8)), rfl, trivial, sub_st w' hS⟩
end Go.Proofs.Ytclmaoagdkhboaa
