/- Nets: Check; the document's Right. -/
import Derived.Test.YtclmaoagdkhboaaNt1
namespace Go.Proofs.Ytclmaoagdkhboaa
open Go.RowKit
open Asn (pt row rb)
set_option linter.unusedVariables false
set_option linter.unusedSimpArgs false
--@use N

/-- where one is, of which something is so -/
def idxP (p : Pk → Bool) (L : List Pk) : Int := if L.all (fun x => !p x) then -1 else (L.findIdx p : Nat)
set_option maxRecDepth 100000 in
set_option maxHeartbeats 4000000 in
theorem idxfP_any (w : World) (A : Option Addr) (n c f : Nat) (cap : List Value) (L : List Pk) (p : Pk → Bool) (h : Rd w All 3 A n (cellsL pkc L)) (hn : n ≤ 100000) (hf : Fn_ Try.prog f)
    (hp : ∀ w', Kp All w w' → ∀ x ∈ L, Gives Try.prog f (.agg (pkc x).toArray :: cap) [] w' (X := Unit) (fun _ => .bool (p x)) (fun _ => True) (fun _ => [])) :
    Gives Try.prog 59 [.slice A n c, .func (.func f) #[] cap.toArray] [] w (X := Unit) (fun _ => zi (idxP p L)) (fun _ => True) (fun _ => []) := by
  refine gives_S Try.func59 rfl Try.ntmps59 Try.results59 (by simp) (St.enter w) (fun B hB => ?_)
  have hl : L.length = n := by have := h.1; rw [cellsL_len pkc_len] at this; omega
  have hne : 0 < n → A ≠ none := fun h0 => by obtain ⟨ad, rfl, _⟩ := h.2 (by omega); simp
  subst hl
  focus (refine S_seq rfl ?_; refine S_region rfl rfl ?_; refine R_p rfl ?_ rfl rfl; refine R_nil ?_; refine S_seq rfl ?_; refine S_seq rfl ?_; refine S_region rfl rfl ?_; refine R_p rfl ?_ rfl rfl; refine R_p rfl ?_ rfl rfl; refine R_p rfl ?_ rfl rfl; refine R_nil ?_; refine S_block rfl ?_)
  refine S_loop (X := Nat) (fun j => [(0, .slice A L.length c), (1, .func (.func f) #[] cap.toArray), (7, .int .i64 (L.length : Int)), (8, .int .i64 (j : Int))]) (fun _ => []) (fun j => j ≤ L.length ∧ (L.take j).all (fun x => !p x) = true) (fun j => L.length - j) rfl 0 ⟨Nat.zero_le _, rfl⟩ (Sub.cons rfl (Sub.cons rfl (Sub.cons rfl (Sub.cons rfl Sub.nil)))) (fun _ h => h) ?_
  rintro j ⟨hj, hok⟩ J hJ
  rcases Nat.lt_or_ge j L.length with hjl | hjl
  · have hne := hne (by omega)
    have hat := cellsL_at (f := pkc) pkc_len L default j hjl
    have hmem : L.getD j default ∈ L := by simp [List.getD, hjl]
    have htk : L.take (j + 1) = L.take j ++ [L.getD j default] := by rw [List.take_succ_eq_append_getElem hjl]; simp [List.getD, hjl]
    have hsp : L = L.take j ++ L.getD j default :: L.drop (j + 1) := by
      conv => lhs; rw [← List.take_append_drop j L, List.drop_eq_getElem_cons hjl]
      simp [List.getD, hjl]
    obtain ⟨x, hx⟩ : ∃ x, L.getD j default = x := ⟨_, rfl⟩
    rw [hx] at hat hmem htk hsp
    obtain ⟨r, hr⟩ : ∃ r, p x = r := ⟨_, rfl⟩
    cases r
    · focus (refine S_seq rfl ?_; refine S_region rfl rfl ?_; refine R_take (T_decT rfl (by omega)) ?_ rfl rfl; refine R_nil ?_; refine S_seq rfl ?_; refine S_true rfl rfl ?_; refine S_skip rfl ?_; refine S_seq rfl ?_; refine S_block rfl ?_; refine S_seq rfl ?_; refine S_region rfl rfl ?_; refine R_p rfl ?_ rfl rfl; refine R_p rfl ?_ rfl rfl; refine R_nil ?_; refine S_seq rfl ?_; refine S_region rfl rfl ?_; refine R_p rfl ?_ rfl rfl; refine R_p rfl ?_ rfl rfl; refine R_p rfl ?_ rfl rfl; refine R_take (T_ixM (sz := 3) rfl rfl rfl rfl rfl rfl hne hjl) ?_ rfl rfl; refine R_take (T_lda (ds := pkc x) rfl rfl rfl (Srd.old h (fun k _ => noOwns k)) rfl (by omega) hat) ?_ rfl rfl; (refine R_eff (E_cloA (cap := cap) rfl (E_gv0 hf (ogets_cap _ _ (.agg (pkc x).toArray) rfl cap) (fun w' hS => hp w' hS.kpO x hmem) (fun _ => rfl))) ?_ rfl rfl; rintro _ _ ⟨_, rfl, _, rfl⟩; rw [hr]); refine R_nil ?_; refine S_false rfl rfl ?_; refine S_skip rfl ?_; refine RS_blk ?_; refine S_region rfl rfl ?_; refine R_take (T_addN rfl rfl (by unfold fits; omega)) ?_ rfl rfl; refine R_p rfl ?_ rfl rfl; refine R_nil ?_)
      exact hJ (j + 1) _ _ ⟨by omega, by rw [htk, List.all_append, hok]; simp [hr]⟩ (Sub.cons rfl (Sub.cons rfl (Sub.cons rfl (Sub.cons rfl Sub.nil)))) (fun _ h => h) (by omega)
    · focus (refine S_seq rfl ?_; refine S_region rfl rfl ?_; refine R_take (T_decT rfl (by omega)) ?_ rfl rfl; refine R_nil ?_; refine S_seq rfl ?_; refine S_true rfl rfl ?_; refine S_skip rfl ?_; refine S_seq rfl ?_; refine S_block rfl ?_; refine S_seq rfl ?_; refine S_region rfl rfl ?_; refine R_p rfl ?_ rfl rfl; refine R_p rfl ?_ rfl rfl; refine R_nil ?_; refine S_seq rfl ?_; refine S_region rfl rfl ?_; refine R_p rfl ?_ rfl rfl; refine R_p rfl ?_ rfl rfl; refine R_p rfl ?_ rfl rfl; refine R_take (T_ixM (sz := 3) rfl rfl rfl rfl rfl rfl hne hjl) ?_ rfl rfl; refine R_take (T_lda (ds := pkc x) rfl rfl rfl (Srd.old h (fun k _ => noOwns k)) rfl (by omega) hat) ?_ rfl rfl; (refine R_eff (E_cloA (cap := cap) rfl (E_gv0 hf (ogets_cap _ _ (.agg (pkc x).toArray) rfl cap) (fun w' hS => hp w' hS.kpO x hmem) (fun _ => rfl))) ?_ rfl rfl; rintro _ _ ⟨_, rfl, _, rfl⟩; rw [hr]); refine R_nil ?_; refine S_true rfl rfl ?_; refine S_seq rfl ?_; refine S_region rfl rfl ?_; refine R_p rfl ?_ rfl rfl; refine R_p rfl ?_ rfl rfl; refine R_nil ?_)
      refine hB _ _ _ _ _ rfl rfl fun w' hS => ⟨(), ?_, trivial, hS.sublist (List.nil_sublist _)⟩
      show Value.int _ _ = Value.int _ _
      congr 1
      have h1 : ¬ L.all (fun x => !p x) = true := by
        rw [List.all_eq_true]
        intro h
        have := h x hmem
        rw [hr] at this
        cases this
      rw [idxP, if_neg h1, hsp, List.findIdx_append]
      have h2 : (L.take j).findIdx p = (L.take j).length := by
        rw [List.findIdx_eq_length]
        intro y hy
        have := List.all_eq_true.1 hok y hy
        simpa using this
      rw [h2, if_neg (Nat.lt_irrefl _), List.findIdx_cons, hr]
      simp
      omega
  have hjn : j = L.length := by omega
  subst hjn
  rw [List.take_length] at hok
  focus (refine S_seq rfl ?_; refine S_region rfl rfl ?_; refine R_take (T_decF rfl (by omega)) ?_ rfl rfl; refine R_nil ?_; refine S_seq rfl ?_; refine S_false rfl rfl ?_; refine S_exit rfl rfl ?_; refine S_seq rfl ?_; refine S_region rfl rfl ?_; refine R_p rfl ?_ rfl rfl; refine R_nil ?_)
  refine hB _ _ _ _ _ rfl rfl fun w' hS => ⟨(), ?_, trivial, hS.sublist (List.nil_sublist _)⟩
  rw [idxP, if_pos hok]
  rfl
set_option maxRecDepth 100000 in
set_option maxHeartbeats 4000000 in
theorem confP_any (w : World) (A : Option Addr) (n c f : Nat) (cap : List Value) (L : List Pk) (p : Pk → Bool) (h : Rd w All 3 A n (cellsL pkc L)) (hn : n ≤ 100000) (hf : Fn_ Try.prog f)
    (hp : ∀ w', Kp All w w' → ∀ x ∈ L, Gives Try.prog f (.agg (pkc x).toArray :: cap) [] w' (X := Unit) (fun _ => .bool (p x)) (fun _ => True) (fun _ => [])) :
    Gives Try.prog 50 [.slice A n c, .func (.func f) #[] cap.toArray] [] w (X := Unit) (fun _ => .bool (!L.all (fun x => !p x))) (fun _ => True) (fun _ => []) := by
  refine gives_S Try.func50 rfl Try.ntmps50 Try.results50 (by simp) (St.enter w) (fun B hB => ?_)
  focus (refine S_seq rfl ?_; refine S_region rfl rfl ?_; refine R_p rfl ?_ rfl rfl; refine R_nil ?_; refine S_seq rfl ?_; refine S_region rfl rfl ?_; refine R_p rfl ?_ rfl rfl; refine R_p rfl ?_ rfl rfl; (refine R_eff (E_hv0 (f := 59) ⟨_, Try.func59, rfl, by kernel_rfl⟩ (fun w hS => idxfP_any w A n c f cap L p ((Srd.old h (fun k _ => noOwns k)).rd w hS) hn hf (fun w' hk x hx => hp w' (hS.kpO.trans hk) x hx)) rfl rfl (fun _ => rfl)) ?_ rfl rfl; rintro _ _ ⟨_, rfl, _, rfl⟩); refine R_p rfl ?_ rfl rfl; refine R_p rfl ?_ rfl rfl; refine R_nil ?_)
  refine hB _ _ _ _ _ rfl rfl fun w' hS => ⟨(), ?_, trivial, hS.sublist (List.nil_sublist _)⟩
  refine congrArg Value.bool ?_
  rw [idxP]
  cases L.all (fun x => !p x)
  · simp
  · simp
def cutOk (C : List Ct) (i : Nat) : Bool := pairB (C.getD i default).1 (C.getD i default).2 && decide ((C.getD i default).1 ≤ (C.getD i default).2) && (decide (i = 0) || decide (10 * (C.getD (i - 1) default).1 + (C.getD (i - 1) default).2 < 10 * (C.getD i default).1 + (C.getD i default).2))
def cutsB (C : List Ct) (n : Nat) : Bool := (List.range n).all (cutOk C)
/-- may a net be? -/
def chkB (W : List Pn) (C : List Ct) : Bool := decide (W.length ≤ 80) && W.all pkB && cutsB C C.length
theorem cutsB_next (C : List Ct) (j : Nat) : cutsB C (j + 1) = (cutsB C j && cutOk C j) := by
  unfold cutsB
  rw [List.range_succ, List.all_append]
  simp
theorem cutsB_at {C : List Ct} {j i : Nat} (h : cutsB C j = true) (hi : i < j) : cutOk C i = true := List.all_eq_true.1 h i (List.mem_range.2 hi)
theorem cutOk_lo {C : List Ct} {i : Nat} (h : cutOk C i = true) : 1 ≤ (C.getD i default).1 ∧ (C.getD i default).1 ≤ 8 ∧ 1 ≤ (C.getD i default).2 ∧ (C.getD i default).2 ≤ 8 := by
  unfold cutOk pairB nodeB at h
  simp only [Bool.and_eq_true, decide_eq_true_eq] at h
  obtain ⟨⟨⟨⟨h1, h2⟩, _⟩, _⟩, _⟩ := h
  exact ⟨h1.1, h1.2, h2.1, h2.2⟩
theorem pairB_lo {a b : Int} (h : pairB a b = true) : 1 ≤ a ∧ a ≤ 8 ∧ 1 ≤ b ∧ b ≤ 8 ∧ a ≠ b := by
  unfold pairB nodeB at h
  simp only [Bool.and_eq_true, decide_eq_true_eq] at h
  exact ⟨h.1.1.1, h.1.1.2, h.1.2.1, h.1.2.2, h.2⟩
theorem all_pk (P : List Pk) : P.all (fun x => !(!pkB (pkv x))) = (P.map pkv).all pkB := by
  rw [List.all_map]
  congr 1
  funext x
  simp
set_option maxRecDepth 100000 in
set_option maxHeartbeats 4000000 in
theorem check1_any (w : World) (m : Pk) :
    Gives Try.prog 51 [.agg (pkc m).toArray] [] w (X := Unit) (fun _ => .bool (!pkB (pkv m))) (fun _ => True) (fun _ => []) := by
  refine gives_S Try.func51 rfl Try.ntmps51 Try.results51 (by simp) (St.enter w) (fun B hB => ?_)
  focus (refine S_seq rfl ?_; refine S_region rfl rfl ?_; (refine R_eff (E_boxa (cs := pkc m) rfl) ?_ rfl rfl; rintro _ _ ⟨b1, rfl, rfl⟩); refine R_p rfl ?_ rfl rfl; refine R_nil ?_; refine S_seq rfl ?_; refine S_region rfl rfl ?_; refine R_take (T_loads (ds := pkc m) rfl rfl rfl rfl rfl) ?_ rfl rfl; (refine R_eff (E_hv0 (f := 45) ⟨_, Try.func45, rfl, by kernel_rfl⟩ (fun w hS => packet_k w m _ rfl) rfl rfl (fun _ => rfl)) ?_ rfl rfl; rintro _ _ ⟨_, rfl, _, rfl⟩); refine R_take (T_not rfl) ?_ rfl rfl; refine R_p rfl ?_ rfl rfl; refine R_nil ?_)
  exact hB _ _ _ _ _ rfl rfl fun w' hS => ⟨(), rfl, trivial, hS.sublist (List.nil_sublist _)⟩
set_option maxRecDepth 100000 in
set_option maxHeartbeats 4000000 in
theorem check_k (w : World) (A : Option Addr) (c n : Nat) (P : List Pk) (W : List Pn) (hk : P.length = n) (hW : P.map pkv = W) (h : Rd w All 3 A n (cellsL pkc P)) (A2 : Option Addr) (c2' n2 : Nat) (C : List Ct) (hk2 : C.length = n2) (h2 : Rd w All 2 A2 n2 (cellsL ctc C)) (hn : n ≤ 1000) (hn2 : n2 ≤ 1000) (e : Int) (he : (if chkB W C = true then 0 else 330) = e) :
    Gives Try.prog 22 [.agg (ntc A n c A2 n2 c2').toArray] [] w (X := Unit) (fun _ => .int .i64 e) (fun _ => True) (fun _ => []) := by
  refine gives_S Try.func22 rfl Try.ntmps22 Try.results22 (by simp) (St.enter w) (fun B hB => ?_)
  have hne2 : 0 < n2 → A2 ≠ none := fun h0 => by obtain ⟨ad, rfl, _⟩ := h2.2 (by omega); simp
  obtain ⟨b0, hb0⟩ : ∃ b, W.all pkB = b := ⟨_, rfl⟩
  have hWn : W.length = n := by rw [← hW, List.length_map, hk]
  have hcon : (!P.all (fun x => !(!pkB (pkv x)))) = !b0 := by rw [all_pk, hW, hb0]
  have hmain : ∀ (b1 : Nat) (b : Bool), b = (decide (n ≤ 80) && b0) → RS Try.prog B 61 w (owns []) [.code (c1 (c2 (c1 (c2 (c2 (cbody Try.f22)))))), .blk 0, .code (c2 (c2 (c2 (cbody Try.f22))))] [(1, .pointer (some ⟨b1, 0, none⟩)), (3, .bool b), (19, .slice A2 n2 c2'), (20, .int .i64 (n2 : Int)), (21, .int .i64 (0 : Int))] [pt b1 25 (ntc A n c A2 n2 c2')] := by
    intro b1 bb hbb
    have he : (if (bb && cutsB C n2) = true then (0 : Int) else 330) = e := by rw [← he, chkB, hb0, hWn, hk2, hbb]
    refine S_loop (X := Nat × Bool) (fun x => [(1, .pointer (some ⟨b1, 0, none⟩)), (3, .bool x.2), (19, .slice A2 n2 c2'), (20, .int .i64 (n2 : Int)), (21, .int .i64 (x.1 : Int))]) (fun _ => [pt b1 25 (ntc A n c A2 n2 c2')]) (fun x => x.1 ≤ n2 ∧ x.2 = (bb && cutsB C x.1)) (fun x => n2 - x.1) rfl (0, bb) ⟨Nat.zero_le _, by simp [cutsB]⟩ (Sub.cons rfl (Sub.cons rfl (Sub.cons rfl (Sub.cons rfl (Sub.cons rfl Sub.nil))))) sub_st ?_
    rintro ⟨j, b⟩ ⟨hj, hb⟩ J hJ
    dsimp only at hj hb ⊢
    rcases Nat.lt_or_ge j n2 with hjl | hjl
    · have hne2 := hne2 (by omega)
      have hat := cellsL_at (f := ctc) ctc_len C default j (by omega)
      obtain ⟨x, hx⟩ : ∃ x, C.getD j default = x := ⟨_, rfl⟩
      have hnx : (bb && cutsB C (j + 1)) = (b && cutOk C j) := by rw [cutsB_next, hb, Bool.and_assoc]
      have hco : cutOk C j = (pairB x.1 x.2 && decide (x.1 ≤ x.2) && (decide (j = 0) || decide (10 * (C.getD (j - 1) default).1 + (C.getD (j - 1) default).2 < 10 * x.1 + x.2))) := by unfold cutOk; rw [hx]
      rw [hx] at hat
      obtain ⟨is, his⟩ : ∃ q, pairB x.1 x.2 = q := ⟨_, rfl⟩
      obtain ⟨ow, how⟩ : ∃ q, decide ((minI x.1 x.2, maxI x.1 x.2) = x) = q := ⟨_, rfl⟩
      have how2 : is = true → ow = decide (x.1 ≤ x.2) := fun hi => by
        rw [← how, Bool.eq_iff_iff, decide_eq_true_eq, decide_eq_true_eq]
        unfold minI maxI
        obtain ⟨u, v⟩ := x
        constructor
        · intro e
          injection e with e1 e2
          split at e1 <;> omega
        · intro e
          rw [if_neg (by show ¬ v < u; have : u ≤ v := e; omega)]
          by_cases h3 : u < v
          · rw [if_pos h3]
          · rw [if_neg h3]
            have : u ≤ v := e
            rw [show u = v by omega]
      focus (refine S_seq rfl ?_; refine S_region rfl rfl ?_; refine R_take (T_decT rfl (by omega)) ?_ rfl rfl; refine R_nil ?_; refine S_seq rfl ?_; refine S_true rfl rfl ?_; refine S_skip rfl ?_; refine S_seq rfl ?_; refine S_block rfl ?_; refine S_seq rfl ?_; refine S_region rfl rfl ?_; refine R_p rfl ?_ rfl rfl; refine R_take (T_ixM (sz := 2) (q := j) rfl rfl rfl rfl rfl rfl hne2 hjl) ?_ rfl rfl; refine R_take (T_lda (ds := ctc x) rfl rfl rfl (Srd.old h2 (fun k _ => noOwns k)) rfl (by omega) hat) ?_ rfl rfl; (refine R_eff (E_alloca rfl ct_zero) ?_ rfl rfl; rintro _ _ ⟨b5, rfl, rfl⟩); refine R_p rfl ?_ rfl rfl; (refine R_eff0 (E_storew (cs := ctc (0, 0)) (ds := ctc x) rfl rfl rfl rfl (ctc_one _) rfl) ?_ rfl; rintro _ _ rfl); refine R_nil ?_; refine S_seq rfl ?_; refine S_region rfl rfl ?_; refine R_p rfl ?_ rfl rfl; refine R_take (T_load rfl rfl rfl rfl) ?_ rfl rfl; refine R_p rfl ?_ rfl rfl; refine R_take (T_load rfl rfl rfl rfl) ?_ rfl rfl)
      focus ((refine R_eff (E_hv0 (f := 52) ⟨_, Try.func52, rfl, by kernel_rfl⟩ (fun w hS => pair_k w x.1 x.2 _ his) rfl rfl (fun _ => rfl)) ?_ rfl rfl; rintro _ _ ⟨_, rfl, _, rfl⟩); refine R_p rfl ?_ rfl rfl; refine R_p rfl ?_ rfl rfl; refine R_p rfl ?_ rfl rfl; (refine R_eff (E_alloca rfl ct_zero) ?_ rfl rfl; rintro _ _ ⟨b6, rfl, rfl⟩); (refine R_eff0 (E_storew (cs := ctc (0, 0)) (ds := ctc (minI x.1 x.2, maxI x.1 x.2)) rfl rfl rfl rfl (ctc_one _) rfl) ?_ rfl; rintro _ _ rfl); refine R_p rfl ?_ rfl rfl; refine R_nil ?_)
      cases b
      · skip
        refine S_draw ([pt b1 25 (ntc A n c A2 n2 c2'), pt b5 73 (ctc x), pt b6 73 (ctc (minI x.1 x.2, maxI x.1 x.2))]) sub_st (by kernel_rfl) rfl (by kernel_rfl) (by kernel_rfl : _ = 25) ?_
        refine D_take 0 rfl (pev_ok rfl) ?_ rfl rfl (by kernel_rfl) (by kernel_rfl)
        refine D_take 1 rfl (pev_ok rfl) ?_ rfl rfl (by kernel_rfl) (by kernel_rfl)
        refine D_skip 2 rfl ?_ rfl rfl (by kernel_rfl) (by kernel_rfl)
        refine D_take 3 rfl (pev_ok rfl) ?_ rfl rfl (by kernel_rfl) (by kernel_rfl)
        refine D_take 4 rfl (pev_ok rfl) ?_ rfl rfl (by kernel_rfl) (by kernel_rfl)
        refine D_skip 5 rfl ?_ rfl rfl (by kernel_rfl) (by kernel_rfl)
        refine D_skip 6 rfl ?_ rfl rfl (by kernel_rfl) (by kernel_rfl)
        refine D_skip 7 rfl ?_ rfl rfl (by kernel_rfl) (by kernel_rfl)
        refine D_take 8 rfl (pev_ok rfl) ?_ rfl rfl (by kernel_rfl) (by kernel_rfl)
        refine D_take 9 rfl (pev_ok rfl) ?_ rfl rfl (by kernel_rfl) (by kernel_rfl)
        refine D_skip 10 rfl ?_ rfl rfl (by kernel_rfl) (by kernel_rfl)
        refine D_skip 11 rfl ?_ rfl rfl (by kernel_rfl) (by kernel_rfl)
        refine D_skip 12 rfl ?_ rfl rfl (by kernel_rfl) (by kernel_rfl)
        refine D_skip 13 rfl ?_ rfl rfl (by kernel_rfl) (by kernel_rfl)
        refine D_skip 14 rfl ?_ rfl rfl (by kernel_rfl) (by kernel_rfl)
        refine D_skip 15 rfl ?_ rfl rfl (by kernel_rfl) (by kernel_rfl)
        refine D_skip 16 rfl ?_ rfl rfl (by kernel_rfl) (by kernel_rfl)
        refine D_skip 17 rfl ?_ rfl rfl (by kernel_rfl) (by kernel_rfl)
        refine D_skip 18 rfl ?_ rfl rfl (by kernel_rfl) (by kernel_rfl)
        refine D_skip 19 rfl ?_ rfl rfl (by kernel_rfl) (by kernel_rfl)
        refine D_skip 20 rfl ?_ rfl rfl (by kernel_rfl) (by kernel_rfl)
        refine D_skip 21 rfl ?_ rfl rfl (by kernel_rfl) (by kernel_rfl)
        refine D_skip 22 rfl ?_ rfl rfl (by kernel_rfl) (by kernel_rfl)
        refine D_take 23 rfl (pev_ok rfl) ?_ rfl rfl (by kernel_rfl) (by kernel_rfl)
        refine D_take 24 rfl (pev_ok rfl) ?_ rfl rfl (by kernel_rfl) (by kernel_rfl)
        refine D_done ?_ (by kernel_rfl)
        skip
        focus (refine RS_blk ?_; refine S_region rfl rfl ?_; refine R_take (T_addN rfl rfl (by unfold fits; omega)) ?_ rfl rfl; refine R_p rfl ?_ rfl rfl; refine R_nil ?_)
        exact hJ (j + 1, false) _ _ ⟨by show j + 1 ≤ _; omega, by rw [hnx]; rfl⟩ (Sub.cons rfl (Sub.cons rfl (Sub.cons rfl (Sub.cons rfl (Sub.cons rfl Sub.nil))))) (fun w' hS => sub_st (H' := [pt b1 25 (ntc A n c A2 n2 c2')]) w' hS) (by show n2 - (j + 1) < _; omega)
      cases is
      · skip
        refine S_draw ([pt b1 25 (ntc A n c A2 n2 c2'), pt b5 73 (ctc x), pt b6 73 (ctc (minI x.1 x.2, maxI x.1 x.2))]) sub_st (by kernel_rfl) rfl (by kernel_rfl) (by kernel_rfl : _ = 25) ?_
        refine D_take 0 rfl (T_decT rfl (by omega)) ?_ rfl rfl (by kernel_rfl) (by kernel_rfl)
        refine D_take 1 rfl (T_decT rfl (by omega)) ?_ rfl rfl (by kernel_rfl) (by kernel_rfl)
        refine D_take 2 rfl (pev_ok rfl) ?_ rfl rfl (by kernel_rfl) (by kernel_rfl)
        refine D_take 3 rfl (pev_ok rfl) ?_ rfl rfl (by kernel_rfl) (by kernel_rfl)
        refine D_take 4 rfl (pev_ok rfl) ?_ rfl rfl (by kernel_rfl) (by kernel_rfl)
        refine D_skip 5 rfl ?_ rfl rfl (by kernel_rfl) (by kernel_rfl)
        refine D_skip 6 rfl ?_ rfl rfl (by kernel_rfl) (by kernel_rfl)
        refine D_skip 7 rfl ?_ rfl rfl (by kernel_rfl) (by kernel_rfl)
        refine D_take 8 rfl (pev_ok rfl) ?_ rfl rfl (by kernel_rfl) (by kernel_rfl)
        refine D_take 9 rfl (pev_ok rfl) ?_ rfl rfl (by kernel_rfl) (by kernel_rfl)
        refine D_skip 10 rfl ?_ rfl rfl (by kernel_rfl) (by kernel_rfl)
        refine D_skip 11 rfl ?_ rfl rfl (by kernel_rfl) (by kernel_rfl)
        refine D_skip 12 rfl ?_ rfl rfl (by kernel_rfl) (by kernel_rfl)
        refine D_skip 13 rfl ?_ rfl rfl (by kernel_rfl) (by kernel_rfl)
        refine D_skip 14 rfl ?_ rfl rfl (by kernel_rfl) (by kernel_rfl)
        refine D_skip 15 rfl ?_ rfl rfl (by kernel_rfl) (by kernel_rfl)
        refine D_skip 16 rfl ?_ rfl rfl (by kernel_rfl) (by kernel_rfl)
        refine D_skip 17 rfl ?_ rfl rfl (by kernel_rfl) (by kernel_rfl)
        refine D_skip 18 rfl ?_ rfl rfl (by kernel_rfl) (by kernel_rfl)
        refine D_skip 19 rfl ?_ rfl rfl (by kernel_rfl) (by kernel_rfl)
        refine D_skip 20 rfl ?_ rfl rfl (by kernel_rfl) (by kernel_rfl)
        refine D_skip 21 rfl ?_ rfl rfl (by kernel_rfl) (by kernel_rfl)
        refine D_skip 22 rfl ?_ rfl rfl (by kernel_rfl) (by kernel_rfl)
        refine D_take 23 rfl (pev_ok rfl) ?_ rfl rfl (by kernel_rfl) (by kernel_rfl)
        refine D_take 24 rfl (pev_ok rfl) ?_ rfl rfl (by kernel_rfl) (by kernel_rfl)
        refine D_done ?_ (by kernel_rfl)
        skip
        focus (refine RS_blk ?_; refine S_region rfl rfl ?_; refine R_take (T_addN rfl rfl (by unfold fits; omega)) ?_ rfl rfl; refine R_p rfl ?_ rfl rfl; refine R_nil ?_)
        exact hJ (j + 1, false) _ _ ⟨by show j + 1 ≤ _; omega, by rw [hnx, hco, his]; rfl⟩ (Sub.cons rfl (Sub.cons rfl (Sub.cons rfl (Sub.cons rfl (Sub.cons rfl Sub.nil))))) (fun w' hS => sub_st (H' := [pt b1 25 (ntc A n c A2 n2 c2')]) w' hS) (by show n2 - (j + 1) < _; omega)
      cases ow
      · have h3 := how2 rfl
        refine S_draw ([pt b1 25 (ntc A n c A2 n2 c2'), pt b5 73 (ctc x), pt b6 73 (ctc (minI x.1 x.2, maxI x.1 x.2))]) sub_st (by kernel_rfl) rfl (by kernel_rfl) (by kernel_rfl : _ = 25) ?_
        refine D_take 0 rfl (pev_ok rfl) ?_ rfl rfl (by kernel_rfl) (by kernel_rfl)
        refine D_take 1 rfl (pev_ok rfl) ?_ rfl rfl (by kernel_rfl) (by kernel_rfl)
        refine D_take 2 rfl (pev_ok rfl) ?_ rfl rfl (by kernel_rfl) (by kernel_rfl)
        refine D_take 3 rfl (pev_ok rfl) ?_ rfl rfl (by kernel_rfl) (by kernel_rfl)
        refine D_take 4 rfl (pev_ok rfl) ?_ rfl rfl (by kernel_rfl) (by kernel_rfl)
        refine D_take 5 rfl (T_loads (ds := ctc (minI x.1 x.2, maxI x.1 x.2)) rfl rfl rfl rfl rfl) ?_ rfl rfl (by kernel_rfl) (by kernel_rfl)
        refine D_take 6 rfl (T_loads (ds := ctc x) rfl rfl rfl rfl rfl) ?_ rfl rfl (by kernel_rfl) (by kernel_rfl)
        refine D_take 7 rfl (T_eqCt (a := (minI x.1 x.2, maxI x.1 x.2)) (b := x) rfl rfl how) ?_ rfl rfl (by kernel_rfl) (by kernel_rfl)
        refine D_take 8 rfl (pev_ok rfl) ?_ rfl rfl (by kernel_rfl) (by kernel_rfl)
        refine D_take 9 rfl (pev_ok rfl) ?_ rfl rfl (by kernel_rfl) (by kernel_rfl)
        refine D_skip 10 rfl ?_ rfl rfl (by kernel_rfl) (by kernel_rfl)
        refine D_skip 11 rfl ?_ rfl rfl (by kernel_rfl) (by kernel_rfl)
        refine D_skip 12 rfl ?_ rfl rfl (by kernel_rfl) (by kernel_rfl)
        refine D_skip 13 rfl ?_ rfl rfl (by kernel_rfl) (by kernel_rfl)
        refine D_skip 14 rfl ?_ rfl rfl (by kernel_rfl) (by kernel_rfl)
        refine D_skip 15 rfl ?_ rfl rfl (by kernel_rfl) (by kernel_rfl)
        refine D_skip 16 rfl ?_ rfl rfl (by kernel_rfl) (by kernel_rfl)
        refine D_skip 17 rfl ?_ rfl rfl (by kernel_rfl) (by kernel_rfl)
        refine D_skip 18 rfl ?_ rfl rfl (by kernel_rfl) (by kernel_rfl)
        refine D_skip 19 rfl ?_ rfl rfl (by kernel_rfl) (by kernel_rfl)
        refine D_skip 20 rfl ?_ rfl rfl (by kernel_rfl) (by kernel_rfl)
        refine D_skip 21 rfl ?_ rfl rfl (by kernel_rfl) (by kernel_rfl)
        refine D_skip 22 rfl ?_ rfl rfl (by kernel_rfl) (by kernel_rfl)
        refine D_take 23 rfl (pev_ok rfl) ?_ rfl rfl (by kernel_rfl) (by kernel_rfl)
        refine D_take 24 rfl (pev_ok rfl) ?_ rfl rfl (by kernel_rfl) (by kernel_rfl)
        refine D_done ?_ (by kernel_rfl)
        skip
        focus (refine RS_blk ?_; refine S_region rfl rfl ?_; refine R_take (T_addN rfl rfl (by unfold fits; omega)) ?_ rfl rfl; refine R_p rfl ?_ rfl rfl; refine R_nil ?_)
        exact hJ (j + 1, false) _ _ ⟨by show j + 1 ≤ _; omega, by rw [hnx, hco, his, ← h3]; rfl⟩ (Sub.cons rfl (Sub.cons rfl (Sub.cons rfl (Sub.cons rfl (Sub.cons rfl Sub.nil))))) (fun w' hS => sub_st (H' := [pt b1 25 (ntc A n c A2 n2 c2')]) w' hS) (by show n2 - (j + 1) < _; omega)
      have h3 := how2 rfl
      by_cases h0 : j = 0
      · skip
        refine S_draw ([pt b1 25 (ntc A n c A2 n2 c2'), pt b5 73 (ctc x), pt b6 73 (ctc (minI x.1 x.2, maxI x.1 x.2))]) sub_st (by kernel_rfl) rfl (by kernel_rfl) (by kernel_rfl : _ = 25) ?_
        refine D_take 0 rfl (pev_ok rfl) ?_ rfl rfl (by kernel_rfl) (by kernel_rfl)
        refine D_take 1 rfl (pev_ok rfl) ?_ rfl rfl (by kernel_rfl) (by kernel_rfl)
        refine D_take 2 rfl (pev_ok rfl) ?_ rfl rfl (by kernel_rfl) (by kernel_rfl)
        refine D_take 3 rfl (pev_ok rfl) ?_ rfl rfl (by kernel_rfl) (by kernel_rfl)
        refine D_take 4 rfl (pev_ok rfl) ?_ rfl rfl (by kernel_rfl) (by kernel_rfl)
        refine D_take 5 rfl (T_loads (ds := ctc (minI x.1 x.2, maxI x.1 x.2)) rfl rfl rfl rfl rfl) ?_ rfl rfl (by kernel_rfl) (by kernel_rfl)
        refine D_take 6 rfl (T_loads (ds := ctc x) rfl rfl rfl rfl rfl) ?_ rfl rfl (by kernel_rfl) (by kernel_rfl)
        refine D_take 7 rfl (T_eqCt (a := (minI x.1 x.2, maxI x.1 x.2)) (b := x) rfl rfl how) ?_ rfl rfl (by kernel_rfl) (by kernel_rfl)
        refine D_take 8 rfl (pev_ok rfl) ?_ rfl rfl (by kernel_rfl) (by kernel_rfl)
        refine D_take 9 rfl (pev_ok rfl) ?_ rfl rfl (by kernel_rfl) (by kernel_rfl)
        refine D_take 10 rfl (pev_ok rfl) ?_ rfl rfl (by kernel_rfl) (by kernel_rfl)
        refine D_take 11 rfl (T_decT rfl (by omega)) ?_ rfl rfl (by kernel_rfl) (by kernel_rfl)
        refine D_take 12 rfl (pev_ok rfl) ?_ rfl rfl (by kernel_rfl) (by kernel_rfl)
        refine D_skip 13 rfl ?_ rfl rfl (by kernel_rfl) (by kernel_rfl)
        refine D_skip 14 rfl ?_ rfl rfl (by kernel_rfl) (by kernel_rfl)
        refine D_skip 15 rfl ?_ rfl rfl (by kernel_rfl) (by kernel_rfl)
        refine D_skip 16 rfl ?_ rfl rfl (by kernel_rfl) (by kernel_rfl)
        refine D_skip 17 rfl ?_ rfl rfl (by kernel_rfl) (by kernel_rfl)
        refine D_skip 18 rfl ?_ rfl rfl (by kernel_rfl) (by kernel_rfl)
        refine D_skip 19 rfl ?_ rfl rfl (by kernel_rfl) (by kernel_rfl)
        refine D_skip 20 rfl ?_ rfl rfl (by kernel_rfl) (by kernel_rfl)
        refine D_skip 21 rfl ?_ rfl rfl (by kernel_rfl) (by kernel_rfl)
        refine D_take 22 rfl (pev_ok rfl) ?_ rfl rfl (by kernel_rfl) (by kernel_rfl)
        refine D_take 23 rfl (pev_ok rfl) ?_ rfl rfl (by kernel_rfl) (by kernel_rfl)
        refine D_take 24 rfl (pev_ok rfl) ?_ rfl rfl (by kernel_rfl) (by kernel_rfl)
        refine D_done ?_ (by kernel_rfl)
        skip
        focus (refine RS_blk ?_; refine S_region rfl rfl ?_; refine R_take (T_addN rfl rfl (by unfold fits; omega)) ?_ rfl rfl; refine R_p rfl ?_ rfl rfl; refine R_nil ?_)
        exact hJ (j + 1, true) _ _ ⟨by show j + 1 ≤ _; omega, by rw [hnx, hco, his, ← h3, decide_eq_true h0]; rfl⟩ (Sub.cons rfl (Sub.cons rfl (Sub.cons rfl (Sub.cons rfl (Sub.cons rfl Sub.nil))))) (fun w' hS => sub_st (H' := [pt b1 25 (ntc A n c A2 n2 c2')]) w' hS) (by show n2 - (j + 1) < _; omega)
      obtain ⟨q, hq⟩ : ∃ q, j - 1 = q := ⟨_, rfl⟩
      have hql : q < n2 := by omega
      have haty := cellsL_at (f := ctc) ctc_len C default q (by omega)
      have hlo := cutOk_lo (cutsB_at (C := C) (j := j) (i := q) (by have := hb.symm; rw [Bool.and_eq_true] at this; exact this.2) (by omega))
      have hlx := pairB_lo his
      rw [hq] at hco
      obtain ⟨y, hy⟩ : ∃ y, C.getD q default = y := ⟨_, rfl⟩
      rw [hy] at haty hlo hco
      have hor := ordI_eq y x
      obtain ⟨z, hz⟩ : ∃ z, ordI y x = z := ⟨_, rfl⟩
      rw [hz] at hor
      by_cases hlt : z < 0
      · have h4 : 10 * y.1 + y.2 < 10 * x.1 + x.2 := by
          rw [hor] at hlt
          split at hlt
          · omega
          · split at hlt
            · omega
            · split at hlt
              · omega
              · split at hlt <;> omega
        refine S_draw ([pt b1 25 (ntc A n c A2 n2 c2'), pt b5 73 (ctc x), pt b6 73 (ctc (minI x.1 x.2, maxI x.1 x.2))]) sub_st (by kernel_rfl) rfl (by kernel_rfl) (by kernel_rfl : _ = 25) ?_
        refine D_take 0 rfl (pev_ok rfl) ?_ rfl rfl (by kernel_rfl) (by kernel_rfl)
        refine D_take 1 rfl (pev_ok rfl) ?_ rfl rfl (by kernel_rfl) (by kernel_rfl)
        refine D_take 2 rfl (pev_ok rfl) ?_ rfl rfl (by kernel_rfl) (by kernel_rfl)
        refine D_take 3 rfl (pev_ok rfl) ?_ rfl rfl (by kernel_rfl) (by kernel_rfl)
        refine D_take 4 rfl (pev_ok rfl) ?_ rfl rfl (by kernel_rfl) (by kernel_rfl)
        refine D_take 5 rfl (T_loads (ds := ctc (minI x.1 x.2, maxI x.1 x.2)) rfl rfl rfl rfl rfl) ?_ rfl rfl (by kernel_rfl) (by kernel_rfl)
        refine D_take 6 rfl (T_loads (ds := ctc x) rfl rfl rfl rfl rfl) ?_ rfl rfl (by kernel_rfl) (by kernel_rfl)
        refine D_take 7 rfl (T_eqCt (a := (minI x.1 x.2, maxI x.1 x.2)) (b := x) rfl rfl how) ?_ rfl rfl (by kernel_rfl) (by kernel_rfl)
        refine D_take 8 rfl (pev_ok rfl) ?_ rfl rfl (by kernel_rfl) (by kernel_rfl)
        refine D_take 9 rfl (pev_ok rfl) ?_ rfl rfl (by kernel_rfl) (by kernel_rfl)
        refine D_take 10 rfl (pev_ok rfl) ?_ rfl rfl (by kernel_rfl) (by kernel_rfl)
        refine D_take 11 rfl (T_decF rfl (by omega)) ?_ rfl rfl (by kernel_rfl) (by kernel_rfl)
        refine D_take 12 rfl (pev_ok rfl) ?_ rfl rfl (by kernel_rfl) (by kernel_rfl)
        refine D_take 13 rfl (pev_ok rfl) ?_ rfl rfl (by kernel_rfl) (by kernel_rfl)
        refine D_take 14 rfl (T_load rfl rfl rfl rfl) ?_ rfl rfl (by kernel_rfl) (by kernel_rfl)
        refine D_take 15 rfl (pev_ok rfl) ?_ rfl rfl (by kernel_rfl) (by kernel_rfl)
        (refine D_take 16 rfl (T_subE hq rfl rfl (by omega) (by unfold fits; omega)) ?_ rfl rfl (by kernel_rfl) (by kernel_rfl))
        refine D_take 17 rfl (T_ixM (sz := 2) (q := q) rfl rfl rfl rfl rfl rfl hne2 hql) ?_ rfl rfl (by kernel_rfl) (by kernel_rfl)
        refine D_take 18 rfl (T_lda (ds := ctc y) rfl rfl rfl (Srd.old h2 (fun k _ => noOwns k)) rfl (by omega) haty) ?_ rfl rfl (by kernel_rfl) (by kernel_rfl)
        refine D_take 19 rfl (T_loads (ds := ctc x) rfl rfl rfl rfl rfl) ?_ rfl rfl (by kernel_rfl) (by kernel_rfl)
        refine D_one 20 rfl (E_hv0 (f := 53) ⟨_, Try.func53, rfl, by kernel_rfl⟩ (fun w hS => (hz ▸ order_any w y x : Gives _ _ _ _ _ (fun _ => .int .i64 z) _ _)) rfl rfl (fun _ => rfl)) ?_ rfl rfl (by kernel_rfl)
        rintro _ _ ⟨_, rfl, _, rfl⟩
        refine Nx_same sub_st ?_
        refine D_take 21 rfl (T_decT rfl (by omega)) ?_ rfl rfl (by kernel_rfl) (by kernel_rfl)
        refine D_take 22 rfl (T_decT rfl (by omega)) ?_ rfl rfl (by kernel_rfl) (by kernel_rfl)
        refine D_take 23 rfl (T_decT rfl (by omega)) ?_ rfl rfl (by kernel_rfl) (by kernel_rfl)
        refine D_take 24 rfl (T_decT rfl (by omega)) ?_ rfl rfl (by kernel_rfl) (by kernel_rfl)
        refine D_done ?_ (by kernel_rfl)
        skip
        focus (refine RS_blk ?_; refine S_region rfl rfl ?_; refine R_take (T_addN rfl rfl (by unfold fits; omega)) ?_ rfl rfl; refine R_p rfl ?_ rfl rfl; refine R_nil ?_)
        exact hJ (j + 1, true) _ _ ⟨by show j + 1 ≤ _; omega, by rw [hnx, hco, his, ← h3, decide_eq_true h4, Bool.or_true]; rfl⟩ (Sub.cons rfl (Sub.cons rfl (Sub.cons rfl (Sub.cons rfl (Sub.cons rfl Sub.nil))))) (fun w' hS => sub_st (H' := [pt b1 25 (ntc A n c A2 n2 c2')]) w' hS) (by show n2 - (j + 1) < _; omega)
      · have h4 : ¬ 10 * y.1 + y.2 < 10 * x.1 + x.2 := by
          rw [hor] at hlt
          split at hlt
          · omega
          · split at hlt
            · omega
            · split at hlt
              · omega
              · split at hlt <;> omega
        refine S_draw ([pt b1 25 (ntc A n c A2 n2 c2'), pt b5 73 (ctc x), pt b6 73 (ctc (minI x.1 x.2, maxI x.1 x.2))]) sub_st (by kernel_rfl) rfl (by kernel_rfl) (by kernel_rfl : _ = 25) ?_
        refine D_take 0 rfl (pev_ok rfl) ?_ rfl rfl (by kernel_rfl) (by kernel_rfl)
        refine D_take 1 rfl (pev_ok rfl) ?_ rfl rfl (by kernel_rfl) (by kernel_rfl)
        refine D_take 2 rfl (pev_ok rfl) ?_ rfl rfl (by kernel_rfl) (by kernel_rfl)
        refine D_take 3 rfl (pev_ok rfl) ?_ rfl rfl (by kernel_rfl) (by kernel_rfl)
        refine D_take 4 rfl (pev_ok rfl) ?_ rfl rfl (by kernel_rfl) (by kernel_rfl)
        refine D_take 5 rfl (T_loads (ds := ctc (minI x.1 x.2, maxI x.1 x.2)) rfl rfl rfl rfl rfl) ?_ rfl rfl (by kernel_rfl) (by kernel_rfl)
        refine D_take 6 rfl (T_loads (ds := ctc x) rfl rfl rfl rfl rfl) ?_ rfl rfl (by kernel_rfl) (by kernel_rfl)
        refine D_take 7 rfl (T_eqCt (a := (minI x.1 x.2, maxI x.1 x.2)) (b := x) rfl rfl how) ?_ rfl rfl (by kernel_rfl) (by kernel_rfl)
        refine D_take 8 rfl (pev_ok rfl) ?_ rfl rfl (by kernel_rfl) (by kernel_rfl)
        refine D_take 9 rfl (pev_ok rfl) ?_ rfl rfl (by kernel_rfl) (by kernel_rfl)
        refine D_take 10 rfl (pev_ok rfl) ?_ rfl rfl (by kernel_rfl) (by kernel_rfl)
        refine D_take 11 rfl (T_decF rfl (by omega)) ?_ rfl rfl (by kernel_rfl) (by kernel_rfl)
        refine D_take 12 rfl (pev_ok rfl) ?_ rfl rfl (by kernel_rfl) (by kernel_rfl)
        refine D_take 13 rfl (pev_ok rfl) ?_ rfl rfl (by kernel_rfl) (by kernel_rfl)
        refine D_take 14 rfl (T_load rfl rfl rfl rfl) ?_ rfl rfl (by kernel_rfl) (by kernel_rfl)
        refine D_take 15 rfl (pev_ok rfl) ?_ rfl rfl (by kernel_rfl) (by kernel_rfl)
        (refine D_take 16 rfl (T_subE hq rfl rfl (by omega) (by unfold fits; omega)) ?_ rfl rfl (by kernel_rfl) (by kernel_rfl))
        refine D_take 17 rfl (T_ixM (sz := 2) (q := q) rfl rfl rfl rfl rfl rfl hne2 hql) ?_ rfl rfl (by kernel_rfl) (by kernel_rfl)
        refine D_take 18 rfl (T_lda (ds := ctc y) rfl rfl rfl (Srd.old h2 (fun k _ => noOwns k)) rfl (by omega) haty) ?_ rfl rfl (by kernel_rfl) (by kernel_rfl)
        refine D_take 19 rfl (T_loads (ds := ctc x) rfl rfl rfl rfl rfl) ?_ rfl rfl (by kernel_rfl) (by kernel_rfl)
        refine D_one 20 rfl (E_hv0 (f := 53) ⟨_, Try.func53, rfl, by kernel_rfl⟩ (fun w hS => (hz ▸ order_any w y x : Gives _ _ _ _ _ (fun _ => .int .i64 z) _ _)) rfl rfl (fun _ => rfl)) ?_ rfl rfl (by kernel_rfl)
        rintro _ _ ⟨_, rfl, _, rfl⟩
        refine Nx_same sub_st ?_
        refine D_take 21 rfl (T_decF rfl (by omega)) ?_ rfl rfl (by kernel_rfl) (by kernel_rfl)
        refine D_take 22 rfl (pev_ok rfl) ?_ rfl rfl (by kernel_rfl) (by kernel_rfl)
        refine D_take 23 rfl (pev_ok rfl) ?_ rfl rfl (by kernel_rfl) (by kernel_rfl)
        refine D_take 24 rfl (pev_ok rfl) ?_ rfl rfl (by kernel_rfl) (by kernel_rfl)
        refine D_done ?_ (by kernel_rfl)
        skip
        focus (refine RS_blk ?_; refine S_region rfl rfl ?_; refine R_take (T_addN rfl rfl (by unfold fits; omega)) ?_ rfl rfl; refine R_p rfl ?_ rfl rfl; refine R_nil ?_)
        exact hJ (j + 1, false) _ _ ⟨by show j + 1 ≤ _; omega, by rw [hnx, hco, his, ← h3, decide_eq_false h4, decide_eq_false h0]; rfl⟩ (Sub.cons rfl (Sub.cons rfl (Sub.cons rfl (Sub.cons rfl (Sub.cons rfl Sub.nil))))) (fun w' hS => sub_st (H' := [pt b1 25 (ntc A n c A2 n2 c2')]) w' hS) (by show n2 - (j + 1) < _; omega)
    have hjn : j = n2 := by omega
    subst hjn
    rw [← hb] at he
    cases b
    · rw [if_neg Bool.false_ne_true] at he
      subst he
      focus (refine S_seq rfl ?_; refine S_region rfl rfl ?_; refine R_take (T_decF rfl (by omega)) ?_ rfl rfl; refine R_nil ?_; refine S_seq rfl ?_; refine S_false rfl rfl ?_; refine S_exit rfl rfl ?_; refine S_seq rfl ?_; refine S_seq rfl ?_; refine S_region rfl rfl ?_; refine R_p rfl ?_ rfl rfl; refine R_take (T_not rfl) ?_ rfl rfl; refine R_nil ?_; refine S_true rfl rfl ?_; refine S_seq rfl ?_; refine S_region rfl rfl ?_; refine R_p rfl ?_ rfl rfl; refine R_nil ?_)
      exact hB _ _ _ _ _ rfl rfl fun w' hS => ⟨(), rfl, trivial, hS.sublist (List.nil_sublist _)⟩
    · rw [if_pos rfl] at he
      subst he
      focus (refine S_seq rfl ?_; refine S_region rfl rfl ?_; refine R_take (T_decF rfl (by omega)) ?_ rfl rfl; refine R_nil ?_; refine S_seq rfl ?_; refine S_false rfl rfl ?_; refine S_exit rfl rfl ?_; refine S_seq rfl ?_; refine S_seq rfl ?_; refine S_region rfl rfl ?_; refine R_p rfl ?_ rfl rfl; refine R_take (T_not rfl) ?_ rfl rfl; refine R_nil ?_; refine S_false rfl rfl ?_; refine S_skip rfl ?_; refine S_seq rfl ?_; refine S_region rfl rfl ?_; refine R_p rfl ?_ rfl rfl; refine R_nil ?_)
      exact hB _ _ _ _ _ rfl rfl fun w' hS => ⟨(), rfl, trivial, hS.sublist (List.nil_sublist _)⟩
  by_cases h80 : n ≤ 80
  · focus (refine S_seq rfl ?_; refine S_region rfl rfl ?_; (refine R_eff (E_boxa (cs := ntc A n c A2 n2 c2') rfl) ?_ rfl rfl; rintro _ _ ⟨b1, rfl, rfl⟩); refine R_p rfl ?_ rfl rfl; refine R_nil ?_; refine S_seq rfl ?_; refine S_region rfl rfl ?_; refine R_p rfl ?_ rfl rfl; refine R_take (T_load rfl rfl rfl rfl) ?_ rfl rfl; refine R_p rfl ?_ rfl rfl; refine R_take (T_decT rfl (by omega)) ?_ rfl rfl; refine R_p rfl ?_ rfl rfl; refine R_p rfl ?_ rfl rfl; refine R_take (T_load rfl rfl rfl rfl) ?_ rfl rfl; ((refine R_eff (E_hv0 (f := 50) ⟨_, Try.func50, rfl, by kernel_rfl⟩ (fun w hS => confP_any w A n c 51 [] P (fun x => !pkB (pkv x)) ((Srd.old h (fun k _ => noOwns k)).rd w hS) (by omega) ⟨_, Try.func51, rfl, by kernel_rfl⟩ (fun w' hk x hx => check1_any w' x)) rfl rfl (fun _ => rfl)) ?_ rfl rfl; rintro _ _ ⟨_, rfl, _, rfl⟩); rw [hcon]); refine R_take (T_not rfl) ?_ rfl rfl; refine R_p rfl ?_ rfl rfl; refine R_p rfl ?_ rfl rfl; refine R_nil ?_; refine S_seq rfl ?_; refine S_seq rfl ?_; refine S_region rfl rfl ?_; refine R_p rfl ?_ rfl rfl; refine R_take (T_load rfl rfl rfl rfl) ?_ rfl rfl; refine R_p rfl ?_ rfl rfl; refine R_p rfl ?_ rfl rfl; refine R_nil ?_; refine S_block rfl ?_)
    exact RS_sub (Sub.cons rfl (Sub.cons rfl (Sub.cons rfl (Sub.cons rfl (Sub.cons rfl Sub.nil))))) (RS_mem sub_st (hmain b1 _ (by rw [decide_eq_true h80]; cases b0 <;> rfl)))
  · focus (refine S_seq rfl ?_; refine S_region rfl rfl ?_; (refine R_eff (E_boxa (cs := ntc A n c A2 n2 c2') rfl) ?_ rfl rfl; rintro _ _ ⟨b1, rfl, rfl⟩); refine R_p rfl ?_ rfl rfl; refine R_nil ?_; refine S_seq rfl ?_; refine S_region rfl rfl ?_; refine R_p rfl ?_ rfl rfl; refine R_take (T_load rfl rfl rfl rfl) ?_ rfl rfl; refine R_p rfl ?_ rfl rfl; refine R_take (T_decF rfl (by omega)) ?_ rfl rfl; refine R_p rfl ?_ rfl rfl; refine R_skip ?_ rfl rfl; refine R_skip ?_ rfl rfl; refine R_skip ?_ rfl rfl; refine R_skip ?_ rfl rfl; refine R_p rfl ?_ rfl rfl; refine R_p rfl ?_ rfl rfl; refine R_nil ?_; refine S_seq rfl ?_; refine S_seq rfl ?_; refine S_region rfl rfl ?_; refine R_p rfl ?_ rfl rfl; refine R_take (T_load rfl rfl rfl rfl) ?_ rfl rfl; refine R_p rfl ?_ rfl rfl; refine R_p rfl ?_ rfl rfl; refine R_nil ?_; refine S_block rfl ?_)
    exact RS_sub (Sub.cons rfl (Sub.cons rfl (Sub.cons rfl (Sub.cons rfl (Sub.cons rfl Sub.nil))))) (RS_mem sub_st (hmain b1 _ (by rw [decide_eq_false h80]; rfl)))
end Go.Proofs.Ytclmaoagdkhboaa
