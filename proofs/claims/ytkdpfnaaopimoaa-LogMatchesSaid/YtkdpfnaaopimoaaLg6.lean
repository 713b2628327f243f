/- Logs: entries in memory of their own. -/
import Derived.Test.YtkdpfnaaopimoaaLg5
namespace Go.Proofs.Ytkdpfnaaopimoaa
open Go.RowKit
open Asn (pt row rb)
set_option linter.unusedVariables false
set_option linter.unusedSimpArgs false
--@use N

def emd (m : Em) : Dt := m.2.2
theorem cells_put (P R : List Em) (m : Em) (d : Dt) : (cellsL emc (P ++ m :: R)).set (P.length * 3 + 2) (.slice d.1 d.2.2.length d.2.1) = cellsL emc (P ++ (m.1, m.2.1, d) :: R) := by
  have hl := cellsL_len (f := emc) emc_len P
  have e : ∀ m : Em, cellsL emc (P ++ m :: R) = cellsL emc P ++ (emc m ++ cellsL emc R) := fun m => by
    unfold cellsL
    rw [List.flatMap_append, List.flatMap_cons]
  rw [e, e, List.set_append_right _ _ (by omega), hl, show P.length * 3 + 2 - P.length * 3 = 2 by omega]
  rfl
theorem em_split (Q : List Em) (j : Nat) (hj : j < Q.length) {m : Em} (hm : Q.getD j default = m) : Q.drop j = m :: Q.drop (j + 1) := by
  subst hm
  rw [List.drop_eq_getElem_cons hj]
  simp [List.getD, hj]
theorem em_ones (Q : List Em) : ∀ v ∈ cellsL emc Q, v.oneCell' = true := fun v hv => by
  obtain ⟨x, _, hx⟩ := List.mem_flatMap.1 hv
  exact emc_one x v hx
theorem bv_ones (l : List UInt8) : ∀ v ∈ l.map bv, v.oneCell' = true := fun v hv => by
  obtain ⟨x, _, rfl⟩ := List.mem_map.1 hv
  rfl
/-- entries that say the same -/
def Cp (Q : List Em) : Type := {q : List Em // q.map emv = Q.map emv}
theorem Cp.len {Q : List Em} (q : Cp Q) : q.1.length = Q.length := by
  have := congrArg List.length q.2
  simpa using this
set_option maxRecDepth 100000 in
set_option maxHeartbeats 4000000 in
theorem copied_any (w : World) (A : Option Addr) (c : Nat) (Q : List Em) (h : Rd w All 3 A Q.length (cellsL emc Q)) (hd : RDt w All (Q.map emd)) (hn : Q.length ≤ 1000) (hk : ∀ m ∈ Q, m.2.2.2.2.length ≤ 100000) :
    Gives Try.prog 44 [.slice A Q.length c] [] w (X := (Option Addr × Nat) × Cp Q) (fun x => .slice x.1.1 Q.length x.1.2) (fun _ => True) (fun x => [row 44 3 x.1.1 Q.length x.1.2 (cellsL emc x.2.1), dtB 5 (x.2.1.map emd)]) := by
  refine gives_S Try.func44 rfl Try.ntmps44 Try.results44 (by simp) (St.enter w) (fun B hB => ?_)
  focus (refine S_seq rfl ?_; refine S_region rfl rfl ?_; refine R_p rfl ?_ rfl rfl; refine R_nil ?_; refine S_seq rfl ?_; refine S_region rfl rfl ?_; refine R_p rfl ?_ rfl rfl; (refine R_eff (E_hv1 (f := 56) ⟨_, Try.func56, rfl, by kernel_rfl⟩ (fun w hS => eclone_any w A Q.length c (cellsL emc Q) ((Srd.old h (fun k _ => noOwns k)).rd w hS) (em_ones Q) (by omega)) rfl rfl (fun _ => rfl)) ?_ rfl rfl; rintro _ _ ⟨⟨A5, c5⟩, rfl, _, rfl⟩); refine R_p rfl ?_ rfl rfl; refine R_nil ?_; refine S_seq rfl ?_; refine S_seq rfl ?_; refine S_region rfl rfl ?_; refine R_p rfl ?_ rfl rfl; refine R_p rfl ?_ rfl rfl; refine R_p rfl ?_ rfl rfl; refine R_nil ?_; refine S_block rfl ?_)
  refine RS_row A5 Q.length c5 fun _ _ hne5 _ => ?_
  refine S_loop (X := Nat × List Em) (fun x => [(0, .slice A5 Q.length c5), (7, .int .i64 (Q.length : Int)), (8, .int .i64 (x.1 : Int))]) (fun x => [row 44 3 A5 Q.length c5 (cellsL emc (x.2 ++ Q.drop x.1)), dtB 5 (x.2.map emd)]) (fun x => x.1 ≤ Q.length ∧ x.2.length = x.1 ∧ x.2.map emv = (Q.take x.1).map emv) (fun x => Q.length - x.1) rfl (0, []) ⟨Nat.zero_le _, rfl, rfl⟩ (Sub.cons rfl (Sub.cons rfl (Sub.cons rfl Sub.nil))) (fun w hS => sub_st (H' := [row 44 3 A5 Q.length c5 (cellsL emc Q), dtB 5 []]) w (dtB_nil (e := 5) hS)) ?_
  rintro ⟨j, P⟩ ⟨hj, hPl, hP⟩ J hJ
  dsimp only at hj hPl hP ⊢
  rcases Nat.lt_or_ge j Q.length with hjl | hjl
  · have hne5 := hne5 (by omega)
    obtain ⟨m, hm⟩ : ∃ m, Q.getD j default = m := ⟨_, rfl⟩
    have hmem : m ∈ Q := by rw [← hm]; simp [List.getD, hjl]
    have hsp := em_split Q j hjl hm
    have htk := emv_take Q j hjl hm
    obtain ⟨R, hR⟩ : ∃ R, Q.drop (j + 1) = R := ⟨_, rfl⟩
    rw [hR] at hsp
    rw [hsp]
    have hRl : R.length = Q.length - (j + 1) := by rw [← hR, List.length_drop]
    have hat := cellsL_at (f := emc) emc_len (P ++ m :: R) default j (by simp; omega)
    rw [show (P ++ m :: R).getD j default = m by simp [List.getD, ← hPl]] at hat
    have hat2 : (cellsL emc (P ++ m :: R))[j * 3 + 2]? = some (.slice m.2.2.1 m.2.2.2.2.length m.2.2.2.1) := hat 2 _ rfl
    have hput := fun d => cells_put P R m d
    rw [hPl] at hput
    have hd1 := hd (emd m) (List.mem_map.2 ⟨m, hmem, rfl⟩)
    have hk1 := hk m hmem
    have hxl : j * 3 + 2 < (cellsL emc (P ++ m :: R)).length := (List.getElem?_eq_some_iff.1 hat2).1
    focus (refine S_seq rfl ?_; refine S_region rfl rfl ?_; refine R_take (T_decT rfl (by omega)) ?_ rfl rfl; refine R_nil ?_; refine S_seq rfl ?_; refine S_true rfl rfl ?_; refine S_skip rfl ?_; refine S_seq rfl ?_; refine S_block rfl ?_; refine S_seq rfl ?_; refine S_region rfl rfl ?_; refine R_p rfl ?_ rfl rfl; refine R_p rfl ?_ rfl rfl; refine R_nil ?_; refine S_region rfl rfl ?_; refine R_p rfl ?_ rfl rfl; refine R_p rfl ?_ rfl rfl; refine R_p rfl ?_ rfl rfl; refine R_p rfl ?_ rfl rfl; refine R_take (T_ixM (sz := 3) rfl rfl rfl rfl rfl rfl hne5 hjl) ?_ rfl rfl; refine R_take (T_fap rfl rfl rfl rfl rfl hne5) ?_ rfl rfl; refine R_take (T_ldr rfl rfl rfl (Srd.row (n := Q.length) (c := c5)) (by omega) hat2) ?_ rfl rfl; (refine R_eff (E_hv1 (f := 55) ⟨_, Try.func55, rfl, by kernel_rfl⟩ (fun w hS => bclone_any w m.2.2.1 m.2.2.2.2.length m.2.2.2.1 (m.2.2.2.2.map bv) ((Srd.old hd1 (fun k _ => noOwns k)).rd w hS) (bv_ones _) hk1) rfl rfl (fun _ => rfl)) ?_ rfl rfl; rintro _ _ ⟨⟨A', c'⟩, rfl, _, rfl⟩); refine R_take (T_ixM (sz := 3) rfl rfl rfl rfl rfl rfl hne5 hjl) ?_ rfl rfl; refine R_take (T_fap rfl rfl rfl rfl rfl hne5) ?_ rfl rfl; (refine R_eff0 (E_storeRS (m := Q.length) (c := c5) rfl rfl rfl rfl rfl hxl) ?_ rfl; rintro _ _ rfl); refine R_nil ?_; refine RS_blk ?_; refine S_region rfl rfl ?_; refine R_take (T_addN rfl rfl (by unfold fits; omega)) ?_ rfl rfl; refine R_p rfl ?_ rfl rfl; refine R_nil ?_)
    refine hJ (j + 1, P ++ [(m.1, m.2.1, A', c', m.2.2.2.2)]) _ _ ⟨by show j + 1 ≤ _; omega, by simp; omega, by dsimp only; rw [htk, List.map_append, hP]; rfl⟩ (Sub.cons rfl (Sub.cons rfl (Sub.cons rfl Sub.nil))) (fun w' hS => ?_) (by show Q.length - (j + 1) < _; omega)
    dsimp only
    have h1 := sub_st (H' := [row 5 1 A' m.2.2.2.2.length c' (m.2.2.2.2.map bv), dtB 5 (P.map emd), row 44 3 A5 Q.length c5 ((cellsL emc (P ++ m :: R)).set (j * 3 + 2) (.slice A' m.2.2.2.2.length c'))]) w' hS
    have h2 := dtB_put (d := (A', c', m.2.2.2.2)) h1
    rw [hput (A', c', m.2.2.2.2)] at h2
    rw [hR, List.append_assoc, List.map_append]
    exact sub_st (H' := [row 44 3 A5 Q.length c5 (cellsL emc (P ++ (m.1, m.2.1, A', c', m.2.2.2.2) :: R)), dtB 5 (P.map emd ++ [(A', c', m.2.2.2.2)])]) w' h2
  have hjn : j = Q.length := by omega
  subst hjn
  rw [List.drop_length, List.append_nil]
  rw [List.take_length] at hP
  focus (refine S_seq rfl ?_; refine S_region rfl rfl ?_; refine R_take (T_decF rfl (by omega)) ?_ rfl rfl; refine R_nil ?_; refine S_seq rfl ?_; refine S_false rfl rfl ?_; refine S_exit rfl rfl ?_; refine S_seq rfl ?_; refine S_region rfl rfl ?_; refine R_p rfl ?_ rfl rfl; refine R_p rfl ?_ rfl rfl; refine R_nil ?_)
  exact hB _ _ _ _ _ rfl rfl fun w' hS => ⟨((A5, c5), ⟨P, hP⟩), rfl, trivial, sub_st _ hS⟩
theorem E_cpW {n : Nat} {w0 : World} {M : Nat → Prop} {T : Slots} {H : List Asn} {dd : Option Tmp} {tt : TypeId} {pos : String} {af : Array Edge} {g : Option (Nat × Bool)} {x : Operand} {ts : Array TypeId} {A : Option Addr} {k c : Nat} {Q : List Em} (hx : oget T x = some (.slice A k c)) (hk0 : Q.length = k) (hs : Srd w0 M H 3 A k (cellsL emc Q)) (hd : SDt w0 M H (Q.map emd)) (hn : k ≤ 1000) (hk : ∀ m ∈ Q, m.2.2.2.2.length ≤ 100000) :
    Ef Try.prog n w0 M T H ⟨dd, .call ⟨.value (.func 44), #[x], ts⟩, tt, pos, af, g⟩ (fun u H' => ∃ A' c', ∃ Q' : Cp Q, u = .slice A' k c' ∧ (0 < k → A' ≠ none) ∧ k ≤ c' ∧ H' = row 44 3 A' k c' (cellsL emc Q'.1) :: dtB 5 (Q'.1.map emd) :: H) := by
  subst hk0
  refine (E_gv ⟨_, Try.func44, rfl, by kernel_rfl⟩ (vs := [.slice A Q.length c]) (by simp [ogets, hx]) fun w hS => copied_any w A c Q (hs.rd w hS) (hd.rd w hS) hn hk).mono ?_
  rintro v H' ⟨⟨⟨A', c'⟩, Q'⟩, rfl, _, rfl⟩ w hS
  have hf := row_facts (hS.at_ (A := row 44 3 A' Q.length c' (cellsL emc Q'.1)) (by simp))
  exact ⟨_, _, rfl, ⟨A', c', Q', rfl, hf.2.2.1, hf.1, rfl⟩, hS⟩
theorem rd_cut {w : World} {F : Nat → Prop} {sz n c q : Nat} {A : Option Addr} {xs : List Value} (h : Rd w F sz A n xs) (hq : q ≤ n) (hc : n ≤ c) : Rd w F sz (cutP A c q sz) (n - q) (xs.drop (q * sz)) := by
  refine ⟨by rw [List.length_drop, h.1, Nat.sub_mul], fun h0 => ?_⟩
  obtain ⟨ad, rfl, hF, hcell⟩ := h.2 (by omega)
  refine ⟨ad.add (q * sz), by unfold cutP; rw [if_neg (by omega)]; rfl, by rw [block_of_add]; exact hF, fun j u hj => ?_⟩
  rw [List.getElem?_drop] at hj
  rw [add_of_add]
  exact hcell _ u hj
theorem rd_cutE {w : World} {F : Nat → Prop} {c q : Nat} {A : Option Addr} {E : List Em} (h : Rd w F 3 A E.length (cellsL emc E)) (hq : q ≤ E.length) (hc : E.length ≤ c) : Rd w F 3 (cutP A c q 3) (E.length - q) (cellsL emc (E.drop q)) := by
  rw [cellsL_drop emc_len]
  exact rd_cut h hq hc
theorem rdt_drop {w : World} {F : Nat → Prop} {E : List Em} (h : RDt w F (E.map emd)) (q : Nat) : RDt w F ((E.drop q).map emd) := fun d hd => h d (by
  obtain ⟨m, hm, rfl⟩ := List.mem_map.1 hd
  exact List.mem_map.2 ⟨m, List.mem_of_mem_drop hm, rfl⟩)
end Go.Proofs.Ytkdpfnaaopimoaa
