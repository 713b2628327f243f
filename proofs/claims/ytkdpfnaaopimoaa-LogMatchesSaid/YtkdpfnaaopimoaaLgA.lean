/- The laws' own functions: entries, short. -/
import Derived.Test.YtkdpfnaaopimoaaLg9
namespace Go.Proofs.Ytkdpfnaaopimoaa
open Go.RowKit
open Asn (pt row rb)
set_option linter.unusedVariables false
set_option linter.unusedSimpArgs false
--@use N

def cutE (l : List En) (n : Nat) : List En := (l.take n).map fun e => (e.1, e.2.1, e.2.2.take 1025)
theorem dtB_caps {w0 w : World} {M : Nat → Prop} {H : List Asn} {e : TypeId} {D : List Dt} (hS : St w0 M H w) (hm : dtB e D ∈ H) : ∀ d ∈ D, d.2.2.length ≤ d.2.1 := fun d hd =>
  (row_facts ((hS.all _ hm).1.1 (dtA e d) (List.mem_map.2 ⟨d, hd, rfl⟩))).1
theorem take_1025 (l : List UInt8) : l.take (min l.length 1025) = l.take 1025 := by
  rcases Nat.le_total l.length 1025 with h | h
  · rw [Nat.min_eq_left h, List.take_length, List.take_of_length_le h]
  · rw [Nat.min_eq_right h]
theorem cutE_next (Q : List Em) (j : Nat) (hj : j < Q.length) {m : Em} (hm : Q.getD j default = m) : cutE (Q.map emv) (j + 1) = cutE (Q.map emv) j ++ [(m.1, m.2.1, m.2.2.2.2.take 1025)] := by
  unfold cutE
  rw [← List.map_take, ← List.map_take, emv_take Q j hj hm, List.map_append]
  rfl
theorem T_minE {P : Program} {n : Nat} {w0 : World} {M : Nat → Prop} {T : Slots} {H : List Asn} {dd : Option Tmp} {tt : TypeId} {pos : String} {af : Array Edge} {g : Option (Nat × Bool)} {x y : Operand} {s t : TypeId} {kk : IntKind} {i j : Int} {p q r : Nat} (h : min p q = r) (hx : oget T x = some (.int kk i)) (hy : oget T y = some (.int kk j)) [hi : NatOf i p] [hj : NatOf j q] : Tk P n w0 M T H ⟨dd, .call ⟨.builtin .min, #[x, y], #[s, t]⟩, tt, pos, af, g⟩ (.int kk (r : Int)) := by
  have := T_minN (P := P) (n := n) (w0 := w0) (M := M) (H := H) (dd := dd) (tt := tt) (pos := pos) (af := af) (g := g) (s := s) (t := t) hx hy
  rwa [h] at this
set_option maxRecDepth 100000 in
set_option maxHeartbeats 4000000 in
theorem entriesL_any (w : World) (A : Option Addr) (c : Nat) (Q : List Em) (h : Rd w All 3 A Q.length (cellsL emc Q)) (hd : RDt w All (Q.map emd)) (hcap : ∀ m ∈ Q, m.2.2.2.2.length ≤ m.2.2.2.1) (n : Nat) (hn : n ≤ 100) :
    Gives Try.prog 12 [.slice A Q.length c, zi n] [] w (X := (Option Addr × Nat) × List Em) (fun x => .slice x.1.1 (cutE (Q.map emv) n).length x.1.2) (fun x => x.2.map emv = cutE (Q.map emv) n ∧ (cutE (Q.map emv) n).length ≤ x.1.2 ∧ ∀ m ∈ x.2, m.2.2.2.2.length ≤ m.2.2.2.1) (fun x => [row 44 3 x.1.1 (cutE (Q.map emv) n).length x.1.2 (cellsL emc x.2), dtB 5 (x.2.map emd)]) := by
  refine gives_S Try.func12 rfl Try.ntmps12 Try.results12 (by simp) (St.enter w) (fun B hB => ?_)
  have hne : 0 < Q.length → A ≠ none := fun h0 => by obtain ⟨ad, rfl, _⟩ := h.2 (by omega); simp
  have hcl : ∀ j, j ≤ Q.length → (cutE (Q.map emv) j).length = j := fun j hj => by
    unfold cutE
    rw [List.length_map, List.length_take, List.length_map]
    omega
  have hend : ∀ (w' : World) (j : Nat) (A5 : Option Addr) (c5 : Nat) (P : List Em), j ≤ Q.length → cutE (Q.map emv) j = cutE (Q.map emv) n → P.map emv = cutE (Q.map emv) j → St w (owns []) [row 44 3 A5 j c5 (cellsL emc P), dtB 5 (P.map emd)] w' → (((A5, c5), P) : (Option Addr × Nat) × List Em).2.map emv = cutE (Q.map emv) n ∧ (cutE (Q.map emv) n).length ≤ c5 ∧ ∀ m ∈ P, m.2.2.2.2.length ≤ m.2.2.2.1 := fun w' j A5 c5 P hj hjn hP hS => by
    refine ⟨hP.trans hjn, ?_, fun m hm => dtB_caps (e := 5) (D := P.map emd) hS (by simp) (emd m) (List.mem_map.2 ⟨m, hm, rfl⟩)⟩
    rw [← hjn, hcl j hj]
    exact (row_facts (hS.at_ (A := row 44 3 A5 j c5 (cellsL emc P)) (by simp))).1
  focus (refine S_seq rfl ?_; refine S_region rfl rfl ?_; refine R_p rfl ?_ rfl rfl; refine R_nil ?_; refine S_seq rfl ?_; refine S_region rfl rfl ?_; refine R_p rfl ?_ rfl rfl; refine R_nil ?_; refine S_seq rfl ?_; refine S_seq rfl ?_; refine S_region rfl rfl ?_; refine R_p rfl ?_ rfl rfl; refine R_p rfl ?_ rfl rfl; refine R_p rfl ?_ rfl rfl; refine R_nil ?_; refine S_block rfl ?_)
  refine S_loop (X := Nat × (Option Addr × Nat) × List Em) (fun x => [(1, zi n), (5, .slice x.2.1.1 x.1 x.2.1.2), (8, .slice A Q.length c), (9, .int .i64 (Q.length : Int)), (10, .int .i64 (x.1 : Int))]) (fun x => [row 44 3 x.2.1.1 x.1 x.2.1.2 (cellsL emc x.2.2), dtB 5 (x.2.2.map emd)]) (fun x => x.1 ≤ Q.length ∧ x.1 ≤ n ∧ x.2.2.map emv = cutE (Q.map emv) x.1) (fun x => Q.length - x.1) rfl (0, (none, 0), []) ⟨Nat.zero_le _, Nat.zero_le _, rfl⟩ (Sub.cons rfl (Sub.cons rfl (Sub.cons rfl (Sub.cons rfl (Sub.cons rfl Sub.nil))))) (fun w hS => (dtB_nil (e := 5) (hS.sublist (List.nil_sublist _))).nilrow 44 3) ?_
  rintro ⟨j, ⟨A5, c5⟩, P⟩ ⟨hj, hjn, hP⟩ J hJ
  dsimp only at hj hjn hP ⊢
  rcases Nat.lt_or_ge j Q.length with hjl | hjl
  · have hne := hne (by omega)
    have hat := cellsL_at (f := emc) emc_len Q default j hjl
    obtain ⟨m, hm⟩ : ∃ m, Q.getD j default = m := ⟨_, rfl⟩
    have hmem : m ∈ Q := by rw [← hm]; simp [List.getD, hjl]
    rw [hm] at hat
    have hnx := cutE_next Q j hjl hm
    have hcap1 := hcap m hmem
    have hd1 := hd (emd m) (List.mem_map.2 ⟨m, hmem, rfl⟩)
    obtain ⟨t, k, D, cd, l⟩ := m
    have hcap1 : l.length ≤ cd := hcap1
    have hd1 : Rd w All 1 D l.length (l.map bv) := hd1
    have hat : ∀ e v, ([Value.int .u64 (t : Int), .int .i64 k, .slice D l.length cd] : List Value)[e]? = some v → (cellsL emc Q)[j * 3 + e]? = some v := hat
    obtain ⟨q, hq⟩ : ∃ q, min l.length 1025 = q := ⟨_, rfl⟩
    have hql : (l.take 1025).length = q := by rw [← hq, List.length_take, Nat.min_comm]
    have hcut : Rd w All 1 D q ((l.take 1025).map bv) := by
      have := rd_take hd1 (q := q) (by omega)
      rw [Nat.mul_one, ← List.map_take, ← hq, take_1025, hq] at this
      exact this
    by_cases hjn2 : j = n
    · focus (refine S_seq rfl ?_; refine S_region rfl rfl ?_; refine R_take (T_decT rfl (by omega)) ?_ rfl rfl; refine R_nil ?_; refine S_seq rfl ?_; refine S_true rfl rfl ?_; refine S_skip rfl ?_; refine S_seq rfl ?_; refine S_block rfl ?_; refine S_seq rfl ?_; refine S_region rfl rfl ?_; refine R_p rfl ?_ rfl rfl; refine R_take (T_ixM (sz := 3) rfl rfl rfl rfl rfl rfl hne hjl) ?_ rfl rfl; refine R_take (T_lda (ds := [.int .u64 (t : Int), .int .i64 k, .slice D l.length cd]) rfl rfl rfl (Srd.old h (fun k _ => noOwns k)) rfl (by omega) hat) ?_ rfl rfl; (refine R_eff (E_alloca rfl em_zero) ?_ rfl rfl; rintro _ _ ⟨b7, rfl, rfl⟩); refine R_p rfl ?_ rfl rfl; (refine R_eff0 (E_storew (cs := emc (0, 0, none, 0, [])) (ds := [.int .u64 (t : Int), .int .i64 k, .slice D l.length cd]) rfl rfl rfl rfl (by simp [Value.oneCell']) rfl) ?_ rfl; rintro _ _ rfl); refine R_nil ?_; refine S_seq rfl ?_; refine S_seq rfl ?_; refine S_region rfl rfl ?_; refine R_p rfl ?_ rfl rfl; refine R_p rfl ?_ rfl rfl; refine R_take (T_decT rfl (by omega)) ?_ rfl rfl; refine R_nil ?_; refine S_true rfl rfl ?_; refine S_exit rfl rfl ?_; refine S_seq rfl ?_; refine S_region rfl rfl ?_; refine R_p rfl ?_ rfl rfl; refine R_p rfl ?_ rfl rfl; refine R_nil ?_)
      subst hjn2
      rw [hcl j hj] at hB
      exact hB _ _ _ _ _ rfl rfl fun w' hS => ⟨((A5, c5), P), rfl, by have := hend w' j A5 c5 P hj rfl hP (sub_st _ hS); rwa [hcl j hj] at this, sub_st _ hS⟩
    focus (refine S_seq rfl ?_; refine S_region rfl rfl ?_; refine R_take (T_decT rfl (by omega)) ?_ rfl rfl; refine R_nil ?_; refine S_seq rfl ?_; refine S_true rfl rfl ?_; refine S_skip rfl ?_; refine S_seq rfl ?_; refine S_block rfl ?_; refine S_seq rfl ?_; refine S_region rfl rfl ?_; refine R_p rfl ?_ rfl rfl; refine R_take (T_ixM (sz := 3) rfl rfl rfl rfl rfl rfl hne hjl) ?_ rfl rfl; refine R_take (T_lda (ds := [.int .u64 (t : Int), .int .i64 k, .slice D l.length cd]) rfl rfl rfl (Srd.old h (fun k _ => noOwns k)) rfl (by omega) hat) ?_ rfl rfl; (refine R_eff (E_alloca rfl em_zero) ?_ rfl rfl; rintro _ _ ⟨b7, rfl, rfl⟩); refine R_p rfl ?_ rfl rfl; (refine R_eff0 (E_storew (cs := emc (0, 0, none, 0, [])) (ds := [.int .u64 (t : Int), .int .i64 k, .slice D l.length cd]) rfl rfl rfl rfl (by simp [Value.oneCell']) rfl) ?_ rfl; rintro _ _ rfl); refine R_nil ?_; refine S_seq rfl ?_; refine S_seq rfl ?_; refine S_region rfl rfl ?_; refine R_p rfl ?_ rfl rfl; refine R_p rfl ?_ rfl rfl; refine R_take (T_decF rfl (by omega)) ?_ rfl rfl; refine R_nil ?_; refine S_false rfl rfl ?_; refine S_skip rfl ?_; refine S_seq rfl ?_; refine S_region rfl rfl ?_; (refine R_eff (E_lit1 (m := 0) (vs := []) rfl rfl rfl rfl rfl rfl rfl (by simp) (by decide)) ?_ rfl rfl; rintro _ _ ⟨bl, rfl, rfl⟩); refine R_p rfl ?_ rfl rfl; refine R_take (T_load rfl rfl rfl rfl) ?_ rfl rfl; refine R_p rfl ?_ rfl rfl; refine R_take (T_load rfl rfl rfl rfl) ?_ rfl rfl; refine R_p rfl ?_ rfl rfl; refine R_take (T_minE hq rfl rfl) ?_ rfl rfl; refine R_take (T_slhN (q := q) rfl rfl rfl rfl rfl (by omega)) ?_ rfl rfl; (refine R_eff (E_apple (sz := 1) (news := (l.take 1025).map bv) rfl rfl rfl rfl rfl rfl rfl (by decide) .here (Srd.old hcut (fun k _ => noOwns k)) (bv_ones _) (by show q * 1 ≤ _; omega) (by unfold maxLen; omega)) ?_ rfl rfl; rintro _ _ ⟨A', c', rfl, rfl⟩); refine R_p rfl ?_ rfl rfl; (refine R_eff0 (E_store1 rfl rfl rfl rfl rfl rfl (by show _ < 3; omega)) ?_ rfl; rintro _ _ rfl); refine R_nil ?_; refine S_region rfl rfl ?_; refine R_p rfl ?_ rfl rfl; refine R_take (T_loads (ds := [.int .u64 (t : Int), .int .i64 k, .slice A' q c']) rfl rfl rfl rfl rfl) ?_ rfl rfl; (refine R_eff (E_litS (vs := [.agg [.int .u64 (t : Int), .int .i64 k, .slice A' q c'].toArray]) (size := 3) (ds := [.int .u64 (t : Int), .int .i64 k, .slice A' q c']) rfl rfl rfl rfl rfl rfl (by simp [vcells]) rfl (by omega)) ?_ rfl rfl; rintro _ _ ⟨vb, rfl, rfl⟩); (refine R_eff (E_appS (sz := 3) (m := j) (c := c5) (A := A5) rfl rfl rfl rfl rfl rfl rfl (by decide) (Srd.pt (n := 1) (g := vb) (ds := [.int .u64 (t : Int), .int .i64 k, .slice A' q c']) rfl (fun j u hj => by rw [Nat.zero_add]; exact hj)) (by simp [Value.oneCell']) (by show (j + 1) * 40 ≤ _; omega) (by unfold maxLen; omega)) ?_ rfl rfl; rintro _ _ ⟨A7, c7, rfl, rfl⟩); refine R_p rfl ?_ rfl rfl; refine R_nil ?_; refine RS_blk ?_; refine S_region rfl rfl ?_; refine R_take (T_addN rfl rfl (by unfold fits; omega)) ?_ rfl rfl; refine R_p rfl ?_ rfl rfl; refine R_nil ?_)
    refine hJ (j + 1, (A7, c7), P ++ [(t, k, A', c', l.take 1025)]) _ _ ⟨by show j + 1 ≤ _; omega, by show j + 1 ≤ _; omega, by dsimp only; rw [hnx, List.map_append, hP]; rfl⟩ (Sub.cons rfl (Sub.cons rfl (Sub.cons rfl (Sub.cons rfl (Sub.cons rfl Sub.nil))))) (fun w' hS => ?_) (by show Q.length - (j + 1) < _; omega)
    dsimp only
    have e1 : emc (t, k, A', c', l.take 1025) = [.int .u64 (t : Int), .int .i64 k, .slice A' q c'] := by
      show [Value.int .u64 (t : Int), .int .i64 k, .slice A' (l.take 1025).length c'] = _
      rw [hql]
    have h1 := sub_st (H' := [row 5 1 A' q c' ((l.take 1025).map bv), dtB 5 (P.map emd), row 44 3 A7 (j + 1) c7 (cellsL emc P ++ [.int .u64 (t : Int), .int .i64 k, .slice A' q c'])]) w' hS
    have h2 : St w (owns []) [dtA 5 (A', c', l.take 1025), dtB 5 (P.map emd), row 44 3 A7 (j + 1) c7 (cellsL emc P ++ [.int .u64 (t : Int), .int .i64 k, .slice A' q c'])] w' := by
      unfold dtA
      rw [hql]
      exact h1
    have h3 := dtB_put h2
    rw [cellsL_app, cellsL_one, e1, List.map_append]
    exact sub_st (H' := [row 44 3 A7 (j + 1) c7 (cellsL emc P ++ [.int .u64 (t : Int), .int .i64 k, .slice A' q c']), dtB 5 (P.map emd ++ [(A', c', l.take 1025)])]) w' h3
  have hjq : j = Q.length := by omega
  have hcn : cutE (Q.map emv) j = cutE (Q.map emv) n := by
    unfold cutE
    rw [List.take_of_length_le (by rw [List.length_map]; omega), List.take_of_length_le (by rw [List.length_map]; omega)]
  have hcnl : (cutE (Q.map emv) n).length = j := by rw [← hcn]; exact hcl j hj
  have hend2 := fun w' hS => hend w' j A5 c5 P hj hcn hP hS
  rw [hcnl] at hB hend2
  focus (refine S_seq rfl ?_; refine S_region rfl rfl ?_; refine R_take (T_decF rfl (by omega)) ?_ rfl rfl; refine R_nil ?_; refine S_seq rfl ?_; refine S_false rfl rfl ?_; refine S_exit rfl rfl ?_; refine S_seq rfl ?_; refine S_region rfl rfl ?_; refine R_p rfl ?_ rfl rfl; refine R_p rfl ?_ rfl rfl; refine R_nil ?_)
  exact hB _ _ _ _ _ rfl rfl fun w' hS => ⟨((A5, c5), P), rfl, hend2 w' (sub_st _ hS), sub_st _ hS⟩
end Go.Proofs.Ytkdpfnaaopimoaa
