/- Logs: From. -/
import Derived.Test.YtkdpfnaaopimoaaLg8
namespace Go.Proofs.Ytkdpfnaaopimoaa
open Go.RowKit
open Asn (pt row rb)
set_option linter.unusedVariables false
set_option linter.unusedSimpArgs false
--@use N

theorem T_minN {P : Program} {n : Nat} {w0 : World} {M : Nat → Prop} {T : Slots} {H : List Asn} {dd : Option Tmp} {tt : TypeId} {pos : String} {af : Array Edge} {g : Option (Nat × Bool)} {x y : Operand} {s t : TypeId} {kk : IntKind} {i j : Int} {p q : Nat} (hx : oget T x = some (.int kk i)) (hy : oget T y = some (.int kk j)) [hi : NatOf i p] [hj : NatOf j q] : Tk P n w0 M T H ⟨dd, .call ⟨.builtin .min, #[x, y], #[s, t]⟩, tt, pos, af, g⟩ (.int kk ((min p q : Nat) : Int)) := by
  have h := T_min (P := P) (n := n) (w0 := w0) (M := M) (H := H) (dd := dd) (tt := tt) (pos := pos) (af := af) (g := g) (s := s) (t := t) hx hy
  rw [hi.is, hj.is] at h
  rwa [show (if (q : Int) < (p : Int) then (q : Int) else (p : Int)) = ((min p q : Nat) : Int) by rw [Nat.min_def]; split <;> split <;> omega] at h
/-- entries from an index on -/
def frm (a : At) (l : List En) (idx : Nat) (n : Int) : Int × At × List En :=
  if rightB a l = true then
    if idx ≤ a.1 ∨ (lastA a l).1 + 1 < idx then (4, (0, 0), []) else
      if n < 0 then (2, (0, 0), []) else (0, placeN a l (idx - 1 - a.1), (l.drop (idx - 1 - a.1)).take (min n.toNat (l.length - (idx - 1 - a.1))))
  else (220, (0, 0), [])
theorem rd_take {w : World} {F : Nat → Prop} {sz n q : Nat} {A : Option Addr} {xs : List Value} (h : Rd w F sz A n xs) (hq : q ≤ n) : Rd w F sz A q (xs.take (q * sz)) := by
  have hle : q * sz ≤ n * sz := Nat.mul_le_mul_right _ hq
  refine ⟨by rw [List.length_take, h.1]; omega, fun h0 => ?_⟩
  obtain ⟨ad, e, hF, hcell⟩ := h.2 (by omega)
  refine ⟨ad, e, hF, fun j u hj => hcell j u ?_⟩
  rw [List.getElem?_take] at hj
  split at hj
  · exact hj
  · cases hj
theorem rd_takeE {w : World} {F : Nat → Prop} {q n : Nat} {A : Option Addr} {E : List Em} (h : Rd w F 3 A n (cellsL emc E)) (hq : q ≤ n) : Rd w F 3 A q (cellsL emc (E.take q)) := by
  rw [cellsL_take emc_len]
  exact rd_take h hq
set_option maxRecDepth 100000 in
set_option maxHeartbeats 4000000 in
theorem from_any (w : World) (a : At) (A : Option Addr) (c : Nat) (Q : List Em) (h : Rd w All 3 A Q.length (cellsL emc Q)) (hd : RDt w All (Q.map emd)) (hc : Q.length ≤ c) (hn : Q.length ≤ 1000) (hk : ∀ m ∈ Q, m.2.2.2.2.length ≤ 100000) (idx : Nat) (hidx : idx ≤ 18446744073709551615) (n : Int) :
    Gives Try.prog 26 [.agg (lgc a A Q.length c).toArray, .int .u64 (idx : Int), zi n] [] w (X := (Option Addr × Nat) × List Em) (fun x => .tuple #[.agg (atc (frm a (Q.map emv) idx n).2.1).toArray, .slice x.1.1 (frm a (Q.map emv) idx n).2.2.length x.1.2, zi (frm a (Q.map emv) idx n).1]) (fun x => x.2.map emv = (frm a (Q.map emv) idx n).2.2) (fun x => [row 44 3 x.1.1 (frm a (Q.map emv) idx n).2.2.length x.1.2 (cellsL emc x.2), dtB 5 (x.2.map emd)]) := by
  refine gives_C Try.func26 rfl Try.ntmps26 Try.results26 (by simp) (St.enter w) (fun B hB => ?_)
  obtain ⟨i, t⟩ := a
  obtain ⟨l, hl⟩ : ∃ l, Q.map emv = l := ⟨_, rfl⟩
  have hll : l.length = Q.length := by rw [← hl, List.length_map]
  rw [hl] at hB
  obtain ⟨r, hr0⟩ : ∃ r, rightB (i, t) l = r := ⟨_, rfl⟩
  have hr : rightB (i, t) (Q.map emv) = r := by rw [hl]; exact hr0
  cases r
  · have hs : frm (i, t) l idx n = (220, (0, 0), []) := by unfold frm; rw [hr0]; rfl
    rw [hs] at hB
    focus (refine S_seq rfl ?_; refine S_region rfl rfl ?_; (refine R_eff (E_boxa (cs := lgc (i, t) A Q.length c) rfl) ?_ rfl rfl; rintro _ _ ⟨b3, rfl, rfl⟩); (refine R_eff (E_alloca rfl at_zero) ?_ rfl rfl; rintro _ _ ⟨b6, rfl, rfl⟩); refine R_p rfl ?_ rfl rfl; refine R_p rfl ?_ rfl rfl; refine R_nil ?_; refine S_seq rfl ?_; refine S_block rfl ?_; refine S_seq rfl ?_; refine S_region rfl rfl ?_; refine R_take (T_loads (ds := lgc (i, t) A Q.length c) rfl rfl rfl rfl rfl) ?_ rfl rfl; ((refine R_eff (E_hv0 (f := 40) ⟨_, Try.func40, rfl, by kernel_rfl⟩ (fun w hS => right_any w (i, t) A c Q ((Srd.old h (fun k _ => noOwns k)).rd w hS) (by omega)) rfl rfl (fun _ => rfl)) ?_ rfl rfl; rintro _ _ ⟨_, rfl, _, rfl⟩); rw [hr]); refine R_take (T_not rfl) ?_ rfl rfl; refine R_take (T_decT rfl (by omega)) ?_ rfl rfl; refine R_nil ?_; refine S_true rfl rfl ?_; refine S_seq rfl ?_; refine S_region rfl rfl ?_; refine R_take (T_build0 at_built0) ?_ rfl rfl; (refine R_eff0 (E_storew (cs := atc (0, 0)) (ds := atc (0, 0)) rfl rfl rfl rfl (atc_one _) rfl) ?_ rfl; rintro _ _ rfl); refine R_p rfl ?_ rfl rfl; refine R_p rfl ?_ rfl rfl; refine R_nil ?_)
    refine hB _ _ _ _ _ rfl (.cell rfl rfl rfl inferInstance rfl (.tmp rfl (.tmp rfl .nil))) fun w' hS => ⟨((none, 0), []), rfl, rfl, dtB_nil2 (hS.sublist (List.nil_sublist _))⟩
  have hff := right_fits hr0
  have hfit2 : i + Q.length ≤ 18446744073709551614 := by rw [← hll]; exact hff.2
  have hfit : (i, t).1 + Q.length ≤ 18446744073709551615 := by show i + _ ≤ _; omega
  have hla : lastA (i, t) (Q.map emv) = (i + Q.length, (lastA (i, t) l).2) := by rw [hl, lastA, hll]
  have hla2 : (lastA (i, t) l).1 = i + Q.length := by rw [lastA, hll]
  obtain ⟨lt, hlt⟩ : ∃ x, (lastA (i, t) l).2 = x := ⟨_, rfl⟩
  rw [hlt] at hla
  have hs : frm (i, t) l idx n = if idx ≤ i ∨ i + Q.length + 1 < idx then ((4, (0, 0), []) : Int × At × List En) else if n < 0 then (2, (0, 0), []) else (0, placeN (i, t) l (idx - 1 - i), (l.drop (idx - 1 - i)).take (min n.toNat (l.length - (idx - 1 - i)))) := by
    unfold frm
    rw [if_pos hr0, hla2]
  rw [hs] at hB
  by_cases h1 : idx ≤ i
  · rw [if_pos (.inl h1)] at hB
    focus (refine S_seq rfl ?_; refine S_region rfl rfl ?_; (refine R_eff (E_boxa (cs := lgc (i, t) A Q.length c) rfl) ?_ rfl rfl; rintro _ _ ⟨b3, rfl, rfl⟩); (refine R_eff (E_alloca rfl at_zero) ?_ rfl rfl; rintro _ _ ⟨b6, rfl, rfl⟩); refine R_p rfl ?_ rfl rfl; refine R_p rfl ?_ rfl rfl; refine R_nil ?_; refine S_seq rfl ?_; refine S_block rfl ?_; refine S_seq rfl ?_; refine S_region rfl rfl ?_; refine R_take (T_loads (ds := lgc (i, t) A Q.length c) rfl rfl rfl rfl rfl) ?_ rfl rfl; ((refine R_eff (E_hv0 (f := 40) ⟨_, Try.func40, rfl, by kernel_rfl⟩ (fun w hS => right_any w (i, t) A c Q ((Srd.old h (fun k _ => noOwns k)).rd w hS) (by omega)) rfl rfl (fun _ => rfl)) ?_ rfl rfl; rintro _ _ ⟨_, rfl, _, rfl⟩); rw [hr]); refine R_take (T_not rfl) ?_ rfl rfl; refine R_p rfl ?_ rfl rfl; refine R_nil ?_; refine S_false rfl rfl ?_; refine S_seq rfl ?_; refine S_region rfl rfl ?_; refine R_p rfl ?_ rfl rfl; refine R_p rfl ?_ rfl rfl; refine R_p rfl ?_ rfl rfl; refine R_take (T_load rfl rfl rfl rfl) ?_ rfl rfl; refine R_take (T_decT rfl (by omega)) ?_ rfl rfl; refine R_take (T_decT rfl (by omega)) ?_ rfl rfl; refine R_skip ?_ rfl rfl; refine R_skip ?_ rfl rfl; refine R_skip ?_ rfl rfl; refine R_skip ?_ rfl rfl; refine R_skip ?_ rfl rfl; refine R_skip ?_ rfl rfl; refine R_take (T_decT rfl (by omega)) ?_ rfl rfl; refine R_take (T_decT rfl (by omega)) ?_ rfl rfl; refine R_nil ?_; refine S_true rfl rfl ?_; refine S_seq rfl ?_; refine S_region rfl rfl ?_; refine R_take (T_build0 at_built0) ?_ rfl rfl; (refine R_eff0 (E_storew (cs := atc (0, 0)) (ds := atc (0, 0)) rfl rfl rfl rfl (atc_one _) rfl) ?_ rfl; rintro _ _ rfl); refine R_p rfl ?_ rfl rfl; refine R_p rfl ?_ rfl rfl; refine R_nil ?_)
    refine hB _ _ _ _ _ rfl (.cell rfl rfl rfl inferInstance rfl (.tmp rfl (.tmp rfl .nil))) fun w' hS => ⟨((none, 0), []), rfl, rfl, dtB_nil2 (hS.sublist (List.nil_sublist _))⟩
  by_cases h2 : i + Q.length + 1 < idx
  · rw [if_pos (.inr h2)] at hB
    focus (refine S_seq rfl ?_; refine S_region rfl rfl ?_; (refine R_eff (E_boxa (cs := lgc (i, t) A Q.length c) rfl) ?_ rfl rfl; rintro _ _ ⟨b3, rfl, rfl⟩); (refine R_eff (E_alloca rfl at_zero) ?_ rfl rfl; rintro _ _ ⟨b6, rfl, rfl⟩); refine R_p rfl ?_ rfl rfl; refine R_p rfl ?_ rfl rfl; refine R_nil ?_; refine S_seq rfl ?_; refine S_block rfl ?_; refine S_seq rfl ?_; refine S_region rfl rfl ?_; refine R_take (T_loads (ds := lgc (i, t) A Q.length c) rfl rfl rfl rfl rfl) ?_ rfl rfl; ((refine R_eff (E_hv0 (f := 40) ⟨_, Try.func40, rfl, by kernel_rfl⟩ (fun w hS => right_any w (i, t) A c Q ((Srd.old h (fun k _ => noOwns k)).rd w hS) (by omega)) rfl rfl (fun _ => rfl)) ?_ rfl rfl; rintro _ _ ⟨_, rfl, _, rfl⟩); rw [hr]); refine R_take (T_not rfl) ?_ rfl rfl; refine R_p rfl ?_ rfl rfl; refine R_nil ?_; refine S_false rfl rfl ?_; refine S_seq rfl ?_; refine S_region rfl rfl ?_; refine R_p rfl ?_ rfl rfl; refine R_p rfl ?_ rfl rfl; refine R_p rfl ?_ rfl rfl; refine R_take (T_load rfl rfl rfl rfl) ?_ rfl rfl; refine R_take (T_decF rfl (by omega)) ?_ rfl rfl; refine R_p rfl ?_ rfl rfl; refine R_p rfl ?_ rfl rfl; refine R_take (T_loads (ds := lgc (i, t) A Q.length c) rfl rfl rfl rfl rfl) ?_ rfl rfl; ((refine R_eff (E_hv0 (f := 43) ⟨_, Try.func43, rfl, by kernel_rfl⟩ (fun w hS => last_any w (i, t) A c Q ((Srd.old h (fun k _ => noOwns k)).rd w hS) (by omega) hfit) rfl rfl (fun _ => rfl)) ?_ rfl rfl; rintro _ _ ⟨_, rfl, _, rfl⟩); rw [hla]); refine R_take (T_fldv (xs := atc (i + Q.length, lt)) rfl rfl rfl rfl rfl rfl) ?_ rfl rfl; refine R_take (T_addN rfl rfl (by unfold fits; omega)) ?_ rfl rfl; refine R_take (T_decT rfl (by omega)) ?_ rfl rfl; refine R_take (T_decT rfl (by omega)) ?_ rfl rfl; refine R_take (T_decT rfl (by omega)) ?_ rfl rfl; refine R_nil ?_; refine S_true rfl rfl ?_; refine S_seq rfl ?_; refine S_region rfl rfl ?_; refine R_take (T_build0 at_built0) ?_ rfl rfl; (refine R_eff0 (E_storew (cs := atc (0, 0)) (ds := atc (0, 0)) rfl rfl rfl rfl (atc_one _) rfl) ?_ rfl; rintro _ _ rfl); refine R_p rfl ?_ rfl rfl; refine R_p rfl ?_ rfl rfl; refine R_nil ?_)
    refine hB _ _ _ _ _ rfl (.cell rfl rfl rfl inferInstance rfl (.tmp rfl (.tmp rfl .nil))) fun w' hS => ⟨((none, 0), []), rfl, rfl, dtB_nil2 (hS.sublist (List.nil_sublist _))⟩
  rw [if_neg (fun e => Or.elim e h1 h2)] at hB
  by_cases h3 : n < 0
  · rw [if_pos h3] at hB
    focus (refine S_seq rfl ?_; refine S_region rfl rfl ?_; (refine R_eff (E_boxa (cs := lgc (i, t) A Q.length c) rfl) ?_ rfl rfl; rintro _ _ ⟨b3, rfl, rfl⟩); (refine R_eff (E_alloca rfl at_zero) ?_ rfl rfl; rintro _ _ ⟨b6, rfl, rfl⟩); refine R_p rfl ?_ rfl rfl; refine R_p rfl ?_ rfl rfl; refine R_nil ?_; refine S_seq rfl ?_; refine S_block rfl ?_; refine S_seq rfl ?_; refine S_region rfl rfl ?_; refine R_take (T_loads (ds := lgc (i, t) A Q.length c) rfl rfl rfl rfl rfl) ?_ rfl rfl; ((refine R_eff (E_hv0 (f := 40) ⟨_, Try.func40, rfl, by kernel_rfl⟩ (fun w hS => right_any w (i, t) A c Q ((Srd.old h (fun k _ => noOwns k)).rd w hS) (by omega)) rfl rfl (fun _ => rfl)) ?_ rfl rfl; rintro _ _ ⟨_, rfl, _, rfl⟩); rw [hr]); refine R_take (T_not rfl) ?_ rfl rfl; refine R_p rfl ?_ rfl rfl; refine R_nil ?_; refine S_false rfl rfl ?_; refine S_seq rfl ?_; refine S_region rfl rfl ?_; refine R_p rfl ?_ rfl rfl; refine R_p rfl ?_ rfl rfl; refine R_p rfl ?_ rfl rfl; refine R_take (T_load rfl rfl rfl rfl) ?_ rfl rfl; refine R_take (T_decF rfl (by omega)) ?_ rfl rfl; refine R_p rfl ?_ rfl rfl; refine R_p rfl ?_ rfl rfl; refine R_take (T_loads (ds := lgc (i, t) A Q.length c) rfl rfl rfl rfl rfl) ?_ rfl rfl; ((refine R_eff (E_hv0 (f := 43) ⟨_, Try.func43, rfl, by kernel_rfl⟩ (fun w hS => last_any w (i, t) A c Q ((Srd.old h (fun k _ => noOwns k)).rd w hS) (by omega) hfit) rfl rfl (fun _ => rfl)) ?_ rfl rfl; rintro _ _ ⟨_, rfl, _, rfl⟩); rw [hla]); refine R_take (T_fldv (xs := atc (i + Q.length, lt)) rfl rfl rfl rfl rfl rfl) ?_ rfl rfl; refine R_take (T_addN rfl rfl (by unfold fits; omega)) ?_ rfl rfl; refine R_take (T_decF rfl (by omega)) ?_ rfl rfl; refine R_p rfl ?_ rfl rfl; refine R_p rfl ?_ rfl rfl; refine R_nil ?_; refine S_false rfl rfl ?_; refine S_seq rfl ?_; refine S_region rfl rfl ?_; refine R_p rfl ?_ rfl rfl; refine R_take (T_decT rfl (by omega)) ?_ rfl rfl; refine R_take (T_decT rfl (by omega)) ?_ rfl rfl; refine R_nil ?_; refine S_true rfl rfl ?_; refine S_seq rfl ?_; refine S_region rfl rfl ?_; refine R_take (T_build0 at_built0) ?_ rfl rfl; (refine R_eff0 (E_storew (cs := atc (0, 0)) (ds := atc (0, 0)) rfl rfl rfl rfl (atc_one _) rfl) ?_ rfl; rintro _ _ rfl); refine R_p rfl ?_ rfl rfl; refine R_p rfl ?_ rfl rfl; refine R_nil ?_)
    refine hB _ _ _ _ _ rfl (.cell rfl rfl rfl inferInstance rfl (.tmp rfl (.tmp rfl .nil))) fun w' hS => ⟨((none, 0), []), rfl, rfl, dtB_nil2 (hS.sublist (List.nil_sublist _))⟩
  rw [if_neg h3] at hB
  obtain ⟨m, rfl⟩ : ∃ m : Nat, n = (m : Int) := ⟨n.toNat, by omega⟩
  rw [Int.toNat_natCast] at hB
  obtain ⟨k, hk0⟩ : ∃ k, idx - 1 - i = k := ⟨_, rfl⟩
  rw [hk0] at hB
  have hkl : k ≤ Q.length := by omega
  have hfi : findR (i, t) (Q.map emv) (idx - 1) = ((k : Int), placeN (i, t) l k) := by
    rw [hl]
    refine findR_hit (by omega) ?_
    rw [placeN_fst]
    show i + k = idx - 1
    omega
  obtain ⟨q, hq⟩ : ∃ q, placeN (i, t) l k = q := ⟨_, rfl⟩
  rw [hq] at hfi hB
  have hcutr := rd_takeE (rd_cutE (q := k) h hkl hc) (Nat.min_le_right m (Q.length - k))
  have hcutd : RDt w All (((Q.drop k).take (min m (Q.length - k))).map emd) := fun d hd' => rdt_drop hd k d (by
    obtain ⟨e, he, rfl⟩ := List.mem_map.1 hd'
    exact List.mem_map.2 ⟨e, List.mem_of_mem_take he, rfl⟩)
  have hkd : ∀ e ∈ (Q.drop k).take (min m (Q.length - k)), e.2.2.2.2.length ≤ 100000 := fun e he => hk e (List.mem_of_mem_drop (List.mem_of_mem_take he))
  have hml : ((Q.drop k).take (min m (Q.length - k))).length = min m (Q.length - k) := by rw [List.length_take, List.length_drop]; omega
  have hml2 : ((l.drop k).take (min m (l.length - k))).length = min m (Q.length - k) := by rw [List.length_take, List.length_drop, hll]; omega
  focus (refine S_seq rfl ?_; refine S_region rfl rfl ?_; (refine R_eff (E_boxa (cs := lgc (i, t) A Q.length c) rfl) ?_ rfl rfl; rintro _ _ ⟨b3, rfl, rfl⟩); (refine R_eff (E_alloca rfl at_zero) ?_ rfl rfl; rintro _ _ ⟨b6, rfl, rfl⟩); refine R_p rfl ?_ rfl rfl; refine R_p rfl ?_ rfl rfl; refine R_nil ?_; refine S_seq rfl ?_; refine S_block rfl ?_; refine S_seq rfl ?_; refine S_region rfl rfl ?_; refine R_take (T_loads (ds := lgc (i, t) A Q.length c) rfl rfl rfl rfl rfl) ?_ rfl rfl; ((refine R_eff (E_hv0 (f := 40) ⟨_, Try.func40, rfl, by kernel_rfl⟩ (fun w hS => right_any w (i, t) A c Q ((Srd.old h (fun k _ => noOwns k)).rd w hS) (by omega)) rfl rfl (fun _ => rfl)) ?_ rfl rfl; rintro _ _ ⟨_, rfl, _, rfl⟩); rw [hr]); refine R_take (T_not rfl) ?_ rfl rfl; refine R_take (T_decF rfl (by omega)) ?_ rfl rfl; refine R_nil ?_; refine S_false rfl rfl ?_; refine S_seq rfl ?_; refine S_region rfl rfl ?_; refine R_p rfl ?_ rfl rfl; refine R_p rfl ?_ rfl rfl; refine R_p rfl ?_ rfl rfl; refine R_take (T_load rfl rfl rfl rfl) ?_ rfl rfl; refine R_take (T_decF rfl (by omega)) ?_ rfl rfl; refine R_take (T_decF rfl (by omega)) ?_ rfl rfl; refine R_p rfl ?_ rfl rfl; refine R_take (T_loads (ds := lgc (i, t) A Q.length c) rfl rfl rfl rfl rfl) ?_ rfl rfl; ((refine R_eff (E_hv0 (f := 43) ⟨_, Try.func43, rfl, by kernel_rfl⟩ (fun w hS => last_any w (i, t) A c Q ((Srd.old h (fun k _ => noOwns k)).rd w hS) (by omega) hfit) rfl rfl (fun _ => rfl)) ?_ rfl rfl; rintro _ _ ⟨_, rfl, _, rfl⟩); rw [hla]); refine R_take (T_fldv (xs := atc (i + Q.length, lt)) rfl rfl rfl rfl rfl rfl) ?_ rfl rfl; refine R_take (T_addN rfl rfl (by unfold fits; omega)) ?_ rfl rfl; refine R_take (T_decF rfl (by omega)) ?_ rfl rfl; refine R_take (T_decF rfl (by omega)) ?_ rfl rfl; refine R_take (T_decF rfl (by omega)) ?_ rfl rfl; refine R_nil ?_; refine S_false rfl rfl ?_; refine S_seq rfl ?_; refine S_region rfl rfl ?_; refine R_p rfl ?_ rfl rfl; refine R_take (T_decF rfl (by omega)) ?_ rfl rfl; refine R_take (T_decF rfl (by omega)) ?_ rfl rfl; refine R_nil ?_; refine S_false rfl rfl ?_; refine S_skip rfl ?_; refine RS_blk ?_; refine S_seq rfl ?_; refine S_region rfl rfl ?_; refine R_take (T_loads (ds := lgc (i, t) A Q.length c) rfl rfl rfl rfl rfl) ?_ rfl rfl; refine R_p rfl ?_ rfl rfl; refine R_take (T_subN rfl rfl (by omega) (by unfold fits; omega)) ?_ rfl rfl; ((refine R_eff (E_hv0 (f := 51) ⟨_, Try.func51, rfl, by kernel_rfl⟩ (fun w hS => find_any w (i, t) A c Q ((Srd.old h (fun k _ => noOwns k)).rd w hS) (by omega) hfit (idx - 1)) rfl rfl (fun _ => rfl)) ?_ rfl rfl; rintro _ _ ⟨_, rfl, _, rfl⟩); rw [hfi]); refine R_p rfl ?_ rfl rfl; refine R_p rfl ?_ rfl rfl; refine R_p rfl ?_ rfl rfl; (refine R_eff (E_alloca rfl at_zero) ?_ rfl rfl; rintro _ _ ⟨b6, rfl, rfl⟩); refine R_p rfl ?_ rfl rfl; (refine R_eff0 (E_storew (cs := atc (0, 0)) (ds := atc q) rfl rfl rfl rfl (atc_one _) rfl) ?_ rfl; rintro _ _ rfl); refine R_nil ?_; refine S_seq rfl ?_; refine S_region rfl rfl ?_; refine R_p rfl ?_ rfl rfl; refine R_take (T_load rfl rfl rfl rfl) ?_ rfl rfl; refine R_p rfl ?_ rfl rfl; refine R_take (T_slN (sz := 3) (q := k) rfl rfl rfl rfl rfl rfl hkl hc) ?_ rfl rfl; refine R_p rfl ?_ rfl rfl; refine R_nil ?_; refine S_seq rfl ?_)
  refine S_draw ([pt b6 24 (atc q)]) sub_st (by kernel_rfl) rfl (by kernel_rfl) (by kernel_rfl : _ = 11) ?_
  refine D_take 0 rfl (T_loads (ds := atc q) rfl rfl rfl rfl rfl) ?_ rfl rfl (by kernel_rfl) (by kernel_rfl)
  refine D_take 1 rfl (pev_ok rfl) ?_ rfl rfl (by kernel_rfl) (by kernel_rfl)
  refine D_take 2 rfl (pev_ok rfl) ?_ rfl rfl (by kernel_rfl) (by kernel_rfl)
  refine D_take 3 rfl (pev_ok rfl) ?_ rfl rfl (by kernel_rfl) (by kernel_rfl)
  refine D_take 4 rfl (pev_ok rfl) ?_ rfl rfl (by kernel_rfl) (by kernel_rfl)
  refine D_take 5 rfl (T_minN rfl rfl) ?_ rfl rfl (by kernel_rfl) (by kernel_rfl)
  refine D_take 6 rfl (T_slhN (q := min m (Q.length - k)) rfl rfl rfl rfl rfl (by omega)) ?_ rfl rfl (by kernel_rfl) (by kernel_rfl)
  refine D_one 7 rfl (E_cpW (Q := (Q.drop k).take (min m (Q.length - k))) (k := min m (Q.length - k)) rfl hml (Srd.old hcutr (fun k _ => noOwns k)) (SDt.old hcutd (fun k _ => noOwns k)) (by omega) hkd) ?_ rfl rfl (by kernel_rfl)
  rintro _ _ ⟨A7, c7, E7, rfl, hne7, hc7, rfl⟩
  refine Nx_same sub_st ?_
  refine D_one 8 rfl (E_storew (cs := atc (0, 0)) (ds := atc q) rfl rfl rfl rfl (atc_one _) rfl) ?_ rfl rfl (by kernel_rfl)
  rintro _ _ rfl
  refine Nx_same sub_st ?_
  refine D_take 9 rfl (pev_ok rfl) ?_ rfl rfl (by kernel_rfl) (by kernel_rfl)
  refine D_take 10 rfl (pev_ok rfl) ?_ rfl rfl (by kernel_rfl) (by kernel_rfl)
  refine D_done ?_ (by kernel_rfl)
  skip
  skip
  dsimp only at hB
  rw [hml2] at hB
  refine hB _ _ _ _ _ rfl (.cell rfl rfl rfl inferInstance rfl (.tmp rfl (.tmp rfl .nil))) fun w' hS => ⟨((A7, c7), E7.1), rfl, ?_, sub_st _ hS⟩
  show E7.1.map emv = _
  rw [E7.2, List.map_take, List.map_drop, hl, hll]
end Go.Proofs.Ytkdpfnaaopimoaa
