/- The statement LogCuts. -/
import Derived.Test.YtkdpfnaaopimoaaLgE
namespace Go.Proofs.Ytkdpfnaaopimoaa
open Go.RowKit Go.ChangeShapes Go.WideShapes Go.ChangeAt
open Asn (pt row rb)
set_option linter.unusedVariables false
set_option linter.unusedSimpArgs false
--@use N

theorem Gives.pure12 {P : Program} {f : FuncId} {vs : List Value} {w : World} {v : Value} {I : Unit → Prop} {A : Unit → List Asn} (h : Gives P f vs [] w (fun _ => v) I A) : Calls P f vs.toArray w fun e w' => e = .returned v ∧ Kp All w w' :=
  h.mono fun e w' ⟨_, he, _, hS⟩ => ⟨he, hS.kpO⟩
theorem compact_k (w : World) (a : At) (A : Option Addr) (c k : Nat) (Q : List Em) (l : List En) (hk : Q.length = k) (hl : Q.map emv = l) (h : Rd w All 3 A k (cellsL emc Q)) (hd : RDt w All (Q.map emd)) (hc : k ≤ c) (hn : k ≤ 1000) (hkk : ∀ m ∈ Q, m.2.2.2.2.length ≤ 100000) (idx : Nat) (e : Int) (b : At) (r : List En) (hr : cmp a l idx = (e, b, r)) :
    Gives Try.prog 21 [.agg (lgc a A k c).toArray, .int .u64 (idx : Int)] [] w (X := (Option Addr × Nat) × List Em) (fun x => .tuple #[.agg (lgc b x.1.1 r.length x.1.2).toArray, zi e]) (fun x => x.2.map emv = r ∧ r.length ≤ x.1.2) (fun x => [row 44 3 x.1.1 r.length x.1.2 (cellsL emc x.2), dtB 5 (x.2.map emd)]) := by
  subst hk
  subst hl
  have := compact_any w a A c Q h hd hc hn hkk idx
  rw [hr] at this
  exact this
theorem term_k (w : World) (a : At) (A : Option Addr) (c k : Nat) (Q : List Em) (l : List En) (hk : Q.length = k) (hl : Q.map emv = l) (h : Rd w All 3 A k (cellsL emc Q)) (hn : k ≤ 1000) (idx : Nat) (r : Nat × Bool) (hr : termR a l idx = r) :
    Gives Try.prog 25 [.agg (lgc a A k c).toArray, .int .u64 (idx : Int)] [] w (X := Unit) (fun _ => .tuple #[.int .u64 (r.1 : Int), .bool r.2]) (fun _ => True) (fun _ => []) := by
  subst hk
  subst hl
  subst hr
  exact term_any w a A c Q h hn idx
theorem check_k (w : World) (a : At) (A : Option Addr) (c k : Nat) (Q : List Em) (l : List En) (hk : Q.length = k) (hl : Q.map emv = l) (h : Rd w All 3 A k (cellsL emc Q)) (hn : k ≤ 1000) (top : Nat) (r : Int) (hr : chkE a l top = r) :
    Gives Try.prog 23 [.agg (lgc a A k c).toArray, .int .u64 (top : Int)] [] w (X := Unit) (fun _ => zi r) (fun _ => True) (fun _ => []) := by
  subst hk
  subst hl
  subst hr
  exact checkL_any w a A c Q h hn top
theorem E_hvG {P : Program} {n : Nat} {w0 : World} {M : Nat → Prop} {T : Slots} {H : List Asn} {dd : Option Tmp} {tt : TypeId} {pos : String} {af : Array Edge} {g : Option (Nat × Bool)} {ts : Array TypeId} {f : FuncId} {xs : Array Operand} {vs vs' : List Value} {X : Type} {V : X → Value} {I : X → Prop} {A : X → List Asn} (hf : Fn_ P f) (hc : ∀ w, St w0 M H w → Gives P f vs' [] w V I A) (hx : ogets T xs.toList = some vs) (hv : vs = vs') :
    Ef P n w0 M T H ⟨dd, .call ⟨.value (.func f), xs, ts⟩, tt, pos, af, g⟩ (fun u H' => ∃ x, u = V x ∧ I x ∧ H' = A x ++ H) := by
  subst hv
  exact E_gv hf hx hc
/-- one entry told -/
theorem from_one (w : World) (a : At) (A : Option Addr) (c k : Nat) (Q : List Em) (l : List En) (hk : Q.length = k) (hl : Q.map emv = l) (h : Rd w All 3 A k (cellsL emc Q)) (hd : RDt w All (Q.map emd)) (hc : k ≤ c) (hn : k ≤ 1000) (hkk : ∀ m ∈ Q, m.2.2.2.2.length ≤ 100000) (idx : Nat) (hi : idx ≤ 18446744073709551615) (p : At) (e : En) (hr : frm a l idx 1 = (0, p, [e])) :
    Gives Try.prog 26 [.agg (lgc a A k c).toArray, .int .u64 (idx : Int), .int .i64 1] [] w (X := (Option Addr × Nat) × (Option Addr × Nat)) (fun x => .tuple #[.agg (atc p).toArray, .slice x.1.1 1 x.1.2, zi 0]) (fun x => x.1.1 ≠ none) (fun x => [row 44 3 x.1.1 1 x.1.2 [.int .u64 (e.1 : Int), .int .i64 e.2.1, .slice x.2.1 e.2.2.length x.2.2], row 5 1 x.2.1 e.2.2.length x.2.2 (e.2.2.map bv)]) := by
  subst hk
  subst hl
  have h1 := from_any w a A c Q h hd hc hn hkk idx hi 1
  rw [hr] at h1
  refine h1.mono fun en w' ⟨⟨⟨A8, c8⟩, E8⟩, he, hE, hS⟩ => ?_
  have hE : E8.map emv = [e] := hE
  obtain ⟨m, rfl⟩ : ∃ m, E8 = [m] := by
    match E8, hE with
    | [m], _ => exact ⟨m, rfl⟩
  obtain ⟨t, kk, D, cd, bs⟩ := m
  have hE : [((t, kk, bs) : En)] = [e] := hE
  injection hE with hE
  subst hE
  have hf := row_facts (hS.at_ (A := row 44 3 A8 1 c8 (cellsL emc [(t, kk, D, cd, bs)])) (by simp))
  refine ⟨((A8, c8), (D, cd)), he, hf.2.2.1 (by omega), ?_⟩
  have h2 := bun_out (L := [dtA 5 (D, cd, bs)]) (H := [row 44 3 A8 1 c8 (cellsL emc [(t, kk, D, cd, bs)])]) (hS.perm (List.Perm.swap _ _ _))
  exact h2.perm (List.Perm.swap _ _ _)
theorem cmp_cases (a : At) (l : List En) (idx : Nat) : (∃ e : Int, e ≠ 0 ∧ cmp a l idx = (e, (0, 0), [])) ∨ ∃ k, k ≤ l.length ∧ a.1 + k = idx ∧ rightB a l = true ∧ cmp a l idx = (0, placeN a l k, l.drop k) := by
  unfold cmp
  by_cases hr : rightB a l = true
  · rw [if_pos hr]
    rcases findR_cases a l idx with ⟨n, hf, hn, hi⟩ | ⟨hf, _⟩
    · rw [hf, if_neg (by show ¬ ((n : Int) < 0); omega)]
      exact .inr ⟨n, hn, hi, hr, rfl⟩
    · rw [hf, if_pos (by decide)]
      exact .inl ⟨4, by decide, rfl⟩
  · rw [if_neg hr]
    exact .inl ⟨220, by decide, rfl⟩
theorem lastT_lt (l : List En) (t N : Nat) (ht : t < N) (h : ∀ e ∈ l, e.1 < N) : lastT l t < N := by
  unfold lastT
  cases hl : l.getLast? with
  | none => exact ht
  | some e => exact h e (List.mem_of_getLast? hl)
set_option maxRecDepth 100000 in
set_option maxHeartbeats 4000000 in
theorem cuts_any (w : World) (a : At) (A : Option Addr) (c : Nat) (Q : List Em) (h : Rd w All 3 A Q.length (cellsL emc Q)) (hd : RDt w All (Q.map emd)) (hq : ∀ m ∈ Q, m.2.2.2.2.length ≤ m.2.2.2.1 ∧ m.1 < 18446744073709551616) (ha2 : a.2 < 18446744073709551616) (idx : Nat) (hidx : idx < 18446744073709551616) :
    Gives Try.prog 5 [.agg (lgc a A Q.length c).toArray, .int .u64 (idx : Int)] [] w (X := Unit) (fun _ => .bool true) (fun _ => True) (fun _ => []) := by
  refine gives_S Try.func5 rfl Try.ntmps5 Try.results5 (by simp) (St.enter w) (fun B hB => ?_)
  have hcap : ∀ m ∈ Q, m.2.2.2.2.length ≤ m.2.2.2.1 := fun m hm => (hq m hm).1
  have hLl := cutE_len (Q.map emv) 17
  have hLt := fun e he => Nat.le_trans (cutE_txt (Q.map emv) 17 e he) (by omega : 1025 ≤ 100000)
  have hLu : ∀ e ∈ cutE (Q.map emv) 17, e.1 < 18446744073709551616 := fun e he => by
    obtain ⟨x, hx, rfl⟩ := List.mem_map.1 he
    obtain ⟨m, hm, rfl⟩ := List.mem_map.1 (List.mem_of_mem_take hx)
    exact (hq m hm).2
  obtain ⟨L, hL⟩ : ∃ L, cutE (Q.map emv) 17 = L := ⟨_, rfl⟩
  rw [hL] at hLl hLt hLu
  obtain ⟨K, hK⟩ : ∃ K, L.length = K := ⟨_, rfl⟩
  rcases cmp_cases a L idx with ⟨e, he, hcmp⟩ | ⟨k, hk, hki, hr, hcmp⟩
  · skip
    focus (refine S_seq rfl ?_; refine S_region rfl rfl ?_; (refine R_eff (E_boxa (cs := lgc a A Q.length c) rfl) ?_ rfl rfl; rintro _ _ ⟨b2, rfl, rfl⟩); refine R_p rfl ?_ rfl rfl; refine R_nil ?_; refine S_seq rfl ?_; refine S_seq rfl ?_; refine S_region rfl rfl ?_; (refine R_eff (E_hv0 (f := 10) ⟨_, Try.func10, rfl, by kernel_rfl⟩ (fun w hS => wakes12_any w) rfl rfl (fun _ => rfl)) ?_ rfl rfl; rintro _ _ ⟨_, rfl, _, rfl⟩); refine R_take (T_not rfl) ?_ rfl rfl; refine R_nil ?_; refine S_false rfl rfl ?_; refine S_skip rfl ?_; refine S_seq rfl ?_; refine S_region rfl rfl ?_; refine R_take (T_loads (ds := lgc a A Q.length c) rfl rfl rfl rfl rfl) ?_ rfl rfl; (refine R_eff (E_gv ⟨_, Try.func11, rfl, by kernel_rfl⟩ rfl (fun w hS => short_any w a A c Q ((Srd.old h (fun k _ => noOwns k)).rd w hS) ((SDt.old hd (fun k _ => noOwns k)).rd w hS) hcap)) ?_ rfl rfl; rintro _ _ ⟨⟨⟨A5, c5⟩, P⟩, rfl, hP, rfl⟩; dsimp only [List.cons_append, List.nil_append] at hP ⊢; rw [hL] at hP ⊢; rw [hK] at hP ⊢; obtain ⟨hP, hc5, _⟩ := hP; have hPk := em_txt (N := 100000) hP hLt; have hPl := (em_len hP).trans hK); (refine R_eff0 (E_storew (cs := lgc a A Q.length c) (ds := lgc a A5 K c5) rfl rfl rfl rfl (lgc_one _ _ _ _) rfl) ?_ rfl; rintro _ _ rfl); refine R_nil ?_; refine S_seq rfl ?_; refine S_region rfl rfl ?_; refine R_take (T_loads (ds := lgc a A5 K c5) rfl rfl rfl rfl rfl) ?_ rfl rfl; refine R_p rfl ?_ rfl rfl; (refine R_eff (E_gv ⟨_, Try.func21, rfl, by kernel_rfl⟩ rfl (fun w hS => compact_k w a A5 c5 K P L hPl hP ((Srd.row (A := A5) (n := K) (c := c5)).rd w hS) ((SDt.own (e := 5) (D := (P).map emd) (by simp)).rd w hS) hc5 (by omega) hPk idx e (0, 0) [] hcmp)) ?_ rfl rfl; rintro _ _ ⟨⟨⟨A7, c7⟩, E7⟩, rfl, ⟨hE7, hc7⟩, rfl⟩; dsimp only [List.cons_append, List.nil_append] at hE7 hc7 ⊢; skip; have hEl := em_len hE7); refine R_p rfl ?_ rfl rfl; refine R_p rfl ?_ rfl rfl; refine R_p rfl ?_ rfl rfl; (refine R_eff (E_alloca rfl lg_zero) ?_ rfl rfl; rintro _ _ ⟨b5, rfl, rfl⟩); (refine R_eff0 (E_storew (cs := lgc (0, 0) none 0 0) (ds := lgc (0, 0) A7 0 c7) rfl rfl rfl rfl (lgc_one _ _ _ _) rfl) ?_ rfl; rintro _ _ rfl); refine R_p rfl ?_ rfl rfl; refine R_nil ?_; refine S_seq rfl ?_; refine S_seq rfl ?_; refine S_region rfl rfl ?_; refine R_p rfl ?_ rfl rfl; refine R_take (T_decT rfl (by first | omega | decide)) ?_ rfl rfl; refine R_nil ?_; refine S_true rfl rfl ?_; refine S_seq rfl ?_; refine S_region rfl rfl ?_; refine R_p rfl ?_ rfl rfl; refine R_take (T_load rfl rfl rfl rfl) ?_ rfl rfl; refine R_p rfl ?_ rfl rfl; refine R_take (T_decT rfl (by first | omega | decide)) ?_ rfl rfl; refine R_p rfl ?_ rfl rfl; refine R_nil ?_)
    exact hB _ _ _ _ _ rfl rfl fun w' hS => ⟨(), rfl, trivial, hS.sublist (List.nil_sublist _)⟩
  have hdl : (L.drop k).length = L.length - k := List.length_drop
  have hrn := cut_right hr hk
  have hlan := cut_last (a := a) hk
  have hll : (lastA a L).2 < 18446744073709551616 := lastT_lt L a.2 _ ha2 hLu
  have hchk := cut_chk hr hk hll
  have hla1 : (lastA a L).1 = a.1 + L.length := rfl
  have hfit := (right_fits hr).2
  have hct := fun m h1 h2 => cut_term (m := m) hr hk h1 h2
  have hcf := fun m h1 h2 => cut_from (m := m) hr hk h1 h2
  have hca := fun h0 => cut_ahead hr hk h0
  have hpf := placeN_fst a L k
  obtain ⟨la, hla⟩ : ∃ x, lastA a L = x := ⟨_, rfl⟩
  rw [hla] at hlan hla1
  obtain ⟨R, hR⟩ : ∃ R, L.drop k = R := ⟨_, rfl⟩
  obtain ⟨b, hb⟩ : ∃ b, placeN a L k = b := ⟨_, rfl⟩
  rw [hR, hK] at hdl
  rw [hb, hR] at hrn hlan hchk hct hcf hca hcmp
  rw [hb] at hpf
  rw [hK] at hla1 hfit hct hcf hk
  obtain ⟨K7, hK7⟩ : ∃ K7, R.length = K7 := ⟨_, rfl⟩
  rw [hK7] at hdl
  obtain ⟨lai, lau⟩ := la
  have hla1 : lai = a.1 + K := hla1
  have hed : decide ((lai, lau) = ((lai, lau) : At)) = true := decide_eq_true rfl
  focus (refine S_seq rfl ?_; refine S_region rfl rfl ?_; (refine R_eff (E_boxa (cs := lgc a A Q.length c) rfl) ?_ rfl rfl; rintro _ _ ⟨b2, rfl, rfl⟩); refine R_p rfl ?_ rfl rfl; refine R_nil ?_; refine S_seq rfl ?_; refine S_seq rfl ?_; refine S_region rfl rfl ?_; (refine R_eff (E_hv0 (f := 10) ⟨_, Try.func10, rfl, by kernel_rfl⟩ (fun w hS => wakes12_any w) rfl rfl (fun _ => rfl)) ?_ rfl rfl; rintro _ _ ⟨_, rfl, _, rfl⟩); refine R_take (T_not rfl) ?_ rfl rfl; refine R_nil ?_; refine S_false rfl rfl ?_; refine S_skip rfl ?_; refine S_seq rfl ?_; refine S_region rfl rfl ?_; refine R_take (T_loads (ds := lgc a A Q.length c) rfl rfl rfl rfl rfl) ?_ rfl rfl; (refine R_eff (E_gv ⟨_, Try.func11, rfl, by kernel_rfl⟩ rfl (fun w hS => short_any w a A c Q ((Srd.old h (fun k _ => noOwns k)).rd w hS) ((SDt.old hd (fun k _ => noOwns k)).rd w hS) hcap)) ?_ rfl rfl; rintro _ _ ⟨⟨⟨A5, c5⟩, P⟩, rfl, hP, rfl⟩; dsimp only [List.cons_append, List.nil_append] at hP ⊢; rw [hL] at hP ⊢; rw [hK] at hP ⊢; obtain ⟨hP, hc5, _⟩ := hP; have hPk := em_txt (N := 100000) hP hLt; have hPl := (em_len hP).trans hK); (refine R_eff0 (E_storew (cs := lgc a A Q.length c) (ds := lgc a A5 K c5) rfl rfl rfl rfl (lgc_one _ _ _ _) rfl) ?_ rfl; rintro _ _ rfl); refine R_nil ?_; refine S_seq rfl ?_; refine S_region rfl rfl ?_; refine R_take (T_loads (ds := lgc a A5 K c5) rfl rfl rfl rfl rfl) ?_ rfl rfl; refine R_p rfl ?_ rfl rfl; (refine R_eff (E_gv ⟨_, Try.func21, rfl, by kernel_rfl⟩ rfl (fun w hS => compact_k w a A5 c5 K P L hPl hP ((Srd.row (A := A5) (n := K) (c := c5)).rd w hS) ((SDt.own (e := 5) (D := (P).map emd) (by simp)).rd w hS) hc5 (by omega) hPk idx 0 b R hcmp)) ?_ rfl rfl; rintro _ _ ⟨⟨⟨A7, c7⟩, E7⟩, rfl, ⟨hE7, hc7⟩, rfl⟩; dsimp only [List.cons_append, List.nil_append] at hE7 hc7 ⊢; rw [hK7] at hc7 ⊢; have hEl := (em_len hE7).trans hK7); refine R_p rfl ?_ rfl rfl; refine R_p rfl ?_ rfl rfl; refine R_p rfl ?_ rfl rfl; (refine R_eff (E_alloca rfl lg_zero) ?_ rfl rfl; rintro _ _ ⟨b5, rfl, rfl⟩); (refine R_eff0 (E_storew (cs := lgc (0, 0) none 0 0) (ds := lgc b A7 K7 c7) rfl rfl rfl rfl (lgc_one _ _ _ _) rfl) ?_ rfl; rintro _ _ rfl); refine R_p rfl ?_ rfl rfl; refine R_nil ?_; refine S_seq rfl ?_; refine S_seq rfl ?_; refine S_region rfl rfl ?_; refine R_p rfl ?_ rfl rfl; refine R_take (T_decF rfl (by first | omega | decide)) ?_ rfl rfl; refine R_nil ?_; refine S_false rfl rfl ?_; refine S_skip rfl ?_; refine S_seq rfl ?_; refine S_seq rfl ?_)
  have hEk := em_txt (N := 100000) hE7 fun e he => hLt e (by rw [← hR] at he; exact List.mem_of_mem_drop he)
  refine S_draw ([pt b5 27 (lgc b A7 K7 c7), pt b2 27 (lgc a A5 K c5)]) sub_st (by kernel_rfl) rfl (by kernel_rfl) (by kernel_rfl : _ = 17) ?_
  refine D_take 0 rfl (T_loads (ds := lgc b A7 K7 c7) rfl rfl rfl rfl rfl) ?_ rfl rfl (by kernel_rfl) (by kernel_rfl)
  refine D_one 1 rfl (E_hv0 (f := 23) ⟨_, Try.func23, rfl, by kernel_rfl⟩ (fun w hS => check_k w b A7 c7 K7 E7 R hEl hE7 ((Srd.row (A := A7) (n := K7) (c := c7)).rd w hS) (by omega) 18446744073709551615 0 hchk) rfl rfl (fun _ => rfl)) ?_ rfl rfl (by kernel_rfl)
  rintro _ _ ⟨_, rfl, _, rfl⟩
  refine Nx_same sub_st ?_
  refine D_take 2 rfl (T_decF rfl (by first | omega | decide)) ?_ rfl rfl (by kernel_rfl) (by kernel_rfl)
  refine D_take 3 rfl (pev_ok rfl) ?_ rfl rfl (by kernel_rfl) (by kernel_rfl)
  refine D_take 4 rfl (pev_ok rfl) ?_ rfl rfl (by kernel_rfl) (by kernel_rfl)
  refine D_take 5 rfl (pev_ok rfl) ?_ rfl rfl (by kernel_rfl) (by kernel_rfl)
  refine D_take 6 rfl (T_load rfl rfl rfl rfl) ?_ rfl rfl (by kernel_rfl) (by kernel_rfl)
  refine D_take 7 rfl (pev_ok rfl) ?_ rfl rfl (by kernel_rfl) (by kernel_rfl)
  refine D_take 8 rfl (T_decF rfl (by first | omega | decide)) ?_ rfl rfl (by kernel_rfl) (by kernel_rfl)
  refine D_take 9 rfl (pev_ok rfl) ?_ rfl rfl (by kernel_rfl) (by kernel_rfl)
  refine D_take 10 rfl (pev_ok rfl) ?_ rfl rfl (by kernel_rfl) (by kernel_rfl)
  refine D_take 11 rfl (T_loads (ds := lgc b A7 K7 c7) rfl rfl rfl rfl rfl) ?_ rfl rfl (by kernel_rfl) (by kernel_rfl)
  refine D_take 13 rfl (T_loads (ds := lgc a A5 K c5) rfl rfl rfl rfl rfl) ?_ rfl rfl (by kernel_rfl) (by kernel_rfl)
  refine D_one 12 rfl (E_hv0 (f := 24) ⟨_, Try.func24, rfl, by kernel_rfl⟩ (fun w hS => lastF_k w b A7 c7 K7 E7 R (lai, lau) hEl hE7 hrn hlan ((Srd.row (A := A7) (n := K7) (c := c7)).rd w hS) (by omega)) rfl rfl (fun _ => rfl)) ?_ rfl rfl (by kernel_rfl)
  rintro _ _ ⟨_, rfl, _, rfl⟩
  refine Nx_same sub_st ?_
  refine D_one 14 rfl (E_hv0 (f := 24) ⟨_, Try.func24, rfl, by kernel_rfl⟩ (fun w hS => lastF_k w a A5 c5 K P L (lai, lau) hPl hP hr hla ((Srd.row (A := A5) (n := K) (c := c5)).rd w hS) (by omega)) rfl rfl (fun _ => rfl)) ?_ rfl rfl (by kernel_rfl)
  rintro _ _ ⟨_, rfl, _, rfl⟩
  refine Nx_same sub_st ?_
  refine D_take 15 rfl (T_neAt (a := (lai, lau)) (b := (lai, lau)) rfl rfl hed) ?_ rfl rfl (by kernel_rfl) (by kernel_rfl)
  refine D_take 16 rfl (pev_ok rfl) ?_ rfl rfl (by kernel_rfl) (by kernel_rfl)
  refine D_done ?_ (by kernel_rfl)
  skip
  focus (refine S_false rfl rfl ?_; refine S_skip rfl ?_; refine S_seq rfl ?_; refine S_seq rfl ?_; refine S_region rfl rfl ?_; refine R_p rfl ?_ rfl rfl; refine R_p rfl ?_ rfl rfl; refine R_nil ?_; refine S_block rfl ?_)
  refine S_loop (X := Nat) (fun m => [(1, .int .u64 (idx : Int)), (2, .pointer (some ⟨b2, 0, none⟩)), (5, .pointer (some ⟨b5, 0, none⟩)), (7, .int .u64 (m : Int))]) (fun _ => [pt b5 27 (lgc b A7 K7 c7), row 44 3 A7 K7 c7 (cellsL emc E7), dtB 5 (E7.map emd), pt b2 27 (lgc a A5 K c5), row 44 3 A5 K c5 (cellsL emc P), dtB 5 (P.map emd)]) (fun m => idx ≤ m ∧ m ≤ lai + 1) (fun m => lai + 1 - m) rfl idx ⟨Nat.le_refl _, by omega⟩ (Sub.cons rfl (Sub.cons rfl (Sub.cons rfl (Sub.cons rfl Sub.nil)))) sub_st ?_
  rintro m ⟨hm1, hm2⟩ J hJ
  by_cases hml : m ≤ lai
  · obtain ⟨t, ht1, ht2⟩ := hct m (by omega) (by omega)
    by_cases hmi : m = idx
    · skip
      focus (refine S_seq rfl ?_; refine S_seq rfl ?_; refine S_region rfl rfl ?_; refine R_p rfl ?_ rfl rfl; refine R_take (T_loads (ds := lgc a A5 K c5) rfl rfl rfl rfl rfl) ?_ rfl rfl; (refine R_eff (E_hv0 (f := 24) ⟨_, Try.func24, rfl, by kernel_rfl⟩ (fun w hS => lastF_k w a A5 c5 K P L (lai, lau) hPl hP hr hla ((Srd.row (A := A5) (n := K) (c := c5)).rd w hS) (by omega)) rfl rfl (fun _ => rfl)) ?_ rfl rfl; rintro _ _ ⟨_, rfl, _, rfl⟩); refine R_take (T_fldv (xs := atc (lai, lau)) rfl rfl rfl rfl rfl rfl) ?_ rfl rfl; refine R_take (T_decT rfl (by omega)) ?_ rfl rfl; refine R_nil ?_; refine S_true rfl rfl ?_; refine S_skip rfl ?_; refine S_seq rfl ?_; refine S_block rfl ?_; refine S_seq rfl ?_; refine S_region rfl rfl ?_; refine R_take (T_loads (ds := lgc a A5 K c5) rfl rfl rfl rfl rfl) ?_ rfl rfl; refine R_p rfl ?_ rfl rfl; ((refine R_eff (E_hv0 (f := 25) ⟨_, Try.func25, rfl, by kernel_rfl⟩ (fun w hS => term_k w a A5 c5 K P L hPl hP ((Srd.row (A := A5) (n := K) (c := c5)).rd w hS) (by omega) m (t, true) ht1) rfl rfl (fun _ => rfl)) ?_ rfl rfl; rintro _ _ ⟨_, rfl, _, rfl⟩)); refine R_p rfl ?_ rfl rfl; refine R_p rfl ?_ rfl rfl; refine R_take (T_decT rfl (by omega)) ?_ rfl rfl; refine R_p rfl ?_ rfl rfl; refine R_take (T_decT rfl (by omega)) ?_ rfl rfl; refine R_nil ?_; refine S_seq rfl ?_; refine S_region rfl rfl ?_; refine R_take (T_loads (ds := lgc b A7 K7 c7) rfl rfl rfl rfl rfl) ?_ rfl rfl; refine R_p rfl ?_ rfl rfl; ((refine R_eff (E_hv0 (f := 25) ⟨_, Try.func25, rfl, by kernel_rfl⟩ (fun w hS => term_k w b A7 c7 K7 E7 R hEl hE7 ((Srd.row (A := A7) (n := K7) (c := c7)).rd w hS) (by omega) m (t, true) ht2) rfl rfl (fun _ => rfl)) ?_ rfl rfl; rintro _ _ ⟨_, rfl, _, rfl⟩)); refine R_p rfl ?_ rfl rfl; refine R_p rfl ?_ rfl rfl; refine R_take (T_decT rfl (by omega)) ?_ rfl rfl; refine R_p rfl ?_ rfl rfl; refine R_take (T_decT rfl (by omega)) ?_ rfl rfl; refine R_nil ?_; refine S_seq rfl ?_; refine S_seq rfl ?_; refine S_region rfl rfl ?_; refine R_p rfl ?_ rfl rfl; refine R_p rfl ?_ rfl rfl; refine R_take (T_decF rfl (by omega)) ?_ rfl rfl; refine R_p rfl ?_ rfl rfl; refine R_take (T_decT rfl (by omega)) ?_ rfl rfl; refine R_take (T_not rfl) ?_ rfl rfl; refine R_p rfl ?_ rfl rfl; refine R_p rfl ?_ rfl rfl; refine R_take (T_decT rfl (by omega)) ?_ rfl rfl; refine R_take (T_not rfl) ?_ rfl rfl; refine R_p rfl ?_ rfl rfl; refine R_nil ?_; refine S_false rfl rfl ?_; refine S_skip rfl ?_; refine S_seq rfl ?_; refine S_seq rfl ?_; refine S_region rfl rfl ?_; refine R_p rfl ?_ rfl rfl; refine R_p rfl ?_ rfl rfl; refine R_take (T_decT rfl (by omega)) ?_ rfl rfl; refine R_nil ?_; refine S_true rfl rfl ?_; refine S_exit rfl rfl ?_; refine S_region rfl rfl ?_; refine R_p rfl ?_ rfl rfl; refine R_take (T_addN rfl rfl (by unfold fits; omega)) ?_ rfl rfl; refine R_p rfl ?_ rfl rfl; refine R_nil ?_)
      exact hJ (m + 1) _ _ ⟨by omega, by omega⟩ (Sub.cons rfl (Sub.cons rfl (Sub.cons rfl (Sub.cons rfl Sub.nil)))) sub_st (by omega)
    obtain ⟨p, e, hf1, hf2⟩ := hcf m (by omega) (by omega)
    have hpp : decide (p = p) = true := decide_eq_true rfl
    have hsc : scmp .neq (bl ⟨e.2.2.toArray⟩) (bl ⟨e.2.2.toArray⟩) = some false := by simp [scmp]
    have h01 : (0 : Nat) < 1 := by omega
    focus (refine S_seq rfl ?_; refine S_seq rfl ?_; refine S_region rfl rfl ?_; refine R_p rfl ?_ rfl rfl; refine R_take (T_loads (ds := lgc a A5 K c5) rfl rfl rfl rfl rfl) ?_ rfl rfl; (refine R_eff (E_hv0 (f := 24) ⟨_, Try.func24, rfl, by kernel_rfl⟩ (fun w hS => lastF_k w a A5 c5 K P L (lai, lau) hPl hP hr hla ((Srd.row (A := A5) (n := K) (c := c5)).rd w hS) (by omega)) rfl rfl (fun _ => rfl)) ?_ rfl rfl; rintro _ _ ⟨_, rfl, _, rfl⟩); refine R_take (T_fldv (xs := atc (lai, lau)) rfl rfl rfl rfl rfl rfl) ?_ rfl rfl; refine R_take (T_decT rfl (by omega)) ?_ rfl rfl; refine R_nil ?_; refine S_true rfl rfl ?_; refine S_skip rfl ?_; refine S_seq rfl ?_; refine S_block rfl ?_; refine S_seq rfl ?_; refine S_region rfl rfl ?_; refine R_take (T_loads (ds := lgc a A5 K c5) rfl rfl rfl rfl rfl) ?_ rfl rfl; refine R_p rfl ?_ rfl rfl; ((refine R_eff (E_hv0 (f := 25) ⟨_, Try.func25, rfl, by kernel_rfl⟩ (fun w hS => term_k w a A5 c5 K P L hPl hP ((Srd.row (A := A5) (n := K) (c := c5)).rd w hS) (by omega) m (t, true) ht1) rfl rfl (fun _ => rfl)) ?_ rfl rfl; rintro _ _ ⟨_, rfl, _, rfl⟩)); refine R_p rfl ?_ rfl rfl; refine R_p rfl ?_ rfl rfl; refine R_take (T_decT rfl (by omega)) ?_ rfl rfl; refine R_p rfl ?_ rfl rfl; refine R_take (T_decT rfl (by omega)) ?_ rfl rfl; refine R_nil ?_; refine S_seq rfl ?_; refine S_region rfl rfl ?_; refine R_take (T_loads (ds := lgc b A7 K7 c7) rfl rfl rfl rfl rfl) ?_ rfl rfl; refine R_p rfl ?_ rfl rfl; ((refine R_eff (E_hv0 (f := 25) ⟨_, Try.func25, rfl, by kernel_rfl⟩ (fun w hS => term_k w b A7 c7 K7 E7 R hEl hE7 ((Srd.row (A := A7) (n := K7) (c := c7)).rd w hS) (by omega) m (t, true) ht2) rfl rfl (fun _ => rfl)) ?_ rfl rfl; rintro _ _ ⟨_, rfl, _, rfl⟩)); refine R_p rfl ?_ rfl rfl; refine R_p rfl ?_ rfl rfl; refine R_take (T_decT rfl (by omega)) ?_ rfl rfl; refine R_p rfl ?_ rfl rfl; refine R_take (T_decT rfl (by omega)) ?_ rfl rfl; refine R_nil ?_; refine S_seq rfl ?_; refine S_seq rfl ?_; refine S_region rfl rfl ?_; refine R_p rfl ?_ rfl rfl; refine R_p rfl ?_ rfl rfl; refine R_take (T_decF rfl (by first | omega | decide)) ?_ rfl rfl; refine R_p rfl ?_ rfl rfl; refine R_take (T_decT rfl (by omega)) ?_ rfl rfl; refine R_take (T_not rfl) ?_ rfl rfl; refine R_p rfl ?_ rfl rfl; refine R_p rfl ?_ rfl rfl; refine R_take (T_decT rfl (by omega)) ?_ rfl rfl; refine R_take (T_not rfl) ?_ rfl rfl; refine R_p rfl ?_ rfl rfl; refine R_nil ?_; refine S_false rfl rfl ?_; refine S_skip rfl ?_; refine S_seq rfl ?_; refine S_seq rfl ?_; refine S_region rfl rfl ?_; refine R_p rfl ?_ rfl rfl; refine R_p rfl ?_ rfl rfl; refine R_take (T_decF rfl (by first | omega | decide)) ?_ rfl rfl; refine R_nil ?_; refine S_false rfl rfl ?_; refine S_skip rfl ?_; refine S_seq rfl ?_; refine S_region rfl rfl ?_; refine R_take (T_loads (ds := lgc a A5 K c5) rfl rfl rfl rfl rfl) ?_ rfl rfl; refine R_p rfl ?_ rfl rfl; (refine R_eff (E_hvG (f := 26) ⟨_, Try.func26, rfl, by kernel_rfl⟩ (fun w hS => from_one w a A5 c5 K P L hPl hP ((Srd.row (A := A5) (n := K) (c := c5)).rd w hS) ((SDt.own (e := 5) (D := (P).map emd) (by simp)).rd w hS) hc5 (by omega) hPk m (by omega) p e hf1) rfl rfl) ?_ rfl rfl; rintro _ _ ⟨⟨⟨A8, c8⟩, ⟨A9, c9⟩⟩, rfl, hne8, rfl⟩; dsimp only [List.cons_append, List.nil_append]); refine R_p rfl ?_ rfl rfl; refine R_p rfl ?_ rfl rfl; refine R_p rfl ?_ rfl rfl; refine R_p rfl ?_ rfl rfl; (refine R_eff (E_alloca rfl at_zero) ?_ rfl rfl; rintro _ _ ⟨b12, rfl, rfl⟩); (refine R_eff0 (E_storew (cs := atc (0, 0)) (ds := atc p) rfl rfl rfl rfl (atc_one _) rfl) ?_ rfl; rintro _ _ rfl); refine R_p rfl ?_ rfl rfl; refine R_p rfl ?_ rfl rfl; refine R_nil ?_; refine S_seq rfl ?_; refine S_region rfl rfl ?_; refine R_take (T_loads (ds := lgc b A7 K7 c7) rfl rfl rfl rfl rfl) ?_ rfl rfl; refine R_p rfl ?_ rfl rfl)
    focus ((refine R_eff (E_hvG (f := 26) ⟨_, Try.func26, rfl, by kernel_rfl⟩ (fun w hS => from_one w b A7 c7 K7 E7 R hEl hE7 ((Srd.row (A := A7) (n := K7) (c := c7)).rd w hS) ((SDt.own (e := 5) (D := (E7).map emd) (by simp)).rd w hS) hc7 (by omega) hEk m (by omega) p e hf2) rfl rfl) ?_ rfl rfl; rintro _ _ ⟨⟨⟨A10, c10⟩, ⟨A11, c11⟩⟩, rfl, hne10, rfl⟩; dsimp only [List.cons_append, List.nil_append]); refine R_p rfl ?_ rfl rfl; refine R_p rfl ?_ rfl rfl; refine R_p rfl ?_ rfl rfl; refine R_p rfl ?_ rfl rfl; (refine R_eff (E_alloca rfl at_zero) ?_ rfl rfl; rintro _ _ ⟨b15, rfl, rfl⟩); (refine R_eff0 (E_storew (cs := atc (0, 0)) (ds := atc p) rfl rfl rfl rfl (atc_one _) rfl) ?_ rfl; rintro _ _ rfl); refine R_p rfl ?_ rfl rfl; refine R_p rfl ?_ rfl rfl; refine R_nil ?_; refine S_seq rfl ?_; (refine S_draw _ (fun _ h => h) (by kernel_rfl) rfl (by kernel_rfl) (rfl : _ = 44) ?_; (refine D_take 0 rfl (pev_ok rfl) ?_ rfl rfl (by kernel_rfl) (by kernel_rfl)); (refine D_take 1 rfl (pev_ok rfl) ?_ rfl rfl (by kernel_rfl) (by kernel_rfl)); (refine D_take 2 rfl (T_decF rfl (by first | omega | decide)) ?_ rfl rfl (by kernel_rfl) (by kernel_rfl)); (refine D_take 3 rfl (pev_ok rfl) ?_ rfl rfl (by kernel_rfl) (by kernel_rfl)); (refine D_take 4 rfl (T_loads (ds := atc p) rfl rfl rfl rfl rfl) ?_ rfl rfl (by kernel_rfl) (by kernel_rfl)); (refine D_take 5 rfl (T_loads (ds := atc p) rfl rfl rfl rfl rfl) ?_ rfl rfl (by kernel_rfl) (by kernel_rfl)); (refine D_take 6 rfl (T_neAt (a := p) (b := p) rfl rfl hpp) ?_ rfl rfl (by kernel_rfl) (by kernel_rfl)); (refine D_take 7 rfl (pev_ok rfl) ?_ rfl rfl (by kernel_rfl) (by kernel_rfl)); (refine D_take 8 rfl (pev_ok rfl) ?_ rfl rfl (by kernel_rfl) (by kernel_rfl)); (refine D_take 9 rfl (pev_ok rfl) ?_ rfl rfl (by kernel_rfl) (by kernel_rfl)); (refine D_take 10 rfl (pev_ok rfl) ?_ rfl rfl (by kernel_rfl) (by kernel_rfl)); (refine D_take 11 rfl (pev_ok rfl) ?_ rfl rfl (by kernel_rfl) (by kernel_rfl)); (refine D_take 12 rfl (pev_ok rfl) ?_ rfl rfl (by kernel_rfl) (by kernel_rfl)); (refine D_take 13 rfl (T_decF rfl (by first | omega | decide)) ?_ rfl rfl (by kernel_rfl) (by kernel_rfl)); (refine D_take 14 rfl (pev_ok rfl) ?_ rfl rfl (by kernel_rfl) (by kernel_rfl)); (refine D_take 15 rfl (pev_ok rfl) ?_ rfl rfl (by kernel_rfl) (by kernel_rfl)); (refine D_take 16 rfl (pev_ok rfl) ?_ rfl rfl (by kernel_rfl) (by kernel_rfl)); (refine D_take 17 rfl (pev_ok rfl) ?_ rfl rfl (by kernel_rfl) (by kernel_rfl)); (refine D_take 18 rfl (T_decF rfl (by first | omega | decide)) ?_ rfl rfl (by kernel_rfl) (by kernel_rfl)); (refine D_take 19 rfl (pev_ok rfl) ?_ rfl rfl (by kernel_rfl) (by kernel_rfl)); (refine D_take 20 rfl (pev_ok rfl) ?_ rfl rfl (by kernel_rfl) (by kernel_rfl)); (refine D_take 21 rfl (pev_ok rfl) ?_ rfl rfl (by kernel_rfl) (by kernel_rfl)); (refine D_take 22 rfl (T_ixM (sz := 3) (q := 0) rfl rfl rfl rfl rfl rfl hne8 h01) ?_ rfl rfl (by kernel_rfl) (by kernel_rfl)); (refine D_take 23 rfl (T_fap rfl rfl rfl rfl rfl hne8) ?_ rfl rfl (by kernel_rfl) (by kernel_rfl)); (refine D_take 24 rfl (T_ldr rfl rfl rfl (Srd.row (A := A8) (n := 1) (c := c8)) (by omega) rfl) ?_ rfl rfl (by kernel_rfl) (by kernel_rfl)); (refine D_take 25 rfl (pev_ok rfl) ?_ rfl rfl (by kernel_rfl) (by kernel_rfl)); (refine D_take 26 rfl (T_ixM (sz := 3) (q := 0) rfl rfl rfl rfl rfl rfl hne10 h01) ?_ rfl rfl (by kernel_rfl) (by kernel_rfl)); (refine D_take 27 rfl (T_fap rfl rfl rfl rfl rfl hne10) ?_ rfl rfl (by kernel_rfl) (by kernel_rfl)); (refine D_take 28 rfl (T_ldr rfl rfl rfl (Srd.row (A := A10) (n := 1) (c := c10)) (by omega) rfl) ?_ rfl rfl (by kernel_rfl) (by kernel_rfl)); (refine D_take 29 rfl (T_decF rfl (by first | omega | decide)) ?_ rfl rfl (by kernel_rfl) (by kernel_rfl)); (refine D_take 30 rfl (pev_ok rfl) ?_ rfl rfl (by kernel_rfl) (by kernel_rfl)); (refine D_take 31 rfl (pev_ok rfl) ?_ rfl rfl (by kernel_rfl) (by kernel_rfl)); (refine D_take 32 rfl (pev_ok rfl) ?_ rfl rfl (by kernel_rfl) (by kernel_rfl)); (refine D_take 33 rfl (T_ixM (sz := 3) (q := 0) rfl rfl rfl rfl rfl rfl hne8 h01) ?_ rfl rfl (by kernel_rfl) (by kernel_rfl)); (refine D_take 34 rfl (T_fap rfl rfl rfl rfl rfl hne8) ?_ rfl rfl (by kernel_rfl) (by kernel_rfl)); (refine D_take 35 rfl (T_ldr rfl rfl rfl (Srd.row (A := A8) (n := 1) (c := c8)) (by omega) rfl) ?_ rfl rfl (by kernel_rfl) (by kernel_rfl)); (refine D_take 36 rfl (T_b2s rfl rfl rfl rfl rfl rfl rfl (Src.row (A := A9) (n := e.2.2.length) (c := c9))) ?_ rfl rfl (by kernel_rfl) (by kernel_rfl)); (refine D_take 37 rfl (pev_ok rfl) ?_ rfl rfl (by kernel_rfl) (by kernel_rfl)); (refine D_take 38 rfl (T_ixM (sz := 3) (q := 0) rfl rfl rfl rfl rfl rfl hne10 h01) ?_ rfl rfl (by kernel_rfl) (by kernel_rfl)); (refine D_take 39 rfl (T_fap rfl rfl rfl rfl rfl hne10) ?_ rfl rfl (by kernel_rfl) (by kernel_rfl)); (refine D_take 40 rfl (T_ldr rfl rfl rfl (Srd.row (A := A10) (n := 1) (c := c10)) (by omega) rfl) ?_ rfl rfl (by kernel_rfl) (by kernel_rfl)); (refine D_take 41 rfl (T_b2s rfl rfl rfl rfl rfl rfl rfl (Src.row (A := A11) (n := e.2.2.length) (c := c11))) ?_ rfl rfl (by kernel_rfl) (by kernel_rfl)); (refine D_take 42 rfl (T_scmp (r := ⟨e.2.2.toArray⟩) (s := ⟨e.2.2.toArray⟩) rfl rfl hsc) ?_ rfl rfl (by kernel_rfl) (by kernel_rfl)); (refine D_take 43 rfl (pev_ok rfl) ?_ rfl rfl (by kernel_rfl) (by kernel_rfl)); refine D_done ?_ (by kernel_rfl)); refine S_false rfl rfl ?_; refine S_skip rfl ?_; refine RS_blk ?_; refine S_region rfl rfl ?_; refine R_p rfl ?_ rfl rfl; refine R_take (T_addN rfl rfl (by unfold fits; omega)) ?_ rfl rfl; refine R_p rfl ?_ rfl rfl; refine R_nil ?_)
    exact hJ (m + 1) _ _ ⟨by omega, by omega⟩ (Sub.cons rfl (Sub.cons rfl (Sub.cons rfl (Sub.cons rfl Sub.nil)))) sub_st (by omega)
  by_cases h0 : 0 < idx
  · obtain ⟨⟨u, v⟩, huv⟩ : ∃ x, termR b R (idx - 1) = x := ⟨_, rfl⟩
    have hv : v = false := by
      have := hca (by omega)
      rw [hki, huv] at this
      exact this
    subst hv
    focus (refine S_seq rfl ?_; refine S_seq rfl ?_; refine S_region rfl rfl ?_; refine R_p rfl ?_ rfl rfl; refine R_take (T_loads (ds := lgc a A5 K c5) rfl rfl rfl rfl rfl) ?_ rfl rfl; (refine R_eff (E_hv0 (f := 24) ⟨_, Try.func24, rfl, by kernel_rfl⟩ (fun w hS => lastF_k w a A5 c5 K P L (lai, lau) hPl hP hr hla ((Srd.row (A := A5) (n := K) (c := c5)).rd w hS) (by omega)) rfl rfl (fun _ => rfl)) ?_ rfl rfl; rintro _ _ ⟨_, rfl, _, rfl⟩); refine R_take (T_fldv (xs := atc (lai, lau)) rfl rfl rfl rfl rfl rfl) ?_ rfl rfl; refine R_take (T_decF rfl (by first | omega | decide)) ?_ rfl rfl; refine R_nil ?_; refine S_false rfl rfl ?_; refine S_exit rfl rfl ?_; refine S_seq rfl ?_; refine S_seq rfl ?_; refine S_region rfl rfl ?_; refine R_p rfl ?_ rfl rfl; refine R_take (T_decT rfl (by omega)) ?_ rfl rfl; refine R_nil ?_; refine S_true rfl rfl ?_; refine S_seq rfl ?_; refine S_region rfl rfl ?_; refine R_take (T_loads (ds := lgc b A7 K7 c7) rfl rfl rfl rfl rfl) ?_ rfl rfl; refine R_p rfl ?_ rfl rfl; refine R_take (T_subN rfl rfl (by omega) (by unfold fits; omega)) ?_ rfl rfl; ((refine R_eff (E_hv0 (f := 25) ⟨_, Try.func25, rfl, by kernel_rfl⟩ (fun w hS => term_k w b A7 c7 K7 E7 R hEl hE7 ((Srd.row (A := A7) (n := K7) (c := c7)).rd w hS) (by omega) (idx - 1) (u, false) huv) rfl rfl (fun _ => rfl)) ?_ rfl rfl; rintro _ _ ⟨_, rfl, _, rfl⟩)); refine R_p rfl ?_ rfl rfl; refine R_p rfl ?_ rfl rfl; refine R_p rfl ?_ rfl rfl; refine R_p rfl ?_ rfl rfl; refine R_p rfl ?_ rfl rfl; refine R_nil ?_; refine S_seq rfl ?_; refine S_region rfl rfl ?_; refine R_p rfl ?_ rfl rfl; refine R_take (T_not rfl) ?_ rfl rfl; refine R_take (T_decT rfl (by omega)) ?_ rfl rfl; refine R_nil ?_)
    exact hB _ _ _ _ _ rfl rfl fun w' hS => ⟨(), rfl, trivial, hS.sublist (List.nil_sublist _)⟩
  · skip
    focus (refine S_seq rfl ?_; refine S_seq rfl ?_; refine S_region rfl rfl ?_; refine R_p rfl ?_ rfl rfl; refine R_take (T_loads (ds := lgc a A5 K c5) rfl rfl rfl rfl rfl) ?_ rfl rfl; (refine R_eff (E_hv0 (f := 24) ⟨_, Try.func24, rfl, by kernel_rfl⟩ (fun w hS => lastF_k w a A5 c5 K P L (lai, lau) hPl hP hr hla ((Srd.row (A := A5) (n := K) (c := c5)).rd w hS) (by omega)) rfl rfl (fun _ => rfl)) ?_ rfl rfl; rintro _ _ ⟨_, rfl, _, rfl⟩); refine R_take (T_fldv (xs := atc (lai, lau)) rfl rfl rfl rfl rfl rfl) ?_ rfl rfl; refine R_take (T_decF rfl (by first | omega | decide)) ?_ rfl rfl; refine R_nil ?_; refine S_false rfl rfl ?_; refine S_exit rfl rfl ?_; refine S_seq rfl ?_; refine S_seq rfl ?_; refine S_region rfl rfl ?_; refine R_p rfl ?_ rfl rfl; refine R_take (T_decF rfl (by first | omega | decide)) ?_ rfl rfl; refine R_nil ?_; refine S_false rfl rfl ?_; refine S_skip rfl ?_; refine S_seq rfl ?_; refine S_region rfl rfl ?_; refine R_take (T_decT rfl (by omega)) ?_ rfl rfl; refine R_nil ?_)
    exact hB _ _ _ _ _ rfl rfl fun w' hS => ⟨(), rfl, trivial, hS.sublist (List.nil_sublist _)⟩
set_option maxRecDepth 100000 in
theorem LogCuts_open {H : Type} {enc : TypeId × Value → H} (W : World) {r : Reach} (base : Nat) (v0 v1 : Value) {d0 d1 : DataW H} {p0 p1 : List MemPlace}
    (hv0 : Value.okWide Try.prog W r base 27 v0) (hv1 : Value.okWide Try.prog W r base 22 v1)
    (h0 : DataW.Trod enc Try.prog W 0 (fun _ => true) true 27 v0 d0 p0) (h1 : DataW.Trod enc Try.prog W 0 (fun _ => true) true 22 v1 d1 p1) :
    Calls Try.prog 5 #[v0, v1] W fun e w' => e = .returned (.bool true) ∧ Kp All W w' := by
  obtain ⟨a, A, c, Q, rfl, g1, g2, _, g3, _, g4⟩ := open_log hv0 h0
  obtain ⟨z, rfl⟩ := okWide_int Try.underlying22 hv1
  obtain ⟨k, hk, hk2⟩ := open_u64 h1
  obtain rfl : z = (k : Int) := hk
  exact (cuts_any W a A c Q g1 g2 g3 g4 k hk2).pure12
end Go.Proofs.Ytkdpfnaaopimoaa
