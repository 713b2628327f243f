/- The statement LogJoins. -/
import Derived.Test.YtkdpfnaaopimoaaLgH
namespace Go.Proofs.Ytkdpfnaaopimoaa
open Go.RowKit Go.ChangeShapes Go.WideShapes Go.ChangeAt
open Asn (pt row rb)
set_option linter.unusedVariables false
set_option linter.unusedSimpArgs false
--@use N

section
variable {H : Type} {enc : TypeId × Value → H} {W : World}
set_option maxRecDepth 100000 in
theorem op_piece {cs : List Value} (h : Op_ enc Try.prog W 32 cs) : ∃ (a : At) (A : Option Addr) (c : Nat) (Q : List Em), cs = lgc a A Q.length c ∧ Rd W All 3 A Q.length (cellsL emc Q) ∧ RDt W All (Q.map emd) ∧ Q.length ≤ c ∧ (∀ m ∈ Q, m.2.2.2.2.length ≤ m.2.2.2.1 ∧ m.1 < 18446744073709551616) ∧ a.1 < 18446744073709551616 ∧ a.2 < 18446744073709551616 := by
  obtain ⟨hl, hf⟩ := h.struct Try.underlying32
  have c0 : Try.prog.cellsOf 32 = 3 := by kernel_rfl
  have c1 : Try.prog.cellsOf 24 = 2 := by kernel_rfl
  have c2 : Try.prog.cellsOf 25 = 1 := by kernel_rfl
  have c3 : Try.prog.cellsOf 22 = 1 := by kernel_rfl
  rw [c0] at hl
  have g0 : Op_ enc Try.prog W 24 ((cs.drop 0).take (Try.prog.cellsOf 24)) := hf 0 _ rfl
  have g1 : Op_ enc Try.prog W 25 ((cs.drop 2).take (Try.prog.cellsOf 25)) := hf 1 _ rfl
  rw [c1] at g0
  rw [c2] at g1
  obtain ⟨hl2, hf2⟩ := g0.struct Try.underlying24
  have g2 : Op_ enc Try.prog W 22 (((((cs.drop 0).take 2)).drop 0).take (Try.prog.cellsOf 22)) := hf2 0 _ rfl
  have g3 : Op_ enc Try.prog W 22 (((((cs.drop 0).take 2)).drop 1).take (Try.prog.cellsOf 22)) := hf2 1 _ rfl
  rw [c3] at g2 g3
  obtain ⟨i, hi, hwi⟩ := Op_.int Try.underlying22 g2
  obtain ⟨t, ht, hwt⟩ := Op_.int Try.underlying22 g3
  obtain ⟨i, rfl, hi2⟩ := wf_u64 hwi
  obtain ⟨t, rfl, ht2⟩ := wf_u64 hwt
  obtain ⟨A, n, c, xs, hcs, h1, h2, h3, h4⟩ := g1.slice Try.underlying25 (size := 3) (by kernel_rfl)
  obtain ⟨Q, hQ, rfl, hall⟩ := rows_of (n := 0) (size := 3) (f := emc) emc_len (fun m : Em => Rd W All 1 m.2.2.1 m.2.2.2.2.length (m.2.2.2.2.map bv) ∧ m.2.2.2.2.length ≤ m.2.2.2.1 ∧ m.1 < 18446744073709551616) _ _ h3.1 fun i hi => op_entry (h4 i hi)
  subst hQ
  refine ⟨(i, t), A, c, Q, ?_, h3, fun d hd => ?_, h1, fun m hm => (hall m hm).2, hi2, ht2⟩
  · match cs, hl with
    | [u, v, w], _ =>
      simp at hi ht hcs
      rw [hi, ht, hcs]
      rfl
  · obtain ⟨m, hm, rfl⟩ := List.mem_map.1 hd
    exact (hall m hm).1
set_option maxRecDepth 100000 in
theorem open_piece {r : Reach} {base : Nat} {v : Value} {d : DataW H} {p : List MemPlace} (hv : Value.okWide Try.prog W r base 32 v) (h : DataW.Trod enc Try.prog W 0 (fun _ => true) true 32 v d p) :
    ∃ (a : At) (A : Option Addr) (c : Nat) (Q : List Em), v = .agg (lgc a A Q.length c).toArray ∧ Rd W All 3 A Q.length (cellsL emc Q) ∧ RDt W All (Q.map emd) ∧ Q.length ≤ c ∧ (∀ m ∈ Q, m.2.2.2.2.length ≤ m.2.2.2.1 ∧ m.1 < 18446744073709551616) ∧ a.1 < 18446744073709551616 ∧ a.2 < 18446744073709551616 := by
  obtain ⟨Z, rfl, hZ⟩ := okWide_struct Try.underlying32 hv
  obtain ⟨a, A, c, Q, hcs, h1⟩ := op_piece (Op_.of_trod h)
  refine ⟨a, A, c, Q, ?_, h1⟩
  have e : Z = (Z.toList).toArray := by simp
  have hcs : Z.toList = lgc a A Q.length c := hcs
  rw [e, hcs]
end
theorem dtB_bs {w0 w : World} {M : Nat → Prop} {H : List Asn} {e : TypeId} {D : List Dt} (hS : St w0 M H w) (hm : dtB e D ∈ H) : ∀ d ∈ D, Bs w All d.1 d.2.2.length d.2.1 d.2.2 := fun d hd => by
  have h1 := (hS.all _ hm).1.1 (dtA e d) (List.mem_map.2 ⟨d, hd, rfl⟩)
  have hf := row_facts h1
  exact ⟨rfl, hf.1, hf.2.1, (Rd.of_own h1).more fun _ _ => trivial⟩
theorem splice_k (w : World) (a : At) (A : Option Addr) (c k : Nat) (Q : List Em) (l : List En) (hk : Q.length = k) (hl : Q.map emv = l) (h : Rd w All 3 A k (cellsL emc Q)) (hd : RDt w All (Q.map emd)) (p : At) (A2 : Option Addr) (cE k2 : Nat) (E : List Em) (es : List En) (hk2 : E.length = k2) (hl2 : E.map emv = es) (h2 : Rd w All 3 A2 k2 (cellsL emc E)) (hd2 : RDt w All (E.map emd)) (hcE : k2 ≤ cE) (hn : k ≤ 1000) (hn2 : k2 ≤ 1000) (hkk : ∀ m ∈ Q, m.2.2.2.2.length ≤ 100000) (hkk2 : ∀ m ∈ E, m.2.2.2.2.length ≤ 100000) (e : Int) (last : Nat) (b : At) (r : List En) (hs : spl a l p es = (e, last, b, r)) :
    Gives Try.prog 13 [.agg (lgc a A k c).toArray, .agg (atc p).toArray, .slice A2 k2 cE] [] w (X := (Option Addr × Nat) × List Em) (fun x => .tuple #[.agg (lgc b x.1.1 r.length x.1.2).toArray, .int .u64 (last : Int), zi e]) (fun x => x.2.map emv = r) (fun x => [row 44 3 x.1.1 r.length x.1.2 (cellsL emc x.2), dtB 5 (x.2.map emd)]) := by
  subst hk
  subst hl
  subst hk2
  subst hl2
  have := splice_any w a A c Q h hd p A2 cE E h2 hd2 hcE hn hn2 hkk hkk2
  rw [hs] at this
  exact this
theorem hasF_k (w : World) (a : At) (A : Option Addr) (c k : Nat) (Q : List Em) (l : List En) (hk : Q.length = k) (hl : Q.map emv = l) (h : Rd w All 3 A k (cellsL emc Q)) (hn : k ≤ 1000) (p : At) (r : Bool) (hr : (rightB a l && hasB a l p) = r) :
    Gives Try.prog 29 [.agg (lgc a A k c).toArray, .agg (atc p).toArray] [] w (X := Unit) (fun _ => .bool r) (fun _ => True) (fun _ => []) := by
  subst hk
  subst hl
  subst hr
  exact hasF_any w a A c Q h hn p
theorem same_k (w : World) (a b : At) (A A2 : Option Addr) (c c2' k k2 : Nat) (Q M : List Em) (l : List En) (hk : Q.length = k) (hk2 : M.length = k2) (hl : Q.map emv = l) (hl2 : M.map emv = l) (h : Rd w All 3 A k (cellsL emc Q)) (h2 : Rd w All 3 A2 k2 (cellsL emc M)) (hq : ∀ m ∈ Q, BsM w m) (hm : ∀ m ∈ M, BsM w m) (hn : k ≤ 100000) :
    Gives Try.prog 28 [.agg (lgc a A k c).toArray, .agg (lgc a A2 k2 c2').toArray] [] w (X := Unit) (fun _ => .bool true) (fun _ => True) (fun _ => []) := by
  have e : M.length = Q.length := by rw [em_len hl, em_len hl2]
  subst hk
  subst hk2
  have := same_any w a a A A2 c c2' Q M h h2 hq hm hn (by omega)
  rw [hl, hl2, decide_eq_true (rfl : a = a), decide_eq_true (rfl : l = l)] at this
  exact this
set_option maxRecDepth 100000 in
set_option maxHeartbeats 4000000 in
theorem joins_any (w : World) (a : At) (A : Option Addr) (c : Nat) (Q : List Em) (h : Rd w All 3 A Q.length (cellsL emc Q)) (hd : RDt w All (Q.map emd)) (hq : ∀ m ∈ Q, m.2.2.2.2.length ≤ m.2.2.2.1 ∧ m.1 < 18446744073709551616) (ha2 : a.2 < 18446744073709551616) (p : At) (A2 : Option Addr) (cE : Nat) (E : List Em) (h2 : Rd w All 3 A2 E.length (cellsL emc E)) (hd2 : RDt w All (E.map emd)) (hq2 : ∀ m ∈ E, m.2.2.2.2.length ≤ m.2.2.2.1 ∧ m.1 < 18446744073709551616) :
    Gives Try.prog 8 [.agg (lgc a A Q.length c).toArray, .agg (lgc p A2 E.length cE).toArray] [] w (X := Unit) (fun _ => .bool true) (fun _ => True) (fun _ => []) := by
  refine gives_S Try.func8 rfl Try.ntmps8 Try.results8 (by simp) (St.enter w) (fun B hB => ?_)
  have hcap : ∀ m ∈ Q, m.2.2.2.2.length ≤ m.2.2.2.1 := fun m hm => (hq m hm).1
  have hcap2 : ∀ m ∈ E, m.2.2.2.2.length ≤ m.2.2.2.1 := fun m hm => (hq2 m hm).1
  have hbnd : ∀ (Q : List Em) (n : Nat), (∀ m ∈ Q, m.2.2.2.2.length ≤ m.2.2.2.1 ∧ m.1 < 18446744073709551616) → ∀ e ∈ cutE (Q.map emv) n, e.1 < 18446744073709551616 := fun Q n hq e he => by
    obtain ⟨x, hx, rfl⟩ := List.mem_map.1 he
    obtain ⟨m, hm, rfl⟩ := List.mem_map.1 (List.mem_of_mem_take hx)
    exact (hq m hm).2
  have hLl := cutE_len (Q.map emv) 17
  have hLt := fun e he => Nat.le_trans (cutE_txt (Q.map emv) 17 e he) (by omega : 1025 ≤ 100000)
  have hLu := hbnd Q 17 hq
  have hsl := cutE_len (E.map emv) 80
  have het := fun e he => Nat.le_trans (cutE_txt (E.map emv) 80 e he) (by omega : 1025 ≤ 100000)
  have hsu := hbnd E 80 hq2
  obtain ⟨L, hL⟩ : ∃ L, cutE (Q.map emv) 17 = L := ⟨_, rfl⟩
  obtain ⟨es, hes⟩ : ∃ L, cutE (E.map emv) 80 = L := ⟨_, rfl⟩
  rw [hL] at hLl hLt hLu
  rw [hes] at hsl het hsu
  obtain ⟨K, hK⟩ : ∃ K, L.length = K := ⟨_, rfl⟩
  obtain ⟨K2, hK2⟩ : ∃ K, es.length = K := ⟨_, rfl⟩
  by_cases herr : (spl a L p es).1 ≠ 0
  · obtain ⟨e, he, hs⟩ := spl_err herr
    focus (refine S_seq rfl ?_; refine S_region rfl rfl ?_; (refine R_eff (E_boxa (cs := lgc a A Q.length c) rfl) ?_ rfl rfl; rintro _ _ ⟨b2, rfl, rfl⟩); (refine R_eff (E_boxa (cs := lgc p A2 E.length cE) rfl) ?_ rfl rfl; rintro _ _ ⟨b3, rfl, rfl⟩); refine R_p rfl ?_ rfl rfl; refine R_nil ?_; refine S_seq rfl ?_; refine S_seq rfl ?_; refine S_region rfl rfl ?_; (refine R_eff (E_hv0 (f := 10) ⟨_, Try.func10, rfl, by kernel_rfl⟩ (fun w hS => wakes12_any w) rfl rfl (fun _ => rfl)) ?_ rfl rfl; rintro _ _ ⟨_, rfl, _, rfl⟩); refine R_take (T_not rfl) ?_ rfl rfl; refine R_nil ?_; refine S_false rfl rfl ?_; refine S_skip rfl ?_; refine S_seq rfl ?_; refine S_region rfl rfl ?_; refine R_take (T_loads (ds := lgc a A Q.length c) rfl rfl rfl rfl rfl) ?_ rfl rfl; (refine R_eff (E_gv ⟨_, Try.func11, rfl, by kernel_rfl⟩ rfl (fun w hS => short_any w a A c Q ((Srd.old h (fun k _ => noOwns k)).rd w hS) ((SDt.old hd (fun k _ => noOwns k)).rd w hS) hcap)) ?_ rfl rfl; rintro _ _ ⟨⟨⟨A5, c5⟩, P⟩, rfl, hP, rfl⟩; dsimp only [List.cons_append, List.nil_append] at hP ⊢; rw [hL] at hP ⊢; rw [hK] at hP ⊢; obtain ⟨hP, hc5, _⟩ := hP; have hPk := em_txt (N := 100000) hP hLt; have hPl := (em_len hP).trans hK); (refine R_eff0 (E_storew (cs := lgc a A Q.length c) (ds := lgc a A5 K c5) rfl rfl rfl rfl (lgc_one _ _ _ _) rfl) ?_ rfl; rintro _ _ rfl); refine R_nil ?_; refine S_seq rfl ?_; refine S_region rfl rfl ?_; refine R_p rfl ?_ rfl rfl; refine R_take (T_load rfl rfl rfl rfl) ?_ rfl rfl; (refine R_eff (E_gv ⟨_, Try.func12, rfl, by kernel_rfl⟩ rfl (fun w hS => entriesL_any w A2 cE E ((Srd.old h2 (fun k _ => noOwns k)).rd w hS) ((SDt.old hd2 (fun k _ => noOwns k)).rd w hS) hcap2 80 (by omega))) ?_ rfl rfl; rintro _ _ ⟨⟨⟨A6, c6⟩, X⟩, rfl, hX, rfl⟩; dsimp only [List.cons_append, List.nil_append] at hX ⊢; rw [hes] at hX ⊢; rw [hK2] at hX ⊢; obtain ⟨hX, hc6, _⟩ := hX; have hXk := em_txt (N := 100000) hX het; have hXl := (em_len hX).trans hK2); refine R_p rfl ?_ rfl rfl; refine R_nil ?_; refine S_seq rfl ?_; refine S_region rfl rfl ?_; refine R_take (T_loads (ds := lgc a A5 K c5) rfl rfl rfl rfl rfl) ?_ rfl rfl; refine R_p rfl ?_ rfl rfl; refine R_take (T_loads (ds := atc p) rfl rfl rfl rfl rfl) ?_ rfl rfl; refine R_p rfl ?_ rfl rfl; (refine R_eff (E_hvG (f := 13) ⟨_, Try.func13, rfl, by kernel_rfl⟩ (fun w hS => splice_k w a A5 c5 K P L hPl hP ((Srd.row (A := A5) (n := K) (c := c5)).rd w hS) ((SDt.own (e := 5) (D := (P).map emd) (by simp)).rd w hS) p A6 c6 K2 X es hXl hX ((Srd.row (A := A6) (n := K2) (c := c6)).rd w hS) ((SDt.own (e := 5) (D := (X).map emd) (by simp)).rd w hS) hc6 (by omega) (by omega) hPk hXk e 0 (0, 0) [] hs) rfl rfl) ?_ rfl rfl; rintro _ _ ⟨⟨⟨A7, c7⟩, E7⟩, rfl, hE7, rfl⟩; dsimp only [List.cons_append, List.nil_append] at hE7 ⊢; skip; have hlE7 := 0); refine R_p rfl ?_ rfl rfl; refine R_p rfl ?_ rfl rfl; refine R_p rfl ?_ rfl rfl; refine R_p rfl ?_ rfl rfl; (refine R_eff (E_alloca rfl lg_zero) ?_ rfl rfl; rintro _ _ ⟨b6, rfl, rfl⟩); (refine R_eff0 (E_storew (cs := lgc (0, 0) none 0 0) (ds := lgc (0, 0) A7 0 c7) rfl rfl rfl rfl (lgc_one _ _ _ _) rfl) ?_ rfl; rintro _ _ rfl); refine R_p rfl ?_ rfl rfl; refine R_p rfl ?_ rfl rfl; refine R_nil ?_; refine S_seq rfl ?_; refine S_seq rfl ?_; refine S_region rfl rfl ?_; refine R_p rfl ?_ rfl rfl; refine R_take (T_decT rfl (by first | omega | decide)) ?_ rfl rfl; refine R_nil ?_; refine S_true rfl rfl ?_; refine S_seq rfl ?_; refine S_region rfl rfl ?_; refine R_p rfl ?_ rfl rfl; refine R_take (T_decT rfl (by first | omega | decide)) ?_ rfl rfl; refine R_p rfl ?_ rfl rfl; refine R_p rfl ?_ rfl rfl; refine R_take (T_load rfl rfl rfl rfl) ?_ rfl rfl; refine R_p rfl ?_ rfl rfl; refine R_take (T_decT rfl (by first | omega | decide)) ?_ rfl rfl; refine R_p rfl ?_ rfl rfl; refine R_p rfl ?_ rfl rfl; refine R_nil ?_)
    exact hB _ _ _ _ _ rfl rfl fun w' hS => ⟨(), rfl, trivial, hS.sublist (List.nil_sublist _)⟩
  obtain ⟨⟨e, last, b, R⟩, hs⟩ : ∃ x, spl a L p es = x := ⟨_, rfl⟩
  rw [hs] at herr
  obtain rfl : e = 0 := by simpa using herr
  obtain ⟨hr0, ⟨hp1, hp2, _⟩, _, hlast, hba, hform⟩ := spl_ok hs
  rw [hba] at hs
  rw [hK2] at hlast hp2
  have hrr := join_right hs
  have hhs := fun q hq hb => join_has hs (q := q) hq hb
  have hts := fun q h1 h2 h3 => join_term hs (k := q) h1 h2 h3
  have hs2 := join_twice hs
  have hRu : ∀ e ∈ R, e.1 < 18446744073709551616 ∧ e.2.2.length ≤ 100000 := by
    rcases hform with ⟨_, rfl⟩ | ⟨i, _, _, _, _, _, _, _, _, rfl⟩
    · exact fun e he => ⟨hLu e he, hLt e he⟩
    · intro e he
      rcases List.mem_append.1 he with he | he
      · exact ⟨hLu e (List.mem_of_mem_take he), hLt e (List.mem_of_mem_take he)⟩
      · exact ⟨hsu e (List.mem_of_mem_drop he), het e (List.mem_of_mem_drop he)⟩
  clear hform
  have hll : (lastA a R).2 < 18446744073709551616 := lastT_lt R a.2 _ ha2 fun e he => (hRu e he).1
  have hchk : chkE a R 18446744073709551615 = 0 := by
    unfold chkE
    rw [if_pos hrr, if_neg (by omega)]
  obtain ⟨K7, hK7⟩ : ∃ K, R.length = K := ⟨_, rfl⟩
  have hfitR := right_fits hrr
  have hfitL := right_fits hr0
  rw [hK7] at hfitR
  rw [hK] at hfitL hts
  have haa : decide (a = a) = true := decide_eq_true rfl
  have hla1 : (lastA a L).1 = a.1 + L.length := rfl
  obtain ⟨⟨lai, lau⟩, hla⟩ : ∃ x, lastA a L = x := ⟨_, rfl⟩
  rw [hla, hK] at hla1
  have hla1 : lai = a.1 + K := hla1
  focus (refine S_seq rfl ?_; refine S_region rfl rfl ?_; (refine R_eff (E_boxa (cs := lgc a A Q.length c) rfl) ?_ rfl rfl; rintro _ _ ⟨b2, rfl, rfl⟩); (refine R_eff (E_boxa (cs := lgc p A2 E.length cE) rfl) ?_ rfl rfl; rintro _ _ ⟨b3, rfl, rfl⟩); refine R_p rfl ?_ rfl rfl; refine R_nil ?_; refine S_seq rfl ?_; refine S_seq rfl ?_; refine S_region rfl rfl ?_; (refine R_eff (E_hv0 (f := 10) ⟨_, Try.func10, rfl, by kernel_rfl⟩ (fun w hS => wakes12_any w) rfl rfl (fun _ => rfl)) ?_ rfl rfl; rintro _ _ ⟨_, rfl, _, rfl⟩); refine R_take (T_not rfl) ?_ rfl rfl; refine R_nil ?_; refine S_false rfl rfl ?_; refine S_skip rfl ?_; refine S_seq rfl ?_; refine S_region rfl rfl ?_; refine R_take (T_loads (ds := lgc a A Q.length c) rfl rfl rfl rfl rfl) ?_ rfl rfl; (refine R_eff (E_gv ⟨_, Try.func11, rfl, by kernel_rfl⟩ rfl (fun w hS => short_any w a A c Q ((Srd.old h (fun k _ => noOwns k)).rd w hS) ((SDt.old hd (fun k _ => noOwns k)).rd w hS) hcap)) ?_ rfl rfl; rintro _ _ ⟨⟨⟨A5, c5⟩, P⟩, rfl, hP, rfl⟩; dsimp only [List.cons_append, List.nil_append] at hP ⊢; rw [hL] at hP ⊢; rw [hK] at hP ⊢; obtain ⟨hP, hc5, _⟩ := hP; have hPk := em_txt (N := 100000) hP hLt; have hPl := (em_len hP).trans hK); (refine R_eff0 (E_storew (cs := lgc a A Q.length c) (ds := lgc a A5 K c5) rfl rfl rfl rfl (lgc_one _ _ _ _) rfl) ?_ rfl; rintro _ _ rfl); refine R_nil ?_; refine S_seq rfl ?_; refine S_region rfl rfl ?_; refine R_p rfl ?_ rfl rfl; refine R_take (T_load rfl rfl rfl rfl) ?_ rfl rfl; (refine R_eff (E_gv ⟨_, Try.func12, rfl, by kernel_rfl⟩ rfl (fun w hS => entriesL_any w A2 cE E ((Srd.old h2 (fun k _ => noOwns k)).rd w hS) ((SDt.old hd2 (fun k _ => noOwns k)).rd w hS) hcap2 80 (by omega))) ?_ rfl rfl; rintro _ _ ⟨⟨⟨A6, c6⟩, X⟩, rfl, hX, rfl⟩; dsimp only [List.cons_append, List.nil_append] at hX ⊢; rw [hes] at hX ⊢; rw [hK2] at hX ⊢; obtain ⟨hX, hc6, _⟩ := hX; have hXk := em_txt (N := 100000) hX het; have hXl := (em_len hX).trans hK2); refine R_p rfl ?_ rfl rfl; refine R_nil ?_; refine S_seq rfl ?_; refine S_region rfl rfl ?_; refine R_take (T_loads (ds := lgc a A5 K c5) rfl rfl rfl rfl rfl) ?_ rfl rfl; refine R_p rfl ?_ rfl rfl; refine R_take (T_loads (ds := atc p) rfl rfl rfl rfl rfl) ?_ rfl rfl; refine R_p rfl ?_ rfl rfl; (refine R_eff (E_hvG (f := 13) ⟨_, Try.func13, rfl, by kernel_rfl⟩ (fun w hS => splice_k w a A5 c5 K P L hPl hP ((Srd.row (A := A5) (n := K) (c := c5)).rd w hS) ((SDt.own (e := 5) (D := (P).map emd) (by simp)).rd w hS) p A6 c6 K2 X es hXl hX ((Srd.row (A := A6) (n := K2) (c := c6)).rd w hS) ((SDt.own (e := 5) (D := (X).map emd) (by simp)).rd w hS) hc6 (by omega) (by omega) hPk hXk 0 last a R hs) rfl rfl) ?_ rfl rfl; rintro _ _ ⟨⟨⟨A7, c7⟩, E7⟩, rfl, hE7, rfl⟩; dsimp only [List.cons_append, List.nil_append] at hE7 ⊢; rw [hK7]; have hlE7 := (em_len hE7).trans hK7); refine R_p rfl ?_ rfl rfl; refine R_p rfl ?_ rfl rfl; refine R_p rfl ?_ rfl rfl; refine R_p rfl ?_ rfl rfl; (refine R_eff (E_alloca rfl lg_zero) ?_ rfl rfl; rintro _ _ ⟨b6, rfl, rfl⟩); (refine R_eff0 (E_storew (cs := lgc (0, 0) none 0 0) (ds := lgc a A7 K7 c7) rfl rfl rfl rfl (lgc_one _ _ _ _) rfl) ?_ rfl; rintro _ _ rfl); refine R_p rfl ?_ rfl rfl; refine R_p rfl ?_ rfl rfl; refine R_nil ?_; refine S_seq rfl ?_; refine S_seq rfl ?_; refine S_region rfl rfl ?_; refine R_p rfl ?_ rfl rfl; refine R_take (T_decF rfl (by first | omega | decide)) ?_ rfl rfl; refine R_nil ?_; refine S_false rfl rfl ?_; refine S_skip rfl ?_; refine S_seq rfl ?_; refine S_seq rfl ?_; refine S_region rfl rfl ?_; refine R_take (T_loads (ds := lgc a A7 K7 c7) rfl rfl rfl rfl rfl) ?_ rfl rfl; (refine R_eff (E_hv0 (f := 23) ⟨_, Try.func23, rfl, by kernel_rfl⟩ (fun w hS => check_k w a A7 c7 K7 E7 R hlE7 hE7 ((Srd.row (A := A7) (n := K7) (c := c7)).rd w hS) (by omega) 18446744073709551615 0 hchk) rfl rfl (fun _ => rfl)) ?_ rfl rfl; rintro _ _ ⟨_, rfl, _, rfl⟩); refine R_take (T_decF rfl (by first | omega | decide)) ?_ rfl rfl; refine R_p rfl ?_ rfl rfl; refine R_p rfl ?_ rfl rfl; refine R_take (T_loads (ds := atc a) rfl rfl rfl rfl rfl) ?_ rfl rfl; refine R_p rfl ?_ rfl rfl; refine R_take (T_loads (ds := atc a) rfl rfl rfl rfl rfl) ?_ rfl rfl; refine R_take (T_neAt (a := a) (b := a) rfl rfl haa) ?_ rfl rfl; refine R_p rfl ?_ rfl rfl; refine R_p rfl ?_ rfl rfl; refine R_p rfl ?_ rfl rfl; refine R_p rfl ?_ rfl rfl; refine R_p rfl ?_ rfl rfl; refine R_take (T_load rfl rfl rfl rfl) ?_ rfl rfl; refine R_p rfl ?_ rfl rfl; refine R_p rfl ?_ rfl rfl; refine R_take (T_convf rfl rfl rfl rfl (by unfold fits; omega)) ?_ rfl rfl; refine R_take (T_addN rfl rfl (by unfold fits; omega)) ?_ rfl rfl; refine R_take (T_decF rfl (by first | omega | decide)) ?_ rfl rfl; refine R_p rfl ?_ rfl rfl; refine R_nil ?_; refine S_false rfl rfl ?_; refine S_skip rfl ?_; refine S_seq rfl ?_; refine S_seq rfl ?_; refine S_region rfl rfl ?_; refine R_p rfl ?_ rfl rfl; refine R_p rfl ?_ rfl rfl; refine R_p rfl ?_ rfl rfl; refine R_nil ?_; refine S_block rfl ?_)
  have hE7k := em_txt (N := 100000) hE7 fun e he => (hRu e he).2
  refine RS_row A6 K2 c6 fun _ _ hne6 _ => ?_
  refine S_loop (X := Nat) (fun j => [(2, .pointer (some ⟨b2, 0, none⟩)), (3, .pointer (some ⟨b3, 0, none⟩)), (5, .slice A6 K2 c6), (6, .pointer (some ⟨b6, 0, none⟩)), (7, .int .u64 (last : Int)), (66, .slice A6 K2 c6), (67, .int .i64 (K2 : Int)), (68, .int .i64 (j : Int))]) (fun _ => [pt b6 27 (lgc a A7 K7 c7), row 44 3 A7 K7 c7 (cellsL emc E7), dtB 5 (E7.map emd), row 44 3 A6 K2 c6 (cellsL emc X), dtB 5 (X.map emd), pt b2 27 (lgc a A5 K c5), row 44 3 A5 K c5 (cellsL emc P), dtB 5 (P.map emd), pt b3 32 (lgc p A2 E.length cE)]) (fun j => j ≤ K2) (fun j => K2 - j) rfl 0 (Nat.zero_le _) (Sub.cons rfl (Sub.cons rfl (Sub.cons rfl (Sub.cons rfl (Sub.cons rfl (Sub.cons rfl (Sub.cons rfl (Sub.cons rfl Sub.nil)))))))) sub_st ?_
  rintro j hj J hJ
  rcases Nat.lt_or_ge j K2 with hjl | hjl
  · have hne6 := hne6 (by omega)
    have hjX : j < X.length := by omega
    have hat := cellsL_at (f := emc) emc_len X default j hjX
    obtain ⟨m, hm⟩ : ∃ m, X.getD j default = m := ⟨_, rfl⟩
    rw [hm] at hat
    have hm1 : (es.getD j default).1 = m.1 := by rw [← hX, emv_fst _ _ hjX, hm]
    by_cases hgt : a.1 < p.1 + j + 1
    · have hhas : (rightB a R && hasB a R (p.1 + j + 1, m.1)) = true := by
        rw [hrr, ← hm1, hhs j (by omega) hgt]
        rfl
      focus (refine S_seq rfl ?_; refine S_region rfl rfl ?_; refine R_take (T_decT rfl (by omega)) ?_ rfl rfl; refine R_nil ?_; refine S_seq rfl ?_; refine S_true rfl rfl ?_; refine S_skip rfl ?_; refine S_seq rfl ?_; refine S_block rfl ?_; refine S_seq rfl ?_; refine S_region rfl rfl ?_; refine R_p rfl ?_ rfl rfl; refine R_take (T_ixM (sz := 3) rfl rfl rfl rfl rfl rfl hne6 hjl) ?_ rfl rfl; refine R_take (T_lda (ds := emc m) rfl rfl rfl (Srd.row (A := A6) (n := K2) (c := c6)) rfl (by omega) hat) ?_ rfl rfl; (refine R_eff (E_alloca rfl em_zero) ?_ rfl rfl; rintro _ _ ⟨b10, rfl, rfl⟩); refine R_p rfl ?_ rfl rfl; (refine R_eff0 (E_storew (cs := emc (0, 0, none, 0, [])) (ds := emc m) rfl rfl rfl rfl (emc_one _) rfl) ?_ rfl; rintro _ _ rfl); refine R_nil ?_; refine S_seq rfl ?_; refine S_region rfl rfl ?_; refine R_p rfl ?_ rfl rfl; refine R_p rfl ?_ rfl rfl; refine R_take (T_load rfl rfl rfl rfl) ?_ rfl rfl; refine R_p rfl ?_ rfl rfl; refine R_take (T_convf rfl rfl rfl rfl (by unfold fits; omega)) ?_ rfl rfl; refine R_take (T_addN rfl rfl (by unfold fits; omega)) ?_ rfl rfl; refine R_take (T_addN rfl rfl (by unfold fits; omega)) ?_ rfl rfl; refine R_p rfl ?_ rfl rfl; refine R_take (T_load rfl rfl rfl rfl) ?_ rfl rfl; refine R_take (T_build2 rfl rfl (at_built2 (p.1 + j + 1) m.1)) ?_ rfl rfl; (refine R_eff (E_alloca rfl at_zero) ?_ rfl rfl; rintro _ _ ⟨b11, rfl, rfl⟩); (refine R_eff0 (E_storew (cs := atc (0, 0)) (ds := atc (p.1 + j + 1, m.1)) rfl rfl rfl rfl (atc_one _) rfl) ?_ rfl; rintro _ _ rfl); refine R_nil ?_; refine S_seq rfl ?_; refine S_region rfl rfl ?_; refine R_p rfl ?_ rfl rfl; refine R_take (T_load rfl rfl rfl rfl) ?_ rfl rfl; refine R_p rfl ?_ rfl rfl; refine R_p rfl ?_ rfl rfl; refine R_take (T_load rfl rfl rfl rfl) ?_ rfl rfl; refine R_take (T_decT rfl (by omega)) ?_ rfl rfl; refine R_p rfl ?_ rfl rfl; refine R_take (T_loads (ds := lgc a A7 K7 c7) rfl rfl rfl rfl rfl) ?_ rfl rfl; refine R_take (T_loads (ds := atc (p.1 + j + 1, m.1)) rfl rfl rfl rfl rfl) ?_ rfl rfl; ((refine R_eff (E_hv0 (f := 29) ⟨_, Try.func29, rfl, by kernel_rfl⟩ (fun w hS => hasF_k w a A7 c7 K7 E7 R hlE7 hE7 ((Srd.row (A := A7) (n := K7) (c := c7)).rd w hS) (by omega) (p.1 + j + 1, m.1) true hhas) rfl rfl (fun _ => rfl)) ?_ rfl rfl; rintro _ _ ⟨_, rfl, _, rfl⟩)); refine R_take (T_not rfl) ?_ rfl rfl; refine R_p rfl ?_ rfl rfl; refine R_nil ?_; refine S_false rfl rfl ?_; refine S_skip rfl ?_; refine RS_blk ?_; refine S_region rfl rfl ?_; refine R_take (T_addN rfl rfl (by unfold fits; omega)) ?_ rfl rfl; refine R_p rfl ?_ rfl rfl; refine R_nil ?_)
      exact hJ (j + 1) _ _ (by show j + 1 ≤ _; omega) (Sub.cons rfl (Sub.cons rfl (Sub.cons rfl (Sub.cons rfl (Sub.cons rfl (Sub.cons rfl (Sub.cons rfl (Sub.cons rfl Sub.nil)))))))) sub_st (by show K2 - (j + 1) < _; omega)
    · skip
      focus (refine S_seq rfl ?_; refine S_region rfl rfl ?_; refine R_take (T_decT rfl (by omega)) ?_ rfl rfl; refine R_nil ?_; refine S_seq rfl ?_; refine S_true rfl rfl ?_; refine S_skip rfl ?_; refine S_seq rfl ?_; refine S_block rfl ?_; refine S_seq rfl ?_; refine S_region rfl rfl ?_; refine R_p rfl ?_ rfl rfl; refine R_take (T_ixM (sz := 3) rfl rfl rfl rfl rfl rfl hne6 hjl) ?_ rfl rfl; refine R_take (T_lda (ds := emc m) rfl rfl rfl (Srd.row (A := A6) (n := K2) (c := c6)) rfl (by omega) hat) ?_ rfl rfl; (refine R_eff (E_alloca rfl em_zero) ?_ rfl rfl; rintro _ _ ⟨b10, rfl, rfl⟩); refine R_p rfl ?_ rfl rfl; (refine R_eff0 (E_storew (cs := emc (0, 0, none, 0, [])) (ds := emc m) rfl rfl rfl rfl (emc_one _) rfl) ?_ rfl; rintro _ _ rfl); refine R_nil ?_; refine S_seq rfl ?_; refine S_region rfl rfl ?_; refine R_p rfl ?_ rfl rfl; refine R_p rfl ?_ rfl rfl; refine R_take (T_load rfl rfl rfl rfl) ?_ rfl rfl; refine R_p rfl ?_ rfl rfl; refine R_take (T_convf rfl rfl rfl rfl (by unfold fits; omega)) ?_ rfl rfl; refine R_take (T_addN rfl rfl (by unfold fits; omega)) ?_ rfl rfl; refine R_take (T_addN rfl rfl (by unfold fits; omega)) ?_ rfl rfl; refine R_p rfl ?_ rfl rfl; refine R_take (T_load rfl rfl rfl rfl) ?_ rfl rfl; refine R_take (T_build2 rfl rfl (at_built2 (p.1 + j + 1) m.1)) ?_ rfl rfl; (refine R_eff (E_alloca rfl at_zero) ?_ rfl rfl; rintro _ _ ⟨b11, rfl, rfl⟩); (refine R_eff0 (E_storew (cs := atc (0, 0)) (ds := atc (p.1 + j + 1, m.1)) rfl rfl rfl rfl (atc_one _) rfl) ?_ rfl; rintro _ _ rfl); refine R_nil ?_; refine S_seq rfl ?_; refine S_region rfl rfl ?_; refine R_p rfl ?_ rfl rfl; refine R_take (T_load rfl rfl rfl rfl) ?_ rfl rfl; refine R_p rfl ?_ rfl rfl; refine R_p rfl ?_ rfl rfl; refine R_take (T_load rfl rfl rfl rfl) ?_ rfl rfl; refine R_take (T_decF rfl (by omega)) ?_ rfl rfl; refine R_p rfl ?_ rfl rfl; refine R_skip ?_ rfl rfl; refine R_skip ?_ rfl rfl; refine R_skip ?_ rfl rfl; refine R_skip ?_ rfl rfl; refine R_p rfl ?_ rfl rfl; refine R_nil ?_; refine S_false rfl rfl ?_; refine S_skip rfl ?_; refine RS_blk ?_; refine S_region rfl rfl ?_; refine R_take (T_addN rfl rfl (by unfold fits; omega)) ?_ rfl rfl; refine R_p rfl ?_ rfl rfl; refine R_nil ?_)
      exact hJ (j + 1) _ _ (by show j + 1 ≤ _; omega) (Sub.cons rfl (Sub.cons rfl (Sub.cons rfl (Sub.cons rfl (Sub.cons rfl (Sub.cons rfl (Sub.cons rfl (Sub.cons rfl Sub.nil)))))))) sub_st (by show K2 - (j + 1) < _; omega)
  focus (refine S_seq rfl ?_; refine S_region rfl rfl ?_; refine R_take (T_decF rfl (by omega)) ?_ rfl rfl; refine R_nil ?_; refine S_seq rfl ?_; refine S_false rfl rfl ?_; refine S_exit rfl rfl ?_; refine S_seq rfl ?_; refine S_seq rfl ?_; refine S_region rfl rfl ?_; refine R_p rfl ?_ rfl rfl; refine R_p rfl ?_ rfl rfl; refine R_take (T_load rfl rfl rfl rfl) ?_ rfl rfl; refine R_p rfl ?_ rfl rfl; refine R_nil ?_; refine S_block rfl ?_)
  refine S_loop (X := Nat) (fun q => [(2, .pointer (some ⟨b2, 0, none⟩)), (3, .pointer (some ⟨b3, 0, none⟩)), (5, .slice A6 K2 c6), (6, .pointer (some ⟨b6, 0, none⟩)), (7, .int .u64 (last : Int)), (12, .int .u64 (q : Int))]) (fun _ => [pt b6 27 (lgc a A7 K7 c7), row 44 3 A7 K7 c7 (cellsL emc E7), dtB 5 (E7.map emd), row 44 3 A6 K2 c6 (cellsL emc X), dtB 5 (X.map emd), pt b2 27 (lgc a A5 K c5), row 44 3 A5 K c5 (cellsL emc P), dtB 5 (P.map emd), pt b3 32 (lgc p A2 E.length cE)]) (fun q => a.1 ≤ q ∧ q ≤ 18446744073709551615) (fun q => 18446744073709551616 - q) rfl a.1 ⟨Nat.le_refl _, by omega⟩ (Sub.cons rfl (Sub.cons rfl (Sub.cons rfl (Sub.cons rfl (Sub.cons rfl (Sub.cons rfl Sub.nil)))))) sub_st ?_
  rintro q ⟨hq1, hq2⟩ J2 hJ2
  focus (refine S_seq rfl ?_; refine S_seq rfl ?_)
  refine S_draw ([pt b2 27 (lgc a A5 K c5), pt b3 32 (lgc p A2 E.length cE)]) sub_st (by kernel_rfl) rfl (by kernel_rfl) (by kernel_rfl : _ = 9) ?_
  refine D_take 0 rfl (pev_ok rfl) ?_ rfl rfl (by kernel_rfl) (by kernel_rfl)
  refine D_take 1 rfl (pev_ok rfl) ?_ rfl rfl (by kernel_rfl) (by kernel_rfl)
  refine D_take 2 rfl (pev_ok rfl) ?_ rfl rfl (by kernel_rfl) (by kernel_rfl)
  refine D_take 3 rfl (T_load rfl rfl rfl rfl) ?_ rfl rfl (by kernel_rfl) (by kernel_rfl)
  refine D_take 4 rfl (T_loads (ds := lgc a A5 K c5) rfl rfl rfl rfl rfl) ?_ rfl rfl (by kernel_rfl) (by kernel_rfl)
  refine D_one 5 rfl (E_hv0 (f := 24) ⟨_, Try.func24, rfl, by kernel_rfl⟩ (fun w hS => lastF_k w a A5 c5 K P L (lai, lau) hPl hP hr0 hla ((Srd.row (A := A5) (n := K) (c := c5)).rd w hS) (by omega)) rfl rfl (fun _ => rfl)) ?_ rfl rfl (by kernel_rfl)
  rintro _ _ ⟨_, rfl, _, rfl⟩
  refine Nx_same sub_st ?_
  refine D_take 6 rfl (T_fldv (xs := atc (lai, lau)) rfl rfl rfl rfl rfl rfl) ?_ rfl rfl (by kernel_rfl) (by kernel_rfl)
  refine D_take 7 rfl (T_minN rfl rfl) ?_ rfl rfl (by kernel_rfl) (by kernel_rfl)
  refine D_take 8 rfl (pev_ok rfl) ?_ rfl rfl (by kernel_rfl) (by kernel_rfl)
  refine D_done ?_ (by kernel_rfl)
  skip
  by_cases hql : q ≤ min p.1 lai
  · obtain ⟨t, ht1, ht2⟩ := hts q hq1 (by omega) (by omega)
    focus ((refine S_if rfl rfl (fun hs => ?_) (fun hs => ?_)); refine S_skip rfl ?_; refine S_seq rfl ?_; refine S_block rfl ?_; refine S_seq rfl ?_; refine S_region rfl rfl ?_; refine R_take (T_loads (ds := lgc a A5 K c5) rfl rfl rfl rfl rfl) ?_ rfl rfl; refine R_p rfl ?_ rfl rfl; ((refine R_eff (E_hv0 (f := 25) ⟨_, Try.func25, rfl, by kernel_rfl⟩ (fun w hS => term_k w a A5 c5 K P L hPl hP ((Srd.row (A := A5) (n := K) (c := c5)).rd w hS) (by omega) q (t, true) ht1) rfl rfl (fun _ => rfl)) ?_ rfl rfl; rintro _ _ ⟨_, rfl, _, rfl⟩)); refine R_p rfl ?_ rfl rfl; refine R_p rfl ?_ rfl rfl; refine R_take (T_decT rfl (by omega)) ?_ rfl rfl; refine R_p rfl ?_ rfl rfl; refine R_take (T_decT rfl (by omega)) ?_ rfl rfl; refine R_nil ?_; refine S_seq rfl ?_; refine S_region rfl rfl ?_; refine R_take (T_loads (ds := lgc a A7 K7 c7) rfl rfl rfl rfl rfl) ?_ rfl rfl; refine R_p rfl ?_ rfl rfl; ((refine R_eff (E_hv0 (f := 25) ⟨_, Try.func25, rfl, by kernel_rfl⟩ (fun w hS => term_k w a A7 c7 K7 E7 R hlE7 hE7 ((Srd.row (A := A7) (n := K7) (c := c7)).rd w hS) (by omega) q (t, true) ht2) rfl rfl (fun _ => rfl)) ?_ rfl rfl; rintro _ _ ⟨_, rfl, _, rfl⟩)); refine R_p rfl ?_ rfl rfl; refine R_p rfl ?_ rfl rfl; refine R_take (T_decT rfl (by omega)) ?_ rfl rfl; refine R_p rfl ?_ rfl rfl; refine R_take (T_decT rfl (by omega)) ?_ rfl rfl; refine R_nil ?_; refine S_seq rfl ?_; refine S_region rfl rfl ?_; refine R_p rfl ?_ rfl rfl; refine R_p rfl ?_ rfl rfl; refine R_take (T_decF rfl (by omega)) ?_ rfl rfl; refine R_p rfl ?_ rfl rfl; refine R_take (T_decT rfl (by omega)) ?_ rfl rfl; refine R_take (T_not rfl) ?_ rfl rfl; refine R_p rfl ?_ rfl rfl; refine R_p rfl ?_ rfl rfl; refine R_take (T_decT rfl (by omega)) ?_ rfl rfl; refine R_take (T_not rfl) ?_ rfl rfl; refine R_p rfl ?_ rfl rfl; refine R_nil ?_; refine S_false rfl rfl ?_; refine S_skip rfl ?_; refine RS_blk ?_; refine S_region rfl rfl ?_; refine R_p rfl ?_ rfl rfl; refine R_take (T_addN rfl rfl (by unfold fits; omega)) ?_ rfl rfl; refine R_p rfl ?_ rfl rfl; refine R_nil ?_; rotate_left; refine S_exit rfl rfl ?_; refine S_seq rfl ?_; refine S_region rfl rfl ?_; refine R_take (T_loads (ds := lgc a A7 K7 c7) rfl rfl rfl rfl rfl) ?_ rfl rfl; refine R_p rfl ?_ rfl rfl; refine R_take (T_loads (ds := atc p) rfl rfl rfl rfl rfl) ?_ rfl rfl; refine R_p rfl ?_ rfl rfl; rotate_left)
    all_goals (try (exfalso; omega))
    exact hJ2 (q + 1) _ _ ⟨by omega, by omega⟩ (Sub.cons rfl (Sub.cons rfl (Sub.cons rfl (Sub.cons rfl (Sub.cons rfl (Sub.cons rfl Sub.nil)))))) sub_st (by omega)
  · skip
    focus ((refine S_if rfl rfl (fun hs => ?_) (fun hs => ?_)); refine S_skip rfl ?_; refine S_seq rfl ?_; refine S_block rfl ?_; refine S_seq rfl ?_; refine S_region rfl rfl ?_; refine R_take (T_loads (ds := lgc a A5 K c5) rfl rfl rfl rfl rfl) ?_ rfl rfl; refine R_p rfl ?_ rfl rfl; rotate_left; refine S_exit rfl rfl ?_; refine S_seq rfl ?_; refine S_region rfl rfl ?_; refine R_take (T_loads (ds := lgc a A7 K7 c7) rfl rfl rfl rfl rfl) ?_ rfl rfl; refine R_p rfl ?_ rfl rfl; refine R_take (T_loads (ds := atc p) rfl rfl rfl rfl rfl) ?_ rfl rfl; refine R_p rfl ?_ rfl rfl; (refine R_eff (E_hvG (f := 13) ⟨_, Try.func13, rfl, by kernel_rfl⟩ (fun w hS => splice_k w a A7 c7 K7 E7 R hlE7 hE7 ((Srd.row (A := A7) (n := K7) (c := c7)).rd w hS) ((SDt.own (e := 5) (D := (E7).map emd) (by simp)).rd w hS) p A6 c6 K2 X es hXl hX ((Srd.row (A := A6) (n := K2) (c := c6)).rd w hS) ((SDt.own (e := 5) (D := (X).map emd) (by simp)).rd w hS) hc6 (by omega) (by omega) hE7k hXk 0 last a R hs2) rfl rfl) ?_ rfl rfl; rintro _ _ ⟨⟨⟨A9, c9⟩, E9⟩, rfl, hE9, rfl⟩; dsimp only [List.cons_append, List.nil_append] at hE9 ⊢; rw [hK7]; have hlE9 := (em_len hE9).trans hK7); refine R_p rfl ?_ rfl rfl; refine R_p rfl ?_ rfl rfl; refine R_p rfl ?_ rfl rfl; refine R_p rfl ?_ rfl rfl; (refine R_eff (E_alloca rfl lg_zero) ?_ rfl rfl; rintro _ _ ⟨b9, rfl, rfl⟩); (refine R_eff0 (E_storew (cs := lgc (0, 0) none 0 0) (ds := lgc a A9 K7 c9) rfl rfl rfl rfl (lgc_one _ _ _ _) rfl) ?_ rfl; rintro _ _ rfl); refine R_p rfl ?_ rfl rfl; refine R_p rfl ?_ rfl rfl; refine R_nil ?_; refine S_seq rfl ?_; refine S_region rfl rfl ?_; refine R_p rfl ?_ rfl rfl; refine R_take (T_decT rfl (by omega)) ?_ rfl rfl; refine R_p rfl ?_ rfl rfl; refine R_p rfl ?_ rfl rfl; refine R_p rfl ?_ rfl rfl; refine R_take (T_decT rfl (by omega)) ?_ rfl rfl; refine R_p rfl ?_ rfl rfl; refine R_p rfl ?_ rfl rfl; refine R_take (T_loads (ds := lgc a A7 K7 c7) rfl rfl rfl rfl rfl) ?_ rfl rfl; refine R_take (T_loads (ds := lgc a A9 K7 c9) rfl rfl rfl rfl rfl) ?_ rfl rfl; ((refine R_eff (E_hv0 (f := 28) ⟨_, Try.func28, rfl, by kernel_rfl⟩ (fun w hS => same_k w a a A7 A9 c7 c9 K7 K7 E7 E9 R hlE7 hlE9 hE7 hE9 ((Srd.row (A := A7) (n := K7) (c := c7)).rd w hS) ((Srd.row (A := A9) (n := K7) (c := c9)).rd w hS) (fun m hm => dtB_bs (e := 5) (D := E7.map emd) hS (by simp) (emd m) (List.mem_map.2 ⟨m, hm, rfl⟩)) (fun m hm => dtB_bs (e := 5) (D := E9.map emd) hS (by simp) (emd m) (List.mem_map.2 ⟨m, hm, rfl⟩)) (by omega)) rfl rfl (fun _ => rfl)) ?_ rfl rfl; rintro _ _ ⟨_, rfl, _, rfl⟩)); refine R_take (T_decT rfl (by omega)) ?_ rfl rfl; refine R_take (T_decT rfl (by omega)) ?_ rfl rfl; refine R_nil ?_; rotate_left)
    all_goals (try (exfalso; omega))
    exact hB _ _ _ _ _ rfl rfl fun w' hS => ⟨(), rfl, trivial, hS.sublist (List.nil_sublist _)⟩
set_option maxRecDepth 100000 in
theorem LogJoins_open {H : Type} {enc : TypeId × Value → H} (W : World) {r : Reach} (base : Nat) (v0 v1 : Value) {d0 d1 : DataW H} {p0 p1 : List MemPlace}
    (hv0 : Value.okWide Try.prog W r base 27 v0) (hv1 : Value.okWide Try.prog W r base 32 v1)
    (h0 : DataW.Trod enc Try.prog W 0 (fun _ => true) true 27 v0 d0 p0) (h1 : DataW.Trod enc Try.prog W 0 (fun _ => true) true 32 v1 d1 p1) :
    Calls Try.prog 8 #[v0, v1] W fun e w' => e = .returned (.bool true) ∧ Kp All W w' := by
  obtain ⟨a, A, c, Q, rfl, g1, g2, _, g3, _, g4⟩ := open_log hv0 h0
  obtain ⟨p, A2, cE, E, rfl, k1, k2, _, k3, _, _⟩ := open_piece hv1 h1
  exact (joins_any W a A c Q g1 g2 g3 g4 p A2 cE E k1 k2 k3).pure12
end Go.Proofs.Ytkdpfnaaopimoaa
