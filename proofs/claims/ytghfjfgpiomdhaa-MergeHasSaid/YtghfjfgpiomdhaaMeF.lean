/- Three maps that came in, opened; wakes; the laws' closures. -/
import Derived.Test.YtghfjfgpiomdhaaMeE
import Derived.Test.YtghfjfgpiomdhaaPmZ1
namespace Go.Proofs.Ytghfjfgpiomdhaa
open Go.RowKit Go.ChangeShapes Go.WideShapes Go.ChangeAt
open Asn (pt row rb)
set_option linter.unusedVariables false
set_option linter.unusedSimpArgs false
--@use N

theorem Ef.rows {P : Program} {n : Nat} {w0 : World} {M : Nat → Prop} {T : Slots} {H Hr : List Asn} {o : Oper} {X : Type} {V : X → Value} {I : X → Prop} {e : TypeId} {sz : Nat} {a : X → Option Addr} {m c : X → Nat} {xs : X → List Value} (h : Ef P n w0 M T H o (fun u H' => ∃ x, u = V x ∧ I x ∧ H' = row e sz (a x) (m x) (c x) (xs x) :: Hr)) :
    Ef P n w0 M T H o (fun u H' => ∃ x, u = V x ∧ (0 < m x → a x ≠ none) ∧ H' = row e sz (a x) (m x) (c x) (xs x) :: Hr) := h.mono (by
  rintro v H' ⟨x, rfl, _, rfl⟩ w hS
  exact ⟨_, _, rfl, ⟨x, rfl, (row_facts (hS.at_ (A := row e sz (a x) (m x) (c x) (xs x)) (by simp))).2.2.1, rfl⟩, hS⟩)
section
variable {H : Type} {enc : TypeId × Value → H} {W : World}
set_option maxRecDepth 100000 in
theorem op_map {cs : List Value} (h : Op_ enc Try.prog W 24 cs) : ∃ A n c, ∃ L : List Rw, cs = [.slice A n c] ∧ L.length = n ∧ Rd W All 2 A n (cellsL rwc L) := by
  obtain ⟨hl, hf⟩ := h.struct Try.underlying24
  have c0 : Try.prog.cellsOf 24 = 1 := by kernel_rfl
  have c1 : Try.prog.cellsOf 22 = 1 := by kernel_rfl
  rw [c0] at hl
  have g0 : Op_ enc Try.prog W 22 ((cs.drop 0).take (Try.prog.cellsOf 22)) := hf 0 _ rfl
  rw [c1, List.drop_zero, List.take_of_length_le (by omega)] at g0
  obtain ⟨A, n, c, xs, hcs, h1, h2, h3, h4⟩ := g0.slice Try.underlying22 (size := 2) (by kernel_rfl)
  obtain ⟨L, hL, rfl, _⟩ := rows_of (n := 0) (size := 2) (f := rwc) rwc_len (fun _ => True) _ _ h3.1 fun i hi => by
    obtain ⟨x, hx⟩ := open_rw (h4 i hi)
    exact ⟨x, hx, trivial⟩
  have hl2 : L.length = n := by have := h3.1; rw [cellsL_len rwc_len] at this; omega
  exact ⟨A, n, c, L, hcs, hl2, h3⟩
set_option maxRecDepth 100000 in
theorem open_three {r : Reach} {base : Nat} {v : Value} {d : DataW H} {p : List MemPlace} (hv : Value.okWide Try.prog W r base 26 v) (h : DataW.Trod enc Try.prog W 0 (fun _ => true) true 26 v d p) :
    ∃ A1 c1, ∃ L1 : List Rw, ∃ A2 c2, ∃ L2 : List Rw, ∃ A3 c3, ∃ L3 : List Rw, v = .agg #[.slice A1 L1.length c1, .slice A2 L2.length c2, .slice A3 L3.length c3] ∧ Rd W All 2 A1 L1.length (cellsL rwc L1) ∧ Rd W All 2 A2 L2.length (cellsL rwc L2) ∧ Rd W All 2 A3 L3.length (cellsL rwc L3) := by
  obtain ⟨Q, rfl, hQ⟩ := okWide_struct Try.underlying26 hv
  obtain ⟨hl, hf⟩ := (Op_.of_trod h).struct Try.underlying26
  have c0 : Try.prog.cellsOf 26 = 3 := by kernel_rfl
  have c1 : Try.prog.cellsOf 24 = 1 := by kernel_rfl
  rw [c0] at hl
  have hl : Q.toList.length = 3 := hl
  have g0 : Op_ enc Try.prog W 24 ((Q.toList.drop 0).take (Try.prog.cellsOf 24)) := hf 0 _ rfl
  have g1 : Op_ enc Try.prog W 24 ((Q.toList.drop 1).take (Try.prog.cellsOf 24)) := hf 1 _ rfl
  have g2 : Op_ enc Try.prog W 24 ((Q.toList.drop 2).take (Try.prog.cellsOf 24)) := hf 2 _ rfl
  rw [c1] at g0 g1 g2
  obtain ⟨A1, _, k1, L1, e1, rfl, r1⟩ := op_map g0
  obtain ⟨A2, _, k2, L2, e2, rfl, r2⟩ := op_map g1
  obtain ⟨A3, _, k3, L3, e3, rfl, r3⟩ := op_map g2
  refine ⟨A1, k1, L1, A2, k2, L2, A3, k3, L3, ?_, r1, r2, r3⟩
  have e : Q = (Q.toList).toArray := by simp
  rw [e]
  generalize Q.toList = q at hl e1 e2 e3
  match q, hl with
  | [u, v, w], _ =>
    simp at e1 e2 e3
    rw [e1, e2, e3]
end
def wk1 : List Rw := [([97], [49])]
def wk2 : List Rw := [([97], [50])]
def wk3 : List Rw := [([97], [49]), ([98], [51])]
def wk4 : List Rw := [([97], [51])]
def wkR : List Rw := [([97], [50]), ([98], [51])]
theorem wk_F : fitsB (cnfs wk1 wk2 wk3) [] = true := by rw [cnfs_R]; kernel_rfl
theorem wk_U : mgU wk1 wk2 wk3 [] = wkR := by rw [mgU_R wk_F]; kernel_rfl
theorem wk_T : rdy wk1 wk2 wk3 = true := by kernel_rfl
theorem wk_T4 : rdy wk1 wk2 wk4 = true := by kernel_rfl
theorem wk7R : mgR wk1 wk2 wk3 [] = wkR := by
  unfold mgR
  rw [wk_F, wk_U, wk_T, chkC_nil]
  kernel_rfl
theorem wk7E : mgE wk1 wk2 wk3 [] = 0 := by
  unfold mgE
  rw [wk_F, wk_U, wk_T, chkC_nil]
  kernel_rfl
theorem wk_C : ∃ c, cfR wk1 wk2 wk4 = [c] := by
  unfold cfR
  rw [wk_T4, cnfs_R]
  exact ⟨([97], (true, [49]), (true, [50]), (true, [51])), by kernel_rfl⟩
theorem wk_CE : cfE wk1 wk2 wk4 = 0 := by
  unfold cfE
  rw [wk_T4]
  kernel_rfl
theorem wk_pth {L : List Rw} (h : ∀ x ∈ L, x.1.length = 1) : ∀ x ∈ L, x.1.length ≤ 100000 := fun x hx => by rw [h x hx]; omega
set_option maxRecDepth 100000 in
set_option maxHeartbeats 4000000 in
theorem wakes7_any (w : World) :
    Gives Try.prog 9 [] [] w (X := Unit) (fun _ => .bool true) (fun _ => True) (fun _ => []) := by
  refine gives_S Try.func9 rfl Try.ntmps9 Try.results9 (by simp) (St.enter w) (fun B hB => ?_)
  obtain ⟨q, hq⟩ := wk_C
  have p1 : ∀ x ∈ wk1, x.1.length ≤ 100000 := by simp [wk1]
  have p2 : ∀ x ∈ wk2, x.1.length ≤ 100000 := by simp [wk2]
  have p3 : ∀ x ∈ wk3, x.1.length ≤ 100000 := by simp [wk3]
  have p4 : ∀ x ∈ wk4, x.1.length ≤ 100000 := by simp [wk4]
  have p0 : ∀ x ∈ ([] : List Ch), x.1.length ≤ 100000 := by simp
  have hat : (cellsL rwc wkR)[0 * 2 + 1]? = some (sv [50]) := rfl
  have hcm : scmp .eql ([50] : Str) [50] = some true := by kernel_rfl
  have hq0 : (0 : Nat) < 2 := by omega
  focus (refine S_seq rfl ?_; refine S_region rfl rfl ?_; refine R_p rfl ?_ rfl rfl; refine R_nil ?_; refine S_seq rfl ?_; refine S_region rfl rfl ?_; (refine R_eff (E_hv1 (f := 35) ⟨_, Try.func35, rfl, by kernel_rfl⟩ (fun w hS => one_any w [97] [49]) rfl rfl (fun _ => rfl)) ?_ rfl rfl; rintro _ _ ⟨b1, rfl, _, rfl⟩); (refine R_eff (E_hv1 (f := 35) ⟨_, Try.func35, rfl, by kernel_rfl⟩ (fun w hS => one_any w [97] [50]) rfl rfl (fun _ => rfl)) ?_ rfl rfl; rintro _ _ ⟨b2, rfl, _, rfl⟩); refine R_take (T_build2 rfl rfl (rw_built2 [97] [49])) ?_ rfl rfl; refine R_take (T_build2 rfl rfl (rw_built2 [98] [51])) ?_ rfl rfl; (refine R_eff (E_litS (vs := [.agg (rwc ([97], [49])).toArray, .agg (rwc ([98], [51])).toArray]) (size := 2) (ds := cellsL rwc wk3) rfl rfl rfl rfl rfl rfl (by simp [vcells, rwc]) rfl (by omega)) ?_ rfl rfl; rintro _ _ ⟨b4, rfl, rfl⟩); refine R_take (T_build1 rfl (mp_built1 _ _ _)) ?_ rfl rfl; refine R_take (T_build0 ed_built0) ?_ rfl rfl; (refine R_eff (Ef.rows (E_hv1 (f := 13) ⟨_, Try.func13, rfl, by kernel_rfl⟩ (fun w hS => merge_any w (some ⟨b1, 0, none⟩) (some ⟨b2, 0, none⟩) (some ⟨b4, 0, none⟩) 1 1 2 wk1 wk2 wk3 ((Srd.pt (g := b1) (n := 1) (ds := rwc ([97], [49])) rfl (fun j u hj => by rw [Nat.zero_add]; exact hj)).rd w hS) ((Srd.pt (g := b2) (n := 1) (ds := rwc ([97], [50])) rfl (fun j u hj => by rw [Nat.zero_add]; exact hj)).rd w hS) ((Srd.pt (g := b4) (n := 2) (ds := cellsL rwc wk3) rfl (fun j u hj => by rw [Nat.zero_add]; exact hj)).rd w hS) (by decide) (by decide) (by decide) p1 p2 p3 none 0 [] Rd.none_ (by decide) p0) rfl rfl (fun _ => rfl))) ?_ rfl rfl; rintro _ _ ⟨⟨A5, c5⟩, rfl, hne, rfl⟩; rw [wk7R] at hne; rw [wk7R, wk7E, show wkR.length = 2 from rfl]; have hne : 0 < 2 → A5 ≠ none := hne); refine R_p rfl ?_ rfl rfl; refine R_p rfl ?_ rfl rfl; refine R_p rfl ?_ rfl rfl; (refine R_eff (E_alloca rfl mp_alloc) ?_ rfl rfl; rintro _ _ ⟨b7, rfl, rfl⟩); (refine R_eff0 (E_storew (ds := [.slice A5 2 c5]) (cs := [.slice none 0 0]) rfl rfl rfl rfl (sl_one _ _ _) rfl) ?_ rfl; rintro _ _ rfl); refine R_p rfl ?_ rfl rfl; refine R_nil ?_; refine S_seq rfl ?_; refine S_region rfl rfl ?_; (refine R_eff (E_hv1 (f := 35) ⟨_, Try.func35, rfl, by kernel_rfl⟩ (fun w hS => one_any w [97] [49]) rfl rfl (fun _ => rfl)) ?_ rfl rfl; rintro _ _ ⟨b1, rfl, _, rfl⟩); (refine R_eff (E_hv1 (f := 35) ⟨_, Try.func35, rfl, by kernel_rfl⟩ (fun w hS => one_any w [97] [50]) rfl rfl (fun _ => rfl)) ?_ rfl rfl; rintro _ _ ⟨b2, rfl, _, rfl⟩); (refine R_eff (E_hv1 (f := 35) ⟨_, Try.func35, rfl, by kernel_rfl⟩ (fun w hS => one_any w [97] [51]) rfl rfl (fun _ => rfl)) ?_ rfl rfl; rintro _ _ ⟨b3, rfl, _, rfl⟩); ((refine R_eff (E_hv1 (f := 22) ⟨_, Try.func22, rfl, by kernel_rfl⟩ (fun w hS => conflictsF_any w (some ⟨b1, 0, none⟩) (some ⟨b2, 0, none⟩) (some ⟨b3, 0, none⟩) 1 1 1 wk1 wk2 wk4 ((Srd.pt (g := b1) (n := 1) (ds := rwc ([97], [49])) rfl (fun j u hj => by rw [Nat.zero_add]; exact hj)).rd w hS) ((Srd.pt (g := b2) (n := 1) (ds := rwc ([97], [50])) rfl (fun j u hj => by rw [Nat.zero_add]; exact hj)).rd w hS) ((Srd.pt (g := b3) (n := 1) (ds := rwc ([97], [51])) rfl (fun j u hj => by rw [Nat.zero_add]; exact hj)).rd w hS) (by decide) (by decide) (by decide) p1 p2 p4) rfl rfl (fun _ => rfl)) ?_ rfl rfl; rintro _ _ ⟨⟨A6, c6⟩, rfl, _, rfl⟩); rw [hq, wk_CE]); refine R_p rfl ?_ rfl rfl; refine R_p rfl ?_ rfl rfl; refine R_p rfl ?_ rfl rfl; refine R_p rfl ?_ rfl rfl; refine R_p rfl ?_ rfl rfl; refine R_nil ?_; refine S_seq rfl ?_; refine S_region rfl rfl ?_; refine R_p rfl ?_ rfl rfl; refine R_take (T_decT rfl (by decide)) ?_ rfl rfl; refine R_p rfl ?_ rfl rfl; refine R_p rfl ?_ rfl rfl; refine R_take (T_decT rfl (by decide)) ?_ rfl rfl; refine R_p rfl ?_ rfl rfl; refine R_p rfl ?_ rfl rfl; refine R_p rfl ?_ rfl rfl; refine R_take (T_load rfl rfl rfl (by first | rfl | assumption)) ?_ rfl rfl; refine R_p rfl ?_ rfl rfl; refine R_take (T_decT rfl (by decide)) ?_ rfl rfl; refine R_p rfl ?_ rfl rfl; refine R_p rfl ?_ rfl rfl; refine R_p rfl ?_ rfl rfl; refine R_take (T_load rfl rfl rfl (by first | rfl | assumption)) ?_ rfl rfl; refine R_take (T_ixM (sz := 2) (q := 0) rfl rfl rfl rfl rfl rfl (hne (by omega)) hq0) ?_ rfl rfl; refine R_take (T_fap rfl rfl rfl rfl rfl (hne (by omega))) ?_ rfl rfl; refine R_take (T_ldr rfl rfl rfl (Srd.row (n := 2) (c := c5)) (by omega) hat) ?_ rfl rfl; refine R_take (T_scm (a := [50]) (b := [50]) rfl rfl hcm) ?_ rfl rfl; refine R_p rfl ?_ rfl rfl; refine R_p rfl ?_ rfl rfl; refine R_p rfl ?_ rfl rfl; refine R_p rfl ?_ rfl rfl; refine R_p rfl ?_ rfl rfl; refine R_p rfl ?_ rfl rfl; refine R_p rfl ?_ rfl rfl; refine R_nil ?_)
  exact hB _ _ _ _ _ rfl rfl fun w' hS => ⟨(), rfl, trivial, hS.sublist (List.nil_sublist _)⟩
set_option maxRecDepth 100000 in
set_option maxHeartbeats 4000000 in
theorem no1_any (w : World) (want e : Int) (be bm : Nat) (A : Option Addr) (n c : Nat) (h1 : Rd w All 1 (some ⟨be, 0, none⟩) 1 [zi e]) (h2 : Rd w All 1 (some ⟨bm, 0, none⟩) 1 [.slice A n c]) (h : e = want ∧ n = 0) :
    Gives Try.prog 14 [zi want, .pointer (some ⟨be, 0, none⟩), .pointer (some ⟨bm, 0, none⟩)] [] w (X := Unit) (fun _ => .bool true) (fun _ => True) (fun _ => []) := by
  refine gives_S Try.func14 rfl Try.ntmps14 Try.results14 (by simp) (St.enter w) (fun B hB => ?_)
  obtain ⟨rfl, rfl⟩ := h
  focus (refine S_seq rfl ?_; refine S_region rfl rfl ?_; refine R_p rfl ?_ rfl rfl; refine R_nil ?_; refine S_seq rfl ?_; refine S_region rfl rfl ?_; refine R_take (T_loadg rfl rfl rfl h1 (fun k _ => noOwns k) rfl) ?_ rfl rfl; refine R_p rfl ?_ rfl rfl; refine R_take (T_decT rfl (by omega)) ?_ rfl rfl; refine R_p rfl ?_ rfl rfl; refine R_p rfl ?_ rfl rfl; refine R_take (T_loadg rfl rfl rfl h2 (fun k _ => noOwns k) rfl) ?_ rfl rfl; refine R_p rfl ?_ rfl rfl; refine R_take (T_decT rfl (by omega)) ?_ rfl rfl; refine R_p rfl ?_ rfl rfl; refine R_p rfl ?_ rfl rfl; refine R_nil ?_)
  exact hB _ _ _ _ _ rfl rfl fun w' hS => ⟨(), rfl, trivial, hS.sublist (List.nil_sublist _)⟩
set_option maxRecDepth 100000 in
set_option maxHeartbeats 4000000 in
theorem no2_any (w : World) (want e : Int) (be bm : Nat) (A : Option Addr) (n c : Nat) (h1 : Rd w All 1 (some ⟨be, 0, none⟩) 1 [zi e]) (h2 : Rd w All 1 (some ⟨bm, 0, none⟩) 1 [.slice A n c]) (h : e = want ∧ n = 0) :
    Gives Try.prog 31 [zi want, .pointer (some ⟨be, 0, none⟩), .pointer (some ⟨bm, 0, none⟩)] [] w (X := Unit) (fun _ => .bool true) (fun _ => True) (fun _ => []) := by
  refine gives_S Try.func31 rfl Try.ntmps31 Try.results31 (by simp) (St.enter w) (fun B hB => ?_)
  obtain ⟨rfl, rfl⟩ := h
  focus (refine S_seq rfl ?_; refine S_region rfl rfl ?_; refine R_p rfl ?_ rfl rfl; refine R_nil ?_; refine S_seq rfl ?_; refine S_region rfl rfl ?_; refine R_take (T_loadg rfl rfl rfl h1 (fun k _ => noOwns k) rfl) ?_ rfl rfl; refine R_p rfl ?_ rfl rfl; refine R_take (T_decT rfl (by omega)) ?_ rfl rfl; refine R_p rfl ?_ rfl rfl; refine R_p rfl ?_ rfl rfl; refine R_take (T_loadg rfl rfl rfl h2 (fun k _ => noOwns k) rfl) ?_ rfl rfl; refine R_p rfl ?_ rfl rfl; refine R_take (T_decT rfl (by omega)) ?_ rfl rfl; refine R_p rfl ?_ rfl rfl; refine R_p rfl ?_ rfl rfl; refine R_nil ?_)
  exact hB _ _ _ _ _ rfl rfl fun w' hS => ⟨(), rfl, trivial, hS.sublist (List.nil_sublist _)⟩
set_option maxRecDepth 100000 in
set_option maxHeartbeats 4000000 in
theorem hasL_any (w : World) (A : Option Addr) (n c : Nat) (L : List Rw) (p : Str) (h : Rd w All 2 A n (cellsL rwc L)) (hn : n ≤ 100000) :
    Gives Try.prog 27 [.agg #[.slice A n c], sv p] [] w (X := Unit) (fun _ => .agg (sdc (sideOf L p)).toArray) (fun _ => True) (fun _ => []) := by
  refine gives_C Try.func27 rfl Try.ntmps27 Try.results27 (by simp) (St.enter w) (fun B hB => ?_)
  obtain ⟨o, ho⟩ : ∃ o, fstK (·.1) L p = o := ⟨_, rfl⟩
  have hs : sideOf L p = (o.isSome, gt o) := by rw [sideOf, ho]
  rw [hs] at hB
  focus (refine S_seq rfl ?_; refine S_region rfl rfl ?_; (refine R_eff (E_boxa (cs := [.slice A n c]) rfl) ?_ rfl rfl; rintro _ _ ⟨b2, rfl, rfl⟩); (refine R_eff (E_alloca rfl sd_zero) ?_ rfl rfl; rintro _ _ ⟨b4, rfl, rfl⟩); refine R_nil ?_; refine S_seq rfl ?_; refine S_region rfl rfl ?_; refine R_take (T_loada (ds := [.slice A n c]) rfl rfl rfl rfl (fun j v h => by simpa using h)) ?_ rfl rfl; refine R_p rfl ?_ rfl rfl; (refine R_eff (E_getW (L := L) (p := p) (m := n) (c := c) (A := A) rfl rfl (Srd.old h (fun k _ => noOwns k)) hn ho) ?_ rfl rfl; rintro _ _ ⟨rfl, rfl⟩); refine R_p rfl ?_ rfl rfl; refine R_p rfl ?_ rfl rfl; refine R_p rfl ?_ rfl rfl; refine R_p rfl ?_ rfl rfl; refine R_p rfl ?_ rfl rfl; refine R_nil ?_; refine S_seq rfl ?_; refine S_region rfl rfl ?_; refine R_p rfl ?_ rfl rfl; refine R_p rfl ?_ rfl rfl; refine R_take (T_build2 rfl rfl (sd_built2 _ _)) ?_ rfl rfl; (refine R_eff0 (E_storew (cs := sdc default) (ds := sdc (o.isSome, gt o)) rfl rfl rfl rfl (sdc_one _) rfl) ?_ rfl; rintro _ _ rfl); refine R_nil ?_)
  refine hB _ _ _ _ _ rfl (.cell rfl rfl rfl inferInstance rfl .nil) fun w' hS => ⟨(), rfl, trivial, hS.sublist (List.nil_sublist _)⟩
end Go.Proofs.Ytghfjfgpiomdhaa
