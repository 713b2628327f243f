/- Nets that came in, opened; the statement NetTakes. -/
import Derived.Test.YtclmaoagdkhboaaNtD
import Derived.Test.YtclmaoagdkhboaaOpen
namespace Go.Proofs.Ytclmaoagdkhboaa
open Go.RowKit Go.ChangeShapes Go.WideShapes Go.ChangeAt
open Asn (pt row rb)
set_option linter.unusedVariables false
set_option linter.unusedSimpArgs false
--@use N

section
variable {H : Type} {enc : TypeId × Value → H} {W : World}
set_option maxRecDepth 100000 in
theorem op_pk {cs : List Value} (h : Op_ enc Try.prog W 30 cs) : ∃ m : Pk, cs = pkc m ∧ BsP W m := by
  obtain ⟨hl, hf⟩ := h.struct Try.underlying30
  have c0 : Try.prog.cellsOf 30 = 3 := by kernel_rfl
  have c2 : Try.prog.cellsOf 3 = 1 := by kernel_rfl
  have c3 : Try.prog.cellsOf 28 = 1 := by kernel_rfl
  rw [c0] at hl
  have g0 : Op_ enc Try.prog W 3 ((cs.drop 0).take (Try.prog.cellsOf 3)) := hf 0 _ rfl
  have g1 : Op_ enc Try.prog W 3 ((cs.drop 1).take (Try.prog.cellsOf 3)) := hf 1 _ rfl
  have g2 : Op_ enc Try.prog W 28 ((cs.drop 2).take (Try.prog.cellsOf 28)) := hf 2 _ rfl
  rw [c2] at g0 g1
  rw [c3] at g2
  obtain ⟨a, ha, _⟩ := Op_.int Try.underlying3 g0
  obtain ⟨b, hb, _⟩ := Op_.int Try.underlying3 g1
  obtain ⟨A, n, c, l, hc, hbs⟩ := Op_.bytes Try.underlying28 Try.underlying5 (by kernel_rfl) g2
  have hln : l.length = n := by have := hbs.rd.1; simpa using this
  subst hln
  match cs, hl with
  | [u, v, w], _ =>
    simp at ha hb hc
    exact ⟨(a, b, A, c, l), by rw [ha, hb, hc]; rfl, hbs⟩
set_option maxRecDepth 100000 in
theorem op_ct {cs : List Value} (h : Op_ enc Try.prog W 73 cs) : ∃ m : Ct, cs = ctc m := by
  obtain ⟨hl, hf⟩ := h.struct Try.underlying73
  have c0 : Try.prog.cellsOf 73 = 2 := by kernel_rfl
  have c2 : Try.prog.cellsOf 3 = 1 := by kernel_rfl
  rw [c0] at hl
  have g0 : Op_ enc Try.prog W 3 ((cs.drop 0).take (Try.prog.cellsOf 3)) := hf 0 _ rfl
  have g1 : Op_ enc Try.prog W 3 ((cs.drop 1).take (Try.prog.cellsOf 3)) := hf 1 _ rfl
  rw [c2] at g0 g1
  obtain ⟨a, ha, _⟩ := Op_.int Try.underlying3 g0
  obtain ⟨b, hb, _⟩ := Op_.int Try.underlying3 g1
  match cs, hl with
  | [u, v], _ =>
    simp at ha hb
    exact ⟨(a, b), by rw [ha, hb]; rfl⟩
set_option maxRecDepth 100000 in
theorem op_net {cs : List Value} (h : Op_ enc Try.prog W 25 cs) : ∃ (A : Option Addr) (c : Nat) (P : List Pk) (A2 : Option Addr) (c2' : Nat) (C : List Ct), cs = ntc A P.length c A2 C.length c2' ∧ Rd W All 3 A P.length (cellsL pkc P) ∧ Rd W All 2 A2 C.length (cellsL ctc C) ∧ RDt W All (P.map pkd) ∧ (∀ m ∈ P, BsP W m) ∧ P.length ≤ maxLen ∧ C.length ≤ maxLen := by
  obtain ⟨hl, hf⟩ := h.struct Try.underlying25
  have c0 : Try.prog.cellsOf 25 = 2 := by kernel_rfl
  have c1 : Try.prog.cellsOf 22 = 1 := by kernel_rfl
  have c2 : Try.prog.cellsOf 23 = 1 := by kernel_rfl
  rw [c0] at hl
  have g0 : Op_ enc Try.prog W 22 ((cs.drop 0).take (Try.prog.cellsOf 22)) := hf 0 _ rfl
  have g1 : Op_ enc Try.prog W 23 ((cs.drop 1).take (Try.prog.cellsOf 23)) := hf 1 _ rfl
  rw [c1] at g0
  rw [c2] at g1
  obtain ⟨A, n, c, xs, hcs, h1, h2, h3, h4⟩ := g0.slice Try.underlying22 (size := 3) (by kernel_rfl)
  obtain ⟨A2, n2, c2', xs2, hcs2, k1, k2, k3, k4⟩ := g1.slice Try.underlying23 (size := 2) (by kernel_rfl)
  obtain ⟨P, hP, rfl, hall⟩ := rows_of (n := 0) (size := 3) (f := pkc) pkc_len (fun m : Pk => BsP W m) _ _ h3.1 fun i hi => op_pk (h4 i hi)
  obtain ⟨C, hC, rfl, _⟩ := rows_of (n := 0) (size := 2) (f := ctc) ctc_len (fun _ : Ct => True) _ _ k3.1 fun i hi => by
    obtain ⟨m, hm⟩ := op_ct (k4 i hi)
    exact ⟨m, hm, trivial⟩
  subst hP
  subst hC
  refine ⟨A, c, P, A2, c2', C, ?_, h3, k3, fun d hd => ?_, hall, by omega, by omega⟩
  · match cs, hl with
    | [u, v], _ =>
      simp at hcs hcs2
      rw [hcs, hcs2]
      rfl
  · obtain ⟨m, hm, rfl⟩ := List.mem_map.1 hd
    exact (hall m hm).rd
theorem open_net {r : Reach} {base : Nat} {v : Value} {d : DataW H} {p : List MemPlace} (hv : Value.okWide Try.prog W r base 25 v) (h : DataW.Trod enc Try.prog W 0 (fun _ => true) true 25 v d p) :
    ∃ (A : Option Addr) (c : Nat) (P : List Pk) (A2 : Option Addr) (c2' : Nat) (C : List Ct), v = .agg (ntc A P.length c A2 C.length c2').toArray ∧ Rd W All 3 A P.length (cellsL pkc P) ∧ Rd W All 2 A2 C.length (cellsL ctc C) ∧ RDt W All (P.map pkd) ∧ (∀ m ∈ P, BsP W m) ∧ P.length ≤ maxLen ∧ C.length ≤ maxLen := by
  obtain ⟨Z, rfl, hZ⟩ := okWide_struct Try.underlying25 hv
  obtain ⟨A, c, P, A2, c2', C, hcs, h1⟩ := op_net (Op_.of_trod h)
  refine ⟨A, c, P, A2, c2', C, ?_, h1⟩
  have e : Z = (Z.toList).toArray := by simp
  have hcs : Z.toList = ntc A P.length c A2 C.length c2' := hcs
  rw [e, hcs]
end
set_option maxRecDepth 100000 in
theorem NetTakes_open {H : Type} {enc : TypeId × Value → H} (W : World) {r : Reach} (base : Nat) (v0 v1 : Value) {d0 d1 : DataW H} {p0 p1 : List MemPlace}
    (hv0 : Value.okWide Try.prog W r base 25 v0) (hv1 : Value.okWide Try.prog W r base 3 v1)
    (h0 : DataW.Trod enc Try.prog W 0 (fun _ => true) true 25 v0 d0 p0) (h1 : DataW.Trod enc Try.prog W 0 (fun _ => true) true 3 v1 d1 p1) :
    Calls Try.prog 3 #[v0, v1] W fun e w' => e = .returned (.bool true) ∧ Kp All W w' := by
  obtain ⟨A, c, P, A2, c2', C, rfl, g1, g2, g3, g4, g5, g6⟩ := open_net hv0 h0
  obtain ⟨z, rfl⟩ := okWide_int Try.underlying3 hv1
  exact (takes_any W A c P.length P (P.map pkv) rfl rfl g1 A2 c2' C.length C rfl g2 g3 g4 g5 g6 z).pure12
end Go.Proofs.Ytclmaoagdkhboaa
