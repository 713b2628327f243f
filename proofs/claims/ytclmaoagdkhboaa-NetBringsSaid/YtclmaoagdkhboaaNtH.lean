/- Nets: the statement NetSends. -/
import Derived.Test.YtclmaoagdkhboaaNtG
namespace Go.Proofs.Ytclmaoagdkhboaa
open Go.RowKit Go.ChangeShapes Go.WideShapes Go.ChangeAt
open Asn (pt row rb)
set_option linter.unusedVariables false
set_option linter.unusedSimpArgs false
--@use N

section
variable {H : Type} {enc : TypeId × Value → H} {W : World}
set_option maxRecDepth 100000 in
theorem op_said {cs : List Value} (h : Op_ enc Try.prog W 46 cs) : ∃ s : Sd, cs = sdc s ∧ BsD W (sdd s) := by
  obtain ⟨hl, hf⟩ := h.struct Try.underlying46
  have c0 : Try.prog.cellsOf 46 = 2 := by kernel_rfl
  have c2 : Try.prog.cellsOf 3 = 1 := by kernel_rfl
  have c3 : Try.prog.cellsOf 28 = 1 := by kernel_rfl
  rw [c0] at hl
  have g0 : Op_ enc Try.prog W 3 ((cs.drop 0).take (Try.prog.cellsOf 3)) := hf 0 _ rfl
  have g1 : Op_ enc Try.prog W 28 ((cs.drop 1).take (Try.prog.cellsOf 28)) := hf 1 _ rfl
  rw [c2] at g0
  rw [c3] at g1
  obtain ⟨a, ha, _⟩ := Op_.int Try.underlying3 g0
  obtain ⟨A, n, c, l, hc, hbs⟩ := Op_.bytes Try.underlying28 Try.underlying5 (by kernel_rfl) g1
  have hln : l.length = n := by have := hbs.rd.1; simpa using this
  subst hln
  match cs, hl with
  | [u, v], _ =>
    simp at ha hc
    exact ⟨(a, A, c, l), by rw [ha, hc]; rfl, hbs⟩
set_option maxRecDepth 100000 in
theorem op_sending {cs : List Value} (h : Op_ enc Try.prog W 44 cs) : ∃ (fr : Int) (SA : Option Addr) (sc : Nat) (S : List Sd), cs = [.int .i64 fr, .slice SA S.length sc] ∧ Rd W All 2 SA S.length (cellsL sdc S) ∧ RDt W All (S.map sdd) ∧ (∀ s ∈ S, BsD W (sdd s)) ∧ S.length ≤ maxLen := by
  obtain ⟨hl, hf⟩ := h.struct Try.underlying44
  have c0 : Try.prog.cellsOf 44 = 2 := by kernel_rfl
  have c1 : Try.prog.cellsOf 3 = 1 := by kernel_rfl
  have c2 : Try.prog.cellsOf 42 = 1 := by kernel_rfl
  rw [c0] at hl
  have g0 : Op_ enc Try.prog W 3 ((cs.drop 0).take (Try.prog.cellsOf 3)) := hf 0 _ rfl
  have g1 : Op_ enc Try.prog W 42 ((cs.drop 1).take (Try.prog.cellsOf 42)) := hf 1 _ rfl
  rw [c1] at g0
  rw [c2] at g1
  obtain ⟨a, ha, _⟩ := Op_.int Try.underlying3 g0
  obtain ⟨A, n, c, xs, hcs, h1, h2, h3, h4⟩ := g1.slice Try.underlying42 (size := 2) (by kernel_rfl)
  obtain ⟨S, hS, rfl, hall⟩ := rows_of (n := 0) (size := 2) (f := sdc) sdc_len (fun s : Sd => BsD W (sdd s)) _ _ h3.1 fun i hi => op_said (h4 i hi)
  subst hS
  refine ⟨a, A, c, S, ?_, h3, fun d hd => ?_, hall, by omega⟩
  · match cs, hl with
    | [u, v], _ =>
      simp at ha hcs
      rw [ha, hcs]
  · obtain ⟨s, hs, rfl⟩ := List.mem_map.1 hd
    exact Bs.rd (hall s hs)
theorem open_sending {r : Reach} {base : Nat} {v : Value} {d : DataW H} {p : List MemPlace} (hv : Value.okWide Try.prog W r base 44 v) (h : DataW.Trod enc Try.prog W 0 (fun _ => true) true 44 v d p) :
    ∃ (fr : Int) (SA : Option Addr) (sc : Nat) (S : List Sd), v = Value.agg ([.int .i64 fr, .slice SA S.length sc] : List Value).toArray ∧ Rd W All 2 SA S.length (cellsL sdc S) ∧ RDt W All (S.map sdd) ∧ (∀ s ∈ S, BsD W (sdd s)) ∧ S.length ≤ maxLen := by
  obtain ⟨Z, rfl, hZ⟩ := okWide_struct Try.underlying44 hv
  obtain ⟨fr, SA, sc, S, hcs, h1⟩ := op_sending (Op_.of_trod h)
  refine ⟨fr, SA, sc, S, ?_, h1⟩
  have e : Z = (Z.toList).toArray := by simp
  have hcs : Z.toList = [.int .i64 fr, .slice SA S.length sc] := hcs
  rw [e, hcs]
end
set_option maxRecDepth 100000 in
theorem NetSends_open {H : Type} {enc : TypeId × Value → H} (W : World) {r : Reach} (base : Nat) (v0 v1 v2 : Value) {d0 d1 d2 : DataW H} {p0 p1 p2 : List MemPlace}
    (hv0 : Value.okWide Try.prog W r base 25 v0) (hv1 : Value.okWide Try.prog W r base 25 v1) (hv2 : Value.okWide Try.prog W r base 44 v2)
    (h0 : DataW.Trod enc Try.prog W 0 (fun _ => true) true 25 v0 d0 p0) (h1 : DataW.Trod enc Try.prog W 0 (fun _ => true) true 25 v1 d1 p1) (h2 : DataW.Trod enc Try.prog W 0 (fun _ => true) true 44 v2 d2 p2) :
    Calls Try.prog 4 #[v0, v1, v2] W fun e w' => e = .returned (.bool true) ∧ Kp All W w' := by
  obtain ⟨A, c, P, A2, c2', C, rfl, g1, g2, g3, g4, g5, g6⟩ := open_net hv0 h0
  obtain ⟨B1, d, Q, B2, d2', D, rfl, k1, k2, k3, k4, k5, k6⟩ := open_net hv1 h1
  obtain ⟨fr, SA, sc, S, rfl, s1, s2, s3, s4⟩ := open_sending hv2 h2
  exact (sends_any W A c P.length P (P.map pkv) rfl rfl g1 A2 c2' C.length C rfl g2 g4 g3 g5 g6 B1 d Q.length Q (Q.map pkv) rfl rfl k1 B2 d2' D.length D rfl k2 k4 k5 k6 fr SA sc S.length S rfl s1 s2 s3 s4).pure12
end Go.Proofs.Ytclmaoagdkhboaa
