/- Maps and edits that come in. -/
import Derived.Test.YtebbnbddlnpldaaPmH
import Derived.Test.YtebbnbddlnpldaaOpR
namespace Go.Proofs.Ytebbnbddlnpldaa
open Go.RowKit Go.ChangeShapes Go.WideShapes Go.ChangeAt
open Asn (pt row rb)
set_option linter.unusedVariables false
set_option linter.unusedSimpArgs false

theorem sv_bl (s : ByteArray) : Value.string s = sv (bl s) := by
  simp [sv, bl, Lib.toList_data]
section
variable {H : Type} {enc : TypeId × Value → H} {W : World}
theorem Op_.boolean {P : Program} {t : TypeId} {cs : List Value} (ht : P.underlying t = some .bool) (h : Op_ enc P W t cs) : ∃ b, cs = [.bool b] := by
  obtain ⟨m, x, h⟩ := h
  obtain ⟨n, h1, _⟩ := DataW.trod_bool ht h
  exact ⟨n, h1⟩
set_option maxRecDepth 100000 in
theorem open_rw {cs : List Value} (h : Op_ enc Try.prog W 56 cs) : ∃ x : Rw, cs = rwc x := by
  obtain ⟨hl, hf⟩ := h.struct Try.underlying56
  have c0 : Try.prog.cellsOf 56 = 2 := by kernel_rfl
  have c1 : Try.prog.cellsOf 9 = 1 := by kernel_rfl
  rw [c0] at hl
  have g0 : Op_ enc Try.prog W 9 ((cs.drop 0).take (Try.prog.cellsOf 9)) := hf 0 _ rfl
  have g1 : Op_ enc Try.prog W 9 ((cs.drop 1).take (Try.prog.cellsOf 9)) := hf 1 _ rfl
  rw [c1] at g0 g1
  obtain ⟨a, ha, _⟩ := Op_.str Try.underlying9 g0
  obtain ⟨b, hb, _⟩ := Op_.str Try.underlying9 g1
  match cs, hl with
  | [u, v], _ =>
    simp at ha hb
    exact ⟨(bl a, bl b), by rw [ha, hb, sv_bl, sv_bl]; rfl⟩
set_option maxRecDepth 100000 in
theorem open_ch {cs : List Value} (h : Op_ enc Try.prog W 42 cs) : ∃ x : Ch, cs = chc x := by
  obtain ⟨hl, hf⟩ := h.struct Try.underlying42
  have c0 : Try.prog.cellsOf 42 = 3 := by kernel_rfl
  have c1 : Try.prog.cellsOf 9 = 1 := by kernel_rfl
  have c2 : Try.prog.cellsOf 4 = 1 := by kernel_rfl
  rw [c0] at hl
  have g0 : Op_ enc Try.prog W 9 ((cs.drop 0).take (Try.prog.cellsOf 9)) := hf 0 _ rfl
  have g1 : Op_ enc Try.prog W 4 ((cs.drop 1).take (Try.prog.cellsOf 4)) := hf 1 _ rfl
  have g2 : Op_ enc Try.prog W 9 ((cs.drop 2).take (Try.prog.cellsOf 9)) := hf 2 _ rfl
  rw [c1] at g0 g2
  rw [c2] at g1
  obtain ⟨a, ha, _⟩ := Op_.str Try.underlying9 g0
  obtain ⟨q, hq⟩ := Op_.boolean Try.underlying4 g1
  obtain ⟨b, hb, _⟩ := Op_.str Try.underlying9 g2
  match cs, hl with
  | [u, v, w], _ =>
    simp at ha hb hq
    exact ⟨(bl a, q, bl b), by rw [ha, hb, hq, sv_bl, sv_bl]; rfl⟩
set_option maxRecDepth 100000 in
theorem open_map {r : Reach} {base : Nat} {v : Value} {d : DataW H} {p : List MemPlace} (hv : Value.okWide Try.prog W r base 24 v) (h : DataW.Trod enc Try.prog W 0 (fun _ => true) true 24 v d p) :
    ∃ A n c, ∃ L : List Rw, v = .agg #[.slice A n c] ∧ n ≤ c ∧ c ≤ maxLen ∧ Rd W All 2 A n (cellsL rwc L) := by
  obtain ⟨Q, rfl, hQ⟩ := okWide_struct Try.underlying24 hv
  obtain ⟨hl, hf⟩ := (Op_.of_trod h).struct Try.underlying24
  have c0 : Try.prog.cellsOf 24 = 1 := by kernel_rfl
  have c1 : Try.prog.cellsOf 22 = 1 := by kernel_rfl
  rw [c0] at hl
  have hl : Q.toList.length = 1 := hl
  have g0 : Op_ enc Try.prog W 22 ((Q.toList.drop 0).take (Try.prog.cellsOf 22)) := hf 0 _ rfl
  rw [c1, List.drop_zero, List.take_of_length_le (by omega)] at g0
  obtain ⟨A, n, c, xs, hcs, h1, h2, h3, h4⟩ := g0.slice Try.underlying22 (size := 2) (by kernel_rfl)
  obtain ⟨L, _, rfl, _⟩ := rows_of (n := 0) (size := 2) (f := rwc) rwc_len (fun _ => True) _ _ h3.1 fun i hi => by
    obtain ⟨x, hx⟩ := open_rw (h4 i hi)
    exact ⟨x, hx, trivial⟩
  refine ⟨A, n, c, L, ?_, h1, h2, h3⟩
  have : Q = (Q.toList).toArray := by simp
  rw [this, hcs]
set_option maxRecDepth 100000 in
theorem open_edit {r : Reach} {base : Nat} {v : Value} {d : DataW H} {p : List MemPlace} (hv : Value.okWide Try.prog W r base 27 v) (h : DataW.Trod enc Try.prog W 0 (fun _ => true) true 27 v d p) :
    ∃ A n c, ∃ L : List Ch, v = .agg #[.slice A n c] ∧ n ≤ c ∧ c ≤ maxLen ∧ Rd W All 3 A n (cellsL chc L) := by
  obtain ⟨Q, rfl, hQ⟩ := okWide_struct Try.underlying27 hv
  obtain ⟨hl, hf⟩ := (Op_.of_trod h).struct Try.underlying27
  have c0 : Try.prog.cellsOf 27 = 1 := by kernel_rfl
  have c1 : Try.prog.cellsOf 25 = 1 := by kernel_rfl
  rw [c0] at hl
  have hl : Q.toList.length = 1 := hl
  have g0 : Op_ enc Try.prog W 25 ((Q.toList.drop 0).take (Try.prog.cellsOf 25)) := hf 0 _ rfl
  rw [c1, List.drop_zero, List.take_of_length_le (by omega)] at g0
  obtain ⟨A, n, c, xs, hcs, h1, h2, h3, h4⟩ := g0.slice Try.underlying25 (size := 3) (by kernel_rfl)
  obtain ⟨L, _, rfl, _⟩ := rows_of (n := 0) (size := 3) (f := chc) chc_len (fun _ => True) _ _ h3.1 fun i hi => by
    obtain ⟨x, hx⟩ := open_ch (h4 i hi)
    exact ⟨x, hx, trivial⟩
  refine ⟨A, n, c, L, ?_, h1, h2, h3⟩
  have : Q = (Q.toList).toArray := by simp
  rw [this, hcs]
end
end Go.Proofs.Ytebbnbddlnpldaa
