/- A command that came in, opened. -/
import Derived.Test.YtleecfhafnfeoaaOpen
import Derived.Test.YtleecfhafnfeoaaCm3
namespace Go.Proofs.Ytleecfhafnfeoaa
open Go.RowKit Go.ChangeShapes Go.WideShapes Go.ChangeAt
set_option linter.unusedVariables false
set_option linter.unusedSimpArgs false
section
variable {H : Type} {enc : TypeId × Value → H} {W : World} {r : Reach} {base : Nat} {v : Value} {d : DataW H} {p : List MemPlace}
theorem open_id {m : Nat} {cs : List Value} {x : DataW H × List MemPlace} (h : DataW.trod enc Try.prog W 0 (fun _ => true) true m 24 cs = some x) : ∃ l : List UInt8, l.length = 32 ∧ cs = l.map bv := by
  obtain ⟨xs, m', _, _, hl, hx, hf⟩ := DataW.trod_array Try.underlying24 h
  have c1 : Try.prog.cellsOf 5 = 1 := by kernel_rfl
  have c2 : Try.prog.cellsOf 24 = 32 := by kernel_rfl
  rw [c2] at hl
  have key : ∀ i, (hi : i < cs.length) → ∃ b : UInt8, cs[i] = bv b := fun i hi => by
    have h1 := hf i (by omega)
    rw [c1, Nat.mul_one] at h1
    have h2 : (cs.drop i).take 1 = [cs[i]] := by
      rw [List.drop_eq_getElem_cons hi]
      rfl
    rw [h2] at h1
    obtain ⟨y, hy⟩ : ∃ y, xs[i]? = some y := ⟨_, List.getElem?_eq_getElem (by omega)⟩
    rw [hy] at h1
    obtain ⟨z, e, _, hz⟩ := DataW.trod_int Try.underlying5 h1
    have hb := wf_u8 hz
    refine ⟨UInt8.ofNat z.toNat, ?_⟩
    injection e with e
    rw [e]
    simp [bv]
    omega
  refine ⟨(List.range 32).map fun i => if hi : i < cs.length then (key i hi).choose else 0, by simp, ?_⟩
  apply List.ext_getElem
  · simp [hl]
  · intro i h1 h2
    have := (key i h1).choose_spec
    simp [h1, ← this]
theorem open_bytes' {m : Nat} {cs : List Value} {x : DataW H × List MemPlace} (h : DataW.trod enc Try.prog W 0 (fun _ => true) true m 25 cs = some x) : ∃ A n c l, cs = [.slice A n c] ∧ Bs W All A n c l := by
  rcases open_ints Try.underlying25 Try.underlying5 (by kernel_rfl) h with ⟨hcs, _⟩ | ⟨x, len0, cap0, zs, hcs, _, hl, hm, hz, _, hcell, hwz⟩
  · exact ⟨none, 0, 0, [], hcs, Bs.nil _ _⟩
  · have hz' : zs.length = cap0 := by simpa using hz
    refine ⟨_, _, _, (zs.take len0).map fun z => UInt8.ofNat z.toNat, hcs, ⟨by simp; omega, hl, hm, by simp; omega, fun _ => ⟨x, rfl, trivial, fun j u hu => ?_⟩⟩⟩
    rw [List.getElem?_map, List.getElem?_map, List.getElem?_take] at hu
    split at hu
    · have hj : j < zs.length := by omega
      rw [List.getElem?_eq_getElem hj] at hu
      simp at hu
      subst hu
      rw [hcell j hj]
      have := wf_u8 (hwz zs[j] (List.getElem_mem hj))
      simp [hj, bv]
      omega
    · simp at hu
theorem cells_split (cs : List Value) (h : cs.length = 69) : cs = (cs.drop 0).take 1 ++ (cs.drop 1).take 1 ++ (cs.drop 2).take 1 ++ (cs.drop 3).take 1 ++ (cs.drop 4).take 32 ++ (cs.drop 36).take 32 ++ (cs.drop 68).take 1 := by
  have step : ∀ (a b : Nat), (cs.drop a) = (cs.drop a).take b ++ cs.drop (a + b) := fun a b => by rw [← List.drop_drop, List.take_append_drop]
  have e6 : cs.drop 68 = (cs.drop 68).take 1 := by rw [List.take_of_length_le (by simp [h])]
  simp only [List.append_assoc]
  rw [← e6, ← step 36 32, ← step 4 32, ← step 3 1, ← step 2 1, ← step 1 1, ← step 0 1]
  rfl
theorem open_cmd (hv : Value.okWide Try.prog W r base 27 v) (h : DataW.Trod enc Try.prog W 0 (fun _ => true) true 27 v d p) :
    ∃ k c s br old new A n cp l, v = .agg (cmdL k c s br old new A n cp).toArray ∧ old.length = 32 ∧ new.length = 32 ∧ br.size ≤ maxLen ∧ s < 4294967296 ∧ Bs W All A n cp l := by
  obtain ⟨C, rfl, hC⟩ := okWide_struct Try.underlying27 hv
  obtain ⟨fuel, hf⟩ := h
  have c0 : Try.prog.cellsOf 27 = 69 := by kernel_rfl
  have c1 : Try.prog.cellsOf 3 = 1 := by kernel_rfl
  have c2 : Try.prog.cellsOf 22 = 1 := by kernel_rfl
  have c3 : Try.prog.cellsOf 9 = 1 := by kernel_rfl
  have c4 : Try.prog.cellsOf 24 = 32 := by kernel_rfl
  have c5 : Try.prog.cellsOf 25 = 1 := by kernel_rfl
  rw [c0] at hC
  have hcells : (Value.agg C).cells.toList = C.toList := rfl
  rw [hcells] at hf
  obtain ⟨xs, m, _, _, _, hxl, hfs⟩ := DataW.trod_struct Try.underlying27 hf
  have hxl : xs.length = 7 := hxl
  have g0 : DataW.trod enc Try.prog W 0 (fun _ => true) true m 3 ((C.toList.drop 0).take (Try.prog.cellsOf 3)) = xs[0]? := hfs 0 _ rfl
  have g1 : DataW.trod enc Try.prog W 0 (fun _ => true) true m 3 ((C.toList.drop 1).take (Try.prog.cellsOf 3)) = xs[1]? := hfs 1 _ rfl
  have g2 : DataW.trod enc Try.prog W 0 (fun _ => true) true m 22 ((C.toList.drop 2).take (Try.prog.cellsOf 22)) = xs[2]? := hfs 2 _ rfl
  have g3 : DataW.trod enc Try.prog W 0 (fun _ => true) true m 9 ((C.toList.drop 3).take (Try.prog.cellsOf 9)) = xs[3]? := hfs 3 _ rfl
  have g4 : DataW.trod enc Try.prog W 0 (fun _ => true) true m 24 ((C.toList.drop 4).take (Try.prog.cellsOf 24)) = xs[4]? := hfs 4 _ rfl
  have g5 : DataW.trod enc Try.prog W 0 (fun _ => true) true m 24 ((C.toList.drop 36).take (Try.prog.cellsOf 24)) = xs[5]? := hfs 5 _ rfl
  have g6 : DataW.trod enc Try.prog W 0 (fun _ => true) true m 25 ((C.toList.drop 68).take (Try.prog.cellsOf 25)) = xs[6]? := hfs 6 _ rfl
  rw [c1] at g0 g1
  rw [c2] at g2
  rw [c3] at g3
  rw [c4] at g4 g5
  rw [c5] at g6
  rw [List.getElem?_eq_getElem (by omega)] at g0 g1 g2 g3 g4 g5 g6
  obtain ⟨k, e0, _, _⟩ := DataW.trod_int Try.underlying3 g0
  obtain ⟨c, e1, _, _⟩ := DataW.trod_int Try.underlying3 g1
  obtain ⟨s, e2, _, w2⟩ := DataW.trod_int Try.underlying22 g2
  obtain ⟨br, e3, _, w3⟩ := DataW.trod_string Try.underlying9 g3
  obtain ⟨old, lo, e4⟩ := open_id g4
  obtain ⟨new, ln, e5⟩ := open_id g5
  obtain ⟨A, n, cp, l, e6, hb⟩ := open_bytes' g6
  have hs := bounds_u32 w2
  refine ⟨k, c, s.toNat, br, old, new, A, n, cp, l, ?_, lo, ln, w3, by omega, hb⟩
  have hsp := cells_split C.toList (by simpa using hC)
  rw [e0, e1, e2, e3, e4, e5, e6] at hsp
  have : C = (C.toList).toArray := by simp
  rw [this, hsp]
  simp [cmdL]
  omega
end
end Go.Proofs.Ytleecfhafnfeoaa
