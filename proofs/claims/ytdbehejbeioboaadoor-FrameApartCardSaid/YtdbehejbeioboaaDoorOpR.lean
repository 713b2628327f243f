/- Rows of things that came in, opened. No program's own type is named. -/
import Derived.Test.YtdbehejbeioboaaDoorOpen
import Derived.Test.YtdbehejbeioboaaDoorRk9
namespace Go.Proofs.YtdbehejbeioboaaDoor
open Go.RowKit Go.ChangeShapes Go.WideShapes Go.ChangeAt
set_option linter.unusedVariables false
set_option linter.unusedSimpArgs false
/-- the cells cs may stand where a value of type t came in -/
def Op_ {H : Type} (enc : TypeId × Value → H) (P : Program) (W : World) (t : TypeId) (cs : List Value) : Prop := ∃ m x, DataW.trod enc P W 0 (fun _ => true) true m t cs = some x
section
variable {H : Type} {enc : TypeId × Value → H} {P : Program} {W : World} {r : Reach} {base : Nat} {v : Value} {d : DataW H} {p : List MemPlace} {t e : TypeId} {cs : List Value} {size : Nat}
theorem Op_.of_trod (h : DataW.Trod enc P W 0 (fun _ => true) true t v d p) : Op_ enc P W t v.cells.toList := by
  obtain ⟨fuel, hf⟩ := h
  exact ⟨fuel, _, hf⟩
theorem Op_.int {k : IntKind} (ht : P.underlying t = some (.int k)) (h : Op_ enc P W t cs) : ∃ n, cs = [.int k n] ∧ (Lit.int k n).wf = true := by
  obtain ⟨m, x, h⟩ := h
  obtain ⟨n, h1, _, h2⟩ := DataW.trod_int ht h
  exact ⟨n, h1, h2⟩
theorem Op_.struct {fs : Array Field} (ht : P.underlying t = some (.struct fs)) (h : Op_ enc P W t cs) : cs.length = P.cellsOf t ∧ ∀ (i : Nat) (f : Field), fs[i]? = some f → Op_ enc P W f.type ((cs.drop f.offset).take (P.cellsOf f.type)) := by
  obtain ⟨m, x, h⟩ := h
  obtain ⟨xs, n, _, _, hl, hx, hf⟩ := DataW.trod_struct ht h
  refine ⟨hl, fun i f hi => ?_⟩
  have h1 := hf i f hi
  have hlt : i < xs.length := by rw [hx]; exact (Array.getElem?_eq_some_iff.1 hi).1
  rw [List.getElem?_eq_getElem hlt] at h1
  exact ⟨n, _, h1⟩
theorem Op_.array {m : Nat} (ht : P.underlying t = some (.array m e)) (h : Op_ enc P W t cs) : cs.length = P.cellsOf t ∧ ∀ i, i < m → Op_ enc P W e ((cs.drop (i * P.cellsOf e)).take (P.cellsOf e)) := by
  obtain ⟨f, x, h⟩ := h
  obtain ⟨xs, n, _, _, hl, hx, hf⟩ := DataW.trod_array ht h
  refine ⟨hl, fun i hi => ?_⟩
  have h1 := hf i (by omega)
  rw [List.getElem?_eq_getElem (by omega)] at h1
  exact ⟨n, _, h1⟩
theorem Op_.slice (ht : P.underlying t = some (.slice e)) (hz : P.cellsOf e = size) (h : Op_ enc P W t cs) :
    ∃ A n c xs, cs = [.slice A n c] ∧ n ≤ c ∧ c ≤ maxLen ∧ Rd W All size A n xs ∧ ∀ i, i < n → Op_ enc P W e ((xs.drop (i * size)).take size) := by
  subst hz
  obtain ⟨m, x, h⟩ := h
  rcases DataW.trod_slice ht h with ⟨rfl, _⟩ | ⟨a, len, cap, elems, rest, n, _, rfl, _, _, hlc, hcm, hel, hlen, _⟩
  · exact ⟨none, 0, 0, [], rfl, Nat.le_refl _, by unfold maxLen; omega, Rd.none_, fun i hi => absurd hi (by omega)⟩
  · have key : ∀ i, i < len → ∃ ci : List Value, ci.length = P.cellsOf e ∧ (∀ j, j < P.cellsOf e → W.cell? (a.add (i * P.cellsOf e + j)) = ci[j]?) ∧ Op_ enc P W e ci := fun i hi => by
      have h1 := hlen i hi
      rw [List.getElem?_eq_getElem (by omega)] at h1
      obtain ⟨ci, h2, h3⟩ := Option.bind_eq_some_iff.1 h1
      obtain ⟨_, h4, h5⟩ := World.cells?_some h2
      exact ⟨ci, h4, fun j hj => by rw [← add_of_add]; exact h5 j hj, n, _, h3⟩
    have hcell : ∀ k, k < len * P.cellsOf e → W.cell? (a.add k) ≠ none := fun k hk => by
      have hpos : 0 < P.cellsOf e := by
        rcases Nat.eq_zero_or_pos (P.cellsOf e) with h0 | h0
        · rw [h0, Nat.mul_zero] at hk; omega
        · exact h0
      obtain ⟨ci, hl, hc, _⟩ := key (k / P.cellsOf e) ((Nat.div_lt_iff_lt_mul hpos).2 hk)
      have hm := Nat.mod_lt k hpos
      have h1 := hc (k % P.cellsOf e) hm
      rw [show k / P.cellsOf e * P.cellsOf e + k % P.cellsOf e = k by rw [Nat.mul_comm]; exact Nat.div_add_mod k _] at h1
      rw [h1, List.getElem?_eq_getElem (by omega)]
      simp
    refine ⟨some a, len, cap, (List.range (len * P.cellsOf e)).map fun k => (W.cell? (a.add k)).getD undef, rfl, hlc, hcm, ⟨by simp, fun _ => ⟨a, rfl, trivial, fun j u hu => ?_⟩⟩, fun i hi => ?_⟩
    · rw [List.getElem?_map] at hu
      have hj : j < len * P.cellsOf e := by
        rcases Nat.lt_or_ge j (len * P.cellsOf e) with h | h
        · exact h
        · rw [List.getElem?_eq_none (by simpa using h)] at hu; cases hu
      rw [List.getElem?_range hj] at hu
      have h1 := hcell j hj
      cases hw : W.cell? (a.add j) with
      | none => exact absurd hw h1
      | some u' => simp only [Option.map_some, hw, Option.getD_some] at hu; exact hu
    · obtain ⟨ci, hl, hc, hop⟩ := key i hi
      have e1 : (((List.range (len * P.cellsOf e)).map fun k => (W.cell? (a.add k)).getD undef).drop (i * P.cellsOf e)).take (P.cellsOf e) = ci := by
        apply List.ext_getElem?
        intro j
        rw [List.getElem?_take, List.getElem?_drop]
        split
        · rename_i hj
          have hk : i * P.cellsOf e + j < len * P.cellsOf e := by
            have : (i + 1) * P.cellsOf e ≤ len * P.cellsOf e := Nat.mul_le_mul_right _ hi
            rw [Nat.add_mul, Nat.one_mul] at this
            omega
          rw [List.getElem?_map, List.getElem?_range hk]
          simp only [Option.map_some]
          rw [hc j hj, List.getElem?_eq_getElem (by omega)]
          simp
        · rw [List.getElem?_eq_none (by omega)]
      rw [e1]
      exact hop
/-- a slice of numbers -/
theorem Op_.ints {k : IntKind} (ht : P.underlying t = some (.slice e)) (he : P.underlying e = some (.int k)) (hz : P.cellsOf e = 1) (h : Op_ enc P W t cs) :
    ∃ A n c, ∃ zs : List Int, cs = [.slice A n c] ∧ n ≤ c ∧ c ≤ maxLen ∧ Rd W All 1 A n (zs.map (Value.int k)) ∧ ∀ z ∈ zs, (Lit.int k z).wf = true := by
  obtain ⟨A, n, c, xs, rfl, hnc, hcm, hrd, hop⟩ := h.slice ht hz
  have hl : xs.length = n := by simpa using hrd.1
  have key : ∀ i, (hi : i < n) → ∃ z, xs[i]? = some (.int k z) ∧ (Lit.int k z).wf = true := fun i hi => by
    obtain ⟨z, h1, h2⟩ := (hop i hi).int he
    refine ⟨z, ?_, h2⟩
    have := congrArg (fun l => l[0]?) h1
    simpa [List.getElem?_take, List.getElem?_drop] using this
  refine ⟨A, n, c, (List.range n).map fun i => if hi : i < n then (key i hi).choose else 0, rfl, hnc, hcm, ?_, ?_⟩
  · have e1 : ((List.range n).map fun i => if hi : i < n then (key i hi).choose else 0).map (Value.int k) = xs := by
      apply List.ext_getElem?
      intro j
      rcases Nat.lt_or_ge j n with hj | hj
      · rw [List.getElem?_map, List.getElem?_map, List.getElem?_range hj, (key j hj).choose_spec.1]
        simp [hj]
      · rw [List.getElem?_eq_none (by simpa using hj), List.getElem?_eq_none (by omega)]
    rw [e1]
    exact hrd
  · intro z hz
    obtain ⟨i, hi, rfl⟩ := List.mem_map.1 hz
    have hi' : i < n := by simpa using hi
    simp only [hi', dif_pos]
    exact (key i hi').choose_spec.2
/-- a slice of bytes -/
theorem Op_.bytes (ht : P.underlying t = some (.slice e)) (he : P.underlying e = some (.int .u8)) (hz : P.cellsOf e = 1) (h : Op_ enc P W t cs) :
    ∃ A n c l, cs = [.slice A n c] ∧ Bs W All A n c l := by
  obtain ⟨A, n, c, zs, rfl, hnc, hcm, hrd, hwf⟩ := h.ints ht he hz
  have e1 : zs.map (Value.int .u8) = (zs.map fun z => UInt8.ofNat z.toNat).map bv := by
    rw [List.map_map]
    apply List.map_congr_left
    intro z hz
    have := wf_u8 (hwf z hz)
    simp [bv]
    omega
  rw [e1] at hrd
  exact ⟨A, n, c, _, rfl, ⟨by have := hrd.1; simpa using this.symm, hnc, hcm, hrd⟩⟩
end
end Go.Proofs.YtdbehejbeioboaaDoor
