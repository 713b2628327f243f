/- What the listed variable gives; arguments, opened. -/
import Derived.Test.YtemgfoakffappaaDoorShD
import Derived.Test.YtemgfoakffappaaDoorRows
import Derived.Test.YtemgfoakffappaaDoorOpen
import Derived.LaidMore
import Derived.Stop.Joined
namespace Go.Proofs.YtemgfoakffappaaDoor
open Go.RowKit Go.ChangeShapes Go.WideShapes Go.ChangeAt
open Asn (pt row rb)
set_option linter.unusedVariables false
set_option linter.unusedSimpArgs false
def rootsI : List Int := rootsL.map fun x => (x.toNat : Int)
theorem roots_datum : (Rows.laid_confluence_sha_roots : DataW Unit) = .agg (rootsI.map fun k => .lit (.int .u32 k)) := by kernel_rfl
theorem rootsI_len : rootsI.length = 64 := rfl
theorem laid_roots {W : World} (h : laidMetH Tryd.prog [("confluence/sha.roots", Rows.laid_confluence_sha_roots)] W) : Roots W := by
  rw [MakeChecks.laidMetH_plain _ _ _ (by kernel_rfl)] at h
  obtain ⟨ps, ⟨g0, t0, cs0, f0, p0, q0, hg0, ht0, hv0, hd0, _, _⟩, _, _⟩ := h
  obtain rfl := Option.some.inj ((show Tryd.prog.globalNamed "confluence/sha.roots" = some 0 by kernel_rfl).symm.trans hg0)
  obtain rfl := Option.some.inj ((show (Tryd.prog.globals[0]?).map (·.type) = some 48 by kernel_rfl).symm.trans ht0)
  obtain ⟨xs, m1, _, hx1, hl, hn3, hel⟩ := DataW.trod_array Tryd.underlying48 hd0
  have c1 : Tryd.prog.cellsOf 22 = 1 := by kernel_rfl
  have c2 : Tryd.prog.cellsOf 48 = 64 := by kernel_rfl
  rw [c2] at hl
  rw [roots_datum] at hx1
  simp only [Prod.mk.injEq, DataW.agg.injEq] at hx1
  have hxs : xs.map (·.1) = rootsI.map fun k => .lit (.int .u32 k) := hx1.1.symm
  have hxl : xs.length = 64 := by have := congrArg List.length hxs; simpa [rootsI_len] using this
  have hsz : cs0.size = 64 := by simpa using hl
  refine ⟨by simp [roots_len], fun _ => ⟨_, rfl, rfl, fun j v hv => ?_⟩⟩
  rw [add_plain, Nat.zero_add, World.var?_cell hg0 hv0 j]
  have hj : j < 64 := by have := (List.getElem?_eq_some_iff.1 hv).1; simpa [roots_len] using this
  have h1 := hel j hj
  rw [c1, Nat.mul_one] at h1
  have h2 : (cs0.toList.drop j).take 1 = [cs0.toList[j]'(by simp; omega)] := by
    rw [List.drop_eq_getElem_cons (by simp; omega)]
    rfl
  rw [h2] at h1
  obtain ⟨y, hy⟩ : ∃ y, xs[j]? = some y := ⟨_, List.getElem?_eq_getElem (by omega)⟩
  rw [hy] at h1
  obtain ⟨z, e, e2, hz⟩ := DataW.trod_int Tryd.underlying22 h1
  injection e with e
  have h3 : (xs.map (·.1))[j]? = some (.lit (.int .u32 z)) := by rw [List.getElem?_map, hy, e2]; rfl
  rw [hxs, List.getElem?_map] at h3
  have h4 : (rootsL.map w32)[j]? = (rootsI.map (Value.int .u32))[j]? := by rw [rootsI, List.map_map]; rfl
  rw [hv, List.getElem?_map] at h4
  rw [List.getElem?_eq_getElem (show j < rootsI.length by rw [rootsI_len]; exact hj)] at h3 h4
  simp only [Option.map_some, Option.some.injEq, DataW.lit.injEq, Lit.int.injEq, true_and] at h3 h4
  rw [h4, h3, ← e]
  simp
section
variable {H : Type} {enc : TypeId × Value → H} {W : World} {r : Reach} {base : Nat} {v : Value} {d : DataW H} {p : List MemPlace}
theorem open_u8s {t : TypeId} {n m : Nat} {cs : List Value} {x : DataW H × List MemPlace} (ht : Tryd.prog.underlying t = some (.array n 5)) (hc : Tryd.prog.cellsOf t = n) (h : DataW.trod enc Tryd.prog W 0 (fun _ => true) true m t cs = some x) : ∃ l : List UInt8, l.length = n ∧ cs = l.map bv := by
  obtain ⟨xs, m', _, _, hl, hx, hf⟩ := DataW.trod_array ht h
  have c1 : Tryd.prog.cellsOf 5 = 1 := by kernel_rfl
  rw [hc] at hl
  have key : ∀ i, (hi : i < cs.length) → ∃ b : UInt8, cs[i] = bv b := fun i hi => by
    have h1 := hf i (by omega)
    rw [c1, Nat.mul_one] at h1
    have h2 : (cs.drop i).take 1 = [cs[i]] := by
      rw [List.drop_eq_getElem_cons hi]
      rfl
    rw [h2] at h1
    obtain ⟨y, hy⟩ : ∃ y, xs[i]? = some y := ⟨_, List.getElem?_eq_getElem (by omega)⟩
    rw [hy] at h1
    obtain ⟨z, e, _, hz⟩ := DataW.trod_int Tryd.underlying5 h1
    have hb := wf_u8 hz
    refine ⟨UInt8.ofNat z.toNat, ?_⟩
    injection e with e
    rw [e]
    simp [bv]
    omega
  refine ⟨(List.range n).map fun i => if hi : i < cs.length then (key i hi).choose else 0, by simp, ?_⟩
  apply List.ext_getElem
  · simp [hl]
  · intro i h1 h2
    have := (key i h1).choose_spec
    simp [h1, ← this]
theorem open_u32s {t : TypeId} {n m : Nat} {cs : List Value} {x : DataW H × List MemPlace} (ht : Tryd.prog.underlying t = some (.array n 22)) (hc : Tryd.prog.cellsOf t = n) (h : DataW.trod enc Tryd.prog W 0 (fun _ => true) true m t cs = some x) : ∃ l : List UInt32, l.length = n ∧ cs = l.map w32 := by
  obtain ⟨xs, m', _, _, hl, hx, hf⟩ := DataW.trod_array ht h
  have c1 : Tryd.prog.cellsOf 22 = 1 := by kernel_rfl
  rw [hc] at hl
  have key : ∀ i, (hi : i < cs.length) → ∃ b : UInt32, cs[i] = w32 b := fun i hi => by
    have h1 := hf i (by omega)
    rw [c1, Nat.mul_one] at h1
    have h2 : (cs.drop i).take 1 = [cs[i]] := by
      rw [List.drop_eq_getElem_cons hi]
      rfl
    rw [h2] at h1
    obtain ⟨y, hy⟩ : ∃ y, xs[i]? = some y := ⟨_, List.getElem?_eq_getElem (by omega)⟩
    rw [hy] at h1
    obtain ⟨z, e, _, hz⟩ := DataW.trod_int Tryd.underlying22 h1
    have hb := bounds_u32 hz
    refine ⟨UInt32.ofNat z.toNat, ?_⟩
    injection e with e
    rw [e]
    simp [w32]
    omega
  refine ⟨(List.range n).map fun i => if hi : i < cs.length then (key i hi).choose else 0, by simp, ?_⟩
  apply List.ext_getElem
  · simp [hl]
  · intro i h1 h2
    have := (key i h1).choose_spec
    simp [h1, ← this]
theorem okWide_arr {t e : TypeId} {n : Nat} (ht : Tryd.prog.underlying t = some (.array n e)) (hv : Value.okWide Tryd.prog W r base t v) : ∃ cs, v = .agg cs := by
  cases v <;> simp [Value.okWide, ht] at hv
  exact ⟨_, rfl⟩
theorem open_arr8 {t : TypeId} {n : Nat} (ht : Tryd.prog.underlying t = some (.array n 5)) (hc : Tryd.prog.cellsOf t = n) (hv : Value.okWide Tryd.prog W r base t v) (h : DataW.Trod enc Tryd.prog W 0 (fun _ => true) true t v d p) : ∃ l : List UInt8, l.length = n ∧ v = .agg (l.map bv).toArray := by
  obtain ⟨C, rfl⟩ := okWide_arr ht hv
  obtain ⟨fuel, hf⟩ := h
  obtain ⟨l, hl, e⟩ := open_u8s ht hc hf
  exact ⟨l, hl, by rw [← e]; simp [Value.cells]⟩
theorem open_arr32 {t : TypeId} {n : Nat} (ht : Tryd.prog.underlying t = some (.array n 22)) (hc : Tryd.prog.cellsOf t = n) (hv : Value.okWide Tryd.prog W r base t v) (h : DataW.Trod enc Tryd.prog W 0 (fun _ => true) true t v d p) : ∃ l : List UInt32, l.length = n ∧ v = .agg (l.map w32).toArray := by
  obtain ⟨C, rfl⟩ := okWide_arr ht hv
  obtain ⟨fuel, hf⟩ := h
  obtain ⟨l, hl, e⟩ := open_u32s ht hc hf
  exact ⟨l, hl, by rw [← e]; simp [Value.cells]⟩
theorem open_idv (hv : Value.okWide Tryd.prog W r base 33 v) (h : DataW.Trod enc Tryd.prog W 0 (fun _ => true) true 33 v d p) : ∃ l : List UInt8, l.length = 32 ∧ v = .agg (l.map bv).toArray := open_arr8 Tryd.underlying33 (by kernel_rfl) hv h
end
end Go.Proofs.YtemgfoakffappaaDoor
