/- The calculus: maps whose keys are texts. No program is named. -/
import Derived.Test.YtebbnbddlnpldaaRkC
import Derived.MapKept
namespace Go.Proofs.Ytebbnbddlnpldaa
open Go.RowKit
open Asn (pt row rb)
set_option linter.unusedVariables false
set_option linter.unusedSimpArgs false
abbrev tv (s : List UInt8) : Value := .string ⟨s.toArray⟩
theorem tv_inj {a b : List UInt8} (h : tv a = tv b) : a = b := by
  injection h with h
  injection h with h
  exact Array.toList_inj.2 h |> fun e => by simpa using e
theorem tv_key (s : List UInt8) : MapKept.IsKey .string (tv s) := by simp [MapKept.IsKey]
theorem key_tv {v : Value} (h : MapKept.IsKey .string v) : ∃ s, v = tv s := by
  cases v <;> simp_all [MapKept.IsKey]
  rename_i b
  exact ⟨b.data.toList, by simp⟩
/-- block g is a map from texts that tells f -/
def MapH (g : Nat) (f : List UInt8 → Option Value) (w : World) : Prop := ∃ es clock, w.heap[g]? = some (.map es clock) ∧ (∀ x ∈ es.toList, MapKept.IsKey .string x.key) ∧ (es.toList.map (·.key)).Nodup ∧
  (∀ e ∈ es.toList, ∀ s, e.key = tv s → f s = some e.val) ∧ ∀ s, (∀ e ∈ es.toList, e.key ≠ tv s) → f s = none
def mpA (g : Nat) (f : List UInt8 → Option Value) : Asn := .any (fun k => k = g) (MapH g f) (fun w w' hk ⟨es, clock, h1, h2⟩ => ⟨es, clock, by
  have hlt : g < w.heap.size := (Array.getElem?_eq_some_iff.1 h1).1
  rw [hk.block g rfl hlt]; exact h1, h2⟩)
section
variable {P : Program} {B : Exit → Act → World → Prop} {n : Nat} {w0 : World} {M : Nat → Prop} {k : List It} {T : Slots} {H Hr : List Asn} {dd : Option Tmp} {tt : TypeId} {pos : String} {af : Array Edge} {g : Option (Nat × Bool)} {x y z : Operand} {ts : Array TypeId}
theorem E_mkmap {t : TypeId} : Ef P n w0 M T H ⟨dd, .makeMap t none, tt, pos, af, g⟩ (fun u H' => ∃ b, u = .map (some b) ∧ H' = mpA b (fun _ => none) :: H) := .mk fun a w ha hS => by
  unfold Oper.wp
  have : (execOp a.eval ⟨dd, .makeMap t none, tt, pos, af, g⟩).run P w = .ok (.value (.map (some w.heap.size))) (w.alloc (.map #[] 0)) := by
    simp [execOp, Instr.makeMap]
  rw [this]
  refine ⟨_, _, ⟨w.heap.size, rfl, rfl⟩, rfl, hS.add (Kp.alloc w _) ⟨#[], 0, ?_, by simp, by simp, by simp, by simp⟩ (fun k hk => ?_)⟩
  · show (w.heap.push _)[w.heap.size]? = _
    simp
  · have hk : k = w.heap.size := hk
    subst hk
    simp
theorem E_mapset [HasTab P] {t kt et : TypeId} {b : Nat} {f : List UInt8 → Option Value} {s : List UInt8} {v : Value} {i ki : Ti} (hx : oget T x = some (.map (some b))) (hy : oget T y = some (tv s)) (hz : oget T z = some v) (ht : ty P t = some i) (hi : i.desc = .map kt et) (hk : ty P kt = some ki) (hki : ki.desc = .string) [hr : RemC H (mpA b f) Hr] :
    Ef P n w0 M T H ⟨none, .mapUpdate t x y z, tt, pos, af, g⟩ (fun _ H' => H' = mpA b (fun r => if r = s then some v else f r) :: Hr) := .mk fun a w ha hS => by
  have hS1 := hS.perm hr.perm
  have hm : P.underlying t = some (.map kt et) := hi ▸ ty_ok ht
  have hd : P.underlying kt = some .string := hki ▸ ty_ok hk
  obtain ⟨es, clock, hb, hks, hnd, hf1, hf2⟩ : MapH b f w := hS1.at_ (A := mpA b f) (by simp)
  have key : ∃ es' clock', (Instr.mapUpdate t (.map (some b)) (tv s) v).run P w = .ok () { w with heap := w.heap.setIfInBounds b (.map es' clock') } ∧ (∀ x ∈ es'.toList, MapKept.IsKey .string x.key) ∧ (es'.toList.map (·.key)).Nodup ∧
      (∀ e ∈ es'.toList, ∀ r, e.key = tv r → (if r = s then some v else f r) = some e.val) ∧ ∀ r, (∀ e ∈ es'.toList, e.key ≠ tv r) → (if r = s then some v else f r) = none := by
    rcases MapKept.findNow_spec (tv_key s) es.toList 0 hks with ⟨h1, h2⟩ | ⟨j, e, h1, h2, h3⟩
    · refine ⟨es.push { key := tv s, val := v, born := clock }, clock + 1, ?_, ?_, ?_, ?_, ?_⟩
      · simp [Instr.mapUpdate, run_underlying hm, MapKept.run_getObj_map hb, MapKept.run_checkKey hd (tv_key s), MapKept.run_findKey hd h1, MapKept.run_setObj_map _ hb, Result.andThen]
      · intro x hx
        simp only [Array.toList_push, List.mem_append, List.mem_singleton] at hx
        rcases hx with hx | rfl
        · exact hks x hx
        · exact tv_key s
      · simp only [Array.toList_push, List.map_append, List.map_cons, List.map_nil]
        rw [List.nodup_append]
        refine ⟨hnd, by simp, fun x hx y hy => ?_⟩
        obtain ⟨e, he, rfl⟩ := List.mem_map.1 hx
        simp at hy
        subst hy
        exact h2 e he
      · intro e he r hr
        simp only [Array.toList_push, List.mem_append, List.mem_singleton] at he
        rcases he with he | rfl
        · have hne : r ≠ s := fun q => h2 e he (by rw [hr, q])
          rw [if_neg hne]
          exact hf1 e he r hr
        · rw [if_pos (tv_inj hr).symm]
      · intro r hr
        simp only [Array.toList_push, List.mem_append, List.mem_singleton] at hr
        have hne : r ≠ s := fun q => hr _ (.inr rfl) (by rw [q])
        rw [if_neg hne]
        exact hf2 r fun e he => hr e (.inl he)
    · have hj : es[j]? = some e := by simpa using h2
      have hjl : j < es.size := (Array.getElem?_eq_some_iff.1 hj).1
      have hml : ∀ y, y ∈ (es.modify j fun e => { e with key := tv s, val := v }).toList → (y.key = tv s ∧ y.val = v) ∨ (y ∈ es.toList ∧ y.key ≠ tv s) := fun y hy => by
        obtain ⟨q, hq, rfl⟩ := List.getElem_of_mem hy
        have hq : q < es.size := by simpa using hq
        simp only [Array.getElem_toList, Array.getElem_modify]
        split
        · exact .inl ⟨rfl, rfl⟩
        · rename_i hjq
          refine .inr ⟨Array.getElem_mem_toList hq, fun hk => ?_⟩
          have h4 := List.pairwise_iff_getElem.1 hnd
          have e1 : es[j] = e := (Array.getElem?_eq_some_iff.1 hj).2
          have h5 : (es.toList.map (·.key))[q]'(by simpa using hq) = (es.toList.map (·.key))[j]'(by simpa using hjl) := by simp [hk, e1, h3]
          rcases Nat.lt_trichotomy q j with h6 | h6 | h6
          · exact h4 q j (by simpa using hq) (by simpa using hjl) h6 h5
          · exact hjq h6.symm
          · exact h4 j q (by simpa using hjl) (by simpa using hq) h6 h5.symm
      have hke : ((es.modify j fun e => { e with key := tv s, val := v }).toList.map (·.key)) = es.toList.map (·.key) := by
        apply List.ext_getElem
        · simp
        · intro q h5 h6
          have hq : q < es.size := by simpa using h6
          simp only [List.getElem_map, Array.getElem_toList, Array.getElem_modify]
          split
          · rename_i hjq
            subst hjq
            have e1 : es[j] = e := (Array.getElem?_eq_some_iff.1 hj).2
            rw [e1, h3]
          · rfl
      refine ⟨es.modify j fun e => { e with key := tv s, val := v }, clock, ?_, ?_, ?_, ?_, ?_⟩
      · simp [Instr.mapUpdate, run_underlying hm, MapKept.run_getObj_map hb, MapKept.run_checkKey hd (tv_key s), MapKept.run_findKey hd h1, hj, h3, MapKept.run_keyThatStays (tv_key s), MapKept.run_setObj_map _ hb, Result.andThen]
      · intro y hy
        rcases hml y hy with ⟨h4, _⟩ | ⟨h4, _⟩
        · rw [h4]; exact tv_key s
        · exact hks y h4
      · rw [hke]; exact hnd
      · intro y hy r hr
        rcases hml y hy with ⟨h4, h5⟩ | ⟨h4, h5⟩
        · rw [if_pos (tv_inj (h4.symm.trans hr)).symm, h5]
        · rw [if_neg (fun q => h5 (by rw [hr, q]))]
          exact hf1 y h4 r hr
      · intro r hr
        have hr2 : ∀ k, k ∈ es.toList.map (·.key) → k ≠ tv r := fun k hk => by
          rw [← hke] at hk
          obtain ⟨y, hy, rfl⟩ := List.mem_map.1 hk
          exact hr y hy
        have hne : r ≠ s := fun q => hr2 (tv s) (List.mem_map.2 ⟨e, List.mem_of_getElem? h2, h3⟩) (by rw [q])
        rw [if_neg hne]
        exact hf2 r fun e' he' => hr2 _ (List.mem_map_of_mem he')
  obtain ⟨es', clock', hrun, k1, k2, k3, k4⟩ := key
  have hlt : b < w.heap.size := (Array.getElem?_eq_some_iff.1 hb).1
  unfold Oper.wp
  have : (execOp a.eval ⟨none, .mapUpdate t x y z, tt, pos, af, g⟩).run P w = .ok .skip { w with heap := w.heap.setIfInBounds b (.map es' clock') } := by
    simp [execOp, ha.eval hx, ha.eval hy, ha.eval hz, hrun]
  rw [this]
  refine ⟨undef, _, rfl, rfl, hS1.upd (A := mpA b f) .here ⟨rfl, rfl, rfl, by simp, fun q hq hlt => ?_⟩ ⟨es', clock', by simp [hlt], k1, k2, k3, k4⟩ (fun _ h => h)⟩
  have hq : ¬ q = b := hq
  simp [Ne.symm hq]
theorem T_mapget [HasTab P] {t kt et : TypeId} {b : Nat} {f : List UInt8 → Option Value} {s : List UInt8} {v : Value} {i ki ei : Ti} (hx : oget T x = some (.map (some b))) (hy : oget T y = some (tv s)) (ht : ty P t = some i) (hi : i.desc = .map kt et) (hk : ty P kt = some ki) (hki : ki.desc = .string) (he : ty P et = some ei) [hr : RemC H (mpA b f) Hr] (hv : (f s).getD ei.zero = v) :
    Tk P n w0 M T H ⟨dd, .lookup t x y false, tt, pos, af, g⟩ v := .mk fun a w ha hS => by
  subst hv
  have hS1 := hS.perm hr.perm
  have hm : P.underlying t = some (.map kt et) := hi ▸ ty_ok ht
  have hd : P.underlying kt = some .string := hki ▸ ty_ok hk
  obtain ⟨es, clock, hb, hks, hnd, hf1, hf2⟩ : MapH b f w := hS1.at_ (A := mpA b f) (by simp)
  rcases MapKept.findNow_spec (tv_key s) es.toList 0 hks with ⟨h1, h2⟩ | ⟨j, e, h1, h2, h3⟩
  · rw [hf2 s h2]
    simp [execOp, ha.eval hx, ha.eval hy, Instr.lookup, run_underlying hm, MapKept.run_getObj_map hb, MapKept.run_checkKey hd (tv_key s), MapKept.run_findKey hd h1, ty_zero he, Result.andThen]
  · rw [hf1 e (List.mem_of_getElem? h2) s h3]
    simp [execOp, ha.eval hx, ha.eval hy, Instr.lookup, run_underlying hm, MapKept.run_getObj_map hb, MapKept.run_checkKey hd (tv_key s), MapKept.run_findKey hd h1, Result.andThen]
end
end Go.Proofs.Ytebbnbddlnpldaa
