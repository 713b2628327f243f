/- The calculus: maps keyed by structs, that count. No program is named. -/
import Derived.Test.YtclmaoagdkhboaaRkL
import Derived.WideKeyEntry
import Derived.Maps.RangeRun
import Derived.DeepKeys3
namespace Go.Proofs.Ytclmaoagdkhboaa
open Go.RowKit
open Asn (pt row rb)
set_option linter.unusedVariables false
set_option linter.unusedSimpArgs false
/-- the entries es tell the tally f of the keys kv -/
structure Tal (P : Program) (kt : TypeId) {κ : Type} (kv : κ → Value) (es : Array MapEntry) (clock : Nat) (f : κ → Int) : Prop where
  st : MapKept.Stamped es clock
  keys : ∀ e ∈ es.toList, ∃ k, e.key = kv k ∧ ∃ l, keyOf P kt (kv k) = some l
  vals : ∀ e ∈ es.toList, ∀ k, e.key = kv k → e.val = .int .i64 (f k)
  none : ∀ k, (∀ e ∈ es.toList, e.key ≠ kv k) → f k = 0
def MapF (P : Program) (kt : TypeId) {κ : Type} (kv : κ → Value) (g : Nat) (f : κ → Int) (s : Option (Nat × κ)) (w : World) : Prop :=
  ∃ es clock, w.heap[g]? = some (.map es clock) ∧ Tal P kt kv es clock f ∧ ∀ st k, s = some (st, k) → ∃ e ∈ es.toList, e.born = st ∧ e.key = kv k
/-- block g is a map that tells f; s: the entry that was asked for last -/
def mpF (P : Program) (kt : TypeId) {κ : Type} (kv : κ → Value) (g : Nat) (f : κ → Int) (s : Option (Nat × κ)) : Asn := .any (fun k => k = g) (MapF P kt kv g f s) (fun w w' hk ⟨es, clock, h1, h2⟩ => ⟨es, clock, by
  have hlt : g < w.heap.size := (Array.getElem?_eq_some_iff.1 h1).1
  rw [hk.block g rfl hlt]; exact h1, h2⟩)
theorem mem_mod {es : Array MapEntry} {j : Nat} {e0 : MapEntry} {F : MapEntry → MapEntry} (hj : es[j]? = some e0) {y : MapEntry} (hy : y ∈ (es.modify j F).toList) : y = F e0 ∨ ∃ q : Nat, q ≠ j ∧ es.toList[q]? = some y := by
  obtain ⟨q, hq, rfl⟩ := List.getElem_of_mem hy
  have hq : q < es.size := by simpa using hq
  simp only [Array.getElem_toList, Array.getElem_modify]
  split
  · rename_i hjq
    subst hjq
    have e1 : es[j] = e0 := (Array.getElem?_eq_some_iff.1 hj).2
    rw [e1]
    exact .inl rfl
  · rename_i hjq
    exact .inr ⟨q, fun h => hjq h.symm, by simp [hq]⟩
section
variable {P : Program} {ro : Option Nat} {ds : List Deferred} {B : Bk ro ds} {n : Nat} {w0 : World} {M : Nat → Prop} {k : List It} {T : Slots} {H Hr : List Asn} {dd : Option Tmp} {tt : TypeId} {pos : String} {af : Array Edge} {g : Option (Nat × Bool)} {x y z : Operand} {ts : Array TypeId} {κ : Type} {kv : κ → Value} {kt : TypeId}
theorem E_mkmapF {t : TypeId} : Ef P n w0 M T H ⟨dd, .makeMap t none, tt, pos, af, g⟩ (fun u H' => ∃ b, u = .map (some b) ∧ H' = mpF P kt kv b (fun _ => 0) none :: H) := .mk fun a w ha hS => by
  unfold Oper.wp
  have : (execOp a.eval ⟨dd, .makeMap t none, tt, pos, af, g⟩).run P w = .ok (.value (.map (some w.heap.size))) (w.alloc (.map #[] 0)) := by
    simp [execOp, Instr.makeMap]
  rw [this]
  refine ⟨_, _, ⟨w.heap.size, rfl, rfl⟩, rfl, hS.add (Kp.alloc w _) ⟨#[], 0, ?_, ⟨MapKept.stamped_empty 0, by simp, by simp, by simp⟩, by simp⟩ (fun k hk => ?_)⟩
  · show (w.heap.push _)[w.heap.size]? = _
    simp
  · have hk : k = w.heap.size := hk
    subst hk
    simp
theorem T_lookF [HasTab P] {t et : TypeId} {b : Nat} {f : κ → Int} {s : Option (Nat × κ)} {v : κ} {i ei : Ti} (K : WideMaps.KeyLaw P kt) (hx : oget T x = some (.map (some b))) (hy : oget T y = some (kv v)) (hk : ∃ l, keyOf P kt (kv v) = some l) (ht : ty P t = some i) (hi : i.desc = .map kt et) (he : ty P et = some ei) (hz : ei.zero = .int .i64 0) [hr : RemC H (mpF P kt kv b f s) Hr] :
    Tk P n w0 M T H ⟨dd, .lookup t x y false, tt, pos, af, g⟩ (.int .i64 (f v)) := .mk fun a w ha hS => by
  have hS1 := hS.perm hr.perm
  have hm : P.underlying t = some (.map kt et) := hi ▸ ty_ok ht
  obtain ⟨es, clock, hb, hT, _⟩ : MapF P kt kv b f s w := hS1.at_ (A := mpF P kt kv b f s) (by simp)
  obtain ⟨l, hl⟩ := hk
  have hks : ∀ e ∈ es.toList, ∃ l, keyOf P kt e.key = some l := fun e he => by
    obtain ⟨k, h1, h2⟩ := hT.keys e he
    rw [h1]; exact h2
  rcases K.find w hl es.toList hks with ⟨h1, h2⟩ | ⟨j, e, h1, h2, h3⟩
  · rw [hT.none v h2, ← hz]
    simp [execOp, ha.eval hx, ha.eval hy, Instr.lookup, run_underlying hm, MapKept.run_getObj_map hb, K.check w _ hl, h1, ty_zero he, Result.andThen]
  · rw [← hT.vals e (List.mem_of_getElem? h2) v h3]
    simp [execOp, ha.eval hx, ha.eval hy, Instr.lookup, run_underlying hm, MapKept.run_getObj_map hb, K.check w _ hl, h1, Result.andThen]
theorem E_mentF [HasTab P] {t et : TypeId} {b : Nat} {f : κ → Int} {v : κ} {i ei : Ti} (K : WideMaps.KeyLaw P kt) (hinj : ∀ a b, kv a = kv b → a = b) (hx : oget T x = some (.map (some b))) (hy : oget T y = some (kv v)) (hk : ∃ l, keyOf P kt (kv v) = some l) (ht : ty P t = some i) (hi : i.desc = .map kt et) (he : ty P et = some ei) (hz : ei.zero = .int .i64 0) [hr : RemC H (mpF P kt kv b f none) Hr] :
    Ef P n w0 M T H ⟨dd, .mapEntry t x y, tt, pos, af, g⟩ (fun u H' => ∃ st : Nat, u = .tuple #[.int .i64 (f v), .int .i64 (st : Int)] ∧ H' = mpF P kt kv b f (some (st, v)) :: Hr) := .mk fun a w ha hS => by
  have hS1 := hS.perm hr.perm
  have hm : P.underlying t = some (.map kt et) := hi ▸ ty_ok ht
  obtain ⟨es, clock, hb, hT, _⟩ : MapF P kt kv b f none w := hS1.at_ (A := mpF P kt kv b f none) (by simp)
  obtain ⟨l, hl⟩ := hk
  have hks : ∀ e ∈ es.toList, ∃ l, keyOf P kt e.key = some l := fun e he => by
    obtain ⟨k, h1, h2⟩ := hT.keys e he
    rw [h1]; exact h2
  have hlt : b < w.heap.size := (Array.getElem?_eq_some_iff.1 hb).1
  have key : ∃ (es' : Array MapEntry) (clock' st : Nat), (Instr.mapEntry t (.map (some b)) (kv v)).run P w = .ok (.tuple #[.int .i64 (f v), .int .i64 (st : Int)]) { w with heap := w.heap.setIfInBounds b (.map es' clock') } ∧ Tal P kt kv es' clock' f ∧ ∃ e ∈ es'.toList, e.born = st ∧ e.key = kv v := by
    rcases K.find w hl es.toList hks with ⟨h1, h2⟩ | ⟨j, e, h1, h2, h3⟩
    · have hf := hT.none v h2
      refine ⟨es.push { key := kv v, val := ei.zero, born := clock }, clock + 1, clock, ?_, ⟨MapKept.stamped_push hT.st h2, fun e he => ?_, fun e he r hr => ?_, fun r hr => ?_⟩, ⟨⟨kv v, ei.zero, clock⟩, by simp, rfl, rfl⟩⟩
      · rw [hf, ← hz]
        simp [Instr.mapEntry, run_underlying hm, MapKept.run_getObj_map hb, K.check w _ hl, h1, ty_zero he, MapKept.run_setObj_map _ hb, Result.andThen, goInt]
      · simp only [Array.toList_push, List.mem_append, List.mem_singleton] at he
        rcases he with he | rfl
        · exact hT.keys e he
        · exact ⟨v, rfl, l, hl⟩
      · simp only [Array.toList_push, List.mem_append, List.mem_singleton] at he
        rcases he with he | rfl
        · exact hT.vals e he r hr
        · rw [← hinj v r hr, hf]; exact hz
      · exact hT.none r fun e he => hr e (by simp only [Array.toList_push, List.mem_append]; exact .inl he)
    · have hj : es[j]? = some e := by simpa using h2
      have hsame : es.modify j (fun e => { e with key := kv v }) = es := by
        apply Array.ext'
        rw [Array.toList_modify, ChangeMaps.modify_eq_set _ _ _ _ h2]
        have : ({ e with key := kv v } : MapEntry) = e := by rw [← h3]
        rw [this]
        exact WideElems.set_self _ _ _ h2
      have hv := hT.vals e (List.mem_of_getElem? h2) v h3
      refine ⟨es, clock, e.born, ?_, hT, e, List.mem_of_getElem? h2, rfl, h3⟩
      simp [Instr.mapEntry, run_underlying hm, MapKept.run_getObj_map hb, K.check w _ hl, h1, hj, h3, K.stays w hl, hsame, MapKept.run_setObj_map _ hb, Result.andThen, hv, goInt]
  obtain ⟨es', clock', st, hrun, hT', hst⟩ := key
  unfold Oper.wp
  have : (execOp a.eval ⟨dd, .mapEntry t x y, tt, pos, af, g⟩).run P w = .ok (.value (.tuple #[.int .i64 (f v), .int .i64 (st : Int)])) { w with heap := w.heap.setIfInBounds b (.map es' clock') } := by
    simp [execOp, ha.eval hx, ha.eval hy, hrun]
  rw [this]
  refine ⟨_, _, ⟨st, rfl, rfl⟩, rfl, hS1.upd (A := mpF P kt kv b f none) .here (Kp.setObj w b _) ⟨es', clock', by simp [hlt], hT', fun st' k' h => ?_⟩ (fun _ h => h)⟩
  injection h with h
  injection h with h4 h5
  subst h4 h5
  exact hst
theorem E_mstoF [HasTab P] [DecidableEq κ] {t : TypeId} {b st : Nat} {f : κ → Int} {v : κ} {N : Int} (hinj : ∀ a b, kv a = kv b → a = b) (hx : oget T x = some (.map (some b))) (hy : oget T y = some (.int .i64 (st : Int))) (hz : oget T z = some (.int .i64 N)) [hr : RemC H (mpF P kt kv b f (some (st, v))) Hr] :
    Ef P n w0 M T H ⟨none, .entryStore t x y z, tt, pos, af, g⟩ (fun _ H' => H' = mpF P kt kv b (fun r => if r = v then N else f r) none :: Hr) := .mk fun a w ha hS => by
  have hS1 := hS.perm hr.perm
  obtain ⟨es, clock, hb, hT, hs⟩ : MapF P kt kv b f (some (st, v)) w := hS1.at_ (A := mpF P kt kv b f (some (st, v))) (by simp)
  obtain ⟨e0, hm0, hb0, hk0⟩ := hs st v rfl
  have hlt : b < w.heap.size := (Array.getElem?_eq_some_iff.1 hb).1
  obtain ⟨j, hjl, hje⟩ := List.getElem_of_mem hm0
  have h2 : es.toList[j]? = some e0 := by rw [List.getElem?_eq_getElem hjl, hje]
  have hj : es[j]? = some e0 := by simpa using h2
  obtain ⟨s1, s2, s3⟩ := (MapKept.stamped_iff es clock).1 hT.st
  have hidx : es.findIdx? (fun e => ((e.born : Nat) : Int) == ((st : Nat) : Int)) = some j := by
    rw [WideElems.findIdx_arr, ← hb0]
    exact WideElems.findIdx_born s2 h2
  have hoth : ∀ q y, q ≠ j → es.toList[q]? = some y → y ∈ es.toList ∧ y.key ≠ kv v := fun q y hq hy => by
    refine ⟨List.mem_of_getElem? hy, fun h => ?_⟩
    have hql := (List.getElem?_eq_some_iff.1 hy).1
    have e1 := (List.getElem?_eq_some_iff.1 hy).2
    have h4 := List.pairwise_iff_getElem.1 s3
    rcases Nat.lt_trichotomy q j with h6 | h6 | h6
    · exact h4 q j hql hjl h6 (by rw [e1, hje, h, hk0])
    · exact hq h6
    · exact h4 j q hjl hql h6 (by rw [e1, hje, h, hk0])
  have hrun : (Instr.entryStore t (.map (some b)) (.int .i64 (st : Int)) (.int .i64 N)).run P w = .ok () { w with heap := w.heap.setIfInBounds b (.map (es.modify j fun e => { e with val := .int .i64 N }) clock) } := by
    simp [Instr.entryStore, MapKept.run_getObj_map hb, asInt, asIntOf, goInt, hidx, MapKept.run_setObj_map _ hb, Result.andThen]
  unfold Oper.wp
  have : (execOp a.eval ⟨none, .entryStore t x y z, tt, pos, af, g⟩).run P w = .ok .skip { w with heap := w.heap.setIfInBounds b (.map (es.modify j fun e => { e with val := .int .i64 N }) clock) } := by
    simp [execOp, ha.eval hx, ha.eval hy, ha.eval hz, hrun]
  rw [this]
  refine ⟨undef, _, rfl, rfl, hS1.upd (A := mpF P kt kv b f (some (st, v))) .here (Kp.setObj w b _) ⟨es.modify j fun e => { e with val := .int .i64 N }, clock, by simp [hlt], ⟨MapKept.stamped_modify hT.st j _ (fun _ _ => rfl) (fun _ _ _ => rfl), fun e he => ?_, fun e he r hr => ?_, fun r hr => ?_⟩, by simp⟩ (fun _ h => h)⟩
  · rcases mem_mod hj he with rfl | ⟨q, hq, h5⟩
    · exact hT.keys e0 hm0
    · exact hT.keys e (hoth q e hq h5).1
  · rcases mem_mod hj he with rfl | ⟨q, hq, h5⟩
    · rw [if_pos (hinj r v (by rw [← hr]; exact hk0))]
    · have h6 := hoth q e hq h5
      rw [if_neg (fun h7 => h6.2 (by rw [hr, h7]))]
      exact hT.vals e h6.1 r hr
  · have hke : (es.modify j fun e => { e with val := .int .i64 N }).toList.map (·.key) = es.toList.map (·.key) := MapKept.modify_keys j _ fun _ _ => rfl
    have hr2 : ∀ k, k ∈ es.toList.map (·.key) → k ≠ kv r := fun k hk => by
      rw [← hke] at hk
      obtain ⟨y, hy, rfl⟩ := List.mem_map.1 hk
      exact hr y hy
    rw [if_neg (fun q => hr2 (kv v) (List.mem_map.2 ⟨e0, hm0, hk0⟩) (by rw [q]))]
    exact hT.none r fun e he => hr2 _ (List.mem_map_of_mem he)
/-- block g is this map; block r ranges over it -/
def mpE (g : Nat) (es : Array MapEntry) (clock : Nat) : Asn := .any (fun k => k = g) (fun w => w.heap[g]? = some (.map es clock)) (fun w w' hk h => by
  have hlt : g < w.heap.size := (Array.getElem?_eq_some_iff.1 h).1
  rw [hk.block g rfl hlt]
  exact h)
def itM (r b clock : Nat) (seen : Array Nat) : Asn := .any (fun k => k = r) (fun w => w.heap[r]? = some (.mapIter (some b) clock seen clock)) (fun w w' hk h => by
  have hlt : r < w.heap.size := (Array.getElem?_eq_some_iff.1 h).1
  rw [hk.block r rfl hlt]
  exact h)
theorem E_rangeF [HasTab P] {t et : TypeId} {b : Nat} {f : κ → Int} {i : Ti} (hx : oget T x = some (.map (some b))) (ht : ty P t = some i) (hi : i.desc = .map kt et) [hr : RemC H (mpF P kt kv b f none) Hr] :
    Ef P n w0 M T H ⟨dd, .range t x, tt, pos, af, g⟩ (fun u H' => ∃ (r : Nat) (es : Array MapEntry) (clock : Nat), u = .pointer (some ⟨r, 0, none⟩) ∧ Tal P kt kv es clock f ∧ H' = itM r b clock #[] :: mpE b es clock :: Hr) := .mk fun a w ha hS => by
  have hS1 := hS.perm hr.perm
  have hm : P.underlying t = some (.map kt et) := hi ▸ ty_ok ht
  obtain ⟨es, clock, hb, hT, _⟩ : MapF P kt kv b f none w := hS1.at_ (A := mpF P kt kv b f none) (by simp)
  have hS2 : St w0 M (mpE b es clock :: Hr) w := hS1.upd (A := mpF P kt kv b f none) .here (Kp.refl _ w) hb (fun _ h => h)
  have hrun := run_range_map (P := P) w t kt et b es clock hm hb
  unfold Oper.wp execOp
  simp only [ha.eval hx, Sem.run_bind, hrun, Result.andThen_ok, Sem.run_pure]
  refine ⟨_, _, ⟨w.heap.size, es, clock, rfl, hT, rfl⟩, rfl, hS2.add (Kp.alloc w _) (heap_alloc_new w _) (fun k hk => ?_)⟩
  have hk : k = w.heap.size := hk
  subst hk
  exact ⟨Nat.le_refl _, (Array.getElem?_eq_some_iff.1 (heap_alloc_new w _)).1⟩
theorem E_nextM {b r clock : Nat} {es : Array MapEntry} {seen : Array Nat} (hx : oget T x = some (.pointer (some ⟨r, 0, none⟩))) (hold : ∀ e ∈ es.toList, e.born < clock) [hr : RemC H (itM r b clock seen) Hr] (hm : mpE b es clock ∈ Hr) :
    Ef P n w0 M T H ⟨dd, .next x false, tt, pos, af, g⟩ (fun u H' => ((leftOf es seen).size = 0 ∧ u = .tuple #[.bool false] ∧ H' = H) ∨ ∃ e ∈ (leftOf es seen).toList, u = .tuple #[.bool true, e.key, e.val] ∧ H' = itM r b clock (seen.push e.born) :: Hr) := .mk fun a w ha hS => by
  have hS1 := hS.perm hr.perm
  have h1 : w.heap[r]? = some (.mapIter (some b) clock seen clock) := hS1.at_ (A := itM r b clock seen) (by simp)
  have h2 : w.heap[b]? = some (.map es clock) := hS1.at_ (A := mpE b es clock) (by simp [hm])
  have hlt : r < w.heap.size := (Array.getElem?_eq_some_iff.1 h1).1
  unfold Oper.wp execOp
  rcases run_next_at (P := P) w tt r b clock clock seen es clock h1 h2 hold (Nat.le_refl _) with ⟨h3, hrun⟩ | ⟨e, he, w1, hw1, hrun⟩
  · simp only [ha.eval hx, Sem.run_bind, hrun, Result.andThen_ok, Sem.run_pure]
    exact ⟨_, _, .inl ⟨h3, rfl, rfl⟩, rfl, hS⟩
  · simp only [ha.eval hx, Sem.run_bind, hrun, Result.andThen_ok, Sem.run_pure]
    refine ⟨_, _, .inr ⟨e, he, rfl, rfl⟩, rfl, hS1.upd (A := itM r b clock seen) .here ?_ ?_ (fun _ h => h)⟩
    · rcases hw1 with h5 | h5
      · rw [h5]; exact Kp.setObj w r _
      · rw [h5]; exact (Kp.drew w).trans (Kp.setObj w.drew r _)
    · rcases hw1 with h5 | h5
      · rw [h5]
        show (w.heap.setIfInBounds r _)[r]? = _
        simp [hlt]
      · rw [h5]
        show (w.heap.setIfInBounds r _)[r]? = _
        simp [hlt]
theorem T_entryM {b r clock : Nat} {es : Array MapEntry} {seen : Array Nat} {e : MapEntry} (hx : oget T x = some (.pointer (some ⟨r, 0, none⟩))) (he : e ∈ es.toList) (hn : (es.toList.map (·.born)).Nodup) [hr : RemC H (itM r b clock (seen.push e.born)) Hr] (hm : mpE b es clock ∈ Hr) :
    Tk P n w0 M T H ⟨dd, .entry x, tt, pos, af, g⟩ (.tuple #[e.key, e.val]) := .mk fun a w ha hS => by
  have hS1 := hS.perm hr.perm
  have h1 : w.heap[r]? = some (.mapIter (some b) clock (seen.push e.born) clock) := hS1.at_ (A := itM r b clock (seen.push e.born)) (by simp)
  have h2 : w.heap[b]? = some (.map es clock) := hS1.at_ (A := mpE b es clock) (by simp [hm])
  have hrun := run_entry_at (P := P) w r b clock seen es clock e h1 h2 he hn
  simp [execOp, ha.eval hx, hrun, Result.andThen]
theorem RS_telF {b clock : Nat} {es : Array MapEntry} {f : κ → Int} [hr : RemC H (mpE b es clock) Hr] (hT : Tal P kt kv es clock f) (h : RS P B n w0 M k T (mpF P kt kv b f none :: Hr)) : RS P B n w0 M k T H :=
  RS_mem (fun w hS => by
    have hS1 := hS.perm hr.perm
    have h2 : w.heap[b]? = some (.map es clock) := hS1.at_ (A := mpE b es clock) (by simp)
    exact hS1.upd (A := mpE b es clock) .here (Kp.refl _ w) ⟨es, clock, h2, hT, by simp⟩ (fun _ h => h)) h
end
end Go.Proofs.Ytclmaoagdkhboaa
