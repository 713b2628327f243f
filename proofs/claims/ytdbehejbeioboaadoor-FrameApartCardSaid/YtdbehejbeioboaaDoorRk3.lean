/- The calculus: memory and calls. -/
import Derived.Test.YtdbehejbeioboaaDoorRk2
import Derived.Deep.MidRow
namespace Go.Proofs.YtdbehejbeioboaaDoor
open Go.RowKit
open Asn (pt row rb)
set_option linter.unusedVariables false
set_option linter.unusedSimpArgs false

def pa (A : Option Addr) (j : Nat) : Option Addr := A.map (·.add j)
theorem pa_some {A : Option Addr} (h : A ≠ none) (j : Nat) : ∃ ad, A = some ad ∧ pa A j = some (ad.add j) := by
  cases A with
  | none => exact absurd rfl h
  | some a => exact ⟨a, rfl, rfl⟩
theorem add_plain (g o j : Nat) : (⟨g, o, none⟩ : Addr).add j = ⟨g, o + j, none⟩ := by
  unfold Addr.add
  split
  · rename_i h; subst h; rfl
  · rfl
section
variable {w0 w w' : World} {M : Nat → Prop} {H H' : List Asn}
theorem St.at_ {A : Asn} (h : St w0 M H w) (hm : A ∈ H) : A.holds w := (h.all A hm).1
theorem St.cell {g t off : Nat} {cs : List Value} {v : Value} (h : St w0 M H w) (hm : pt g t cs ∈ H) (hv : cs[off]? = some v) : w.cell? ⟨g, off, none⟩ = some v := by
  have hb : Blk w g t cs.toArray := h.at_ hm
  rw [hb.cell]
  simpa using hv
theorem St.oldCell {p : Addr} {v : Value} (h : St w0 M H w) (hM : ¬ M p.block) (hv : w0.cell? p = some v) : w.cell? p = some v := h.kp.cell hM hv
theorem Blk.setRow {g t : Nat} {cs : Array Value} (h : Blk w g t cs) (ds : Array Value) : Blk (w.setRow g ds) g t ds := setRow_heap w g _ ds t _ h
/-- what a callee makes -/
def owns (As : List Asn) : Nat → Prop := fun k => ∃ A, A ∈ As ∧ A.own k
theorem St.call {As Bs : List Asn} (h : St w0 M (As ++ H) w) (hc : St w (owns As) Bs w') : St w0 M (Bs ++ H) w' := by
  have hd : ∀ A, A ∈ H → ∀ k, A.own k → ¬ owns As k := fun A hA k hk ⟨B, hB, hBk⟩ => (List.pairwise_append.1 h.apart).2.2 B hB A hA k hBk hk
  have hkA : ∀ A, A ∈ H → A.holds w' ∧ ∀ k, A.own k → (M k ∨ w0.heap.size ≤ k) ∧ k < w'.heap.size := fun A hA => by
    have h1 := h.all A (List.mem_append_right _ hA)
    exact ⟨A.stable w w' (hc.kp.mono fun k hk _ => hd A hA k hk) h1.1, fun k hk => ⟨(h1.2 k hk).1, Nat.lt_of_lt_of_le (h1.2 k hk).2 hc.kp.size⟩⟩
  have howns : ∀ k, owns As k → M k ∨ w0.heap.size ≤ k := fun k ⟨A, hA, hk⟩ => ((h.all A (List.mem_append_left _ hA)).2 k hk).1
  refine ⟨⟨h.kp.os ▸ hc.kp.os, h.kp.tape ▸ hc.kp.tape, h.kp.output ▸ hc.kp.output, Nat.le_trans h.kp.size hc.kp.size, fun k hM hlt => ?_⟩, fun A hA => ?_, ?_⟩
  · rw [hc.kp.block k (fun ho => (howns k ho).elim hM (fun hs => by omega)) (Nat.lt_of_lt_of_le hlt h.kp.size)]
    exact h.kp.block k hM hlt
  · rcases List.mem_append.1 hA with hA | hA
    · have h1 := hc.all A hA
      refine ⟨h1.1, fun k hk => ⟨?_, (h1.2 k hk).2⟩⟩
      rcases (h1.2 k hk).1 with ho | hs
      · exact howns k ho
      · exact .inr (Nat.le_trans h.kp.size hs)
    · exact hkA A hA
  · refine List.pairwise_append.2 ⟨hc.apart, (List.pairwise_append.1 h.apart).2.1, fun B hB A hA k hk1 hk2 => ?_⟩
    rcases ((hc.all B hB).2 k hk1).1 with ho | hs
    · exact hd A hA k hk2 ho
    · have := ((h.all A (List.mem_append_right _ hA)).2 k hk2).2
      omega
end

section
variable {P : Program} {ro : Option Nat} {ds : List Deferred} {B : Bk ro ds} {n : Nat} {w0 : World} {M : Nat → Prop} {k : List It} {T : Slots} {H : List Asn} {l σ : List Oper} {d : Tmp} {dd : Option Tmp} {tt : TypeId} {pos : String} {af : Array Edge} {g : Option (Nat × Bool)}
theorem loadVar_cell [HasTab P] {s : TypeId} {i : Ti} (hs : ty P s = some i) (hi : aggB i.desc = false) {a : Addr} {v : Value} {w : World} (hc : w.cell? a = some v) : (loadVar s a).run P w = .ok v w := by
  simp [loadVar, ty_agg hs w, hi, hc]
theorem loadVar_cells [HasTab P] {s : TypeId} {i : Ti} (hs : ty P s = some i) (hi : aggB i.desc = true) {a : Addr} {ds : List Value} {w : World} (hl : ds.length = i.size) (hc : ∀ j v, ds[j]? = some v → w.cell? (a.add j) = some v) : (loadVar s a).run P w = .ok (.agg ds.toArray) w := by
  have h1 := run_loadCells_list (P := P) w a ds hc
  rw [hl] at h1
  simp [loadVar, ty_agg hs w, hi, ty_size hs w, h1]
/-- a cell of a known block is read -/
theorem T_load [HasTab P] {x : Operand} {s : TypeId} {gb off t : Nat} {cs : List Value} {v : Value} {i : Ti} (hx : oget T x = some (.pointer (some ⟨gb, off, none⟩))) (hs : ty P s = some i) (hi : aggB i.desc = false) [hm : Hat H gb t cs] (hv : cs[off]? = some v)
    : Tk P n w0 M T H ⟨dd, .load s x, tt, pos, af, g⟩ (v) :=
  .mk (fun a w ha hS => by simp [execOp, ha.eval hx, Instr.loadAt, Instr.sureAddr, loadVar_cell hs hi (hS.cell hm.mem hv)])
/-- a part of a known block is read -/
theorem T_loada [HasTab P] {x : Operand} {s : TypeId} {gb off t : Nat} {cs ds : List Value} {i : Ti} (hx : oget T x = some (.pointer (some ⟨gb, off, none⟩))) (hs : ty P s = some i) (hi : aggB i.desc = true) [hm : Hat H gb t cs] (hl : ds.length = i.size) (hv : ∀ j v, ds[j]? = some v → cs[off + j]? = some v)
    : Tk P n w0 M T H ⟨dd, .load s x, tt, pos, af, g⟩ (.agg ds.toArray) :=
  .mk (fun a w ha hS => by
    have := loadVar_cells (P := P) (a := ⟨gb, off, none⟩) hs hi hl (fun j v hj => by rw [add_plain]; exact hS.cell hm.mem (hv j v hj))
    simp [execOp, ha.eval hx, Instr.loadAt, Instr.sureAddr, this])
/-- memory that was there is read -/
theorem T_loado [HasTab P] {x : Operand} {s : TypeId} {A : Option Addr} {j sz m : Nat} {F : Nat → Prop} {xs : List Value} {v : Value} {i : Ti} (hx : oget T x = some (.pointer (pa A j))) (hs : ty P s = some i) (hi : aggB i.desc = false) (hr : Rd w0 F sz A m xs) (hv : xs[j]? = some v) (hF : ∀ k, F k → ¬ M k)
    : Tk P n w0 M T H ⟨dd, .load s x, tt, pos, af, g⟩ (v) :=
  .mk (fun a w ha hS => by
    have hlt := (List.getElem?_eq_some_iff.1 hv).1
    have hm : 0 < m := by
      rcases Nat.eq_zero_or_pos m with h0 | h0
      · have h2 := hr.1
        rw [h0, Nat.zero_mul] at h2
        omega
      · exact h0
    obtain ⟨ad, rfl, hb, hc⟩ := hr.2 hm
    have h1 := hS.oldCell (p := ad.add j) (by rw [block_of_add]; exact hF _ hb) (hc j v hv)
    simp [execOp, ha.eval hx, pa, Instr.loadAt, Instr.sureAddr, loadVar_cell hs hi h1])
theorem T_loadoa [HasTab P] {x : Operand} {s : TypeId} {A : Option Addr} {j sz m : Nat} {F : Nat → Prop} {xs ds : List Value} {i : Ti} (hx : oget T x = some (.pointer (pa A j))) (hs : ty P s = some i) (hi : aggB i.desc = true) (hr : Rd w0 F sz A m xs) (hl : ds.length = i.size) (h0 : 0 < m) (hv : ∀ e v, ds[e]? = some v → xs[j + e]? = some v) (hF : ∀ k, F k → ¬ M k)
    : Tk P n w0 M T H ⟨dd, .load s x, tt, pos, af, g⟩ (.agg ds.toArray) :=
  .mk (fun a w ha hS => by
    obtain ⟨ad, rfl, hb, hc⟩ := hr.2 h0
    have := loadVar_cells (P := P) (a := ad.add j) hs hi hl (fun e v he => by rw [add_of_add]; exact hS.oldCell (p := ad.add (j + e)) (by rw [block_of_add]; exact hF _ hb) (hc _ v (hv e v he)))
    simp [execOp, ha.eval hx, pa, Instr.loadAt, Instr.sureAddr, this])
/-- addresses -/
def fieldOf : TypeDesc → Nat → Option (Nat × Nat)
  | .struct fs, j => (fs[j]?).map fun f => (f.offset, f.type)
  | _, _ => none
theorem nth_eq {α : Type} : ∀ (l : List α) (j : Nat), nth l j = l[j]?
  | [], _ => rfl
  | _ :: _, 0 => rfl
  | _ :: xs, n + 1 => by rw [nth, nth_eq xs n]; simp
theorem fieldOf_fs [HasTab P] {s ft : TypeId} {j o : Nat} {i : Ti} (hs : ty P s = some i) (hf : nth i.fs j = some (o, ft)) : fieldOf i.desc j = some (o, ft) := by
  rw [← ty_fs hs, nth_eq] at hf
  cases hd : i.desc with
  | struct fs => rw [hd] at hf; simpa [fieldsOf, fieldOf] using hf
  | _ => rw [hd] at hf; cases hf
theorem fieldAt_run [HasTab P] {s ft : TypeId} {j o : Nat} {i fi : Ti} (hs : ty P s = some i) (hf : nth i.fs j = some (o, ft)) (hft : ty P ft = some fi) (hz : Nat.beq fi.size 0 = false) (a : Addr) (w : World) : (Instr.fieldAt s (.pointer (some a)) j).run P w = .ok (.pointer (some (a.add o))) w := by
  have hf := fieldOf_fs hs hf
  have hu := run_underlying (ty_ok hs) w
  have hne : fi.size ≠ 0 := fun e => by rw [e] at hz; cases hz
  cases hd : i.desc with
  | struct fs =>
    rw [hd] at hf hu
    obtain ⟨f, hf1, hf2⟩ := Option.map_eq_some_iff.1 hf
    simp only [Prod.mk.injEq] at hf2
    obtain ⟨rfl, rfl⟩ := hf2
    simp [Instr.fieldAt, hu, hf1, Instr.sureAddr, fieldPlace, ty_size hft w, hne]
  | _ => rw [hd] at hf; cases hf
theorem T_fa [HasTab P] {x : Operand} {s ft : TypeId} {gb off j o : Nat} {i fi : Ti} (hx : oget T x = some (.pointer (some ⟨gb, off, none⟩))) (hs : ty P s = some i) (hf : nth i.fs j = some (o, ft)) (hft : ty P ft = some fi) (hz : Nat.beq fi.size 0 = false)
    : Tk P n w0 M T H ⟨dd, .fieldAddr s x j, tt, pos, af, g⟩ (.pointer (some ⟨gb, off + o, none⟩)) :=
  .mk (fun a w ha hS => by simp [execOp, ha.eval hx, fieldAt_run hs hf hft hz, add_plain])
theorem T_fap [HasTab P] {x : Operand} {s ft : TypeId} {A : Option Addr} {e j o : Nat} {i fi : Ti} (hx : oget T x = some (.pointer (pa A e))) (hs : ty P s = some i) (hf : nth i.fs j = some (o, ft)) (hft : ty P ft = some fi) (hz : Nat.beq fi.size 0 = false) (hA : A ≠ none)
    : Tk P n w0 M T H ⟨dd, .fieldAddr s x j, tt, pos, af, g⟩ (.pointer (pa A (e + o))) :=
  .mk (fun a w ha hS => by
    obtain ⟨ad, rfl, _⟩ := pa_some hA 0
    simp [execOp, ha.eval hx, pa, fieldAt_run hs hf hft hz, add_of_add])
theorem T_ix [HasTab P] {x y : Operand} {s e : TypeId} {A : Option Addr} {m c q : Nat} {kk : IntKind} {i ei : Ti} (hx : oget T x = some (.slice A m c)) (hy : oget T y = some (.int kk (q : Int))) (hs : ty P s = some i) (hi : i.desc = .slice e) (he : ty P e = some ei) (hA : A ≠ none) (hq : q < m) :
    Tk P n w0 M T H ⟨dd, .indexAddr s x y, tt, pos, af, g⟩ (.pointer (pa A (q * ei.size))) := by
  refine ⟨fun a w ha hS => ?_⟩
  have hu := run_underlying (hi ▸ ty_ok hs) w
  obtain ⟨ad, rfl, _⟩ := pa_some hA 0
  have h1 : (0 : Int) ≤ q ∧ (q : Int) < m := by omega
  simp [execOp, ha.eval hx, ha.eval hy, Instr.indexAt, hu, asIntOf, hq, ty_size he w, pa]
/-- the same where the elements are of one cell -/
theorem T_ix1 [HasTab P] {x y : Operand} {s e : TypeId} {A : Option Addr} {m c q : Nat} {kk : IntKind} {i ei : Ti} (hx : oget T x = some (.slice A m c)) (hy : oget T y = some (.int kk (q : Int))) (hs : ty P s = some i) (hi : i.desc = .slice e) (he : ty P e = some ei) (h1 : ei.size = 1) (hA : A ≠ none) (hq : q < m) :
    Tk P n w0 M T H ⟨dd, .indexAddr s x y, tt, pos, af, g⟩ (.pointer (pa A q)) := by
  have := T_ix (n := n) (w0 := w0) (M := M) (H := H) (dd := dd) (tt := tt) (pos := pos) (af := af) (g := g) hx hy hs hi he hA hq
  rwa [h1, Nat.mul_one] at this
/-- the same at a known block -/
theorem T_ixg [HasTab P] {x y : Operand} {s e : TypeId} {gb off m c q : Nat} {kk : IntKind} {i ei : Ti} (hx : oget T x = some (.slice (some ⟨gb, off, none⟩) m c)) (hy : oget T y = some (.int kk (q : Int))) (hs : ty P s = some i) (hi : i.desc = .slice e) (he : ty P e = some ei) (hq : q < m) :
    Tk P n w0 M T H ⟨dd, .indexAddr s x y, tt, pos, af, g⟩ (.pointer (some ⟨gb, off + q * ei.size, none⟩)) := by
  have := T_ix (n := n) (w0 := w0) (M := M) (H := H) (dd := dd) (tt := tt) (pos := pos) (af := af) (g := g) hx hy hs hi he (fun e => by cases e) hq
  simpa [pa, add_plain] using this
theorem T_ixa [HasTab P] {x y : Operand} {s e : TypeId} {gb off m q : Nat} {kk : IntKind} {i ei : Ti} (hx : oget T x = some (.pointer (some ⟨gb, off, none⟩))) (hy : oget T y = some (.int kk (q : Int))) (hs : ty P s = some i) (hi : i.desc = .array m e) (he : ty P e = some ei) (hq : q < m)
    : Tk P n w0 M T H ⟨dd, .indexAddr s x y, tt, pos, af, g⟩ (.pointer (some ⟨gb, off + q * ei.size, none⟩)) :=
  .mk (fun a w ha hS => by
    have hu := run_underlying (hi ▸ ty_ok hs) w
    simp [execOp, ha.eval hx, ha.eval hy, Instr.indexAt, hu, Instr.sureAddr, asIntOf, hq, ty_size he w, add_plain])
/-- new memory -/
def vcells : Value → List Value
  | .agg cs => cs.toList
  | v => [v]
theorem vcells_ok (v : Value) : v.cells = (vcells v).toArray := by cases v <;> simp [Value.cells, vcells]
theorem E_new {o : Oper} {v : Value} {u : TypeId} (hr : ∀ a w, Tm n a T → St w0 M H w → (execOp a.eval o).run P w = .ok (.value (.pointer (some ⟨w.heap.size, 0, none⟩))) (w.alloc (.cells (vcells v).toArray u))) :
    Ef P n w0 M T H o (fun u' H' => ∃ b, u' = .pointer (some ⟨b, 0, none⟩) ∧ H' = pt b u (vcells v) :: H) := .mk fun a w ha hS => by
    unfold Oper.wp
    rw [hr a w ha hS]
    refine ⟨_, _, ⟨w.heap.size, rfl, rfl⟩, rfl, hS.add (Kp.alloc w _) (Blk.new w u _) (fun k hk => ?_)⟩
    have hk : k = w.heap.size := hk
    subst hk
    simp
theorem E_box {x : Operand} {s : TypeId} {v : Value} (hx : oget T x = some v) : Ef P n w0 M T H ⟨dd, .box s x, tt, pos, af, g⟩ (fun u' H' => ∃ b, u' = .pointer (some ⟨b, 0, none⟩) ∧ H' = pt b s (vcells v) :: H) :=
  E_new (v := v) (u := s) (fun a w ha hS => by simp [execOp, ha.eval hx, Instr.box, newVar, newRow, vcells_ok])
theorem E_alloc [HasTab P] {s : TypeId} {i : Ti} (hs : ty P s = some i) : Ef P n w0 M T H ⟨dd, .alloc s, tt, pos, af, g⟩ (fun u' H' => ∃ b, u' = .pointer (some ⟨b, 0, none⟩) ∧ H' = pt b s (vcells i.zero) :: H) :=
  E_new (v := i.zero) (u := s) (fun a w ha hS => by simp [execOp, Instr.alloc, newVar, newRow, vcells_ok, ty_zero hs w])
/-- a store into a known block -/
theorem E_store [HasTab P] {x y : Operand} {s : TypeId} {gb off t : Nat} {cs ds : List Value} {v : Value} {i : Ti} {H' : List Asn} {K : List Value → List Asn} (hx : oget T x = some (.pointer (some ⟨gb, off, none⟩))) (hy : oget T y = some v) (hs : ty P s = some i) (hds : vcells v = ds) (hl : ds.length = i.size) (h1 : ∀ u ∈ ds, u.oneCell' = true) [hu : HUp H gb t cs K] (hH : K (cs.take off ++ ds ++ cs.drop (off + ds.length)) = H') (hfit : off + ds.length ≤ cs.length) : Ef P n w0 M T H ⟨none, .store s x y, tt, pos, af, g⟩ (fun _ H'' => H'' = H') := .mk fun a w ha hS => by
    subst hds
    have hup : Upd H (pt gb t cs) (pt gb t (cs.take off ++ vcells v ++ cs.drop (off + (vcells v).length))) H' := hH ▸ hu.upd _
    have hb : Blk w gb t cs.toArray := hS.at_ (hu.upd []).mem
    have hrun := run_storeCells_at P gb off t (vcells v) 0 cs.toArray w hb (by simpa using hfit) h1
    simp only [Nat.add_zero] at hrun
    unfold Oper.wp
    have hsz : v.cells.size = i.size := by rw [vcells_ok]; simpa using hl
    have : (execOp a.eval ⟨none, .store s x y, tt, pos, af, g⟩).run P w = .ok .skip (w.setRow gb (cs.take off ++ vcells v ++ cs.drop (off + (vcells v).length)).toArray) := by
      have h3 : (storeVar s ⟨gb, off, none⟩ v).run P w = .ok () (w.setRow gb (cs.take off ++ vcells v ++ cs.drop (off + (vcells v).length)).toArray) := by
        simp only [storeVar, Sem.run_bind, ty_size hs w, Result.andThen_ok, hsz, ne_eq, not_true_eq_false, if_false]
        rw [vcells_ok]
        simpa using hrun
      simp [execOp, ha.eval hx, ha.eval hy, Instr.storeAt, Instr.sureAddr, h3]
    rw [this]
    refine ⟨undef, H', rfl, rfl, hS.upd hup (Kp.setRow gb _) ?_ (fun _ h => h)⟩
    exact hb.setRow _
/-- the same for one cell -/
theorem E_store1 [HasTab P] {x y : Operand} {s : TypeId} {gb off t : Nat} {cs : List Value} {v : Value} {i : Ti} {H' : List Asn} {K : List Value → List Asn} (hx : oget T x = some (.pointer (some ⟨gb, off, none⟩))) (hy : oget T y = some v) (hs : ty P s = some i) (h1 : v.oneCell' = true) (hl : i.size = 1) [hu : HUp H gb t cs K] (hH : K (cs.set off v) = H') (hfit : off < cs.length) : Ef P n w0 M T H ⟨none, .store s x y, tt, pos, af, g⟩ (fun _ H'' => H'' = H') := by
  have hc : vcells v = [v] := by cases v <;> first | rfl | (simp [Value.oneCell'] at h1)
  refine E_store (t := t) (cs := cs) hx hy hs hc (by simp [hl]) (by simpa using h1) ?_ (by simp; omega)
  rwa [show cs.take off ++ [v] ++ cs.drop (off + [v].length) = cs.set off v by rw [List.set_eq_take_append_cons_drop, if_pos hfit]; simp]
/-- a call -/
structure Fn_ (P : Program) (f : FuncId) : Prop where
  is : ∃ fn, P.funcs[f]? = some fn ∧ fn.body.isNone = false ∧ (fn.name == "runtime.NumGoroutine") = false
theorem callFunc_run {f : FuncId} (hf : Fn_ P f) (vs : Array Value) (w : World) : (callFunc f vs).run P w = .ok (.enter f vs) w := by
  obtain ⟨fn, h1, h2, h3⟩ := hf.is
  simp only [callFunc, Sem.run_bind, run_program, Result.andThen_ok, h1, h2, h3]
  rfl
/-- what a callee does: it hands back V x, where I x; of the parts As it makes A x -/
def Gives (P : Program) (f : FuncId) (vs : List Value) (As : List Asn) (w : World) {X : Type} (V : X → Value) (I : X → Prop) (A : X → List Asn) : Prop :=
  Calls P f vs.toArray w fun e w' => ∃ x, e = .returned (V x) ∧ I x ∧ St w (owns As) (A x) w'
theorem E_call {X : Type} {f : FuncId} {xs : Array Operand} {ts : Array TypeId} {vs : List Value} (As Hr : List Asn) (V : X → Value) (I : X → Prop) (A : X → List Asn) (hx : ogets T xs.toList = some vs) (hf : Fn_ P f) (hH : ∀ w, St w0 M H w → St w0 M (As ++ Hr) w)
    (hc : ∀ w, St w0 M (As ++ Hr) w → Gives P f vs As w V I A) : Ef P n w0 M T H ⟨dd, .call ⟨.value (.func f), xs, ts⟩, tt, pos, af, g⟩ (fun u H' => ∃ x, I x ∧ u = V x ∧ H' = A x ++ Hr) := .mk fun a w ha hS => by
    have e1 : xs.map a.eval = vs.toArray := by rw [← ha.evals hx, ← Array.toList_map]
    unfold Oper.wp
    have : (execOp a.eval ⟨dd, .call ⟨.value (.func f), xs, ts⟩, tt, pos, af, g⟩).run P w = .ok (.enter f vs.toArray) w := by
      simp [execOp, resolve, Deferred.ofValue, invoke, Act.eval, e1, callFunc_run hf]
    rw [this]
    refine (hc w (hH w hS)).mono fun e w' ⟨x, he, hI, hS'⟩ => ?_
    subst he
    exact ⟨V x, A x ++ Hr, ⟨x, hI, rfl, rfl⟩, rfl, (hH w hS).call hS'⟩
end
theorem noOwns (k : Nat) : ¬ owns [] k := fun ⟨_, h, _⟩ => by cases h
theorem St.enter (w : World) : St w (owns []) [] w := ⟨Kp.refl _ _, fun _ h => (by cases h), List.Pairwise.nil⟩
theorem St.kpO {w0 w : World} {H : List Asn} (h : St w0 (owns []) H w) : Kp All w0 w := h.kp.mono fun k _ _ => noOwns k
end Go.Proofs.YtdbehejbeioboaaDoor
