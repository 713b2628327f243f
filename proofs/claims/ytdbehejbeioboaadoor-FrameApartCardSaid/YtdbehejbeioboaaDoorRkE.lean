/- Rows of elements of more than one cell. No program's own type is named. -/
import Derived.Test.YtdbehejbeioboaaDoorOpR
import Derived.Laws.StructEq
namespace Go.Proofs.YtdbehejbeioboaaDoor
open Go.RowKit
open Asn (pt row rb)
set_option linter.unusedVariables false
set_option linter.unusedSimpArgs false
/-- the cells of a row whose element's cells f tells -/
def cellsL {α : Type} (f : α → List Value) (L : List α) : List Value := L.flatMap f
section
variable {α : Type} {f : α → List Value} {size : Nat}
theorem cellsL_len (hf : ∀ a, (f a).length = size) : ∀ L : List α, (cellsL f L).length = L.length * size
  | [] => by simp [cellsL]
  | x :: L => by
    have := cellsL_len hf L
    simp only [cellsL, List.flatMap_cons, List.length_append, List.length_cons] at this ⊢
    rw [this, hf, Nat.add_mul]
    omega
theorem cellsL_app (L M : List α) : cellsL f (L ++ M) = cellsL f L ++ cellsL f M := by simp [cellsL]
theorem cellsL_one (a : α) : cellsL f [a] = f a := by simp [cellsL]
theorem cellsL_drop (hf : ∀ a, (f a).length = size) : ∀ (L : List α) (j : Nat), cellsL f (L.drop j) = (cellsL f L).drop (j * size)
  | [], j => by simp [cellsL]
  | x :: L, 0 => by simp [cellsL]
  | x :: L, j + 1 => by
    have := cellsL_drop hf L j
    simp only [cellsL, List.drop_succ_cons, List.flatMap_cons] at this ⊢
    rw [this, List.drop_append, hf, List.drop_of_length_le (l := f x) (by rw [hf, Nat.add_mul]; omega), Nat.add_mul, Nat.one_mul, Nat.add_sub_cancel, List.nil_append]
theorem cellsL_at (hf : ∀ a, (f a).length = size) (L : List α) (d : α) (j : Nat) (hj : j < L.length) (e : Nat) (v : Value) (he : (f (L.getD j d))[e]? = some v) : (cellsL f L)[j * size + e]? = some v := by
  have hs := (List.getElem?_eq_some_iff.1 he).1
  have h := cellsL_drop hf L j
  have e1 : L.drop j = L.getD j d :: L.drop (j + 1) := by rw [List.drop_eq_getElem_cons hj]; simp [List.getD, hj]
  rw [e1, cellsL, List.flatMap_cons] at h
  rw [← List.getElem?_drop, ← h, List.getElem?_append_left hs]
  exact he
theorem rows_of {n : Nat} (hf : ∀ a, (f a).length = size) (ok : α → Prop) : ∀ (n : Nat) (xs : List Value), xs.length = n * size → (∀ i, i < n → ∃ a, (xs.drop (i * size)).take size = f a ∧ ok a) → ∃ K : List α, K.length = n ∧ xs = cellsL f K ∧ ∀ a ∈ K, ok a
  | 0, xs, hl, h => ⟨[], rfl, by simpa [cellsL] using hl, by simp⟩
  | n + 1, xs, hl, h => by
    obtain ⟨a, ha, hok⟩ := h 0 (by omega)
    rw [Nat.zero_mul, List.drop_zero] at ha
    obtain ⟨K, hK, hxs, hall⟩ := rows_of (n := n) hf ok n (xs.drop size) (by rw [List.length_drop, hl, Nat.add_mul]; omega) fun i hi => by
      obtain ⟨b, hb, hb2⟩ := h (i + 1) (by omega)
      refine ⟨b, ?_, hb2⟩
      rw [List.drop_drop, ← hb]
      congr 2
      rw [Nat.add_mul, Nat.one_mul, Nat.add_comm]
    refine ⟨a :: K, by simp [hK], ?_, ?_⟩
    · rw [cellsL, List.flatMap_cons, ← ha]
      conv => lhs; rw [← List.take_append_drop size xs, hxs]
      rfl
    · intro b hb
      rcases List.mem_cons.1 hb with rfl | hb
      · exact hok
      · exact hall b hb
end
/-! structs of plain fields, compared -/
def eqVal : Value → Value → Bool
  | .int _ a, .int _ b => a == b
  | .bool a, .bool b => a == b
  | .string a, .string b => a.toList == b.toList
  | _, _ => false
def plainD : TypeDesc → Value → Value → Bool
  | .int _, .int k _, .int k' _ => k == k'
  | .bool, .bool _, .bool _ => true
  | .string, .string _, .string _ => true
  | _, _, _ => false
def chkF (g : TypeId → Option Ti) (xs ys : Array Value) (f : Field) : Bool := f.name != "_" && (match g f.type, xs[f.offset]?, ys[f.offset]? with
  | some i, some a, some b => plainD i.desc a b && !aggB i.desc
  | _, _, _ => false)
def eqFl (xs ys : Array Value) (f : Field) : Bool := eqVal (xs.getD f.offset undef) (ys.getD f.offset undef)
section
variable {P : Program} {n : Nat} {w0 : World} {M : Nat → Prop} {T : Slots} {H Hr : List Asn} {dd : Option Tmp} {tt : TypeId} {pos : String} {af : Array Edge} {g : Option (Nat × Bool)} {x y z : Operand} {ts : Array TypeId}
theorem run_plainD (w : World) (d : Nat) {t : TypeId} {ds : TypeDesc} {a b : Value} (h : P.underlying t = some ds) (hp : plainD ds a b = true) : (Op.equalIn (d + 1) t a b).run P w = .ok (eqVal a b) w := by
  unfold plainD at hp
  split at hp
  · obtain rfl := of_decide_eq_true hp
    exact run_equalIn_int w d t _ _ _ _ h
  · exact run_equalIn_bool' w d t _ _ h
  · exact run_equalIn_string w d t _ _ h
  · cases hp
theorem run_eqFields [HasTab P] (w : World) (d : Nat) (xs ys : Array Value) : ∀ fs : List Field, (fs.all (chkF (ty P) xs ys)) = true → (Op.eqFields (d + 1) xs ys fs).run P w = .ok (fs.all (eqFl xs ys)) w
  | [], _ => by simp [Op.eqFields]
  | f :: fs, h => by
    simp only [List.all_cons, Bool.and_eq_true] at h
    obtain ⟨h1, h2⟩ := h
    have ih := run_eqFields w d xs ys fs h2
    simp only [chkF, Bool.and_eq_true, bne_iff_ne, ne_eq] at h1
    obtain ⟨hn, h1⟩ := h1
    split at h1
    · rename_i i a b hi ha hb
      simp only [Bool.and_eq_true, Bool.not_eq_true'] at h1
      have e1 := run_plainD w d (ty_ok hi) h1.1
      have p1 := part_plain (ty_ok hi) h1.2 ha w
      have p2 := part_plain (ty_ok hi) h1.2 hb w
      have e2 : eqFl xs ys f = eqVal a b := by simp [eqFl, Array.getD_eq_getD_getElem?, ha, hb]
      simp only [Op.eqFields, ne_eq, hn, not_false_eq_true, if_true, Sem.run_bind, p1, p2, e1, Result.andThen_ok, Sem.run_ite, List.all_cons, e2]
      cases eqVal a b
      · simp
      · simpa using ih
    · cases h1
theorem T_eqS [HasTab P] {s u : TypeId} {xs ys : Array Value} {fs : Array Field} {i : Ti} {r : Bool} (hx : oget T x = some (.agg xs)) (hy : oget T y = some (.agg ys)) (hs : ty P s = some i) (hi : i.desc = .struct fs) (hp : P.stoodInHeld s = false) (hg : P.eqGuardType P.depth s = false) (hc : (fs.toList.all (chkF (ty P) xs ys)) = true) (hr : fs.toList.all (eqFl xs ys) = r) :
    Tk P n w0 M T H ⟨dd, .binOp .eql s x y u, tt, pos, af, g⟩ (.bool r) := .mk fun a w ha hS => by
  have hu : P.underlying s = some (.struct fs) := hi ▸ ty_ok hs
  have hf : P.fieldsOf s = fs := by simp [Program.fieldsOf, hu]
  have h3 : (Op.equal s (.agg xs) (.agg ys)).run P w = .ok r w := by
    unfold Op.equal Op.maxDepth
    rw [show 10000 = 9998 + 1 + 1 from rfl, run_equalIn_struct w (9998 + 1) s xs ys (by rw [hf]; exact hu) hp, hf, run_eqFields w 9998 xs ys _ hc, hr]
  simp [execOp, ha.eval hx, ha.eval hy, eqGuard, hg, binOp, h3]
theorem T_neS [HasTab P] {s u : TypeId} {xs ys : Array Value} {fs : Array Field} {i : Ti} {r : Bool} (hx : oget T x = some (.agg xs)) (hy : oget T y = some (.agg ys)) (hs : ty P s = some i) (hi : i.desc = .struct fs) (hp : P.stoodInHeld s = false) (hg : P.eqGuardType P.depth s = false) (hc : (fs.toList.all (chkF (ty P) xs ys)) = true) (hr : fs.toList.all (eqFl xs ys) = r) :
    Tk P n w0 M T H ⟨dd, .binOp .neq s x y u, tt, pos, af, g⟩ (.bool (!r)) := .mk fun a w ha hS => by
  have hu : P.underlying s = some (.struct fs) := hi ▸ ty_ok hs
  have hf : P.fieldsOf s = fs := by simp [Program.fieldsOf, hu]
  have h3 : (Op.equal s (.agg xs) (.agg ys)).run P w = .ok r w := by
    unfold Op.equal Op.maxDepth
    rw [show 10000 = 9998 + 1 + 1 from rfl, run_equalIn_struct w (9998 + 1) s xs ys (by rw [hf]; exact hu) hp, hf, run_eqFields w 9998 xs ys _ hc, hr]
  simp [execOp, ha.eval hx, ha.eval hy, eqGuard, hg, binOp, h3]
end
/-! a literal of elements of any size -/
theorem vcells_eq (v : Value) : v.cells.toList = vcells v := by cases v <;> rfl
theorem set_run : ∀ (c pre zs : List Value) (s j : Nat), pre.length = s + j → c.length ≤ zs.length → (c.zipIdx j).foldl (fun cs x => cs.setIfInBounds (s + x.2) x.1) (pre ++ zs).toArray = (pre ++ c ++ zs.drop c.length).toArray
  | [], pre, zs, s, j, _, _ => by simp
  | x :: c, pre, z :: zs, s, j, hp, hl => by
    have e : (pre ++ z :: zs).toArray.setIfInBounds (s + j) x = ((pre ++ [x]) ++ zs).toArray := by
      apply Array.ext'
      simp [← hp]
    have ih := set_run c (pre ++ [x]) zs s (j + 1) (by simp; omega) (by simpa using hl)
    simp only [List.zipIdx_cons, List.foldl_cons, e, ih]
    simp
theorem fill_any {size : Nat} : ∀ (vs : List Value) (k : Nat) (pre : List Value) (zs : List Value), pre.length = k * size → zs.length = vs.length * size → (∀ v ∈ vs, (vcells v).length = size) →
    Instr.fill (fun i => some (i * size, size)) (pre ++ zs).toArray ((List.range' k vs.length).zip vs) = some (pre ++ vs.flatMap vcells).toArray
  | [], k, pre, zs, _, hz, _ => by
    have : zs = [] := List.eq_nil_of_length_eq_zero (by simpa using hz)
    subst this
    simp [Instr.fill]
  | v :: vs, k, pre, zs, hp, hz, h1 => by
    have hv : v.cells.toList.length = size := by rw [vcells_eq]; exact h1 v (by simp)
    have hv3 : (vcells v).length = size := h1 v (by simp)
    have hv2 : v.cells.size = size := by simpa using hv
    have hzl : zs.length = size + vs.length * size := by rw [hz, List.length_cons, Nat.add_mul]; omega
    have ih := fill_any vs (k + 1) (pre ++ vcells v) (zs.drop size) (by rw [List.length_append, hp, hv3, Nat.add_mul]; omega) (by rw [List.length_drop, hzl]; omega) (fun u hu => h1 u (by simp [hu]))
    rw [List.length_cons, List.range'_succ, List.zip_cons_cons, Instr.fill]
    have h3 : ((v.cells.size ≠ size) || decide (k * size + v.cells.size > (pre ++ zs).toArray.size)) = false := by
      simp [hv2, hp]
      omega
    simp only [h3, Bool.false_eq_true, if_false]
    have e := set_run v.cells.toList pre zs (k * size) 0 (by rw [hp, Nat.add_zero]) (by rw [hv, hzl]; omega)
    have e2 : (v.cells.zipIdx.foldl (fun cs x => cs.setIfInBounds (k * size + x.2) x.1) (pre ++ zs).toArray) = (pre ++ v.cells.toList ++ zs.drop size).toArray := by
      rw [← Array.foldl_toList, Array.toList_zipIdx, e, hv]
    rw [e2, show pre ++ v.cells.toList ++ List.drop size zs = (pre ++ vcells v) ++ List.drop size zs from by rw [vcells_eq], ih]
    simp
section
variable {P : Program} {n : Nat} {w0 : World} {M : Nat → Prop} {T : Slots} {H Hr : List Asn} {dd : Option Tmp} {tt : TypeId} {pos : String} {af : Array Edge} {g : Option (Nat × Bool)} {x y z : Operand} {ts : Array TypeId}
theorem E_litS [HasTab P] {s e : TypeId} {m size : Nat} {parts : Array (Nat × Operand)} {vs ds : List Value} {i ei : Ti} (hv : ogets T (parts.toList.map (·.2)) = some vs) (hp : parts.toList.map (·.1) = List.range m) (hs : ty P s = some i) (hi : i.desc = .slice e) (he : ty P e = some ei) (h1 : ei.size = size) (ho : ∀ v ∈ vs, (vcells v).length = size) (hd : vs.flatMap vcells = ds) (hm : m * size ≤ 1000) :
    Ef P n w0 M T H ⟨dd, .buildSlice s m parts, tt, pos, af, g⟩ (fun u H' => ∃ b, u = .slice (some ⟨b, 0, none⟩) m m ∧ H' = pt b e ds :: H) := .mk fun a w ha hS => by
  have hu := run_underlying (hi ▸ ty_ok hs) w
  have hev := ha.evals hv
  have hl : vs.length = m := by rw [← hev]; have := congrArg List.length hp; simpa using this
  have hparts : (parts.map fun x => (x.1, a.eval x.2)).toList = (List.range' 0 vs.length).zip vs := by
    rw [hl, ← List.range_eq_range', ← hp, ← hev]
    simp [List.zip_map']
  have hfill : ∀ zs : Array Value, zs.size = m * size → Instr.fill (fun i => some (i * size, size)) zs ((List.range' 0 vs.length).zip vs) = some ds.toArray := fun zs hz => by
    have h := fill_any vs 0 [] zs.toList (by simp) (by rw [hl]; simpa using hz) ho
    rw [hd] at h
    simpa using h
  have hrun : (Instr.buildSlice s m (parts.map fun x => (x.1, a.eval x.2))).run P w = .ok (.slice (some ⟨w.heap.size, 0, none⟩) m m) (w.alloc (.cells ds.toArray e)) := by
    have hle : ¬ m * size > 2 ^ 24 := by omega
    by_cases hm0 : m * size = 0
    · have hf := hfill ((Array.range (m * size)).map fun i => (#[] : Array Value)[i % (#[] : Array Value).size]!) (by simp)
      simp only [Instr.buildSlice, Sem.run_bind, hu, Result.andThen_ok, ty_size he w, h1, Sem.run_ite, if_neg hle, if_pos hm0, Sem.run_pure, hparts, hf]
      simp [newRow]
    · have hf := hfill ((Array.range (m * size)).map fun i => ei.zero.cells[i % ei.zero.cells.size]!) (by simp)
      simp only [Instr.buildSlice, Sem.run_bind, hu, Result.andThen_ok, ty_size he w, h1, Sem.run_ite, if_neg hle, if_neg hm0, ty_zero he w, Sem.run_pure, hparts, hf]
      simp [newRow]
  unfold Oper.wp
  simp only [execOp, Sem.run_bind, hrun, Result.andThen_ok, Sem.run_pure]
  refine ⟨_, _, ⟨w.heap.size, rfl, rfl⟩, rfl, hS.add (Kp.alloc w _) (Blk.new w e _) (fun k hk => ?_)⟩
  have hk : k = w.heap.size := hk
  subst hk
  simp
end
/-! elements of more than one cell, read and written -/
section
variable {P : Program} {n : Nat} {w0 : World} {M : Nat → Prop} {T : Slots} {H Hr : List Asn} {dd : Option Tmp} {tt : TypeId} {pos : String} {af : Array Edge} {g : Option (Nat × Bool)} {x y z : Operand} {ts : Array TypeId}
theorem T_lda [HasTab P] {s : TypeId} {A : Option Addr} {j sz m : Nat} {xs ds : List Value} {i : Ti} (hx : oget T x = some (.pointer (pa A j))) (hs : ty P s = some i) (hi : aggB i.desc = true) (hr : Srd w0 M H sz A m xs) (hl : ds.length = i.size) (h0 : 0 < m) (hv : ∀ e v, ds[e]? = some v → xs[j + e]? = some v) :
    Tk P n w0 M T H ⟨dd, .load s x, tt, pos, af, g⟩ (.agg ds.toArray) := .mk fun a w ha hS =>
  (T_loadoa (w0 := w) (M := owns []) (H := []) (n := n) (T := T) hx hs hi (hr.rd w hS) hl h0 hv (fun k _ => noOwns k)).run a w ha (St.enter w)
theorem T_ixM [HasTab P] {s e : TypeId} {A : Option Addr} {m c q sz : Nat} {w : Int} {kk : IntKind} {i ei : Ti} (hx : oget T x = some (.slice A m c)) (hy : oget T y = some (.int kk w)) [hz : NatOf w q] (hs : ty P s = some i) (hi : i.desc = .slice e) (he : ty P e = some ei) (h1 : ei.size = sz) (hA : A ≠ none) (hq : q < m) :
    Tk P n w0 M T H ⟨dd, .indexAddr s x y, tt, pos, af, g⟩ (.pointer (pa A (q * sz))) := by
  rw [hz.is] at hy
  subst h1
  exact T_ix hx hy hs hi he hA hq
theorem E_storeRS [HasTab P] {s e : TypeId} {sz m c j : Nat} {A : Option Addr} {xs : List Value} {v : Value} {i : Ti} (hx : oget T x = some (.pointer (pa A j))) (hy : oget T y = some v) (hs : ty P s = some i) (h1 : v.oneCell' = true) (hl : i.size = 1) [hr : HRow H A m c e sz xs Hr] (hfit : j < xs.length) :
    Ef P n w0 M T H ⟨none, .store s x y, tt, pos, af, g⟩ (fun _ H' => H' = row e sz A m c (xs.set j v) :: Hr) := by
  have hc : vcells v = [v] := by cases v <;> first | rfl | (simp [Value.oneCell'] at h1)
  have h := E_storeR (P := P) (n := n) (w0 := w0) (M := M) (tt := tt) (pos := pos) (af := af) (g := g) (H := H) (Hr := Hr) (size := sz) (ds := [v]) (off := j) (xs := xs) (A := A) (m := m) (c := c) (e := e) hx hy hs hc (by simp [hl]) (by simpa using h1) (by simp) (by simp; omega)
  have e : xs.take j ++ [v] ++ xs.drop (j + [v].length) = xs.set j v := by rw [List.set_eq_take_append_cons_drop, if_pos hfit]; simp
  rw [e] at h
  exact h
end
end Go.Proofs.YtdbehejbeioboaaDoor
