/- Lemmas of the proof, part 1. -/
import Derived.WalkKit
import Derived.Deep.Draws
import Derived.Deep.AppendLies
import Derived.Maps.AppendAt
import Derived.Lib.Hide
import Derived.Deep.QuietTactic
import Derived.Laws.CopyOwn
import Derived.Laws.OwnMore
import Derived.OrdersHeld
import Derived.KernelRfl
import Derived.Scope
import Derived.Deep.LoopGhost
import Derived.Sort.LoopGhostIn
import Derived.TacticsIn
import Derived.OrdersIn
import Derived.IntWalk
import Derived.Deep.MidRow
import Derived.Lib.ConvBytes
import Derived.Lib.AppendStr
import Derived.ChangeKeysEq
import Derived.Laws.Tables
import Derived.Laws.CopyRow
import Derived.Laws.RangeString
import Derived.Lib.Overlaps
import Derived.Lib.AppendZerosOnto
import Derived.Lib.SliceRun
import Derived.MapKept
import Derived.RangeFuncLeaves
import Derived.RangeFuncRecord
import Derived.RangeFuncSeq
namespace Go.Proofs.YtdeffdldifepkaaGreat
open Go.RowKit

theorem block_of_add (a : Addr) (n : Nat) : (a.add n).block = a.block := by unfold Addr.add; split <;> rfl
theorem add_of_add (a : Addr) (i j : Nat) : (a.add i).add j = a.add (i + j) := by
  unfold Addr.add
  by_cases hi : i = 0 <;> by_cases hj : j = 0 <;> simp [hi, hj, Nat.add_assoc]

/-- Of the blocks that were there, those in F are as they were. -/
structure Kp (F : Nat → Prop) (w w' : World) : Prop where
  os : w'.os = w.os
  tape : w'.tape = w.tape
  output : w'.output = w.output
  size : w.heap.size ≤ w'.heap.size
  block : ∀ k, F k → k < w.heap.size → w'.heap[k]? = w.heap[k]?

/-- every block -/
def All : Nat → Prop := fun _ => True

theorem Kp.refl (F : Nat → Prop) (w : World) : Kp F w w := ⟨rfl, rfl, rfl, Nat.le_refl _, fun _ _ _ => rfl⟩
theorem Kp.trans {F : Nat → Prop} {a b c : World} (h : Kp F a b) (k : Kp F b c) : Kp F a c :=
  ⟨k.os.trans h.os, k.tape.trans h.tape, k.output.trans h.output, Nat.le_trans h.size k.size, fun i hF hi => (k.block i hF (Nat.lt_of_lt_of_le hi h.size)).trans (h.block i hF hi)⟩
theorem Kp.mono {F G : Nat → Prop} {a b : World} (h : Kp F a b) (hG : ∀ k, G k → k < a.heap.size → F k) : Kp G a b :=
  ⟨h.os, h.tape, h.output, h.size, fun i hg hi => h.block i (hG i hg hi) hi⟩
theorem Kp.all {G : Nat → Prop} {a b : World} (h : Kp All a b) : Kp G a b := h.mono fun _ _ _ => trivial
theorem Kp.drew {F : Nat → Prop} (w : World) : Kp F w w.drew := ⟨rfl, rfl, rfl, Nat.le_refl _, fun _ _ _ => rfl⟩
theorem Kp.alloc {F : Nat → Prop} (w : World) (o : Obj) : Kp F w (w.alloc o) := ⟨rfl, rfl, rfl, by simp, fun i _ hi => Below.heap_alloc w o i hi⟩
theorem Kp.of_grown {w w' : World} {row : Option Nat} (h : w.grownBy w' row) : Kp (fun k => some k ≠ row) w w' :=
  ⟨h.os, h.tape, h.output, h.size, fun i hF hi => h.block i hi hF⟩
theorem Kp.below {w w' : World} (h : Kp All w w') : Below w.heap.size w w' := ⟨h.os, h.tape, h.output, h.size, fun k hk => h.block k trivial hk⟩
/-- a step that keeps all but blocks from w.heap.size on, behind which only old blocks count -/
theorem Kp.since {F : Nat → Prop} {a b c : World} (h : Kp All a b) (k : Kp F b c) (hF : ∀ i, i < a.heap.size → F i) : Kp All a c :=
  ⟨k.os.trans h.os, k.tape.trans h.tape, k.output.trans h.output, Nat.le_trans h.size k.size, fun i _ hi => (k.block i (hF i hi) (Nat.lt_of_lt_of_le hi h.size)).trans (h.block i trivial hi)⟩
theorem Kp.cell {F : Nat → Prop} {w w' : World} (h : Kp F w w') {p : Addr} {u : Value} (hF : F p.block) (hc : w.cell? p = some u) : w'.cell? p = some u :=
  (World.cell?_of_block (w := w) (h.block p.block hF (World.block_lt_of_cell? w p hc))).trans hc

/-- the slice (A, n) has the cells xs, 'size' for each element; its blocks lie in F -/
def Rd (w : World) (F : Nat → Prop) (size : Nat) (A : Option Addr) (n : Nat) (xs : List Value) : Prop :=
  xs.length = n * size ∧ (0 < n → ∃ ad, A = some ad ∧ F ad.block ∧ ∀ j u, xs[j]? = some u → w.cell? (ad.add j) = some u)

section
variable {w w' : World} {F G : Nat → Prop} {size n : Nat} {A : Option Addr} {xs : List Value}
theorem Rd.none_ : Rd w F size A 0 [] := ⟨by simp, fun h => absurd h (by omega)⟩
theorem Rd.at_ {k : Nat} (h : Rd w F 1 A n xs) (hk : k < n) : ∃ ad u, A = some ad ∧ F ad.block ∧ xs[k]? = some u ∧ w.cell? (ad.add k) = some u := by
  obtain ⟨ad, e, hb, hc⟩ := h.2 (by omega)
  have hl : k < xs.length := by have := h.1; omega
  exact ⟨ad, xs[k], e, hb, List.getElem?_eq_getElem hl, hc k _ (List.getElem?_eq_getElem hl)⟩
theorem Rd.keep (h : Rd w F size A n xs) (hk : Kp F w w') : Rd w' F size A n xs :=
  ⟨h.1, fun hn => by
    obtain ⟨ad, e, hb, hc⟩ := h.2 hn
    exact ⟨ad, e, hb, fun j u hu => hk.cell (by rw [block_of_add]; exact hb) (hc j u hu)⟩⟩
theorem Rd.more (h : Rd w F size A n xs) (hG : ∀ k, F k → G k) : Rd w G size A n xs :=
  ⟨h.1, fun hn => by
    obtain ⟨ad, e, hb, hc⟩ := h.2 hn
    exact ⟨ad, e, hG _ hb, hc⟩⟩
end

/-- a byte as a cell -/
def bv (x : UInt8) : Value := .int .u8 (x.toNat : Int)

/-- a slice of bytes that reads as l -/
structure Bs (w : World) (F : Nat → Prop) (A : Option Addr) (n c : Nat) (l : List UInt8) : Prop where
  len : n = l.length
  cap : n ≤ c
  capm : c ≤ maxLen
  rd : Rd w F 1 A n (l.map bv)

theorem Bs.keep {w w' : World} {F : Nat → Prop} {A : Option Addr} {n c : Nat} {l : List UInt8} (h : Bs w F A n c l) (hk : Kp F w w') : Bs w' F A n c l :=
  ⟨h.len, h.cap, h.capm, h.rd.keep hk⟩
theorem Bs.at_ {w : World} {F : Nat → Prop} {A : Option Addr} {n c : Nat} {l : List UInt8} (h : Bs w F A n c l) {k : Nat} (hk : k < n) :
    ∃ ad, A = some ad ∧ F ad.block ∧ w.cell? (ad.add k) = some (.int .u8 ((l.getD k 0).toNat : Int)) := by
  obtain ⟨ad, u, e, hb, hx, hc⟩ := h.rd.at_ hk
  have hl : k < l.length := by have := h.len; omega
  refine ⟨ad, e, hb, ?_⟩
  rw [hc]
  simp [hl, bv] at hx ⊢
  exact hx.symm

section
variable {w w' : World} {F : Nat → Prop} {size n : Nat} {A : Option Addr} {xs : List Value}
theorem Rd.cut (h : Rd w F size A n xs) {k cap : Nat} (hk : k ≤ n) (hc : n ≤ cap) :
    Rd w F size (if cap = k then A else A.map (·.add (k * size))) (n - k) (xs.drop (k * size)) := by
  refine ⟨by rw [List.length_drop, h.1, Nat.sub_mul], fun hn => ?_⟩
  obtain ⟨ad, rfl, hb, hcell⟩ := h.2 (by omega)
  rw [if_neg (by omega)]
  refine ⟨ad.add (k * size), rfl, by rw [block_of_add]; exact hb, fun j u hu => ?_⟩
  rw [add_of_add]
  exact hcell _ u (by rw [← hu, List.getElem?_drop])
theorem Rd.head (h : Rd w F size A n xs) {k : Nat} (hk : k ≤ n) : Rd w F size A k (xs.take (k * size)) := by
  have hle : k * size ≤ n * size := Nat.mul_le_mul_right _ hk
  refine ⟨by rw [List.length_take, h.1]; omega, fun hn => ?_⟩
  obtain ⟨ad, rfl, hb, hcell⟩ := h.2 (by omega)
  refine ⟨ad, rfl, hb, fun j u hu => hcell j u ?_⟩
  rw [List.getElem?_take] at hu
  split at hu
  · exact hu
  · cases hu
theorem Rd.of_own {base : Nat} {e : TypeId} {c : Nat} (h : w.ownsRow base e size (.slice A n c) n xs) : Rd w (fun k => base ≤ k) size A n xs := by
  refine ⟨h.1, fun hn => ?_⟩
  rcases h.2 with ⟨_, h0⟩ | ⟨g, cap, cur, hv, hb, _⟩
  · omega
  · have hA : A = some ⟨g, 0, none⟩ := by injection hv
    subst hA
    exact ⟨_, rfl, hb, h.cells (g := g) rfl⟩
end

theorem own_form {w : World} {base : Nat} {e : TypeId} {size n : Nat} {v : Value} {xs : List Value} (h : w.ownsRow base e size v n xs) : ∃ A c, v = .slice A n c ∧ n ≤ c ∧ c ≤ maxLen := by
  rcases h.2 with ⟨rfl, rfl⟩ | ⟨g, cap, cur, rfl, _, _, hn, hc, _⟩
  · exact ⟨none, 0, rfl, Nat.le_refl _, by simp⟩
  · exact ⟨_, cap, rfl, hn, hc⟩
theorem own_kp {w w' : World} {base : Nat} {e : TypeId} {size n : Nat} {v : Value} {xs : List Value} {F : Nat → Prop} (h : w.ownsRow base e size v n xs) (hk : Kp F w w') (hF : ∀ g, v.ownBlock = some g → F g) : w'.ownsRow base e size v n xs := by
  refine ⟨h.1, ?_⟩
  rcases h.2 with hn | ⟨g, cap, cur, rfl, hb, hgg, rest⟩
  · exact .inl hn
  · refine .inr ⟨g, cap, cur, rfl, hb, ?_, rest⟩
    rw [hk.block g (hF g rfl) (Array.getElem?_eq_some_iff.1 hgg).1]
    exact hgg
theorem own_base {w : World} {base base' : Nat} {e : TypeId} {size n : Nat} {v : Value} {xs : List Value} (h : w.ownsRow base e size v n xs) (hb : base' ≤ base) : w.ownsRow base' e size v n xs := by
  refine ⟨h.1, ?_⟩
  rcases h.2 with hn | ⟨g, cap, cur, rfl, hbb, rest⟩
  · exact .inl hn
  · exact .inr ⟨g, cap, cur, rfl, by omega, rest⟩

theorem Bs.of_own {w : World} {base : Nat} {e : TypeId} {A : Option Addr} {n c : Nat} {l : List UInt8} (h : w.ownsRow base e 1 (.slice A n c) n (l.map bv)) : Bs w (fun k => base ≤ k) A n c l := by
  obtain ⟨A', c', hv, h1, h2⟩ := own_form h
  injection hv with e1 e2 e3
  subst e3
  exact ⟨by have := h.1; simp at this; omega, h1, h2, Rd.of_own h⟩
theorem Bs.nil (w : World) (F : Nat → Prop) : Bs w F none 0 0 [] := ⟨rfl, Nat.le_refl _, by simp, Rd.none_⟩
theorem Bs.head {w : World} {F : Nat → Prop} {A : Option Addr} {n c : Nat} {l : List UInt8} (h : Bs w F A n c l) {k : Nat} (hk : k ≤ n) : Bs w F A k c (l.take k) := by
  refine ⟨by have := h.len; rw [List.length_take]; omega, by have := h.cap; omega, h.capm, ?_⟩
  have := h.rd.head hk
  rwa [Nat.mul_one, ← List.map_take] at this
theorem Bs.cut {w : World} {F : Nat → Prop} {A : Option Addr} {n c : Nat} {l : List UInt8} (h : Bs w F A n c l) {k : Nat} (hk : k ≤ n) : Bs w F (if c = k then A else A.map (·.add k)) (n - k) (c - k) (l.drop k) := by
  have hc := h.cap
  refine ⟨by have := h.len; rw [List.length_drop]; omega, by omega, by have := h.capm; omega, ?_⟩
  have := h.rd.cut hk hc
  rwa [Nat.mul_one, ← List.map_drop] at this
theorem Bs.more {w : World} {F G : Nat → Prop} {A : Option Addr} {n c : Nat} {l : List UInt8} (h : Bs w F A n c l) (hG : ∀ k, F k → G k) : Bs w G A n c l := ⟨h.len, h.cap, h.capm, h.rd.more hG⟩

section
variable {P : Program} (w : World)

theorem run_append_of_nil (base : Nat) (t ty e : TypeId) (i : TypeInfo) (size : Nat) (ht : P.underlying t = some (.slice e)) (hi : P.info? e = some i)
    (v : Value) (n : Nat) (xs : List Value) (hown : w.ownsRow base e size v n xs) (c : Nat) : (Builtin.append_ #[t, t] ty #[v, .slice none 0 c]).run P w = .ok v w := by
  rcases hown.2 with ⟨rfl, rfl⟩ | ⟨g, cap, cur, rfl, _, _, hnc, _⟩
  · simp [Builtin.append_, run_underlying ht, sizeOf, typeInfo, hi, Builtin.lenOf, Builtin.firstCells]
  · simp [Builtin.append_, run_underlying ht, sizeOf, typeInfo, hi, Builtin.lenOf, Builtin.firstCells, hnc, storeCells]

/-- append onto an owned row, whatever the source (nil, empty or not) -/
theorem run_append_rd (base : Nat) (t ty e : TypeId) (i : TypeInfo) (z : Value) (size bytes : Nat) (ht : P.underlying t = some (.slice e)) (hi : P.info? e = some i) (hz : i.zero = some z)
    (hsize : i.size = size) (hby : i.bytes = bytes) (hzs : z.cells.size = size) (hsz : 0 < size)
    (v : Value) (n : Nat) (xs : List Value) (hown : w.ownsRow base e size v n xs)
    (F : Nat → Prop) (A : Option Addr) (m c : Nat) (news : List Value) (hr : Rd w F size A m news) (h1 : ∀ u ∈ news, u.oneCell' = true)
    (h63 : n + m ≤ maxLen) (hbytes : (n + m) * bytes ≤ 140737488355328) (hbase : base ≤ w.heap.size) :
    ∃ v' w', (Builtin.append_ #[t, t] ty #[v, .slice A m c]).run P w = .ok v' w' ∧ w'.ownsRow base e size v' (n + m) (xs ++ news) ∧ Kp (fun k => some k ≠ v.ownBlock) w w' ∧
      (v'.ownBlock = v.ownBlock ∨ v'.ownBlock = some w.heap.size) := by
  rcases A with _ | ad
  · have hm : m = 0 := by
      rcases Nat.eq_zero_or_pos m with h0 | h0
      · exact h0
      · obtain ⟨ad, h, _⟩ := hr.2 h0
        cases h
    subst hm
    have hn : news = [] := List.eq_nil_of_length_eq_zero (by simpa using hr.1)
    subst hn
    exact ⟨v, w, run_append_of_nil w base t ty e i size ht hi v n xs hown c, by simpa using hown, Kp.refl _ w, .inl rfl⟩
  · have hcells : ∀ j u, news[j]? = some u → w.cell? (ad.add j) = some u := by
      intro j u hu
      rcases Nat.eq_zero_or_pos m with h0 | h0
      · subst h0
        have hn : news = [] := List.eq_nil_of_length_eq_zero (by simpa using hr.1)
        subst hn
        simp at hu
      · obtain ⟨ad', h, _, hc⟩ := hr.2 h0
        injection h with h
        subst h
        exact hc j u hu
    obtain ⟨v', w', hrun, h2, h3, _, h5⟩ := run_append_own_at (P := P) w base t ty e i z size bytes ht hi hz hsize hby hzs hsz v n xs hown ad m c news hr.1 hcells h1 h63 hbytes hbase
    exact ⟨v', w', hrun, h2, Kp.of_grown h3, h5⟩

theorem wp_append_rd {o : Oper} {a : Act} {K : Act → World → Prop} {Q : Exit → Act → World → Prop} (s x : Operand) (t : TypeId)
    (ho : o.op = .call { callee := .builtin .append, args := #[s, x], argTypes := #[t, t] })
    (base : Nat) (e : TypeId) (i : TypeInfo) (z : Value) (size bytes : Nat) (ht : P.underlying t = some (.slice e)) (hi : P.info? e = some i) (hz : i.zero = some z)
    (hsize : i.size = size) (hby : i.bytes = bytes) (hzs : z.cells.size = size) (hsz : 0 < size)
    (v : Value) (n : Nat) (xs : List Value) (hs : a.eval s = v) (hown : w.ownsRow base e size v n xs)
    (F : Nat → Prop) (A : Option Addr) (m c : Nat) (news : List Value) (hx : a.eval x = .slice A m c) (hr : Rd w F size A m news) (h1 : ∀ u ∈ news, u.oneCell' = true)
    (h63 : n + m ≤ maxLen) (hbytes : (n + m) * bytes ≤ 140737488355328) (hbase : base ≤ w.heap.size)
    (h : ∀ A' c' w', w'.ownsRow base e size (.slice A' (n + m) c') (n + m) (xs ++ news) → Kp (fun k => some k ≠ v.ownBlock) w w' → ((Value.slice A' (n + m) c').ownBlock = v.ownBlock ∨ (Value.slice A' (n + m) c').ownBlock = some w.heap.size) → K (a.put o.dst (.slice A' (n + m) c')) w') : o.wp P a w K Q := by
  obtain ⟨v', w', hrun, h2, h3, h4⟩ := run_append_rd (P := P) w base t o.type e i z size bytes ht hi hz hsize hby hzs hsz v n xs hown F A m c news hr h1 h63 hbytes hbase
  obtain ⟨A', c', rfl, _, _⟩ := own_form h2
  unfold Oper.wp execOp
  simp only [ho, resolve, invoke, builtin, Sem.run_bind, Sem.run_pure, Result.andThen_ok, List.map_toArray, List.map_cons, List.map_nil, hs, hx, hrun]
  exact h A' c' w' h2 h3 h4

end

/-- block g is just the cells cs of element type t; none is frozen -/
def Blk (w : World) (g : Nat) (t : TypeId) (cs : Array Value) : Prop := w.heap[g]? = some (.cells cs t (0, 0))
section
variable {w w' : World} {g : Nat} {t : TypeId} {cs : Array Value}
theorem Blk.lt (h : Blk w g t cs) : g < w.heap.size := by
  rcases Nat.lt_or_ge g w.heap.size with hlt | hge
  · exact hlt
  · unfold Blk at h; rw [Array.getElem?_eq_none hge] at h; cases h
theorem Blk.cell (h : Blk w g t cs) (i : Nat) : w.cell? ⟨g, i, none⟩ = cs[i]? := cell_of_row w g i cs t (0, 0) h
theorem Blk.frozen (h : Blk w g t cs) (i : Nat) : w.frozen? ⟨g, i, none⟩ = false := by
  unfold Blk at h
  simp [World.frozen?, h]
theorem Blk.new (w : World) (t : TypeId) (cs : Array Value) : Blk (w.alloc (.cells cs t)) w.heap.size t cs := heap_alloc_new w _
theorem Blk.kp {F : Nat → Prop} (h : Blk w g t cs) (hk : Kp F w w') (hF : F g) : Blk w' g t cs := (hk.block g hF h.lt).trans h
theorem Blk.alloc (h : Blk w g t cs) (o : Obj) : Blk (w.alloc o) g t cs := h.kp (F := All) (Kp.alloc w o) trivial
theorem Blk.own {base n c size : Nat} {xs : List Value} (h : Blk w g t cs) (hb : base ≤ g) (hn : n ≤ c) (hc : c ≤ maxLen) (hs : cs.size = c * size) (ht : cs.toList.take (n * size) = xs) : w.ownsRow base t size (.slice (some ⟨g, 0, none⟩) n c) n xs := by
  refine ⟨?_, .inr ⟨g, c, cs, rfl, hb, h, hn, hc, hs, ht⟩⟩
  rw [← ht, List.length_take, Array.length_toList, hs, Nat.min_eq_left (Nat.mul_le_mul_right _ hn)]
end
theorem own_blk {w : World} {base : Nat} {e : TypeId} {size n c : Nat} {A : Option Addr} {xs : List Value} (h : w.ownsRow base e size (.slice A n c) n xs) (hn : 0 < n) :
    ∃ g cs, A = some ⟨g, 0, none⟩ ∧ base ≤ g ∧ Blk w g e cs ∧ cs.size = c * size ∧ cs.toList.take (n * size) = xs := by
  rcases h.2 with ⟨_, h0⟩ | ⟨g, cap, cur, hv, hb, hh, _, _, hs, ht⟩
  · omega
  · injection hv with e1 e2 e3
    subst e1; subst e3
    exact ⟨g, cur, rfl, hb, hh, hs, ht⟩
theorem Kp.setRow {w : World} (g : Nat) (cs : Array Value) : Kp (fun k => k ≠ g) w (w.setRow g cs) :=
  ⟨rfl, rfl, rfl, by simp, fun i hF _ => setRow_other w g i cs hF⟩

section
variable {P : Program} (w : World)
end

end Go.Proofs.YtdeffdldifepkaaGreat
namespace Go.Proofs.YtdeffdldifepkaaGreat
open Go.RowKit
set_option linter.unusedVariables false
set_option linter.unusedSimpArgs false

/-! slots -/
abbrev Slots := List (Nat × Value)
def tget : Slots → Nat → Option Value
  | [], _ => none
  | (i, v) :: T, j => bif Nat.beq i j then some v else tget T j
def oget (T : Slots) : Operand → Option Value
  | .tmp t => tget T t
  | .const v => some v
  | .global g => some (.pointer (some ⟨g, 0, none⟩))
  | .func f => some (.func (.func f) #[] #[])
/-- the slots of a frame hold what T says -/
structure Tm (n : Nat) (a : Act) (T : Slots) : Prop where
  size : a.tmps.size = n
  at_ : ∀ i v, tget T i = some v → a.tmps[i]? = some v
theorem Tm.eval {n : Nat} {a : Act} {T : Slots} (h : Tm n a T) {x : Operand} {v : Value} (hx : oget T x = some v) : a.eval x = v := by
  cases x with
  | tmp t =>
    have := h.at_ t v hx
    simp [Act.eval, this]
  | const u => simpa [oget, Act.eval] using hx
  | global g => simpa [oget, Act.eval] using hx
  | func f => simpa [oget, Act.eval] using hx
def tput (d : Option Tmp) (v : Value) (T : Slots) : Slots :=
  match d with
  | some d => (d, v) :: T
  | none => T
def dok (n : Nat) (d : Option Tmp) : Bool :=
  match d with
  | some d => Nat.blt d n
  | none => true
theorem tget_cons (i : Nat) (v : Value) (T : Slots) (j : Nat) : tget ((i, v) :: T) j = if i = j then some v else tget T j := by
  by_cases h : i = j
  · subst h; simp [tget]
  · have : Nat.beq i j = false := by
      rw [Bool.eq_false_iff]
      intro h'
      exact h (Nat.eq_of_beq_eq_true h')
    simp [tget, this, h]
theorem Tm.put {n : Nat} {a : Act} {T : Slots} {d : Option Tmp} {v : Value} (h : Tm n a T) (hd : dok n d = true) : Tm n (a.put d v) (tput d v T) := by
  cases d with
  | none => exact h
  | some d =>
    have hlt : d < n := by
      have := hd
      simp only [dok, Nat.blt] at this
      exact Nat.le_of_ble_eq_true this
    refine ⟨by simp [Act.put, h.size], fun i u hi => ?_⟩
    simp only [tput, tget_cons] at hi
    simp only [Act.put, Array.getElem?_setIfInBounds]
    by_cases hdi : d = i
    · rw [if_pos hdi] at hi
      rw [if_pos hdi, if_pos (by rw [h.size]; exact hlt)]
      exact hi
    · rw [if_neg hdi] at hi
      rw [if_neg hdi]
      exact h.at_ i u hi
/-- T says all that T' says -/
def Sub (T' T : Slots) : Prop := ∀ i v, tget T' i = some v → tget T i = some v
theorem Sub.nil {T : Slots} : Sub [] T := fun _ _ h => by cases h
theorem Sub.cons {T' T : Slots} {i : Nat} {v : Value} (h : tget T i = some v) (hs : Sub T' T) : Sub ((i, v) :: T') T := fun j u hj => by
  rw [tget_cons] at hj
  split at hj
  · rename_i e; subst e; rw [h]; exact hj
  · exact hs j u hj
theorem Sub.refl (T : Slots) : Sub T T := fun _ _ h => h
theorem Tm.sub {n : Nat} {a : Act} {T T' : Slots} (h : Tm n a T) (hs : Sub T' T) : Tm n a T' := ⟨h.size, fun i v hi => h.at_ i v (hs i v hi)⟩
def targs : Nat → List Value → Slots
  | _, [] => []
  | k, v :: vs => (k, v) :: targs (k + 1) vs
theorem tget_targs : ∀ (vs : List Value) (k i : Nat) (v : Value), tget (targs k vs) i = some v → k ≤ i ∧ vs[i - k]? = some v
  | [], _, _, _, h => by cases h
  | u :: us, k, i, v, h => by
    rw [targs, tget_cons] at h
    split at h
    · rename_i e; subst e; exact ⟨Nat.le_refl _, by simpa using h⟩
    · rename_i hne
      obtain ⟨h1, h2⟩ := tget_targs us (k + 1) i v h
      refine ⟨by omega, ?_⟩
      rw [show i - k = (i - (k + 1)) + 1 by omega, List.getElem?_cons_succ]
      exact h2

/-! memory -/
/-- what is known of a part of memory: it hangs on the blocks of that part alone -/
inductive Asn where
  | pt (g : Nat) (t : TypeId) (cs : List Value)
  | row (e : TypeId) (size : Nat) (A : Option Addr) (n c : Nat) (xs : List Value)
  | rb (A : Option Addr) (n c : Nat) (l : List UInt8)
  | any (own : Nat → Prop) (holds : World → Prop) (stable : ∀ w w', Kp own w w' → holds w → holds w')
/-- block g is just the cells cs of element type t; a slice of n elements, size cells each, that has its block to itself; bytes that are only read -/
def Asn.own : Asn → Nat → Prop
  | .pt g _ _, k => k = g
  | .row _ _ A n c _, k => (Value.slice A n c).ownBlock = some k
  | .rb A _ _ _, k => ∃ ad, A = some ad ∧ k = ad.block
  | .any o _ _, k => o k
def Asn.holds : Asn → World → Prop
  | .pt g t cs, w => Blk w g t cs.toArray
  | .row e size A n c xs, w => w.ownsRow 0 e size (.slice A n c) n xs
  | .rb A n c l, w => Bs w (fun k => ∃ ad, A = some ad ∧ k = ad.block) A n c l
  | .any _ h _, w => h w
theorem Asn.stable (A : Asn) (w w' : World) (hk : Kp A.own w w') (h : A.holds w) : A.holds w' := by
  cases A with
  | pt g t cs => exact Blk.kp h hk rfl
  | row e size A n c xs => exact own_kp h hk (fun g hg => hg)
  | rb A n c l => exact Bs.keep h hk
  | any o hh s => exact s w w' hk h
open Asn (pt row rb)
def Apart (A B : Asn) : Prop := ∀ k, A.own k → B.own k → False
/-- From the world w0 on, all blocks are as they were but those of M; and all of H is there, each part by itself. -/
structure St (w0 : World) (M : Nat → Prop) (H : List Asn) (w : World) : Prop where
  kp : Kp (fun k => ¬ M k) w0 w
  all : ∀ A, A ∈ H → A.holds w ∧ ∀ k, A.own k → (M k ∨ w0.heap.size ≤ k) ∧ k < w.heap.size
  apart : H.Pairwise Apart
theorem Apart.symm {A B : Asn} (h : Apart A B) : Apart B A := fun k a b => h k b a
section
variable {w0 w w' : World} {M : Nat → Prop} {H H' : List Asn} {A A' : Asn}
theorem St.nil (h : Kp All w0 w) : St w0 (fun _ => False) [] w := ⟨h.all, fun _ h => (by cases h), List.Pairwise.nil⟩
theorem St.sublist (h : St w0 M H w) (hs : H'.Sublist H) : St w0 M H' w := ⟨h.kp, fun A hA => h.all A (hs.mem hA), h.apart.sublist hs⟩
theorem St.tail (h : St w0 M (A :: H) w) : St w0 M H w := h.sublist (List.sublist_cons_self _ _)
theorem St.perm (h : St w0 M H w) (hp : H.Perm H') : St w0 M H' w := ⟨h.kp, fun A hA => h.all A (hp.mem_iff.2 hA), hp.pairwise h.apart fun h => Apart.symm h⟩
/-- a step that keeps all -/
theorem St.step (h : St w0 M H w) (hk : Kp All w w') : St w0 M H w' :=
  ⟨h.kp.trans hk.all, fun A hA => ⟨A.stable w w' hk.all (h.all A hA).1, fun k hk' => ⟨((h.all A hA).2 k hk').1, Nat.lt_of_lt_of_le ((h.all A hA).2 k hk').2 hk.size⟩⟩, h.apart⟩
/-- something new -/
theorem St.add (h : St w0 M H w) (hk : Kp All w w') (hA : A.holds w') (ho : ∀ k, A.own k → w.heap.size ≤ k ∧ k < w'.heap.size) : St w0 M (A :: H) w' := by
  have h' := h.step hk
  refine ⟨h'.kp, fun B hB => ?_, List.Pairwise.cons (fun B hB k a b => ?_) h'.apart⟩
  · rcases List.mem_cons.1 hB with rfl | hB
    · exact ⟨hA, fun k hk' => ⟨.inr (Nat.le_trans h.kp.size (ho k hk').1), (ho k hk').2⟩⟩
    · exact h'.all B hB
  · have := ((h.all B hB).2 k b).2
    have := (ho k a).1
    omega
/-- one part is replaced -/
inductive Upd : List Asn → Asn → Asn → List Asn → Prop
  | here {A A' : Asn} {H : List Asn} : Upd (A :: H) A A' (A' :: H)
  | there {A A' B : Asn} {H H' : List Asn} : Upd H A A' H' → Upd (B :: H) A A' (B :: H')
theorem Upd.mem (u : Upd H A A' H') : A ∈ H := by
  induction u with
  | here => simp
  | there _ ih => simp [ih]
theorem Upd.ind (u : Upd H A A' H') : ∀ B ∈ H', B = A' ∨ (B ∈ H ∧ (H.Pairwise Apart → Apart A B)) := by
  induction u with
  | here =>
    intro B hB
    rcases List.mem_cons.1 hB with rfl | hB
    · exact .inl rfl
    · exact .inr ⟨by simp [hB], fun hp => (List.pairwise_cons.1 hp).1 B hB⟩
  | there u ih =>
    intro B hB
    rcases List.mem_cons.1 hB with rfl | hB
    · exact .inr ⟨by simp, fun hp => ((List.pairwise_cons.1 hp).1 _ u.mem).symm⟩
    · rcases ih B hB with h | ⟨h1, h2⟩
      · exact .inl h
      · exact .inr ⟨by simp [h1], fun hp => h2 (List.pairwise_cons.1 hp).2⟩
theorem Upd.pair (u : Upd H A A' H') (hp : H.Pairwise Apart) (ho : ∀ k, A'.own k → A.own k) : H'.Pairwise Apart := by
  induction u with
  | here =>
    obtain ⟨h1, h2⟩ := List.pairwise_cons.1 hp
    exact List.Pairwise.cons (fun B hB k a b => h1 B hB k (ho k a) b) h2
  | there u ih =>
    obtain ⟨h1, h2⟩ := List.pairwise_cons.1 hp
    refine List.Pairwise.cons (fun B hB => ?_) (ih h2 ho)
    rcases u.ind B hB with rfl | ⟨hm, _⟩
    · exact fun k a b => h1 _ u.mem k a (ho k b)
    · exact h1 B hm
/-- a write to one part -/
theorem St.upd (h : St w0 M H w) (u : Upd H A A' H') (hk : Kp (fun k => ¬ A.own k) w w') (hA : A'.holds w') (ho : ∀ k, A'.own k → A.own k) : St w0 M H' w' := by
  have hAm := h.all A u.mem
  refine ⟨?_, fun B hB => ?_, u.pair h.apart ho⟩
  · have h2 : Kp (fun k => ¬ M k) w0 w' := by
      refine ⟨h.kp.os ▸ hk.os, h.kp.tape ▸ hk.tape, h.kp.output ▸ hk.output, Nat.le_trans h.kp.size hk.size, fun k hM hlt => ?_⟩
      rw [hk.block k ?_ (Nat.lt_of_lt_of_le hlt h.kp.size)]
      · exact h.kp.block k hM hlt
      · intro hown
        rcases (hAm.2 k hown).1 with hm | hs
        · exact hM hm
        · omega
    exact h2
  · rcases u.ind B hB with rfl | ⟨hm, hap⟩
    · exact ⟨hA, fun k hb => ⟨(hAm.2 k (ho k hb)).1, Nat.lt_of_lt_of_le (hAm.2 k (ho k hb)).2 hk.size⟩⟩
    · have hB' := h.all B hm
      refine ⟨B.stable w w' (hk.mono fun k hb _ ha => hap h.apart k ha hb) hB'.1, fun k hb => ⟨(hB'.2 k hb).1, Nat.lt_of_lt_of_le (hB'.2 k hb).2 hk.size⟩⟩
/-- one part is told otherwise -/
theorem St.turn (h : St w0 M H w) (u : Upd H A A' H') (hA : A.holds w → A'.holds w) (ho : ∀ k, A'.own k → A.own k) : St w0 M H' w := by
  refine h.upd u (Kp.refl _ _) (hA (h.all A u.mem).1) ho
end
/-- where a block is known -/
class Hat (H : List Asn) (g : Nat) (t : outParam TypeId) (cs : outParam (List Value)) : Prop where
  mem : pt g t cs ∈ H
instance (priority := high) Hat.here {g : Nat} {t : TypeId} {cs : List Value} {H : List Asn} : Hat (pt g t cs :: H) g t cs := ⟨by simp⟩
instance Hat.there {g : Nat} {t : TypeId} {cs : List Value} {A : Asn} {H : List Asn} [h : Hat H g t cs] : Hat (A :: H) g t cs := ⟨by simp [h.mem]⟩
/-- where a block is written: K tells what becomes of all -/
class HUp (H : List Asn) (g : Nat) (t : outParam TypeId) (cs : outParam (List Value)) (K : outParam (List Value → List Asn)) : Prop where
  upd : ∀ cs', Upd H (pt g t cs) (pt g t cs') (K cs')
instance (priority := high) HUp.here {g : Nat} {t : TypeId} {cs : List Value} {H : List Asn} : HUp (pt g t cs :: H) g t cs (fun cs' => pt g t cs' :: H) := ⟨fun _ => .here⟩
instance HUp.there {g : Nat} {t : TypeId} {cs : List Value} {A : Asn} {H : List Asn} {K : List Value → List Asn} [h : HUp H g t cs K] : HUp (A :: H) g t cs (fun cs' => A :: K cs') := ⟨fun cs' => .there (h.upd cs')⟩
/-- where a slice is known; what else there is -/
class HRow (H : List Asn) (A : Option Addr) (n c : Nat) (e : outParam TypeId) (size : outParam Nat) (xs : outParam (List Value)) (H' : outParam (List Asn)) : Prop where
  perm : H.Perm (row e size A n c xs :: H')
instance (priority := high) HRow.here {e : TypeId} {size : Nat} {A : Option Addr} {n c : Nat} {xs : List Value} {H : List Asn} : HRow (row e size A n c xs :: H) A n c e size xs H := ⟨List.Perm.refl _⟩
instance HRow.there {e : TypeId} {size : Nat} {A : Option Addr} {n c : Nat} {xs : List Value} {B : Asn} {H H' : List Asn} [h : HRow H A n c e size xs H'] : HRow (B :: H) A n c e size xs (B :: H') := ⟨(List.Perm.cons _ h.perm).trans (List.Perm.swap _ _ _)⟩
theorem HRow.mem {H H' : List Asn} {e : TypeId} {size : Nat} {A : Option Addr} {n c : Nat} {xs : List Value} (h : HRow H A n c e size xs H') : row e size A n c xs ∈ H := h.perm.mem_iff.2 (by simp)

/-! regions -/
/-- is the operation wanted? -/
def dstOf : List Oper → Nat → Option Tmp
  | [], _ => none
  | o :: _, 0 => o.dst
  | _ :: l, n + 1 => dstOf l n
def wants (l : List Oper) (T : Slots) (g : Option (Nat × Bool)) : Option Bool :=
  match g with
  | none => some true
  | some (j, b) =>
    match dstOf l j with
    | none => some false
    | some d =>
      match tget T d with
      | some (.bool c) => some (c == b)
      | some (.tuple _) => some false
      | _ => none
theorem dstOf_eq : ∀ (l : List Oper) (j : Nat), dstOf l j = (l.toArray[j]?).bind (·.dst)
  | [], j => by simp [dstOf]
  | o :: l, 0 => by simp [dstOf]
  | o :: l, j + 1 => by
    rw [dstOf, dstOf_eq l j]
    simp
theorem wants_ok {n : Nat} {a : Act} {T : Slots} (h : Tm n a T) {l : List Oper} {o : Oper} {b : Bool} (hw : wants l T o.guard = some b) : Region.wanted o (yielded l.toArray a.tmps) = b := by
  unfold wants at hw
  unfold Region.wanted
  cases hg : o.guard with
  | none => rw [hg] at hw; simpa using hw
  | some jb =>
    obtain ⟨j, want⟩ := jb
    rw [hg] at hw
    simp only at hw ⊢
    unfold yielded
    rw [← dstOf_eq]
    cases hd : dstOf l j with
    | none => rw [hd] at hw; simp at hw ⊢; exact hw
    | some d =>
      rw [hd] at hw
      simp only [Option.bind_some] at hw ⊢
      cases ht : tget T d with
      | none => rw [ht] at hw; simp at hw
      | some v =>
        rw [ht] at hw
        rw [h.at_ d v ht]
        cases v with
        | bool c => simp at hw ⊢; rw [← hw]
        | tuple vs => simp at hw ⊢; exact hw
        | _ => simp at hw

inductive It where
  | code (c : Code)
  | blk (id : Nat)
  | back (J : Act → World → Prop)
  | seg
/-- frames of no round, or of the round l; what is asked at a frame's end, and the calls that it has deferred -/
def Fw (ro : Option Nat) : Fence := { Fence.wide with round := ro }
def Bk (ro : Option Nat) (ds : List Deferred) : Type := Exit → Act → World → Prop
section
variable {ro : Option Nat} {ds : List Deferred}
def QS (P : Program) (B : Bk ro ds) : List It → Exit → Act → World → Prop
  | [] => B
  | .code c :: k => Exit.then (fun a w => c.wpIn (Fw ro) 0 P (QS P B k) a w) (QS P B k)
  | .blk id :: k => Exit.inBlock id (QS P B k)
  | .back J :: k => Exit.then J (QS P B k)
  | .seg :: k => Exit.noGoto (QS P B k)
end
/-- an operation, its calls and rounds taken as they are -/
def wpo (P : Program) (o : Oper) (a : Act) (w : World) (K : Act → World → Prop) (Q : Exit → Act → World → Prop) : Prop := o.uponIn Fence.wide 0 P a K Q ((execOp a.eval o).run P w)
theorem rows_in {P : Program} {row : String} {args : Array Value} {w : World} {R : Value → World → Prop} (h : Rows P row args w R) : RowsIn Fence.wide 0 P row args w R :=
  fun c cs _ => let ⟨v, w', r, s⟩ := h c cs; ⟨v, w', r, stepsIn_wide.2 s⟩
theorem wpo_of {P : Program} {o : Oper} {a : Act} {w : World} {K : Act → World → Prop} {Q : Exit → Act → World → Prop} (h : o.wp P a w K Q) : wpo P o a w K Q := by
  unfold Oper.wp at h
  unfold wpo
  generalize (execOp a.eval o).run P w = r at *
  cases r with
  | ok x w' =>
    cases x <;> simp only [Oper.upon, Oper.uponIn] at h ⊢ <;> first
      | exact h
      | exact ⟨fun h => (by cases h), callsIn_wide.2 h⟩
      | exact ⟨fun h => (by cases h), rows_in h⟩
      | exact h.elim
  | halt x w' => cases x <;> simp only [Oper.upon, Oper.uponIn] at h ⊢ <;> exact h
theorem wpo_mono {P : Program} {o : Oper} {a : Act} {w : World} {K K' : Act → World → Prop} {Q : Exit → Act → World → Prop} (h : ∀ a w, K a w → K' a w) (hh : wpo P o a w K Q) : wpo P o a w K' Q := by
  unfold wpo at *
  generalize (execOp a.eval o).run P w = r at *
  cases r with
  | ok x w' =>
    cases x <;> simp only [Oper.uponIn] at hh ⊢ <;>
      first
        | exact h _ _ hh
        | exact ⟨hh.1, CallsIn.mono hh.2 (fun e w'' he => by cases e <;> first | exact h _ _ he | exact he)⟩
        | exact ⟨hh.1, RowsIn.mono hh.2 (fun _ _ he => h _ _ he)⟩
        | exact ⟨hh.1, RoundIn.mono hh.2 (fun e w'' he => by cases e <;> first | exact h _ _ he | exact he)⟩
  | halt x w' => cases x <;> simp only [Oper.uponIn] at hh ⊢ <;> exact hh
/-- the operation hands v over, and does nothing else -/
structure Tk (P : Program) (n : Nat) (w0 : World) (M : Nat → Prop) (T : Slots) (H : List Asn) (o : Oper) (v : Value) : Prop where
  run : ∀ a w, Tm n a T → St w0 M H w → (execOp a.eval o).run P w = .ok (.value v) w
/-- the operation hands over a v and leaves memory H' so that E v H' -/
structure Ef (P : Program) (n : Nat) (w0 : World) (M : Nat → Prop) (T : Slots) (H : List Asn) (o : Oper) (E : Value → List Asn → Prop) : Prop where
  mkIn ::
  run : ∀ a w, Tm n a T → St w0 M H w → wpo P o a w (fun a' w' => ∃ v H', E v H' ∧ a' = a.put o.dst v ∧ St w0 M H' w') (fun _ _ _ => False)
theorem Ef.mk {P : Program} {n : Nat} {w0 : World} {M : Nat → Prop} {T : Slots} {H : List Asn} {o : Oper} {E : Value → List Asn → Prop} (h : ∀ a w, Tm n a T → St w0 M H w → o.wp P a w (fun a' w' => ∃ v H', E v H' ∧ a' = a.put o.dst v ∧ St w0 M H' w') (fun _ _ _ => False)) : Ef P n w0 M T H o E :=
  .mkIn fun a w ha hs => wpo_of (h a w ha hs)
section
variable (P : Program) {ro : Option Nat} {ds : List Deferred} (B : Bk ro ds) (n : Nat) (w0 : World) (M : Nat → Prop)
/-- from slots T and memory H on, all that is still to be done leads where it has to -/
structure RS (k : List It) (T : Slots) (H : List Asn) : Prop where
  mkD ::
  runD : ∀ a w, a.defers = ds → Tm n a T → St w0 M H w → QS P B k .normal a w
/-- the same within a region: l its operations, σ those still to come -/
inductive RG (l : List Oper) (k : List It) : List Oper → Slots → List Asn → Prop
  | nil {T : Slots} {H : List Asn} (h : RS P B n w0 M k T H) : RG l k [] T H
  | take {o : Oper} {σ : List Oper} {T : Slots} {H : List Asn} {v : Value} (hw : wants l T o.guard = some true) (hd : dok n o.dst = true)
      (hr : Tk P n w0 M T H o v) (h : RG l k σ (tput o.dst v T) H) : RG l k (o :: σ) T H
  | skip {o : Oper} {σ : List Oper} {T : Slots} {H : List Asn} (hw : wants l T o.guard = some false) (hd : dok n o.dst = true) (h : RG l k σ (tput o.dst undef T) H) : RG l k (o :: σ) T H
  | eff {o : Oper} {σ : List Oper} {T : Slots} {H : List Asn} {E : Value → List Asn → Prop} (hw : wants l T o.guard = some true) (hd : dok n o.dst = true)
      (hr : Ef P n w0 M T H o E) (h : ∀ v H', E v H' → RG l k σ (tput o.dst v T) H') : RG l k (o :: σ) T H
end
theorem put_defers (a : Act) (d : Option Tmp) (v : Value) : (a.put d v).defers = a.defers := by cases d <;> rfl
theorem wpo_false {P : Program} {o : Oper} {a : Act} {w : World} {K : Act → World → Prop} {Q : Exit → Act → World → Prop} (h : wpo P o a w K (fun _ _ _ => False)) : wpo P o a w K Q := by
  unfold wpo at *
  generalize (execOp a.eval o).run P w = r at *
  cases r with
  | ok x w' =>
    cases x <;> simp only [Oper.uponIn] at h ⊢ <;> first
      | exact h
      | exact ⟨h.1, CallsIn.mono h.2 fun e w'' he => (by cases e <;> first | exact he | exact he.elim | (obtain ⟨_, _, hf⟩ := he; exact hf.elim))⟩
      | exact ⟨h.1, RoundIn.mono h.2 fun e w'' he => (by cases e <;> first | exact he | exact he.elim | (obtain ⟨_, _, hf⟩ := he; exact hf.elim))⟩
  | halt x w' =>
    cases x <;> simp only [Oper.uponIn] at h
/-- an operation that puts a value defers nothing -/
theorem wpo_no {P : Program} {o : Oper} {a : Act} {w : World} {E : Value → World → Prop} (h : wpo P o a w (fun a' w' => ∃ v, a' = a.put o.dst v ∧ E v w') (fun _ _ _ => False)) : ∀ c, o.op ≠ .defer c := fun c hc => by
  unfold wpo at h
  have he : execOp a.eval o = (do pure (.defer (← resolve a.eval c o.type)) : Sem Next) := by
    unfold execOp
    rw [hc]
  rw [he, Sem.run_bind] at h
  generalize (resolve a.eval c o.type).run P w = r at h
  cases r with
  | ok d w' =>
    simp only [Result.andThen_ok, Sem.run_pure, Oper.uponIn] at h
    obtain ⟨v, h1, _⟩ := h
    have := congrArg Act.defers h1
    rw [put_defers, put_defers] at this
    have := congrArg List.length this
    simp at this
  | halt x w' =>
    cases x <;> simp only [Result.andThen, Oper.uponIn] at h
theorem tk_no {P : Program} {o : Oper} {a : Act} {w : World} {v : Value} (h : (execOp a.eval o).run P w = .ok (.value v) w) : ∀ c, o.op ≠ .defer c :=
  wpo_no (E := fun _ _ => True) (a := a) (w := w) (P := P) (by unfold wpo; rw [h]; exact ⟨v, rfl, trivial⟩)
/-- in whatever frame -/
theorem wpo_in {P : Program} {ro : Option Nat} {o : Oper} {a : Act} {w : World} {K : Act → World → Prop} {Q : Exit → Act → World → Prop} (hd : ro = none ∨ ∀ c, o.op ≠ .defer c) (h : wpo P o a w K Q) : o.wpIn (Fw ro) 0 P a w K Q := by
  refine ⟨fun _ _ => trivial, ?_⟩
  have e : Oper.semAt (Fw ro).round a.eval o = execOp a.eval o := by
    rcases hd with rfl | hd
    · rfl
    · exact Oper.semAt_eq _ _ _ hd
  rw [e]
  unfold wpo at h
  generalize (execOp a.eval o).run P w = r at *
  cases r with
  | ok x w' => cases x <;> exact h
  | halt x w' => cases x <;> exact h
section
variable {P : Program} {ro : Option Nat} {ds : List Deferred} {B : Bk ro ds} {n : Nat} {w0 : World} {M : Nat → Prop} {k : List It} {T : Slots} {H : List Asn}
theorem RS.mk (h : ∀ a w, Tm n a T → St w0 M H w → QS P B k .normal a w) : RS P B n w0 M k T H := ⟨fun a w _ ha hs => h a w ha hs⟩
theorem RG.list {l σ : List Oper} (h : RG P B n w0 M l k σ T H) : ∀ a w, a.defers = ds → Tm n a T → St w0 M H w → wpListIn (Fw ro) 0 P l.toArray (QS P B k) σ a w := by
  induction h with
  | nil h => exact fun a w had ha hw => wpListIn_nil (h.runD a w had ha hw)
  | take hw hd hr _ ih =>
    intro a w had ha hs
    unfold wpListIn
    rw [if_pos (wants_ok ha hw)]
    have h1 := hr.run a w ha hs
    refine wpo_in (.inr (tk_no h1)) ?_
    unfold wpo
    rw [h1]
    exact ih _ _ (by rw [put_defers]; exact had) (ha.put hd) hs
  | skip hw hd _ ih =>
    intro a w had ha hs
    unfold wpListIn
    rw [if_neg (by rw [wants_ok ha hw]; simp)]
    exact ⟨fun _ _ => trivial, ih _ _ (by rw [put_defers]; exact had) (ha.put hd) hs⟩
  | @eff o σ T H E hw hd hr _ ih =>
    intro a w had ha hs
    unfold wpListIn
    rw [if_pos (wants_ok ha hw)]
    have h1 := hr.run a w ha hs
    refine wpo_in (.inr (wpo_no (E := fun v w' => ∃ H', E v H' ∧ St w0 M H' w') (wpo_mono ?_ h1))) (wpo_false (wpo_mono ?_ h1))
    · rintro a' w' ⟨v, H', hE, rfl, hs'⟩
      exact ⟨v, rfl, H', hE, hs'⟩
    · rintro a' w' ⟨v, H', hE, rfl, hs'⟩
      exact ih v H' hE _ _ (by rw [put_defers]; exact had) (ha.put hd) hs'

/-! control -/
theorem RS_seq {x y : Code} (h : RS P B n w0 M (.code x :: .code y :: k) T H) : RS P B n w0 M (.code (.seq x y) :: k) T H := ⟨fun a w had ha hs => wpIn_seq (h.runD a w had ha hs)⟩
theorem RS_block {id : Nat} {c : Code} (h : RS P B n w0 M (.code c :: .blk id :: k) T H) : RS P B n w0 M (.code (.block id c) :: k) T H := ⟨fun a w had ha hs => wpIn_block (h.runD a w had ha hs)⟩
theorem RS_blk {id : Nat} (h : RS P B n w0 M k T H) : RS P B n w0 M (.blk id :: k) T H := ⟨fun a w had ha hs => h.runD a w had ha hs⟩
theorem RS_skip (h : RS P B n w0 M k T H) : RS P B n w0 M (.code .skip :: k) T H := ⟨fun a w had ha hs => wpIn_skip (h.runD a w had ha hs)⟩
theorem RS_region {id : Nat} {l : List Oper} (h : RG P B n w0 M l k l T H) : RS P B n w0 M (.code (.region id l.toArray false) :: k) T H := ⟨fun a w had ha hs => wpIn_region_lit (h.list a w had ha hs)⟩
def popTo (id : Nat) : List It → Option (List It)
  | [] => none
  | .blk i :: k => bif Nat.beq i id then some k else popTo id k
  | _ :: k => popTo id k
theorem popTo_ok {id : Nat} : ∀ {k k' : List It} {a : Act} {w : World}, popTo id k = some k' → QS P B k' .normal a w → QS P B k (.exit id) a w
  | [], _, _, _, h, _ => by cases h
  | .blk i :: k, k', a, w, h, hq => by
    simp only [popTo] at h
    by_cases hi : i = id
    · subst hi
      simp at h
      subst h
      simpa [QS, Exit.inBlock] using hq
    · have hb : Nat.beq i id = false := by
        rw [Bool.eq_false_iff]
        intro h'
        exact hi (Nat.eq_of_beq_eq_true h')
      rw [hb] at h
      have := popTo_ok h hq
      have hne : ¬ id = i := fun e => hi e.symm
      simpa [QS, Exit.inBlock, hne] using this
  | .code c :: k, _, _, _, h, hq => popTo_ok (k := k) h hq
  | .back J :: k, _, _, _, h, hq => popTo_ok (k := k) h hq
  | .seg :: k, _, _, _, h, hq => popTo_ok (k := k) h hq
theorem RS_exit {id : Nat} {k' : List It} (hp : popTo id k = some k') (h : RS P B n w0 M k' T H) : RS P B n w0 M (.code (.exit id) :: k) T H := ⟨fun a w had ha hs => wpIn_exit (popTo_ok hp (h.runD a w had ha hs))⟩
theorem RS_true {c : Operand} {x y : Code} (hc : oget T c = some (.bool true)) (h : RS P B n w0 M (.code x :: k) T H) : RS P B n w0 M (.code (.cond c x y) :: k) T H := ⟨fun a w had ha hs => wpIn_cond_true (ha.eval hc) (h.runD a w had ha hs)⟩
theorem RS_false {c : Operand} {x y : Code} (hc : oget T c = some (.bool false)) (h : RS P B n w0 M (.code y :: k) T H) : RS P B n w0 M (.code (.cond c x y) :: k) T H := ⟨fun a w had ha hs => wpIn_cond (t := false) (ha.eval hc) (h.runD a w had ha hs)⟩
theorem RS_cond {c : Operand} {x y : Code} {b : Bool} (hc : oget T c = some (.bool b)) (h1 : b = true → RS P B n w0 M (.code x :: k) T H) (h2 : b = false → RS P B n w0 M (.code y :: k) T H) : RS P B n w0 M (.code (.cond c x y) :: k) T H := by
  cases b
  · exact RS_false hc (h2 rfl)
  · exact RS_true hc (h1 rfl)
theorem RS_if {c : Operand} {x y : Code} {p : Prop} {i : Decidable p} (hc : oget T c = some (.bool (@decide p i))) (h1 : p → RS P B n w0 M (.code x :: k) T H) (h2 : ¬ p → RS P B n w0 M (.code y :: k) T H) : RS P B n w0 M (.code (.cond c x y) :: k) T H :=
  RS_cond hc (fun h => h1 (of_decide_eq_true h)) (fun h => h2 (of_decide_eq_false h))
theorem QS_ret {a : Act} {w : World} : ∀ {k : List It}, (∀ it ∈ k, it ≠ .seg ∨ True) → B .ret a w → QS P B k .ret a w
  | [], _, h => h
  | .code _ :: k, hk, h => QS_ret (k := k) (fun _ _ => .inr trivial) h
  | .blk _ :: k, hk, h => QS_ret (k := k) (fun _ _ => .inr trivial) h
  | .back _ :: k, hk, h => QS_ret (k := k) (fun _ _ => .inr trivial) h
  | .seg :: k, hk, h => QS_ret (k := k) (fun _ _ => .inr trivial) h
/-- what is handed back: the slots of the results -/
def rets (rs : List ResultVar) (T : Slots) : Option (List Value) :=
  match rs with
  | [] => some []
  | .tmp t :: rs => match tget T t, rets rs T with
    | some v, some vs => some (v :: vs)
    | _, _ => none
  | .cell _ _ :: _ => none
def retv : List Value → Value
  | [v] => v
  | vs => .tuple vs.toArray
theorem rets_ok {a : Act} (h : Tm n a T) (P : Program) (w : World) : ∀ {rs : List ResultVar} {vs : List Value}, rets rs T = some vs →
    (rs.mapM (fun | ResultVar.tmp t => (pure (a.tmps.getD t undef) : Sem Value) | ResultVar.cell a' t => do loadVar t (← asAddr (a.tmps.getD a' undef)))).run P w = Result.ok vs w
  | [], vs, hr => by simp [rets] at hr; subst hr; simp
  | .tmp t :: rs, vs, hr => by
    simp only [rets] at hr
    split at hr
    · rename_i v us hv hus
      injection hr with hr
      subst hr
      have h1 := rets_ok h P w hus
      have h2 : a.tmps.getD t undef = v := by have := h.at_ t v hv; simp [this]
      simp only [List.mapM_cons, Sem.run_bind, Sem.run_pure, Result.andThen_ok, h1, h2]
    · cases hr
  | .cell _ _ :: _, _, hr => by simp [rets] at hr
/-- the end of the function -/
def Ends (P : Program) {ro : Option Nat} {ds : List Deferred} (B : Bk ro ds) (n : Nat) (w0 : World) (M : Nat → Prop) (rs : List ResultVar) (R : Ending → World → Prop) : Prop :=
  ∀ a w v, a.defers = ds → (∀ fn : Func, fn.results = rs.toArray → (results fn a.tmps).run P w = .ok v w) → R (.returned v) w → B .ret a w ∧ B .normal a w
theorem ret_run {a : Act} (h : Tm n a T) {rs : List ResultVar} {vs : List Value} (hr : rets rs T = some vs) (w : World) : ∀ fn : Func, fn.results = rs.toArray → (results fn a.tmps).run P w = .ok (retv vs) w := fun fn hf => by
  have h1 := rets_ok h P w hr
  simp only [results, hf, List.mapM_toArray, Sem.run_bind, Sem.run_map]
  erw [h1]
  rcases vs with _ | ⟨v, _ | ⟨u, us⟩⟩ <;> simp [retv]
theorem RS_ret {rs : List ResultVar} {R : Ending → World → Prop} {vs : List Value} (hB : Ends P B n w0 M rs R) (hr : rets rs T = some vs) (h : ∀ w, St w0 M H w → R (.returned (retv vs)) w) : RS P B n w0 M (.code .ret :: k) T H := ⟨fun a w had ha hs =>
  wpIn_ret (QS_ret (fun _ _ => .inr trivial) (hB a w _ had (ret_run ha hr w) (h w hs)).1)⟩
theorem RS_end {rs : List ResultVar} {R : Ending → World → Prop} {vs : List Value} (hB : Ends P B n w0 M rs R) (hr : rets rs T = some vs) (h : ∀ w, St w0 M H w → R (.returned (retv vs)) w) : RS P B n w0 M [] T H := ⟨fun a w had ha hs =>
  (hB a w _ had (ret_run ha hr w) (h w hs)).2⟩
/-- a call, opened -/
theorem calls_RS {f : FuncId} {fn : Func} {c : Code} {vs : List Value} {rs : List ResultVar} {w : World} {R : Ending → World → Prop} (hf : P.funcs[f]? = some fn) (hb : fn.body = some c) (hn : fn.ntmps = n) (hr : fn.results = rs.toArray)
    (hv : vs.length ≤ n) (hS : St w0 M H w) (h : ∀ B : Bk none [], Ends P B n w0 M rs R → RS P B n w0 M [.code c] (targs 0 vs) H) : Calls P f vs.toArray w R := by
  refine calls_of_wp hf hb ((wpIn_wide (n := 0)).1 ?_)
  have hB : Ends P (B := bodyPost P fn R) (ro := none) (ds := []) n w0 M rs R := fun a w v hd hrun hR => ⟨⟨hd, v, hrun fn hr, hR⟩, ⟨hd, v, hrun fn hr, hR⟩⟩
  refine (h _ hB).runD _ w rfl ⟨?_, fun i v hi => ?_⟩ hS
  · simp [hn]; omega
  · obtain ⟨_, h2⟩ := tget_targs vs 0 i v hi
    have hlt := (List.getElem?_eq_some_iff.1 h2).1
    simp only [Nat.sub_zero] at hlt h2
    have h3 : (vs.toArray ++ Array.replicate (fn.ntmps - vs.toArray.size) undef)[i]? = vs[i]? := by rw [Array.getElem?_append_left (by simpa using hlt)]; simp
    exact h3.trans h2
/-- where ways meet -/
theorem RS_cut {X : Type} {c : Code} (T' : X → Slots) (H' : X → List Asn) (I : X → Prop)
    (h1 : ∀ J, (∀ y T1 H1, I y → Sub (T' y) T1 → (∀ w, St w0 M H1 w → St w0 M (H' y) w) → RS P B n w0 M (.back J :: k) T1 H1) → RS P B n w0 M (.code c :: .back J :: k) T H)
    (h2 : ∀ y, I y → RS P B n w0 M k (T' y) (H' y)) : RS P B n w0 M (.code c :: k) T H := ⟨fun a w had ha hs => by
  have := (h1 (fun a w => a.defers = ds ∧ ∃ y, I y ∧ Tm n a (T' y) ∧ St w0 M (H' y) w) (fun y T1 H1 hI hT hH => ⟨fun a w had ha hs => ⟨had, y, hI, ha.sub hT, hH w hs⟩⟩)).runD a w had ha hs
  refine wpIn_mono this fun e a' w' hq => ?_
  cases e with
  | normal =>
    obtain ⟨had', y, hI, hT, hH⟩ := hq
    exact (h2 y hI).runD a' w' had' hT hH
  | _ => exact hq⟩
/-- a loop -/
theorem RS_loop {X : Type} {c : Code} (T' : X → Slots) (H' : X → List Asn) (I : X → Prop) (μ : X → Nat)
    (x0 : X) (h0 : I x0) (hT : Sub (T' x0) T) (hH : ∀ w, St w0 M H w → St w0 M (H' x0) w)
    (round : ∀ x, I x → ∀ J, (∀ y T1 H1, I y → Sub (T' y) T1 → (∀ w, St w0 M H1 w → St w0 M (H' y) w) → μ y < μ x → RS P B n w0 M (.back J :: k) T1 H1) → RS P B n w0 M (.code c :: .back J :: k) (T' x) (H' x)) :
    RS P B n w0 M (.code (.loop c) :: k) T H := by
  refine ⟨fun a w had ha hs => ?_⟩
  refine wpIn_loop_ghost (fun m a w => ∃ x, μ x = m ∧ I x ∧ a.defers = ds ∧ Tm n a (T' x) ∧ St w0 M (H' x) w) (μ x0) ⟨x0, rfl, h0, had, ha.sub hT, hH w hs⟩ ?_
  rintro m a w ⟨x, rfl, hI, had, hTx, hHx⟩
  have hr := (round x hI (fun a w => ∃ y, I y ∧ μ y < μ x ∧ a.defers = ds ∧ Tm n a (T' y) ∧ St w0 M (H' y) w) (fun y T1 H1 hI hT hH hlt => ⟨fun a w had ha hs => ⟨y, hI, hlt, had, ha.sub hT, hH w hs⟩⟩)).runD a w had hTx hHx
  refine wpIn_mono hr fun e a' w' hq => ?_
  cases e with
  | normal =>
    obtain ⟨y, hIy, hlt, had', hTy, hHy⟩ := hq
    exact ⟨μ y, hlt, y, rfl, hIy, had', hTy, hHy⟩
  | _ => exact hq
end
end Go.Proofs.YtdeffdldifepkaaGreat
namespace Go.Proofs.YtdeffdldifepkaaGreat
open Go.RowKit
open Asn (pt row rb)
set_option linter.unusedVariables false
set_option linter.unusedSimpArgs false

/-- what is known of a type -/
structure Ti where
  desc : TypeDesc
  zero : Value
  size : Nat
  bytes : Nat
  fs : List (Nat × Nat)
def nth {α : Type} : List α → Nat → Option α
  | [], _ => none
  | x :: _, 0 => some x
  | _ :: xs, n + 1 => nth xs n
/-- offsets and types of the fields -/
def fieldsOf : TypeDesc → List (Nat × Nat)
  | .struct fs => fs.toList.map fun f => (f.offset, f.type)
  | _ => []
def tfind : List (Nat × Ti) → Nat → Option Ti
  | [], _ => none
  | (i, v) :: T, j => bif Nat.beq i j then some v else tfind T j
def Ti.of (P : Program) (t : TypeId) (i : Ti) : Prop := P.underlying t = some i.desc ∧ (P.info? t).map (fun i => (i.zero, i.size, i.bytes)) = some (some i.zero, i.size, i.bytes) ∧ fieldsOf i.desc = i.fs
def TabOk (P : Program) : List (Nat × Ti) → Prop
  | [] => True
  | (t, i) :: l => Ti.of P t i ∧ TabOk P l
/-- the types of a program -/
class HasTab (P : Program) where
  tab : List (Nat × Ti)
  ok : TabOk P tab
theorem TabOk.find {P : Program} : ∀ {l : List (Nat × Ti)} {t : Nat} {i : Ti}, TabOk P l → tfind l t = some i → Ti.of P t i
  | [], _, _, _, h => by cases h
  | (u, j) :: l, t, i, hl, h => by
    simp only [tfind] at h
    by_cases hu : u = t
    · subst hu
      simp at h
      subst h
      exact hl.1
    · have hb : Nat.beq u t = false := by
        rw [Bool.eq_false_iff]
        intro h'
        exact hu (Nat.eq_of_beq_eq_true h')
      rw [hb] at h
      exact hl.2.find h
def ty (P : Program) [HasTab P] (t : Nat) : Option Ti := tfind (HasTab.tab P) t
theorem ty_ok {P : Program} [HasTab P] {t : Nat} {i : Ti} (h : ty P t = some i) : P.underlying t = some i.desc := ((HasTab.ok (P := P)).find h).1
theorem ty_info {P : Program} [HasTab P] {t : Nat} {i : Ti} (h : ty P t = some i) : ∃ j, P.info? t = some j ∧ j.zero = some i.zero ∧ j.size = i.size ∧ j.bytes = i.bytes := info_parts ((HasTab.ok (P := P)).find h).2.1
theorem ty_fs {P : Program} [HasTab P] {t : Nat} {i : Ti} (h : ty P t = some i) : fieldsOf i.desc = i.fs := ((HasTab.ok (P := P)).find h).2.2
theorem ty_size {P : Program} [HasTab P] {t : Nat} {i : Ti} (h : ty P t = some i) (w : World) : (sizeOf t).run P w = .ok i.size w := by
  obtain ⟨j, h1, _, h3, _⟩ := ty_info h
  simp [sizeOf, typeInfo, h1, h3]
theorem ty_zero {P : Program} [HasTab P] {t : Nat} {i : Ti} (h : ty P t = some i) (w : World) : (zeroValue t).run P w = .ok i.zero w := by
  obtain ⟨j, h1, h2, _, _⟩ := ty_info h
  simp [zeroValue, typeInfo, h1, h2]
def aggB : TypeDesc → Bool
  | .struct _ => true
  | .array _ _ => true
  | _ => false
theorem ty_agg {P : Program} [HasTab P] {t : Nat} {i : Ti} (h : ty P t = some i) (w : World) : (isAgg t).run P w = .ok (aggB i.desc) w := by
  unfold isAgg
  rw [Sem.run_bind, run_underlying (ty_ok h) w]
  cases i.desc <;> simp [aggB]
def ogets (T : Slots) : List Operand → Option (List Value)
  | [] => some []
  | x :: xs => match oget T x, ogets T xs with
    | some v, some vs => some (v :: vs)
    | _, _ => none
theorem Tm.evals {n : Nat} {a : Act} {T : Slots} (h : Tm n a T) : ∀ {xs : List Operand} {vs : List Value}, ogets T xs = some vs → xs.map a.eval = vs
  | [], vs, hx => by simp [ogets] at hx; subst hx; rfl
  | x :: xs, vs, hx => by
    simp only [ogets] at hx
    split at hx
    · rename_i v us hv hus
      injection hx with hx
      subst hx
      rw [List.map_cons, h.eval hv, h.evals hus]
    · cases hx

section
variable {P : Program} {ro : Option Nat} {ds : List Deferred} {B : Bk ro ds} {n : Nat} {w0 : World} {M : Nat → Prop} {k : List It} {T : Slots} {H : List Asn} {l σ : List Oper} {d : Tmp} {dd : Option Tmp} {tt : TypeId} {pos : String} {af : Array Edge} {g : Option (Nat × Bool)}
theorem R_nil (h : RS P B n w0 M k T H) : RG P B n w0 M l k [] T H := .nil h
theorem R_skip {op : Op} (h : RG P B n w0 M l k σ ((d, undef) :: T) H) (hw : wants l T g = some false) (hd : dok n (some d) = true) : RG P B n w0 M l k (⟨some d, op, tt, pos, af, g⟩ :: σ) T H := .skip hw hd h
theorem RS_sub {T' : Slots} (hs : Sub T' T) (h : RS P B n w0 M k T' H) : RS P B n w0 M k T H := ⟨fun a w had ha hw => h.runD a w had (ha.sub hs) hw⟩
theorem RS_mem {H' : List Asn} (hs : ∀ w, St w0 M H w → St w0 M H' w) (h : RS P B n w0 M k T H') : RS P B n w0 M k T H := ⟨fun a w had ha hw => h.runD a w had ha (hs w hw)⟩
theorem Sub.put {T' T : Slots} (h : Sub T' T) (d : Option Tmp) (v : Value) : Sub (tput d v T') (tput d v T) := by
  cases d with
  | none => exact h
  | some d =>
    intro i u hi
    simp only [tput, tget_cons] at hi ⊢
    split
    · rename_i e; rw [if_pos e] at hi; exact hi
    · rename_i e; rw [if_neg e] at hi; exact h i u hi
theorem wants_sub {T' T : Slots} (h : Sub T' T) {l : List Oper} {g : Option (Nat × Bool)} {b : Bool} (hw : wants l T' g = some b) : wants l T g = some b := by
  unfold wants at *
  cases g with
  | none => exact hw
  | some jb =>
    obtain ⟨j, want⟩ := jb
    simp only at hw ⊢
    cases hd : dstOf l j with
    | none => rw [hd] at hw; exact hw
    | some d =>
      rw [hd] at hw
      simp only at hw ⊢
      cases ht : tget T' d with
      | none => rw [ht] at hw; cases hw
      | some v => rw [ht] at hw; rw [h d v ht]; exact hw
theorem RG.sub {T' : Slots} (h : RG P B n w0 M l k σ T' H) : ∀ {T : Slots}, Sub T' T → RG P B n w0 M l k σ T H := by
  induction h with
  | nil h => exact fun hs => .nil (RS_sub hs h)
  | take hw hd hr _ ih => exact fun hs => .take (wants_sub hs hw) hd ⟨fun a w ha hw => hr.run a w (ha.sub hs) hw⟩ (ih (hs.put _ _))
  | skip hw hd _ ih => exact fun hs => .skip (wants_sub hs hw) hd (ih (hs.put _ _))
  | eff hw hd hr _ ih => exact fun hs => .eff (wants_sub hs hw) hd ⟨fun a w ha hw => hr.run a w (ha.sub hs) hw⟩ (fun v H' hE => ih v H' hE (hs.put _ _))
theorem Sub.same {d : Tmp} {v : Value} (h : tget T d = some v) : Sub ((d, v) :: T) T := fun i u hi => by
  rw [tget_cons] at hi
  split at hi
  · rename_i e; subst e; rw [h]; exact hi
  · exact hi
def gslot (l : List Oper) (g : Option (Nat × Bool)) : Option Tmp :=
  match g with
  | none => none
  | some (j, _) => dstOf l j
/-- the bool of a guard is parted -/
theorem R_split {c : Bool} {op : Op} {dd : Option Tmp} (hg : gslot l g = some d) (hc : tget T d = some (.bool c)) (h1 : c = true → RG P B n w0 M l k (⟨dd, op, tt, pos, af, g⟩ :: σ) ((d, .bool true) :: T) H)
    (h2 : c = false → RG P B n w0 M l k (⟨dd, op, tt, pos, af, g⟩ :: σ) ((d, .bool false) :: T) H) : RG P B n w0 M l k (⟨dd, op, tt, pos, af, g⟩ :: σ) T H := by
  cases c
  · exact (h2 rfl).sub (Sub.same hc)
  · exact (h1 rfl).sub (Sub.same hc)
theorem R_splitd {p : Prop} {i : Decidable p} {op : Op} {dd : Option Tmp} (hg : gslot l g = some d) (hc : tget T d = some (.bool (@decide p i))) (h1 : p → RG P B n w0 M l k (⟨dd, op, tt, pos, af, g⟩ :: σ) ((d, .bool true) :: T) H)
    (h2 : ¬ p → RG P B n w0 M l k (⟨dd, op, tt, pos, af, g⟩ :: σ) ((d, .bool false) :: T) H) : RG P B n w0 M l k (⟨dd, op, tt, pos, af, g⟩ :: σ) T H :=
  R_split hg hc (fun h => h1 (of_decide_eq_true h)) (fun h => h2 (of_decide_eq_false h))
/-- an operation that only reckons -/
theorem R_take {op : Op} {v : Value} (hr : Tk P n w0 M T H ⟨some d, op, tt, pos, af, g⟩ v) (h : RG P B n w0 M l k σ ((d, v) :: T) H)
    (hw : wants l T g = some true) (hd : dok n (some d) = true) : RG P B n w0 M l k (⟨some d, op, tt, pos, af, g⟩ :: σ) T H := .take hw hd hr h
theorem R_eff {op : Op} {E : Value → List Asn → Prop} (hr : Ef P n w0 M T H ⟨some d, op, tt, pos, af, g⟩ E) (h : ∀ v H', E v H' → RG P B n w0 M l k σ ((d, v) :: T) H')
    (hw : wants l T g = some true) (hd : dok n (some d) = true) : RG P B n w0 M l k (⟨some d, op, tt, pos, af, g⟩ :: σ) T H := .eff hw hd hr h
theorem R_eff0 {op : Op} {E : Value → List Asn → Prop} (hr : Ef P n w0 M T H ⟨none, op, tt, pos, af, g⟩ E) (h : ∀ v H', E v H' → RG P B n w0 M l k σ T H')
    (hw : wants l T g = some true) : RG P B n w0 M l k (⟨none, op, tt, pos, af, g⟩ :: σ) T H := .eff hw rfl hr h
theorem T_move {x : Operand} {v : Value} (hx : oget T x = some v) : Tk P n w0 M T H ⟨dd, .move x, tt, pos, af, g⟩ (v) :=
  .mk (fun a w ha _ => by simp [execOp, ha.eval hx])
theorem T_assign {x : Operand} {v : Value} (hx : oget T x = some v) : Tk P n w0 M T H ⟨dd, .assign x, tt, pos, af, g⟩ (v) :=
  .mk (fun a w ha _ => by simp [execOp, ha.eval hx])
/-- numbers -/
def arith : BinOp → IntKind → Int → Int → Option Int
  | .add, k, x, y => some (k.wrap (x + y))
  | .sub, k, x, y => some (k.wrap (x - y))
  | .mul, k, x, y => some (k.wrap (x * y))
  | .and, k, x, y => some (k.wrap ((BitVec.ofInt k.bits x &&& BitVec.ofInt k.bits y).toNat : Int))
  | .or, k, x, y => some (k.wrap ((BitVec.ofInt k.bits x ||| BitVec.ofInt k.bits y).toNat : Int))
  | .xor, k, x, y => some (k.wrap ((BitVec.ofInt k.bits x ^^^ BitVec.ofInt k.bits y).toNat : Int))
  | .andNot, k, x, y => some (k.wrap ((BitVec.ofInt k.bits x &&& ~~~ BitVec.ofInt k.bits y).toNat : Int))
  | _, _, _, _ => none
theorem arith_run {op : BinOp} {kk : IntKind} {x y z : Int} (hz : arith op kk x y = some z) (t : TypeId) (w : World) (u v : Operand) : (do eqGuard op t u v (.int kk x) (.int kk y); binOp op t (.int kk x) (.int kk y) : Sem Value).run P w = .ok (.int kk z) w := by
  cases op <;> simp only [arith] at hz <;> first | (cases hz; done) | (injection hz with hz; subst hz; simp [eqGuard, binOp, Op.intArith, Op.intBits])
theorem T_pick1 {x y z : Operand} {u : Value} (hc : oget T x = some (.bool true)) (hy : oget T y = some u) : Tk P n w0 M T H ⟨dd, .pick x y z, tt, pos, af, g⟩ u :=
  .mk (fun a w ha _ => by simp [execOp, ha.eval hc, ha.eval hy, asBool])
theorem T_pick0 {x y z : Operand} {u : Value} (hc : oget T x = some (.bool false)) (hz : oget T z = some u) : Tk P n w0 M T H ⟨dd, .pick x y z, tt, pos, af, g⟩ u :=
  .mk (fun a w ha _ => by simp [execOp, ha.eval hc, ha.eval hz, asBool])
theorem T_arith {op : BinOp} {x y : Operand} {t u : TypeId} {kk : IntKind} {i j z : Int} (hx : oget T x = some (.int kk i)) (hy : oget T y = some (.int kk j)) (hz : arith op kk i j = some z)
    : Tk P n w0 M T H ⟨dd, .binOp op t x y u, tt, pos, af, g⟩ (.int kk z) :=
  .mk (fun a w ha _ => by
    have := arith_run (P := P) hz t w x y
    rw [Sem.run_bind] at this
    simp only [execOp, ha.eval hx, ha.eval hy, Sem.run_bind, this, Result.andThen_ok, Sem.run_pure])
/-- a sum that fits -/
def arith0 : BinOp → Int → Int → Option Int
  | .add, x, y => some (x + y)
  | .sub, x, y => some (x - y)
  | .mul, x, y => some (x * y)
  | _, _, _ => none
def fits : IntKind → Int → Prop
  | .i64, z => -9223372036854775808 ≤ z ∧ z ≤ 9223372036854775807
  | .u64, z => 0 ≤ z ∧ z ≤ 18446744073709551615
  | .u32, z => 0 ≤ z ∧ z ≤ 4294967295
  | .u8, z => 0 ≤ z ∧ z ≤ 255
  | .u16, z => 0 ≤ z ∧ z ≤ 65535
  | .i32, z => -2147483648 ≤ z ∧ z ≤ 2147483647
  | .i16, z => -32768 ≤ z ∧ z ≤ 32767
  | .i8, z => -128 ≤ z ∧ z ≤ 127
theorem wrap_fits {kk : IntKind} {z : Int} (h : fits kk z) : kk.wrap z = z := by
  cases kk with
  | i64 => exact IntWalk.i64_in _ h
  | u64 => exact IntWalk.u64_in _ h
  | u32 => exact IntWalk.u32_in _ h
  | u8 => exact IntWalk.u8_in _ h
  | u16 => exact IntWalk.u16_in _ h
  | i32 => exact IntWalk.i32_in _ h
  | i16 => exact IntWalk.i16_in _ h
  | i8 => exact IntWalk.i8_in _ h
theorem T_sum {op : BinOp} {x y : Operand} {t u : TypeId} {kk : IntKind} {i j z : Int} (hx : oget T x = some (.int kk i)) (hy : oget T y = some (.int kk j)) (hz : arith0 op i j = some z) (hf : fits kk z) :
    Tk P n w0 M T H ⟨dd, .binOp op t x y u, tt, pos, af, g⟩ (.int kk z) := by
  refine T_arith (z := z) hx hy ?_
  cases op <;> simp only [arith0] at hz <;> first | (cases hz; done) | (injection hz with hz; subst hz; simp only [arith, wrap_fits hf])
theorem T_eq {x y : Operand} {t u : TypeId} {kk : IntKind} {i j : Int} (hx : oget T x = some (.int kk i)) (hy : oget T y = some (.int kk j))
    : Tk P n w0 M T H ⟨dd, .binOp .eql t x y u, tt, pos, af, g⟩ (.bool (decide (i = j))) :=
  .mk (fun a w ha _ => by simp [execOp, ha.eval hx, ha.eval hy, eqGuard, binOp, Op.intCmp]; rw [Bool.eq_iff_iff]; simp)
theorem T_ne {x y : Operand} {t u : TypeId} {kk : IntKind} {i j : Int} (hx : oget T x = some (.int kk i)) (hy : oget T y = some (.int kk j))
    : Tk P n w0 M T H ⟨dd, .binOp .neq t x y u, tt, pos, af, g⟩ (.bool (decide (¬ i = j))) :=
  .mk (fun a w ha _ => by simp [execOp, ha.eval hx, ha.eval hy, eqGuard, binOp, Op.intCmp]; rw [Bool.eq_iff_iff]; simp)
theorem T_lt {x y : Operand} {t u : TypeId} {kk : IntKind} {i j : Int} (hx : oget T x = some (.int kk i)) (hy : oget T y = some (.int kk j))
    : Tk P n w0 M T H ⟨dd, .binOp .lss t x y u, tt, pos, af, g⟩ (.bool (decide (i < j))) :=
  .mk (fun a w ha _ => by simp [execOp, ha.eval hx, ha.eval hy, eqGuard, binOp, Op.intCmp])
theorem T_le {x y : Operand} {t u : TypeId} {kk : IntKind} {i j : Int} (hx : oget T x = some (.int kk i)) (hy : oget T y = some (.int kk j))
    : Tk P n w0 M T H ⟨dd, .binOp .leq t x y u, tt, pos, af, g⟩ (.bool (decide (i ≤ j))) :=
  .mk (fun a w ha _ => by simp [execOp, ha.eval hx, ha.eval hy, eqGuard, binOp, Op.intCmp])
theorem T_gt {x y : Operand} {t u : TypeId} {kk : IntKind} {i j : Int} (hx : oget T x = some (.int kk i)) (hy : oget T y = some (.int kk j))
    : Tk P n w0 M T H ⟨dd, .binOp .gtr t x y u, tt, pos, af, g⟩ (.bool (decide (j < i))) :=
  .mk (fun a w ha _ => by simp [execOp, ha.eval hx, ha.eval hy, eqGuard, binOp, Op.intCmp])
theorem T_ge {x y : Operand} {t u : TypeId} {kk : IntKind} {i j : Int} (hx : oget T x = some (.int kk i)) (hy : oget T y = some (.int kk j))
    : Tk P n w0 M T H ⟨dd, .binOp .geq t x y u, tt, pos, af, g⟩ (.bool (decide (j ≤ i))) :=
  .mk (fun a w ha _ => by simp [execOp, ha.eval hx, ha.eval hy, eqGuard, binOp, Op.intCmp])
theorem T_shr {x y : Operand} {t u : TypeId} {kk kj : IntKind} {i j : Int} (hx : oget T x = some (.int kk i)) (hy : oget T y = some (.int kj j)) (h0 : 0 ≤ j)
    : Tk P n w0 M T H ⟨dd, .binOp .shr t x y u, tt, pos, af, g⟩ (.int kk (i.fdiv (2 ^ (min j.toNat kk.bits)))) :=
  .mk (fun a w ha _ => by
    have hj : ¬ j < 0 := by omega
    simp [execOp, ha.eval hx, ha.eval hy, eqGuard, binOp, Op.shift, hj])
/-- not -/
theorem T_not {x : Operand} {t : TypeId} {b : Bool} (hx : oget T x = some (.bool b)) : Tk P n w0 M T H ⟨dd, .unOp .not t x, tt, pos, af, g⟩ (.bool (!b)) :=
  .mk (fun a w ha _ => by simp [execOp, ha.eval hx, Op.unary])
/-- bools -/
theorem beq_run (t : TypeId) (b c : Bool) (w : World) (hu : (underlying t).run P w = .ok .bool w) : (Op.equal t (.bool b) (.bool c)).run P w = .ok (b == c) w := by
  unfold Op.equal Op.maxDepth
  generalize hq : 9999 = q
  have hq' : (10000 : Nat) = q + 1 := by omega
  rw [hq']
  clear hq hq'
  simp only [Op.equalIn, Sem.run_bind, hu, Result.andThen_ok, Sem.run_pure]
theorem T_beq [HasTab P] {x y : Operand} {t u : TypeId} {b c : Bool} {i : Ti} (hx : oget T x = some (.bool b)) (hy : oget T y = some (.bool c)) (ht : ty P t = some i) (hi : i.desc = .bool)
    : Tk P n w0 M T H ⟨dd, .binOp .eql t x y u, tt, pos, af, g⟩ (.bool (b == c)) :=
  .mk (fun a w ha _ => by
    have hu := run_underlying (hi ▸ ty_ok ht) w
    simp [execOp, ha.eval hx, ha.eval hy, eqGuard, binOp, beq_run t b c w hu])
theorem T_bne [HasTab P] {x y : Operand} {t u : TypeId} {b c : Bool} {i : Ti} (hx : oget T x = some (.bool b)) (hy : oget T y = some (.bool c)) (ht : ty P t = some i) (hi : i.desc = .bool)
    : Tk P n w0 M T H ⟨dd, .binOp .neq t x y u, tt, pos, af, g⟩ (.bool (b != c)) :=
  .mk (fun a w ha _ => by
    have hu := run_underlying (hi ▸ ty_ok ht) w
    simp [execOp, ha.eval hx, ha.eval hy, eqGuard, binOp, beq_run t b c w hu]
    cases b <;> cases c <;> rfl)
/-- texts -/
def bl (s : ByteArray) : List UInt8 := s.data.toList
theorem bl_eq (s t : ByteArray) : (s.toList == t.toList) = decide (bl s = bl t) := by rw [ByteArray.toList_eq, ByteArray.toList_eq, Bool.eq_iff_iff]; simp [bl]
def scmp : BinOp → List UInt8 → List UInt8 → Option Bool
  | .eql, x, y => some (decide (x = y))
  | .neq, x, y => some (decide (¬ x = y))
  | .lss, x, y => some (Op.bytesLess x y)
  | .leq, x, y => some (Op.bytesLess x y || decide (x = y))
  | .gtr, x, y => some (!(Op.bytesLess x y || decide (x = y)))
  | .geq, x, y => some (!Op.bytesLess x y)
  | _, _, _ => none
theorem T_scmp {op : BinOp} {x y : Operand} {t u : TypeId} {r s : ByteArray} {b : Bool} (hx : oget T x = some (.string r)) (hy : oget T y = some (.string s)) (hb : scmp op (bl r) (bl s) = some b)
    : Tk P n w0 M T H ⟨dd, .binOp op t x y u, tt, pos, af, g⟩ (.bool b) :=
  .mk (fun a w ha _ => by
    have h1 : r.toList = bl r := ByteArray.toList_eq _
    have h2 : s.toList = bl s := ByteArray.toList_eq _
    have h3 := bl_eq r s
    cases op <;> simp only [scmp] at hb <;> first | (cases hb; done) | (injection hb with hb; subst hb; simp [execOp, ha.eval hx, ha.eval hy, eqGuard, binOp, Op.stringOp, h1, h2]) 
    all_goals (first | done | (rw [Bool.eq_iff_iff]; simp)))
/-- conversions of numbers -/
theorem T_conv [HasTab P] {x : Operand} {s t : TypeId} {kk kd : IntKind} {z : Int} {i j : Ti} (hx : oget T x = some (.int kk z)) (hs : ty P s = some i) (ht : ty P t = some j) (hj : j.desc = .int kd)
    : Tk P n w0 M T H ⟨dd, .convert s t x, tt, pos, af, g⟩ (.int kd (kd.wrap z)) :=
  .mk (fun a w ha _ => by
    have h1 := run_underlying (ty_ok hs) w
    have h2 := run_underlying (hj ▸ ty_ok ht) w
    simp [execOp, ha.eval hx, convert, h1, h2, Conv.intToInt])
theorem T_convf [HasTab P] {x : Operand} {s t : TypeId} {kk kd : IntKind} {z : Int} {i j : Ti} (hx : oget T x = some (.int kk z)) (hs : ty P s = some i) (ht : ty P t = some j) (hj : j.desc = .int kd) (hf : fits kd z) :
    Tk P n w0 M T H ⟨dd, .convert s t x, tt, pos, af, g⟩ (.int kd z) := by
  have := T_conv (n := n) (w0 := w0) (M := M) (H := H) (dd := dd) (tt := tt) (pos := pos) (af := af) (g := g) hx hs ht hj
  rwa [wrap_fits hf] at this
/-- parts -/
theorem T_extract {x : Operand} {vs : Array Value} {v : Value} {j : Nat} (hx : oget T x = some (.tuple vs)) (hv : vs[j]? = some v) : Tk P n w0 M T H ⟨dd, .extract x j, tt, pos, af, g⟩ (v) :=
  .mk (fun a w ha _ => by simp [execOp, ha.eval hx, Instr.extract, hv])
theorem T_func {fn : Fn} {first captured : Array Operand} {xs ys : List Value} (h1 : ogets T first.toList = some xs) (h2 : ogets T captured.toList = some ys) : Tk P n w0 M T H ⟨dd, .makeFunc fn first captured, tt, pos, af, g⟩ (.func fn xs.toArray ys.toArray) :=
  .mk (fun a w ha _ => by
    have e1 : first.map a.eval = xs.toArray := by rw [← ha.evals h1, ← Array.toList_map]
    have e2 : captured.map a.eval = ys.toArray := by rw [← ha.evals h2, ← Array.toList_map]
    simp [execOp, Instr.makeFunc, e1, e2])
theorem T_len_slice [HasTab P] {x : Operand} {s : TypeId} {A : Option Addr} {m c : Nat} {i : Ti} {e : TypeId} (hx : oget T x = some (.slice A m c)) (ht : ty P s = some i) (hi : i.desc = .slice e)
    : Tk P n w0 M T H ⟨dd, .call ⟨.builtin .len, #[x], #[s]⟩, tt, pos, af, g⟩ (.int .i64 (m : Int)) :=
  .mk (fun a w ha _ => by
    have hu := run_underlying (hi ▸ ty_ok ht) w
    simp [execOp, resolve, invoke, builtin, ha.eval hx, Builtin.len_, hu, goInt])
theorem T_len_string [HasTab P] {x : Operand} {s : TypeId} {r : ByteArray} {i : Ti} (hx : oget T x = some (.string r)) (ht : ty P s = some i) (hi : i.desc = .string)
    : Tk P n w0 M T H ⟨dd, .call ⟨.builtin .len, #[x], #[s]⟩, tt, pos, af, g⟩ (.int .i64 (r.size : Int)) :=
  .mk (fun a w ha _ => by
    have hu := run_underlying (hi ▸ ty_ok ht) w
    simp [execOp, resolve, invoke, builtin, ha.eval hx, Builtin.len_, hu, goInt])
theorem T_nilCheck {x : Operand} {A : Addr} (hx : oget T x = some (.pointer (some A))) : Tk P n w0 M T H ⟨dd, .nilCheck x, tt, pos, af, g⟩ (.pointer (some A)) :=
  .mk (fun a w ha _ => by simp [execOp, ha.eval hx])
end
end Go.Proofs.YtdeffdldifepkaaGreat
namespace Go.Proofs.YtdeffdldifepkaaGreat
open Go.RowKit
open Asn (pt row rb)
set_option linter.unusedVariables false
set_option linter.unusedSimpArgs false

def pa (A : Option Addr) (j : Nat) : Option Addr := A.map (·.add j)
theorem pa_some {A : Option Addr} (h : A ≠ none) (j : Nat) : ∃ ad, A = some ad ∧ pa A j = some (ad.add j) := by
  cases A with
  | none => exact absurd rfl h
  | some a => exact ⟨a, rfl, rfl⟩
theorem add_plain (g o j : Nat) : (⟨g, o, none⟩ : Addr).add j = ⟨g, o + j, none⟩ := by
  unfold Addr.add
  split
  · rename_i h; subst h; rfl
  · rfl
section
variable {w0 w w' : World} {M : Nat → Prop} {H H' : List Asn}
theorem St.at_ {A : Asn} (h : St w0 M H w) (hm : A ∈ H) : A.holds w := (h.all A hm).1
theorem St.cell {g t off : Nat} {cs : List Value} {v : Value} (h : St w0 M H w) (hm : pt g t cs ∈ H) (hv : cs[off]? = some v) : w.cell? ⟨g, off, none⟩ = some v := by
  have hb : Blk w g t cs.toArray := h.at_ hm
  rw [hb.cell]
  simpa using hv
theorem St.oldCell {p : Addr} {v : Value} (h : St w0 M H w) (hM : ¬ M p.block) (hv : w0.cell? p = some v) : w.cell? p = some v := h.kp.cell hM hv
theorem Blk.setRow {g t : Nat} {cs : Array Value} (h : Blk w g t cs) (ds : Array Value) : Blk (w.setRow g ds) g t ds := setRow_heap w g _ ds t _ h
/-- what a callee makes -/
def owns (As : List Asn) : Nat → Prop := fun k => ∃ A, A ∈ As ∧ A.own k
theorem St.call {As Bs : List Asn} (h : St w0 M (As ++ H) w) (hc : St w (owns As) Bs w') : St w0 M (Bs ++ H) w' := by
  have hd : ∀ A, A ∈ H → ∀ k, A.own k → ¬ owns As k := fun A hA k hk ⟨B, hB, hBk⟩ => (List.pairwise_append.1 h.apart).2.2 B hB A hA k hBk hk
  have hkA : ∀ A, A ∈ H → A.holds w' ∧ ∀ k, A.own k → (M k ∨ w0.heap.size ≤ k) ∧ k < w'.heap.size := fun A hA => by
    have h1 := h.all A (List.mem_append_right _ hA)
    exact ⟨A.stable w w' (hc.kp.mono fun k hk _ => hd A hA k hk) h1.1, fun k hk => ⟨(h1.2 k hk).1, Nat.lt_of_lt_of_le (h1.2 k hk).2 hc.kp.size⟩⟩
  have howns : ∀ k, owns As k → M k ∨ w0.heap.size ≤ k := fun k ⟨A, hA, hk⟩ => ((h.all A (List.mem_append_left _ hA)).2 k hk).1
  refine ⟨⟨h.kp.os ▸ hc.kp.os, h.kp.tape ▸ hc.kp.tape, h.kp.output ▸ hc.kp.output, Nat.le_trans h.kp.size hc.kp.size, fun k hM hlt => ?_⟩, fun A hA => ?_, ?_⟩
  · rw [hc.kp.block k (fun ho => (howns k ho).elim hM (fun hs => by omega)) (Nat.lt_of_lt_of_le hlt h.kp.size)]
    exact h.kp.block k hM hlt
  · rcases List.mem_append.1 hA with hA | hA
    · have h1 := hc.all A hA
      refine ⟨h1.1, fun k hk => ⟨?_, (h1.2 k hk).2⟩⟩
      rcases (h1.2 k hk).1 with ho | hs
      · exact howns k ho
      · exact .inr (Nat.le_trans h.kp.size hs)
    · exact hkA A hA
  · refine List.pairwise_append.2 ⟨hc.apart, (List.pairwise_append.1 h.apart).2.1, fun B hB A hA k hk1 hk2 => ?_⟩
    rcases ((hc.all B hB).2 k hk1).1 with ho | hs
    · exact hd A hA k hk2 ho
    · have := ((h.all A (List.mem_append_right _ hA)).2 k hk2).2
      omega
end

section
variable {P : Program} {ro : Option Nat} {ds : List Deferred} {B : Bk ro ds} {n : Nat} {w0 : World} {M : Nat → Prop} {k : List It} {T : Slots} {H : List Asn} {l σ : List Oper} {d : Tmp} {dd : Option Tmp} {tt : TypeId} {pos : String} {af : Array Edge} {g : Option (Nat × Bool)}
theorem loadVar_cell [HasTab P] {s : TypeId} {i : Ti} (hs : ty P s = some i) (hi : aggB i.desc = false) {a : Addr} {v : Value} {w : World} (hc : w.cell? a = some v) : (loadVar s a).run P w = .ok v w := by
  simp [loadVar, ty_agg hs w, hi, hc]
theorem loadVar_cells [HasTab P] {s : TypeId} {i : Ti} (hs : ty P s = some i) (hi : aggB i.desc = true) {a : Addr} {ds : List Value} {w : World} (hl : ds.length = i.size) (hc : ∀ j v, ds[j]? = some v → w.cell? (a.add j) = some v) : (loadVar s a).run P w = .ok (.agg ds.toArray) w := by
  have h1 := run_loadCells_list (P := P) w a ds hc
  rw [hl] at h1
  simp [loadVar, ty_agg hs w, hi, ty_size hs w, h1]
/-- a cell of a known block is read -/
theorem T_load [HasTab P] {x : Operand} {s : TypeId} {gb off t : Nat} {cs : List Value} {v : Value} {i : Ti} (hx : oget T x = some (.pointer (some ⟨gb, off, none⟩))) (hs : ty P s = some i) (hi : aggB i.desc = false) [hm : Hat H gb t cs] (hv : cs[off]? = some v)
    : Tk P n w0 M T H ⟨dd, .load s x, tt, pos, af, g⟩ (v) :=
  .mk (fun a w ha hS => by simp [execOp, ha.eval hx, Instr.loadAt, Instr.sureAddr, loadVar_cell hs hi (hS.cell hm.mem hv)])
/-- a part of a known block is read -/
theorem T_loada [HasTab P] {x : Operand} {s : TypeId} {gb off t : Nat} {cs ds : List Value} {i : Ti} (hx : oget T x = some (.pointer (some ⟨gb, off, none⟩))) (hs : ty P s = some i) (hi : aggB i.desc = true) [hm : Hat H gb t cs] (hl : ds.length = i.size) (hv : ∀ j v, ds[j]? = some v → cs[off + j]? = some v)
    : Tk P n w0 M T H ⟨dd, .load s x, tt, pos, af, g⟩ (.agg ds.toArray) :=
  .mk (fun a w ha hS => by
    have := loadVar_cells (P := P) (a := ⟨gb, off, none⟩) hs hi hl (fun j v hj => by rw [add_plain]; exact hS.cell hm.mem (hv j v hj))
    simp [execOp, ha.eval hx, Instr.loadAt, Instr.sureAddr, this])
/-- memory that was there is read -/
theorem T_loado [HasTab P] {x : Operand} {s : TypeId} {A : Option Addr} {j sz m : Nat} {F : Nat → Prop} {xs : List Value} {v : Value} {i : Ti} (hx : oget T x = some (.pointer (pa A j))) (hs : ty P s = some i) (hi : aggB i.desc = false) (hr : Rd w0 F sz A m xs) (hv : xs[j]? = some v) (hF : ∀ k, F k → ¬ M k)
    : Tk P n w0 M T H ⟨dd, .load s x, tt, pos, af, g⟩ (v) :=
  .mk (fun a w ha hS => by
    have hlt := (List.getElem?_eq_some_iff.1 hv).1
    have hm : 0 < m := by
      rcases Nat.eq_zero_or_pos m with h0 | h0
      · have h2 := hr.1
        rw [h0, Nat.zero_mul] at h2
        omega
      · exact h0
    obtain ⟨ad, rfl, hb, hc⟩ := hr.2 hm
    have h1 := hS.oldCell (p := ad.add j) (by rw [block_of_add]; exact hF _ hb) (hc j v hv)
    simp [execOp, ha.eval hx, pa, Instr.loadAt, Instr.sureAddr, loadVar_cell hs hi h1])
theorem T_loadoa [HasTab P] {x : Operand} {s : TypeId} {A : Option Addr} {j sz m : Nat} {F : Nat → Prop} {xs ds : List Value} {i : Ti} (hx : oget T x = some (.pointer (pa A j))) (hs : ty P s = some i) (hi : aggB i.desc = true) (hr : Rd w0 F sz A m xs) (hl : ds.length = i.size) (h0 : 0 < m) (hv : ∀ e v, ds[e]? = some v → xs[j + e]? = some v) (hF : ∀ k, F k → ¬ M k)
    : Tk P n w0 M T H ⟨dd, .load s x, tt, pos, af, g⟩ (.agg ds.toArray) :=
  .mk (fun a w ha hS => by
    obtain ⟨ad, rfl, hb, hc⟩ := hr.2 h0
    have := loadVar_cells (P := P) (a := ad.add j) hs hi hl (fun e v he => by rw [add_of_add]; exact hS.oldCell (p := ad.add (j + e)) (by rw [block_of_add]; exact hF _ hb) (hc _ v (hv e v he)))
    simp [execOp, ha.eval hx, pa, Instr.loadAt, Instr.sureAddr, this])
/-- addresses -/
def fieldOf : TypeDesc → Nat → Option (Nat × Nat)
  | .struct fs, j => (fs[j]?).map fun f => (f.offset, f.type)
  | _, _ => none
theorem nth_eq {α : Type} : ∀ (l : List α) (j : Nat), nth l j = l[j]?
  | [], _ => rfl
  | _ :: _, 0 => rfl
  | _ :: xs, n + 1 => by rw [nth, nth_eq xs n]; simp
theorem fieldOf_fs [HasTab P] {s ft : TypeId} {j o : Nat} {i : Ti} (hs : ty P s = some i) (hf : nth i.fs j = some (o, ft)) : fieldOf i.desc j = some (o, ft) := by
  rw [← ty_fs hs, nth_eq] at hf
  cases hd : i.desc with
  | struct fs => rw [hd] at hf; simpa [fieldsOf, fieldOf] using hf
  | _ => rw [hd] at hf; cases hf
theorem fieldAt_run [HasTab P] {s ft : TypeId} {j o : Nat} {i fi : Ti} (hs : ty P s = some i) (hf : nth i.fs j = some (o, ft)) (hft : ty P ft = some fi) (hz : Nat.beq fi.size 0 = false) (a : Addr) (w : World) : (Instr.fieldAt s (.pointer (some a)) j).run P w = .ok (.pointer (some (a.add o))) w := by
  have hf := fieldOf_fs hs hf
  have hu := run_underlying (ty_ok hs) w
  have hne : fi.size ≠ 0 := fun e => by rw [e] at hz; cases hz
  cases hd : i.desc with
  | struct fs =>
    rw [hd] at hf hu
    obtain ⟨f, hf1, hf2⟩ := Option.map_eq_some_iff.1 hf
    simp only [Prod.mk.injEq] at hf2
    obtain ⟨rfl, rfl⟩ := hf2
    simp [Instr.fieldAt, hu, hf1, Instr.sureAddr, fieldPlace, ty_size hft w, hne]
  | _ => rw [hd] at hf; cases hf
theorem T_fa [HasTab P] {x : Operand} {s ft : TypeId} {gb off j o : Nat} {i fi : Ti} (hx : oget T x = some (.pointer (some ⟨gb, off, none⟩))) (hs : ty P s = some i) (hf : nth i.fs j = some (o, ft)) (hft : ty P ft = some fi) (hz : Nat.beq fi.size 0 = false)
    : Tk P n w0 M T H ⟨dd, .fieldAddr s x j, tt, pos, af, g⟩ (.pointer (some ⟨gb, off + o, none⟩)) :=
  .mk (fun a w ha hS => by simp [execOp, ha.eval hx, fieldAt_run hs hf hft hz, add_plain])
theorem T_fap [HasTab P] {x : Operand} {s ft : TypeId} {A : Option Addr} {e j o : Nat} {i fi : Ti} (hx : oget T x = some (.pointer (pa A e))) (hs : ty P s = some i) (hf : nth i.fs j = some (o, ft)) (hft : ty P ft = some fi) (hz : Nat.beq fi.size 0 = false) (hA : A ≠ none)
    : Tk P n w0 M T H ⟨dd, .fieldAddr s x j, tt, pos, af, g⟩ (.pointer (pa A (e + o))) :=
  .mk (fun a w ha hS => by
    obtain ⟨ad, rfl, _⟩ := pa_some hA 0
    simp [execOp, ha.eval hx, pa, fieldAt_run hs hf hft hz, add_of_add])
theorem T_ix [HasTab P] {x y : Operand} {s e : TypeId} {A : Option Addr} {m c q : Nat} {kk : IntKind} {i ei : Ti} (hx : oget T x = some (.slice A m c)) (hy : oget T y = some (.int kk (q : Int))) (hs : ty P s = some i) (hi : i.desc = .slice e) (he : ty P e = some ei) (hA : A ≠ none) (hq : q < m) :
    Tk P n w0 M T H ⟨dd, .indexAddr s x y, tt, pos, af, g⟩ (.pointer (pa A (q * ei.size))) := by
  refine ⟨fun a w ha hS => ?_⟩
  have hu := run_underlying (hi ▸ ty_ok hs) w
  obtain ⟨ad, rfl, _⟩ := pa_some hA 0
  have h1 : (0 : Int) ≤ q ∧ (q : Int) < m := by omega
  simp [execOp, ha.eval hx, ha.eval hy, Instr.indexAt, hu, asIntOf, hq, ty_size he w, pa]
/-- the same where the elements are of one cell -/
theorem T_ix1 [HasTab P] {x y : Operand} {s e : TypeId} {A : Option Addr} {m c q : Nat} {kk : IntKind} {i ei : Ti} (hx : oget T x = some (.slice A m c)) (hy : oget T y = some (.int kk (q : Int))) (hs : ty P s = some i) (hi : i.desc = .slice e) (he : ty P e = some ei) (h1 : ei.size = 1) (hA : A ≠ none) (hq : q < m) :
    Tk P n w0 M T H ⟨dd, .indexAddr s x y, tt, pos, af, g⟩ (.pointer (pa A q)) := by
  have := T_ix (n := n) (w0 := w0) (M := M) (H := H) (dd := dd) (tt := tt) (pos := pos) (af := af) (g := g) hx hy hs hi he hA hq
  rwa [h1, Nat.mul_one] at this
/-- new memory -/
def vcells : Value → List Value
  | .agg cs => cs.toList
  | v => [v]
theorem vcells_ok (v : Value) : v.cells = (vcells v).toArray := by cases v <;> simp [Value.cells, vcells]
theorem E_new {o : Oper} {v : Value} {u : TypeId} (hr : ∀ a w, Tm n a T → St w0 M H w → (execOp a.eval o).run P w = .ok (.value (.pointer (some ⟨w.heap.size, 0, none⟩))) (w.alloc (.cells (vcells v).toArray u))) :
    Ef P n w0 M T H o (fun u' H' => ∃ b, u' = .pointer (some ⟨b, 0, none⟩) ∧ H' = pt b u (vcells v) :: H) := .mk fun a w ha hS => by
    unfold Oper.wp
    rw [hr a w ha hS]
    refine ⟨_, _, ⟨w.heap.size, rfl, rfl⟩, rfl, hS.add (Kp.alloc w _) (Blk.new w u _) (fun k hk => ?_)⟩
    have hk : k = w.heap.size := hk
    subst hk
    simp
theorem E_box {x : Operand} {s : TypeId} {v : Value} (hx : oget T x = some v) : Ef P n w0 M T H ⟨dd, .box s x, tt, pos, af, g⟩ (fun u' H' => ∃ b, u' = .pointer (some ⟨b, 0, none⟩) ∧ H' = pt b s (vcells v) :: H) :=
  E_new (v := v) (u := s) (fun a w ha hS => by simp [execOp, ha.eval hx, Instr.box, newVar, newRow, vcells_ok])
theorem E_alloc [HasTab P] {s : TypeId} {i : Ti} (hs : ty P s = some i) : Ef P n w0 M T H ⟨dd, .alloc s, tt, pos, af, g⟩ (fun u' H' => ∃ b, u' = .pointer (some ⟨b, 0, none⟩) ∧ H' = pt b s (vcells i.zero) :: H) :=
  E_new (v := i.zero) (u := s) (fun a w ha hS => by simp [execOp, Instr.alloc, newVar, newRow, vcells_ok, ty_zero hs w])
/-- a store into a known block -/
theorem E_store [HasTab P] {x y : Operand} {s : TypeId} {gb off t : Nat} {cs ds : List Value} {v : Value} {i : Ti} {H' : List Asn} {K : List Value → List Asn} (hx : oget T x = some (.pointer (some ⟨gb, off, none⟩))) (hy : oget T y = some v) (hs : ty P s = some i) (hds : vcells v = ds) (hl : ds.length = i.size) (h1 : ∀ u ∈ ds, u.oneCell' = true) [hu : HUp H gb t cs K] (hH : K (cs.take off ++ ds ++ cs.drop (off + ds.length)) = H') (hfit : off + ds.length ≤ cs.length) : Ef P n w0 M T H ⟨none, .store s x y, tt, pos, af, g⟩ (fun _ H'' => H'' = H') := .mk fun a w ha hS => by
    subst hds
    have hup : Upd H (pt gb t cs) (pt gb t (cs.take off ++ vcells v ++ cs.drop (off + (vcells v).length))) H' := hH ▸ hu.upd _
    have hb : Blk w gb t cs.toArray := hS.at_ (hu.upd []).mem
    have hrun := run_storeCells_at P gb off t (vcells v) 0 cs.toArray w hb (by simpa using hfit) h1
    simp only [Nat.add_zero] at hrun
    unfold Oper.wp
    have hsz : v.cells.size = i.size := by rw [vcells_ok]; simpa using hl
    have : (execOp a.eval ⟨none, .store s x y, tt, pos, af, g⟩).run P w = .ok .skip (w.setRow gb (cs.take off ++ vcells v ++ cs.drop (off + (vcells v).length)).toArray) := by
      have h3 : (storeVar s ⟨gb, off, none⟩ v).run P w = .ok () (w.setRow gb (cs.take off ++ vcells v ++ cs.drop (off + (vcells v).length)).toArray) := by
        simp only [storeVar, Sem.run_bind, ty_size hs w, Result.andThen_ok, hsz, ne_eq, not_true_eq_false, if_false]
        rw [vcells_ok]
        simpa using hrun
      simp [execOp, ha.eval hx, ha.eval hy, Instr.storeAt, Instr.sureAddr, h3]
    rw [this]
    refine ⟨undef, H', rfl, rfl, hS.upd hup (Kp.setRow gb _) ?_ (fun _ h => h)⟩
    exact hb.setRow _
/-- the same for one cell -/
theorem E_store1 [HasTab P] {x y : Operand} {s : TypeId} {gb off t : Nat} {cs : List Value} {v : Value} {i : Ti} {H' : List Asn} {K : List Value → List Asn} (hx : oget T x = some (.pointer (some ⟨gb, off, none⟩))) (hy : oget T y = some v) (hs : ty P s = some i) (h1 : v.oneCell' = true) (hl : i.size = 1) [hu : HUp H gb t cs K] (hH : K (cs.set off v) = H') (hfit : off < cs.length) : Ef P n w0 M T H ⟨none, .store s x y, tt, pos, af, g⟩ (fun _ H'' => H'' = H') := by
  have hc : vcells v = [v] := by cases v <;> first | rfl | (simp [Value.oneCell'] at h1)
  refine E_store (t := t) (cs := cs) hx hy hs hc (by simp [hl]) (by simpa using h1) ?_ (by simp; omega)
  rwa [show cs.take off ++ [v] ++ cs.drop (off + [v].length) = cs.set off v by rw [List.set_eq_take_append_cons_drop, if_pos hfit]; simp]
/-- a call -/
structure Fn_ (P : Program) (f : FuncId) : Prop where
  is : ∃ fn, P.funcs[f]? = some fn ∧ fn.body.isNone = false ∧ (fn.name == "runtime.NumGoroutine") = false
theorem callFunc_run {f : FuncId} (hf : Fn_ P f) (vs : Array Value) (w : World) : (callFunc f vs).run P w = .ok (.enter f vs) w := by
  obtain ⟨fn, h1, h2, h3⟩ := hf.is
  simp only [callFunc, Sem.run_bind, run_program, Result.andThen_ok, h1, h2, h3]
  rfl
/-- what a callee does: it hands back V x, where I x; of the parts As it makes A x -/
def Gives (P : Program) (f : FuncId) (vs : List Value) (As : List Asn) (w : World) {X : Type} (V : X → Value) (I : X → Prop) (A : X → List Asn) : Prop :=
  Calls P f vs.toArray w fun e w' => ∃ x, e = .returned (V x) ∧ I x ∧ St w (owns As) (A x) w'
theorem E_call {X : Type} {f : FuncId} {xs : Array Operand} {ts : Array TypeId} {vs : List Value} (As Hr : List Asn) (V : X → Value) (I : X → Prop) (A : X → List Asn) (hx : ogets T xs.toList = some vs) (hf : Fn_ P f) (hH : ∀ w, St w0 M H w → St w0 M (As ++ Hr) w)
    (hc : ∀ w, St w0 M (As ++ Hr) w → Gives P f vs As w V I A) : Ef P n w0 M T H ⟨dd, .call ⟨.value (.func f), xs, ts⟩, tt, pos, af, g⟩ (fun u H' => ∃ x, I x ∧ u = V x ∧ H' = A x ++ Hr) := .mk fun a w ha hS => by
    have e1 : xs.map a.eval = vs.toArray := by rw [← ha.evals hx, ← Array.toList_map]
    unfold Oper.wp
    have : (execOp a.eval ⟨dd, .call ⟨.value (.func f), xs, ts⟩, tt, pos, af, g⟩).run P w = .ok (.enter f vs.toArray) w := by
      simp [execOp, resolve, Deferred.ofValue, invoke, Act.eval, e1, callFunc_run hf]
    rw [this]
    refine (hc w (hH w hS)).mono fun e w' ⟨x, he, hI, hS'⟩ => ?_
    subst he
    exact ⟨V x, A x ++ Hr, ⟨x, hI, rfl, rfl⟩, rfl, (hH w hS).call hS'⟩
end
theorem noOwns (k : Nat) : ¬ owns [] k := fun ⟨_, h, _⟩ => by cases h
theorem St.enter (w : World) : St w (owns []) [] w := ⟨Kp.refl _ _, fun _ h => (by cases h), List.Pairwise.nil⟩
theorem St.kpO {w0 w : World} {H : List Asn} (h : St w0 (owns []) H w) : Kp All w0 w := h.kp.mono fun k _ _ => noOwns k
end Go.Proofs.YtdeffdldifepkaaGreat
namespace Go.Proofs.YtdeffdldifepkaaGreat
open Go.RowKit
open Asn (pt row rb)
set_option linter.unusedVariables false
set_option linter.unusedSimpArgs false

/-- what must come ahead of an operation, by one step -/
def predsOf (ops : Array Oper) (j : Nat) : List Nat :=
  match ops[j]? with
  | none => []
  | some o => (o.after.toList.filter fun e => Region.binds .any e).map (·.on)
def clo (ops : Array Oper) : Nat → List Nat → List Nat → List Nat
  | 0, _, seen => seen
  | _ + 1, [], seen => seen
  | f + 1, j :: todo, seen => if seen.contains j then clo ops f todo seen else clo ops f (predsOf ops j ++ todo) (j :: seen)
/-- each other operation of the region stands ahead of this one or behind it -/
def pivot (ops : Array Oper) (j : Nat) : Bool :=
  let up := clo ops 2000 [j] []
  decide (j < ops.size) && (List.range ops.size).all fun k => up.contains k || (clo ops 2000 [k] []).contains j
inductive Up (ops : Array Oper) (j : Nat) : Nat → Prop
  | refl : Up ops j j
  | step {m k : Nat} (h : Up ops j m) (hk : k ∈ predsOf ops m) : Up ops j k
theorem clo_up {ops : Array Oper} {j : Nat} : ∀ (f : Nat) (todo seen : List Nat), (∀ k ∈ todo, Up ops j k) → (∀ k ∈ seen, Up ops j k) → ∀ k ∈ clo ops f todo seen, Up ops j k
  | 0, _, _, _, hs, k, hk => hs k hk
  | _ + 1, [], _, _, hs, k, hk => hs k hk
  | f + 1, i :: todo, seen, ht, hs, k, hk => by
    unfold clo at hk
    split at hk
    · exact clo_up f todo seen (fun k hk => ht k (by simp [hk])) hs k hk
    · refine clo_up f _ _ (fun k hk => ?_) (fun k hk => ?_) k hk
      · rcases List.mem_append.1 hk with hk | hk
        · exact .step (ht i (by simp)) hk
        · exact ht k (by simp [hk])
      · rcases List.mem_cons.1 hk with rfl | hk
        · exact ht _ (by simp)
        · exact hs k hk
/-- whatever has come up, that has come up too which must come ahead of it -/
def Closed (ops : Array Oper) (L : Array Bool) : Prop := ∀ m, L.getD m false = true → ∀ k ∈ predsOf ops m, L.getD k false = true
theorem closed_none {ops : Array Oper} (n : Nat) : Closed ops (Array.replicate n false) := fun m hm => by
  exfalso
  simp only [Array.getD_eq_getD_getElem?, Array.getElem?_replicate] at hm
  split at hm <;> simp at hm
theorem ready_preds {ops : Array Oper} {L : Array Bool} {j : Nat} (hj : j ∈ Region.ready .any ops L) : ∀ k ∈ predsOf ops j, L.getD k false = true := fun k hk => by
  obtain ⟨_, oj, hoj, haj⟩ := mem_ready.1 hj
  simp only [predsOf, hoj, List.mem_map, List.mem_filter] at hk
  obtain ⟨e, ⟨he, hb⟩, rfl⟩ := hk
  exact haj e (by simpa using he) hb
theorem closed_set {ops : Array Oper} {L : Array Bool} {j : Nat} (hc : Closed ops L) (hj : j ∈ Region.ready .any ops L) : Closed ops (L.setIfInBounds j true) := fun m hm k hk => by
  have up : ∀ i, L.getD i false = true → (L.setIfInBounds j true).getD i false = true := fun i hi => by
    by_cases hij : j = i
    · subst hij
      simp only [Array.getD_eq_getD_getElem?, Array.getElem?_setIfInBounds] at hi ⊢
      rw [if_pos trivial]
      split
      · rfl
      · rename_i h; rw [Array.getElem?_eq_none (by omega)] at hi; exact hi
    · rwa [getD_set_ne false hij]
  by_cases hij : j = m
  · subst hij
    exact up k (ready_preds hj k hk)
  · rw [getD_set_ne false hij] at hm
    exact up k (hc m hm k hk)
theorem up_done {ops : Array Oper} {L : Array Bool} {j : Nat} (hc : Closed ops L) (hj : j ∈ Region.ready .any ops L) {k : Nat} (h : Up ops j k) : k = j ∨ L.getD k false = true := by
  induction h with
  | refl => exact .inl rfl
  | step h hk ih =>
    rcases ih with rfl | ih
    · exact .inr (ready_preds hj _ hk)
    · exact .inr (hc _ ih _ hk)
theorem pivot_spec {ops : Array Oper} {i j : Nat} {L : Array Bool} (hc : Closed ops L) (hp : pivot ops j = true) (hi : i ∈ Region.ready .any ops L) (hj : j ∈ Region.ready .any ops L) : i = j := by
  obtain ⟨hiL, oi, hoi, hai⟩ := mem_ready.1 hi
  obtain ⟨hjL, oj, hoj, haj⟩ := mem_ready.1 hj
  by_cases hne : i = j
  · exact hne
  exfalso
  have hil : i < ops.size := (Array.getElem?_eq_some_iff.1 hoi).1
  simp only [pivot, Bool.and_eq_true, List.all_eq_true, List.mem_range] at hp
  have h1 := hp.2 i hil
  have sz : ∀ {k : Nat}, L.getD k true = false → L.getD k false = true → False := fun {k} h0 h1 => by
    rcases Nat.lt_or_ge k L.size with h' | h'
    · simp [h'] at h0 h1; rw [h0] at h1; cases h1
    · simp [Array.getElem?_eq_none h'] at h1
  simp only [Bool.or_eq_true, List.contains_iff_mem] at h1
  rcases h1 with h1 | h1
  · have hu : Up ops j i := clo_up _ _ _ (fun k hk => (List.mem_singleton.1 hk) ▸ .refl) (fun _ h => by cases h) i h1
    rcases up_done hc hj hu with h | h
    · exact hne h
    · exact sz hiL h
  · have hu : Up ops i j := clo_up _ _ _ (fun k hk => (List.mem_singleton.1 hk) ▸ .refl) (fun _ h => by cases h) j h1
    rcases up_done hc hi hu with h | h
    · exact hne h.symm
    · exact sz hjL h

section
variable {P : Program} {ops : Array Oper} {Q : Exit → Act → World → Prop}
def wpOpX (P : Program) (ops : Array Oper) (Q : Exit → Act → World → Prop) (i : Nat) (K : Act → World → Prop) (a : Act) (w : World) : Prop :=
  match ops[i]? with
  | none => K a w
  | some o => if Region.wanted o (yielded ops a.tmps) then wpo P o a w K Q else K (a.put o.dst undef) w
theorem wpOpX_mono {i : Nat} {a : Act} {w : World} {K K' : Act → World → Prop} (h : ∀ a w, K a w → K' a w) (hh : wpOpX P ops Q i K a w) : wpOpX P ops Q i K' a w := by
  unfold wpOpX at *
  split
  · exact h _ _ (by simpa [*] using hh)
  · rename_i o ho
    simp only [ho] at hh
    split
    · rename_i hw; simp only [hw, if_true] at hh; exact wpo_mono h hh
    · rename_i hw; simp only [hw] at hh; exact h _ _ hh
theorem yieldsX {S : World → Prop} {i : Nat} {o : Oper} {v : Value} {a : Act} (hi : ops[i]? = some o) (hy : YieldsIf P ops S o v a)
    {K : Act → World → Prop} {w : World} (hS : S w) (h : K (a.put o.dst v) w) : wpOpX P ops Q i K a w := by
  unfold wpOpX
  simp only [hi]
  rcases hy with ⟨hw, hv⟩ | ⟨hw, rfl⟩
  · simp only [hw, if_true, wpo, hv w hS, Oper.uponIn]; exact h
  · simp only [hw, Bool.false_eq_true, if_false]; exact h
theorem wpOpX_putIf {S : World → Prop} {j : Nat} {oi oj : Oper} {v : Value} (hj : ops[j]? = some oj) (hap : oi.apart ops oj = true)
    (hsi : ∀ cs b, oi.op ≠ .select cs b) (hsj : ∀ cs b, oj.op ≠ .select cs b)
    (hQ : ∀ c a w, Q (.panic c) (a.put oi.dst v) w → Q (.panic c) a w) {K : Act → World → Prop} {a : Act} {w : World}
    (hy : YieldsIf P ops S oi v a) (h : wpOpX P ops Q j K (a.put oi.dst v) w) :
    wpOpX P ops Q j (fun a' w' => YieldsIf P ops S oi v a' ∧ K (a'.put oi.dst v) w') a w := by
  obtain ⟨h1, h2, h3⟩ := Oper.apart_spec hap
  have keep : ∀ (a : Act), YieldsIf P ops S oi v a → ∀ u, YieldsIf P ops S oi v (a.put oj.dst u) := fun a hy u =>
    hy.of_same (execOp_put oi hsi a oj.dst u h3) (wanted_put oi a oj.dst u h3)
  have keepD : ∀ d, YieldsIf P ops S oi v { a with defers := d :: a.defers } := fun d => hy.of_same rfl rfl
  unfold wpOpX at *
  simp only [hj] at *
  rw [wanted_put oj a oi.dst v h1] at h
  split
  · rename_i hw
    simp only [hw, if_true] at h
    unfold wpo at *
    rw [execOp_put oj hsj a oi.dst v h1] at h
    generalize (execOp a.eval oj).run P w = r at *
    cases r with
    | ok n w' =>
      cases n <;> simp only [Oper.uponIn] at h ⊢
      case value u => exact ⟨keep a hy u, by rw [← Act.put_comm a v u h2]; exact h⟩
      case skip => exact ⟨keep a hy _, by rw [← Act.put_comm a v undef h2]; exact h⟩
      case defer d =>
        refine ⟨keep _ (keepD d) _, ?_⟩
        rw [← Act.put_comm _ v undef h2, ← Act.put_defers]
        exact h
      case enter f args =>
        refine ⟨h.1, CallsIn.mono h.2 fun e w'' he => ?_⟩
        cases e with
        | returned u => exact ⟨keep a hy u, by rw [← Act.put_comm a v u h2]; exact he⟩
        | panicked c => exact hQ _ _ _ he
        | outgrown => exact he
      case row row args => exact ⟨h.1, RowsIn.mono h.2 fun u w'' he => ⟨keep a hy u, by rw [← Act.put_comm a v u h2]; exact he⟩⟩
      case round l f tmps as bd =>
        refine ⟨h.1, RoundIn.mono h.2 fun e w'' he => ?_⟩
        cases e with
        | returned u => exact ⟨keep a hy u, by rw [← Act.put_comm a v u h2]; exact he⟩
        | panicked c => exact hQ _ _ _ he
        | outgrown => exact he
    | halt x w' =>
      cases x <;> simp only [Oper.uponIn] at h ⊢
      case panic u => exact hQ _ _ _ h
  · rename_i hw
    simp only [hw] at h
    exact ⟨keep a hy _, by rw [← Act.put_comm a v undef h2]; exact h⟩
def noDefer (l : List Oper) : Bool := l.all fun o => match o.op with
  | .defer _ => false
  | _ => true
theorem noDefer_spec {l : List Oper} (h : noDefer l = true) : ∀ (i : Nat) (o : Oper), l.toArray[i]? = some o → ∀ c, o.op ≠ .defer c := fun i o ho c hc => by
  have hm : o ∈ l := by
    have := Array.mem_of_getElem? ho
    simpa using this
  have := List.all_eq_true.1 h o hm
  rw [hc] at this
  cases this
/-- whatever order is picked; what is known of the world becomes more, or the operation is a pivot -/
def wpAnyD (P : Program) (ops : Array Oper) (Q : Exit → Act → World → Prop) : Nat → (World → Prop) → Array Bool → Act → World → Prop
  | 0, _, L, a, w => Region.ready .any ops L = [] ∧ Q .normal a w
  | f + 1, S, L, a, w =>
    (Region.ready .any ops L = [] → Q .normal a w) ∧
    ∀ i ∈ Region.ready .any ops L, wpOpX P ops Q i (fun a' w' => ∃ S' : World → Prop, ((∀ w, S' w → S w) ∨ pivot ops i = true) ∧ S' w' ∧ wpAnyD P ops Q f S' (L.setIfInBounds i true) a' w') a w
theorem wpOp_in {ro : Option Nat} (hd : ro = none ∨ ∀ (i : Nat) (o : Oper), ops[i]? = some o → ∀ c, o.op ≠ .defer c) {i : Nat} {K : Act → World → Prop} {a : Act} {w : World} (h : wpOpX P ops Q i K a w) : wpOpIn (Fw ro) 0 P ops Q i K a w := by
  unfold wpOpX at h
  unfold wpOpIn
  cases ho : ops[i]? with
  | none => rw [ho] at h; exact h
  | some o =>
    rw [ho] at h
    simp only at h ⊢
    split
    · rename_i hw
      rw [if_pos hw] at h
      exact wpo_in (hd.imp id fun hd => hd i o ho) h
    · rename_i hw
      rw [if_neg hw] at h
      exact ⟨fun _ _ => trivial, h⟩
theorem wpAny_of_D {ro : Option Nat} (hd : ro = none ∨ ∀ (i : Nat) (o : Oper), ops[i]? = some o → ∀ c, o.op ≠ .defer c) : ∀ (f : Nat) (S : World → Prop) (L : Array Bool) (a : Act) (w : World), wpAnyD P ops Q f S L a w → wpAnyIn (Fw ro) 0 P .any ops Q f L a w
  | 0, _, _, _, _, h => h
  | f + 1, S, L, a, w, h => ⟨h.1, fun i hi => wpOpIn_mono (fun a' w' ⟨S', _, _, h'⟩ => wpAny_of_D hd f S' _ a' w' h') (wpOp_in hd (h.2 i hi))⟩
theorem wpAnyD_first {i : Nat} {oi : Oper} {v : Value} (hi : ops[i]? = some oi) (hsel : ∀ (j : Nat) (o : Oper) cs b, ops[j]? = some o → o.op ≠ .select cs b)
    (hQ : ∀ c a w, Q (.panic c) (a.put oi.dst v) w → Q (.panic c) a w) :
    ∀ (f : Nat) (S : World → Prop) (L : Array Bool) (a : Act) (w : World), Closed ops L →
      (∀ j oj, ops[j]? = some oj → j ≠ i → L.getD j true = false → (∀ e ∈ oj.after, Region.binds .any e = true → e.on ≠ i) → oi.apart ops oj = true) →
      i ∈ Region.ready .any ops L → YieldsIf P ops S oi v a → S w →
      wpAnyD P ops Q f S (L.setIfInBounds i true) (a.put oi.dst v) w → wpAnyD P ops Q (f + 1) S L a w := by
  intro f
  induction f with
  | zero =>
    intro S L a w _ _ hr hy hS H
    refine ⟨fun h => (by rw [h] at hr; cases hr), fun j hj => ?_⟩
    by_cases hji : j = i
    · subst hji; exact yieldsX hi hy hS ⟨S, .inl fun _ h => h, hS, H⟩
    · have := ready_mono hj hji
      rw [H.1] at this
      cases this
  | succ f ih =>
    intro S L a w hcl hfree hr hy hS H
    refine ⟨fun h => (by rw [h] at hr; cases hr), fun j hj => ?_⟩
    by_cases hji : j = i
    · subst hji; exact yieldsX hi hy hS ⟨S, .inl fun _ h => h, hS, H⟩
    · have h1 := H.2 j (ready_mono hj hji)
      obtain ⟨hjun, oj, hoj, hall⟩ := mem_ready.1 hj
      have hnot : ∀ e ∈ oj.after, Region.binds .any e = true → e.on ≠ i := fun e he hb heq => by
        have h1 := hall e he hb
        have h0 := (mem_ready.1 hr).1
        rw [heq] at h1
        rcases Nat.lt_or_ge i L.size with h' | h'
        · simp [h'] at h0 h1; rw [h0] at h1; cases h1
        · simp [Array.getElem?_eq_none h'] at h1
      have h2 := wpOpX_putIf hoj (hfree j oj hoj hji hjun hnot) (fun cs b => hsel i oi cs b hi) (fun cs b => hsel j oj cs b hoj) hQ hy h1
      have hfree' : ∀ k ok, ops[k]? = some ok → k ≠ i → (L.setIfInBounds j true).getD k true = false →
          (∀ e ∈ ok.after, Region.binds .any e = true → e.on ≠ i) → oi.apart ops ok = true := fun k ok hk hki hun hno => by
        refine hfree k ok hk hki ?_ hno
        by_cases hjk : j = k
        · subst hjk; exact hjun
        · rw [getD_set_ne true hjk] at hun; exact hun
      refine wpOpX_mono (fun a' w' ⟨hy', S', hS', hw', h3⟩ => ?_) h2
      rcases hS' with hS' | hp
      · refine ⟨S', .inl hS', hw', ih S' (L.setIfInBounds j true) a' w' (closed_set hcl hj) hfree' (ready_mono hr (Ne.symm hji)) ?_ hw' ?_⟩
        · exact hy'.imp (fun ⟨h1, h2⟩ => ⟨h1, fun w hw => h2 w (hS' w hw)⟩) id
        · rw [Array.setIfInBounds_comm _ _ hji]
          exact h3
      · exact absurd (pivot_spec hcl hp hr hj).symm hji
end

section
variable (P : Program) {ro : Option Nat} {ds : List Deferred} (B : Bk ro ds) (n : Nat) (w0 : World) (M : Nat → Prop)
/-- within a region that draws: L tells which operations have come up; C is what stays known of memory whatever comes up -/
inductive RD (l : List Oper) (k : List It) : Array Bool → List Asn → Slots → List Asn → Prop
  | done {L : Array Bool} {C : List Asn} {T : Slots} {H : List Asn} (hr : Region.ready .any l.toArray L = []) (h : RS P B n w0 M k T H) : RD l k L C T H
  | take {L : Array Bool} {C : List Asn} {T : Slots} {H : List Asn} (i : Nat) {o : Oper} {v : Value} (ho : l[i]? = some o) (hw : wants l T o.guard = some true) (hd : dok n o.dst = true) (hf : Region.free .any l.toArray L i = true)
      (hr : (Region.ready .any l.toArray L).contains i = true) (ht : Tk P n w0 M T C o v) (h : RD l k (L.setIfInBounds i true) C (tput o.dst v T) H) : RD l k L C T H
  | skip {L : Array Bool} {C : List Asn} {T : Slots} {H : List Asn} (i : Nat) {o : Oper} (ho : l[i]? = some o) (hw : wants l T o.guard = some false) (hd : dok n o.dst = true) (hf : Region.free .any l.toArray L i = true)
      (hr : (Region.ready .any l.toArray L).contains i = true) (h : RD l k (L.setIfInBounds i true) C (tput o.dst undef T) H) : RD l k L C T H
  | all {L : Array Bool} {C : List Asn} {T : Slots} {H : List Asn} (rs : List Nat) (hr : Region.ready .any l.toArray L = rs) (hne : rs ≠ []) (E : Nat → Value → List Asn → Prop) (C' : Nat → Value → List Asn → List Asn)
      (he : ∀ i ∈ rs, ∃ o, l[i]? = some o ∧ wants l T o.guard = some true ∧ dok n o.dst = true ∧ Ef P n w0 M T H o (E i))
      (hc : ∀ i ∈ rs, ∀ v H', E i v H' → (∀ w, St w0 M H' w → St w0 M (C' i v H') w) ∧ ((∀ w, St w0 M (C' i v H') w → St w0 M C w) ∨ pivot l.toArray i = true))
      (h : ∀ i ∈ rs, ∀ o, l[i]? = some o → ∀ v H', E i v H' → RD l k (L.setIfInBounds i true) (C' i v H') (tput o.dst v T) H') : RD l k L C T H
end
def cnt (n : Nat) (L : Array Bool) : Nat := ((List.range n).filter fun i => L.getD i true == false).length
theorem cnt_set {n i : Nat} {L : Array Bool} (hi : i < n) (hL : L.getD i true = false) : cnt n (L.setIfInBounds i true) < cnt n L := by
  have hs : ((List.range n).filter fun j => (L.setIfInBounds i true).getD j true == false).Sublist ((List.range n).filter fun j => L.getD j true == false) := by
    have he : ((List.range n).filter fun j => (L.setIfInBounds i true).getD j true == false) = ((List.range n).filter fun j => L.getD j true == false).filter fun j => (L.setIfInBounds i true).getD j true == false := by
      rw [List.filter_filter]
      refine List.filter_congr fun j _ => ?_
      by_cases hij : i = j
      · subst hij
        rw [hL]
        simp
      · rw [getD_set_ne true hij]
        simp
    rw [he]
    exact List.filter_sublist
  rcases Nat.lt_or_eq_of_le hs.length_le with h | h
  · exact h
  · exfalso
    have he := hs.eq_of_length h
    have hm : i ∈ (List.range n).filter fun j => L.getD j true == false := by simp [hi]; simpa using hL
    rw [← he] at hm
    have hlt : i < L.size := by
      rcases Nat.lt_or_ge i L.size with h' | h'
      · exact h'
      · simp [Array.getElem?_eq_none h'] at hL
    simp [hlt] at hm
theorem cnt_zero {l : List Oper} {L : Array Bool} (h : cnt l.length L = 0) : Region.ready .any l.toArray L = [] := by
  rcases hr : Region.ready .any l.toArray L with _ | ⟨i, rs⟩
  · rfl
  · exfalso
    have hi : i ∈ Region.ready .any l.toArray L := by rw [hr]; simp
    obtain ⟨h0, o, ho, _⟩ := mem_ready.1 hi
    have hlt : i < l.length := by
      have := (Array.getElem?_eq_some_iff.1 ho).1
      simpa using this
    have hm : i ∈ (List.range l.length).filter fun j => L.getD j true == false := by
      rw [List.mem_filter]
      exact ⟨by simpa using hlt, by rw [h0]; rfl⟩
    unfold cnt at h
    rw [List.eq_nil_of_length_eq_zero h] at hm
    cases hm
section
variable {P : Program} {ro : Option Nat} {ds : List Deferred} {B : Bk ro ds} {n : Nat} {w0 : World} {M : Nat → Prop} {k : List It}
/-- a region that may not panic -/
def NoP (Q : Exit → Act → World → Prop) : Exit → Act → World → Prop
  | .panic _, _, _ => False
  | e, a, w => Q e a w
theorem NoP.imp {Q : Exit → Act → World → Prop} (e : Exit) (a : Act) (w : World) (h : NoP Q e a w) : Q e a w := by
  cases e <;> first | exact h | exact (h : False).elim
theorem RD.any {l : List Oper} (hsel : Region.noSelect l.toArray = true) {L : Array Bool} {C : List Asn} {T : Slots} {H : List Asn} (h : RD P B n w0 M l k L C T H) :
    (∀ w, St w0 M H w → St w0 M C w) → Closed l.toArray L → ∀ f a w, cnt l.length L ≤ f → a.defers = ds → Tm n a T → St w0 M H w → wpAnyD P l.toArray (NoP (QS P B k)) f (St w0 M C) L a w := by
  induction h with
  | done hr h =>
    intro hC hcl f a w _ had ha hs
    cases f with
    | zero => exact ⟨hr, h.runD a w had ha hs⟩
    | succ f => exact ⟨fun _ => h.runD a w had ha hs, by rw [hr]; simp⟩
  | take i ho hw hd hf hr ht _ ih =>
    rename_i L C T H o v _
    intro hC hcl f a w hc had ha hs
    have hi : i ∈ Region.ready .any l.toArray L := by simpa using hr
    obtain ⟨h0, o', ho', _⟩ := mem_ready.1 hi
    have hlt : i < l.length := by have := (Array.getElem?_eq_some_iff.1 ho').1; simpa using this
    have hcs := cnt_set hlt h0
    obtain ⟨f, rfl⟩ : ∃ g, f = g + 1 := ⟨f - 1, by omega⟩
    have ho2 : l.toArray[i]? = some o := by simpa using ho
    exact wpAnyD_first ho2 (Region.noSelect_spec hsel) (fun c a w h => h) f _ L a w hcl (Region.free_spec ho2 hf) hi
      (.inl ⟨wants_ok ha hw, fun w' hw' => ht.run a w' ha hw'⟩) (hC w hs) (ih hC (closed_set hcl hi) f _ w (by omega) (by rw [put_defers]; exact had) (ha.put hd) hs)
  | skip i ho hw hd hf hr _ ih =>
    rename_i L C T H o _
    intro hC hcl f a w hc had ha hs
    have hi : i ∈ Region.ready .any l.toArray L := by simpa using hr
    obtain ⟨h0, o', ho', _⟩ := mem_ready.1 hi
    have hlt : i < l.length := by have := (Array.getElem?_eq_some_iff.1 ho').1; simpa using this
    have hcs := cnt_set hlt h0
    obtain ⟨f, rfl⟩ : ∃ g, f = g + 1 := ⟨f - 1, by omega⟩
    have ho2 : l.toArray[i]? = some o := by simpa using ho
    exact wpAnyD_first ho2 (Region.noSelect_spec hsel) (fun c a w h => h) f _ L a w hcl (Region.free_spec ho2 hf) hi
      (.inr ⟨wants_ok ha hw, rfl⟩) (hC w hs) (ih hC (closed_set hcl hi) f _ w (by omega) (by rw [put_defers]; exact had) (ha.put hd) hs)
  | all rs hr hne E C' he hcc _ ih =>
    rename_i L C T H _
    intro hC hcl f a w hc had ha hs
    have hf : 0 < f := by
      rcases Nat.eq_zero_or_pos f with h0 | h0
      · exfalso
        have := cnt_zero (l := l) (L := L) (by omega)
        rw [hr] at this
        exact hne this
      · exact h0
    obtain ⟨f, rfl⟩ : ∃ g, f = g + 1 := ⟨f - 1, by omega⟩
    refine ⟨fun h => absurd (hr ▸ h) hne, fun i hi => ?_⟩
    obtain ⟨h0, o', ho', _⟩ := mem_ready.1 hi
    have hlt : i < l.length := by have := (Array.getElem?_eq_some_iff.1 ho').1; simpa using this
    have hcs := cnt_set hlt h0
    rw [hr] at hi
    obtain ⟨o, ho, hw, hd, hE⟩ := he i hi
    have ho2 : l.toArray[i]? = some o := by simpa using ho
    unfold wpOpX
    simp only [ho2, wants_ok ha hw, if_true]
    refine wpo_false (wpo_mono ?_ (hE.run a w ha hs))
    rintro a' w' ⟨v, H', hv, rfl, hs'⟩
    obtain ⟨c1, c2⟩ := hcc i hi v H' hv
    exact ⟨St w0 M (C' i v H'), c2, c1 w' hs', ih i hi o ho v H' hv c1 (closed_set hcl (hr ▸ hi)) f _ w' (by omega) (by rw [put_defers]; exact had) (ha.put hd) hs'⟩
theorem RS_draw {id : Nat} {l : List Oper} {T : Slots} {H : List Asn} (C : List Asn) (hC : ∀ w, St w0 M H w → St w0 M C w) (hm : P.follows .mixedOrders = true) (hsel : Region.noSelect l.toArray = true) (hdf : ro = none ∨ noDefer l = true) (h : RD P B n w0 M l k (Array.replicate l.length false) C T H) : RS P B n w0 M (.code (.region id l.toArray true) :: k) T H := .mkD fun a w had ha hs => by
  refine wpIn_mono (wpIn_region_any (Q := NoP (QS P B k)) hm ?_) (fun e a w h => NoP.imp e a w h)
  have hs' : St w0 M H { w with drawn := w.drawn + 1 } := hs.step (Kp.drew w)
  have := h.any hsel hC (closed_none _) l.toArray.size a _ ?_ had ha hs'
  · have h2 := wpAny_of_D (hdf.imp (fun h => h) noDefer_spec) _ _ _ _ _ this
    simpa using h2
  · have : cnt l.length (Array.replicate l.length false) ≤ (List.range l.length).length := List.length_filter_le _ _
    simpa using this
end

section
variable {P : Program} {ro : Option Nat} {ds : List Deferred} {B : Bk ro ds} {n : Nat} {w0 : World} {M : Nat → Prop} {k : List It} {T : Slots} {C H : List Asn} {l : List Oper} {L : Array Bool}
theorem D_done (h : RS P B n w0 M k T H) (hr : Region.ready .any l.toArray L = []) : RD P B n w0 M l k L C T H := .done hr h
theorem D_take (i : Nat) {d : Tmp} {op : Op} {tt : TypeId} {pos : String} {af : Array Edge} {g : Option (Nat × Bool)} {v : Value} (ho : l[i]? = some ⟨some d, op, tt, pos, af, g⟩) (ht : Tk P n w0 M T C ⟨some d, op, tt, pos, af, g⟩ v) (h : RD P B n w0 M l k (L.setIfInBounds i true) C ((d, v) :: T) H)
    (hw : wants l T g = some true) (hd : dok n (some d) = true) (hf : Region.free .any l.toArray L i = true) (hr : (Region.ready .any l.toArray L).contains i = true) : RD P B n w0 M l k L C T H := .take i ho hw hd hf hr ht h
theorem D_skip (i : Nat) {d : Tmp} {op : Op} {tt : TypeId} {pos : String} {af : Array Edge} {g : Option (Nat × Bool)} (ho : l[i]? = some ⟨some d, op, tt, pos, af, g⟩) (h : RD P B n w0 M l k (L.setIfInBounds i true) C ((d, undef) :: T) H)
    (hw : wants l T g = some false) (hd : dok n (some d) = true) (hf : Region.free .any l.toArray L i = true) (hr : (Region.ready .any l.toArray L).contains i = true) : RD P B n w0 M l k L C T H := .skip i ho hw hd hf hr h
/-- what follows an effect: C' stays known from now on -/
structure Nx (P : Program) {ro : Option Nat} {ds : List Deferred} (B : Bk ro ds) (n : Nat) (w0 : World) (M : Nat → Prop) (l : List Oper) (k : List It) (L : Array Bool) (C : List Asn) (i : Nat) (T : Slots) (H : List Asn) : Prop where
  is : ∃ C', (∀ w, St w0 M H w → St w0 M C' w) ∧ ((∀ w, St w0 M C' w → St w0 M C w) ∨ pivot l.toArray i = true) ∧ RD P B n w0 M l k (L.setIfInBounds i true) C' T H
theorem Nx_same {i : Nat} (hC : ∀ w, St w0 M H w → St w0 M C w) (h : RD P B n w0 M l k (L.setIfInBounds i true) C T H) : Nx P B n w0 M l k L C i T H := ⟨C, hC, .inl fun _ h => h, h⟩
theorem Nx_all {i : Nat} (hC : ∀ w, St w0 M H w → St w0 M C w) (h : RD P B n w0 M l k (L.setIfInBounds i true) H T H) : Nx P B n w0 M l k L C i T H := ⟨H, fun _ h => h, .inl hC, h⟩
theorem Nx_pivot {i : Nat} (hp : pivot l.toArray i = true) (h : RD P B n w0 M l k (L.setIfInBounds i true) H T H) : Nx P B n w0 M l k L C i T H := ⟨H, fun _ h => h, .inr hp, h⟩
/-- the one operation that may come up -/
theorem D_one (i : Nat) {dd : Option Tmp} {op : Op} {tt : TypeId} {pos : String} {af : Array Edge} {g : Option (Nat × Bool)} {E : Value → List Asn → Prop} (ho : l[i]? = some ⟨dd, op, tt, pos, af, g⟩) (he : Ef P n w0 M T H ⟨dd, op, tt, pos, af, g⟩ E)
    (h : ∀ v H', E v H' → Nx P B n w0 M l k L C i (tput dd v T) H')
    (hw : wants l T g = some true) (hd : dok n dd = true) (hr : Region.ready .any l.toArray L = [i]) : RD P B n w0 M l k L C T H := by
  classical
  refine .all [i] hr (by simp) (fun _ => E) (fun _ v H' => if hE : E v H' then Classical.choose (h v H' hE).is else []) (fun j hj => ?_) (fun j hj v H' hE => ?_) (fun j hj o hoj v H' hE => ?_)
  · obtain rfl : j = i := by simpa using hj
    exact ⟨_, ho, hw, hd, he⟩
  · obtain rfl : j = i := by simpa using hj
    have := Classical.choose_spec (h v H' hE).is
    simp only [dif_pos hE]
    exact ⟨this.1, this.2.1⟩
  · obtain rfl : j = i := by simpa using hj
    rw [ho] at hoj
    injection hoj with hoj
    subst hoj
    have := Classical.choose_spec (h v H' hE).is
    simp only [dif_pos hE]
    exact this.2.2
/-- one of two -/
theorem D_two (i j : Nat) {oi oj : Oper} {Ei Ej : Value → List Asn → Prop} (hij : i ≠ j) (hi : l[i]? = some oi) (hj : l[j]? = some oj) (ei : Ef P n w0 M T H oi Ei) (ej : Ef P n w0 M T H oj Ej)
    (h1 : ∀ v H', Ei v H' → Nx P B n w0 M l k L C i (tput oi.dst v T) H') (h2 : ∀ v H', Ej v H' → Nx P B n w0 M l k L C j (tput oj.dst v T) H')
    (hwi : wants l T oi.guard = some true) (hwj : wants l T oj.guard = some true) (hdi : dok n oi.dst = true) (hdj : dok n oj.dst = true) (hr : Region.ready .any l.toArray L = [i, j]) : RD P B n w0 M l k L C T H := by
  classical
  refine .all [i, j] hr (by simp) (fun m => if m = i then Ei else Ej) (fun m v H' => if m = i then (if hE : Ei v H' then Classical.choose (h1 v H' hE).is else []) else (if hE : Ej v H' then Classical.choose (h2 v H' hE).is else [])) (fun m hm => ?_) (fun m hm v H' hE => ?_) (fun m hm o ho v H' hE => ?_)
  · rcases List.mem_cons.1 hm with rfl | hm
    · exact ⟨_, hi, hwi, hdi, by simpa using ei⟩
    · obtain rfl : m = j := by simpa using hm
      exact ⟨_, hj, hwj, hdj, by simpa [Ne.symm hij] using ej⟩
  · rcases List.mem_cons.1 hm with rfl | hm
    · simp only [if_true] at hE ⊢
      have := Classical.choose_spec (h1 v H' hE).is
      simp only [dif_pos hE]
      exact ⟨this.1, this.2.1⟩
    · obtain rfl : m = j := by simpa using hm
      simp only [if_neg (Ne.symm hij)] at hE ⊢
      have := Classical.choose_spec (h2 v H' hE).is
      simp only [dif_pos hE]
      exact ⟨this.1, this.2.1⟩
  · rcases List.mem_cons.1 hm with rfl | hm
    · rw [hi] at ho
      injection ho with ho
      subst ho
      simp only [if_true] at hE ⊢
      have := Classical.choose_spec (h1 v H' hE).is
      simp only [dif_pos hE]
      exact this.2.2
    · obtain rfl : m = j := by simpa using hm
      rw [hj] at ho
      injection ho with ho
      subst ho
      simp only [if_neg (Ne.symm hij)] at hE ⊢
      have := Classical.choose_spec (h2 v H' hE).is
      simp only [dif_pos hE]
      exact this.2.2
end
end Go.Proofs.YtdeffdldifepkaaGreat
namespace Go.Proofs.YtdeffdldifepkaaGreat
open Go.RowKit
open Asn (pt row rb)
set_option linter.unusedVariables false
set_option linter.unusedSimpArgs false

theorem own_block {w : World} {base : Nat} {e : TypeId} {size n : Nat} {v : Value} {xs : List Value} (h : w.ownsRow base e size v n xs) : ∀ k, v.ownBlock = some k → base ≤ k ∧ k < w.heap.size := World.ownsRow.lt h
/-- how a part of memory is read: bytes -/
structure Src (w0 : World) (M : Nat → Prop) (H : List Asn) (A : Option Addr) (n c : Nat) (l : List UInt8) : Prop where
  bs : ∀ w, St w0 M H w → Bs w All A n c l
/-- how a part of memory is read: cells -/
structure Srd (w0 : World) (M : Nat → Prop) (H : List Asn) (size : Nat) (A : Option Addr) (n : Nat) (xs : List Value) : Prop where
  rd : ∀ w, St w0 M H w → Rd w All size A n xs
section
variable {w0 w w' : World} {M F : Nat → Prop} {H H' Hr : List Asn} {A : Option Addr} {n c size : Nat} {e : TypeId} {l : List UInt8} {xs : List Value}
theorem Src.old (h : Bs w0 F A n c l) (hF : ∀ k, F k → ¬ M k) : Src w0 M H A n c l := ⟨fun w hS => ((h.more hF).keep hS.kp).more fun _ _ => trivial⟩
theorem Srd.old (h : Rd w0 F size A n xs) (hF : ∀ k, F k → ¬ M k) : Srd w0 M H size A n xs := ⟨fun w hS => ((h.more hF).keep hS.kp).more fun _ _ => trivial⟩
theorem Src.rd (h : Src w0 M H A n c l) : Srd w0 M H 1 A n (l.map bv) := ⟨fun w hS => (h.bs w hS).rd⟩
theorem Srd.row [hm : HRow H A n c e size xs Hr] : Srd w0 M H size A n xs := ⟨fun w hS => (Rd.of_own (hS.at_ hm.mem)).more fun _ _ => trivial⟩
theorem Src.row [hm : HRow H A n c e 1 (l.map bv) Hr] : Src w0 M H A n c l := ⟨fun w hS => (Bs.of_own (e := e) (hS.at_ hm.mem)).more fun _ _ => trivial⟩
theorem Srd.pt {g t off : Nat} {cs ds : List Value} [hm : Hat H g t cs] (hl : ds.length = n * size) (hd : ∀ j v, ds[j]? = some v → cs[off + j]? = some v) : Srd w0 M H size (some ⟨g, off, none⟩) n ds :=
  ⟨fun w hS => ⟨hl, fun _ => ⟨_, rfl, trivial, fun j v hj => by rw [add_plain]; exact hS.cell hm.mem (hd j v hj)⟩⟩⟩
theorem Src.pt {g t off : Nat} {cs : List Value} [hm : Hat H g t cs] (hl : l.length = n) (hnc : n ≤ c) (hc : c ≤ maxLen) (hd : ∀ j v, (l.map bv)[j]? = some v → cs[off + j]? = some v) : Src w0 M H (some ⟨g, off, none⟩) n c l :=
  ⟨fun w hS => ⟨hl.symm, hnc, hc, (Srd.pt (n := n) (size := 1) (by simp [hl]) hd).rd w hS⟩⟩
theorem Src.nil : Src w0 M H none 0 0 [] := ⟨fun w _ => Bs.nil w _⟩
theorem Src.len (h : Src w0 M H A n c l) (hS : St w0 M H w) : n = l.length := (h.bs w hS).len
/-- one part is taken out -/
inductive Rem : List Asn → Asn → List Asn → Prop
  | here {A : Asn} {H : List Asn} : Rem (A :: H) A H
  | there {A B : Asn} {H Hr : List Asn} : Rem H A Hr → Rem (B :: H) A (B :: Hr)
theorem Rem.perm {A : Asn} (r : Rem H A Hr) : H.Perm (A :: Hr) := by
  induction r with
  | here => exact List.Perm.refl _
  | there _ ih => exact (List.Perm.cons _ ih).trans (List.Perm.swap _ _ _)
theorem St.rem {A : Asn} (h : St w0 M H w) (r : Rem H A Hr) : St w0 M (A :: Hr) w := h.perm r.perm
theorem St.unrem {A : Asn} (h : St w0 M (A :: Hr) w) (r : Rem H A Hr) : St w0 M H w := h.perm r.perm.symm
/-- a nil slice can be had for nothing -/
theorem St.nilrow (h : St w0 M H w) (e : TypeId) (size : Nat) : St w0 M (row e size none 0 0 [] :: H) w :=
  h.add (Kp.refl _ _) (World.ownsRow_nil w 0 e size) (fun k hk => by cases hk)
/-- a known block, seen as a slice -/
theorem St.rowOf {g m : Nat} {cs : List Value} (h : St w0 M H w) (u : Upd H (Asn.pt g e cs) (row e size (some ⟨g, 0, none⟩) n m (cs.take (n * size))) H') (hn : n ≤ m) (hm : m ≤ maxLen) (hc : cs.length = m * size) : St w0 M H' w :=
  h.turn u (fun hb => Blk.own hb (Nat.zero_le _) hn hm (by simp [hc]) (by simp)) (fun k hk => by
    simp only [Asn.own, Value.ownBlock, Option.some.injEq] at hk
    exact hk.symm)
end

section
variable {P : Program} {ro : Option Nat} {ds : List Deferred} {B : Bk ro ds} {n : Nat} {w0 : World} {M : Nat → Prop} {k : List It} {T : Slots} {H Hr : List Asn} {l σ : List Oper} {d : Tmp} {dd : Option Tmp} {tt : TypeId} {pos : String} {af : Array Edge} {g : Option (Nat × Bool)}
theorem Ef.mono {o : Oper} {E E' : Value → List Asn → Prop} (h : Ef P n w0 M T H o E) (hE : ∀ v H', E v H' → ∀ w, St w0 M H' w → ∃ v' H'', v' = v ∧ E' v' H'' ∧ St w0 M H'' w) : Ef P n w0 M T H o E' :=
  .mkIn fun a w ha hS => wpo_mono (fun a' w' ⟨v, H', hv, he, hS'⟩ => by
    obtain ⟨v', H'', rfl, h1, h2⟩ := hE v H' hv w' hS'
    exact ⟨_, H'', h1, he, h2⟩) (h.run a w ha hS)
theorem Ef.from {o : Oper} {E : Value → List Asn → Prop} {H' : List Asn} (h : Ef P n w0 M T H' o E) (hH : ∀ w, St w0 M H w → St w0 M H' w) : Ef P n w0 M T H o E := .mkIn fun a w ha hS => h.run a w ha (hH w hS)
/-- append -/
theorem E_app [HasTab P] {x y : Operand} {s e : TypeId} {A A2 : Option Addr} {m c m2 c2 : Nat} {xs news : List Value} {i ei : Ti} (hx : oget T x = some (.slice A m c)) (hy : oget T y = some (.slice A2 m2 c2)) (hs : ty P s = some i) (hi : i.desc = .slice e) (he : ty P e = some ei) (hz : ei.zero.cells.size = ei.size) (hz0 : 0 < ei.size)
    [hr : HRow H A m c e ei.size xs Hr] (hsrc : Srd w0 M H ei.size A2 m2 news) (h1 : ∀ u ∈ news, u.oneCell' = true) (hb : (m + m2) * ei.bytes ≤ 140737488355328) (hm : m + m2 ≤ maxLen) :
    Ef P n w0 M T H ⟨dd, .call ⟨.builtin .append, #[x, y], #[s, s]⟩, tt, pos, af, g⟩ (fun v H' => ∃ A' c', v = .slice A' (m + m2) c' ∧ H' = row e ei.size A' (m + m2) c' (xs ++ news) :: Hr) := .mk fun a w ha hS => by
  obtain ⟨j, hj, hj0, hj1, hj2⟩ := ty_info he
  have hS1 := hS.perm hr.perm
  have hown : w.ownsRow 0 e ei.size (.slice A m c) m xs := hS1.at_ (A := row e ei.size A m c xs) (by simp)
  refine wp_append_rd w x y s rfl 0 e j _ ei.size ei.bytes (hi ▸ ty_ok hs) hj hj0 hj1 hj2 hz hz0 _ m xs (ha.eval hx) hown All A2 m2 c2 news (ha.eval hy) (hsrc.rd w hS) h1 hm hb (Nat.zero_le _) fun A' c' w' h2 h3 h4 => ?_
  refine ⟨_, _, ⟨A', c', rfl, rfl⟩, rfl, ?_⟩
  refine St.call (As := [row e ei.size A m c xs]) (Bs := [row e ei.size A' (m + m2) c' (xs ++ news)]) hS1 ⟨h3.mono fun k hk _ => ?_, fun B hB => ?_, List.pairwise_singleton _ _⟩
  · intro he
    exact hk ⟨_, List.mem_singleton_self _, he.symm⟩
  · rcases List.mem_singleton.1 hB with rfl
    refine ⟨h2, fun k hk => ⟨?_, (own_block h2 k hk).2⟩⟩
    rcases h4 with h4 | h4
    · exact .inl ⟨_, List.mem_singleton_self _, h4.symm.trans hk⟩
    · have hk' : (Value.slice A' (m + m2) c').ownBlock = some k := hk
      rw [h4] at hk'
      injection hk' with hk'
      exact .inr (Nat.le_of_eq hk')
/-- append onto a literal without elements -/
theorem E_appl [HasTab P] {x y : Operand} {s e : TypeId} {gb : Nat} {A2 : Option Addr} {m2 c2 : Nat} {news : List Value} {i ei : Ti} (hx : oget T x = some (.slice (some ⟨gb, 0, none⟩) 0 0)) (hy : oget T y = some (.slice A2 m2 c2)) (hs : ty P s = some i) (hi : i.desc = .slice e) (he : ty P e = some ei) (hz : ei.zero.cells.size = ei.size) (hz0 : 0 < ei.size)
    (hr : Rem H (pt gb e []) Hr) (hsrc : Srd w0 M H ei.size A2 m2 news) (h1 : ∀ u ∈ news, u.oneCell' = true) (hb : m2 * ei.bytes ≤ 140737488355328) (hm : m2 ≤ maxLen) :
    Ef P n w0 M T H ⟨dd, .call ⟨.builtin .append, #[x, y], #[s, s]⟩, tt, pos, af, g⟩ (fun v H' => ∃ A' c', v = .slice A' m2 c' ∧ H' = row e ei.size A' m2 c' news :: Hr) := .mkIn fun a w ha hS => by
  have hS' : St w0 M (row e ei.size (some ⟨gb, 0, none⟩) 0 0 [] :: Hr) w := by
    have := St.rowOf (e := e) (size := ei.size) (g := gb) (cs := []) (n := 0) (m := 0) (hS.rem hr) Upd.here (Nat.le_refl _) (by simp) (by simp)
    simpa only [List.take_nil] using this
  have hcong : Srd w0 M (row e ei.size (some ⟨gb, 0, none⟩) 0 0 [] :: Hr) ei.size A2 m2 news := by
    refine ⟨fun w' hw' => ?_⟩
    refine hsrc.rd w' ((hw'.turn (A := row e ei.size (some ⟨gb, 0, none⟩) 0 0 []) (A' := pt gb e []) .here (fun ho => ?_) (fun k hk => ?_)).unrem hr)
    · rcases ho.2 with ⟨h, _⟩ | ⟨g', cap, cur, hv, _, hh, _, _, hsz, _⟩
      · cases h
      · injection hv with e1 e2 e3
        injection e1 with e1
        injection e1 with e1
        subst e1 e3
        have : cur = #[] := Array.eq_empty_of_size_eq_zero (by simpa using hsz)
        subst this
        exact hh
    · have hk : k = gb := hk
      subst hk
      rfl
  have h := E_app (P := P) (n := n) (w0 := w0) (M := M) (dd := dd) (tt := tt) (pos := pos) (af := af) (g := g) hx hy hs hi he hz hz0 hcong h1 (by simpa using hb) (by simpa using hm)
  simp only [Nat.zero_add, List.nil_append] at h
  exact h.run a w ha hS'
theorem Src.rb {A : Option Addr} {m c : Nat} {bs : List UInt8} (hm : rb A m c bs ∈ H) : Src w0 M H A m c bs := ⟨fun w hS => Bs.more (hS.at_ hm) fun _ _ => trivial⟩
/-- string(bytes) -/
theorem T_b2s [HasTab P] {x : Operand} {s t e : TypeId} {A : Option Addr} {m c : Nat} {bs : List UInt8} {i j ei : Ti} (hx : oget T x = some (.slice A m c)) (hs : ty P s = some i) (hi : i.desc = .slice e) (ht : ty P t = some j) (hj : j.desc = .string) (he : ty P e = some ei) (hei : ei.desc = .int .u8) (hsrc : Src w0 M H A m c bs) :
    Tk P n w0 M T H ⟨dd, .convert s t x, tt, pos, af, g⟩ (.string ⟨bs.toArray⟩) := .mk fun a w ha hS => by
  have h := hsrc.bs w hS
  have hrun : (convert s t (.slice A m c)).run P w = .ok (.string ⟨bs.toArray⟩) w := by
    cases A with
    | none =>
      have hn : m = 0 := by
        rcases Nat.eq_zero_or_pos m with h0 | h0
        · exact h0
        · obtain ⟨ad, h, _⟩ := h.rd.2 h0
          cases h
      subst hn
      rw [List.eq_nil_of_length_eq_zero h.len.symm, run_convert_bytes_nil w s e (hi ▸ ty_ok hs) (hei ▸ ty_ok he) 0 c t (hj ▸ ty_ok ht)]
      rfl
    | some ad =>
      have hl : (loadCells ad m).run P w = .ok ((bs.map fun x => (x.toNat : Int)).map (Value.int .u8)).toArray w := by
        have h1 := run_loadCells_list (P := P) w ad (bs.map bv) (fun j v hj => by
          have hp : 0 < m := by
            have := h.len
            have hlt := (List.getElem?_eq_some_iff.1 hj).1
            simp at hlt
            omega
          obtain ⟨ad', e, _, hc⟩ := h.rd.2 hp
          injection e with e
          subst e
          exact hc j v hj)
        rw [List.length_map, ← h.len] at h1
        rw [h1, List.map_map]
        rfl
      rw [run_convert_bytes_string w s t e _ m c (hi ▸ ty_ok hs) (hei ▸ ty_ok he) (hj ▸ ty_ok ht), run_bytesToString w ad m c _ hl, foldl_push_bytes]
      simp [ByteArray.empty, ByteArray.emptyWithCapacity, Function.comp_def]
      rfl
  simp only [execOp, ha.eval hx, Sem.run_bind, hrun, Result.andThen_ok, Sem.run_pure]
/-- a byte is read -/
theorem T_ldb [HasTab P] {x : Operand} {s : TypeId} {A : Option Addr} {j m c : Nat} {bs : List UInt8} {i : Ti} (hx : oget T x = some (.pointer (pa A j))) (hs : ty P s = some i) (hi : aggB i.desc = false) (hr : Src w0 M H A m c bs) (hj : j < m) :
    Tk P n w0 M T H ⟨dd, .load s x, tt, pos, af, g⟩ (.int .u8 ((bs.getD j 0).toNat : Int)) := .mk fun a w ha hS => by
  have h := hr.bs w hS
  obtain ⟨ad, rfl, _, hc⟩ := h.rd.2 (by omega)
  have h1 := hc j (.int .u8 ((bs.getD j 0).toNat : Int)) (by have := h.len; simp [bv, List.getElem?_eq_getElem (show j < bs.length by omega)])
  simp [execOp, ha.eval hx, pa, Instr.loadAt, Instr.sureAddr, loadVar_cell hs hi h1]
/-- a cell is read -/
theorem T_ldr [HasTab P] {x : Operand} {s : TypeId} {A : Option Addr} {j sz m : Nat} {xs : List Value} {v : Value} {i : Ti} (hx : oget T x = some (.pointer (pa A j))) (hs : ty P s = some i) (hi : aggB i.desc = false) (hr : Srd w0 M H sz A m xs) (hm : 0 < m) (hv : xs[j]? = some v) :
    Tk P n w0 M T H ⟨dd, .load s x, tt, pos, af, g⟩ v := .mk fun a w ha hS => by
  obtain ⟨ad, rfl, _, hc⟩ := (hr.rd w hS).2 hm
  simp [execOp, ha.eval hx, pa, Instr.loadAt, Instr.sureAddr, loadVar_cell hs hi (hc j v hv)]
/-- addresses behind s[lo:] -/
def cutP (A : Option Addr) (c lo sz : Nat) : Option Addr := if c = lo then A else pa A (lo * sz)
theorem sliceAt_run [HasTab P] {s e : TypeId} {i ei : Ti} (hs : ty P s = some i) (hi : i.desc = .slice e) (he : ty P e = some ei) {A : Option Addr} {m c lo hi' : Nat} (h1 : lo ≤ hi') (h2 : hi' ≤ c) (lo? hi? mx? : Option Value) (hl : (lo? = none ∧ lo = 0) ∨ ∃ kk, lo? = some (.int kk (lo : Int))) (hh : (hi? = none ∧ hi' = m) ∨ ∃ kk, hi? = some (.int kk (hi' : Int))) (cc : Nat) (hm : (mx? = none ∧ cc = c) ∨ ((∃ kk, mx? = some (.int kk (cc : Int))) ∧ hi?.isSome = true ∧ hi' ≤ cc ∧ cc ≤ c)) (w : World) :
    (Instr.sliceAt s (.slice A m c) lo? hi? mx?).run P w = .ok (.slice (cutP A cc lo ei.size) (hi' - lo) (cc - lo)) w := by
  have hu := run_underlying (hi ▸ ty_ok hs) w
  have hcut : (if cc = lo then A else A.map (·.add (lo * ei.size))) = cutP A cc lo ei.size := rfl
  rcases hm with ⟨rfl, rfl⟩ | ⟨⟨km, rfl⟩, hsome, h3, h4⟩
  · rcases hl with ⟨rfl, rfl⟩ | ⟨kl, rfl⟩ <;> rcases hh with ⟨rfl, rfl⟩ | ⟨kh, rfl⟩ <;>
      simp [Instr.sliceAt, Instr.slice, hu, Instr.sliceBounds, Instr.sliceBound, asIntOf, ty_size he w, h1, h2, cutP, pa]
  · rcases hl with ⟨rfl, rfl⟩ | ⟨kl, rfl⟩ <;> rcases hh with ⟨rfl, rfl⟩ | ⟨kh, rfl⟩ <;> first | (simp at hsome; done) |
      simp [Instr.sliceAt, Instr.slice, hu, Instr.sliceBounds, Instr.sliceBound, asIntOf, ty_size he w, h1, h2, h3, h4, cutP, pa]
theorem cutP_zero (A : Option Addr) (c sz : Nat) : cutP A c 0 sz = A := by
  unfold cutP
  split
  · rfl
  · cases A <;> simp [pa, Addr.add]
/-- s[:hi] -/
theorem T_slh [HasTab P] {x y : Operand} {s e : TypeId} {A : Option Addr} {m c q : Nat} {kk : IntKind} {i ei : Ti} (hx : oget T x = some (.slice A m c)) (hy : oget T y = some (.int kk (q : Int))) (hs : ty P s = some i) (hi : i.desc = .slice e) (he : ty P e = some ei) (hq : q ≤ c) :
    Tk P n w0 M T H ⟨dd, .slice s x none (some y) none, tt, pos, af, g⟩ (.slice A q c) := .mk fun a w ha hS => by
  have := sliceAt_run (P := P) hs hi he (A := A) (m := m) (c := c) (lo := 0) (hi' := q) (Nat.zero_le _) hq none (some (.int kk (q : Int))) none (.inl ⟨rfl, rfl⟩) (.inr ⟨kk, rfl⟩) c (.inl ⟨rfl, rfl⟩) w
  rw [cutP_zero] at this
  simp only [execOp, ha.eval hx, ha.eval hy, Option.map_none, Option.map_some, Sem.run_bind, this, Result.andThen_ok, Sem.run_pure, Nat.sub_zero]
/-- s[lo:] -/
theorem T_sll [HasTab P] {x y : Operand} {s e : TypeId} {A : Option Addr} {m c q : Nat} {kk : IntKind} {i ei : Ti} (hx : oget T x = some (.slice A m c)) (hy : oget T y = some (.int kk (q : Int))) (hs : ty P s = some i) (hi : i.desc = .slice e) (he : ty P e = some ei) (hq : q ≤ m) (hc : m ≤ c) :
    Tk P n w0 M T H ⟨dd, .slice s x (some y) none none, tt, pos, af, g⟩ (.slice (cutP A c q ei.size) (m - q) (c - q)) := .mk fun a w ha hS => by
  have := sliceAt_run (P := P) hs hi he (A := A) (m := m) (c := c) (lo := q) (hi' := m) hq hc (some (.int kk (q : Int))) none none (.inr ⟨kk, rfl⟩) (.inl ⟨rfl, rfl⟩) c (.inl ⟨rfl, rfl⟩) w
  simp only [execOp, ha.eval hx, ha.eval hy, Option.map_none, Option.map_some, Sem.run_bind, this, Result.andThen_ok, Sem.run_pure]
end
theorem Bs.cutP {w : World} {F : Nat → Prop} {A : Option Addr} {n c : Nat} {l : List UInt8} (h : Bs w F A n c l) {k : Nat} (hk : k ≤ n) : Bs w F (cutP A c k 1) (n - k) (c - k) (l.drop k) := by
  have := h.cut hk
  unfold Go.Proofs.YtdeffdldifepkaaGreat.cutP
  rw [Nat.mul_one]
  exact this
theorem Bs.part {w : World} {F : Nat → Prop} {A : Option Addr} {n c : Nat} {l : List UInt8} (h : Bs w F A n c l) {q r : Nat} (hq : q ≤ r) (hr : r ≤ n) : Bs w F (Go.Proofs.YtdeffdldifepkaaGreat.cutP A c q 1) (r - q) (c - q) ((l.drop q).take (r - q)) := (h.cutP (k := q) (by omega)).head (by omega)
end Go.Proofs.YtdeffdldifepkaaGreat
namespace Go.Proofs.YtdeffdldifepkaaGreat
open Go.RowKit
open Asn (pt row rb)
set_option linter.unusedVariables false
set_option linter.unusedSimpArgs false

section
variable {P : Program} {n : Nat} {w0 : World} {M : Nat → Prop} {T : Slots} {H Hr : List Asn} {dd : Option Tmp} {tt : TypeId} {pos : String} {af : Array Edge} {g : Option (Nat × Bool)}
variable {f : FuncId} {xs : Array Operand} {ts : Array TypeId} {vs : List Value}
theorem call_run (hf : Fn_ P f) (hx : ogets T xs.toList = some vs) {a : Act} (ha : Tm n a T) (w : World) : (execOp a.eval ⟨dd, .call ⟨.value (.func f), xs, ts⟩, tt, pos, af, g⟩).run P w = .ok (.enter f vs.toArray) w := by
  have e1 : xs.map a.eval = vs.toArray := by rw [← ha.evals hx, ← Array.toList_map]
  simp [execOp, resolve, Deferred.ofValue, invoke, Act.eval, e1, callFunc_run hf]
/-- a callee, by what it gives -/
theorem E_gv {X : Type} {V : X → Value} {I : X → Prop} {A : X → List Asn} (hf : Fn_ P f) (hx : ogets T xs.toList = some vs) (hc : ∀ w, St w0 M H w → Gives P f vs [] w V I A) :
    Ef P n w0 M T H ⟨dd, .call ⟨.value (.func f), xs, ts⟩, tt, pos, af, g⟩ (fun u H' => ∃ x, u = V x ∧ I x ∧ H' = A x ++ H) := .mk fun a w ha hS => by
  unfold Oper.wp
  rw [call_run hf hx ha w]
  refine (hc w hS).mono fun e w' ⟨x, he, hI, hS'⟩ => ?_
  subst he
  exact ⟨_, _, ⟨x, rfl, hI, rfl⟩, rfl, St.call (As := []) hS hS'⟩
/-- new memory, its cells written out -/
theorem E_box1 {x : Operand} {s : TypeId} {v : Value} (hx : oget T x = some v) (h1 : v.oneCell' = true) : Ef P n w0 M T H ⟨dd, .box s x, tt, pos, af, g⟩ (fun u' H' => ∃ b, u' = .pointer (some ⟨b, 0, none⟩) ∧ H' = pt b s [v] :: H) := by
  have h := E_box (P := P) (n := n) (w0 := w0) (M := M) (H := H) (dd := dd) (s := s) (tt := tt) (pos := pos) (af := af) (g := g) hx
  have hc : vcells v = [v] := by cases v <;> first | rfl | (simp [Value.oneCell'] at h1)
  rwa [hc] at h
theorem E_boxa {x : Operand} {s : TypeId} {cs : List Value} (hx : oget T x = some (.agg cs.toArray)) : Ef P n w0 M T H ⟨dd, .box s x, tt, pos, af, g⟩ (fun u' H' => ∃ b, u' = .pointer (some ⟨b, 0, none⟩) ∧ H' = pt b s cs :: H) :=
  E_box (P := P) (n := n) (w0 := w0) (M := M) (H := H) (dd := dd) (s := s) (tt := tt) (pos := pos) (af := af) (g := g) hx
theorem E_alloc1 [HasTab P] {s : TypeId} {i : Ti} {v : Value} (hs : ty P s = some i) (hz : i.zero = v) (h1 : v.oneCell' = true) : Ef P n w0 M T H ⟨dd, .alloc s, tt, pos, af, g⟩ (fun u' H' => ∃ b, u' = .pointer (some ⟨b, 0, none⟩) ∧ H' = pt b s [v] :: H) := by
  have h := E_alloc (P := P) (n := n) (w0 := w0) (M := M) (T := T) (H := H) (dd := dd) (tt := tt) (pos := pos) (af := af) (g := g) hs
  have hc : vcells i.zero = [v] := by rw [hz]; cases v <;> first | rfl | (simp [Value.oneCell'] at h1)
  rwa [hc] at h
theorem E_alloca [HasTab P] {s : TypeId} {i : Ti} {cs : List Value} (hs : ty P s = some i) (hz : i.zero = .agg cs.toArray) : Ef P n w0 M T H ⟨dd, .alloc s, tt, pos, af, g⟩ (fun u' H' => ∃ b, u' = .pointer (some ⟨b, 0, none⟩) ∧ H' = pt b s cs :: H) := by
  have h := E_alloc (P := P) (n := n) (w0 := w0) (M := M) (T := T) (H := H) (dd := dd) (tt := tt) (pos := pos) (af := af) (g := g) hs
  have hc : vcells i.zero = cs := by rw [hz]; rfl
  rwa [hc] at h
/-- the zero value of a struct or an array -/
theorem T_build0 {s : TypeId} {cs : List Value} (hb : P.built s [] = some cs.toArray) : Tk P n w0 M T H ⟨dd, .build s #[], tt, pos, af, g⟩ (.agg cs.toArray) := .mk fun a w ha hS => by
  have hr := run_build (P := P) w s #[] cs.toArray hb
  simp only [execOp, Array.map_empty, Sem.run_bind, hr, Result.andThen_ok, Sem.run_pure]
end

/-! structs and arrays, held against each other -/
section
variable {P : Program}
end
end Go.Proofs.YtdeffdldifepkaaGreat
namespace Go.Proofs.YtdeffdldifepkaaGreat
open Go.RowKit
open Asn (pt row rb)
set_option linter.unusedVariables false
set_option linter.unusedSimpArgs false

def ikB : IntKind → IntKind → Bool
  | .i8, .i8 => true
  | .i16, .i16 => true
  | .i32, .i32 => true
  | .i64, .i64 => true
  | .u8, .u8 => true
  | .u16, .u16 => true
  | .u32, .u32 => true
  | .u64, .u64 => true
  | _, _ => false
theorem ikB_eq {a b : IntKind} (h : ikB a b = true) : a = b := by cases a <;> cases b <;> first | rfl | cases h
def cmpv : BinOp → Int → Int → Option Value
  | .eql, i, j => some (.bool (decide (i = j)))
  | .neq, i, j => some (.bool (decide (¬ i = j)))
  | .lss, i, j => some (.bool (decide (i < j)))
  | .leq, i, j => some (.bool (decide (i ≤ j)))
  | .gtr, i, j => some (.bool (decide (j < i)))
  | .geq, i, j => some (.bool (decide (j ≤ i)))
  | _, _, _ => none
def scmpv (op : BinOp) (x y : List UInt8) : Option Value :=
  match scmp op x y with
  | some b => some (.bool b)
  | none => none
def binv : BinOp → Option Value → Option Value → Option Value
  | op, some (.int k i), some (.int k' j) => bif ikB k k' then cmpv op i j else none
  | op, some (.string r), some (.string s) => scmpv op (bl r) (bl s)
  | _, _, _ => none
def pickv : Option Value → Option Value → Option Value → Option Value
  | some (.bool true), x, _ => x
  | some (.bool false), _, y => y
  | _, _, _ => none
def extv : Option Value → Nat → Option Value
  | some (.tuple vs), j => nth vs.toList j
  | _, _ => none
def lenv : Option Ti → Option Value → Option Value
  | some ⟨.slice _, _, _, _, _⟩, some (.slice _ m _) => some (.int .i64 (m : Int))
  | some ⟨.string, _, _, _, _⟩, some (.string r) => some (.int .i64 (r.size : Int))
  | _, _ => none
def fav (P : Program) [HasTab P] : Option Ti → Option Value → Nat → Option Value
  | some i, some (.pointer (some ⟨gb, off, none⟩)), j =>
    match nth i.fs j with
    | some (o, ft) =>
      match ty P ft with
      | some fi => bif Nat.beq fi.size 0 then none else some (.pointer (some ⟨gb, off + o, none⟩))
      | none => none
    | none => none
  | _, _, _ => none
def callv (P : Program) [HasTab P] (T : Slots) : Call → Option Value
  | ⟨.builtin .len, ⟨[x]⟩, ⟨[s]⟩⟩ => lenv (ty P s) (oget T x)
  | _ => none
def pev (P : Program) [HasTab P] (T : Slots) : Op → Option Value
  | .move x => oget T x
  | .assign x => oget T x
  | .pick c a b => pickv (oget T c) (oget T a) (oget T b)
  | .binOp op _ x y _ => binv op (oget T x) (oget T y)
  | .extract x j => extv (oget T x) j
  | .fieldAddr s x j => fav P (ty P s) (oget T x) j
  | .call c => callv P T c
  | _ => none
section
variable {P : Program} [HasTab P] {ro : Option Nat} {ds : List Deferred} {B : Bk ro ds} {n : Nat} {w0 : World} {M : Nat → Prop} {k : List It} {T : Slots} {H : List Asn} {dd : Option Tmp} {d : Tmp} {tt : TypeId} {pos : String} {af : Array Edge} {g : Option (Nat × Bool)} {l σ : List Oper}
theorem pev_ok {o : Op} {v : Value} (h : pev P T o = some v) : Tk P n w0 M T H ⟨dd, o, tt, pos, af, g⟩ v := by
  cases o <;> simp only [pev] at h <;> try (cases h; done)
  case move x => exact T_move h
  case assign x => exact T_assign h
  case pick c a b =>
    unfold pickv at h
    split at h
    · exact T_pick1 (by assumption) h
    · exact T_pick0 (by assumption) h
    · cases h
  case binOp op t x y u =>
    cases op <;> unfold binv at h <;> split at h <;> try (cases h; done)
    all_goals first
      | (rename_i hx hy
         unfold scmpv at h
         split at h
         · injection h with h
           subst h
           exact T_scmp (by assumption) (by assumption) (by assumption)
         · cases h
         done)
      | (rename_i k i k' j hx hy
         cases hk : ikB k k' with
         | false => rw [hk] at h; cases h
         | true =>
           rw [hk] at h
           obtain rfl := ikB_eq hk
           simp only [cmpv, cond_true] at h
           first
             | (cases h; done)
             | (injection h with h; subst h; first | exact T_eq (by assumption) (by assumption) | exact T_ne (by assumption) (by assumption) | exact T_lt (by assumption) (by assumption) | exact T_le (by assumption) (by assumption) | exact T_gt (by assumption) (by assumption) | exact T_ge (by assumption) (by assumption)))
  case extract x j =>
    unfold extv at h
    split at h
    · exact T_extract (by assumption) (by rw [nth_eq] at h; simpa using h)
    · cases h
  case fieldAddr s x j =>
    unfold fav at h
    split at h
    · rename_i i gb off hs hx
      split at h
      · rename_i o ft hf
        split at h
        · rename_i fi hft
          cases hz : Nat.beq fi.size 0 with
          | true => rw [hz] at h; cases h
          | false =>
            rw [hz] at h
            injection h with h
            subst h
            exact T_fa hx hs hf hft hz
        · cases h
      · cases h
    · cases h
  case call c =>
    unfold callv at h
    split at h
    · rename_i x s
      unfold lenv at h
      split at h
      · injection h with h
        subst h
        exact T_len_slice (by assumption) (by assumption) rfl
      · injection h with h
        subst h
        exact T_len_string (by assumption) (by assumption) rfl
      · cases h
    · cases h
theorem R_p {op : Op} {v : Value} (hr : pev P T op = some v) (h : RG P B n w0 M l k σ ((d, v) :: T) H)
    (hw : wants l T g = some true) (hd : dok n (some d) = true) : RG P B n w0 M l k (⟨some d, op, tt, pos, af, g⟩ :: σ) T H := R_take (pev_ok hr) h hw hd
end
/-! code, told by where it stands: so that no goal bears it written out -/
def cbody (fn : Func) : Code :=
  match fn.body with
  | some c => c
  | none => .skip
def c1 : Code → Code
  | .seq a _ => a
  | .cond _ a _ => a
  | .block _ b => b
  | .loop b => b
  | .scope b => b
  | .rangeFunc _ _ a _ => a
  | c => c
def c2 : Code → Code
  | .seq _ b => b
  | .cond _ _ b => b
  | .rangeFunc _ _ _ b => b
  | c => c
inductive Kind where
  | seq | cond (c : Operand) | block (id : Nat) | loop | scope | region (d : Bool) | exit (id : Nat) | ret | skip | label | range (g : Operand) (ps : Array Tmp) | other
def kind : Code → Kind
  | .seq _ _ => .seq
  | .cond c _ _ => .cond c
  | .block id _ => .block id
  | .loop _ => .loop
  | .scope _ => .scope
  | .region _ _ d => .region d
  | .exit id => .exit id
  | .ret => .ret
  | .skip => .skip
  | .label _ => .label
  | .rangeFunc g ps _ _ => .range g ps
  | _ => .other
def regL : Code → List Oper
  | .region _ ⟨l⟩ _ => l
  | _ => []
section
variable {P : Program} {ro : Option Nat} {ds : List Deferred} {B : Bk ro ds} {n : Nat} {w0 : World} {M : Nat → Prop} {k : List It} {T : Slots} {H : List Asn} {c : Code}
theorem S_seq (hk : kind c = .seq) (h : RS P B n w0 M (.code (c1 c) :: .code (c2 c) :: k) T H) : RS P B n w0 M (.code c :: k) T H := by
  cases c <;> first | (cases hk; done) | exact RS_seq h
theorem S_block {id : Nat} (hk : kind c = .block id) (h : RS P B n w0 M (.code (c1 c) :: .blk id :: k) T H) : RS P B n w0 M (.code c :: k) T H := by
  cases c <;> first | (cases hk; done) | (injection hk with hk; subst hk; exact RS_block h)
theorem S_skip (hk : kind c = .skip) (h : RS P B n w0 M k T H) : RS P B n w0 M (.code c :: k) T H := by
  cases c <;> first | (cases hk; done) | exact RS_skip h
theorem S_exit {id : Nat} {k' : List It} (hk : kind c = .exit id) (hp : popTo id k = some k') (h : RS P B n w0 M k' T H) : RS P B n w0 M (.code c :: k) T H := by
  cases c <;> first | (cases hk; done) | (injection hk with hk; subst hk; exact RS_exit hp h)
theorem S_true {x : Operand} (hk : kind c = .cond x) (hc : oget T x = some (.bool true)) (h : RS P B n w0 M (.code (c1 c) :: k) T H) : RS P B n w0 M (.code c :: k) T H := by
  cases c <;> first | (cases hk; done) | (injection hk with hk; subst hk; exact RS_true hc h)
theorem S_false {x : Operand} (hk : kind c = .cond x) (hc : oget T x = some (.bool false)) (h : RS P B n w0 M (.code (c2 c) :: k) T H) : RS P B n w0 M (.code c :: k) T H := by
  cases c <;> first | (cases hk; done) | (injection hk with hk; subst hk; exact RS_false hc h)
theorem S_if {x : Operand} {p : Prop} {i : Decidable p} (hk : kind c = .cond x) (hc : oget T x = some (.bool (@decide p i))) (h1 : p → RS P B n w0 M (.code (c1 c) :: k) T H) (h2 : ¬ p → RS P B n w0 M (.code (c2 c) :: k) T H) : RS P B n w0 M (.code c :: k) T H := by
  cases c <;> first | (cases hk; done) | (injection hk with hk; subst hk; exact RS_if hc h1 h2)
theorem S_cond {x : Operand} {b : Bool} (hk : kind c = .cond x) (hc : oget T x = some (.bool b)) (h1 : b = true → RS P B n w0 M (.code (c1 c) :: k) T H) (h2 : b = false → RS P B n w0 M (.code (c2 c) :: k) T H) : RS P B n w0 M (.code c :: k) T H := by
  cases c <;> first | (cases hk; done) | (injection hk with hk; subst hk; exact RS_cond hc h1 h2)
theorem S_region {l : List Oper} (hk : kind c = .region false) (hl : regL c = l) (h : RG P B n w0 M (regL c) k l T H) : RS P B n w0 M (.code c :: k) T H := by
  subst hl
  cases c <;> first | (cases hk; done) | (rename_i id ops d; injection hk with hk; subst hk; cases ops; exact RS_region h)
theorem S_draw {B : Bk none ds} (C : List Asn) {m : Nat} (hC : ∀ w, St w0 M H w → St w0 M C w) (hm : P.follows .mixedOrders = true) (hk : kind c = .region true) (hsel : Region.noSelect (regL c).toArray = true) (hn : (regL c).length = m) (h : RD P B n w0 M (regL c) k (Array.replicate m false) C T H) : RS P B n w0 M (.code c :: k) T H := by
  subst hn
  cases c <;> first | (cases hk; done) | (rename_i id ops d; injection hk with hk; subst hk; cases ops; exact RS_draw C hC hm hsel (.inl rfl) h)
/-- the same in a round -/
theorem S_drawR (C : List Asn) {m : Nat} (hC : ∀ w, St w0 M H w → St w0 M C w) (hm : P.follows .mixedOrders = true) (hk : kind c = .region true) (hsel : Region.noSelect (regL c).toArray = true) (hdf : noDefer (regL c) = true) (hn : (regL c).length = m) (h : RD P B n w0 M (regL c) k (Array.replicate m false) C T H) : RS P B n w0 M (.code c :: k) T H := by
  subst hn
  cases c <;> first | (cases hk; done) | (rename_i id ops d; injection hk with hk; subst hk; cases ops; exact RS_draw C hC hm hsel (.inr hdf) h)
theorem S_ret {rs : List ResultVar} {R : Ending → World → Prop} {vs : List Value} (hB : Ends P B n w0 M rs R) (hk : kind c = .ret) (hr : rets rs T = some vs) (h : ∀ w, St w0 M H w → R (.returned (retv vs)) w) : RS P B n w0 M (.code c :: k) T H := by
  cases c <;> first | (cases hk; done) | exact RS_ret hB hr h
/-- where ways meet -/
theorem S_cut {X : Type} (T' : X → Slots) (H' : X → List Asn) (I : X → Prop)
    (h1 : ∀ J, (∀ y T1 H1, I y → Sub (T' y) T1 → (∀ w, St w0 M H1 w → St w0 M (H' y) w) → RS P B n w0 M (.back J :: k) T1 H1) → RS P B n w0 M (.code c :: .back J :: k) T H)
    (h2 : ∀ y, I y → RS P B n w0 M k (T' y) (H' y)) : RS P B n w0 M (.code c :: k) T H := RS_cut T' H' I h1 h2
theorem S_loop {X : Type} (T' : X → Slots) (H' : X → List Asn) (I : X → Prop) (μ : X → Nat) (hk : kind c = .loop)
    (x0 : X) (h0 : I x0) (hT : Sub (T' x0) T) (hH : ∀ w, St w0 M H w → St w0 M (H' x0) w)
    (round : ∀ x, I x → ∀ J, (∀ y T1 H1, I y → Sub (T' y) T1 → (∀ w, St w0 M H1 w → St w0 M (H' y) w) → μ y < μ x → RS P B n w0 M (.back J :: k) T1 H1) → RS P B n w0 M (.code (c1 c) :: .back J :: k) (T' x) (H' x)) :
    RS P B n w0 M (.code c :: k) T H := by
  cases c <;> first | (cases hk; done) | exact RS_loop T' H' I μ x0 h0 hT hH round
end
/-- a function that reads and makes, opened: hB is its end -/
theorem gives_S {P : Program} {f : FuncId} {fn : Func} {vs : List Value} {rs : List ResultVar} {w : World} {n : Nat} {As : List Asn} {X : Type} {V : X → Value} {I : X → Prop} {A : X → List Asn} (hf : P.funcs[f]? = some fn) (hb : fn.body.isSome = true) (hn : fn.ntmps = n) (hr : fn.results = rs.toArray)
    (hv : vs.length ≤ n) (hS : St w (owns As) As w) (h : ∀ B : Bk none [], (∀ (c : Code) (k : List It) (T : Slots) (H : List Asn) (us : List Value), kind c = .ret → rets rs T = some us → (∀ w', St w (owns As) H w' → ∃ x, retv us = V x ∧ I x ∧ St w (owns As) (A x) w') → RS P B n w (owns As) (.code c :: k) T H) → RS P B n w (owns As) [.code (cbody fn)] (targs 0 vs) As) :
    Gives P f vs As w V I A := by
  obtain ⟨c, hc⟩ := Option.isSome_iff_exists.1 hb
  refine calls_RS hf hc hn hr hv hS fun B hB => ?_
  have h2 := h B fun c k T H us hk hus hw' => S_ret hB hk hus fun w' hS' => by
    obtain ⟨x, hx, hI, hA⟩ := hw' w' hS'
    exact ⟨x, by rw [hx], hI, hA⟩
  have e : cbody fn = c := by unfold cbody; rw [hc]
  rwa [e] at h2
end Go.Proofs.YtdeffdldifepkaaGreat
namespace Go.Proofs.YtdeffdldifepkaaGreat
open Go.RowKit
open Asn (pt row rb)
set_option linter.unusedVariables false
set_option linter.unusedSimpArgs false

/-- one part is taken out -/
class RemC (H : List Asn) (A : Asn) (H' : outParam (List Asn)) : Prop where
  perm : H.Perm (A :: H')
instance (priority := high) RemC.here {A : Asn} {H : List Asn} : RemC (A :: H) A H := ⟨List.Perm.refl _⟩
instance RemC.there {A B : Asn} {H H' : List Asn} [h : RemC H A H'] : RemC (B :: H) A (B :: H') := ⟨(List.Perm.cons _ h.perm).trans (List.Perm.swap _ _ _)⟩
/-- all of H' is in H -/
class SubC (H' H : List Asn) : Prop where
  is : ∃ R, H.Perm (H' ++ R)
instance SubC.nil {H : List Asn} : SubC [] H := ⟨⟨H, List.Perm.refl _⟩⟩
instance SubC.cons {A : Asn} {H H' R : List Asn} [h : RemC H A R] [s : SubC H' R] : SubC (A :: H') H := by
  obtain ⟨Q, hQ⟩ := s.is
  exact ⟨⟨Q, h.perm.trans (List.Perm.cons _ hQ)⟩⟩
theorem sub_st {w0 : World} {M : Nat → Prop} {H H' : List Asn} [h : SubC H' H] : ∀ w, St w0 M H w → St w0 M H' w := fun w hS => by
  obtain ⟨R, hR⟩ := h.is
  exact (hS.perm hR).sublist (List.sublist_append_left _ _)

section
variable {P : Program} {n : Nat} {w0 : World} {M : Nat → Prop} {T : Slots} {H Hr : List Asn} {dd : Option Tmp} {tt : TypeId} {pos : String} {af : Array Edge} {g : Option (Nat × Bool)}
/-- values laid one behind the other -/
theorem fill_ones : ∀ (vs : List Value) (k : Nat) (pre : List Value) (zs : List Value), pre.length = k → zs.length = vs.length → (∀ v ∈ vs, v.oneCell' = true) →
    Instr.fill (fun i => some (i * 1, 1)) (pre ++ zs).toArray ((List.range' k vs.length).zip vs) = some (pre ++ vs).toArray
  | [], k, pre, zs, _, hz, _ => by
    have : zs = [] := List.eq_nil_of_length_eq_zero hz
    subst this
    simp [Instr.fill]
  | v :: vs, k, pre, z :: zs, hp, hz, h1 => by
    have hv : v.cells = #[v] := by
      have := h1 v (by simp)
      cases v <;> first | rfl | (simp [Value.oneCell'] at this)
    have ih := fill_ones vs (k + 1) (pre ++ [v]) zs (by simp [hp]) (by simpa using hz) (fun u hu => h1 u (by simp [hu]))
    rw [List.length_cons, List.range'_succ, List.zip_cons_cons, Instr.fill]
    simp only [hv, Nat.mul_one]
    have e : (#[v].zipIdx.foldl (fun cs x => cs.setIfInBounds (k + x.2) x.1) (pre ++ z :: zs).toArray) = ((pre ++ [v]) ++ zs).toArray := by
      apply Array.ext'
      simp [Array.zipIdx, hp ▸ List.set_append_right]
    have hsz : ¬ (#[v].size ≠ 1 ∨ k + #[v].size > (pre ++ z :: zs).toArray.size) := by simp; omega
    simp only [ne_eq] at hsz
    simp only [Nat.mul_one] at ih
    simp only [List.append_assoc, List.singleton_append] at ih
    have h3 : ((#[v].size ≠ 1) || decide (k + #[v].size > (pre ++ z :: zs).toArray.size)) = false := by simp; omega
    simp only [h3, Bool.false_eq_true, if_false]
    rw [e]
    simpa using ih
/-- a literal of values of one cell -/
theorem E_lit1 [HasTab P] {s e : TypeId} {m : Nat} {parts : Array (Nat × Operand)} {vs : List Value} {i ei : Ti} (hv : ogets T (parts.toList.map (·.2)) = some vs) (hp : parts.toList.map (·.1) = List.range m) (hs : ty P s = some i) (hi : i.desc = .slice e) (he : ty P e = some ei) (h1 : ei.size = 1) (hz : ei.zero.cells = #[ei.zero]) (ho : ∀ v ∈ vs, v.oneCell' = true) (hm : m ≤ 1000) :
    Ef P n w0 M T H ⟨dd, .buildSlice s m parts, tt, pos, af, g⟩ (fun u H' => ∃ b, u = .slice (some ⟨b, 0, none⟩) m m ∧ H' = pt b e vs :: H) := .mk fun a w ha hS => by
  have hu := run_underlying (hi ▸ ty_ok hs) w
  have hev := ha.evals hv
  have hl : vs.length = m := by rw [← hev]; have := congrArg List.length hp; simpa using this
  have hparts : (parts.map fun x => (x.1, a.eval x.2)).toList = (List.range' 0 vs.length).zip vs := by
    rw [hl, ← List.range_eq_range', ← hp, ← hev]
    simp [List.zip_map']
  have hfill := fill_ones vs 0 [] (List.replicate m ei.zero) rfl (by simp [hl]) ho
  simp only [List.nil_append, Nat.mul_one] at hfill
  have hz0 : (Array.range m).map (fun i => ei.zero.cells[i % ei.zero.cells.size]!) = (List.replicate m ei.zero).toArray := by
    rw [hz]
    apply Array.ext'
    simp [List.map_const', Nat.mod_one]
  have hrun : (Instr.buildSlice s m (parts.map fun x => (x.1, a.eval x.2))).run P w = .ok (.slice (some ⟨w.heap.size, 0, none⟩) m m) (w.alloc (.cells vs.toArray e)) := by
    have hle : ¬ m > 2 ^ 24 := by omega
    by_cases hm0 : m = 0
    · subst hm0
      have : vs = [] := List.eq_nil_of_length_eq_zero hl
      subst this
      simp only [Instr.buildSlice, Sem.run_bind, hu, Result.andThen_ok, ty_size he w, h1, Nat.mul_one, Sem.run_ite]
      have hpe : parts.toList = [] := by simpa using hp
      simp [hpe, Instr.fill, newRow, show Array.range 0 = #[] from rfl]
    · simp only [Instr.buildSlice, Sem.run_bind, hu, Result.andThen_ok, ty_size he w, h1, Nat.mul_one, Sem.run_ite, if_neg hle, if_neg hm0, ty_zero he w, Sem.run_pure, hz0, hparts, hfill]
      simp [newRow]
  unfold Oper.wp
  simp only [execOp, Sem.run_bind, hrun, Result.andThen_ok, Sem.run_pure]
  refine ⟨_, _, ⟨w.heap.size, rfl, rfl⟩, rfl, hS.add (Kp.alloc w _) (Blk.new w e _) (fun k hk => ?_)⟩
  have hk : k = w.heap.size := hk
  subst hk
  simp
end
end Go.Proofs.YtdeffdldifepkaaGreat
namespace Go.Proofs.YtdeffdldifepkaaGreat
open Go.RowKit
open Asn (pt row rb)
set_option linter.unusedVariables false
set_option linter.unusedSimpArgs false

/-- what is handed back: slots and variables -/
structure Rets (P : Program) (n : Nat) (w0 : World) (M : Nat → Prop) (rs : List ResultVar) (T : Slots) (H : List Asn) (vs : List Value) : Prop where
  run : ∀ a w, Tm n a T → St w0 M H w → (rs.mapM (fun | ResultVar.tmp t => (pure (a.tmps.getD t undef) : Sem Value) | ResultVar.cell a' t => do loadVar t (← asAddr (a.tmps.getD a' undef)))).run P w = Result.ok vs w
section
variable {P : Program} {n : Nat} {w0 : World} {M : Nat → Prop} {T : Slots} {H Hr : List Asn} {dd : Option Tmp} {tt : TypeId} {pos : String} {af : Array Edge} {g : Option (Nat × Bool)}
theorem Rets.nil : Rets P n w0 M [] T H [] := ⟨fun a w _ _ => by simp⟩
theorem Rets.tmp {t : Nat} {v : Value} {rs : List ResultVar} {vs : List Value} (hv : tget T t = some v) (h : Rets P n w0 M rs T H vs) : Rets P n w0 M (.tmp t :: rs) T H (v :: vs) := ⟨fun a w ha hS => by
  have h1 := h.run a w ha hS
  have h2 : a.tmps.getD t undef = v := by have := ha.at_ t v hv; simp [this]
  simp only [List.mapM_cons, Sem.run_bind, Sem.run_pure, Result.andThen_ok, h1, h2]⟩
theorem Rets.cell [HasTab P] {t gb e : Nat} {s : TypeId} {i : Ti} {cs : List Value} {rs : List ResultVar} {vs : List Value} (hv : tget T t = some (.pointer (some ⟨gb, 0, none⟩))) (hs : ty P s = some i) (hi : aggB i.desc = true) (hm : Hat H gb e cs) (hl : cs.length = i.size) (h : Rets P n w0 M rs T H vs) :
    Rets P n w0 M (.cell t s :: rs) T H (.agg cs.toArray :: vs) := ⟨fun a w ha hS => by
  have h1 := h.run a w ha hS
  have h2 : a.tmps.getD t undef = .pointer (some ⟨gb, 0, none⟩) := by have := ha.at_ t _ hv; simp [this]
  have h3 := loadVar_cells (P := P) (a := ⟨gb, 0, none⟩) hs hi hl (w := w) (fun j v hj => by rw [add_plain, Nat.zero_add]; exact hS.cell hm.mem hj)
  simp only [List.mapM_cons, Sem.run_bind, Sem.run_pure, Result.andThen_ok, h1, (show (asAddr (a.tmps.getD t undef)).run P w = .ok ⟨gb, 0, none⟩ w by rw [h2]; rfl), h3]⟩
theorem Rets.cell1 [HasTab P] {t gb e : Nat} {s : TypeId} {i : Ti} {v : Value} {rs : List ResultVar} {vs : List Value} (hv : tget T t = some (.pointer (some ⟨gb, 0, none⟩))) (hs : ty P s = some i) (hi : aggB i.desc = false) (hm : Hat H gb e [v]) (h : Rets P n w0 M rs T H vs) :
    Rets P n w0 M (.cell t s :: rs) T H (v :: vs) := ⟨fun a w ha hS => by
  have h1 := h.run a w ha hS
  have h2 : a.tmps.getD t undef = .pointer (some ⟨gb, 0, none⟩) := by have := ha.at_ t _ hv; simp [this]
  have h3 := loadVar_cell (P := P) (a := ⟨gb, 0, none⟩) hs hi (v := v) (w := w) (hS.cell hm.mem rfl)
  simp only [List.mapM_cons, Sem.run_bind, Sem.run_pure, Result.andThen_ok, h1, (show (asAddr (a.tmps.getD t undef)).run P w = .ok ⟨gb, 0, none⟩ w by rw [h2]; rfl), h3]⟩
theorem Rets.ret {ro : Option Nat} {ds : List Deferred} {B : Bk ro ds} {k : List It} {c : Code} {rs : List ResultVar} {R : Ending → World → Prop} {vs : List Value} (hk : kind c = .ret) (hB : Ends P B n w0 M rs R) (hr : Rets P n w0 M rs T H vs) (h : ∀ w, St w0 M H w → R (.returned (retv vs)) w) : RS P B n w0 M (.code c :: k) T H := by
  have e : c = .ret := by cases c <;> first | rfl | (cases hk; done)
  subst e
  refine ⟨fun a w had ha hs => wpIn_ret (QS_ret (fun _ _ => .inr trivial) (hB a w _ had (fun fn hf => ?_) (h w hs)).1)⟩
  have h1 := hr.run a w ha hs
  simp only [results, hf, List.mapM_toArray, Sem.run_bind, Sem.run_map]
  erw [h1]
  rcases vs with _ | ⟨v, _ | ⟨u, us⟩⟩ <;> simp [retv]
/-- a function that reads and makes, opened, where a result lies in a variable -/
theorem gives_C {f : FuncId} {fn : Func} {vs : List Value} {rs : List ResultVar} {w : World} {As : List Asn} {X : Type} {V : X → Value} {I : X → Prop} {A : X → List Asn} (hf : P.funcs[f]? = some fn) (hb : fn.body.isSome = true) (hn : fn.ntmps = n) (hr : fn.results = rs.toArray)
    (hv : vs.length ≤ n) (hS : St w (owns As) As w) (h : ∀ B : Bk none [], (∀ (c : Code) (k : List It) (T : Slots) (H : List Asn) (us : List Value), kind c = .ret → Rets P n w (owns As) rs T H us → (∀ w', St w (owns As) H w' → ∃ x, retv us = V x ∧ I x ∧ St w (owns As) (A x) w') → RS P B n w (owns As) (.code c :: k) T H) → RS P B n w (owns As) [.code (cbody fn)] (targs 0 vs) As) :
    Gives P f vs As w V I A := by
  obtain ⟨c, hc⟩ := Option.isSome_iff_exists.1 hb
  refine calls_RS hf hc hn hr hv hS fun B hB => ?_
  have h2 := h B fun c k T H us hk hus hw' => Rets.ret hk hB hus fun w' hS' => by
    obtain ⟨x, hx, hI, hA⟩ := hw' w' hS'
    exact ⟨x, by rw [hx], hI, hA⟩
  have e : cbody fn = c := by unfold cbody; rw [hc]
  rwa [e] at h2

/-- two operations that do the same -/
theorem Ef.same {op op' : Op} {E : Value → List Asn → Prop} (h : Ef P n w0 M T H ⟨dd, op', tt, pos, af, g⟩ E) (he : ∀ a w, Tm n a T → (execOp a.eval ⟨dd, op, tt, pos, af, g⟩).run P w = (execOp a.eval ⟨dd, op', tt, pos, af, g⟩).run P w) : Ef P n w0 M T H ⟨dd, op, tt, pos, af, g⟩ E := .mkIn fun a w ha hS => by
  have h1 := h.run a w ha hS
  unfold wpo at h1 ⊢
  rw [he a w ha]
  exact h1
/-- a whole variable is overwritten -/
theorem E_storew [HasTab P] {x y : Operand} {s : TypeId} {gb t : Nat} {cs ds : List Value} {i : Ti} {K : List Value → List Asn} (hx : oget T x = some (.pointer (some ⟨gb, 0, none⟩))) (hy : oget T y = some (.agg ds.toArray)) (hs : ty P s = some i) (hl : ds.length = i.size) (h1 : ∀ u ∈ ds, u.oneCell' = true) [hu : HUp H gb t cs K] (hlen : cs.length = ds.length) :
    Ef P n w0 M T H ⟨none, .store s x y, tt, pos, af, g⟩ (fun _ H'' => H'' = K ds) :=
  E_store hx hy hs (by simp [vcells]) hl h1 (by rw [Nat.zero_add, ← hlen]; simp) (by omega)
/-- what is known of some parts alone -/
theorem St.again {As : List Asn} {w : World} (h : St w0 M (As ++ Hr) w) : St w (owns As) As w :=
  ⟨Kp.refl _ _, fun A hA => ⟨(h.all A (List.mem_append_left _ hA)).1, fun k hk => ⟨.inl ⟨A, hA, hk⟩, ((h.all A (List.mem_append_left _ hA)).2 k hk).2⟩⟩, (List.pairwise_append.1 h.apart).1⟩
end
end Go.Proofs.YtdeffdldifepkaaGreat
namespace Go.Proofs.YtdeffdldifepkaaGreat
open Go.RowKit
open Asn (pt row rb)
set_option linter.unusedVariables false
set_option linter.unusedSimpArgs false

/-- z is the natural number n -/
class NatOf (z : Int) (n : outParam Nat) : Prop where
  is : z = (n : Int)
instance NatOf.cast (n : Nat) : NatOf (n : Int) n := ⟨rfl⟩
instance NatOf.ofNat' (n : Nat) : NatOf (Int.ofNat n) n := ⟨rfl⟩
instance NatOf.lit (n : Nat) : NatOf (no_index (OfNat.ofNat n : Int)) (OfNat.ofNat n) := ⟨rfl⟩
section
variable {P : Program} {ro : Option Nat} {ds : List Deferred} {B : Bk ro ds} {n : Nat} {w0 : World} {M : Nat → Prop} {k : List It} {T : Slots} {H Hr : List Asn} {l σ : List Oper} {d : Tmp} {dd : Option Tmp} {tt : TypeId} {pos : String} {af : Array Edge} {g : Option (Nat × Bool)}
theorem T_addN {x y : Operand} {t u : TypeId} {kk : IntKind} {i j : Int} {p q : Nat} (hx : oget T x = some (.int kk i)) (hy : oget T y = some (.int kk j)) [hi : NatOf i p] [hj : NatOf j q] (hf : fits kk ((p + q : Nat) : Int)) :
    Tk P n w0 M T H ⟨dd, .binOp .add t x y u, tt, pos, af, g⟩ (.int kk ((p + q : Nat) : Int)) := by
  rw [Int.natCast_add] at hf ⊢
  rw [hi.is] at hx
  rw [hj.is] at hy
  exact T_sum (op := .add) hx hy rfl hf
theorem T_subN {x y : Operand} {t u : TypeId} {kk : IntKind} {i j : Int} {p q : Nat} (hx : oget T x = some (.int kk i)) (hy : oget T y = some (.int kk j)) [hi : NatOf i p] [hj : NatOf j q] (hq : q ≤ p) (hf : fits kk ((p - q : Nat) : Int)) :
    Tk P n w0 M T H ⟨dd, .binOp .sub t x y u, tt, pos, af, g⟩ (.int kk ((p - q : Nat) : Int)) := by
  rw [Int.natCast_sub hq] at hf ⊢
  rw [hi.is] at hx
  rw [hj.is] at hy
  exact T_sum (op := .sub) hx hy rfl hf
theorem T_mulN {x y : Operand} {t u : TypeId} {kk : IntKind} {i j : Int} {p q : Nat} (hx : oget T x = some (.int kk i)) (hy : oget T y = some (.int kk j)) [hi : NatOf i p] [hj : NatOf j q] (hf : fits kk ((p * q : Nat) : Int)) :
    Tk P n w0 M T H ⟨dd, .binOp .mul t x y u, tt, pos, af, g⟩ (.int kk ((p * q : Nat) : Int)) := by
  rw [Int.natCast_mul] at hf ⊢
  rw [hi.is] at hx
  rw [hj.is] at hy
  exact T_sum (op := .mul) hx hy rfl hf
/-- an index that is a natural number -/
theorem T_ixN [HasTab P] {x y : Operand} {s e : TypeId} {A : Option Addr} {m c q : Nat} {z : Int} {kk : IntKind} {i ei : Ti} (hx : oget T x = some (.slice A m c)) (hy : oget T y = some (.int kk z)) [hz : NatOf z q] (hs : ty P s = some i) (hi : i.desc = .slice e) (he : ty P e = some ei) (h1 : ei.size = 1) (hA : A ≠ none) (hq : q < m) :
    Tk P n w0 M T H ⟨dd, .indexAddr s x y, tt, pos, af, g⟩ (.pointer (pa A q)) := by
  rw [hz.is] at hy
  exact T_ix1 hx hy hs hi he h1 hA hq
/-- an element of an array that is a value -/
theorem part_plain {d : TypeDesc} {e : TypeId} (he : P.underlying e = some d) (ha : aggB d = false) {xs : Array Value} {off : Nat} {v : Value} (hx : xs[off]? = some v) (w : World) : (part e xs off).run P w = .ok v w := by
  cases d <;> first | (cases ha; done) | simp [part, isAgg, run_underlying he, hx]
/-- a cell that was there is read, by its plain address -/
theorem T_loadg [HasTab P] {x : Operand} {s : TypeId} {gb off m : Nat} {F : Nat → Prop} {xs : List Value} {v : Value} {i : Ti} (hx : oget T x = some (.pointer (some ⟨gb, off, none⟩))) (hs : ty P s = some i) (hi : aggB i.desc = false) (hr : Rd w0 F 1 (some ⟨gb, 0, none⟩) m xs) (hF : ∀ k, F k → ¬ M k) (hv : xs[off]? = some v) :
    Tk P n w0 M T H ⟨dd, .load s x, tt, pos, af, g⟩ v := by
  have e : (some ⟨gb, off, none⟩ : Option Addr) = pa (some ⟨gb, 0, none⟩) off := by simp [pa, add_plain]
  rw [e] at hx
  exact T_loado hx hs hi hr hv hF

/-- append, elements of one cell -/
theorem E_app1 [HasTab P] {x y : Operand} {s e : TypeId} {A A2 : Option Addr} {m c m2 c2 : Nat} {xs news : List Value} {i ei : Ti} (hx : oget T x = some (.slice A m c)) (hy : oget T y = some (.slice A2 m2 c2)) (hs : ty P s = some i) (hi : i.desc = .slice e) (he : ty P e = some ei) (hz1 : ei.size = 1) (hz : ei.zero.cells.size = 1)
    [hr : HRow H A m c e 1 xs Hr] (hsrc : Srd w0 M H 1 A2 m2 news) (h1 : ∀ u ∈ news, u.oneCell' = true) (hb : (m + m2) * ei.bytes ≤ 140737488355328) (hm : m + m2 ≤ maxLen) :
    Ef P n w0 M T H ⟨dd, .call ⟨.builtin .append, #[x, y], #[s, s]⟩, tt, pos, af, g⟩ (fun v H' => ∃ A' c', v = .slice A' (m + m2) c' ∧ H' = row e 1 A' (m + m2) c' (xs ++ news) :: Hr) := by
  have hr' : HRow H A m c e ei.size xs Hr := by rw [hz1]; exact hr
  have h := E_app (P := P) (n := n) (w0 := w0) (M := M) (dd := dd) (tt := tt) (pos := pos) (af := af) (g := g) hx hy hs hi he (by rw [hz, hz1]) (by omega) (hr := hr') (by rw [hz1]; exact hsrc) h1 hb hm
  rwa [hz1] at h
/-! words of 32 bits -/
/-! arrays of numbers, held against each other -/
/-! a string, gone through -/
end
section
variable {P : Program} {ro : Option Nat} {ds : List Deferred} {B : Bk ro ds} {n : Nat} {w0 : World} {M : Nat → Prop} {k : List It} {T : Slots} {H Hr : List Asn}
/-- what memory tells by itself -/
theorem RS_fact {p : Prop} (h : ∀ w, St w0 M H w → p) (hp : p → RS P B n w0 M k T H) : RS P B n w0 M k T H := ⟨fun a w had ha hS => (hp (h w hS)).runD a w had ha hS⟩
theorem row_facts {w : World} {e : TypeId} {size m c : Nat} {A : Option Addr} {xs : List Value} (h : (row e size A m c xs).holds w) : m ≤ c ∧ c ≤ maxLen ∧ (0 < m → A ≠ none) ∧ xs.length = m * size := by
  obtain ⟨A', c', hv, h1, h2⟩ := own_form h
  injection hv with e1 e2 e3
  subst e3
  refine ⟨h1, h2, fun hm => ?_, h.1⟩
  rcases h.2 with ⟨_, h0⟩ | ⟨g, cap, cur, hv, _⟩
  · omega
  · injection hv with e1
    rw [e1]
    simp
theorem RS_row {e : TypeId} {size : Nat} (A : Option Addr) (m c : Nat) {xs : List Value} [hr : HRow H A m c e size xs Hr] (hp : m ≤ c → c ≤ maxLen → (0 < m → A ≠ none) → xs.length = m * size → RS P B n w0 M k T H) : RS P B n w0 M k T H :=
  RS_fact (p := m ≤ c ∧ c ≤ maxLen ∧ (0 < m → A ≠ none) ∧ xs.length = m * size) (fun w hS => row_facts (hS.at_ hr.mem)) fun ⟨h1, h2, h3, h4⟩ => hp h1 h2 h3 h4
end
end Go.Proofs.YtdeffdldifepkaaGreat
namespace Go.Proofs.YtdeffdldifepkaaGreat
open Go.RowKit
open Asn (pt row rb)
set_option linter.unusedVariables false
set_option linter.unusedSimpArgs false
section
variable {P : Program} {n : Nat} {w0 : World} {M : Nat → Prop} {T : Slots} {H Hr : List Asn} {dd : Option Tmp} {tt : TypeId} {pos : String} {af : Array Edge} {g : Option (Nat × Bool)} {x y z : Operand} {ts : Array TypeId}
/-- a test whose answer is known -/
theorem T_decT [HasTab P] {o : Op} {p : Prop} {i : Decidable p} (h : pev P T o = some (.bool (@decide p i))) (hp : p) : Tk P n w0 M T H ⟨dd, o, tt, pos, af, g⟩ (.bool true) := by
  have h1 := pev_ok (n := n) (w0 := w0) (M := M) (H := H) (dd := dd) (tt := tt) (pos := pos) (af := af) (g := g) h
  rwa [decide_eq_true hp] at h1
theorem T_decF [HasTab P] {o : Op} {p : Prop} {i : Decidable p} (h : pev P T o = some (.bool (@decide p i))) (hp : ¬ p) : Tk P n w0 M T H ⟨dd, o, tt, pos, af, g⟩ (.bool false) := by
  have h1 := pev_ok (n := n) (w0 := w0) (M := M) (H := H) (dd := dd) (tt := tt) (pos := pos) (af := af) (g := g) h
  rwa [decide_eq_false hp] at h1
theorem Src.head {A : Option Addr} {m c : Nat} {l : List UInt8} (h : Src w0 M H A m c l) {k : Nat} (hk : k ≤ m) : Src w0 M H A k c (l.take k) := ⟨fun w hS => (h.bs w hS).head hk⟩
theorem Src.cutP {A : Option Addr} {m c : Nat} {l : List UInt8} (h : Src w0 M H A m c l) {k : Nat} (hk : k ≤ m) : Src w0 M H (cutP A c k 1) (m - k) (c - k) (l.drop k) := ⟨fun w hS => (h.bs w hS).cutP hk⟩
end
end Go.Proofs.YtdeffdldifepkaaGreat
namespace Go.Proofs.YtdeffdldifepkaaGreat
open Go.RowKit
open Asn (pt row rb)
set_option linter.unusedVariables false
section
variable {P : Program} {ro : Option Nat} {ds : List Deferred} {B : Bk ro ds} {n : Nat} {w0 : World} {M : Nat → Prop} {k : List It} {T : Slots} {H C : List Asn} {d : Tmp} {dd : Option Tmp} {tt : TypeId} {pos : String} {af : Array Edge} {g : Option (Nat × Bool)} {l σ : List Oper} {op : Op} {v : Value} {c : Code} {x : Operand} {L : Array Bool}
theorem qp [HasTab P] (h : RG P B n w0 M l k σ ((d, v) :: T) H) (hr : pev P T op = some v := by exact rfl) (hw : wants l T g = some true := by exact rfl) (hd : dok n (some d) = true := by exact rfl) : RG P B n w0 M l k (⟨some d, op, tt, pos, af, g⟩ :: σ) T H := R_p hr h hw hd
theorem qk (h : RG P B n w0 M l k σ ((d, undef) :: T) H) (hw : wants l T g = some false := by exact rfl) (hd : dok n (some d) = true := by exact rfl) : RG P B n w0 M l k (⟨some d, op, tt, pos, af, g⟩ :: σ) T H := R_skip h hw hd
theorem qd [HasTab P] (h : RG P B n w0 M l k σ ((d, .bool true) :: T) H) (ht : Tk P n w0 M T H ⟨some d, op, tt, pos, af, g⟩ (.bool true) := by exact T_decT rfl (by omega)) (hw : wants l T g = some true := by exact rfl) (hd : dok n (some d) = true := by exact rfl) : RG P B n w0 M l k (⟨some d, op, tt, pos, af, g⟩ :: σ) T H := R_take ht h hw hd
theorem qf [HasTab P] (h : RG P B n w0 M l k σ ((d, .bool false) :: T) H) (ht : Tk P n w0 M T H ⟨some d, op, tt, pos, af, g⟩ (.bool false) := by exact T_decF rfl (by omega)) (hw : wants l T g = some true := by exact rfl) (hd : dok n (some d) = true := by exact rfl) : RG P B n w0 M l k (⟨some d, op, tt, pos, af, g⟩ :: σ) T H := R_take ht h hw hd
theorem qt (hr : Tk P n w0 M T H ⟨some d, op, tt, pos, af, g⟩ v) (h : RG P B n w0 M l k σ ((d, v) :: T) H) (hw : wants l T g = some true := by exact rfl) (hd : dok n (some d) = true := by exact rfl) : RG P B n w0 M l k (⟨some d, op, tt, pos, af, g⟩ :: σ) T H := R_take hr h hw hd
theorem qe {E : Value → List Asn → Prop} (hr : Ef P n w0 M T H ⟨some d, op, tt, pos, af, g⟩ E) (h : ∀ v H', E v H' → RG P B n w0 M l k σ ((d, v) :: T) H') (hw : wants l T g = some true := by exact rfl) (hd : dok n (some d) = true := by exact rfl) : RG P B n w0 M l k (⟨some d, op, tt, pos, af, g⟩ :: σ) T H := R_eff hr h hw hd
theorem qw {E : Value → List Asn → Prop} (hr : Ef P n w0 M T H ⟨none, op, tt, pos, af, g⟩ E) (h : ∀ v H', E v H' → RG P B n w0 M l k σ T H') (hw : wants l T g = some true := by exact rfl) : RG P B n w0 M l k (⟨none, op, tt, pos, af, g⟩ :: σ) T H := R_eff0 hr h hw
theorem qz (h : RS P B n w0 M k T H) : RG P B n w0 M l k [] T H := R_nil h
theorem qr {l : List Oper} (h : RG P B n w0 M (regL c) k l T H) (hk : kind c = .region false := by exact rfl) (hl : regL c = l := by exact rfl) : RS P B n w0 M (.code c :: k) T H := S_region hk hl h
theorem qq (h : RS P B n w0 M (.code (c1 c) :: .code (c2 c) :: k) T H) (hk : kind c = .seq := by exact rfl) : RS P B n w0 M (.code c :: k) T H := S_seq hk h
theorem qs {l : List Oper} (h : RG P B n w0 M (regL (c1 c)) (.code (c2 c) :: k) l T H) (hk : kind c = .seq := by exact rfl) (hk2 : kind (c1 c) = .region false := by exact rfl) (hl : regL (c1 c) = l := by exact rfl) : RS P B n w0 M (.code c :: k) T H := S_seq hk (S_region hk2 hl h)
theorem qn {l l' : List Oper} (h : RG P B n w0 M (regL (c1 c)) (.code (c2 c) :: k) l T H) (hk : kind c = .seq := by exact rfl) (hk2 : kind (c1 c) = .region false := by exact rfl) (hl : regL (c1 c) = l := by exact rfl) : RG P B n w0 M l' (.code c :: k) [] T H := R_nil (S_seq hk (S_region hk2 hl h))
theorem qT (h : RS P B n w0 M (.code (c1 c) :: k) T H) (hk : kind c = .cond x := by exact rfl) (hc : oget T x = some (.bool true) := by exact rfl) : RS P B n w0 M (.code c :: k) T H := S_true hk hc h
theorem qF (h : RS P B n w0 M (.code (c2 c) :: k) T H) (hk : kind c = .cond x := by exact rfl) (hc : oget T x = some (.bool false) := by exact rfl) : RS P B n w0 M (.code c :: k) T H := S_false hk hc h
theorem qx (h : RS P B n w0 M k T H) (hk : kind c = .skip := by exact rfl) : RS P B n w0 M (.code c :: k) T H := S_skip hk h
theorem qb {id : Nat} (h : RS P B n w0 M (.code (c1 c) :: .blk id :: k) T H) (hk : kind c = .block id := by exact rfl) : RS P B n w0 M (.code c :: k) T H := S_block hk h
theorem dt (i : Nat) (ho : l[i]? = some ⟨some d, op, tt, pos, af, g⟩) (ht : Tk P n w0 M T C ⟨some d, op, tt, pos, af, g⟩ v) (h : RD P B n w0 M l k (L.setIfInBounds i true) C ((d, v) :: T) H)
    (hw : wants l T g = some true := by exact rfl) (hd : dok n (some d) = true := by exact rfl) (hf : Region.free .any l.toArray L i = true := by kernel_rfl) (hr : (Region.ready .any l.toArray L).contains i = true := by kernel_rfl) : RD P B n w0 M l k L C T H := D_take i ho ht h hw hd hf hr
end
end Go.Proofs.YtdeffdldifepkaaGreat
namespace Go.Proofs.YtdeffdldifepkaaGreat
open Go.RowKit
open Asn (pt row rb)
set_option linter.unusedVariables false
set_option linter.unusedSimpArgs false
section
variable {P : Program} {ro : Option Nat} {ds : List Deferred} {B : Bk ro ds} {n : Nat} {w0 : World} {M : Nat → Prop} {k : List It} {T : Slots} {H Hr : List Asn} {dd : Option Tmp} {tt : TypeId} {pos : String} {af : Array Edge} {g : Option (Nat × Bool)} {x y z : Operand} {ts : Array TypeId}
theorem Srd.cutP {size m c q : Nat} {A : Option Addr} {xs : List Value} (h : Srd w0 M H size A m xs) (hq : q ≤ m) (hc : m ≤ c) : Srd w0 M H size (cutP A c q size) (m - q) (xs.drop (q * size)) := ⟨fun w hS => (h.rd w hS).cut hq hc⟩
theorem Srd.head {size m q : Nat} {A : Option Addr} {xs : List Value} (h : Srd w0 M H size A m xs) (hq : q ≤ m) : Srd w0 M H size A q (xs.take (q * size)) := ⟨fun w hS => (h.rd w hS).head hq⟩
theorem Srd.none {size c : Nat} : Srd w0 M H size none 0 [] := ⟨fun w hS => Rd.none_⟩
/-- a slice of one's own, seen as its block -/
theorem RS_open {e : TypeId} {size : Nat} (A : Option Addr) (m c : Nat) {xs : List Value} [hr : HRow H A m c e size xs Hr] (hA : A ≠ none) (hp : ∀ gb ys, A = some ⟨gb, 0, none⟩ → ys.length = (c - m) * size → m ≤ c → c ≤ maxLen → xs.length = m * size → RS P B n w0 M k T (pt gb e (xs ++ ys) :: Hr)) : RS P B n w0 M k T H := ⟨fun a w had ha hS => by
  have hS1 := hS.perm hr.perm
  have hown : w.ownsRow 0 e size (.slice A m c) m xs := hS1.at_ (A := row e size A m c xs) (by simp)
  rcases hown.2 with ⟨hv, _⟩ | ⟨gb, cap, cur, hv, _, hb, hmc, hcm, hcs, htk⟩
  · injection hv with e1
    exact absurd e1 hA
  · injection hv with e1 e2 e3
    subst e1 e3
    have hcl : cur.toList.length = c * size := by simpa using hcs
    have hcur : xs ++ cur.toList.drop (m * size) = cur.toList := by rw [← htk, List.take_append_drop]
    refine (hp gb (cur.toList.drop (m * size)) rfl (by rw [List.length_drop, hcl, Nat.sub_mul]) hmc hcm hown.1).runD a w had ha (hS1.turn .here (fun _ => ?_) (fun k hk => ?_))
    · rw [hcur]
      show Blk w gb e _
      unfold Blk
      rw [hb]
    · have hk : k = gb := hk
      subst hk
      rfl⟩
/-- where a block is known; what else there is -/
class HPt (H : List Asn) (gb : Nat) (e : outParam TypeId) (cs : outParam (List Value)) (H' : outParam (List Asn)) : Prop where
  perm : H.Perm (pt gb e cs :: H')
instance (priority := high) HPt.here {gb : Nat} {e : TypeId} {cs : List Value} {H : List Asn} : HPt (pt gb e cs :: H) gb e cs H := ⟨List.Perm.refl _⟩
instance HPt.there {gb : Nat} {e : TypeId} {cs : List Value} {B : Asn} {H H' : List Asn} [h : HPt H gb e cs H'] : HPt (B :: H) gb e cs (B :: H') := ⟨(List.Perm.cons _ h.perm).trans (List.Perm.swap _ _ _)⟩
theorem St.close {w : World} {e : TypeId} {size gb m c : Nat} {xs cs : List Value} (hS : St w0 M H w) [hu : HPt H gb e cs Hr] (hm : m ≤ c) (hc : c ≤ maxLen) (hl : cs.length = c * size) (hx : cs.take (m * size) = xs) : St w0 M (row e size (some ⟨gb, 0, none⟩) m c xs :: Hr) w := by
  subst hx
  exact St.rowOf (hS.perm hu.perm) .here hm hc hl
theorem run_copy_rowN (w : World) (dT sT ty elem : TypeId) (gb o dLen dCap : Nat) (A : Option Addr) (sLen sCap q size : Nat) (cur : Array Value) (t : TypeId) (cs : List Value)
    (hu : P.underlying dT = some (.slice elem)) (hs : (P.info? elem).map (·.size) = some size)
    (hg : w.heap[gb]? = some (.cells cur t (0, 0))) (hq : q = Nat.min sLen dLen) (hl : cs.length = q * size)
    (hsrc : 0 < q → ∃ ad, A = some ad ∧ ∀ j v, cs[j]? = some v → w.cell? (ad.add j) = some v) (hfit : o + cs.length ≤ cur.size) (h1 : ∀ v ∈ cs, v.oneCell' = true) :
    (Builtin.copy_ #[dT, sT] ty #[.slice (some ⟨gb, o, none⟩) dLen dCap, .slice A sLen sCap]).run P w =
      .ok (goInt q) (w.setRow gb (cur.toList.take o ++ cs ++ cur.toList.drop (o + cs.length)).toArray) := by
  have hst := run_storeCells_at P gb o t cs 0 cur w hg (by simpa using hfit) h1
  have hfc : (Builtin.firstCells size q (.slice A sLen sCap)).run P w = .ok cs.toArray w := by
    rcases Nat.eq_zero_or_pos q with h0 | h0
    · subst h0
      obtain rfl : cs = [] := List.eq_nil_of_length_eq_zero (by simpa using hl)
      cases A with
      | none => exact run_firstCells_none w size 0 sLen sCap
      | some ad => exact run_firstCells_some w size 0 ad sLen sCap [] (by simp) (by simp)
    · obtain ⟨ad, rfl, hc⟩ := hsrc h0
      exact run_firstCells_some w size q ad sLen sCap cs hl hc
  cases hqq : P.info? elem with
  | none => simp [hqq] at hs
  | some i =>
    have hi : i.size = size := by simpa [hqq] using hs
    simp [Builtin.copy_, run_underlying hu, Builtin.lenOf, sizeOf, typeInfo, hqq, hi, ← hq, hfc, hst]
/-- copy onto a block -/
theorem E_copyn [HasTab P] {dT sT e : TypeId} {gb off dl dc sl sc t q : Nat} {A : Option Addr} {cur cs : List Value} {i ei : Ti} {H' : List Asn} {K : List Value → List Asn} (hx : oget T x = some (.slice (some ⟨gb, off, none⟩) dl dc)) (hy : oget T y = some (.slice A sl sc)) (hs : ty P dT = some i) (hi : i.desc = .slice e) (he : ty P e = some ei)
    [hu : HUp H gb t cur K] (hsrc : Srd w0 M H ei.size A q cs) (hn : q = min sl dl) (hfit : off + cs.length ≤ cur.length) (h1 : ∀ v ∈ cs, v.oneCell' = true) (hH : K (cur.take off ++ cs ++ cur.drop (off + cs.length)) = H') :
    Ef P n w0 M T H ⟨dd, .call ⟨.builtin .copy, #[x, y], #[dT, sT]⟩, tt, pos, af, g⟩ (fun v H'' => v = .int .i64 (q : Nat) ∧ H'' = H') := .mk fun a w ha hS => by
  subst hH
  have hus : P.underlying dT = some (.slice e) := hi ▸ ty_ok hs
  have hsz : (P.info? e).map (·.size) = some ei.size := by
    obtain ⟨j, hj, _, hj1, _⟩ := ty_info he
    rw [hj]
    simp [hj1]
  have hg : Blk w gb t cur.toArray := hS.at_ (hu.upd cur).mem
  have hrd := hsrc.rd w hS
  have hrun := run_copy_rowN (P := P) w dT sT tt e gb off dl dc A sl sc q ei.size cur.toArray t cs hus hsz hg hn hrd.1 (fun h0 => by
    obtain ⟨ad, e1, _, hc⟩ := hrd.2 h0
    exact ⟨ad, e1, hc⟩) (by simpa using hfit) h1
  unfold Oper.wp
  simp only [execOp, resolve, invoke, builtin, Sem.run_bind, Sem.run_pure, Result.andThen_ok, List.map_toArray, List.map_cons, List.map_nil, ha.eval hx, ha.eval hy, hrun]
  refine ⟨_, _, ⟨rfl, rfl⟩, rfl, hS.upd (hu.upd _) (Kp.setRow gb _) ?_ fun _ h => h⟩
  have := setRow_heap w gb _ (cur.take off ++ cs ++ cur.drop (off + cs.length)).toArray t _ hg
  show Blk _ _ _ _
  unfold Blk
  simpa using this
theorem kp_grown (w : World) (o : Obj) : Kp All w (w.drew.alloc o) := (Kp.alloc w o).trans ⟨rfl, rfl, rfl, by simp, fun k _ _ => rfl⟩
theorem firstCells_rd {w : World} {F : Nat → Prop} {size m c : Nat} {A : Option Addr} {xs : List Value} (h : Rd w F size A m xs) : (Builtin.firstCells size m (.slice A m c)).run P w = .ok xs.toArray w := by
  rcases Nat.eq_zero_or_pos m with h0 | h0
  · subst h0
    obtain rfl : xs = [] := List.eq_nil_of_length_eq_zero (by simpa using h.1)
    cases A with
    | none => exact run_firstCells_none w size 0 0 c
    | some ad => exact run_firstCells_some w size 0 ad 0 c [] (by simp) (by simp)
  · obtain ⟨ad, rfl, _, hc⟩ := h.2 h0
    exact run_firstCells_some w size m ad m c xs h.1 hc
/-- append of so many noughts, where there is no room -/
theorem E_appz [HasTab P] {sz : Nat} {s sn e : TypeId} {m c q : Nat} {kq kn : IntKind} {A : Option Addr} {olds : List Value} {i i2 ei : Ti} (hx : oget T x = some (.slice A m c)) (hy : oget T y = some (.int kq (q : Int))) (hs : ty P s = some i) (hi : i.desc = .slice e) (hs2 : ty P sn = some i2) (hi2 : i2.desc = .int kn) (he : ty P e = some ei) (hsz : ei.size = sz) (hz : ei.zero.cells.size = sz) (hz0 : 0 < sz)
    (hold : Srd w0 M H sz A m olds) (h0 : 0 < q) (hroom : c < m + q) (hb : (m + q) * ei.bytes ≤ 140737488355328) (hm : m + q ≤ maxLen) :
    Ef P n w0 M T H ⟨dd, .call ⟨.builtin .append, #[x, y], #[s, sn]⟩, tt, pos, af, g⟩ (fun v H' => ∃ gb c' zs ys, v = .slice (some ⟨gb, 0, none⟩) (m + q) c' ∧ zs.length = q * sz ∧ ys.length = (c' - (m + q)) * sz ∧ m + q ≤ c' ∧ c' ≤ maxLen ∧ H' = pt gb e (olds ++ zs ++ ys) :: H) := .mk fun a w ha hS => by
  subst hsz
  have hus : P.underlying s = some (.slice e) := hi ▸ ty_ok hs
  obtain ⟨j, hj, hj0, hj1, hj2⟩ := ty_info he
  have hro := hold.rd w hS
  have hrod : Rd w.drew All ei.size A m olds := hro.keep (⟨rfl, rfl, rfl, Nat.le_refl _, fun k _ _ => rfl⟩)
  have hrun := Go.Lib.run_append_grow_zeros (P := P) w s sn tt e j _ kq kn hus (hi2 ▸ ty_ok hs2) hj hj0 A m c olds (by rw [hj1]; exact firstCells_rd hrod) q h0 (by omega) hroom (by simp only [maxLen] at hm; omega) (by rw [hj2]; have : q * ei.bytes ≤ (m + q) * ei.bytes := Nat.mul_le_mul_right _ (by omega); omega) (by rw [hj2]; exact growslice_fits hroom hb)
  have hzl : (Builtin.zeroCells ei.zero.cells q).toList.length = q * ei.size := by rw [Array.length_toList, size_zeroCells, hz]
  have e1 : olds.toArray ++ Builtin.zeroCells ei.zero.cells q ++ Builtin.zeroCells ei.zero.cells (grownCap w (m + q) c e - (m + q)) = (olds ++ (Builtin.zeroCells ei.zero.cells q).toList ++ (Builtin.zeroCells ei.zero.cells (grownCap w (m + q) c e - (m + q))).toList).toArray := by apply Array.ext'; simp
  rw [e1] at hrun
  unfold Oper.wp
  simp only [execOp, resolve, invoke, builtin, Sem.run_bind, Sem.run_pure, Result.andThen_ok, List.map_toArray, List.map_cons, List.map_nil, ha.eval hx, ha.eval hy, hrun]
  refine ⟨_, _, ⟨w.heap.size, _, _, _, rfl, hzl, by rw [Array.length_toList, size_zeroCells, hz], grownCap_ge w _ _ _, grownCap_le_maxLen w _ _ e hm, rfl⟩, rfl, hS.add (kp_grown w _) ?_ (fun k hk => ?_)⟩
  · show Blk _ _ _ _
    exact heap_alloc_new w.drew _
  · have hk : k = w.heap.size := hk
    subst hk
    simp
/-- parts of a slice at a known block -/
theorem cutP_at {gb off c lo sz : Nat} (h : lo < c) : cutP (some ⟨gb, off, none⟩) c lo sz = some ⟨gb, off + lo * sz, none⟩ := by
  unfold cutP
  rw [if_neg (by omega)]
  simp [pa, add_plain]
theorem T_sllg [HasTab P] {sz : Nat} {s e : TypeId} {gb off m c q : Nat} {z : Int} {kk : IntKind} {i ei : Ti} (hx : oget T x = some (.slice (some ⟨gb, off, none⟩) m c)) (hy : oget T y = some (.int kk z)) [hz : NatOf z q] (hs : ty P s = some i) (hi : i.desc = .slice e) (he : ty P e = some ei) (hsz : ei.size = sz) (hq : q ≤ m) (hq2 : q < c) (hc : m ≤ c) :
    Tk P n w0 M T H ⟨dd, .slice s x (some y) none none, tt, pos, af, g⟩ (.slice (some ⟨gb, off + q * sz, none⟩) (m - q) (c - q)) := by
  subst hsz
  rw [hz.is] at hy
  have h := T_sll (n := n) (w0 := w0) (M := M) (H := H) (dd := dd) (tt := tt) (pos := pos) (af := af) (g := g) hx hy hs hi he hq hc
  rwa [cutP_at hq2] at h
theorem T_slN [HasTab P] {sz : Nat} {s e : TypeId} {A : Option Addr} {m c q : Nat} {z : Int} {kk : IntKind} {i ei : Ti} (hx : oget T x = some (.slice A m c)) (hy : oget T y = some (.int kk z)) [hz : NatOf z q] (hs : ty P s = some i) (hi : i.desc = .slice e) (he : ty P e = some ei) (hsz : ei.size = sz) (hq : q ≤ m) (hc : m ≤ c) :
    Tk P n w0 M T H ⟨dd, .slice s x (some y) none none, tt, pos, af, g⟩ (.slice (cutP A c q sz) (m - q) (c - q)) := by
  subst hsz
  rw [hz.is] at hy
  exact T_sll hx hy hs hi he hq hc
theorem T_slhN [HasTab P] {s e : TypeId} {A : Option Addr} {m c q : Nat} {z : Int} {kk : IntKind} {i ei : Ti} (hx : oget T x = some (.slice A m c)) (hy : oget T y = some (.int kk z)) [hz : NatOf z q] (hs : ty P s = some i) (hi : i.desc = .slice e) (he : ty P e = some ei) (hq : q ≤ c) :
    Tk P n w0 M T H ⟨dd, .slice s x none (some y) none, tt, pos, af, g⟩ (.slice A q c) := by
  rw [hz.is] at hy
  exact T_slh hx hy hs hi he hq
theorem T_cap [HasTab P] {s e : TypeId} {A : Option Addr} {m c : Nat} {i : Ti} (hx : oget T x = some (.slice A m c)) (hs : ty P s = some i) (hi : i.desc = .slice e) :
    Tk P n w0 M T H ⟨dd, .call ⟨.builtin .cap, #[x], #[s]⟩, tt, pos, af, g⟩ (.int .i64 (c : Int)) := .mk fun a w ha _ => by
  have hu := run_underlying (hi ▸ ty_ok hs) w
  simp [execOp, resolve, invoke, builtin, ha.eval hx, Builtin.cap_, hu, goInt]
/-- is it nil? -/
theorem T_eqnil [HasTab P] {s e u : TypeId} {A : Option Addr} {m c : Nat} {i : Ti} (hx : oget T x = some (.slice A m c)) (hy : oget T y = some (.slice none 0 0)) (hs : ty P s = some i) (hi : i.desc = .slice e) :
    Tk P n w0 M T H ⟨dd, .binOp .eql s x y u, tt, pos, af, g⟩ (.bool A.isNone) := .mk fun a w ha hS => by
  have h3 := Go.Lib.run_eql_slice_nil (P := P) w s e A m c 0 0 (hi ▸ ty_ok hs)
  simp [execOp, ha.eval hx, ha.eval hy, eqGuard, h3]
/-- append onto a literal without elements -/
theorem E_apple [HasTab P] {s e : TypeId} {sz gb : Nat} {A2 : Option Addr} {m2 c2 : Nat} {news : List Value} {i ei : Ti} (hx : oget T x = some (.slice (some ⟨gb, 0, none⟩) 0 0)) (hy : oget T y = some (.slice A2 m2 c2)) (hs : ty P s = some i) (hi : i.desc = .slice e) (he : ty P e = some ei) (hsz : ei.size = sz) (hz : ei.zero.cells.size = sz) (hz0 : 0 < sz)
    (hr : Rem H (pt gb e []) Hr) (hsrc : Srd w0 M H sz A2 m2 news) (h1 : ∀ u ∈ news, u.oneCell' = true) (hb : m2 * ei.bytes ≤ 140737488355328) (hm : m2 ≤ maxLen) :
    Ef P n w0 M T H ⟨dd, .call ⟨.builtin .append, #[x, y], #[s, s]⟩, tt, pos, af, g⟩ (fun v H' => ∃ A' c', v = .slice A' m2 c' ∧ H' = row e sz A' m2 c' news :: Hr) := by
  subst hsz
  exact E_appl hx hy hs hi he hz hz0 hr hsrc h1 hb hm
/-- calls by contracts: nothing made; a part made; parts turned into one -/
theorem E_gv0 {f : FuncId} {xs : Array Operand} {vs : List Value} {X : Type} {V : X → Value} {I : X → Prop} {A : X → List Asn} (hf : Fn_ P f) (hx : ogets T xs.toList = some vs) (hc : ∀ w, St w0 M H w → Gives P f vs [] w V I A) (hA : ∀ x, A x = []) :
    Ef P n w0 M T H ⟨dd, .call ⟨.value (.func f), xs, ts⟩, tt, pos, af, g⟩ (fun u H' => ∃ x, u = V x ∧ I x ∧ H' = H) := by
  refine (E_gv hf hx hc).mono ?_
  rintro v H' ⟨x, rfl, hI, rfl⟩ w hS
  rw [hA, List.nil_append] at hS
  exact ⟨_, _, rfl, ⟨x, rfl, hI, rfl⟩, hS⟩
theorem E_gv1 {f : FuncId} {xs : Array Operand} {vs : List Value} {X : Type} {V : X → Value} {I : X → Prop} {A : X → List Asn} {B : X → Asn} (hf : Fn_ P f) (hx : ogets T xs.toList = some vs) (hc : ∀ w, St w0 M H w → Gives P f vs [] w V I A) (hA : ∀ x, A x = [B x]) :
    Ef P n w0 M T H ⟨dd, .call ⟨.value (.func f), xs, ts⟩, tt, pos, af, g⟩ (fun u H' => ∃ x, u = V x ∧ I x ∧ H' = B x :: H) := by
  refine (E_gv hf hx hc).mono ?_
  rintro v H' ⟨x, rfl, hI, rfl⟩ w hS
  rw [hA] at hS
  exact ⟨_, _, rfl, ⟨x, rfl, hI, rfl⟩, hS⟩
theorem E_gt2 {f : FuncId} {xs : Array Operand} {vs : List Value} {X : Type} {V : X → Value} {I : X → Prop} {A : X → List Asn} {A1 A2 : Asn} {H1 : List Asn} {B : X → Asn} [h1 : RemC H A1 H1] [h2 : RemC H1 A2 Hr] (hf : Fn_ P f) (hx : ogets T xs.toList = some vs) (hc : ∀ w, St w0 M (A1 :: A2 :: Hr) w → St w (owns [A1, A2]) [A1, A2] w → Gives P f vs [A1, A2] w V I A) (hA : ∀ x, A x = [B x]) :
    Ef P n w0 M T H ⟨dd, .call ⟨.value (.func f), xs, ts⟩, tt, pos, af, g⟩ (fun u H' => ∃ x, u = V x ∧ I x ∧ H' = B x :: Hr) := by
  refine (E_call [A1, A2] Hr V I A hx hf (fun w hS => hS.perm (h1.perm.trans (List.Perm.cons _ h2.perm))) fun w hS => hc w hS (St.again (As := [A1, A2]) hS)).mono ?_
  rintro v H' ⟨x, hI, rfl, rfl⟩ w hS
  rw [hA] at hS
  exact ⟨_, _, rfl, ⟨x, rfl, hI, rfl⟩, hS⟩
/-- slices in two blocks do not overlap -/
theorem E_over [HasTab P] {f : FuncId} {fn : Func} {s b e : TypeId} {ga oa la ca gb ob lb cb ta tb : Nat} {ca' cb' : List Value} {i ei : Ti} (hf : P.funcs[f]? = some fn) (hname : (fn.name == "runtime.NumGoroutine") = false) (hb : fn.body.isNone = true) (hn : Extern.findNext fn = none) (he' : Extern.find fn = some (Extern.SlicesOverlaps.overlaps #[s, s] #[b]))
    (hx : oget T x = some (.slice (some ⟨ga, oa, none⟩) la ca)) (hy : oget T y = some (.slice (some ⟨gb, ob, none⟩) lb cb)) (hs : ty P s = some i) (hi : i.desc = .slice e) (he : ty P e = some ei) (ha : Hat H ga ta ca') (hbb : Hat H gb tb cb') (hne : ga ≠ gb) (h0 : 0 < cb'.length) :
    Ef P n w0 M T H ⟨dd, .call ⟨.value (.func f), #[x, y], ts⟩, tt, pos, af, g⟩ (fun u H' => u = .bool false ∧ H' = H) := .mk fun a w hT hS => by
  have h1 : Blk w ga ta ca'.toArray := hS.at_ ha.mem
  have h2 : Blk w gb tb cb'.toArray := hS.at_ hbb.mem
  have hrun : (callFunc f #[.slice (some ⟨ga, oa, none⟩) la ca, .slice (some ⟨gb, ob, none⟩) lb cb]).run P w = .ok (.value (.bool false)) w := by
    rw [run_callFunc_extern hf hname hb hn he', Go.Lib.run_overlaps_apart w s b e (hi ▸ ty_ok hs) ei.size (fun w => ty_size he w) ⟨ga, oa, none⟩ ⟨gb, ob, none⟩ la ca lb cb hne ta tb ca'.length cb'.length
      (by simp only [World.shape?]; unfold Blk at h1; simp [h1]) (by simp only [World.shape?]; unfold Blk at h2; simp [h2]) (by omega) (h1.frozen _) (h1.frozen _)]
    rfl
  unfold Oper.wp
  have : (execOp a.eval ⟨dd, .call ⟨.value (.func f), #[x, y], ts⟩, tt, pos, af, g⟩).run P w = .ok (.value (.bool false)) w := by
    have e1 : a.eval (.func f) = .func (.func f) #[] #[] := rfl
    simp [execOp, resolve, Deferred.ofValue, invoke, e1, hT.eval hx, hT.eval hy, hrun]
  rw [this]
  exact ⟨_, _, ⟨rfl, rfl⟩, rfl, hS⟩
end
theorem ins_shift {α} (xs ys : List α) (v : α) (i m : Nat) (hx : xs.length = m) (hi : i < m) (hy : 1 ≤ ys.length) (R : List α) :
    ((((xs ++ ys).take (i + 1) ++ xs.drop i ++ R).take i ++ [v] ++ ((xs ++ ys).take (i + 1) ++ xs.drop i ++ R).drop (i + 1))).take (m + 1) = xs.take i ++ v :: xs.drop i := by
  have h1 : ((xs ++ ys).take (i + 1)).length = i + 1 := by simp; omega
  have h2 : ((xs ++ ys).take (i + 1) ++ xs.drop i ++ R).take i = xs.take i := by
    rw [List.append_assoc, List.take_append_of_le_length (by omega), List.take_take, List.take_append_of_le_length (by omega)]
    congr 1; omega
  have h3 : ((xs ++ ys).take (i + 1) ++ xs.drop i ++ R).drop (i + 1) = xs.drop i ++ R := by
    rw [List.append_assoc, List.drop_left' h1]
  rw [h2, h3]
  have h4 : xs.take i ++ [v] ++ (xs.drop i ++ R) = (xs.take i ++ v :: xs.drop i) ++ R := by simp
  rw [h4, List.take_left' (by simp; omega)]
theorem ins_grow {α} (xs zs ys : List α) (v : α) (i m : Nat) (hx : xs.length = m) (hi : i < m) (R Q : List α) :
    (((xs.take i ++ zs ++ ys).take i ++ [v] ++ R).take (i + 1) ++ xs.drop i ++ Q).take (m + 1) = xs.take i ++ v :: xs.drop i := by
  have h2 : ((xs.take i ++ zs ++ ys)).take i = xs.take i := by
    rw [List.append_assoc, List.take_left' (by simp; omega)]
  rw [h2, List.take_left' (l₁ := xs.take i ++ [v]) (by simp; omega)]
  have h4 : xs.take i ++ [v] ++ xs.drop i ++ Q = (xs.take i ++ v :: xs.drop i) ++ Q := by simp
  rw [h4, List.take_left' (by simp; omega)]
/-- a closure that holds its last arguments is called -/
theorem E_cloA {P : Program} {n : Nat} {w0 : World} {M : Nat → Prop} {T : Slots} {H : List Asn} {dd : Option Tmp} {tt : TypeId} {pos : String} {af : Array Edge} {g : Option (Nat × Bool)} {x : Operand} {f : FuncId} {cap : List Value} {xs : Array Operand} {E : Value → List Asn → Prop} {ts : Array TypeId} (hx : oget T x = some (.func (.func f) #[] cap.toArray)) (h : Ef P n w0 M T H ⟨dd, .call ⟨.value (.func f), xs ++ (cap.map Operand.const).toArray, ts⟩, tt, pos, af, g⟩ E) :
    Ef P n w0 M T H ⟨dd, .call ⟨.value x, xs, ts⟩, tt, pos, af, g⟩ E := h.same fun a w ha => by
  have e2 : ((xs ++ (cap.map Operand.const).toArray).map a.eval) = xs.map a.eval ++ cap.toArray := by
    have e3 : (cap.map Operand.const).map a.eval = cap := by
      rw [List.map_map]
      conv => rhs; rw [← List.map_id cap]
      rfl
    have e4 : (cap.map Operand.const).toArray.map a.eval = cap.toArray := by rw [List.map_toArray, e3]
    rw [Array.map_append, e4]
  have e1 : (a.eval (.func f)) = .func (.func f) #[] #[] := rfl
  simp [execOp, resolve, Deferred.ofValue, invoke, ha.eval hx, e2, e1]
end Go.Proofs.YtdeffdldifepkaaGreat
namespace Go.Proofs.YtdeffdldifepkaaGreat
open Go.RowKit
open Asn (pt row rb)
set_option linter.unusedVariables false
set_option linter.unusedSimpArgs false
section
variable {P : Program} {ro : Option Nat} {ds : List Deferred} {B : Bk ro ds} {n : Nat} {w0 : World} {M : Nat → Prop} {k : List It} {T : Slots} {H Hr : List Asn} {dd : Option Tmp} {tt : TypeId} {pos : String} {af : Array Edge} {g : Option (Nat × Bool)} {x y z : Operand} {ts : Array TypeId}
/-- a value of many cells that was there is read, by its plain address -/
theorem T_loadga [HasTab P] {s : TypeId} {gb off m sz : Nat} {F : Nat → Prop} {xs ds : List Value} {i : Ti} (hx : oget T x = some (.pointer (some ⟨gb, off, none⟩))) (hs : ty P s = some i) (hi : aggB i.desc = true) (hr : Rd w0 F sz (some ⟨gb, 0, none⟩) m xs) (hF : ∀ k, F k → ¬ M k) (hl : ds.length = i.size) (h0 : 0 < m) (hv : ∀ e v, ds[e]? = some v → xs[off + e]? = some v) :
    Tk P n w0 M T H ⟨dd, .load s x, tt, pos, af, g⟩ (.agg ds.toArray) := by
  have e : (some ⟨gb, off, none⟩ : Option Addr) = pa (some ⟨gb, 0, none⟩) off := by simp [pa, add_plain]
  rw [e] at hx
  exact T_loadoa hx hs hi hr hl h0 hv hF
/-- a value of parts is put together -/
theorem T_build1 {s : TypeId} {j : Nat} {v : Value} {cs : List Value} (hx : oget T x = some v) (hb : P.built s [(j, v)] = some cs.toArray) :
    Tk P n w0 M T H ⟨dd, .build s #[(j, x)], tt, pos, af, g⟩ (.agg cs.toArray) := .mk fun a w ha hS => by
  have hr := run_build (P := P) w s #[(j, v)] cs.toArray (by simpa using hb)
  simp only [execOp, List.map_toArray, List.map_cons, List.map_nil, ha.eval hx, Sem.run_bind, hr, Result.andThen_ok, Sem.run_pure]
/-- a literal, seen as a slice of one's own -/
theorem E_litr [HasTab P] {s e : TypeId} {m : Nat} {parts : Array (Nat × Operand)} {vs : List Value} {i ei : Ti} (hv : ogets T (parts.toList.map (·.2)) = some vs) (hp : parts.toList.map (·.1) = List.range m) (hs : ty P s = some i) (hi : i.desc = .slice e) (he : ty P e = some ei) (h1 : ei.size = 1) (hz : ei.zero.cells = #[ei.zero]) (ho : ∀ v ∈ vs, v.oneCell' = true) (hm : m ≤ 1000) (hl : vs.length = m) :
    Ef P n w0 M T H ⟨dd, .buildSlice s m parts, tt, pos, af, g⟩ (fun u H' => ∃ b, u = .slice (some ⟨b, 0, none⟩) m m ∧ H' = row e 1 (some ⟨b, 0, none⟩) m m vs :: H) := by
  refine (E_lit1 hv hp hs hi he h1 hz ho hm).mono ?_
  rintro v H' ⟨b, rfl, rfl⟩ w hS
  refine ⟨_, _, rfl, ⟨b, rfl, rfl⟩, ?_⟩
  have := St.rowOf (e := e) (size := 1) (g := b) (n := m) (m := m) hS Upd.here (Nat.le_refl _) (by unfold maxLen; omega) (by omega)
  rwa [List.take_of_length_le (by omega)] at this
end
end Go.Proofs.YtdeffdldifepkaaGreat
namespace Go.Proofs.YtdeffdldifepkaaGreat
open Go.RowKit
open Asn (pt row rb)
set_option linter.unusedVariables false
set_option linter.unusedSimpArgs false
section
variable {P : Program} {ro : Option Nat} {ds : List Deferred} {B : Bk ro ds} {n : Nat} {w0 : World} {M : Nat → Prop} {k : List It} {T : Slots} {H Hr : List Asn} {dd : Option Tmp} {tt : TypeId} {pos : String} {af : Array Edge} {g : Option (Nat × Bool)} {x y z : Operand} {ts : Array TypeId}
/-- some operations may come up -/
theorem D_fin {l : List Oper} {L : Array Bool} {C : List Asn} {rs : List Nat} (hr : Region.ready .any l.toArray L = rs) (hne : rs ≠ []) (h : ∀ i ∈ rs, ∃ o E, l[i]? = some o ∧ wants l T o.guard = some true ∧ dok n o.dst = true ∧ Ef P n w0 M T H o E ∧ ∀ v H', E v H' → Nx P B n w0 M l k L C i (tput o.dst v T) H') : RD P B n w0 M l k L C T H := by
  classical
  have h' : ∀ i, ∃ E : Value → List Asn → Prop, i ∈ rs → ∃ o, l[i]? = some o ∧ wants l T o.guard = some true ∧ dok n o.dst = true ∧ Ef P n w0 M T H o E ∧ ∀ v H', E v H' → Nx P B n w0 M l k L C i (tput o.dst v T) H' := fun i => by
    by_cases hi : i ∈ rs
    · obtain ⟨o, E, h1⟩ := h i hi
      exact ⟨E, fun _ => ⟨o, h1⟩⟩
    · exact ⟨fun _ _ => False, fun h => absurd h hi⟩
  have hE := fun i => Classical.choose_spec (h' i)
  have h2 : ∀ i v H', ∃ C' : List Asn, i ∈ rs → Classical.choose (h' i) v H' → (∀ w, St w0 M H' w → St w0 M C' w) ∧ ((∀ w, St w0 M C' w → St w0 M C w) ∨ pivot l.toArray i = true) ∧ ∀ o, l[i]? = some o → RD P B n w0 M l k (L.setIfInBounds i true) C' (tput o.dst v T) H' := fun i v H' => by
    by_cases hi : i ∈ rs ∧ Classical.choose (h' i) v H'
    · obtain ⟨o, h1, _, _, _, h5⟩ := hE i hi.1
      obtain ⟨C', h6, h7, h8⟩ := (h5 v H' hi.2).is
      refine ⟨C', fun _ _ => ⟨h6, h7, fun o' ho' => ?_⟩⟩
      rw [h1] at ho'
      injection ho' with ho'
      subst ho'
      exact h8
    · exact ⟨[], fun a b => absurd ⟨a, b⟩ hi⟩
  have hC := fun i v H' => Classical.choose_spec (h2 i v H')
  exact .all rs hr hne (fun i => Classical.choose (h' i)) (fun i v H' => Classical.choose (h2 i v H')) (fun i hi => by
    obtain ⟨o, h1, h2, h3, h4, _⟩ := hE i hi
    exact ⟨o, h1, h2, h3, h4⟩) (fun i hi v H' he => ⟨(hC i v H' hi he).1, (hC i v H' hi he).2.1⟩) (fun i hi o ho v H' he => (hC i v H' hi he).2.2 o ho)
theorem D_three {l : List Oper} {L : Array Bool} {C : List Asn} (i j m : Nat) {oi oj om : Oper} {Ei Ej Em : Value → List Asn → Prop} (hi : l[i]? = some oi) (hj : l[j]? = some oj) (hm : l[m]? = some om) (ei : Ef P n w0 M T H oi Ei) (ej : Ef P n w0 M T H oj Ej) (em : Ef P n w0 M T H om Em)
    (h1 : ∀ v H', Ei v H' → Nx P B n w0 M l k L C i (tput oi.dst v T) H') (h2 : ∀ v H', Ej v H' → Nx P B n w0 M l k L C j (tput oj.dst v T) H') (h3 : ∀ v H', Em v H' → Nx P B n w0 M l k L C m (tput om.dst v T) H')
    (hwi : wants l T oi.guard = some true) (hwj : wants l T oj.guard = some true) (hwm : wants l T om.guard = some true) (hdi : dok n oi.dst = true) (hdj : dok n oj.dst = true) (hdm : dok n om.dst = true) (hr : Region.ready .any l.toArray L = [i, j, m]) : RD P B n w0 M l k L C T H := by
  refine D_fin hr (by simp) fun q hq => ?_
  rcases List.mem_cons.1 hq with rfl | hq
  · exact ⟨oi, Ei, hi, hwi, hdi, ei, h1⟩
  rcases List.mem_cons.1 hq with rfl | hq
  · exact ⟨oj, Ej, hj, hwj, hdj, ej, h2⟩
  obtain rfl : q = m := by simpa using hq
  exact ⟨om, Em, hm, hwm, hdm, em, h3⟩
end
end Go.Proofs.YtdeffdldifepkaaGreat
namespace Go.Proofs.YtdeffdldifepkaaGreat
open Go.RowKit
open Asn (pt row rb)
set_option linter.unusedVariables false
set_option linter.unusedSimpArgs false
section
variable {P : Program} {ro : Option Nat} {ds : List Deferred} {B : Bk ro ds} {n : Nat} {w0 : World} {M : Nat → Prop} {k : List It} {T : Slots} {H Hr : List Asn} {dd : Option Tmp} {tt : TypeId} {pos : String} {af : Array Edge} {g : Option (Nat × Bool)} {x y z : Operand} {ts : Array TypeId}
theorem E_hv0 {f : FuncId} {xs : Array Operand} {vs vs' : List Value} {X : Type} {V : X → Value} {I : X → Prop} {A : X → List Asn} (hf : Fn_ P f) (hc : ∀ w, St w0 M H w → Gives P f vs' [] w V I A) (hx : ogets T xs.toList = some vs) (hv : vs = vs') (hA : ∀ x, A x = []) :
    Ef P n w0 M T H ⟨dd, .call ⟨.value (.func f), xs, ts⟩, tt, pos, af, g⟩ (fun u H' => ∃ x, u = V x ∧ I x ∧ H' = H) := by
  subst hv
  exact E_gv0 hf hx hc hA
theorem E_hv1 {f : FuncId} {xs : Array Operand} {vs vs' : List Value} {X : Type} {V : X → Value} {I : X → Prop} {A : X → List Asn} {B : X → Asn} (hf : Fn_ P f) (hc : ∀ w, St w0 M H w → Gives P f vs' [] w V I A) (hx : ogets T xs.toList = some vs) (hv : vs = vs') (hA : ∀ x, A x = [B x]) :
    Ef P n w0 M T H ⟨dd, .call ⟨.value (.func f), xs, ts⟩, tt, pos, af, g⟩ (fun u H' => ∃ x, u = V x ∧ I x ∧ H' = B x :: H) := by
  subst hv
  exact E_gv1 hf hx hc hA
theorem E_ht2 {f : FuncId} {xs : Array Operand} {vs vs' : List Value} {X : Type} {V : X → Value} {I : X → Prop} {A : X → List Asn} {A1 A2 : Asn} {H1 : List Asn} {B : X → Asn} [h1 : RemC H A1 H1] [h2 : RemC H1 A2 Hr] (hf : Fn_ P f) (hc : ∀ w, St w0 M (A1 :: A2 :: Hr) w → St w (owns [A1, A2]) [A1, A2] w → Gives P f vs' [A1, A2] w V I A) (hx : ogets T xs.toList = some vs) (hv : vs = vs') (hA : ∀ x, A x = [B x]) :
    Ef P n w0 M T H ⟨dd, .call ⟨.value (.func f), xs, ts⟩, tt, pos, af, g⟩ (fun u H' => ∃ x, u = V x ∧ I x ∧ H' = B x :: Hr) := by
  subst hv
  exact E_gt2 hf hx hc hA
/-- a part of a block, told by its place -/
theorem T_loads [HasTab P] {s : TypeId} {gb off e : Nat} {cs ds : List Value} {i : Ti} (hx : oget T x = some (.pointer (some ⟨gb, off, none⟩))) (hs : ty P s = some i) (hi : aggB i.desc = true) [hm : Hat H gb e cs] (hl : ds.length = i.size) (hd : (cs.drop off).take i.size = ds) :
    Tk P n w0 M T H ⟨dd, .load s x, tt, pos, af, g⟩ (.agg ds.toArray) :=
  T_loada (cs := cs) (t := e) (ds := ds) (off := off) hx hs hi hl (fun j v h => by
    rw [← hd, List.getElem?_take] at h
    split at h
    · rwa [List.getElem?_drop] at h
    · cases h)
theorem T_loadgs [HasTab P] {s : TypeId} {gb off m sz : Nat} {F : Nat → Prop} {xs ds : List Value} {i : Ti} (hx : oget T x = some (.pointer (some ⟨gb, off, none⟩))) (hs : ty P s = some i) (hi : aggB i.desc = true) (hr : Rd w0 F sz (some ⟨gb, 0, none⟩) m xs) (hF : ∀ k, F k → ¬ M k) (hl : ds.length = i.size) (h0 : 0 < m) (hd : (xs.drop off).take i.size = ds) :
    Tk P n w0 M T H ⟨dd, .load s x, tt, pos, af, g⟩ (.agg ds.toArray) :=
  T_loadga hx hs hi hr hF hl h0 (fun j v h => by
    rw [← hd, List.getElem?_take] at h
    split at h
    · rwa [List.getElem?_drop] at h
    · cases h)
end
end Go.Proofs.YtdeffdldifepkaaGreat
namespace Go.Proofs.YtdeffdldifepkaaGreat
open Go.RowKit
open Asn (pt row rb)
set_option linter.unusedVariables false
set_option linter.unusedSimpArgs false
section
variable {P : Program} {ro : Option Nat} {ds : List Deferred} {B : Bk ro ds} {n : Nat} {w0 : World} {M : Nat → Prop} {k : List It} {T : Slots} {H Hr : List Asn} {dd : Option Tmp} {tt : TypeId} {pos : String} {af : Array Edge} {g : Option (Nat × Bool)} {x y z : Operand} {ts : Array TypeId}
end
end Go.Proofs.YtdeffdldifepkaaGreat
namespace Go.Proofs.YtdeffdldifepkaaGreat
open Go.RowKit
open Asn (pt row rb)
set_option linter.unusedVariables false
set_option linter.unusedSimpArgs false
/-- block g is the object o -/
def obA (g : Nat) (o : Obj) : Asn := .any (fun k => k = g) (fun w => w.heap[g]? = some o) (fun w w' hk h => by
  have hlt : g < w.heap.size := (Array.getElem?_eq_some_iff.1 h).1
  rw [hk.block g rfl hlt]; exact h)
theorem obA_at {w0 w : World} {M : Nat → Prop} {H : List Asn} {g : Nat} {o : Obj} (h : St w0 M (obA g o :: H) w) : w.heap[g]? = some o := h.at_ (A := obA g o) (by simp)
theorem obA_put {w0 w : World} {M : Nat → Prop} {H : List Asn} {g : Nat} {o : Obj} (o' : Obj) (h : St w0 M (obA g o :: H) w) : St w0 M (obA g o' :: H) (w.putObj g o') := by
  have h1 := obA_at h
  have hlt : g < w.heap.size := (Array.getElem?_eq_some_iff.1 h1).1
  refine h.upd (A := obA g o) .here ⟨rfl, rfl, rfl, by simp [World.putObj], fun k hk _ => ?_⟩ (World.putObj_heap_same hlt) (fun _ h => h)
  have hk : ¬ k = g := hk
  exact World.putObj_heap_other hk
theorem obA_new {w0 w : World} {M : Nat → Prop} {H : List Asn} (o : Obj) (h : St w0 M H w) : St w0 M (obA w.heap.size o :: H) (w.alloc o) := by
  refine h.add (Kp.alloc w o) (World.alloc_heap_new w o) (fun k hk => ?_)
  have hk : k = w.heap.size := hk
  subst hk
  simp
/-- parts taken as one -/
def bun (L : List Asn) : Asn := .any (fun k => owns L k) (fun w => (∀ A ∈ L, A.holds w) ∧ L.Pairwise Apart) (fun w w' hk h => ⟨fun A hA => A.stable w w' (hk.mono fun k hk' _ => ⟨A, hA, hk'⟩) (h.1 A hA), h.2⟩)
theorem bun_in {w0 w : World} {M : Nat → Prop} {L H : List Asn} (h : St w0 M (L ++ H) w) : St w0 M (bun L :: H) w := by
  have hap := List.pairwise_append.1 h.apart
  refine ⟨h.kp, fun B hB => ?_, List.pairwise_cons.2 ⟨fun B hB k ⟨A, hA, hk⟩ hb => hap.2.2 A hA B hB k hk hb, hap.2.1⟩⟩
  rcases List.mem_cons.1 hB with rfl | hB
  · exact ⟨⟨fun A hA => (h.all A (by simp [hA])).1, hap.1⟩, fun k ⟨A, hA, hk⟩ => (h.all A (by simp [hA])).2 k hk⟩
  · exact h.all B (by simp [hB])
theorem bun_out {w0 w : World} {M : Nat → Prop} {L H : List Asn} (h : St w0 M (bun L :: H) w) : St w0 M (L ++ H) w := by
  have hb := h.all (bun L) (by simp)
  have hap := List.pairwise_cons.1 h.apart
  refine ⟨h.kp, fun B hB => ?_, List.pairwise_append.2 ⟨hb.1.2, hap.2, fun A hA B hB k ha hb => hap.1 B hB k ⟨A, hA, ha⟩ hb⟩⟩
  rcases List.mem_append.1 hB with hB | hB
  · exact ⟨hb.1.1 B hB, fun k hk => hb.2 k ⟨B, hB, hk⟩⟩
  · exact h.all B (by simp [hB])
theorem owns_bun {L : List Asn} {k : Nat} : owns [bun L] k ↔ owns L k := by
  constructor
  · rintro ⟨A, hA, hk⟩
    obtain rfl : A = bun L := by simpa using hA
    exact hk
  · exact fun h => ⟨bun L, by simp, h⟩
theorem St.own {w0 w : World} {M M' : Nat → Prop} {H : List Asn} (h : St w0 M H w) (hM : ∀ k, M k ↔ M' k) : St w0 M' H w := by
  have : M = M' := funext fun k => propext (hM k)
  exact this ▸ h
/-- what a yield does: the part A becomes Z y; it goes on, or it has been left -/
def YGives (P : Program) (l : Nat) (vs : List Value) (w : World) (A : Asn) {X : Type} (Z : X → Asn) (I1 S1 : X → Prop) : Prop :=
  YieldAt Fence.wide 0 P l vs.toArray w fun e w' => ∃ y b, e = .returned (.bool b) ∧ (b = true → I1 y) ∧ (b = false → S1 y) ∧ St w (owns [A]) [Z y] w'
/-- an iterator: it yields es, one behind the other, as long as it goes on; of what there was it reads F alone -/
def Iter (P : Program) (gf : FuncId) (lb : List Value) (F : Nat → Prop) (es : List (List Value)) (w : World) : Prop :=
  ∀ (l : Nat) (X : Type) (Z : X → Asn) (I : Nat → X → Prop) (S : Nat → X → Prop) (x0 : X), I 0 x0 → St w (owns [Z x0]) [Z x0] w → (∀ k, F k → ¬ owns [Z x0] k) →
    (∀ i x w', I i x → i < es.length → St w (owns [Z x0]) [Z x] w' → YGives P l (es.getD i []) w' (Z x) Z (I (i + 1)) (S i)) →
    Gives P gf (.func (.yield l) #[] #[] :: lb) [Z x0] w (X := X × Option Nat) (fun _ => .tuple #[]) (fun y => match y.2 with
      | none => I es.length y.1
      | some i => i < es.length ∧ S i y.1) (fun y => [Z y.1])
section
variable {P : Program} {n : Nat} {w0 : World} {M : Nat → Prop} {T : Slots} {H Hr : List Asn} {dd : Option Tmp} {tt : TypeId} {pos : String} {af : Array Edge} {g : Option (Nat × Bool)}
theorem E_yield {x : Operand} {xs : Array Operand} {ts : Array TypeId} {l : Nat} {vs vs' : List Value} {A : Asn} {X : Type} {Z : X → Asn} {I1 S1 : X → Prop} [hr : RemC H A Hr] (hy : ∀ w, St w0 M (A :: Hr) w → YGives P l vs' w A Z I1 S1)
    (hx : oget T x = some (.func (.yield l) #[] #[])) (hv : ogets T xs.toList = some vs) (he : vs = vs') :
    Ef P n w0 M T H ⟨dd, .call ⟨.value x, xs, ts⟩, tt, pos, af, g⟩ (fun u H' => ∃ y b, u = .bool b ∧ (b = true → I1 y) ∧ (b = false → S1 y) ∧ H' = Z y :: Hr) := .mkIn fun a w ha hS => by
  subst he
  have hS1 := hS.perm hr.perm
  obtain ⟨fn, tmps, as, bd, hrun, hround⟩ := hy w hS1
  have e1 : xs.map a.eval = vs.toArray := by rw [← ha.evals hv, ← Array.toList_map]
  have h3 : (execOp a.eval ⟨dd, .call ⟨.value x, xs, ts⟩, tt, pos, af, g⟩).run P w = .ok (.round l fn tmps as bd) w := by
    simp [execOp, resolve, Deferred.ofValue, invoke, ha.eval hx, e1, hrun]
  unfold wpo
  rw [h3]
  refine ⟨fun h => (by cases h), hround.mono fun e w' ⟨y, b, he, h1, h2, hS2⟩ => ?_⟩
  subst he
  exact ⟨.bool b, Z y :: Hr, ⟨y, b, rfl, h1, h2, rfl⟩, rfl, St.call (As := [A]) hS1 hS2⟩
end
def Bk.cast {ro : Option Nat} {ds : List Deferred} (B : Bk ro ds) (ds' : List Deferred) : Bk ro ds' := B
theorem QS_cast {P : Program} {ro : Option Nat} {ds : List Deferred} (B : Bk ro ds) (ds' : List Deferred) : ∀ k : List It, QS P (B.cast ds') k = QS P B k
  | [] => rfl
  | .code c :: k => by simp only [QS, QS_cast B ds' k]
  | .blk id :: k => by simp only [QS, QS_cast B ds' k]
  | .back J :: k => by simp only [QS, QS_cast B ds' k]
  | .seg :: k => by simp only [QS, QS_cast B ds' k]
def mark (D : Nat) : List Deferred := [{ target := .collected D, args := #[] }]
/-- the slots that a round begins with -/
def tputs : List Tmp → List Value → Slots → Slots
  | p :: ps, v :: vs, T => tputs ps vs ((p, v) :: T)
  | _, _, T => T
def oks (n : Nat) (ps : List Tmp) : Bool := ps.all fun p => Nat.blt p n
theorem Tm.puts {n : Nat} : ∀ (ps : List Tmp) (vs : List Value) (a : Act) (T : Slots), Tm n a T → oks n ps = true → Tm n { tmps := (ps.zip vs).foldl (fun t (p, v) => t.setIfInBounds p v) a.tmps, defers := [] } (tputs ps vs T)
  | [], vs, a, T, h, _ => ⟨h.size, h.at_⟩
  | p :: ps, [], a, T, h, _ => ⟨h.size, h.at_⟩
  | p :: ps, v :: vs, a, T, h, ho => by
    simp only [oks, List.all_cons, Bool.and_eq_true] at ho
    have h1 : Tm n (a.put (some p) v) ((p, v) :: T) := h.put (d := some p) ho.1
    exact Tm.puts ps vs _ _ h1 ho.2
def recL (fn : FuncId) (tmps : Array Value) (ps : Array Tmp) (as bd : Code) (D : Nat) (st : LoopState) (pe : Option Code) : Loop := { state := st, pending := pe, fn, tmps, params := ps, assign := as, body := bd, defers := D }
section
variable {P : Program} {B : Bk none []} {n : Nat} {w0 : World} {M : Nat → Prop} {k : List It} {T : Slots} {H : List Asn} {c : Code}
/-- a round, as its walk sees it: the assignment, then the body -/
def Round (P : Program) (n : Nat) (w0 : World) (M : Nat → Prop) (Hk : List Asn) (c : Code) (T : Slots) (vs : List Value) (ps : List Tmp) (w : World) {X : Type} (L : X → List Asn) (x : X) (I1 S1 : X → Prop) : Prop :=
  ∀ (l : Nat) (rA rB : Asn) (B0 B1 : Bk (some l) []) (J : Act → World → Prop), St w0 M ((rA :: L x) ++ Hk) w →
    (∀ T1 H1 H1', RS P B1 n w (owns (rA :: L x)) [.code (c2 c)] T1 (rB :: H1) → (∀ w', St w (owns (rA :: L x)) H1' w' → St w (owns (rA :: L x)) (rA :: H1) w') → RS P B0 n w (owns (rA :: L x)) [.back J] T1 H1') →
    (∀ y T1 H1, I1 y → (∀ w', St w (owns (rA :: L x)) H1 w' → St w (owns (rA :: L x)) (rB :: L y) w') → RS P B1 n w (owns (rA :: L x)) [] T1 H1) →
    (∀ y c' k' T1 H1, S1 y → kind c' = .ret → (∀ w', St w (owns (rA :: L x)) H1 w' → St w (owns (rA :: L x)) (rB :: L y) w') → RS P B1 n w (owns (rA :: L x)) (.code c' :: k') T1 H1) →
    RS P B0 n w (owns (rA :: L x)) [.code (c1 c), .back J] (tputs ps vs T) (rA :: L x)
theorem S_range {X : Type} {g : Operand} {ps : List Tmp} {gf : FuncId} {lb : List Value} {F : Nat → Prop} {es : List (List Value)} (L : X → List Asn) (I : Nat → X → Prop) (S : Nat → X → Prop) (x0 : X) (Hk : List Asn)
    (hk : kind c = .range g ps.toArray) (hg : oget T g = some (.func (.func gf) #[] lb.toArray)) (hfn : Fn_ P gf) (hps : oks n ps = true) (hes : ∀ e ∈ es, e.length = ps.length) (h0 : I 0 x0)
    (hH : ∀ w, St w0 M H w → St w0 M (L x0 ++ Hk) w) (hit : ∀ w, St w0 M (L x0 ++ Hk) w → Iter P gf lb F es w) (hF : ∀ w, St w0 M (L x0 ++ Hk) w → ∀ q, F q → ¬ owns (L x0) q ∧ q < w.heap.size)
    (round : ∀ i x w, I i x → i < es.length → St w0 M (L x ++ Hk) w → Round P n w0 M Hk c T (es.getD i []) ps w L x (I (i + 1)) (S i))
    (done : ∀ y D, I es.length y → RS P (B.cast (mark D)) n w0 M k T (obA D (.deferred (some [])) :: (L y ++ Hk)))
    (stop : ∀ y D i, i < es.length → S i y → RS P (B.cast (mark D)) n w0 M (.code .ret :: k) T (obA D (.deferred (some [])) :: (L y ++ Hk))) : RS P B n w0 M (.code c :: k) T H := by
  cases c <;> try (cases hk; done)
  rename_i g' ps' as bd
  injection hk with hk1 hk2
  subst hk1 hk2
  refine ⟨fun a w had ha hs => ?_⟩
  show (Code.rangeFunc g' ps.toArray as bd).wpIn (Fw none) 0 P (QS P B k) a w
  refine wpIn_rangeFunc fun fn _ => ?_
  have hs0 := hH w hs
  obtain ⟨rec, hrec⟩ : ∃ rec : LoopState → Option Code → Loop, rec = recL fn a.tmps ps.toArray as bd w.heap.size := ⟨_, rfl⟩
  obtain ⟨l, hl⟩ : ∃ l, w.heap.size + 1 = l := ⟨_, rfl⟩
  obtain ⟨D, hD⟩ : ∃ D, w.heap.size = D := ⟨_, rfl⟩
  obtain ⟨w1, hw1⟩ : ∃ w1, (w.alloc (.deferred (some []))).alloc (.loop (rec .ready none)) = w1 := ⟨_, rfl⟩
  have hs1 : St w0 M (obA l (.loop (rec .ready none)) :: (L x0 ++ (obA D (.deferred (some [])) :: Hk))) w1 := by
    have h1 := obA_new (.deferred (some [])) hs0
    have h2 := obA_new (.loop (rec .ready none)) h1
    rw [hw1, World.size_alloc, hl, hD] at h2
    exact h2.perm (List.Perm.cons _ List.perm_middle.symm)
  obtain ⟨rj, hn, hsm⟩ : ∃ rj : Option Code → Loop, rj none = rec .ready none ∧ rj (some .ret) = rec .done (some .ret) := ⟨fun j => match j with | none => rec .ready none | some j => rec .done (some j), rfl, rfl⟩
  obtain ⟨Z, hZ⟩ : ∃ Z : X × Option Code → Asn, Z = fun x => bun (obA l (.loop (rj x.2)) :: L x.1) := ⟨_, rfl⟩
  have hs2 : St w0 M (Z (x0, none) :: (obA D (.deferred (some [])) :: Hk)) w1 := by
    rw [hZ]
    simp only [hn]
    exact bun_in (L := obA l (.loop (rec .ready none)) :: L x0) hs1
  have hsz : w.heap.size ≤ w1.heap.size := by rw [← hw1]; simp; omega
  have hit1 := hit w1 (hs1.tail.perm ((List.perm_middle).trans (List.Perm.refl _)) |>.tail)
  have hagain : St w1 (owns [Z (x0, none)]) [Z (x0, none)] w1 := St.again (As := [Z (x0, none)]) hs2
  refine ⟨l, mark D, w1, { target := .fn (.func gf) lb.toArray, args := #[.func (.yield l) #[] #[]] }, w1, gf, #[.func (.yield l) #[] #[]] ++ lb.toArray, w1, ?_, ?_, fun _ _ => trivial, ?_, fun h => (by cases h), ?_⟩
  · have := run_enterLoop_outer (P := P) (w := w) fn a.tmps ps.toArray as bd
    rw [hl] at this
    rw [← hw1, hrec, ← hD]
    exact this
  · have e1 := ha.eval hg
    have e2 : a.eval (.const (.func (.yield l) #[] #[])) = .func (.yield l) #[] #[] := rfl
    simp [resolve, rangeCall, e1, e2, Deferred.ofValue]
  · have := callFunc_run hfn (#[.func (.yield l) #[] #[]] ++ lb.toArray) w1
    simpa [invoke] using this
  refine callsIn_wide.2 ?_
  have hcall := hit1 l (X × Option Code) Z (fun i x => x.2 = none ∧ I i x.1) (fun i x => x.2 = some .ret ∧ S i x.1) (x0, none) ⟨rfl, h0⟩ hagain (fun q hq ho => ?_) ?_
  · have e3 : (Value.func (.yield l) #[] #[] :: lb).toArray = #[.func (.yield l) #[] #[]] ++ lb.toArray := by simp
    unfold Gives at hcall
    rw [e3] at hcall
    refine hcall.mono fun e w3 ⟨y, he, hy, hS3⟩ => ?_
    subst he
    have h4 : St w0 M ([Z y.1] ++ (obA D (.deferred (some [])) :: Hk)) w3 := St.call (As := [Z (x0, none)]) hs2 hS3
    obtain ⟨⟨y1, y2⟩, y3⟩ := y
    have hfin : ∀ (st : LoopState) (pe : Option Code), St w0 M (obA l (.loop (rec st pe)) :: (L y1 ++ (obA D (.deferred (some [])) :: Hk))) w3 → st ≠ .busy → ∃ w4, (Instr.endLoop l).run P w3 = .ok pe w4 ∧ St w0 M (obA D (.deferred (some [])) :: (L y1 ++ Hk)) w4 := fun st pe h hb => by
      have h5 := run_endLoop (P := P) (obA_at h) (by rw [hrec]; exact hb)
      refine ⟨_, by rw [h5, hrec]; rfl, ?_⟩
      exact ((obA_put _ h).tail).perm List.perm_middle
    have hdef : mark D ++ a.defers = mark D := by rw [had]; rfl
    rw [hZ] at h4
    cases y3 with
    | none =>
      obtain ⟨rfl, hI⟩ : y2 = none ∧ I es.length y1 := hy
      obtain ⟨w4, h5, h6⟩ := hfin .ready none (by simp only [hn] at h4; exact bun_out h4) (by decide)
      refine ⟨none, w4, h5, ?_⟩
      have := (done y1 D hI).runD { a with defers := mark D ++ a.defers } w4 hdef ⟨ha.size, ha.at_⟩ h6
      rwa [QS_cast] at this
    | some i =>
      obtain ⟨hi, rfl, hSt⟩ : i < es.length ∧ y2 = some .ret ∧ S i y1 := hy
      obtain ⟨w4, h5, h6⟩ := hfin .done (some .ret) (by simp only [hsm] at h4; exact bun_out h4) (by decide)
      refine ⟨some .ret, w4, h5, ?_⟩
      have := (stop y1 D i hi hSt).runD { a with defers := mark D ++ a.defers } w4 hdef ⟨ha.size, ha.at_⟩ h6
      rw [QS_cast] at this
      exact this
  · have h5 := hF w hs0 q hq
    rw [hZ] at ho
    obtain ⟨A, hA, hk⟩ := owns_bun.1 ho
    rcases List.mem_cons.1 hA with rfl | hA
    · have hk : q = l := hk
      omega
    · exact h5.1 ⟨A, hA, hk⟩
  · rintro i ⟨x, x2⟩ w' ⟨hx2, hI⟩ hi hSw
    obtain rfl : x2 = none := hx2
    have h4 : St w0 M (Z (x, none) :: (obA D (.deferred (some [])) :: Hk)) w' := St.call (As := [Z (x0, none)]) hs2 hSw
    rw [hZ] at h4
    simp only [hn] at h4
    have h5 : St w0 M (obA l (.loop (rec .ready none)) :: (L x ++ (obA D (.deferred (some [])) :: Hk))) w' := bun_out h4
    have h6 : St w0 M (L x ++ Hk) w' := (h5.tail.perm List.perm_middle).tail
    have hat := obA_at h5
    have hlen : (es.getD i []).length = ps.length := hes _ (by simp [List.getD, hi])
    have hr0 := round i x w' hI hi h6
    have hag : St w' (owns (obA l (.loop (rec .ready none)) :: L x)) (obA l (.loop (rec .ready none)) :: L x) w' := St.again (As := obA l (.loop (rec .ready none)) :: L x) (Hr := obA D (.deferred (some [])) :: Hk) h5
    refine ⟨fn, ((ps.toArray.zip (es.getD i []).toArray).foldl (fun tmps (t, a) => tmps.setIfInBounds t a) a.tmps), as, bd, ?_, roundIn_of_wpIn trivial ?_⟩
    · have h7 := run_yield (P := P) (args := (es.getD i []).toArray) hat (by rw [hrec]; simpa [recL] using hlen)
      rw [h7, hrec]
      rfl
    · have hf : ((ps.toArray.zip (es.getD i []).toArray).foldl (fun tmps (x : Tmp × Value) => tmps.setIfInBounds x.1 x.2) a.tmps) = ((ps.zip (es.getD i [])).foldl (fun tmps (x : Tmp × Value) => tmps.setIfInBounds x.1 x.2) a.tmps) := by
        rw [← Array.foldl_toList, Array.toList_zip]
      have hTm : Tm n { tmps := ((ps.toArray.zip (es.getD i []).toArray).foldl (fun tmps (x : Tmp × Value) => tmps.setIfInBounds x.1 x.2) a.tmps), defers := [] } (tputs ps (es.getD i []) T) := by
        rw [hf]
        exact Tm.puts ps (es.getD i []) a T ha hps
      obtain ⟨R, hR⟩ : ∃ R : Ending → World → Prop, R = fun e w'' => ∃ (y : X × Option Code) (b : Bool), e = .returned (.bool b) ∧ (b = true → y.2 = none ∧ I (i + 1) y.1) ∧ (b = false → y.2 = some .ret ∧ S i y.1) ∧ St w' (owns [Z (x, none)]) [Z y] w'' := ⟨_, rfl⟩
      rw [← hR]
      have hclose : ∀ (y : X) (j : Option Code) (w2 : World), St w' (owns (obA l (.loop (rec .ready none)) :: L x)) (obA l (.loop (rj j)) :: L y) w2 → St w' (owns [Z (x, none)]) [Z (y, j)] w2 := fun y j w2 h => by
        rw [hZ]
        simp only [hn]
        refine St.own (bun_in (H := []) (L := obA l (.loop (rj j)) :: L y) (by rw [List.append_nil]; exact h)) fun q => owns_bun.symm
      have := hr0 l (obA l (.loop (rec .ready none))) (obA l (.loop { rec .ready none with state := .busy })) (fun _ _ _ => False) (roundPost P l R) (fun a₁ w₁ => ∃ w₂, (Instr.beginRound l).run P w₁ = .ok () w₂ ∧ bd.wpIn (Fw (some l)) 0 P (roundPost P l R) a₁ w₂) (by
          have h7 : St w0 M (obA D (.deferred (some [])) :: (obA l (.loop (rec .ready none)) :: (L x ++ Hk))) w' := h5.perm ((List.Perm.cons _ List.perm_middle).trans (List.Perm.swap _ _ _))
          exact h7.tail)
        (fun T1 H1 H1' hbody hsub => ⟨fun a w2 had2 ha2 hs2 => ⟨w2.putObj l _, run_beginRound (obA_at (hsub w2 hs2)) (by rw [hrec]; rfl), hbody.runD a _ had2 ha2 (obA_put _ (hsub w2 hs2))⟩⟩)
        (fun y T1 H1 hI1 hsub => ⟨fun a w2 _ _ hs2 => by
          have h8 := hsub w2 hs2
          refine ⟨_, _, run_endRound none (obA_at h8), ?_⟩
          rw [hR]
          refine ⟨(y, none), true, rfl, fun _ => ⟨rfl, hI1⟩, fun h => (by cases h), hclose y none _ ?_⟩
          have h9 := obA_put (.loop { ({ rec .ready none with state := .busy } : Loop) with state := .ready, pending := none }) h8
          rw [hn]
          rw [hrec] at h9 ⊢
          exact h9⟩)
        (fun y c' k' T1 H1 hS1 hk' hsub => ⟨fun a w2 _ _ hs2 => by
          have h8 := hsub w2 hs2
          have e : c' = .ret := by cases c' <;> first | rfl | (cases hk'; done)
          subst e
          refine wpIn_ret (QS_ret (fun _ _ => .inr trivial) ?_)
          refine ⟨_, _, run_endRound (some .ret) (obA_at h8), ?_⟩
          rw [hR]
          refine ⟨(y, some .ret), false, rfl, fun h => (by cases h), fun _ => ⟨rfl, hS1⟩, hclose y (some .ret) _ ?_⟩
          have h9 := obA_put (.loop { ({ rec .ready none with state := .busy } : Loop) with state := .done, pending := some .ret }) h8
          rw [hsm]
          rw [hrec] at h9 ⊢
          exact h9⟩)
      exact this.runD _ w' rfl hTm hag
end
/-- in a round: what there was, and what is kept, lies apart from what the round turns -/
theorem rd_rest {w0 w : World} {M : Nat → Prop} {sz n : Nat} {A : Option Addr} {xs : List Value} {As Hr : List Asn} (h : Rd w0 All sz A n xs) (hz : 0 < sz) (hM : ∀ k, ¬ M k) (hS : St w0 M (As ++ Hr) w) : Rd w (fun k => ¬ owns As k) sz A n xs :=
  ⟨h.1, fun hn => by
    obtain ⟨ad, e, _, hc⟩ := h.2 hn
    have hl : 0 < xs.length := by rw [h.1]; exact Nat.mul_pos hn hz
    have hb := World.block_lt_of_cell? w0 _ (hc 0 xs[0] (List.getElem?_eq_getElem hl))
    rw [block_of_add] at hb
    refine ⟨ad, e, fun ⟨B, hB, hk⟩ => ?_, fun j u hu => hS.kp.cell (by rw [block_of_add]; exact hM _) (hc j u hu)⟩
    rcases ((hS.all B (List.mem_append_left _ hB)).2 _ hk).1 with h1 | h1
    · exact hM _ h1
    · omega⟩
theorem rd_kept {w0 w : World} {M : Nat → Prop} {b t m : Nat} {cs : List Value} {As Hr : List Asn} [hm : Hat Hr b t cs] (hS : St w0 M (As ++ Hr) w) (hl : cs.length = m) : Rd w (fun k => ¬ owns As k) 1 (some ⟨b, 0, none⟩) m cs :=
  ⟨by omega, fun _ => ⟨_, rfl, fun ⟨B, hB, hk⟩ => (List.pairwise_append.1 hS.apart).2.2 B hB (pt b t cs) hm.mem b hk rfl, fun j v hj => by rw [add_plain]; exact hS.cell (List.mem_append_right _ hm.mem) (by simpa using hj)⟩⟩
/-- a function that ranges over functions, opened: its ends ahead of a range and behind one -/
theorem gives_M {P : Program} {f : FuncId} {fn : Func} {vs : List Value} {rs : List ResultVar} {n : Nat} {w : World} {As : List Asn} {X : Type} {V : X → Value} {I : X → Prop} {A : X → List Asn} (hf : P.funcs[f]? = some fn) (hb : fn.body.isSome = true) (hn : fn.ntmps = n) (hr : fn.results = rs.toArray)
    (hv : vs.length ≤ n) (hS : St w (owns As) As w) (h : ∀ B : Bk none [],
      (∀ (c : Code) (k : List It) (T : Slots) (H : List Asn) (us : List Value), kind c = .ret → Rets P n w (owns As) rs T H us → (∀ w', St w (owns As) H w' → ∃ x, retv us = V x ∧ I x ∧ St w (owns As) (A x) w') → RS P B n w (owns As) (.code c :: k) T H) →
      (∀ (D : Nat) (c : Code) (k : List It) (T : Slots) (H Hr : List Asn) (us : List Value), kind c = .ret → RemC H (obA D (.deferred (some []))) Hr → Rets P n w (owns As) rs T Hr us → (∀ w', St w (owns As) Hr w' → ∃ x, retv us = V x ∧ I x ∧ St w (owns As) (A x) w') → RS P (B.cast (mark D)) n w (owns As) (.code c :: k) T H) →
      RS P B n w (owns As) [.code (cbody fn)] (targs 0 vs) As) : Gives P f vs As w V I A := by
  obtain ⟨c, hc⟩ := Option.isSome_iff_exists.1 hb
  obtain ⟨R, hR⟩ : ∃ R : Ending → World → Prop, R = fun e w' => ∃ x, e = .returned (V x) ∧ I x ∧ St w (owns As) (A x) w' := ⟨_, rfl⟩
  unfold Gives
  rw [← hR]
  have hres : ∀ {T : Slots} {H : List Asn} {us : List Value} {a : Act} {w' : World}, Tm n a T → Rets P n w (owns As) rs T H us → St w (owns As) H w' → (results fn a.tmps).run P w' = .ok (retv us) w' := fun {T H us a w'} ha hrets hs => by
    have h1 := hrets.run a w' ha hs
    simp only [results, hr, List.mapM_toArray, Sem.run_bind, Sem.run_map]
    erw [h1]
    rcases us with _ | ⟨v, _ | ⟨u, us⟩⟩ <;> simp [retv]
  refine (callsIn_wide (n := 0)).1 (callsIn_of_wp_marks hf hc trivial ?_)
  have hmain := h (bodyPostM Fence.wide 0 P fn R) (fun c' k T H us hk hrets hw => ⟨fun a w' had ha hs => by
    have e : c' = .ret := by cases c' <;> first | rfl | (cases hk; done)
    subst e
    refine wpIn_ret (QS_ret (fun _ _ => .inr trivial) ?_)
    show LeavesInM Fence.wide 0 P fn a.tmps R a.defers .returning w'
    rw [had]
    obtain ⟨x, hx, hI, hA⟩ := hw w' hs
    exact ⟨retv us, hres ha hrets hs, by rw [hR]; exact ⟨x, by rw [hx], hI, hA⟩⟩⟩) (fun D c' k T H Hr us hk hrem hrets hw => ⟨fun a w' had ha hs => by
    have e : c' = .ret := by cases c' <;> first | rfl | (cases hk; done)
    subst e
    refine wpIn_ret (QS_ret (fun _ _ => .inr trivial) ?_)
    show LeavesInM Fence.wide 0 P fn a.tmps R a.defers .returning w'
    rw [had]
    have hs1 := hs.perm hrem.perm
    have hs2 := (obA_put (.deferred none) hs1).tail
    obtain ⟨x, hx, hI, hA⟩ := hw _ hs2
    exact ⟨by simp, .inl ⟨D, _, rfl, run_takeDeferred (obA_at hs1), retv us, hres ha hrets hs2, by rw [hR]; exact ⟨x, by rw [hx], hI, hA⟩⟩⟩⟩)
  have e : cbody fn = c := by unfold cbody; rw [hc]
  rw [e] at hmain
  refine hmain.runD _ w rfl ⟨?_, fun i v hi => ?_⟩ hS
  · simp [hn]; omega
  · obtain ⟨_, h2⟩ := tget_targs vs 0 i v hi
    have hlt := (List.getElem?_eq_some_iff.1 h2).1
    simp only [Nat.sub_zero] at hlt h2
    have h3 : (vs.toArray ++ Array.replicate (fn.ntmps - vs.toArray.size) undef)[i]? = vs[i]? := by rw [Array.getElem?_append_left (by simpa using hlt)]; simp
    exact h3.trans h2
end Go.Proofs.YtdeffdldifepkaaGreat
namespace Go.Proofs.YtdeffdldifepkaaGreat
open Go.RowKit
open Asn (pt row rb)
set_option linter.unusedVariables false
set_option linter.unusedSimpArgs false
section
variable {P : Program} {ro : Option Nat} {ds : List Deferred} {B : Bk ro ds} {n : Nat} {w0 : World} {M : Nat → Prop} {k : List It} {l : List Oper}
theorem Tk.sub {T' T : Slots} {H : List Asn} {o : Oper} {v : Value} (hs : Sub T' T) (h : Tk P n w0 M T' H o v) : Tk P n w0 M T H o v := ⟨fun a w ha hw => h.run a w (ha.sub hs) hw⟩
theorem Ef.sub {T' T : Slots} {H' H : List Asn} {o : Oper} {E : Value → List Asn → Prop} (hs : Sub T' T) (hh : ∀ w, St w0 M H w → St w0 M H' w) (h : Ef P n w0 M T' H' o E) : Ef P n w0 M T H o E := .mkIn fun a w ha hw => h.run a w (ha.sub hs) (hh w hw)
theorem RD_sub {L : Array Bool} {C : List Asn} {T' : Slots} {H' : List Asn} (h : RD P B n w0 M l k L C T' H') : ∀ {T : Slots} {H : List Asn}, Sub T' T → (∀ w, St w0 M H w → St w0 M H' w) → RD P B n w0 M l k L C T H := by
  induction h with
  | done hr h => intro T H hs hh; exact .done hr (RS_mem hh (RS_sub hs h))
  | take i ho hw hd hf hr ht _ ih => intro T H hs hh; exact .take i ho (wants_sub hs hw) hd hf hr (ht.sub hs) (ih (hs.put _ _) hh)
  | skip i ho hw hd hf hr _ ih => intro T H hs hh; exact .skip i ho (wants_sub hs hw) hd hf hr (ih (hs.put _ _) hh)
  | all rs hr hne E C' he hc _ ih =>
    intro T H hs hh
    refine .all rs hr hne E C' (fun i hi => ?_) hc fun i hi o ho v H2 hE => ih i hi o ho v H2 hE (hs.put _ _) fun _ h => h
    obtain ⟨o, h1, h2, h3, h4⟩ := he i hi
    exact ⟨o, h1, wants_sub hs h2, h3, h4.sub hs hh⟩
/-- on to a state that was walked already -/
theorem D_at {L L' : Array Bool} {C : List Asn} {T' T : Slots} {H' H : List Asn} (h : RD P B n w0 M l k L' C T' H') (hs : Sub T' T) (hh : ∀ w, St w0 M H w → St w0 M H' w) (hL : L = L') : RD P B n w0 M l k L C T H := by
  subst hL
  exact RD_sub h hs hh
/-- a state that many ways come to: walked once -/
theorem D_node {L : Array Bool} {C : List Asn} {T : Slots} {H : List Asn} {X : Type} (L' : Array Bool) (T' : X → Slots) (H' : X → List Asn) (h1 : (∀ x, RD P B n w0 M l k L' C (T' x) (H' x)) → RD P B n w0 M l k L C T H) (h2 : ∀ x, RD P B n w0 M l k L' C (T' x) (H' x)) : RD P B n w0 M l k L C T H := h1 h2
/-- the same, told the other way round -/
theorem D_nodeR {L : Array Bool} {C : List Asn} {T : Slots} {H : List Asn} {X : Type} (L' : Array Bool) (T' : X → Slots) (H' : X → List Asn) (h2 : ∀ x, RD P B n w0 M l k L' C (T' x) (H' x)) (h1 : (∀ x, RD P B n w0 M l k L' C (T' x) (H' x)) → RD P B n w0 M l k L C T H) : RD P B n w0 M l k L C T H := h1 h2
theorem D_four {T : Slots} {H : List Asn} {L : Array Bool} {C : List Asn} (i j m q : Nat) {oi oj om oq : Oper} {Ei Ej Em Eq' : Value → List Asn → Prop} (hi : l[i]? = some oi) (hj : l[j]? = some oj) (hm : l[m]? = some om) (hq : l[q]? = some oq) (ei : Ef P n w0 M T H oi Ei) (ej : Ef P n w0 M T H oj Ej) (em : Ef P n w0 M T H om Em) (eq' : Ef P n w0 M T H oq Eq')
    (h1 : ∀ v H', Ei v H' → Nx P B n w0 M l k L C i (tput oi.dst v T) H') (h2 : ∀ v H', Ej v H' → Nx P B n w0 M l k L C j (tput oj.dst v T) H') (h3 : ∀ v H', Em v H' → Nx P B n w0 M l k L C m (tput om.dst v T) H') (h4 : ∀ v H', Eq' v H' → Nx P B n w0 M l k L C q (tput oq.dst v T) H')
    (hwi : wants l T oi.guard = some true) (hwj : wants l T oj.guard = some true) (hwm : wants l T om.guard = some true) (hwq : wants l T oq.guard = some true) (hdi : dok n oi.dst = true) (hdj : dok n oj.dst = true) (hdm : dok n om.dst = true) (hdq : dok n oq.dst = true) (hr : Region.ready .any l.toArray L = [i, j, m, q]) : RD P B n w0 M l k L C T H := by
  refine D_fin hr (by simp) fun r hr => ?_
  rcases List.mem_cons.1 hr with rfl | hr
  · exact ⟨oi, Ei, hi, hwi, hdi, ei, h1⟩
  rcases List.mem_cons.1 hr with rfl | hr
  · exact ⟨oj, Ej, hj, hwj, hdj, ej, h2⟩
  rcases List.mem_cons.1 hr with rfl | hr
  · exact ⟨om, Em, hm, hwm, hdm, em, h3⟩
  obtain rfl : r = q := by simpa using hr
  exact ⟨oq, Eq', hq, hwq, hdq, eq', h4⟩
end
end Go.Proofs.YtdeffdldifepkaaGreat
