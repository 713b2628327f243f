/- Bytes: the operations on slices of bytes of this program. -/
import Derived.Test.YtghfjfgpiomdhaaProg
import Derived.Test.YtghfjfgpiomdhaaBe
import Derived.Deep.QuietTactic
import Derived.BigQuiet
namespace Go.Proofs.Ytghfjfgpiomdhaa
open Go.RowKit

theorem u8_info : (Try.prog.info? 5).map (fun i => (i.zero, i.size, i.bytes)) = some (some (.int .u8 0), 1, 1) := by kernel_rfl
theorem u8_size : (Try.prog.info? 5).map (·.size) = some 1 := by kernel_rfl

/-- a slice of bytes that is owned: its block is nobody else's -/
def Ob (w : World) (base : Nat) (A : Option Addr) (n c : Nat) (l : List UInt8) : Prop := w.ownsRow base 5 1 (.slice A n c) n (l.map bv)
/-- block g holds just these bytes -/
def Bb (w : World) (g : Nat) (l : List UInt8) : Prop := Blk w g 5 (l.map bv).toArray

theorem Bb.own {w : World} {g base n : Nat} {l : List UInt8} (h : Bb w g l) (hb : base ≤ g) (hn : l.length = n) (hm : n ≤ maxLen) : Ob w base (some ⟨g, 0, none⟩) n n l :=
  Blk.own h hb (Nat.le_refl _) hm (by simp [hn]) (by rw [← hn]; simp [List.take_of_length_le])
theorem Ob.bs {w : World} {base n c : Nat} {A : Option Addr} {l : List UInt8} (h : Ob w base A n c l) : Bs w (fun k => base ≤ k) A n c l := Bs.of_own h
theorem Ob.nil (w : World) (base : Nat) : Ob w base none 0 0 [] := World.ownsRow_nil w base _ 1
theorem Bb.bs {w : World} {g n : Nat} {l : List UInt8} (h : Bb w g l) (hn : l.length = n) (hm : n ≤ maxLen) : Bs w (fun k => k = g) (some ⟨g, 0, none⟩) n n l := by
  refine ⟨hn.symm, Nat.le_refl _, hm, by simp [hn], fun _ => ⟨_, rfl, rfl, fun j u hu => ?_⟩⟩
  have : (⟨g, 0, none⟩ : Addr).add j = ⟨g, j, none⟩ := by unfold Addr.add; split <;> simp_all
  rw [this, Blk.cell h]
  simpa using hu
theorem Bb.kp {w w' : World} {g : Nat} {l : List UInt8} {F : Nat → Prop} (h : Bb w g l) (hk : Kp F w w') (hF : F g) : Bb w' g l := Blk.kp h hk hF

section
variable (w : World) {ops : Array Oper} {rest : List Oper} {o : Oper} {a : Act} {Q : Exit → Act → World → Prop}
end

/-- the address behind 's[k:]' -/
def cutA (A : Option Addr) (c k : Nat) : Option Addr := if c = k then A else A.map (·.add k)
theorem Bs.cutA {w : World} {F : Nat → Prop} {A : Option Addr} {n c : Nat} {l : List UInt8} (h : Bs w F A n c l) {k : Nat} (hk : k ≤ n) : Bs w F (cutA A c k) (n - k) (c - k) (l.drop k) := h.cut hk
theorem Ob.kp {w w' : World} {base n c : Nat} {A : Option Addr} {l : List UInt8} {F : Nat → Prop} (h : Ob w base A n c l) (hk : Kp F w w') (hF : ∀ g, (Value.slice A n c).ownBlock = some g → F g) : Ob w' base A n c l := own_kp h hk hF
theorem Ob.all {w w' : World} {base n c : Nat} {A : Option Addr} {l : List UInt8} (h : Ob w base A n c l) (hk : Kp All w w') : Ob w' base A n c l := own_kp h hk fun _ _ => trivial
theorem Ob.base {w : World} {base base' n c : Nat} {A : Option Addr} {l : List UInt8} (h : Ob w base A n c l) (hb : base' ≤ base) : Ob w base' A n c l := own_base h hb
theorem Ob.lt {w : World} {base n c : Nat} {A : Option Addr} {l : List UInt8} (h : Ob w base A n c l) : ∀ k, (Value.slice A n c).ownBlock = some k → base ≤ k ∧ k < w.heap.size := World.ownsRow.lt h
/-- what is kept while an owned slice is written -/
theorem Ob.old {w w1 w2 : World} {base n c : Nat} {A : Option Addr} {l : List UInt8} (h : Ob w1 base A n c l) (hb : w.heap.size ≤ base) (h1 : Kp All w w1) (h2 : Kp (fun k => some k ≠ (Value.slice A n c).ownBlock) w1 w2) : Kp All w w2 :=
  h1.since h2 fun i hi e => by have := h.lt i e.symm; omega
/-- a literal of bytes -/
theorem Bs.lit (w : World) (g : Nat) (l : List UInt8) (n : Nat) (cs : Array Value) (hg : g = w.heap.size) (hc : cs = (l.map bv).toArray) (hn : n = l.length) (hm : n ≤ maxLen) : Bs (w.alloc (.cells cs 5)) (fun k => k = w.heap.size) (some ⟨g, 0, none⟩) n n l := by
  subst hc hg
  exact Bb.bs (Blk.new w _ _) hn.symm hm
theorem bv_ofNat (Y : Nat) : bv (UInt8.ofNat Y) = .int .u8 ((Y : Int) % 256) := by simp [bv]

section
variable (w : World) {ops : Array Oper} {rest : List Oper} {o : Oper} {a : Act} {Q : Exit → Act → World → Prop}
end

theorem Ob.cellAt {w : World} {base g n c : Nat} {l : List UInt8} (h : Ob w base (some ⟨g, 0, none⟩) n c l) {j : Nat} (hj : j < n) : w.cell? ⟨g, j, none⟩ = some (.int .u8 ((l.getD j 0).toNat : Int)) := by
  have hl := h.bs.len
  rw [World.ownsRow.cellAt h j (by omega), List.getElem?_map, List.getElem?_eq_getElem (by omega)]
  simp [bv, List.getElem?_eq_getElem (show j < l.length by omega)]
theorem Ob.frozenAt {w : World} {base g n c : Nat} {l : List UInt8} (h : Ob w base (some ⟨g, 0, none⟩) n c l) (j : Nat) : w.frozen? ⟨g, j, none⟩ = false := World.ownsRow.frozenAt h j
theorem Ob.stored {w : World} {base g n c : Nat} {l : List UInt8} (h : Ob w base (some ⟨g, 0, none⟩) n c l) (j : Nat) (b : UInt8) (u : Value) (hu : u = bv b) : Ob (w.setCell ⟨g, j, none⟩ u) base (some ⟨g, 0, none⟩) n c (l.set j b) := by
  subst hu
  unfold Ob
  rw [List.map_set]
  exact (World.ownsRow.stored h j (bv b)).1
theorem bv_wrap (z : Int) : Value.int .u8 (IntKind.u8.wrap z) = bv (UInt8.ofNat (z % 256).toNat) := by
  rw [IntKind.wrap_u8, bv]
  simp
  omega
theorem bv_mod (z : Int) : Value.int .u8 (z % 256) = bv (UInt8.ofNat (z % 256).toNat) := by
  rw [bv]
  simp
  omega
theorem Ob.bs_own {w : World} {base n c : Nat} {A : Option Addr} {l : List UInt8} {F : Nat → Prop} (h : Ob w base A n c l) (hF : ∀ b, (Value.slice A n c).ownBlock = some b → F b) : Bs w F A n c l := by
  have hb := h.bs
  refine ⟨hb.len, hb.cap, hb.capm, hb.rd.1, fun hn => ?_⟩
  obtain ⟨ad, e, _, hc⟩ := hb.rd.2 hn
  subst e
  exact ⟨ad, rfl, hF _ rfl, hc⟩
theorem bits_bv (op : BinOp) (x y : Int) : ∃ b, Value.int .u8 (bits op .u8 x y) = bv b := by
  unfold bits
  split <;> first | exact ⟨_, bv_wrap _⟩ | skip
theorem Ob.addr {w : World} {base n c : Nat} {A : Option Addr} {l : List UInt8} (h : Ob w base A n c l) (hn : 0 < n) : ∃ g, A = some ⟨g, 0, none⟩ ∧ base ≤ g ∧ g < w.heap.size ∧ (Value.slice A n c).ownBlock = some g := by
  obtain ⟨g, cs, rfl, hb, hh, _, _⟩ := own_blk h hn
  exact ⟨g, rfl, hb, hh.lt, rfl⟩
end Go.Proofs.Ytghfjfgpiomdhaa
