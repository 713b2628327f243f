/- Bytes: the operations on slices of bytes of this program. -/
import Derived.Test.YtdbehejbeioboaaDoorProg
import Derived.Test.YtdbehejbeioboaaDoorBe
import Derived.Deep.QuietTactic
import Derived.BigQuiet
namespace Go.Proofs.YtdbehejbeioboaaDoor
open Go.RowKit

theorem u8_info : (Tryd.prog.info? 5).map (fun i => (i.zero, i.size, i.bytes)) = some (some (.int .u8 0), 1, 1) := by kernel_rfl
theorem u8_size : (Tryd.prog.info? 5).map (·.size) = some 1 := by kernel_rfl

/-- a slice of bytes that is owned: its block is nobody else's -/
def Ob (w : World) (base : Nat) (A : Option Addr) (n c : Nat) (l : List UInt8) : Prop := w.ownsRow base 5 1 (.slice A n c) n (l.map bv)
/-- block g holds just these bytes -/
def Bb (w : World) (g : Nat) (l : List UInt8) : Prop := Blk w g 5 (l.map bv).toArray

theorem Bb.own {w : World} {g base n : Nat} {l : List UInt8} (h : Bb w g l) (hb : base ≤ g) (hn : l.length = n) (hm : n ≤ maxLen) : Ob w base (some ⟨g, 0, none⟩) n n l :=
  Blk.own h hb (Nat.le_refl _) hm (by simp [hn]) (by rw [← hn]; simp [List.take_of_length_le])
theorem Ob.bs {w : World} {base n c : Nat} {A : Option Addr} {l : List UInt8} (h : Ob w base A n c l) : Bs w (fun k => base ≤ k) A n c l := Bs.of_own h
theorem Ob.nil (w : World) (base : Nat) : Ob w base none 0 0 [] := World.ownsRow_nil w base _ 1
theorem Bb.bs {w : World} {g n : Nat} {l : List UInt8} (h : Bb w g l) (hn : l.length = n) (hm : n ≤ maxLen) : Bs w (fun k => k = g) (some ⟨g, 0, none⟩) n n l := by
  refine ⟨hn.symm, Nat.le_refl _, hm, by simp [hn], fun _ => ⟨_, rfl, rfl, fun j u hu => ?_⟩⟩
  have : (⟨g, 0, none⟩ : Addr).add j = ⟨g, j, none⟩ := by unfold Addr.add; split <;> simp_all
  rw [this, Blk.cell h]
  simpa using hu
theorem Bb.kp {w w' : World} {g : Nat} {l : List UInt8} {F : Nat → Prop} (h : Bb w g l) (hk : Kp F w w') (hF : F g) : Bb w' g l := Blk.kp h hk hF

section
variable (w : World) {ops : Array Oper} {rest : List Oper} {o : Oper} {a : Act} {Q : Exit → Act → World → Prop}
theorem mk_b (hg : Region.wanted o (yielded ops a.tmps) = true) (l c : Operand) (hop : o.op = Op.makeSlice 29 l c) (kl kc : IntKind) (L C : Int) (n m : Nat) (hl : a.eval l = .int kl L) (hc : a.eval c = .int kc C) (hL : L = (n : Int)) (hC : C = (m : Int)) (hnm : n ≤ m) (b2 : m ≤ 281474976710656)
    (hK : ∀ w', Bb w' w.heap.size (List.replicate m 0) → Kp All w w' → w.heap.size < w'.heap.size → wpList Tryd.prog ops Q rest (a.put o.dst (.slice (some ⟨w.heap.size, 0, none⟩) n m)) w') :
    wpList Tryd.prog ops Q (o :: rest) a w := by
  obtain ⟨i0, hi, hz0, hz1, hz2⟩ := info_parts u8_info
  refine wpList_make_blk w hg l c _ hop _ i0 _ 1 Tryd.underlying29 hi hz0 hz1 hz2 rfl kl kc L C n m hl hc hL hC hnm (by omega) (by simp only [maxLen]; omega) fun w' h1 h2 h3 => hK w' ?_ h2 h3
  unfold Bb
  rw [List.map_replicate]
  exact h1

theorem copy_b (hgd : Region.wanted o (yielded ops a.tmps) = true) (d s : Operand) (ho : o.op = .call { callee := .builtin .copy, args := #[d, s], argTypes := #[29, 29] })
    (g off dLen dCap sLen sCap : Nat) (A : Option Addr) (hd : a.eval d = .slice (some ⟨g, off, none⟩) dLen dCap) (hs : a.eval s = .slice A sLen sCap)
    (cur : List UInt8) (hg : Bb w g cur) (F : Nat → Prop) (l : List UInt8) (hr : Bs w F A sLen sCap l) (hfit : off + dLen ≤ cur.length)
    (h : ∀ w', Bb w' g (cur.take off ++ l.take dLen ++ cur.drop (off + min sLen dLen)) → Kp (fun k => k ≠ g) w w' → Hid (w'.heap.size = w.heap.size) → wpList Tryd.prog ops Q rest (a.put o.dst (.int .i64 (min sLen dLen : Nat))) w') :
    wpList Tryd.prog ops Q (o :: rest) a w := by
  have hl := hr.len
  have hm : (l.take dLen).length = min sLen dLen := by rw [List.length_take]; omega
  have hrd := (hr.head (k := min sLen dLen) (by omega)).rd
  have e1 : l.take (min sLen dLen) = l.take dLen := by
    rcases Nat.le_total sLen dLen with h | h
    · rw [Nat.min_eq_left h, List.take_of_length_le (by omega), List.take_of_length_le (by omega)]
    · rw [Nat.min_eq_right h]
  rw [e1] at hrd
  refine wpList_copy_blk w hgd d s _ _ ho 5 Tryd.underlying29 u8_size g off dLen dCap sLen sCap A hd hs (cur.map bv) 5 hg F ((l.take dLen).map bv) (by rw [List.length_map, hm]) (by rw [List.length_map, hm]; exact hrd) (by rw [List.length_map, hm, List.length_map]; omega) (bv_one _) fun w' h1 h2 h3 => ?_
  rw [List.length_map, hm] at *
  refine h w' ?_ h2 h3
  unfold Bb
  simpa using h1

theorem app_b (hgd : Region.wanted o (yielded ops a.tmps) = true) (s x : Operand) (ho : o.op = .call { callee := .builtin .append, args := #[s, x], argTypes := #[29, 29] })
    (base : Nat) (A0 : Option Addr) (n c0 : Nat) (l0 : List UInt8) (hs : a.eval s = .slice A0 n c0) (hown : Ob w base A0 n c0 l0)
    (F : Nat → Prop) (A : Option Addr) (m c : Nat) (l : List UInt8) (hx : a.eval x = .slice A m c) (hr : Bs w F A m c l) (hb : n + m ≤ 140737488355328) (hbase : base ≤ w.heap.size)
    (h : ∀ A' c' w', Ob w' base A' (n + m) c' (l0 ++ l) → Kp (fun k => some k ≠ (Value.slice A0 n c0).ownBlock) w w' → ((Value.slice A' (n + m) c').ownBlock = (Value.slice A0 n c0).ownBlock ∨ (Value.slice A' (n + m) c').ownBlock = some w.heap.size) → wpList Tryd.prog ops Q rest (a.put o.dst (.slice A' (n + m) c')) w') :
    wpList Tryd.prog ops Q (o :: rest) a w := by
  obtain ⟨i0, hi, hz0, hz1, hz2⟩ := info_parts u8_info
  refine wpList_append_rd w hgd s x _ ho base _ i0 _ 1 1 Tryd.underlying29 hi hz0 hz1 hz2 rfl (by omega) _ n (l0.map bv) hs hown F A m c (l.map bv) hx hr.rd (bv_one _) (by simp only [maxLen]; omega) (by omega) hbase fun A' c' w' h1 h2 h3 => ?_
  rw [← List.map_append] at h1
  exact h A' c' w' h1 h2 h3
end

/-- the address behind 's[k:]' -/
def cutA (A : Option Addr) (c k : Nat) : Option Addr := if c = k then A else A.map (·.add k)
theorem Bs.cutA {w : World} {F : Nat → Prop} {A : Option Addr} {n c : Nat} {l : List UInt8} (h : Bs w F A n c l) {k : Nat} (hk : k ≤ n) : Bs w F (cutA A c k) (n - k) (c - k) (l.drop k) := h.cut hk
set_option maxRecDepth 100000 in
theorem run_cut_b (w : World) (A : Option Addr) (n c k : Nat) (hk : k ≤ n) :
    (Instr.slice 29 (.slice A n c) (some (.int .i64 (k : Int))) none none).run Tryd.prog w = .ok (.slice (cutA A c k) (n - k) (c - k)) w := by
  rw [run_slice_l w 29 A n c Tryd.underlying29 .i64 (k : Int) (by omega) (by omega)]
  have hs : (sizeOf (Tryd.prog.elem 29)).run Tryd.prog w = .ok 1 w := by kernel_rfl
  rw [hs]
  simp [sliced, Go.Proofs.YtdbehejbeioboaaDoor.cutA]

theorem Ob.kp {w w' : World} {base n c : Nat} {A : Option Addr} {l : List UInt8} {F : Nat → Prop} (h : Ob w base A n c l) (hk : Kp F w w') (hF : ∀ g, (Value.slice A n c).ownBlock = some g → F g) : Ob w' base A n c l := own_kp h hk hF
theorem Ob.all {w w' : World} {base n c : Nat} {A : Option Addr} {l : List UInt8} (h : Ob w base A n c l) (hk : Kp All w w') : Ob w' base A n c l := own_kp h hk fun _ _ => trivial
theorem Ob.base {w : World} {base base' n c : Nat} {A : Option Addr} {l : List UInt8} (h : Ob w base A n c l) (hb : base' ≤ base) : Ob w base' A n c l := own_base h hb
theorem Ob.lt {w : World} {base n c : Nat} {A : Option Addr} {l : List UInt8} (h : Ob w base A n c l) : ∀ k, (Value.slice A n c).ownBlock = some k → base ≤ k ∧ k < w.heap.size := World.ownsRow.lt h
/-- what is kept while an owned slice is written -/
theorem Ob.old {w w1 w2 : World} {base n c : Nat} {A : Option Addr} {l : List UInt8} (h : Ob w1 base A n c l) (hb : w.heap.size ≤ base) (h1 : Kp All w w1) (h2 : Kp (fun k => some k ≠ (Value.slice A n c).ownBlock) w1 w2) : Kp All w w2 :=
  h1.since h2 fun i hi e => by have := h.lt i e.symm; omega
/-- a literal of bytes -/
theorem Bs.lit (w : World) (g : Nat) (l : List UInt8) (n : Nat) (cs : Array Value) (hg : g = w.heap.size) (hc : cs = (l.map bv).toArray) (hn : n = l.length) (hm : n ≤ maxLen) : Bs (w.alloc (.cells cs 5)) (fun k => k = w.heap.size) (some ⟨g, 0, none⟩) n n l := by
  subst hc hg
  exact Bb.bs (Blk.new w _ _) hn.symm hm
theorem bv_ofNat (Y : Nat) : bv (UInt8.ofNat Y) = .int .u8 ((Y : Int) % 256) := by simp [bv]

section
variable (w : World) {ops : Array Oper} {rest : List Oper} {o : Oper} {a : Act} {Q : Exit → Act → World → Prop}
/-- append onto nothing -/
theorem app_b0 (hgd : Region.wanted o (yielded ops a.tmps) = true) (s x : Operand) (ho : o.op = .call { callee := .builtin .append, args := #[s, x], argTypes := #[29, 29] })
    (base : Nat) (A0 : Option Addr) (c0 : Nat) (hs : a.eval s = .slice A0 0 c0) (hown : Ob w base A0 0 c0 [])
    (F : Nat → Prop) (A : Option Addr) (m c : Nat) (l : List UInt8) (hx : a.eval x = .slice A m c) (hr : Bs w F A m c l) (hb : m ≤ 140737488355328) (hbase : base ≤ w.heap.size)
    (h : ∀ A' c' w', Ob w' base A' m c' l → Kp (fun k => some k ≠ (Value.slice A0 0 c0).ownBlock) w w' → ((Value.slice A' m c').ownBlock = (Value.slice A0 0 c0).ownBlock ∨ (Value.slice A' m c').ownBlock = some w.heap.size) → wpList Tryd.prog ops Q rest (a.put o.dst (.slice A' m c')) w') :
    wpList Tryd.prog ops Q (o :: rest) a w := by
  refine app_b w hgd s x ho base A0 0 c0 [] hs hown F A m c l hx hr (by omega) hbase fun A' c' w' h1 h2 h3 => ?_
  rw [Nat.zero_add] at h1 h3 ⊢
  exact h A' c' w' h1 h2 h3
/-- append onto the empty literal, which the statement has just made -/
theorem app_lit (hgd : Region.wanted o (yielded ops a.tmps) = true) (s x : Operand) (ho : o.op = .call { callee := .builtin .append, args := #[s, x], argTypes := #[29, 29] })
    (hs : a.eval s = .slice (some ⟨w.heap.size, 0, none⟩) 0 0)
    (F : Nat → Prop) (A : Option Addr) (m c : Nat) (l : List UInt8) (hx : a.eval x = .slice A m c) (hr : Bs w F A m c l) (hb : m ≤ 140737488355328)
    (h : ∀ A' c' w', Ob w' w.heap.size A' m c' l → Kp All w w' → wpList Tryd.prog ops Q rest (a.put o.dst (.slice A' m c')) w') :
    wpList Tryd.prog ops Q (o :: rest) a (w.alloc (.cells #[] 5)) := by
  refine app_b0 _ hgd s x ho w.heap.size _ 0 hs (World.ownsRow_lit w #[] 0 (Nat.le_refl _) (by simp) rfl) F A m c l hx (hr.keep (Kp.alloc _ _)) hb (by simp) fun A' c' w' h1 h2 _ => ?_
  exact h A' c' w' h1 ((Kp.alloc _ _).since h2 (by intro i hi; simp [Value.ownBlock]; omega))
end

theorem Ob.addr {w : World} {base n c : Nat} {A : Option Addr} {l : List UInt8} (h : Ob w base A n c l) (hn : 0 < n) : ∃ g, A = some ⟨g, 0, none⟩ ∧ base ≤ g ∧ g < w.heap.size ∧ (Value.slice A n c).ownBlock = some g := by
  obtain ⟨g, cs, rfl, hb, hh, _, _⟩ := own_blk h hn
  exact ⟨g, rfl, hb, hh.lt, rfl⟩
end Go.Proofs.YtdbehejbeioboaaDoor
