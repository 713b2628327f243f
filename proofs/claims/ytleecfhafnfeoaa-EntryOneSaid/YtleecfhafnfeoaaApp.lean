/- append: of a text; of bytes and of a text in a region that draws its order; a stretch of a block as a slice. -/
import Derived.Test.YtleecfhafnfeoaaB
import Derived.Lib.AppendStr
import Derived.Deep.RegionHeld3
import Derived.Deep.MidRow
namespace Go.Proofs.Ytleecfhafnfeoaa
open Go.RowKit
open Go.Lib (hid)

theorem str_cells (b : ByteArray) : Go.Lib.strCells b = b.data.toList.map bv := rfl
theorem run_app_s (w : World) (ty : TypeId) (base : Nat) (A0 : Option Addr) (n c0 : Nat) (l0 : List UInt8) (hown : Ob w base A0 n c0 l0) (b : ByteArray) (hb : n + b.size ≤ 140737488355328) (hbase : base ≤ w.heap.size) :
    ∃ A' c' w', (Builtin.append_ #[25, 9] ty #[.slice A0 n c0, .string b]).run Try.prog w = .ok (.slice A' (n + b.size) c') w' ∧ Ob w' base A' (n + b.size) c' (l0 ++ b.data.toList) ∧ Kp (fun k => some k ≠ (Value.slice A0 n c0).ownBlock) w w' := by
  have hq : ∃ i, Try.prog.info? 5 = some i ∧ i.zero = some (.int .u8 0) ∧ i.size = 1 ∧ i.bytes = 1 := by
    obtain ⟨i, hi, h0, h1, h2⟩ := info_parts u8_info
    exact ⟨i, hi, h0, h1, h2⟩
  obtain ⟨i, hi, hz0, hz1, hz2⟩ := hq
  obtain ⟨v', w', hr, h2, h3, h4⟩ := Go.Lib.run_append_own_string (P := Try.prog) w base 25 9 ty 5 i Try.underlying25 Try.underlying9 hi hz0 hz1 hz2 (.slice A0 n c0) n (l0.map bv) hown b (by unfold maxLen; omega) hb hbase
  obtain ⟨A', c', rfl, _, _⟩ := own_form h2
  refine ⟨A', c', w', hr, ?_, Kp.of_grown h3⟩
  unfold Ob
  rw [List.map_append, ← str_cells]
  exact h2

section
variable (w : World) {ops : Array Oper} {rest : List Oper} {o : Oper} {a : Act} {Q : Exit → Act → World → Prop}
theorem wp_app_b {K : Act → World → Prop} (s x : Operand) (ho : o.op = .call { callee := .builtin .append, args := #[s, x], argTypes := #[25, 25] })
    (base : Nat) (A0 : Option Addr) (n c0 : Nat) (l0 : List UInt8) (hs : a.eval s = .slice A0 n c0) (hown : Ob w base A0 n c0 l0)
    (F : Nat → Prop) (A : Option Addr) (m c : Nat) (l : List UInt8) (hx : a.eval x = .slice A m c) (hr : Bs w F A m c l) (hb : n + m ≤ 140737488355328) (hbase : base ≤ w.heap.size)
    (h : ∀ A' c' w', Ob w' base A' (n + m) c' (l0 ++ l) → Kp (fun k => some k ≠ (Value.slice A0 n c0).ownBlock) w w' → K (a.put o.dst (.slice A' (n + m) c')) w') :
    o.wp Try.prog a w K Q := by
  obtain ⟨i0, hi, hz0, hz1, hz2⟩ := info_parts u8_info
  refine wp_append_rd w s x _ ho base _ i0 _ 1 1 Try.underlying25 hi hz0 hz1 hz2 rfl (by omega) _ n (l0.map bv) hs hown F A m c (l.map bv) hx hr.rd (bv_one _) (by simp only [maxLen]; omega) (by omega) hbase fun A' c' w' h1 h2 h3 => ?_
  rw [← List.map_append] at h1
  exact h A' c' w' h1 h2
theorem wp_app_s {K : Act → World → Prop} (s x : Operand) (ho : o.op = .call { callee := .builtin .append, args := #[s, x], argTypes := #[25, 9] })
    (base : Nat) (A0 : Option Addr) (n c0 : Nat) (l0 : List UInt8) (hs : a.eval s = .slice A0 n c0) (hown : Ob w base A0 n c0 l0)
    (b : ByteArray) (hx : a.eval x = .string b) (hb : n + b.size ≤ 140737488355328) (hbase : base ≤ w.heap.size)
    (h : ∀ A' c' w', Ob w' base A' (n + b.size) c' (l0 ++ b.data.toList) → Kp (fun k => some k ≠ (Value.slice A0 n c0).ownBlock) w w' → K (a.put o.dst (.slice A' (n + b.size) c')) w') :
    o.wp Try.prog a w K Q := by
  obtain ⟨A', c', w', hr, h1, h2⟩ := run_app_s w o.type base A0 n c0 l0 hown b hb hbase
  unfold Oper.wp execOp
  simp only [ho, resolve, invoke, builtin, Sem.run_bind, Sem.run_pure, Result.andThen_ok, List.map_toArray, List.map_cons, List.map_nil, hs, hx, hr]
  exact h A' c' w' h1 h2
theorem app_s (hgd : Region.wanted o (yielded ops a.tmps) = true) (s x : Operand) (ho : o.op = .call { callee := .builtin .append, args := #[s, x], argTypes := #[25, 9] })
    (base : Nat) (A0 : Option Addr) (n c0 : Nat) (l0 : List UInt8) (hs : a.eval s = .slice A0 n c0) (hown : Ob w base A0 n c0 l0)
    (b : ByteArray) (hx : a.eval x = .string b) (hb : n + b.size ≤ 140737488355328) (hbase : base ≤ w.heap.size)
    (h : ∀ A' c' w', Ob w' base A' (n + b.size) c' (l0 ++ b.data.toList) → Kp (fun k => some k ≠ (Value.slice A0 n c0).ownBlock) w w' → wpList Try.prog ops Q rest (a.put o.dst (.slice A' (n + b.size) c')) w') :
    wpList Try.prog ops Q (o :: rest) a w :=
  wpList_wanted hgd fun _ hK => wp_app_s w s x ho base A0 n c0 l0 hs hown b hx hb hbase fun A' c' w' h1 h2 => hK _ _ (h A' c' w' h1 h2)
theorem step_b {K : Act → World → Prop} {E : Prop} (hgd : o.guard = none) (s x : Operand) (ho : o.op = .call { callee := .builtin .append, args := #[s, x], argTypes := #[25, 25] })
    (base : Nat) (A0 : Option Addr) (n c0 : Nat) (l0 : List UInt8) (hs : a.eval s = .slice A0 n c0) (hown : Ob w base A0 n c0 l0)
    (F : Nat → Prop) (A : Option Addr) (m c : Nat) (l : List UInt8) (hx : a.eval x = .slice A m c) (hr : Bs w F A m c l) (hb : n + m ≤ 140737488355328) (hbase : base ≤ w.heap.size)
    (h : ∀ A' c' w', Ob w' base A' (n + m) c' (l0 ++ l) → Kp (fun k => some k ≠ (Value.slice A0 n c0).ownBlock) w w' → K (a.put o.dst (.slice A' (n + m) c')) w') :
    if Region.wanted o (yielded ops a.tmps) = true then Oper.wp Try.prog o a w K Q else E := by
  have hw : Region.wanted o (yielded ops a.tmps) = true := by simp [Region.wanted, hgd]
  rw [if_pos hw]
  exact wp_app_b w s x ho base A0 n c0 l0 hs hown F A m c l hx hr hb hbase h
theorem step_s {K : Act → World → Prop} {E : Prop} (hgd : o.guard = none) (s x : Operand) (ho : o.op = .call { callee := .builtin .append, args := #[s, x], argTypes := #[25, 9] })
    (base : Nat) (A0 : Option Addr) (n c0 : Nat) (l0 : List UInt8) (hs : a.eval s = .slice A0 n c0) (hown : Ob w base A0 n c0 l0)
    (b : ByteArray) (hx : a.eval x = .string b) (hb : n + b.size ≤ 140737488355328) (hbase : base ≤ w.heap.size)
    (h : ∀ A' c' w', Ob w' base A' (n + b.size) c' (l0 ++ b.data.toList) → Kp (fun k => some k ≠ (Value.slice A0 n c0).ownBlock) w w' → K (a.put o.dst (.slice A' (n + b.size) c')) w') :
    if Region.wanted o (yielded ops a.tmps) = true then Oper.wp Try.prog o a w K Q else E := by
  have hw : Region.wanted o (yielded ops a.tmps) = true := by simp [Region.wanted, hgd]
  rw [if_pos hw]
  exact wp_app_s w s x ho base A0 n c0 l0 hs hown b hx hb hbase h
end

/-- a stretch of a block, sliced -/
theorem Bs.of_range {w : World} {g off : Nat} {l : List UInt8} (hr : w.rangeAt g off (l.map bv)) (n : Nat) (hn : l.length = n) (hm : n ≤ maxLen) : Bs w (fun k => k = g) (some ⟨g, off, none⟩) n n l := by
  refine ⟨hn.symm, Nat.le_refl _, hm, by simp [hn], fun _ => ⟨_, rfl, rfl, fun j u hu => ?_⟩⟩
  have : (⟨g, off, none⟩ : Addr).add j = ⟨g, off + j, none⟩ := by unfold Addr.add; simp
  rw [this]
  exact hr j u hu
end Go.Proofs.Ytleecfhafnfeoaa
