/- Ids: arrays of 32 bytes as values; whole fields read out of, and laid into, a block. -/
import Derived.Test.YtleecfhafnfeoaaB
import Derived.Deep.MidRow
import Derived.ChangeKeysEq
namespace Go.Proofs.Ytleecfhafnfeoaa
open Go.RowKit
open Go.Lib (hid)

/-- the cells of an Id -/
def ida (l : List UInt8) : Array Value := (l.map bv).toArray
/-- the Id of noughts -/
def zero32 : List UInt8 := List.replicate 32 0
theorem zero32_len : zero32.length = 32 := rfl

theorem run_part_byte (w : World) (l : List UInt8) (j : Nat) (hj : j < l.length) : (part 5 (ida l) j).run Try.prog w = .ok (.int .u8 ((l.getD j 0).toNat : Int)) w :=
  run_part_plain w (P := Try.prog) (by kernel_rfl) (by simp [ida, bv, hj])
theorem run_eqItems_bytes (w : World) (d : Nat) (l1 l2 : List UInt8) : ∀ is : List Nat, (∀ i ∈ is, i < l1.length ∧ i < l2.length) →
    (Op.eqItems (d + 1) 5 1 (ida l1) (ida l2) is).run Try.prog w = .ok (is.all fun i => l1.getD i 0 == l2.getD i 0) w := by
  intro is
  induction is with
  | nil => intro _; simp [Op.eqItems]
  | cons i is ih =>
    intro h
    obtain ⟨h1, h2⟩ := h i (by simp)
    have ih' := ih fun j hj => h j (by simp [hj])
    simp only [Op.eqItems, Nat.mul_one, Sem.run_bind, run_part_byte w l1 i h1, run_part_byte w l2 i h2, Result.andThen_ok, run_equalIn_int w d 5 .u8 .u8 _ _ Try.underlying5]
    have e : ((((l1.getD i 0).toNat : Int)) == ((l2.getD i 0).toNat : Int)) = (l1.getD i 0 == l2.getD i 0) := by
      rw [Bool.eq_iff_iff]
      simp [← UInt8.toNat_inj]
      omega
    rw [e, List.all_cons]
    generalize (l1.getD i 0 == l2.getD i 0) = bb
    cases bb
    · simp
    · simp only [Bool.true_and]
      rw [← ih']
      simp
theorem all_range_eq (l1 l2 : List UInt8) (n : Nat) (h1 : l1.length = n) (h2 : l2.length = n) : ((List.range n).all fun i => l1.getD i 0 == l2.getD i 0) = decide (l1 = l2) := by
  rw [Bool.eq_iff_iff]
  simp only [List.all_eq_true, List.mem_range, beq_iff_eq, decide_eq_true_eq]
  constructor
  · intro h
    apply List.ext_getElem (by omega)
    intro i hi1 hi2
    have := h i (by omega)
    simpa [hi1, hi2] using this
  · rintro rfl i _
    rfl
/-- two Ids are the same when their bytes are -/
theorem run_eq_id (w : World) (l1 l2 : List UInt8) (h1 : l1.length = 32) (h2 : l2.length = 32) : (Op.equalIn 10000 24 (.agg (ida l1)) (.agg (ida l2))).run Try.prog w = .ok (decide (l1 = l2)) w := by
  obtain ⟨i0, hi, hz0, hz1, hz2⟩ := info_parts u8_info
  rw [show 10000 = 9998 + 1 + 1 from rfl, run_equalIn_array w (9998 + 1) (ida l1) (ida l2) Try.underlying24 hi]
  have hc : Try.prog.cellsOf 5 = 1 := by kernel_rfl
  rw [hc, run_eqItems_bytes w 9998 l1 l2 _ (by intro i hi; simp at hi; omega), all_range_eq l1 l2 32 h1 h2]

section
variable {w : World} {ops : Array Oper} {rest : List Oper} {o : Oper} {a : Act} {Q : Exit → Act → World → Prop}
/-- an Id is read out of a field -/
theorem ld_id (hw : Region.wanted o (yielded ops a.tmps) = true) (x : Operand) (ho : o.op = .load 24 x) (b off : Nat) (hx : a.eval x = .pointer (some ⟨b, off, none⟩)) (l : List UInt8) (hl : l.length = 32) (hr : w.rangeAt b off (l.map bv))
    (h : wpList Try.prog ops Q rest (a.put o.dst (.agg (ida l))) w) : wpList Try.prog ops Q (o :: rest) a w :=
  wpList_wanted hw fun _ hK => wp_load_mid _ x ho b off hx (l.map bv) _ hr Try.underlying24 rfl (by rw [List.length_map, hl]; kernel_rfl) (hK _ _ h)
/-- the Id of noughts is made -/
theorem mk_zero (hw : Region.wanted o (yielded ops a.tmps) = true) (ho : o.op = .build 24 #[])
    (h : wpList Try.prog ops Q rest (a.put o.dst (.agg (ida zero32))) w) : wpList Try.prog ops Q (o :: rest) a w := by
  refine wpList_wanted hw fun _ hK => ?_
  have hb : Try.prog.built 24 [] = some (ida zero32) := by kernel_rfl
  have hr := run_build (P := Try.prog) w 24 #[] (ida zero32) hb
  unfold Oper.wp execOp
  simp only [ho, Array.map_empty, Sem.run_bind, hr, Result.andThen_ok]
  exact hK _ _ h
end
theorem range_of_blk {w : World} {g : Nat} {t : TypeId} {C : Array Value} (hB : Blk w g t C) (o : Nat) (cs : List Value) (h : ∀ j v, cs[j]? = some v → C[o + j]? = some v) : w.rangeAt g o cs := fun j v hv => by
  rw [hB.cell]
  exact h j v hv

section
variable {P : Program} {w : World} {ops : Array Oper} {rest : List Oper} {o : Oper} {a : Act} {Q : Exit → Act → World → Prop}
/-- a whole value is laid into a field of a block that is known whole -/
theorem run_storeAt_blk (g off : Nat) (ty T : TypeId) (cs D : List Value) (hB : Blk w g T cs.toArray) (hi : (P.info? ty).map (·.size) = some D.length) (h1 : ∀ v ∈ D, v.oneCell' = true) (hfit : off + D.length ≤ cs.length) :
    (Instr.storeAt ty (.pointer (some ⟨g, off, none⟩)) (.agg D.toArray)).run P w = .ok () (w.setRow g (cs.take off ++ D ++ cs.drop (off + D.length)).toArray) := by
  have this := run_storeCells_at P g off T D 0 cs.toArray w hB (by simpa using hfit) h1
  cases hq : P.info? ty with
  | none => simp [hq] at hi
  | some i =>
    have hs : i.size = D.length := by simpa [hq] using hi
    simp only [Nat.add_zero] at this
    simp only [Instr.storeAt, Instr.sureAddr, Sem.run_bind, Sem.run_pure, Result.andThen_ok]
    simp [storeVar, sizeOf, typeInfo, hq, Value.cells, hs, this]
theorem wpList_st_blk (hw : Region.wanted o (yielded ops a.tmps) = true) (ty : TypeId) (x y : Operand) (ho : o.op = .store ty x y) (g off : Nat) (T : TypeId) (cs D : List Value) (hx : a.eval x = .pointer (some ⟨g, off, none⟩)) (hy : a.eval y = .agg D.toArray)
    (hB : Blk w g T cs.toArray) (hi : (P.info? ty).map (·.size) = some D.length) (h1 : ∀ v ∈ D, v.oneCell' = true) (hfit : off + D.length ≤ cs.length)
    (h : ∀ w', Blk w' g T (cs.take off ++ D ++ cs.drop (off + D.length)).toArray → Kp (fun k => k ≠ g) w w' → Hid (w'.heap.size = w.heap.size) → wpList P ops Q rest (a.put o.dst undef) w') : wpList P ops Q (o :: rest) a w := by
  refine wpList_wanted hw fun _ hK => ?_
  have hr := run_storeAt_blk (P := P) g off ty T cs D hB hi h1 hfit
  unfold Oper.wp execOp
  simp only [ho, hx, hy, Sem.run_bind, hr, Result.andThen_ok]
  refine hK _ _ (h _ ?_ (Kp.setRow g _) (hid (by simp)))
  unfold Blk
  exact setRow_heap w g _ _ T _ hB
end
section
variable {w : World} {ops : Array Oper} {rest : List Oper} {o : Oper} {a : Act} {Q : Exit → Act → World → Prop}
theorem ida_one (l : List UInt8) : ∀ v ∈ l.map bv, v.oneCell' = true := bv_one l
/-- a variable that is an Id is made -/
theorem al_id (hw : Region.wanted o (yielded ops a.tmps) = true) (ho : o.op = .alloc 24)
    (h : wpList Try.prog ops Q rest (a.put o.dst (.pointer (some ⟨w.heap.size, 0, none⟩))) (w.alloc (.cells (ida zero32) 24))) : wpList Try.prog ops Q (o :: rest) a w := by
  refine wpList_wanted hw fun _ hK => ?_
  have hr : (execOp a.eval o).run Try.prog w = .ok (.value (.pointer (some ⟨w.heap.size, 0, none⟩))) (w.alloc (.cells (ida zero32) 24)) := by
    unfold execOp
    simp only [ho]
    kernel_rfl
  unfold Oper.wp
  rw [hr]
  exact hK _ _ h
end
end Go.Proofs.Ytleecfhafnfeoaa
