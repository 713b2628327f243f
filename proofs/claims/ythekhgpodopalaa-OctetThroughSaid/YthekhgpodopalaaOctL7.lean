/- OctetParts: bytes in two parts are what they are in one; a number is what its halves are. -/
import Derived.Test.YthekhgpodopalaaOct8
import Derived.Test.YthekhgpodopalaaOpen
namespace Go.Proofs.Ythekhgpodopalaa
open Go.RowKit Go.ChangeShapes Go.WideShapes Go.ChangeAt
open Go.Lib (hid)

theorem tookN_ok (len k : Nat) (h : k ≤ len) : tookN len 0 (k : Int) = k := by unfold tookN; rw [if_pos (by omega)]; omega
theorem whyN_ok (len k : Nat) (h : k ≤ len) : whyN len 0 (k : Int) = 0 := by unfold whyN; rw [if_pos rfl, if_neg (by omega), if_neg (by omega)]
theorem RS.tight {w : World} {g : Nat} {F G : Nat → Prop} {l : List UInt8} {why : Int} (h : RS w g F l why) (hG : ∀ k, F k → k < w.heap.size → G k) (hg : ¬ G g) : RS w g G l why := by
  obtain ⟨A, n, c, h1, h2, h3⟩ := h
  exact ⟨A, n, c, h1, h2.tight hG, fun b hb e => hg (e ▸ hb)⟩
theorem RS.lt {w : World} {g : Nat} {F : Nat → Prop} {l : List UInt8} {why : Int} (h : RS w g F l why) : g < w.heap.size := by
  obtain ⟨_, _, _, h1, _⟩ := h
  exact Blk.lt h1
/-- the blocks of one reader, made between two sizes of memory -/
def Mid (a b g : Nat) : Nat → Prop := fun k => a ≤ k ∧ k < b ∧ k ≠ g
theorem read_mid (w : World) (A : Option Addr) (n c : Nat) (l : List UInt8) (F : Nat → Prop) (h : Bs w F A n c l) (hn : n ≤ 140737488355328) :
    Calls Try.prog 23 #[.slice A n c] w fun e w' => ∃ g, e = .returned (.pointer (some ⟨g, 0, none⟩)) ∧ w.heap.size ≤ g ∧ g < w'.heap.size ∧ RS w' g (Mid w.heap.size w'.heap.size g) l 0 ∧ Kp All w w' :=
  (read_any w A n c l F h hn).mono fun _ _ ⟨g, he, hg, hr, hk⟩ => ⟨g, he, hg, hr.lt, hr.tight (fun _ hk hl => ⟨hk.1, hl, hk.2⟩) (fun h => h.2.2 rfl), hk⟩
theorem raw_ok (w : World) (g : Nat) (F : Nat → Prop) (l : List UInt8) (k : Nat) (h : RS w g F l 0) (hlen : l.length ≤ 140737488355328) (hk : k ≤ l.length) :
    Calls Try.prog 30 #[.pointer (some ⟨g, 0, none⟩), .int .i64 k] w fun e w' => ∃ A' c', e = .returned (.slice A' k c') ∧
      Ob w' w.heap.size A' k c' (l.take k) ∧ RS w' g F (l.drop k) 0 ∧ Kp (fun b => b ≠ g) w w' := by
  have := raw_any w g F l 0 k h hlen
  rwa [tookN_ok _ _ hk, whyN_ok _ _ hk] at this
theorem u_ok_8 (w : World) (g : Nat) (F : Nat → Prop) (l : List UInt8) (h : RS w g F l 0) (hk : 1 ≤ l.length) :
    Calls Try.prog 26 #[.pointer (some ⟨g, 0, none⟩)] w fun e w' => e = .returned (.int .u8 (num (l.take 1))) ∧ RS w' g F (l.drop 1) 0 ∧ Kp (fun b => b ≠ g) w w' := by
  have := u_any_8 w g F l 0 h
  have e1 : tookN l.length 0 1 = 1 := tookN_ok l.length 1 hk
  have e2 : whyN l.length 0 1 = 0 := whyN_ok l.length 1 hk
  rw [e1, e2] at this
  exact this.mono fun _ _ ⟨a, b, c, _⟩ => ⟨a, b, c⟩
theorem u_ok_16 (w : World) (g : Nat) (F : Nat → Prop) (l : List UInt8) (h : RS w g F l 0) (hk : 2 ≤ l.length) :
    Calls Try.prog 27 #[.pointer (some ⟨g, 0, none⟩)] w fun e w' => e = .returned (.int .u16 (num (l.take 2))) ∧ RS w' g F (l.drop 2) 0 ∧ Kp (fun b => b ≠ g) w w' := by
  have := u_any_16 w g F l 0 h
  have e1 : tookN l.length 0 2 = 2 := tookN_ok l.length 2 hk
  have e2 : whyN l.length 0 2 = 0 := whyN_ok l.length 2 hk
  rw [e1, e2] at this
  exact this.mono fun _ _ ⟨a, b, c, _⟩ => ⟨a, b, c⟩
theorem u_ok_32 (w : World) (g : Nat) (F : Nat → Prop) (l : List UInt8) (h : RS w g F l 0) (hk : 4 ≤ l.length) :
    Calls Try.prog 28 #[.pointer (some ⟨g, 0, none⟩)] w fun e w' => e = .returned (.int .u32 (num (l.take 4))) ∧ RS w' g F (l.drop 4) 0 ∧ Kp (fun b => b ≠ g) w w' := by
  have := u_any_32 w g F l 0 h
  have e1 : tookN l.length 0 4 = 4 := tookN_ok l.length 4 hk
  have e2 : whyN l.length 0 4 = 0 := whyN_ok l.length 4 hk
  rw [e1, e2] at this
  exact this.mono fun _ _ ⟨a, b, c, _⟩ => ⟨a, b, c⟩
theorem u_ok_64 (w : World) (g : Nat) (F : Nat → Prop) (l : List UInt8) (h : RS w g F l 0) (hk : 8 ≤ l.length) :
    Calls Try.prog 29 #[.pointer (some ⟨g, 0, none⟩)] w fun e w' => e = .returned (.int .u64 (num (l.take 8))) ∧ RS w' g F (l.drop 8) 0 ∧ Kp (fun b => b ≠ g) w w' := by
  have := u_any_64 w g F l 0 h
  have e1 : tookN l.length 0 8 = 8 := tookN_ok l.length 8 hk
  have e2 : whyN l.length 0 8 = 0 := whyN_ok l.length 8 hk
  rw [e1, e2] at this
  exact this.mono fun _ _ ⟨a, b, c, _⟩ => ⟨a, b, c⟩
theorem num_append (a b : List UInt8) : num (a ++ b) = num a * 256 ^ b.length + num b := by
  induction a with
  | nil => simp [num]
  | cons x a ih => rw [List.cons_append, num_cons, num_cons, ih, List.length_append, Nat.pow_add, Nat.add_mul, Nat.mul_assoc, Nat.add_assoc]
theorem at_of (z : Int) (m : Nat) (hm : m ≤ 600) : ∃ t : Nat, wrap64 ((IntKind.u64.wrap z).tmod ((m : Int) + 1)) = (t : Int) ∧ t ≤ m := by
  have h : 0 ≤ IntKind.u64.wrap z := by rw [IntKind.wrap_u64]; omega
  rw [Int.tmod_eq_emod_of_nonneg h]
  have h1 := Int.emod_nonneg (IntKind.u64.wrap z) (show ((m : Int) + 1) ≠ 0 by omega)
  have h2 := Int.emod_lt_of_pos (IntKind.u64.wrap z) (show 0 < ((m : Int) + 1) by omega)
  refine ⟨(IntKind.u64.wrap z % ((m : Int) + 1)).toNat, ?_, by omega⟩
  rw [IntWalk.wrap64_in _ ⟨by omega, by omega⟩]
  omega
theorem equal_yes (w : World) (A1 A2 : Option Addr) (n1 c1 n2 c2 : Nat) (l1 l2 : List UInt8) (F1 F2 : Nat → Prop) (h1 : Bs w F1 A1 n1 c1 l1) (h2 : Bs w F2 A2 n2 c2 l2) (he : l1 = l2) :
    Calls Try.prog 33 #[.slice A1 n1 c1, .slice A2 n2 c2] w fun e w' => e = .returned (.bool true) ∧ w = w' := by
  have := beq_equal w A1 A2 n1 c1 n2 c2 l1 l2 F1 F2 h1 h2
  rwa [decide_eq_true he] at this

set_option maxRecDepth 100000 in
set_option maxHeartbeats 1000000 in
theorem parts_walk (w : World) (A : Option Addr) (n c : Nat) (l0 : List UInt8) (h : Bs w All A n c l0) (z : Int) :
    Calls Try.prog 8 #[.slice A n c, .int .i64 z] w fun e w' => e = .returned (.bool true) ∧ Kp All w w' := by
  go_enter Try.func8, Try.ntmps8
  go_wp2_with fail
  refine (wakes_ok w).mono ?_
  rintro e w0 ⟨rfl, k0⟩
  go_wp2_with fail
  refine (own_var w0 A n c l0 All (h.keep k0.all)).mono ?_
  rintro e w1 ⟨Ab, m, cb, l, rfl, hm, hl, hm6, ob, k1⟩
  have kk := k0.trans k1
  have hlen := hid ob.bs.len
  obtain ⟨t, ht, htm⟩ := at_of z m hm6
  clear k0 k1
  go_wp2_with fail
  refine (read_mid w1 _ _ _ _ _ ob.bs (by omega)).mono ?_
  rintro e w2 ⟨g1, rfl, a1, a1', r1, k1⟩
  go_wp2_with fail
  refine (read_mid w2 _ _ _ _ _ (ob.all k1).bs (by omega)).mono ?_
  rintro e w3 ⟨g2, rfl, a2, a2', r2, k2⟩
  have obx := (ob.all k1).all k2
  go_wp2_with fail
  refine (read_mid w3 _ _ _ _ _ obx.bs (by omega)).mono ?_
  rintro e w4 ⟨g3, rfl, a3, a3', r3, k3⟩
  have ob4 := obx.all k3
  have hob := hid ob.lt
  have r1' := r1.kp (k2.trans k3) trivial (fun _ _ => trivial)
  have r2' := r2.kp k3 trivial (fun _ _ => trivial)
  have kk4 := ((kk.trans k1).trans k2).trans k3
  have z1 := k1.size
  have z2 := k2.size
  have z3 := k3.size
  have z0 := kk.size
  clear r1 r2 ob obx k1 k2 k3 kk
  go_wp2_with fail
  refine (raw_ok w4 g1 _ l m r1' (by rw [← hlen.out]; omega) (by rw [← hlen.out]; exact Nat.le_refl _)).mono ?_
  rintro e w5 ⟨A5, c5, rfl, o5, r15, k5⟩
  have r25 := r2'.kp k5 (by omega) (fun b hb => by have h1 := hb.1; omega)
  have r35 := r3.kp k5 (by omega) (fun b hb => by have h1 := hb.1; omega)
  have ob5 := ob4.kp k5 (fun b hb => by have := hob.out b hb; omega)
  have kk5 := kk4.since k5 (fun b hb => by omega)
  have z5 := k5.size
  clear r1' r2' r3 ob4 kk4 k5
  go_wp2_with fail
  refine (raw_ok w5 g2 _ l t r25 (by rw [← hlen.out]; omega) (by rw [← hlen.out]; omega)).mono ?_
  rintro e w6 ⟨A6, c6, rfl, o6, r26, k6⟩
  have r16 := r15.kp k6 (by omega) (fun b hb => by have h1 := hb.2.1; omega)
  have r36 := r35.kp k6 (by omega) (fun b hb => by have h1 := hb.1; omega)
  have ob6 := ob5.kp k6 (fun b hb => by have := hob.out b hb; omega)
  have o56 := o5.kp k6 (fun b hb => by have := o5.lt b hb; omega)
  have kk6 := kk5.since k6 (fun b hb => by omega)
  have z6 := k6.size
  clear r15 r25 r35 ob5 kk5 k6 o5
  go_wp2_with fail
  refine (equal_yes w6 _ _ _ _ _ _ _ _ _ _ o56.bs ob6.bs (List.take_of_length_le (by rw [← hlen.out]; exact Nat.le_refl _))).mono ?_
  rintro e w7 ⟨rfl, rfl⟩
  go_wp2_with fail
  have hsub : (m : Int) - (t : Int) = ((m - t : Nat) : Int) := by omega
  have cr := raw_ok w6 g2 _ (l.drop t) (m - t) r26 (by rw [List.length_drop, ← hlen.out]; omega) (by rw [List.length_drop, ← hlen.out]; exact Nat.le_refl _)
  rw [← hsub] at cr
  have CR := hid cr
  clear cr
  refine CR.out.mono ?_
  clear CR hsub
  rintro e w7 ⟨A7, c7, rfl, o7, r27, k7⟩
  have r17 := r16.kp k7 (by omega) (fun b hb => by have h1 := hb.2.1; omega)
  have r37 := r36.kp k7 (by omega) (fun b hb => by have h1 := hb.1; omega)
  have ob7 := ob6.kp k7 (fun b hb => by have := hob.out b hb; omega)
  have o67 := o6.kp k7 (fun b hb => by have := o6.lt b hb; omega)
  have kk7 := kk6.since k7 (fun b hb => by omega)
  have z7 := k7.size
  clear r16 r26 r36 ob6 kk6 k7 o6 o56
  have e1 : (l.drop t).drop (m - t) = [] := List.eq_nil_of_length_eq_zero (by rw [List.length_drop, List.length_drop, ← hlen.out]; omega)
  have e2 : l.take t ++ (l.drop t).take (m - t) = l := by
    rw [List.take_of_length_le (l := l.drop t) (by rw [List.length_drop, ← hlen.out]; omega)]
    exact List.take_append_drop t l
  have e3 : l.drop m = [] := List.eq_nil_of_length_eq_zero (by rw [List.length_drop, ← hlen.out]; omega)
  rw [e1] at r27
  rw [e3] at r17
  have E2 := hid e2
  clear e1 e2 e3
  go_wp2_with fail
  refine (concat_two _ _ _ _ _ _ _ _ _ _ (by exact Blk.new w7 _ _) ((o67.all (Kp.alloc w7 _)).bs.more (fun _ _ => trivial)) ((o7.all (Kp.alloc w7 _)).bs.more (fun _ _ => trivial)) (by omega)).mono ?_
  rintro e w8 ⟨A8, c8, rfl, o8, k8⟩
  rw [E2.out, show t + (m - t) = m from by omega] at o8
  have k8' : Kp All w7 w8 := (Kp.alloc w7 _).trans k8
  have r18 := r17.kp k8' trivial (fun _ _ => trivial)
  have r28 := r27.kp k8' trivial (fun _ _ => trivial)
  have r38 := r37.kp k8' trivial (fun _ _ => trivial)
  have ob8 := ob7.all k8'
  have kk8 := kk7.trans k8'
  have z8 := k8'.size
  clear r17 r27 r37 ob7 kk7 k8 k8' o67 o7
  go_wp2_with fail
  refine (equal_yes w8 _ _ _ _ _ _ _ _ _ _ o8.bs ob8.bs rfl).mono ?_
  rintro e w9 ⟨rfl, rfl⟩
  clear o8
  go_wp2_with fail
  refine (left_any w8 g1 _ [] 0 r18).mono ?_
  rintro e w9 ⟨rfl, rfl⟩
  go_wp2_with fail
  refine (left_any w8 g2 _ [] 0 r28).mono ?_
  rintro e w9 ⟨rfl, rfl⟩
  go_wp2_with fail
  refine (read_mid w8 _ _ _ _ _ ob8.bs (by omega)).mono ?_
  rintro e w9 ⟨g4, rfl, a4, a4', r4, k9⟩
  have r39 := r38.kp k9 trivial (fun _ _ => trivial)
  have kk9 := kk8.trans k9
  have z9 := k9.size
  have hg34 : g3 < g4 := by omega
  clear r18 r28 r38 ob8 kk8 k9
  go_wp2
  go_loopw [70] (fun q wr => ∃ k : Nat, k ≤ m / 8 ∧ q = .int .i64 k ∧ RS wr g4 (Mid w8.heap.size w9.heap.size g4) (l.drop (8 * k)) 0 ∧ RS wr g3 (Mid w3.heap.size w4.heap.size g3) (l.drop (8 * k)) 0 ∧ Kp All w wr) (fun q _ => m / 8 - (intOf q).toNat)
  case atStart => exact ⟨0, by omega, rfl, r4, r39, kk9⟩
  case round =>
    obtain ⟨k, hk, rfl, q4, q3, kr⟩ := hrel
    by_cases hlt : k < m / 8
    · have hk8 : 8 * k + 8 ≤ m := by omega
      have L8 : (l.drop (8 * k)).length = m - 8 * k := by rw [List.length_drop, ← hlen.out]
      have c8 := u_ok_64 wr g4 _ (l.drop (8 * k)) q4 (by omega)
      have hnum : num ((l.drop (8 * k)).take 8) = num ((l.drop (8 * k)).take 4) * 4294967296 + num (((l.drop (8 * k)).drop 4).take 4) := by
        have e : (l.drop (8 * k)).take 8 = (l.drop (8 * k)).take 4 ++ ((l.drop (8 * k)).drop 4).take 4 := by
          rw [← List.take_add]
        rw [e, num_append, List.length_take, List.length_drop, L8, Nat.min_eq_left (by omega)]
      have hb4 := num_le ((l.drop (8 * k)).take 4) 4 (by rw [List.length_take]; omega)
      have hb44 := num_le (((l.drop (8 * k)).drop 4).take 4) 4 (by rw [List.length_take]; omega)
      have c4 := fun W F h => u_ok_32 W g3 F (l.drop (8 * k)) h (by omega)
      have c44 := fun W F h => u_ok_32 W g3 F ((l.drop (8 * k)).drop 4) h (by rw [List.length_drop]; omega)
      have ed4 : ((l.drop (8 * k)).drop 4).drop 4 = l.drop (8 * (k + 1)) := by rw [List.drop_drop, List.drop_drop]; congr 1
      have ed8 : (l.drop (8 * k)).drop 8 = l.drop (8 * (k + 1)) := by rw [List.drop_drop]; congr 1
      rw [ed4] at c44
      rw [ed8] at c8
      generalize num ((l.drop (8 * k)).take 8) = Z at *
      generalize num ((l.drop (8 * k)).take 4) = X at *
      generalize num (((l.drop (8 * k)).drop 4).take 4) = Y at *
      have hne : ((Z : Int) != (X : Int) * 4294967296 + (Y : Int)) = false := by rw [hnum]; simp
      have C8 := hid c8
      have C4 := hid c4
      have C44 := hid c44
      have hb4' : X < 4294967296 := hb4
      have hb44' : Y < 4294967296 := hb44
      clear c8 c4 c44 ed4 ed8 L8 hnum hb4 hb44
      go_wp2_with fail
      refine C8.out.mono ?_
      rintro e wa ⟨rfl, qa, ka⟩
      have q3a := q3.kp ka (by omega) (fun b hb => by have h1 := hb.2.1; omega)
      have kra := kr.since ka (fun b hb => by omega)
      go_wp2_with fail
      refine (C4.out _ _ q3a).mono ?_
      rintro e wb ⟨rfl, qb, kb⟩
      have qab := qa.kp kb (by omega) (fun b hb => by have h1 := hb.1; omega)
      have krb := kra.since kb (fun b hb => by omega)
      go_wp2_with fail
      refine (C44.out _ _ qb).mono ?_
      rintro e wc ⟨rfl, qc, kc⟩
      have qac := qab.kp kc (by omega) (fun b hb => by have h1 := hb.1; omega)
      have krc := krb.since kc (fun b hb => by omega)
      go_wp2_with fail
      refine (left_any wc g4 _ _ 0 qac).mono ?_
      rintro e wd ⟨rfl, rfl⟩
      go_wp2_with fail
      refine (left_any wc g3 _ _ 0 qc).mono ?_
      rintro e wd ⟨rfl, rfl⟩
      go_wp2
      exact ⟨⟨k + 1, by omega, by go_num, qac, qc, krc⟩, by simp [intOf]; omega⟩
    · go_wp2_with fail
      refine (err_any wr g4 _ _ 0 q4).mono ?_
      rintro e wd ⟨rfl, rfl⟩
      go_wp2_with fail
      refine (err_any wr g3 _ _ 0 q3).mono ?_
      rintro e wd ⟨rfl, rfl⟩
      go_wp2
      go_ret
      exact ⟨rfl, kr⟩

theorem OctetParts_open {H : Type} {enc : TypeId × Value → H} (W : World) {r : Reach} (base : Nat) (v0 v1 : Value) {d0 d1 : DataW H} {p0 p1 : List MemPlace}
    (hv0 : Value.okWide Try.prog W r base 22 v0) (hv1 : Value.okWide Try.prog W r base 3 v1)
    (h0 : DataW.Trod enc Try.prog W 0 (fun _ => true) true 22 v0 d0 p0) (h1 : DataW.Trod enc Try.prog W 0 (fun _ => true) true 3 v1 d1 p1) :
    Calls Try.prog 8 #[v0, v1] W fun e w' => e = .returned (.bool true) ∧ Kp All W w' := by
  obtain ⟨A1, n1, c1, l1, rfl, b1⟩ := open_bytes hv0 h0
  obtain ⟨y, rfl, rfl, rfl, wy⟩ := open_int Try.underlying3 hv1 h1
  exact parts_walk W A1 n1 c1 l1 b1 y
end Go.Proofs.Ythekhgpodopalaa
