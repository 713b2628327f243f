/- OctetOrder: the greater number's bytes are greater, place by place. -/
import Derived.Test.YthekhgpodopalaaOctW
import Derived.Test.YthekhgpodopalaaOct7
import Derived.Test.YthekhgpodopalaaOpen
namespace Go.Proofs.Ythekhgpodopalaa
open Go.RowKit Go.ChangeShapes Go.WideShapes Go.ChangeAt
open Go.Lib (hid)

theorem wf_u64 {n : Int} (h : (Lit.int .u64 n).wf = true) : ∃ X : Nat, n = (X : Int) ∧ X < 256 ^ 8 := by
  have := bounds_u64 h
  exact ⟨n.toNat, by omega, by omega⟩

theorem cmp_16 (w : World) (A1 A2 : Option Addr) (c1 c2 : Nat) (X Y : Nat) (hX : X < 256 ^ 2) (hY : Y < 256 ^ 2) (F1 F2 : Nat → Prop) (h1 : Bs w F1 A1 (0 + 2) c1 ([] ++ be 2 X)) (h2 : Bs w F2 A2 (0 + 2) c2 ([] ++ be 2 Y)) :
    Calls Try.prog 22 #[.slice A1 2 c1, .slice A2 2 c2] w fun e w' => e = .returned (.int .i64 (ordN X Y)) ∧ w = w' := by
  have h := compare_any w A1 A2 2 c1 2 c2 _ _ F1 F2 h1 h2
  rw [List.nil_append, List.nil_append, compare_be, Nat.mod_eq_of_lt hX, Nat.mod_eq_of_lt hY] at h
  exact h
theorem cmp_32 (w : World) (A1 A2 : Option Addr) (c1 c2 : Nat) (X Y : Nat) (hX : X < 256 ^ 4) (hY : Y < 256 ^ 4) (F1 F2 : Nat → Prop) (h1 : Bs w F1 A1 (0 + 4) c1 ([] ++ be 4 X)) (h2 : Bs w F2 A2 (0 + 4) c2 ([] ++ be 4 Y)) :
    Calls Try.prog 22 #[.slice A1 4 c1, .slice A2 4 c2] w fun e w' => e = .returned (.int .i64 (ordN X Y)) ∧ w = w' := by
  have h := compare_any w A1 A2 4 c1 4 c2 _ _ F1 F2 h1 h2
  rw [List.nil_append, List.nil_append, compare_be, Nat.mod_eq_of_lt hX, Nat.mod_eq_of_lt hY] at h
  exact h
theorem cmp_64 (w : World) (A1 A2 : Option Addr) (c1 c2 : Nat) (X Y : Nat) (hX : X < 256 ^ 8) (hY : Y < 256 ^ 8) (F1 F2 : Nat → Prop) (h1 : Bs w F1 A1 (0 + 8) c1 ([] ++ be 8 X)) (h2 : Bs w F2 A2 (0 + 8) c2 ([] ++ be 8 Y)) :
    Calls Try.prog 22 #[.slice A1 8 c1, .slice A2 8 c2] w fun e w' => e = .returned (.int .i64 (ordN X Y)) ∧ w = w' := by
  have h := compare_any w A1 A2 8 c1 8 c2 _ _ F1 F2 h1 h2
  rw [List.nil_append, List.nil_append, compare_be, Nat.mod_eq_of_lt hX, Nat.mod_eq_of_lt hY] at h
  exact h

set_option maxHeartbeats 400000 in
theorem order_walk (w : World) (X Y : Nat) (hX : X < 256 ^ 8) (hY : Y < 256 ^ 8) :
    Calls Try.prog 5 #[.int .u64 X, .int .u64 Y] w fun e w' => e = .returned (.bool true) ∧ Kp All w w' := by
  obtain ⟨X2, hX2⟩ : ∃ X2 : Nat, X2 = X % 65536 := ⟨_, rfl⟩
  obtain ⟨Y2, hY2⟩ : ∃ Y2 : Nat, Y2 = Y % 65536 := ⟨_, rfl⟩
  obtain ⟨X4, hX4⟩ : ∃ X4 : Nat, X4 = X % 4294967296 := ⟨_, rfl⟩
  obtain ⟨Y4, hY4⟩ : ∃ Y4 : Nat, Y4 = Y % 4294967296 := ⟨_, rfl⟩
  have bX2 : X2 < 65536 := by omega
  have bY2 : Y2 < 65536 := by omega
  have bX4 : X4 < 4294967296 := by omega
  have bY4 : Y4 < 4294967296 := by omega
  have eX2 : IntKind.u16.wrap (X : Int) = (X2 : Int) := by rw [IntKind.wrap_u16]; omega
  have eY2 : IntKind.u16.wrap (Y : Int) = (Y2 : Int) := by rw [IntKind.wrap_u16]; omega
  have eX4 : IntKind.u32.wrap (X : Int) = (X4 : Int) := by rw [IntKind.wrap_u32]; omega
  have eY4 : IntKind.u32.wrap (Y : Int) = (Y4 : Int) := by rw [IntKind.wrap_u32]; omega
  have HX := hid hX
  have HY := hid hY
  clear hX hY hX2 hY2 hX4 hY4
  go_enter Try.func5, Try.ntmps5
  go_wp2_with fail
  refine (wakes_ok w).mono ?_
  rintro e w0 ⟨rfl, k0⟩
  go_wp2_with fail
  refine (put_16 w0 _ _ _ _ X2 _ (Bs.nil w0 All) (by omega) (by omega)).mono ?_
  rintro e w1 ⟨A1, c1, rfl, o1, k1⟩
  go_wp2_with fail
  refine (put_16 w1 _ _ _ _ Y2 _ (Bs.nil w1 All) (by omega) (by omega)).mono ?_
  rintro e w2 ⟨A2, c2, rfl, o2, k2⟩
  have cc := cmp_16 w2 A1 A2 c1 c2 X2 Y2 bX2 bY2 _ _ (o1.all k2).bs o2.bs
  clear o1 o2
  go_wp2_with fail
  refine cc.mono ?_
  rintro e w3 ⟨rfl, rfl⟩
  clear cc
  go_wp2_with fail
  refine (order_any w2 X2 Y2).mono ?_
  rintro e w3 ⟨rfl, rfl⟩
  have kk := (k0.trans k1).trans k2
  clear k0 k1 k2
  go_wp2_with fail
  refine (put_32 w2 _ _ _ _ X4 _ (Bs.nil w2 All) (by omega) (by omega)).mono ?_
  rintro e w3 ⟨A1, c1, rfl, o1, k1⟩
  go_wp2_with fail
  refine (put_32 w3 _ _ _ _ Y4 _ (Bs.nil w3 All) (by omega) (by omega)).mono ?_
  rintro e w4 ⟨A2, c2, rfl, o2, k2⟩
  have cc := cmp_32 w4 A1 A2 c1 c2 X4 Y4 bX4 bY4 _ _ (o1.all k2).bs o2.bs
  clear o1 o2
  go_wp2_with fail
  refine cc.mono ?_
  rintro e w5 ⟨rfl, rfl⟩
  clear cc
  go_wp2_with fail
  refine (order_any w4 X4 Y4).mono ?_
  rintro e w5 ⟨rfl, rfl⟩
  have kk := (kk.trans k1).trans k2
  clear k1 k2
  go_wp2_with fail
  refine (put_64 w4 _ _ _ _ X _ (Bs.nil w4 All) (by omega) HX.out).mono ?_
  rintro e w5 ⟨A1, c1, rfl, o1, k1⟩
  go_wp2_with fail
  refine (put_64 w5 _ _ _ _ Y _ (Bs.nil w5 All) (by omega) HY.out).mono ?_
  rintro e w6 ⟨A2, c2, rfl, o2, k2⟩
  have cc := cmp_64 w6 A1 A2 c1 c2 X Y HX.out HY.out _ _ (o1.all k2).bs o2.bs
  clear o1 o2
  go_wp2_with fail
  refine cc.mono ?_
  rintro e w7 ⟨rfl, rfl⟩
  clear cc
  go_wp2_with fail
  refine (order_any w6 X Y).mono ?_
  rintro e w7 ⟨rfl, rfl⟩
  go_wp2_with fail
  go_ret
  exact ⟨rfl, (kk.trans k1).trans k2⟩

theorem OctetOrder_open {H : Type} {enc : TypeId × Value → H} (W : World) {r : Reach} (base : Nat) (v0 v1 : Value) {d0 d1 : DataW H} {p0 p1 : List MemPlace}
    (hv0 : Value.okWide Try.prog W r base 27 v0) (hv1 : Value.okWide Try.prog W r base 27 v1)
    (h0 : DataW.Trod enc Try.prog W 0 (fun _ => true) true 27 v0 d0 p0) (h1 : DataW.Trod enc Try.prog W 0 (fun _ => true) true 27 v1 d1 p1) :
    Calls Try.prog 5 #[v0, v1] W fun e w' => e = .returned (.bool true) ∧ Kp All W w' := by
  obtain ⟨x, rfl, rfl, rfl, wx⟩ := open_int Try.underlying27 hv0 h0
  obtain ⟨y, rfl, rfl, rfl, wy⟩ := open_int Try.underlying27 hv1 h1
  obtain ⟨X, rfl, hX⟩ := wf_u64 wx
  obtain ⟨Y, rfl, hY⟩ := wf_u64 wy
  exact order_walk W X Y hX hY
end Go.Proofs.Ythekhgpodopalaa
