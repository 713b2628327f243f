/- OctetAlike: two rows are the same, and a row is noughts, just when the document's answer says so. -/
import Derived.Test.YthekhgpodopalaaOctW
import Derived.Test.YthekhgpodopalaaOpen
namespace Go.Proofs.Ythekhgpodopalaa
open Go.RowKit
open Go.Lib (hid)

theorem all_zero (l : List UInt8) : decide (l = List.replicate l.length 0) = l.all (· == 0) := by
  rw [Bool.eq_iff_iff]
  simp [List.eq_replicate_iff]

theorem alike_walk (w : World) (A1 A2 : Option Addr) (n1 c1 n2 c2 : Nat) (l1 l2 : List UInt8) (F1 F2 : Nat → Prop) (h1 : Bs w F1 A1 n1 c1 l1) (h2 : Bs w F2 A2 n2 c2 l2) :
    Calls Try.prog 3 #[.slice A1 n1 c1, .slice A2 n2 c2] w fun e w' => e = .returned (.bool true) ∧ Kp All w w' := by
  go_enter Try.func3, Try.ntmps3
  go_wp2_with fail
  refine (wakes_ok w).mono ?_
  rintro e w0 ⟨rfl, k0⟩
  go_wp2_with fail
  refine (own_var w0 A1 n1 c1 l1 F1 (h1.keep k0.all)).mono ?_
  rintro e w1 ⟨A3, ma, c3, la, rfl, HMA, HLA, hma6, o1, k1⟩
  go_wp2_with fail
  refine (own_var w1 A2 n2 c2 l2 F2 (h2.keep (k0.trans k1).all)).mono ?_
  rintro e w2 ⟨A4, mb, c4, lb, rfl, HMB, HLB, hmb6, o2, k2⟩
  have o1' := o1.all k2
  have kk := (k0.trans k1).trans k2
  have hx := h1.keep (w' := w2) kk.all
  clear o1 k0 k1 k2 h1 h2
  have hb1 := o1'.bs
  have hb2 := o2.bs
  have L1 := hid hb1.len
  go_wp2_with fail
  refine (same_any w2 _ _ _ _ _ _ la lb _ _ hb1 hb2).mono ?_
  rintro e w3 ⟨rfl, k3⟩
  have hb1 := hb1.keep k3.all
  have hb2 := hb2.keep k3.all
  have hx := hx.keep k3.all
  have kk := kk.trans k3
  obtain ⟨s, hs⟩ : ∃ s, s = decide (la = lb) := ⟨_, rfl⟩
  have hs2 : decide (lb = la) = s := by rw [hs]; simp [eq_comm]
  rw [← hs]
  have e1 := equal_any w3 _ _ _ _ _ _ la lb _ _ hb1 hb2
  have e2 := equal_any w3 _ _ _ _ _ _ lb la _ _ hb2 hb1
  rw [← hs] at e1
  rw [hs2] at e2
  have E1 := hid e1
  have E2 := hid e2
  clear e1 e2 hs hs2
  go_wp2_with fail
  refine E1.out.mono ?_
  rintro e w4 ⟨rfl, rfl⟩
  go_wp2_with fail
  refine E2.out.mono ?_
  rintro e w4 ⟨rfl, rfl⟩
  go_wp2_with fail
  refine (own_var w3 A1 n1 c1 l1 F1 hx).mono ?_
  rintro e w4 ⟨A5, mc, c5, lc, rfl, HMC, HLC, hmc6, o5, k5⟩
  obtain rfl : la = lc := by rw [HLC.out, HLA.out]
  have e3 := hid (equal_any w4 _ _ _ _ _ _ la la _ _ (hb1.keep k5.all) o5.bs)
  go_wp2_with fail
  refine e3.out.mono ?_
  rintro e w5 ⟨rfl, rfl⟩
  have hb1 := hb1.keep k5.all
  have hb2 := hb2.keep k5.all
  have kk := kk.trans k5
  go_wp2_with fail
  refine (zero_any w4 _ _ _ la _ hb1).mono ?_
  rintro e w5 ⟨rfl, rfl⟩
  have e4 := noughts_any w4 _ _ _ la _ hb1 (by omega)
  rw [L1.out, all_zero, ← L1.out] at e4
  have E4 := hid e4
  clear e4
  go_wp2_with fail
  refine E4.out.mono ?_
  rintro e w5 ⟨rfl, k6⟩
  have kk := kk.trans k6
  go_wp2_with (refine mk_b _ rfl (.tmp 44) (.tmp 44) rfl .i64 .i64 _ _ mb mb rfl rfl (by simp) (by simp) (Nat.le_refl _) (by omega) ?_; intro w6 hb6 k7 z6)
  have e5 := zero_any w6 _ _ _ _ _ (hb6.bs (by simp) (show mb ≤ maxLen by simp only [maxLen]; omega))
  rw [show (List.replicate mb (0 : UInt8)).all (· == 0) = true from by simp] at e5
  refine e5.mono ?_
  rintro e w7 ⟨rfl, rfl⟩
  go_wp2_with fail
  go_ret
  exact ⟨rfl, kk.trans k7⟩

theorem OctetAlike_open {H : Type} {enc : TypeId × Value → H} (W : World) {r : Reach} (base : Nat) (v0 v1 : Value) {d0 d1 : DataW H} {p0 p1 : List MemPlace}
    (hv0 : Value.okWide Try.prog W r base 22 v0) (hv1 : Value.okWide Try.prog W r base 22 v1)
    (h0 : DataW.Trod enc Try.prog W 0 (fun _ => true) true 22 v0 d0 p0) (h1 : DataW.Trod enc Try.prog W 0 (fun _ => true) true 22 v1 d1 p1) :
    Calls Try.prog 3 #[v0, v1] W fun e w' => e = .returned (.bool true) ∧ Kp All W w' := by
  obtain ⟨A1, n1, c1, l1, rfl, b1⟩ := open_bytes hv0 h0
  obtain ⟨A2, n2, c2, l2, rfl, b2⟩ := open_bytes hv1 h1
  exact alike_walk W A1 A2 n1 c1 n2 c2 l1 l2 All All b1 b2
end Go.Proofs.Ythekhgpodopalaa
