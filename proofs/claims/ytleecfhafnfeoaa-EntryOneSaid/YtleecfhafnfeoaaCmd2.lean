/- entry.Same; the document's Right and Same. -/
import Derived.Test.YtleecfhafnfeoaaCmd
import Derived.Test.YtleecfhafnfeoaaOct1
import Derived.Test.YtleecfhafnfeoaaOct6
namespace Go.Proofs.Ytleecfhafnfeoaa
open Go.RowKit
open Go.Lib (hid)

/-- two commands are the same -/
def sameB (k1 c1 : Int) (s1 : Nat) (b1 o1 n1 d1 : List UInt8) (k2 c2 : Int) (s2 : Nat) (b2 o2 n2 d2 : List UInt8) : Bool :=
  decide (k1 = k2) && (decide (c1 = c2) && (decide (s1 = s2) && (decide (b1 = b2) && (decide (o1 = o2) && (decide (n1 = n2) && decide (d1 = d2))))))

theorem equal_kp (w : World) (A1 A2 : Option Addr) (n1 c1 n2 c2 : Nat) (l1 l2 : List UInt8) (F1 F2 : Nat → Prop) (h1 : Bs w F1 A1 n1 c1 l1) (h2 : Bs w F2 A2 n2 c2 l2) :
    Calls Try.prog 17 #[.slice A1 n1 c1, .slice A2 n2 c2] w fun e w' => e = .returned (.bool (decide (l1 = l2))) ∧ Kp All w w' :=
  (equal_any w A1 A2 n1 c1 n2 c2 l1 l2 F1 F2 h1 h2).mono fun _ _ ⟨h, e⟩ => ⟨h, e ▸ Kp.refl _ _⟩

attribute [local go_sem] run_eq_id
set_option maxRecDepth 100000 in
set_option maxHeartbeats 1000000 in
theorem esame (w : World) (C D : Array Value) (k1 c1 : Int) (s1 : Nat) (b1 : ByteArray) (o1 n1 : List UInt8) (A1 : Option Addr) (m1 p1 : Nat) (d1 : List UInt8) (F1 : Nat → Prop) (h1 : Cd C k1 c1 s1 b1 o1 n1 A1 m1 p1) (e1 : Bs w F1 A1 m1 p1 d1)
    (k2 c2 : Int) (s2 : Nat) (b2 : ByteArray) (o2 n2 : List UInt8) (A2 : Option Addr) (m2 p2 : Nat) (d2 : List UInt8) (F2 : Nat → Prop) (h2 : Cd D k2 c2 s2 b2 o2 n2 A2 m2 p2) (e2 : Bs w F2 A2 m2 p2 d2) :
    Calls Try.prog 8 #[.agg C, .agg D] w fun e w' => e = .returned (.bool (sameB k1 c1 s1 b1.data.toList o1 n1 d1 k2 c2 s2 b2.data.toList o2 n2 d2)) ∧ Kp All w w' := by
  have q0 := h1.c0
  have q1 := h1.c1
  have q2 := h1.c2
  have q3 := h1.c3
  have q68 := h1.c68
  have t0 := h2.c0
  have t1 := h2.c1
  have t2 := h2.c2
  have t3 := h2.c3
  have t68 := h2.c68
  have lo1 := h1.lo
  have ln1 := h1.ln
  have lo2 := h2.lo
  have ln2 := h2.ln
  have B1 := (Blk.new w 27 C).alloc (.cells D 27)
  have B2 := Blk.new (w.alloc (.cells C 27)) 27 D
  rw [World.size_alloc] at B2
  have r1 := range_of_blk B1 4 _ h1.old
  have r2 := range_of_blk B1 36 _ h1.new
  have r3 := range_of_blk B2 4 _ h2.old
  have r4 := range_of_blk B2 36 _ h2.new
  have kk : Kp All w ((w.alloc (.cells C 27)).alloc (.cells D 27)) := (Kp.alloc _ _).trans (Kp.alloc _ _)
  have g1 := e1.keep kk.all
  have g2 := e2.keep kk.all
  have cc := hid (equal_kp _ _ _ _ _ _ _ _ _ _ _ g1 g2)
  obtain ⟨R, hR⟩ : ∃ R, Hid (R = sameB k1 c1 s1 b1.data.toList o1 n1 d1 k2 c2 s2 b2.data.toList o2 n2 d2) := ⟨_, hid rfl⟩
  rw [← hR.out]
  clear h1 h2 B1 B2 g1 g2 e1 e2
  go_enter Try.func8, Try.ntmps8
  by_cases a1 : k1 = k2
  · by_cases a2 : c1 = c2
    · by_cases a3 : s1 = s2
      · by_cases a4 : b1.data.toList = b2.data.toList
        · by_cases a5 : o1 = o2
          · by_cases a6 : n1 = n2
            · have HR := hid (show R = decide (d1 = d2) by rw [hR.out]; simp [sameB, a1, a2, a3, a4, a5, a6])
              have x1 : (k1 == k2) = true := by simp [a1]
              have x2 : (c1 == c2) = true := by simp [a2]
              have x3 : ((s1 : Int) == (s2 : Int)) = true := by simp [a3]
              have x4 : (b1.toList == b2.toList) = true := by rw [ByteArray.toList_eq, ByteArray.toList_eq, a4]; simp
              have x5 : decide (o1 = o2) = true := by simp [a5]
              have x6 : decide (n1 = n2) = true := by simp [a6]
              clear a1 a2 a3 a4 a5 a6
              go_wp2_with (first | (refine ld_id rfl (.tmp 32) rfl _ _ rfl o1 lo1 r1 ?_) | (refine ld_id rfl (.tmp 34) rfl _ _ rfl o2 lo2 r3 ?_) | (refine ld_id rfl (.tmp 39) rfl _ _ rfl n1 ln1 r2 ?_) | (refine ld_id rfl (.tmp 41) rfl _ _ rfl n2 ln2 r4 ?_) | (go_at_call 17; refine cc.out.mono ?_; rintro e w' ⟨rfl, kn⟩))
              go_ret
              rw [HR.out]
              exact ⟨rfl, kk.trans kn⟩
            · have HR := hid (show R = false by rw [hR.out]; simp [sameB, a6])
              have x1 : (k1 == k2) = true := by simp [a1]
              have x2 : (c1 == c2) = true := by simp [a2]
              have x3 : ((s1 : Int) == (s2 : Int)) = true := by simp [a3]
              have x4 : (b1.toList == b2.toList) = true := by rw [ByteArray.toList_eq, ByteArray.toList_eq, a4]; simp
              have x5 : decide (o1 = o2) = true := by simp [a5]
              have x6 : decide (n1 = n2) = false := by simp [a6]
              clear a1 a2 a3 a4 a5 a6
              go_wp2_with (first | (refine ld_id rfl (.tmp 32) rfl _ _ rfl o1 lo1 r1 ?_) | (refine ld_id rfl (.tmp 34) rfl _ _ rfl o2 lo2 r3 ?_) | (refine ld_id rfl (.tmp 39) rfl _ _ rfl n1 ln1 r2 ?_) | (refine ld_id rfl (.tmp 41) rfl _ _ rfl n2 ln2 r4 ?_))
              go_ret
              rw [HR.out]
              exact ⟨rfl, kk⟩
          · have HR := hid (show R = false by rw [hR.out]; simp [sameB, a5])
            have x1 : (k1 == k2) = true := by simp [a1]
            have x2 : (c1 == c2) = true := by simp [a2]
            have x3 : ((s1 : Int) == (s2 : Int)) = true := by simp [a3]
            have x4 : (b1.toList == b2.toList) = true := by rw [ByteArray.toList_eq, ByteArray.toList_eq, a4]; simp
            have x5 : decide (o1 = o2) = false := by simp [a5]
            clear a1 a2 a3 a4 a5
            go_wp2_with (first | (refine ld_id rfl (.tmp 32) rfl _ _ rfl o1 lo1 r1 ?_) | (refine ld_id rfl (.tmp 34) rfl _ _ rfl o2 lo2 r3 ?_))
            go_ret
            rw [HR.out]
            exact ⟨rfl, kk⟩
        · have HR := hid (show R = false by rw [hR.out]; simp [sameB, a4])
          have x1 : (k1 == k2) = true := by simp [a1]
          have x2 : (c1 == c2) = true := by simp [a2]
          have x3 : ((s1 : Int) == (s2 : Int)) = true := by simp [a3]
          have x4 : (b1.toList == b2.toList) = false := by rw [ByteArray.toList_eq, ByteArray.toList_eq]; simpa using a4
          clear a1 a2 a3 a4
          go_wp2
          go_ret
          rw [HR.out]
          exact ⟨rfl, kk⟩
      · have HR := hid (show R = false by rw [hR.out]; simp [sameB, a3])
        have x1 : (k1 == k2) = true := by simp [a1]
        have x2 : (c1 == c2) = true := by simp [a2]
        have x3 : ((s1 : Int) == (s2 : Int)) = false := by simp; omega
        clear a1 a2 a3
        go_wp2
        go_ret
        rw [HR.out]
        exact ⟨rfl, kk⟩
    · have HR := hid (show R = false by rw [hR.out]; simp [sameB, a2])
      have x1 : (k1 == k2) = true := by simp [a1]
      have x2 : (c1 == c2) = false := by simp [a2]
      clear a1 a2
      go_wp2
      go_ret
      rw [HR.out]
      exact ⟨rfl, kk⟩
  · have HR := hid (show R = false by rw [hR.out]; simp [sameB, a1])
    have x1 : (k1 == k2) = false := by simp [a1]
    clear a1
    go_wp2
    go_ret
    rw [HR.out]
    exact ⟨rfl, kk⟩
set_option maxRecDepth 100000 in
set_option maxHeartbeats 1000000 in
theorem rsame (w : World) (C D : Array Value) (k1 c1 : Int) (s1 : Nat) (b1 : ByteArray) (o1 n1 : List UInt8) (A1 : Option Addr) (m1 p1 : Nat) (d1 : List UInt8) (F1 : Nat → Prop) (h1 : Cd C k1 c1 s1 b1 o1 n1 A1 m1 p1) (e1 : Bs w F1 A1 m1 p1 d1)
    (k2 c2 : Int) (s2 : Nat) (b2 : ByteArray) (o2 n2 : List UInt8) (A2 : Option Addr) (m2 p2 : Nat) (d2 : List UInt8) (F2 : Nat → Prop) (h2 : Cd D k2 c2 s2 b2 o2 n2 A2 m2 p2) (e2 : Bs w F2 A2 m2 p2 d2) :
    Calls Try.prog 16 #[.agg C, .agg D] w fun e w' => e = .returned (.bool (sameB k1 c1 s1 b1.data.toList o1 n1 d1 k2 c2 s2 b2.data.toList o2 n2 d2)) ∧ Kp All w w' := by
  have q0 := h1.c0
  have q1 := h1.c1
  have q2 := h1.c2
  have q3 := h1.c3
  have q68 := h1.c68
  have t0 := h2.c0
  have t1 := h2.c1
  have t2 := h2.c2
  have t3 := h2.c3
  have t68 := h2.c68
  have lo1 := h1.lo
  have ln1 := h1.ln
  have lo2 := h2.lo
  have ln2 := h2.ln
  have B1 := (Blk.new w 27 C).alloc (.cells D 27)
  have B2 := Blk.new (w.alloc (.cells C 27)) 27 D
  rw [World.size_alloc] at B2
  have r1 := range_of_blk B1 4 _ h1.old
  have r2 := range_of_blk B1 36 _ h1.new
  have r3 := range_of_blk B2 4 _ h2.old
  have r4 := range_of_blk B2 36 _ h2.new
  have kk : Kp All w ((w.alloc (.cells C 27)).alloc (.cells D 27)) := (Kp.alloc _ _).trans (Kp.alloc _ _)
  have g1 := e1.keep kk.all
  have g2 := e2.keep kk.all
  have cc := hid (same_any _ _ _ _ _ _ _ _ _ _ _ g1 g2)
  obtain ⟨R, hR⟩ : ∃ R, Hid (R = sameB k1 c1 s1 b1.data.toList o1 n1 d1 k2 c2 s2 b2.data.toList o2 n2 d2) := ⟨_, hid rfl⟩
  rw [← hR.out]
  clear h1 h2 B1 B2 g1 g2 e1 e2
  go_enter Try.func16, Try.ntmps16
  by_cases a1 : k1 = k2
  · by_cases a2 : c1 = c2
    · by_cases a3 : s1 = s2
      · by_cases a4 : b1.data.toList = b2.data.toList
        · by_cases a5 : o1 = o2
          · by_cases a6 : n1 = n2
            · have HR := hid (show R = decide (d1 = d2) by rw [hR.out]; simp [sameB, a1, a2, a3, a4, a5, a6])
              have x1 : (k1 == k2) = true := by simp [a1]
              have x2 : (c1 == c2) = true := by simp [a2]
              have x3 : ((s1 : Int) == (s2 : Int)) = true := by simp [a3]
              have x4 : (b1.toList == b2.toList) = true := by rw [ByteArray.toList_eq, ByteArray.toList_eq, a4]; simp
              have x5 : decide (o1 = o2) = true := by simp [a5]
              have x6 : decide (n1 = n2) = true := by simp [a6]
              clear a1 a2 a3 a4 a5 a6
              go_wp2_with (first | (refine ld_id rfl (.tmp 32) rfl _ _ rfl o1 lo1 r1 ?_) | (refine ld_id rfl (.tmp 34) rfl _ _ rfl o2 lo2 r3 ?_) | (refine ld_id rfl (.tmp 39) rfl _ _ rfl n1 ln1 r2 ?_) | (refine ld_id rfl (.tmp 41) rfl _ _ rfl n2 ln2 r4 ?_) | (go_at_call 12; refine cc.out.mono ?_; rintro e w' ⟨rfl, kn⟩))
              go_ret
              rw [HR.out]
              exact ⟨rfl, kk.trans kn⟩
            · have HR := hid (show R = false by rw [hR.out]; simp [sameB, a6])
              have x1 : (k1 == k2) = true := by simp [a1]
              have x2 : (c1 == c2) = true := by simp [a2]
              have x3 : ((s1 : Int) == (s2 : Int)) = true := by simp [a3]
              have x4 : (b1.toList == b2.toList) = true := by rw [ByteArray.toList_eq, ByteArray.toList_eq, a4]; simp
              have x5 : decide (o1 = o2) = true := by simp [a5]
              have x6 : decide (n1 = n2) = false := by simp [a6]
              clear a1 a2 a3 a4 a5 a6
              go_wp2_with (first | (refine ld_id rfl (.tmp 32) rfl _ _ rfl o1 lo1 r1 ?_) | (refine ld_id rfl (.tmp 34) rfl _ _ rfl o2 lo2 r3 ?_) | (refine ld_id rfl (.tmp 39) rfl _ _ rfl n1 ln1 r2 ?_) | (refine ld_id rfl (.tmp 41) rfl _ _ rfl n2 ln2 r4 ?_))
              go_ret
              rw [HR.out]
              exact ⟨rfl, kk⟩
          · have HR := hid (show R = false by rw [hR.out]; simp [sameB, a5])
            have x1 : (k1 == k2) = true := by simp [a1]
            have x2 : (c1 == c2) = true := by simp [a2]
            have x3 : ((s1 : Int) == (s2 : Int)) = true := by simp [a3]
            have x4 : (b1.toList == b2.toList) = true := by rw [ByteArray.toList_eq, ByteArray.toList_eq, a4]; simp
            have x5 : decide (o1 = o2) = false := by simp [a5]
            clear a1 a2 a3 a4 a5
            go_wp2_with (first | (refine ld_id rfl (.tmp 32) rfl _ _ rfl o1 lo1 r1 ?_) | (refine ld_id rfl (.tmp 34) rfl _ _ rfl o2 lo2 r3 ?_))
            go_ret
            rw [HR.out]
            exact ⟨rfl, kk⟩
        · have HR := hid (show R = false by rw [hR.out]; simp [sameB, a4])
          have x1 : (k1 == k2) = true := by simp [a1]
          have x2 : (c1 == c2) = true := by simp [a2]
          have x3 : ((s1 : Int) == (s2 : Int)) = true := by simp [a3]
          have x4 : (b1.toList == b2.toList) = false := by rw [ByteArray.toList_eq, ByteArray.toList_eq]; simpa using a4
          clear a1 a2 a3 a4
          go_wp2
          go_ret
          rw [HR.out]
          exact ⟨rfl, kk⟩
      · have HR := hid (show R = false by rw [hR.out]; simp [sameB, a3])
        have x1 : (k1 == k2) = true := by simp [a1]
        have x2 : (c1 == c2) = true := by simp [a2]
        have x3 : ((s1 : Int) == (s2 : Int)) = false := by simp; omega
        clear a1 a2 a3
        go_wp2
        go_ret
        rw [HR.out]
        exact ⟨rfl, kk⟩
    · have HR := hid (show R = false by rw [hR.out]; simp [sameB, a2])
      have x1 : (k1 == k2) = true := by simp [a1]
      have x2 : (c1 == c2) = false := by simp [a2]
      clear a1 a2
      go_wp2
      go_ret
      rw [HR.out]
      exact ⟨rfl, kk⟩
  · have HR := hid (show R = false by rw [hR.out]; simp [sameB, a1])
    have x1 : (k1 == k2) = false := by simp [a1]
    clear a1
    go_wp2
    go_ret
    rw [HR.out]
    exact ⟨rfl, kk⟩
end Go.Proofs.Ytleecfhafnfeoaa
