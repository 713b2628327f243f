/- The layer does something. -/
import Derived.Test.YthekhgpodopalaaOct5
import Derived.Test.YthekhgpodopalaaOct6
namespace Go.Proofs.Ythekhgpodopalaa
open Go.RowKit
open Go.Lib (hid)

theorem wakes_ok (w : World) : Calls Try.prog 10 #[] w fun e w' => e = .returned (.bool true) ∧ Kp All w w' := by
  go_enter Try.func10, Try.ntmps10
  go_wp2_with fail
  refine (read_any _ _ 3 3 [1, 2, 5] _ (Bs.lit w _ [1, 2, 5] 3 #[.int .u8 1, .int .u8 2, .int .u8 5] (by simp) rfl rfl (by simp [maxLen])) (by omega)).mono ?_
  rintro e w1 ⟨g, rfl, hg, r1, k1⟩
  have hg' : w.heap.size + 1 ≤ g := by simpa using hg
  have kk1 : Kp All w w1 := (Kp.alloc _ _).trans k1
  have hgl : g < w1.heap.size := by obtain ⟨_, _, _, h, _⟩ := r1; exact Blk.lt h
  go_wp2_with fail
  refine (put_16 _ _ 1 1 [7] 258 _ (Bs.lit w1 _ [7] 1 #[.int .u8 7] (by simp) rfl rfl (by simp [maxLen])) (by omega) (by omega)).mono ?_
  rintro e w2 ⟨A2, c2, rfl, o2, k2⟩
  have kk2 : Kp All w1 w2 := (Kp.alloc _ _).trans k2
  have r2 := r1.kp kk2 trivial (fun _ _ => trivial)
  have kk3 := kk1.trans kk2
  clear r1 k1 k2 kk1 
  go_wp2_with fail
  have c3 : Calls Try.prog 27 #[.pointer (some ⟨g, 0, none⟩)] w2 fun e w' => e = .returned (.int .u16 258) ∧ RS w' g _ [5] 0 ∧ Kp (fun b => b ≠ g) w2 w' ∧ Hid (w'.heap.size = w2.heap.size) := u_any_16 w2 g _ _ _ r2
  refine c3.mono ?_
  rintro e w3 ⟨rfl, r3, k3, z3⟩
  have kk4 : Kp All w w3 := kk3.since k3 (fun i hi => by omega)
  have o3 : Ob w3 _ A2 3 c2 [7, 1, 2] := o2.kp k3 (fun k hk => by have := o2.lt k hk; simp at this; omega)
  clear r2 o2 k3 c3 kk3
  go_wp2_with fail
  refine (left_any w3 g _ [5] 0 r3).mono ?_
  rintro e w4 ⟨rfl, rfl⟩
  go_wp2_with fail
  have c4 : Calls Try.prog 27 #[.pointer (some ⟨g, 0, none⟩)] w3 fun e w' => e = .returned (.int .u16 0) ∧ RS w' g _ [5] 7 ∧ Kp (fun b => b ≠ g) w3 w' ∧ Hid (w'.heap.size = w3.heap.size) := u_any_16 w3 g _ _ _ r3
  refine c4.mono ?_
  rintro e w4 ⟨rfl, r4, k4, z4⟩
  have kk5 : Kp All w w4 := kk4.since k4 (fun i hi => by omega)
  have o4 : Ob w4 _ A2 3 c2 [7, 1, 2] := o3.kp k4 (fun k hk => by have := o3.lt k hk; simp at this; omega)
  clear r3 o3 k4 c4 kk4
  go_wp2_with fail
  refine (err_any w4 g _ [5] 7 r4).mono ?_
  rintro e w5 ⟨rfl, rfl⟩
  go_wp2_with fail
  have c5 : Calls Try.prog 13 #[.slice A2 3 c2, .slice (some ⟨w4.heap.size, 0, none⟩) 3 3] (w4.alloc (.cells #[.int .u8 7, .int .u8 1, .int .u8 2] 5)) fun e w' => e = .returned (.bool true) ∧ _ = w' := equal_any _ _ _ _ _ _ _ _ _ _ _ (o4.bs.keep (Kp.alloc _ _)) (Bs.lit w4 _ [7, 1, 2] 3 #[.int .u8 7, .int .u8 1, .int .u8 2] (by simp) rfl rfl (by simp [maxLen]))
  refine c5.mono ?_
  rintro e w5 ⟨rfl, rfl⟩
  clear c5
  go_wp2_with fail
  have c6 := fun W g hg => zero_any _ _ _ _ _ _ (Bs.lit W g [0] 1 #[.int .u8 0] hg rfl rfl (by simp [maxLen]))
  refine (c6 _ _ (by simp)).mono ?_
  rintro e w5 ⟨rfl, rfl⟩
  clear c6
  go_wp2_with fail
  have c7 := fun W g hg => zero_any _ _ _ _ _ _ (Bs.lit W g [0, 1] 2 #[.int .u8 0, .int .u8 1] hg rfl rfl (by simp [maxLen]))
  refine (c7 _ _ (by simp)).mono ?_
  rintro e w5 ⟨rfl, rfl⟩
  clear c7
  go_wp2_with fail
  have c8 := fun W g h hg hh => equal_any _ _ _ _ _ _ _ _ _ _ _ ((Bs.lit W g [1] 1 #[.int .u8 1] hg rfl rfl (by simp [maxLen])).keep (Kp.alloc _ _)) (Bs.lit _ h [1, 0] 2 #[.int .u8 1, .int .u8 0] hh rfl rfl (by simp [maxLen]))
  refine (c8 _ _ _ (by simp) (by simp)).mono ?_
  rintro e w5 ⟨rfl, rfl⟩
  clear c8
  go_wp2_with fail
  go_ret
  exact ⟨rfl, ((((kk5.trans (Kp.alloc _ _)).trans (Kp.alloc _ _)).trans (Kp.alloc _ _)).trans (Kp.alloc _ _)).trans (Kp.alloc _ _)⟩
end Go.Proofs.Ythekhgpodopalaa
