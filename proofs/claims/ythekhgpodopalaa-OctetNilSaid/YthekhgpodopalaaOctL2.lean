/- OctetNil: of a reader that is nil nothing is told but that. -/
import Derived.Test.YthekhgpodopalaaOctW
import Derived.Test.YthekhgpodopalaaOpen
namespace Go.Proofs.Ythekhgpodopalaa
open Go.RowKit Go.ChangeShapes Go.WideShapes Go.ChangeAt
open Go.Lib (hid)

theorem off_nil (w : World) (k : Int) :
    Calls Try.prog 43 #[.pointer none, .int .i64 k] w fun e w' => e = .returned (.slice none 0 0) ∧ w = w' := by
  go_enter Try.func43, Try.ntmps43
  go_wp2
  go_ret
  exact ⟨rfl, rfl⟩
theorem next_nil_8 (w : World) :
    Calls Try.prog 39 #[.pointer none, .int .i64 1] w fun e w' => e = .returned (.int .u8 0) ∧ w = w' := by
  go_enter Try.func39, Try.ntmps39
  go_wp2_with (go_at_call 43; refine (off_nil _ _).mono ?_; rintro e w' ⟨rfl, rfl⟩)
  go_loop [4, 11, 6] (fun x i c => x = .int .u8 0 ∧ i = .int .i64 0) (fun _ _ _ => 0)
  case atStart => exact ⟨rfl, rfl⟩
  case round =>
    obtain ⟨rfl, rfl⟩ := hrel
    go_wp2
    go_ret
    exact ⟨rfl, rfl⟩
theorem u_nil_8 (w : World) : Calls Try.prog 26 #[.pointer none] w fun e w' => e = .returned (.int .u8 0) ∧ w = w' := by
  go_enter Try.func26, Try.ntmps26
  go_wp2_with (go_at_call 39; refine (next_nil_8 _).mono ?_; rintro e w' ⟨rfl, rfl⟩)
  go_ret
  exact ⟨rfl, rfl⟩
theorem next_nil_16 (w : World) :
    Calls Try.prog 40 #[.pointer none, .int .i64 2] w fun e w' => e = .returned (.int .u16 0) ∧ w = w' := by
  go_enter Try.func40, Try.ntmps40
  go_wp2_with (go_at_call 43; refine (off_nil _ _).mono ?_; rintro e w' ⟨rfl, rfl⟩)
  go_loop [4, 11, 6] (fun x i c => x = .int .u16 0 ∧ i = .int .i64 0) (fun _ _ _ => 0)
  case atStart => exact ⟨rfl, rfl⟩
  case round =>
    obtain ⟨rfl, rfl⟩ := hrel
    go_wp2
    go_ret
    exact ⟨rfl, rfl⟩
theorem u_nil_16 (w : World) : Calls Try.prog 27 #[.pointer none] w fun e w' => e = .returned (.int .u16 0) ∧ w = w' := by
  go_enter Try.func27, Try.ntmps27
  go_wp2_with (go_at_call 40; refine (next_nil_16 _).mono ?_; rintro e w' ⟨rfl, rfl⟩)
  go_ret
  exact ⟨rfl, rfl⟩
theorem next_nil_32 (w : World) :
    Calls Try.prog 41 #[.pointer none, .int .i64 4] w fun e w' => e = .returned (.int .u32 0) ∧ w = w' := by
  go_enter Try.func41, Try.ntmps41
  go_wp2_with (go_at_call 43; refine (off_nil _ _).mono ?_; rintro e w' ⟨rfl, rfl⟩)
  go_loop [4, 11, 6] (fun x i c => x = .int .u32 0 ∧ i = .int .i64 0) (fun _ _ _ => 0)
  case atStart => exact ⟨rfl, rfl⟩
  case round =>
    obtain ⟨rfl, rfl⟩ := hrel
    go_wp2
    go_ret
    exact ⟨rfl, rfl⟩
theorem u_nil_32 (w : World) : Calls Try.prog 28 #[.pointer none] w fun e w' => e = .returned (.int .u32 0) ∧ w = w' := by
  go_enter Try.func28, Try.ntmps28
  go_wp2_with (go_at_call 41; refine (next_nil_32 _).mono ?_; rintro e w' ⟨rfl, rfl⟩)
  go_ret
  exact ⟨rfl, rfl⟩
theorem next_nil_64 (w : World) :
    Calls Try.prog 42 #[.pointer none, .int .i64 8] w fun e w' => e = .returned (.int .u64 0) ∧ w = w' := by
  go_enter Try.func42, Try.ntmps42
  go_wp2_with (go_at_call 43; refine (off_nil _ _).mono ?_; rintro e w' ⟨rfl, rfl⟩)
  go_loop [4, 11, 6] (fun x i c => x = .int .u64 0 ∧ i = .int .i64 0) (fun _ _ _ => 0)
  case atStart => exact ⟨rfl, rfl⟩
  case round =>
    obtain ⟨rfl, rfl⟩ := hrel
    go_wp2
    go_ret
    exact ⟨rfl, rfl⟩
theorem u_nil_64 (w : World) : Calls Try.prog 29 #[.pointer none] w fun e w' => e = .returned (.int .u64 0) ∧ w = w' := by
  go_enter Try.func29, Try.ntmps29
  go_wp2_with (go_at_call 42; refine (next_nil_64 _).mono ?_; rintro e w' ⟨rfl, rfl⟩)
  go_ret
  exact ⟨rfl, rfl⟩
theorem raw_nil (w : World) (k : Int) : Calls Try.prog 30 #[.pointer none, .int .i64 k] w fun e w' => e = .returned (.slice none 0 0) ∧ w = w' := by
  go_enter Try.func30, Try.ntmps30
  go_wp2_with (go_at_call 43; refine (off_nil _ _).mono ?_; rintro e w' ⟨rfl, rfl⟩)
  go_ret
  exact ⟨rfl, rfl⟩

theorem OctetNil_open {H : Type} {enc : TypeId × Value → H} (W : World) {r : Reach} (base : Nat) (v0 : Value) {d0 : DataW H} {p0 : List MemPlace}
    (hv0 : Value.okWide Try.prog W r base 3 v0) (h0 : DataW.Trod enc Try.prog W 0 (fun _ => true) true 3 v0 d0 p0) :
    Calls Try.prog 7 #[v0] W fun e w' => e = .returned (.bool true) ∧ Kp All W w' := by
  obtain ⟨k, rfl, rfl, rfl, _⟩ := open_int Try.underlying3 hv0 h0
  go_enter Try.func7, Try.ntmps7
  go_wp2_with (first | (go_at_call 10; refine (wakes_ok _).mono ?_; rintro e w0 ⟨rfl, k0⟩) | (go_at_call 26; refine (u_nil_8 _).mono ?_; rintro e w1 ⟨rfl, rfl⟩) | (go_at_call 27; refine (u_nil_16 _).mono ?_; rintro e w1 ⟨rfl, rfl⟩) | (go_at_call 28; refine (u_nil_32 _).mono ?_; rintro e w1 ⟨rfl, rfl⟩) | (go_at_call 29; refine (u_nil_64 _).mono ?_; rintro e w1 ⟨rfl, rfl⟩) | (go_at_call 30; refine (raw_nil _ _).mono ?_; rintro e w1 ⟨rfl, rfl⟩) | (go_at_call 31; refine (left_nil _).mono ?_; rintro e w1 ⟨rfl, rfl⟩) | (go_at_call 32; refine (err_nil _).mono ?_; rintro e w1 ⟨rfl, rfl⟩))
  go_ret
  exact ⟨rfl, k0⟩
end Go.Proofs.Ythekhgpodopalaa
