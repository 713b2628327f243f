/- entry.Encode refuses what may not be. -/
import Derived.Test.YtleecfhafnfeoaaEnc
namespace Go.Proofs.Ytleecfhafnfeoaa
open Go.RowKit
open Go.Lib (hid)

set_option maxRecDepth 100000 in
set_option maxHeartbeats 1000000 in
theorem enc_no (w : World) (C : Array Value) (k c : Int) (s : Nat) (br : ByteArray) (old new : List UInt8) (A : Option Addr) (n cp : Nat) (h : Cd C k c s br old new A n cp) (hR : rightB k c s br.data.toList old new n = false) :
    Calls Try.prog 9 #[.agg C] w fun e w' => e = .returned (.tuple #[.slice none 0 0, .int .i64 210]) ∧ Kp All w w' := by
  have hsz := h.size
  have chk := hid (check_any (w := w.alloc (.cells C 27)) C k c s br old new A n cp h)
  rw [hR, if_neg (by simp)] at chk
  clear h hR
  go_enter Try.func9, Try.ntmps9
  go_wp2_with (first | (refine ld_cmd rfl (.tmp 1) rfl _ rfl C hsz (Blk.new w _ C) ?_) | (go_at_call 11; refine chk.out.mono ?_; rintro e w1 ⟨rfl, k1⟩))
  go_ret2
  exact ⟨rfl, (Kp.alloc w _).trans k1⟩
end Go.Proofs.Ytleecfhafnfeoaa
