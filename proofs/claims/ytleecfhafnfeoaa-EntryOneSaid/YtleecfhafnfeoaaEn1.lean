/- entry's names: letters from 33 to 126. -/
import Derived.Test.YtleecfhafnfeoaaB
import Derived.Laws.RangeAny
namespace Go.Proofs.Ytleecfhafnfeoaa
open Go.RowKit
open Go.Lib (hid)

/-- a letter of a name -/
def good (b : UInt8) : Bool := decide (33 ≤ b.toNat ∧ b.toNat ≤ 126)
/-- a name -/
def nameB (l : List UInt8) : Bool := l.all good && decide (1 ≤ l.length) && decide (l.length ≤ 24)

theorem good_step (s : ByteArray) (k : Nat) (h : k < s.size) : (s.data.toList.take (k + 1)).all good = ((s.data.toList.take k).all good && good (s[k]'h)) := by
  have e : s.data.toList.take (k + 1) = s.data.toList.take k ++ [s[k]'h] := by
    rw [List.take_succ_eq_append_getElem (by simpa using h)]; rfl
  rw [e]
  simp
theorem good_false (s : ByteArray) (k : Nat) (h : k < s.size) (hg : good (s[k]'h) = false) : nameB s.data.toList = false := by
  have h1 := good_step s k h
  rw [hg, Bool.and_false] at h1
  unfold nameB
  have : s.data.toList.all good = false := by
    rw [← List.take_append_drop (k + 1) s.data.toList, List.all_append, h1, Bool.false_and]
  rw [this]
  rfl

set_option maxHeartbeats 400000 in
theorem name_any (s : ByteArray) (w : World) (hs : s.size ≤ maxLen) :
    Calls Try.prog 20 #[.string s] w fun e w' => e = .returned (.bool (nameB s.data.toList)) ∧ Kp All w w' := by
  unfold maxLen at hs
  go_enter Try.func20, Try.ntmps20
  go_wp2
  go_loopw [4] (fun _ w' => ∃ k : Nat, k ≤ s.size ∧ w' = w.iter s k ∧ Hid ((s.data.toList.take k).all good = true)) (fun _ w' => s.size - w'.iterPos w.heap.size)
  case atStart => exact ⟨0, by omega, rfl, hid rfl⟩
  case round =>
    obtain ⟨k, hk, rfl, hgood⟩ := hrel
    by_cases hp : k < s.size
    · by_cases hg : good (s[k]'hp) = true
      · have hb : 33 ≤ (s[k]'hp).toNat ∧ (s[k]'hp).toNat ≤ 126 := by simpa [good] using hg
        have hst := good_step s k hp
        rw [hgood.out, hg] at hst
        have HST := hid hst
        have hnx : ∀ ty, (Instr.next (.pointer (some ⟨w.heap.size, 0, none⟩)) true ty).run Try.prog (w.iter s k) = _ := fun ty => run_next_ascii w s k ty hp (by omega)
        obtain ⟨c, hc⟩ : ∃ c, c = (s[k]'hp).toNat := ⟨_, rfl⟩
        rw [← hc] at hb hnx
        obtain ⟨h1, h2⟩ := hb
        have hlo : ¬ ((c : Int) < 33) := by omega
        have hhi : ¬ (126 < (c : Int)) := by omega
        clear hc hst hg
        go_wp2
        go_roundw
        case rel => exact ⟨k + 1, by omega, rfl, HST⟩
        case measure => simp; omega
      · have hnx : ∀ ty, (Instr.next (.pointer (some ⟨w.heap.size, 0, none⟩)) true ty).run Try.prog (w.iter s k) = _ := fun ty => run_next_any w s k ty hp
        have hc : (Utf8.decode s k).1 < 33 ∨ 126 < (Utf8.decode s k).1 := by
          by_cases h128 : (s[k]'hp).toNat < 128
          · rw [decode_ascii s k hp h128]
            simp [good] at hg
            omega
          · have := (decode_high s k hp (by omega)).1
            omega
        have hf := hid (good_false s k hp (by simpa using hg))
        obtain ⟨c, hcc⟩ : ∃ c, c = (Utf8.decode s k).1 := ⟨_, rfl⟩
        rw [← hcc] at hc hnx
        clear hcc hg
        rcases hc with hc | hc
        · have hlo : ((c : Int) < 33) := by omega
          go_wp2
          go_ret
          rw [hf.out]
          exact ⟨rfl, Kp.alloc w _⟩
        · have hlo : ¬ ((c : Int) < 33) := by omega
          have hhi : (126 < (c : Int)) := by omega
          go_wp2
          go_ret
          rw [hf.out]
          exact ⟨rfl, Kp.alloc w _⟩
    · have hnx : ∀ ty, (Instr.next (.pointer (some ⟨w.heap.size, 0, none⟩)) true ty).run Try.prog (w.iter s k) = _ := fun ty => run_next_end w s k ty hp
      obtain rfl : k = s.size := by omega
      rw [List.take_of_length_le (by simp)] at hgood
      have hn : nameB s.data.toList = (decide (1 ≤ s.size) && decide (s.size ≤ 24)) := by
        unfold nameB
        rw [hgood.out]
        simp
      have HN := hid hn
      clear hn hgood
      by_cases h1 : 1 ≤ s.size
      · by_cases h2 : s.size ≤ 24
        · have hv := hid (show nameB s.data.toList = true by rw [HN.out]; simp [h1, h2])
          have hd : decide ((s.size : Int) ≤ 24) = true := by simp; omega
          go_wp2
          go_ret
          rw [hv.out]
          exact ⟨rfl, Kp.alloc w _⟩
        · have hv := hid (show nameB s.data.toList = false by rw [HN.out]; simp [h2])
          have hd : decide ((s.size : Int) ≤ 24) = false := by simp; omega
          go_wp2
          go_ret
          rw [hv.out]
          exact ⟨rfl, Kp.alloc w _⟩
      · have hv := hid (show nameB s.data.toList = false by rw [HN.out]; simp [h1])
        go_wp2
        go_ret
        rw [hv.out]
        exact ⟨rfl, Kp.alloc w _⟩
end Go.Proofs.Ytleecfhafnfeoaa
