/- A reader as a state: what each of its calls answers and leaves. -/
import Derived.Test.YtemgfoakffappaaDoorOct4
namespace Go.Proofs.YtemgfoakffappaaDoor
open Go.RowKit
open Go.Lib (hid)

/-- how many bytes are taken off -/
def tookN (len : Nat) (why n : Int) : Nat := if why = 0 ∧ 0 ≤ n ∧ n ≤ len then n.toNat else 0
/-- the error behind it -/
def whyN (len : Nat) (why n : Int) : Int := if why = 0 then (if n < 0 then 2 else if (len : Int) < n then 7 else 0) else why
theorem tookN_le (len : Nat) (why n : Int) : tookN len why n ≤ len := by unfold tookN; split <;> omega

/-- the reader in block g has the bytes l still, and this error; the bytes lie in F -/
def Rst (w : World) (g : Nat) (F : Nat → Prop) (l : List UInt8) (why : Int) : Prop := ∃ A n c, Rdr w g A n c why ∧ Bs w F A n c l ∧ ∀ b, F b → b ≠ g
theorem Rst.kp {w w' : World} {g : Nat} {F G : Nat → Prop} {l : List UInt8} {why : Int} (h : Rst w g F l why) (hk : Kp G w w') (hg : G g) (hF : ∀ k, F k → G k) : Rst w' g F l why := by
  obtain ⟨A, n, c, h1, h2, h3⟩ := h
  exact ⟨A, n, c, Blk.kp h1 hk hg, h2.keep (hk.mono fun k hk _ => hF k hk), h3⟩
theorem Rst.more {w : World} {g : Nat} {F G : Nat → Prop} {l : List UInt8} {why : Int} (h : Rst w g F l why) (hF : ∀ k, F k → G k) (hg : ¬ G g) : Rst w g G l why := by
  obtain ⟨A, n, c, h1, h2, h3⟩ := h
  exact ⟨A, n, c, h1, h2.more hF, fun b hb e => hg (e ▸ hb)⟩

theorem off_any (w : World) (g : Nat) (F : Nat → Prop) (A : Option Addr) (n c : Nat) (l : List UInt8) (why k : Int) (h : Rdr w g A n c why) (hb : Bs w F A n c l) (hF : ∀ b, F b → b ≠ g) :
    Calls Tryd.prog 54 #[.pointer (some ⟨g, 0, none⟩), .int .i64 k] w fun e w' => ∃ A', e = .returned (.slice A' (tookN l.length why k) (tookN l.length why k)) ∧
      Bs w' F A' (tookN l.length why k) (tookN l.length why k) (l.take (tookN l.length why k)) ∧ Rst w' g F (l.drop (tookN l.length why k)) (whyN l.length why k) ∧ Kp (fun b => b ≠ g) w w' ∧ Hid (w'.heap.size = w.heap.size) := by
  have hl := hb.len
  by_cases hw : why = 0
  · subst hw
    by_cases hk : k < 0
    · refine (off_neg w g A n c k h hk).mono fun e w' ⟨he, hw'⟩ => ?_
      subst hw'
      have ht : tookN l.length 0 k = 0 := by unfold tookN; rw [if_neg (by omega)]
      have hy : whyN l.length 0 k = 2 := by unfold whyN; rw [if_pos rfl, if_pos hk]
      have hkp := Kp.setCell w ⟨g, 1, none⟩ (.int .i64 2)
      rw [ht, hy]
      exact ⟨none, he, Bs.nil _ _, ⟨A, n, c, Blk.set_ h 1 _, by simpa using hb.keep (hkp.mono fun k hk _ => hF k hk), hF⟩, hkp, hid (by simp)⟩
    · by_cases hn : (n : Int) < k
      · refine (off_short w g A n c k h (by omega) hn).mono fun e w' ⟨he, hw'⟩ => ?_
        subst hw'
        have ht : tookN l.length 0 k = 0 := by unfold tookN; rw [if_neg (by omega)]
        have hy : whyN l.length 0 k = 7 := by unfold whyN; rw [if_pos rfl, if_neg hk, if_pos (by omega)]
        have hkp := Kp.setCell w ⟨g, 1, none⟩ (.int .i64 7)
        rw [ht, hy]
        exact ⟨none, he, Bs.nil _ _, ⟨A, n, c, Blk.set_ h 1 _, by simpa using hb.keep (hkp.mono fun k hk _ => hF k hk), hF⟩, hkp, hid (by simp)⟩
      · obtain ⟨m, rfl⟩ := Int.eq_ofNat_of_zero_le (show 0 ≤ k by omega)
        refine (off_ok w g A n c m h (by omega) hb.cap).mono fun e w' ⟨he, hw'⟩ => ?_
        subst hw'
        have ht : tookN l.length 0 (m : Int) = m := by unfold tookN; rw [if_pos (by omega)]; omega
        have hy : whyN l.length 0 (m : Int) = 0 := by unfold whyN; rw [if_pos rfl, if_neg hk, if_neg (by omega)]
        have hkp := Kp.setCell w ⟨g, 0, none⟩ (.slice (cutA A c m) (n - m) (c - m))
        have hb1 := hb.keep (hkp.mono fun k hk _ => hF k hk)
        have hh := hb1.head (k := m) (by omega)
        rw [ht, hy]
        exact ⟨A, he, ⟨hh.len, Nat.le_refl _, by have := hb.cap; have := hb.capm; omega, hh.rd⟩, ⟨_, _, _, Blk.set_ h 0 _, hb1.cutA (by omega), hF⟩, hkp, hid (by simp)⟩
  · refine (off_stop w g A n c why k h hw).mono fun e w' ⟨he, hw'⟩ => ?_
    subst hw'
    have ht : tookN l.length why k = 0 := by unfold tookN; rw [if_neg (by omega)]
    have hy : whyN l.length why k = why := by unfold whyN; rw [if_neg hw]
    rw [ht, hy]
    exact ⟨none, he, Bs.nil _ _, ⟨A, n, c, h, by simpa using hb, hF⟩, Kp.refl _ _, hid rfl⟩

theorem next_any_32 (w : World) (g : Nat) (F : Nat → Prop) (l : List UInt8) (why : Int) (h : Rst w g F l why) :
    Calls Tryd.prog 47 #[.pointer (some ⟨g, 0, none⟩), .int .i64 4] w fun e w' => e = .returned (.int .u32 (num (l.take (tookN l.length why 4)))) ∧
      Rst w' g F (l.drop (tookN l.length why 4)) (whyN l.length why 4) ∧ Kp (fun b => b ≠ g) w w' ∧ Hid (w'.heap.size = w.heap.size) := by
  obtain ⟨A, n, c, h, hb, hF⟩ := h
  have hl := hb.len
  by_cases hw : why = 0
  · subst hw
    by_cases hn : n < 4
    · refine (next_short_32 w g A n c h hn).mono fun e w' ⟨he, hw'⟩ => ?_
      subst hw'
      have ht : tookN l.length 0 4 = 0 := by unfold tookN; rw [if_neg (by omega)]
      have hy : whyN l.length 0 4 = 7 := by unfold whyN; rw [if_pos rfl, if_neg (by omega), if_pos (by omega)]
      have hkp := Kp.setCell w ⟨g, 1, none⟩ (.int .i64 7)
      rw [ht, hy]
      exact ⟨he, ⟨A, n, c, Blk.set_ h 1 _, by simpa using hb.keep (hkp.mono fun k hk _ => hF k hk), hF⟩, hkp, hid (by simp)⟩
    · refine (next_ok_32 w g A n c l F h hb hF (by omega)).mono fun e w' ⟨he, hw'⟩ => ?_
      subst hw'
      have ht : tookN l.length 0 4 = 4 := by unfold tookN; rw [if_pos (by omega)]; rfl
      have hy : whyN l.length 0 4 = 0 := by unfold whyN; rw [if_pos rfl, if_neg (by omega), if_neg (by omega)]
      have hkp := Kp.setCell w ⟨g, 0, none⟩ (.slice (cutA A c 4) (n - 4) (c - 4))
      have hb1 := hb.keep (hkp.mono fun k hk _ => hF k hk)
      rw [ht, hy]
      exact ⟨he, ⟨_, _, _, Blk.set_ h 0 _, hb1.cutA (by omega), hF⟩, hkp, hid (by simp)⟩
  · refine (next_stop_32 w g A n c why h hw).mono fun e w' ⟨he, hw'⟩ => ?_
    subst hw'
    have ht : tookN l.length why 4 = 0 := by unfold tookN; rw [if_neg (by omega)]
    have hy : whyN l.length why 4 = why := by unfold whyN; rw [if_neg hw]
    rw [ht, hy]
    exact ⟨he, ⟨A, n, c, h, by simpa using hb, hF⟩, Kp.refl _ _, hid rfl⟩

theorem u_any_32 (w : World) (g : Nat) (F : Nat → Prop) (l : List UInt8) (why : Int) (h : Rst w g F l why) :
    Calls Tryd.prog 33 #[.pointer (some ⟨g, 0, none⟩)] w fun e w' => e = .returned (.int .u32 (num (l.take (tookN l.length why 4)))) ∧
      Rst w' g F (l.drop (tookN l.length why 4)) (whyN l.length why 4) ∧ Kp (fun b => b ≠ g) w w' ∧ Hid (w'.heap.size = w.heap.size) := by
  go_enter Tryd.func33, Tryd.ntmps33
  go_wp2_with (go_at_call 47; refine (next_any_32 _ _ F l why h).mono ?_; rintro e w' ⟨rfl, h1, h2, h3⟩)
  go_ret
  exact ⟨rfl, h1, h2, h3⟩
theorem left_any (w : World) (g : Nat) (F : Nat → Prop) (l : List UInt8) (why : Int) (h : Rst w g F l why) :
    Calls Tryd.prog 34 #[.pointer (some ⟨g, 0, none⟩)] w fun e w' => e = .returned (.int .i64 (l.length : Nat)) ∧ w = w' := by
  obtain ⟨A, n, c, h, hb, hF⟩ := h
  have hc0 : w.cell? ⟨g, 0, none⟩ = some (.slice A n c) := Blk.cell h 0
  rw [← hb.len]
  go_enter Tryd.func34, Tryd.ntmps34
  go_wp2
  go_ret
  exact ⟨rfl, rfl⟩
theorem left_nil (w : World) :
    Calls Tryd.prog 34 #[.pointer none] w fun e w' => e = .returned (.int .i64 0) ∧ w = w' := by
  go_enter Tryd.func34, Tryd.ntmps34
  go_wp2
  go_ret
  exact ⟨rfl, rfl⟩
theorem read_any (w : World) (A : Option Addr) (n c : Nat) (l : List UInt8) (F : Nat → Prop) (h : Bs w F A n c l) (hn : n ≤ 140737488355328) :
    Calls Tryd.prog 32 #[.slice A n c] w fun e w' => ∃ g, e = .returned (.pointer (some ⟨g, 0, none⟩)) ∧ w.heap.size ≤ g ∧ Rst w' g (fun b => w.heap.size ≤ b ∧ b ≠ g) l 0 ∧ Kp All w w' := by
  have hl := hid h.len
  go_enter Tryd.func32, Tryd.ntmps32
  go_wp2_with (first | (refine mk_b _ rfl _ _ rfl .i64 .i64 _ _ n n rfl rfl (by simp) (by simp) (Nat.le_refl _) (by omega) ?_; intro w1 hb1 hk1 hs1; have h1 := h.keep (w' := w1) hk1.all) | (refine copy_b _ rfl (.tmp 7) (.tmp 8) rfl w.heap.size 0 n n n c A rfl rfl (List.replicate n 0) hb1 F l h1 (by simp) ?_; intro w2 hb2 hk2 hs2))
  go_ret
  have e1 : List.take 0 (List.replicate n (0 : UInt8)) ++ List.take n l ++ List.drop (0 + min n n) (List.replicate n 0) = l := by
    rw [List.take_of_length_le (l := l) (by have := hl.out; omega)]
    simp
  rw [e1] at hb2
  have hk := hk1.since hk2 (fun i hi => by omega)
  refine ⟨w2.heap.size, rfl, by have := hs2.out; omega, ⟨_, _, _, Blk.new w2 _ _, ((hb2.bs hl.out.symm (by simp only [maxLen]; omega)).keep (Kp.alloc w2 _)).more fun b hb => ⟨by omega, by have := hs2.out; omega⟩, fun b hb => hb.2⟩, hk.trans (Kp.alloc w2 _)⟩
end Go.Proofs.YtemgfoakffappaaDoor
