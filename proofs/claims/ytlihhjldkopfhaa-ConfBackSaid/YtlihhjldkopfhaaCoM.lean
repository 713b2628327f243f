/- Members with one more lead back; so do their bytes. Plain laws. -/
import Derived.Test.YtlihhjldkopfhaaCoH
namespace Go.Proofs.Ytlihhjldkopfhaa
open Go.RowKit
open Asn (pt row rb)
set_option linter.unusedVariables false
set_option linter.unusedSimpArgs false

theorem right_of {ms : List Int} (h0 : ms ≠ []) (h1 : ∀ m ∈ ms, 1 ≤ m ∧ m ≤ 5) (h2 : Up_ ms) : right ms = true := by
  rw [right_iff]
  refine ⟨List.length_pos_iff.2 h0, fun j hj => ⟨?_, fun h3 => up_lt h2 (by omega) hj⟩⟩
  rw [getD_at hj]
  exact decide_eq_true (h1 _ (List.getElem_mem hj))
/-- one more -/
def oneM (ms : List Int) (m : Int) : List Int := ms.take (cut ms m) ++ m :: ms.drop (cut ms m)
section
variable {ms : List Int} {m : Int}
theorem oneM_mem (x : Int) : x ∈ oneM ms m ↔ x = m ∨ x ∈ ms := by
  have h : x ∈ ms ↔ x ∈ ms.take (cut ms m) ∨ x ∈ ms.drop (cut ms m) := by
    conv => lhs; rw [← List.take_append_drop (cut ms m) ms]
    exact List.mem_append
  rw [oneM, List.mem_append, List.mem_cons, h]
  constructor
  · rintro (h | h | h)
    · exact .inr (.inl h)
    · exact .inl h
    · exact .inr (.inr h)
  · rintro (h | h | h)
    · exact .inr (.inl h)
    · exact .inl h
    · exact .inr (.inr h)
theorem oneM_len : (oneM ms m).length = ms.length + 1 := by
  have := cut_le ms m
  simp [oneM]
  omega
theorem oneM_up (hu : Up_ ms) (hm : ¬ m ∈ ms) : Up_ (oneM ms m) := by
  have h1 := cut_lo ms m
  have h2 : ∀ x ∈ ms.drop (cut ms m), m < x := fun x hx => by
    have h3 := cut_hi hu x hx
    have h4 : x ≠ m := fun e => hm (e ▸ List.mem_of_mem_drop hx)
    omega
  refine List.pairwise_append.2 ⟨hu.sublist (List.take_sublist _ _), List.pairwise_cons.2 ⟨h2, hu.sublist (List.drop_sublist _ _)⟩, fun x hx y hy => ?_⟩
  rcases List.mem_cons.1 hy with rfl | hy
  · exact h1 x hx
  · have := h1 x hx
    have := h2 y hy
    omega
theorem oneM_right (hr : right ms = true) (hmm : 1 ≤ m ∧ m ≤ 5) (hm : ¬ m ∈ ms) : right (oneM ms m) = true := by
  obtain ⟨h0, h1, h2⟩ := right_up hr
  refine right_of ?_ (fun x hx => ?_) (oneM_up h2 hm)
  · intro e
    have := oneM_len (ms := ms) (m := m)
    rw [e] at this
    simp at this
  · rcases (oneM_mem x).1 hx with rfl | hx
    · exact hmm
    · exact h1 x hx
theorem oneM_wout (hm : ¬ m ∈ ms) : woutL (oneM ms m) m = ms := by
  have h : ∀ x ∈ ms, (!decide (x = m)) = true := fun x hx => by
    have : x ≠ m := fun e => hm (e ▸ hx)
    simp [this]
  rw [woutL, oneM, List.filter_append, List.filter_cons, if_neg (by simp), List.filter_eq_self.2 fun x hx => h x (List.mem_of_mem_take hx), List.filter_eq_self.2 fun x hx => h x (List.mem_of_mem_drop hx), List.take_append_drop]
theorem oneM_drop (hr : right ms = true) (hmm : 1 ≤ m ∧ m ≤ 5) (hm : ¬ m ∈ ms) : drpE (oneM ms m) m = 0 ∧ drpL (oneM ms m) m = ms := by
  have hr2 := oneM_right hr hmm hm
  have hu := oneM_up (right_up hr).2.2 hm
  have hin : m ∈ oneM ms m := (oneM_mem m).2 (.inl rfl)
  have hl := oneM_len (ms := ms) (m := m)
  have h0 := (right_len hr).1
  have h1 : (oneM ms m).length ≠ 1 := by omega
  refine ⟨by rw [drpE, hr2, if_pos hin, if_neg h1]; rfl, ?_⟩
  rw [drpL, hr2, decide_eq_true hin, decide_eq_false h1]
  show (oneM ms m).take (cut (oneM ms m) m) ++ (oneM ms m).drop (cut (oneM ms m) m + 1) = ms
  rw [← wout_drp hu hin, oneM_wout hm]
theorem oneM_steps (hr : right ms = true) (hmm : 1 ≤ m ∧ m ≤ 5) (hm : ¬ m ∈ ms) : stpE ms (oneM ms m) = 0 ∧ stpE (oneM ms m) ms = 0 := by
  have hr2 := oneM_right hr hmm hm
  have h1 : lackN ms (oneM ms m) = 0 := by
    rw [lackN, List.countP_eq_zero]
    intro x hx
    rw [hr2, decide_eq_true ((oneM_mem x).2 (.inr hx))]
    simp
  have h3 : ∀ x ∈ ms, ¬ (!(right ms && decide (x ∈ ms))) = true := fun x hx => by rw [hr, decide_eq_true hx]; simp
  have h2 : lackN (oneM ms m) ms = 1 := by
    rw [lackN, oneM, List.countP_append, List.countP_cons, List.countP_eq_zero.2 fun x hx => h3 x (List.mem_of_mem_take hx), List.countP_eq_zero.2 fun x hx => h3 x (List.mem_of_mem_drop hx), hr, decide_eq_false hm]
    rfl
  constructor
  · rw [stpE, hr, hr2, h1, h2]; rfl
  · rw [stpE, hr, hr2, h1, h2]; rfl
theorem zb_nat {m : Int} (h0 : 0 ≤ m) (h1 : m < 256) : ((zb m).toNat : Int) = m := by
  simp only [zb, UInt8.toNat_ofNat']
  omega
theorem zb_back (x : UInt8) : zb (x.toNat : Int) = x := by
  apply UInt8.toNat_inj.1
  have := x.toNat_lt
  simp only [zb, UInt8.toNat_ofNat']
  omega
theorem enc_b0 (hr : right ms = true) (k : Nat) (hk : 0 < k) : b0 ((encM ms).take k) = ms.length := by
  have h5 := (right_len hr).2
  obtain ⟨k, rfl⟩ : ∃ k', k = k' + 1 := ⟨k - 1, by omega⟩
  simp only [b0, encM, List.take_succ_cons, List.getD_cons_zero]
  have := zb_nat (m := (ms.length : Int)) (by omega) (by omega)
  omega
theorem enc_decM (hr : right ms = true) : decM (encM ms) = ms := by
  obtain ⟨h0, h1, h2⟩ := right_up hr
  simp only [decM, encM, List.drop_succ_cons, List.drop_zero, List.map_map]
  conv => rhs; rw [← List.map_id ms]
  apply List.map_congr_left
  intro x hx
  have := h1 x hx
  exact zb_nat (by omega) (by omega)
theorem encM_ln (ms : List Int) : (encM ms).length = ms.length + 1 := by simp [encM]
theorem enc_dec (hr : right ms = true) : decE (encM ms) = 0 ∧ decL (encM ms) = ms := by
  have hl := encM_ln ms
  have hb : b0 (encM ms) = ms.length := by
    have := enc_b0 hr ((encM ms).length) (by omega)
    rwa [List.take_length] at this
  have h1 : decE (encM ms) = 0 := by rw [decE, if_neg (by omega), if_pos ⟨by omega, by rw [enc_decM hr]; exact hr⟩]
  exact ⟨h1, by rw [decL, if_pos h1, enc_decM hr]⟩
theorem enc_short (hr : right ms = true) (k : Nat) (hk : k ≤ ms.length) : decE ((encM ms).take k) = 7 ∧ decL ((encM ms).take k) = [] := by
  have h1 : decE ((encM ms).take k) = 7 := by
    rw [decE, if_pos]
    rcases Nat.eq_zero_or_pos k with h | h
    · subst h; simp
    · rw [enc_b0 hr k h, List.length_take]
      omega
  exact ⟨h1, by rw [decL, h1]; rfl⟩
end
theorem dec_enc {b : List UInt8} (h : decE b = 0) : right (decM b) = true ∧ encM (decM b) = b ∧ decL b = decM b := by
  have h2 : decL b = decM b := by rw [decL, if_pos h]
  rw [decE] at h
  split at h
  · cases h
  split at h
  · rename_i h3 h1
    refine ⟨h1.2, ?_, h2⟩
    cases b with
    | nil => exact absurd h3 (by simp)
    | cons x b =>
      have hx : b.length = x.toNat := by
        have := h1.1
        simpa [b0] using this
      simp only [encM, decM_len, decM, List.drop_succ_cons, List.drop_zero, List.map_map, List.length_map]
      have e1 : zb (b.length : Int) = x := by rw [hx]; exact zb_back x
      rw [e1]
      congr 1
      conv => rhs; rw [← List.map_id b]
      apply List.map_congr_left
      intro y _
      exact zb_back y
  · cases h
end Go.Proofs.Ytlihhjldkopfhaa
