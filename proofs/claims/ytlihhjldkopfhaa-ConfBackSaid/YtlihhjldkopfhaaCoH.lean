/- Members with one more and with one less: what the document says is what Add and Drop do. -/
import Derived.Test.YtlihhjldkopfhaaCoG
namespace Go.Proofs.Ytlihhjldkopfhaa
open Go.RowKit
open Asn (pt row rb)
set_option linter.unusedVariables false
set_option linter.unusedSimpArgs false
--@use N

theorem cut_lo (ms : List Int) (m : Int) : ∀ x ∈ ms.take (cut ms m), x < m := fun x hx => by
  obtain ⟨j, hj, rfl⟩ := List.getElem_of_mem hx
  have hj1 : j < cut ms m := by rw [List.length_take] at hj; omega
  have := List.not_of_lt_findIdx (p := fun x => decide (m ≤ x)) (xs := ms) hj1
  rw [List.getElem_take]
  simpa using this
theorem cut_hi {ms : List Int} {m : Int} (hu : Up_ ms) : ∀ x ∈ ms.drop (cut ms m), m ≤ x := fun x hx => by
  obtain ⟨j, hj, rfl⟩ := List.getElem_of_mem hx
  rw [List.length_drop] at hj
  have hc : cut ms m < ms.length := by omega
  have h0 : m ≤ ms[cut ms m] := by
    have := List.findIdx_getElem (p := fun x => decide (m ≤ x)) (xs := ms) (w := hc)
    exact of_decide_eq_true this
  rw [List.getElem_drop]
  rcases Nat.eq_zero_or_pos j with h | h
  · subst h
    exact h0
  · have := List.pairwise_iff_getElem.1 hu (cut ms m) (cut ms m + j) hc (by omega) (by omega)
    omega
theorem fold_lo (m : Int) : ∀ (L S : List Int), (∀ x ∈ L, x < m) → L.foldl (wth m) (S, false) = (S ++ L, false)
  | [], S, _ => by simp
  | x :: L, S, h => by
    have hx := h x (by simp)
    rw [List.foldl_cons, show wth m (S, false) x = (S ++ [x], false) by simp [wth, show ¬ m < x by omega], fold_lo m L _ (fun y hy => h y (by simp [hy]))]
    simp
theorem fold_done (m : Int) : ∀ (L S : List Int), L.foldl (wth m) (S, true) = (S ++ L, true)
  | [], S => by simp
  | x :: L, S => by
    rw [List.foldl_cons, show wth m (S, true) x = (S ++ [x], true) by simp [wth], fold_done m L _]
    simp
theorem with_add {ms : List Int} {m : Int} (hu : Up_ ms) (hm : ¬ m ∈ ms) : withL ms m = ms.take (cut ms m) ++ m :: ms.drop (cut ms m) := by
  have h1 := cut_lo ms m
  have h2 : ∀ x ∈ ms.drop (cut ms m), m < x := fun x hx => by
    have h3 := cut_hi hu x hx
    have h4 : x ≠ m := fun e => hm (e ▸ List.mem_of_mem_drop hx)
    omega
  have h3 : wthL m ms = (ms.drop (cut ms m)).foldl (wth m) (ms.take (cut ms m), false) := by
    conv => lhs; rw [wthL, ← List.take_append_drop (cut ms m) ms, List.foldl_append, fold_lo m _ _ h1]
    simp
  cases hd : ms.drop (cut ms m) with
  | nil =>
    rw [hd] at h3
    rw [withL, h3]
    rfl
  | cons r R =>
    rw [hd] at h2
    have hr := h2 r (by simp)
    rw [hd, List.foldl_cons, show wth m (ms.take (cut ms m), false) r = (ms.take (cut ms m) ++ [m] ++ [r], true) by simp [wth, hr], fold_done] at h3
    rw [withL, h3]
    simp
theorem drop_cut {ms : List Int} {m : Int} (hu : Up_ ms) (hm : m ∈ ms) : ms.drop (cut ms m) = m :: ms.drop (cut ms m + 1) := by
  have hc := cut_lt hm
  rw [List.drop_eq_getElem_cons hc]
  congr 1
  have h0 : m ≤ ms[cut ms m] := by
    have := List.findIdx_getElem (p := fun x => decide (m ≤ x)) (xs := ms) (w := hc)
    exact of_decide_eq_true this
  obtain ⟨j, hj, he⟩ := List.getElem_of_mem hm
  rcases Nat.lt_trichotomy j (cut ms m) with h | h | h
  · have := List.not_of_lt_findIdx (p := fun x => decide (m ≤ x)) (xs := ms) h
    simp [he] at this
  · subst h; exact he
  · have := List.pairwise_iff_getElem.1 hu (cut ms m) j hc hj h
    omega
theorem wout_drp {ms : List Int} {m : Int} (hu : Up_ ms) (hm : m ∈ ms) : woutL ms m = ms.take (cut ms m) ++ ms.drop (cut ms m + 1) := by
  have h1 := cut_lo ms m
  have hd := drop_cut hu hm
  have h2 : ∀ x ∈ ms.drop (cut ms m + 1), m < x := by
    have h3 : Up_ (ms.drop (cut ms m)) := hu.sublist (List.drop_sublist _ _)
    rw [hd] at h3
    exact (List.pairwise_cons.1 h3).1
  conv => lhs; rw [woutL, ← List.take_append_drop (cut ms m) ms, hd, List.filter_append, List.filter_cons]
  rw [List.filter_eq_self.2 fun x hx => by have := h1 x hx; simp; omega, if_neg (by simp), List.filter_eq_self.2 fun x hx => by have := h2 x hx; simp; omega]
end Go.Proofs.Ytlihhjldkopfhaa
