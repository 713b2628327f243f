/- slices.Sort and slices.Compact of texts, by the shelf's contracts. -/
import Derived.Test.YtghfjfgpiomdhaaPmZ1
import Derived.Test.YtghfjfgpiomdhaaRkF
import Derived.Test.YtghfjfgpiomdhaaShelf
namespace Go.Proofs.Ytghfjfgpiomdhaa
open Go.RowKit
open Asn (pt row rb)
set_option linter.unusedVariables false
set_option linter.unusedSimpArgs false
theorem put_cells {xs ys : List Value} {d : List Str} (hl : d.length = xs.length) : Go.Sort.putCells encStr 0 d.toArray (xs ++ ys).toArray = (d.map sv ++ ys).toArray := by
  apply Array.ext'
  apply List.ext_getElem?
  intro i
  simp only [Go.Sort.putCells, Array.toList_mapIdx, List.getElem?_mapIdx]
  rcases Nat.lt_or_ge i d.length with h | h
  · have h2 : i < xs.length := by omega
    rw [List.getElem?_append_left h2, List.getElem?_append_left (by simpa using h), List.getElem?_map, List.getElem?_eq_getElem h, List.getElem?_eq_getElem h2]
    simp [h, encStr, sv]
  · rw [List.getElem?_append_right (by omega), List.getElem?_append_right (by simpa using h), List.length_map, hl]
    cases ys[i - xs.length]? with
    | none => rfl
    | some v =>
      simp
      omega
theorem put_row {w : World} {g n : Nat} {e : TypeId} {xs ys : List Value} {d : List Str} {os : Array Obj} (hb : Blk w g e (xs ++ ys).toArray) (hl : d.length = xs.length) :
    Blk (Go.Sort.grow (Go.Sort.putRow encStr (Go.Sort.ahead w n) g 0 d.toArray) os) g e (d.map sv ++ ys).toArray ∧ Kp (fun k => ¬ k = g) w (Go.Sort.grow (Go.Sort.putRow encStr (Go.Sort.ahead w n) g 0 d.toArray) os) := by
  have hlt := hb.lt
  have hb2 : w.heap[g]? = some (.cells (xs ++ ys).toArray e (0, 0)) := hb
  constructor
  · show (w.heap.modify g (Go.Sort.onCells (Go.Sort.putCells encStr 0 d.toArray)) ++ os)[g]? = _
    rw [Array.getElem?_append_left (by simpa using hlt), Array.getElem?_modify, if_pos rfl, hb2]
    show some (Obj.cells (Go.Sort.putCells encStr 0 d.toArray (xs ++ ys).toArray) e (0, 0)) = _
    rw [put_cells hl]
  · refine ⟨rfl, rfl, rfl, ?_, fun k hk hlt => ?_⟩
    · show w.heap.size ≤ (w.heap.modify g _ ++ os).size
      simp
    · show (w.heap.modify g _ ++ os)[k]? = _
      rw [Array.getElem?_append_left (by simpa using hlt), Array.getElem?_modify, if_neg (fun e => hk e.symm)]
theorem grow_none (w : World) : Go.Sort.grow w #[] = w := by
  unfold Go.Sort.grow
  simp
theorem holds_row {w : World} {g : Nat} {e : TypeId} {l : List Str} {ys : List Value} (hb : Blk w g e (l.map sv ++ ys).toArray) : Go.Sort.Holds encStr w g 0 l.toArray := by
  intro j hj
  have hj : j < l.length := by simpa using hj
  refine ⟨?_, hb.frozen _⟩
  rw [hb.cell (0 + j)]
  simp only [List.getElem?_toArray, Nat.zero_add]
  rw [List.getElem?_append_left (by simpa using hj)]
  simp [hj, encStr, sv]
/-- what a row of one's own is: nothing, or a block -/
theorem row_parts {w : World} {A : Option Addr} {e : TypeId} {n c : Nat} {xs : List Value} (hS : St w (owns [row e 1 A n c xs]) [row e 1 A n c xs] w) :
    (A = none ∧ n = 0 ∧ c = 0 ∧ xs = []) ∨ ∃ gb ys, A = some ⟨gb, 0, none⟩ ∧ ys.length = c - n ∧ n ≤ c ∧ c ≤ maxLen ∧ xs.length = n ∧ St w (owns [row e 1 A n c xs]) [pt gb e (xs ++ ys)] w := by
  have hown : w.ownsRow 0 e 1 (.slice A n c) n xs := hS.at_ (A := row e 1 A n c xs) (by simp)
  have hlen : xs.length = n := by have := hown.1; omega
  rcases hown.2 with ⟨hv, h0⟩ | ⟨gb, cap, cur, hv, _, hb, hmc, hcm, hcs, htk⟩
  · injection hv with e1 e2 e3
    exact .inl ⟨e1, e2, e3, List.eq_nil_of_length_eq_zero (by omega)⟩
  · injection hv with e1 e2 e3
    subst e1 e3
    have hcl : cur.toList.length = c := by simpa using hcs
    have hcur : xs ++ cur.toList.drop n = cur.toList := by rw [← htk, Nat.mul_one, List.take_append_drop]
    refine .inr ⟨gb, cur.toList.drop n, rfl, by rw [List.length_drop, hcl], hmc, hcm, hlen, hS.turn .here (fun _ => ?_) (fun k hk => ?_)⟩
    · rw [hcur]
      show Blk w gb e _
      unfold Blk
      rw [hb]
    · have hk : k = gb := hk
      subst hk
      rfl
def srtS (l : List Str) : List Str := l.mergeSort fun x y => decide (x ≤ y)
theorem srtS_len (l : List Str) : (srtS l).length = l.length := by rw [srtS, List.length_mergeSort]
theorem sort_any (w : World) (A : Option Addr) (n c : Nat) (l : List Str) (hS : St w (owns [row 9 1 A n c (l.map sv)]) [row 9 1 A n c (l.map sv)] w) (hn : n ≤ 100000) :
    Gives Try.prog 58 [.slice A n c] [row 9 1 A n c (l.map sv)] w (X := Unit) (fun _ => .tuple #[]) (fun _ => True) (fun _ => [row 9 1 A n c ((srtS l).map sv)]) := by
  rcases row_parts hS with ⟨rfl, rfl, rfl, hx⟩ | ⟨gb, ys, rfl, hys, hnc, hcm, hlen, hS2⟩
  · have hl : l = [] := by simpa using hx
    subst hl
    refine (Try.slices_Sort_string_none none 0 w).mono ?_
    rintro e w' ⟨rfl, rfl⟩
    exact ⟨(), rfl, trivial, by simpa [srtS] using hS⟩
  · rw [List.length_map] at hlen
    subst hlen
    have hb : Blk w gb 9 (l.map sv ++ ys).toArray := hS2.at_ (A := pt gb 9 (l.map sv ++ ys)) (by simp)
    refine (Try.slices_Sort_string gb 0 c l w (holds_row hb) hb.lt (by omega)).mono ?_
    rintro e w' ⟨rfl, m, os, rfl⟩
    obtain ⟨h1, h2⟩ := put_row (n := m) (os := os) (d := srtS l) hb (by rw [srtS_len]; simp)
    refine ⟨(), rfl, trivial, ?_⟩
    have h3 := hS2.upd (A := pt gb 9 (l.map sv ++ ys)) (A' := pt gb 9 ((srtS l).map sv ++ ys)) .here h2 h1 (fun _ h => h)
    have h4 := h3.rowOf (size := 1) (n := l.length) (m := c) .here hnc hcm (by simp [srtS_len, hys]; omega)
    rwa [List.take_left' (by simp [srtS_len])] at h4
theorem compact_any (w : World) (A : Option Addr) (n c : Nat) (l : List Str) (hS : St w (owns [row 9 1 A n c (l.map sv)]) [row 9 1 A n c (l.map sv)] w) (hn : n ≤ 100000) :
    Gives Try.prog 59 [.slice A n c] [row 9 1 A n c (l.map sv)] w (X := Unit) (fun _ => .slice A (Lib.compact l).length c) (fun _ => True) (fun _ => [row 9 1 A (Lib.compact l).length c ((Lib.compact l).map sv)]) := by
  rcases row_parts hS with ⟨rfl, rfl, rfl, hx⟩ | ⟨gb, ys, rfl, hys, hnc, hcm, hlen, hS2⟩
  · have hl : l = [] := by simpa using hx
    subst hl
    refine (Try.slices_Compact_string_empty none 0 w).mono ?_
    rintro e w' ⟨rfl, rfl⟩
    exact ⟨(), rfl, trivial, hS⟩
  · rw [List.length_map] at hlen
    subst hlen
    have hb : Blk w gb 9 (l.map sv ++ ys).toArray := hS2.at_ (A := pt gb 9 (l.map sv ++ ys)) (by simp)
    refine (Try.slices_Compact_string gb 0 c l w (holds_row hb) (by omega) hnc).mono ?_
    rintro e w' ⟨rfl, m, rfl⟩
    have hcl : (Lib.compact l).length ≤ l.length := Lib.compact_length_le l
    obtain ⟨h1, h2⟩ := put_row (n := m) (os := #[]) (d := Lib.compact l ++ List.replicate (l.length - (Lib.compact l).length) []) hb (by simp; omega)
    rw [grow_none] at h1 h2
    refine ⟨(), rfl, trivial, ?_⟩
    generalize hd : (Lib.compact l ++ List.replicate (l.length - (Lib.compact l).length) []) = d at h1 h2 ⊢
    have h3 := hS2.upd (A := pt gb 9 (l.map sv ++ ys)) (A' := pt gb 9 (d.map sv ++ ys)) .here h2 h1 (fun _ h => h)
    subst hd
    have h4 := h3.rowOf (size := 1) (n := (Lib.compact l).length) (m := c) .here (by omega) hcm (by simp [hys]; omega)
    rwa [List.map_append, List.append_assoc, List.take_left' (by simp)] at h4
end Go.Proofs.Ytghfjfgpiomdhaa
