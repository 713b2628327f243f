/- OctetTakes: what a reader takes off, and what it tells. -/
import Derived.Test.YthekhgpodopalaaOctL4
import Derived.Test.YthekhgpodopalaaSt
namespace Go.Proofs.Ythekhgpodopalaa
open Go.RowKit Go.ChangeShapes Go.WideShapes Go.ChangeAt
open Go.Lib (hid)

/-- rows of two numbers -/
def Asks (w : World) (A : Option Addr) (n : Nat) (K M : Nat → Int) : Prop :=
  ∀ i, i < n → ∃ ad, A = some ad ∧ w.cell? (ad.add (i * 2)) = some (.int .i64 (K i)) ∧ w.cell? ⟨(ad.add (i * 2)).block, (ad.add (i * 2)).off + 1, none⟩ = some (.int .i64 (M i))
theorem Asks.keep {w w' : World} {A : Option Addr} {n : Nat} {K M : Nat → Int} (h : Asks w A n K M) (hk : Kp All w w') : Asks w' A n K M := fun i hi => by
  obtain ⟨ad, e, h1, h2⟩ := h i hi
  exact ⟨ad, e, hk.cell trivial h1, hk.cell trivial h2⟩

theorem open_asks {H : Type} {enc : TypeId × Value → H} {W : World} {r : Reach} {base : Nat} {v : Value} {d : DataW H} {p : List MemPlace}
    (hv : Value.okWide Try.prog W r base 41 v) (h : DataW.Trod enc Try.prog W 0 (fun _ => true) true 41 v d p) :
    ∃ A n c K M, v = .slice A n c ∧ c ≤ maxLen ∧ n ≤ c ∧ Asks W A n K M := by
  obtain ⟨a0, len0, cap0, rfl⟩ := okWide_slice Try.underlying41 hv
  obtain ⟨fuel, hf⟩ := h
  rcases open_slice_fields Try.underlying41 Try.underlying45 (by kernel_rfl) (by kernel_rfl) hf with ⟨hcs, _⟩ | ⟨a, len, cap, m, D, Pl, hcs, _, hl, hm, hmm, _, hi⟩
  · simp [Value.cells] at hcs
    obtain ⟨rfl, rfl, rfl⟩ := hcs
    exact ⟨none, 0, 0, fun _ => 0, fun _ => 0, rfl, by simp, Nat.le_refl _, fun i hi => absurd hi (by omega)⟩
  · simp [Value.cells] at hcs
    obtain ⟨rfl, rfl, rfl⟩ := hcs
    have key : ∀ i, ∃ k m : Int, i < len0 → W.cell? (a.add (i * 2)) = some (.int .i64 k) ∧ W.cell? ⟨(a.add (i * 2)).block, (a.add (i * 2)).off + 1, none⟩ = some (.int .i64 m) := by
      intro i
      by_cases hlt : i < len0
      · obtain ⟨ys, n', _, _, _, hf⟩ := hi i (by rw [hmm]; split <;> omega)
        obtain ⟨v0, y0, c0, _, t0⟩ := hf 0 _ rfl
        obtain ⟨v1, y1, c1, _, t1⟩ := hf 1 _ rfl
        obtain ⟨k, e0, _, _⟩ := DataW.trod_int Try.underlying3 t0
        obtain ⟨m, e1, _, _⟩ := DataW.trod_int Try.underlying3 t1
        simp at e0 e1
        subst e0 e1
        refine ⟨k, m, fun _ => ⟨c0, ?_⟩⟩
        rw [← add_of_add] at c1
        exact c1
      · exact ⟨0, 0, fun h => absurd h hlt⟩
    exact ⟨some a, len0, cap0, fun i => (key i).choose, fun i => (key i).choose_spec.choose, rfl, hm, hl, fun i hlt => ⟨a, rfl, (key i).choose_spec.choose_spec hlt⟩⟩

/-- the reader's error behind the document's number -/
def errOf (e : Int) : Int := if e = 0 then 0 else if e = 1 then 2 else 7
/-- the document's number behind it -/
def refErr (len : Nat) (e n : Int) : Int := if e = 0 then (if n < 0 then 1 else if (len : Int) < n then 2 else 0) else e
theorem errOf_ref (len : Nat) (e n : Int) (he : e = 0 ∨ e = 1 ∨ e = 2) : errOf (refErr len e n) = whyN len (errOf e) n ∧ (refErr len e n = 0 ∨ refErr len e n = 1 ∨ refErr len e n = 2) := by
  unfold errOf refErr whyN
  rcases he with rfl | rfl | rfl
  · simp only [if_true]
    by_cases h1 : n < 0
    · simp [h1]
    · by_cases h2 : (len : Int) < n <;> simp [h1, h2]
  · simp
  · simp
theorem took_ref (len : Nat) (e n : Int) (he : e = 0 ∨ e = 1 ∨ e = 2) : ((tookN len (errOf e) n : Nat) : Int) = if e = 0 ∧ 0 ≤ n ∧ n ≤ len then n else 0 := by
  unfold tookN errOf
  rcases he with rfl | rfl | rfl
  · simp only [if_true]
    split <;> omega
  · simp
  · simp

theorem off_ref (w : World) (len : Nat) (e n : Int) (he : e = 0 ∨ e = 1 ∨ e = 2) :
    Calls Try.prog 24 #[.int .i64 len, .int .i64 e, .int .i64 n] w fun r w' => r = .returned (.tuple #[.int .i64 (tookN len (errOf e) n : Nat), .int .i64 (refErr len e n)]) ∧ w = w' := by
  have ht := took_ref len e n he
  generalize ((tookN len (errOf e) n : Nat) : Int) = T at ht ⊢
  generalize hE : refErr len e n = E
  unfold refErr at hE
  by_cases h0 : e = 0
  · subst h0
    by_cases h1 : n < 0
    · obtain rfl : T = 0 := by rw [ht, if_neg (by omega)]
      obtain rfl : E = 1 := by rw [← hE]; simp [h1]
      clear ht hE he
      go_enter Try.func24, Try.ntmps24
      go_wp2
      go_ret2
      exact ⟨rfl, rfl⟩
    · by_cases h2 : (len : Int) < n
      · obtain rfl : T = 0 := by rw [ht, if_neg (by omega)]
        obtain rfl : E = 2 := by rw [← hE]; simp [h1, h2]
        clear ht hE he
        go_enter Try.func24, Try.ntmps24
        go_wp2
        go_ret2
        exact ⟨rfl, rfl⟩
      · obtain rfl : T = n := by rw [ht, if_pos (by omega)]
        obtain rfl : E = 0 := by rw [← hE]; simp [h1, h2]
        clear ht hE he
        go_enter Try.func24, Try.ntmps24
        go_wp2
        go_ret2
        exact ⟨rfl, rfl⟩
  · have hne : (e != 0) = true := by simpa using h0
    obtain rfl : T = 0 := by rw [ht, if_neg (by omega)]
    obtain rfl : e = E := by rw [← hE]; simp [h0]
    clear ht hE he
    go_enter Try.func24, Try.ntmps24
    go_wp2
    go_ret2
    exact ⟨rfl, rfl⟩
end Go.Proofs.Ythekhgpodopalaa
