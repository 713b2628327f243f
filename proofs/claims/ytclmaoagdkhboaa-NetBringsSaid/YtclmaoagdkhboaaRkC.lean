/- The calculus: several operations that may come up. -/
import Derived.Test.YtclmaoagdkhboaaRkB
namespace Go.Proofs.Ytclmaoagdkhboaa
open Go.RowKit
open Asn (pt row rb)
set_option linter.unusedVariables false
set_option linter.unusedSimpArgs false
section
variable {P : Program} {ro : Option Nat} {ds : List Deferred} {B : Bk ro ds} {n : Nat} {w0 : World} {M : Nat → Prop} {k : List It} {T : Slots} {H Hr : List Asn} {dd : Option Tmp} {tt : TypeId} {pos : String} {af : Array Edge} {g : Option (Nat × Bool)} {x y z : Operand} {ts : Array TypeId}
/-- some operations may come up -/
theorem D_fin {l : List Oper} {L : Array Bool} {C : List Asn} {rs : List Nat} (hr : Region.ready .any l.toArray L = rs) (hne : rs ≠ []) (h : ∀ i ∈ rs, ∃ o E, l[i]? = some o ∧ wants l T o.guard = some true ∧ dok n o.dst = true ∧ Ef P n w0 M T H o E ∧ ∀ v H', E v H' → Nx P B n w0 M l k L C i (tput o.dst v T) H') : RD P B n w0 M l k L C T H := by
  classical
  have h' : ∀ i, ∃ E : Value → List Asn → Prop, i ∈ rs → ∃ o, l[i]? = some o ∧ wants l T o.guard = some true ∧ dok n o.dst = true ∧ Ef P n w0 M T H o E ∧ ∀ v H', E v H' → Nx P B n w0 M l k L C i (tput o.dst v T) H' := fun i => by
    by_cases hi : i ∈ rs
    · obtain ⟨o, E, h1⟩ := h i hi
      exact ⟨E, fun _ => ⟨o, h1⟩⟩
    · exact ⟨fun _ _ => False, fun h => absurd h hi⟩
  have hE := fun i => Classical.choose_spec (h' i)
  have h2 : ∀ i v H', ∃ C' : List Asn, i ∈ rs → Classical.choose (h' i) v H' → (∀ w, St w0 M H' w → St w0 M C' w) ∧ ((∀ w, St w0 M C' w → St w0 M C w) ∨ pivot l.toArray i = true) ∧ ∀ o, l[i]? = some o → RD P B n w0 M l k (L.setIfInBounds i true) C' (tput o.dst v T) H' := fun i v H' => by
    by_cases hi : i ∈ rs ∧ Classical.choose (h' i) v H'
    · obtain ⟨o, h1, _, _, _, h5⟩ := hE i hi.1
      obtain ⟨C', h6, h7, h8⟩ := (h5 v H' hi.2).is
      refine ⟨C', fun _ _ => ⟨h6, h7, fun o' ho' => ?_⟩⟩
      rw [h1] at ho'
      injection ho' with ho'
      subst ho'
      exact h8
    · exact ⟨[], fun a b => absurd ⟨a, b⟩ hi⟩
  have hC := fun i v H' => Classical.choose_spec (h2 i v H')
  exact .all rs hr hne (fun i => Classical.choose (h' i)) (fun i v H' => Classical.choose (h2 i v H')) (fun i hi => by
    obtain ⟨o, h1, h2, h3, h4, _⟩ := hE i hi
    exact ⟨o, h1, h2, h3, h4⟩) (fun i hi v H' he => ⟨(hC i v H' hi he).1, (hC i v H' hi he).2.1⟩) (fun i hi o ho v H' he => (hC i v H' hi he).2.2 o ho)
theorem D_three {l : List Oper} {L : Array Bool} {C : List Asn} (i j m : Nat) {oi oj om : Oper} {Ei Ej Em : Value → List Asn → Prop} (hi : l[i]? = some oi) (hj : l[j]? = some oj) (hm : l[m]? = some om) (ei : Ef P n w0 M T H oi Ei) (ej : Ef P n w0 M T H oj Ej) (em : Ef P n w0 M T H om Em)
    (h1 : ∀ v H', Ei v H' → Nx P B n w0 M l k L C i (tput oi.dst v T) H') (h2 : ∀ v H', Ej v H' → Nx P B n w0 M l k L C j (tput oj.dst v T) H') (h3 : ∀ v H', Em v H' → Nx P B n w0 M l k L C m (tput om.dst v T) H')
    (hwi : wants l T oi.guard = some true) (hwj : wants l T oj.guard = some true) (hwm : wants l T om.guard = some true) (hdi : dok n oi.dst = true) (hdj : dok n oj.dst = true) (hdm : dok n om.dst = true) (hr : Region.ready .any l.toArray L = [i, j, m]) : RD P B n w0 M l k L C T H := by
  refine D_fin hr (by simp) fun q hq => ?_
  rcases List.mem_cons.1 hq with rfl | hq
  · exact ⟨oi, Ei, hi, hwi, hdi, ei, h1⟩
  rcases List.mem_cons.1 hq with rfl | hq
  · exact ⟨oj, Ej, hj, hwj, hdj, ej, h2⟩
  obtain rfl : q = m := by simpa using hq
  exact ⟨om, Em, hm, hwm, hdm, em, h3⟩
end
end Go.Proofs.Ytclmaoagdkhboaa
