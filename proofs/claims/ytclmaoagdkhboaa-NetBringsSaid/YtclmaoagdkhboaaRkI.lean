/- The calculus: operations that may come up in many orders, walked once for each set of those that have come up. -/
import Derived.Test.YtclmaoagdkhboaaRkH
namespace Go.Proofs.Ytclmaoagdkhboaa
open Go.RowKit
open Asn (pt row rb)
set_option linter.unusedVariables false
set_option linter.unusedSimpArgs false
section
variable {P : Program} {ro : Option Nat} {ds : List Deferred} {B : Bk ro ds} {n : Nat} {w0 : World} {M : Nat → Prop} {k : List It} {l : List Oper}
theorem Tk.sub {T' T : Slots} {H : List Asn} {o : Oper} {v : Value} (hs : Sub T' T) (h : Tk P n w0 M T' H o v) : Tk P n w0 M T H o v := ⟨fun a w ha hw => h.run a w (ha.sub hs) hw⟩
theorem Ef.sub {T' T : Slots} {H' H : List Asn} {o : Oper} {E : Value → List Asn → Prop} (hs : Sub T' T) (hh : ∀ w, St w0 M H w → St w0 M H' w) (h : Ef P n w0 M T' H' o E) : Ef P n w0 M T H o E := .mkIn fun a w ha hw => h.run a w (ha.sub hs) (hh w hw)
theorem RD_sub {L : Array Bool} {C : List Asn} {T' : Slots} {H' : List Asn} (h : RD P B n w0 M l k L C T' H') : ∀ {T : Slots} {H : List Asn}, Sub T' T → (∀ w, St w0 M H w → St w0 M H' w) → RD P B n w0 M l k L C T H := by
  induction h with
  | done hr h => intro T H hs hh; exact .done hr (RS_mem hh (RS_sub hs h))
  | take i ho hw hd hf hr ht _ ih => intro T H hs hh; exact .take i ho (wants_sub hs hw) hd hf hr (ht.sub hs) (ih (hs.put _ _) hh)
  | skip i ho hw hd hf hr _ ih => intro T H hs hh; exact .skip i ho (wants_sub hs hw) hd hf hr (ih (hs.put _ _) hh)
  | all rs hr hne E C' he hc _ ih =>
    intro T H hs hh
    refine .all rs hr hne E C' (fun i hi => ?_) hc fun i hi o ho v H2 hE => ih i hi o ho v H2 hE (hs.put _ _) fun _ h => h
    obtain ⟨o, h1, h2, h3, h4⟩ := he i hi
    exact ⟨o, h1, wants_sub hs h2, h3, h4.sub hs hh⟩
/-- on to a state that was walked already -/
theorem D_at {L L' : Array Bool} {C : List Asn} {T' T : Slots} {H' H : List Asn} (h : RD P B n w0 M l k L' C T' H') (hs : Sub T' T) (hh : ∀ w, St w0 M H w → St w0 M H' w) (hL : L = L') : RD P B n w0 M l k L C T H := by
  subst hL
  exact RD_sub h hs hh
/-- a state that many ways come to: walked once -/
theorem D_node {L : Array Bool} {C : List Asn} {T : Slots} {H : List Asn} {X : Type} (L' : Array Bool) (T' : X → Slots) (H' : X → List Asn) (h1 : (∀ x, RD P B n w0 M l k L' C (T' x) (H' x)) → RD P B n w0 M l k L C T H) (h2 : ∀ x, RD P B n w0 M l k L' C (T' x) (H' x)) : RD P B n w0 M l k L C T H := h1 h2
/-- the same, told the other way round -/
theorem D_nodeR {L : Array Bool} {C : List Asn} {T : Slots} {H : List Asn} {X : Type} (L' : Array Bool) (T' : X → Slots) (H' : X → List Asn) (h2 : ∀ x, RD P B n w0 M l k L' C (T' x) (H' x)) (h1 : (∀ x, RD P B n w0 M l k L' C (T' x) (H' x)) → RD P B n w0 M l k L C T H) : RD P B n w0 M l k L C T H := h1 h2
theorem D_four {T : Slots} {H : List Asn} {L : Array Bool} {C : List Asn} (i j m q : Nat) {oi oj om oq : Oper} {Ei Ej Em Eq' : Value → List Asn → Prop} (hi : l[i]? = some oi) (hj : l[j]? = some oj) (hm : l[m]? = some om) (hq : l[q]? = some oq) (ei : Ef P n w0 M T H oi Ei) (ej : Ef P n w0 M T H oj Ej) (em : Ef P n w0 M T H om Em) (eq' : Ef P n w0 M T H oq Eq')
    (h1 : ∀ v H', Ei v H' → Nx P B n w0 M l k L C i (tput oi.dst v T) H') (h2 : ∀ v H', Ej v H' → Nx P B n w0 M l k L C j (tput oj.dst v T) H') (h3 : ∀ v H', Em v H' → Nx P B n w0 M l k L C m (tput om.dst v T) H') (h4 : ∀ v H', Eq' v H' → Nx P B n w0 M l k L C q (tput oq.dst v T) H')
    (hwi : wants l T oi.guard = some true) (hwj : wants l T oj.guard = some true) (hwm : wants l T om.guard = some true) (hwq : wants l T oq.guard = some true) (hdi : dok n oi.dst = true) (hdj : dok n oj.dst = true) (hdm : dok n om.dst = true) (hdq : dok n oq.dst = true) (hr : Region.ready .any l.toArray L = [i, j, m, q]) : RD P B n w0 M l k L C T H := by
  refine D_fin hr (by simp) fun r hr => ?_
  rcases List.mem_cons.1 hr with rfl | hr
  · exact ⟨oi, Ei, hi, hwi, hdi, ei, h1⟩
  rcases List.mem_cons.1 hr with rfl | hr
  · exact ⟨oj, Ej, hj, hwj, hdj, ej, h2⟩
  rcases List.mem_cons.1 hr with rfl | hr
  · exact ⟨om, Em, hm, hwm, hdm, em, h3⟩
  obtain rfl : r = q := by simpa using hr
  exact ⟨oq, Eq', hq, hwq, hdq, eq', h4⟩
end
end Go.Proofs.Ytclmaoagdkhboaa
