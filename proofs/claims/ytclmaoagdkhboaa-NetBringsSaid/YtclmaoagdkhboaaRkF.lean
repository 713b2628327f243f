/- The calculus: calls by contracts, where the values handed over are compared apart (a contract that does not fit is told at once). -/
import Derived.Test.YtclmaoagdkhboaaRkC
namespace Go.Proofs.Ytclmaoagdkhboaa
open Go.RowKit
open Asn (pt row rb)
set_option linter.unusedVariables false
set_option linter.unusedSimpArgs false
section
variable {P : Program} {ro : Option Nat} {ds : List Deferred} {B : Bk ro ds} {n : Nat} {w0 : World} {M : Nat → Prop} {k : List It} {T : Slots} {H Hr : List Asn} {dd : Option Tmp} {tt : TypeId} {pos : String} {af : Array Edge} {g : Option (Nat × Bool)} {x y z : Operand} {ts : Array TypeId}
theorem E_hv0 {f : FuncId} {xs : Array Operand} {vs vs' : List Value} {X : Type} {V : X → Value} {I : X → Prop} {A : X → List Asn} (hf : Fn_ P f) (hc : ∀ w, St w0 M H w → Gives P f vs' [] w V I A) (hx : ogets T xs.toList = some vs) (hv : vs = vs') (hA : ∀ x, A x = []) :
    Ef P n w0 M T H ⟨dd, .call ⟨.value (.func f), xs, ts⟩, tt, pos, af, g⟩ (fun u H' => ∃ x, u = V x ∧ I x ∧ H' = H) := by
  subst hv
  exact E_gv0 hf hx hc hA
theorem E_hv1 {f : FuncId} {xs : Array Operand} {vs vs' : List Value} {X : Type} {V : X → Value} {I : X → Prop} {A : X → List Asn} {B : X → Asn} (hf : Fn_ P f) (hc : ∀ w, St w0 M H w → Gives P f vs' [] w V I A) (hx : ogets T xs.toList = some vs) (hv : vs = vs') (hA : ∀ x, A x = [B x]) :
    Ef P n w0 M T H ⟨dd, .call ⟨.value (.func f), xs, ts⟩, tt, pos, af, g⟩ (fun u H' => ∃ x, u = V x ∧ I x ∧ H' = B x :: H) := by
  subst hv
  exact E_gv1 hf hx hc hA
theorem E_ht1 {f : FuncId} {xs : Array Operand} {vs vs' : List Value} {X : Type} {V : X → Value} {I : X → Prop} {A : X → List Asn} {A1 : Asn} {B : X → Asn} [h1 : RemC H A1 Hr] (hf : Fn_ P f) (hc : ∀ w, St w0 M (A1 :: Hr) w → St w (owns [A1]) [A1] w → Gives P f vs' [A1] w V I A) (hx : ogets T xs.toList = some vs) (hv : vs = vs') (hA : ∀ x, A x = [B x]) :
    Ef P n w0 M T H ⟨dd, .call ⟨.value (.func f), xs, ts⟩, tt, pos, af, g⟩ (fun u H' => ∃ x, u = V x ∧ I x ∧ H' = B x :: Hr) := by
  subst hv
  exact E_gt1 hf hx hc hA
theorem E_ht2 {f : FuncId} {xs : Array Operand} {vs vs' : List Value} {X : Type} {V : X → Value} {I : X → Prop} {A : X → List Asn} {A1 A2 : Asn} {H1 : List Asn} {B : X → Asn} [h1 : RemC H A1 H1] [h2 : RemC H1 A2 Hr] (hf : Fn_ P f) (hc : ∀ w, St w0 M (A1 :: A2 :: Hr) w → St w (owns [A1, A2]) [A1, A2] w → Gives P f vs' [A1, A2] w V I A) (hx : ogets T xs.toList = some vs) (hv : vs = vs') (hA : ∀ x, A x = [B x]) :
    Ef P n w0 M T H ⟨dd, .call ⟨.value (.func f), xs, ts⟩, tt, pos, af, g⟩ (fun u H' => ∃ x, u = V x ∧ I x ∧ H' = B x :: Hr) := by
  subst hv
  exact E_gt2 hf hx hc hA
/-- a part of a block, told by its place -/
theorem T_loads [HasTab P] {s : TypeId} {gb off e : Nat} {cs ds : List Value} {i : Ti} (hx : oget T x = some (.pointer (some ⟨gb, off, none⟩))) (hs : ty P s = some i) (hi : aggB i.desc = true) [hm : Hat H gb e cs] (hl : ds.length = i.size) (hd : (cs.drop off).take i.size = ds) :
    Tk P n w0 M T H ⟨dd, .load s x, tt, pos, af, g⟩ (.agg ds.toArray) :=
  T_loada (cs := cs) (t := e) (ds := ds) (off := off) hx hs hi hl (fun j v h => by
    rw [← hd, List.getElem?_take] at h
    split at h
    · rwa [List.getElem?_drop] at h
    · cases h)
theorem T_loadgs [HasTab P] {s : TypeId} {gb off m sz : Nat} {F : Nat → Prop} {xs ds : List Value} {i : Ti} (hx : oget T x = some (.pointer (some ⟨gb, off, none⟩))) (hs : ty P s = some i) (hi : aggB i.desc = true) (hr : Rd w0 F sz (some ⟨gb, 0, none⟩) m xs) (hF : ∀ k, F k → ¬ M k) (hl : ds.length = i.size) (h0 : 0 < m) (hd : (xs.drop off).take i.size = ds) :
    Tk P n w0 M T H ⟨dd, .load s x, tt, pos, af, g⟩ (.agg ds.toArray) :=
  T_loadga hx hs hi hr hF hl h0 (fun j v h => by
    rw [← hd, List.getElem?_take] at h
    split at h
    · rwa [List.getElem?_drop] at h
    · cases h)
end
end Go.Proofs.Ytclmaoagdkhboaa
