/- The calculus: slices worked on within their room: copies, appends in place and appends that grow, clear; a slice of one's own seen as its block. The calculus: more readers. The calculus: several operations that may come up. The calculus: calls by contracts, where the values handed over are compared apart (a contract that does not fit is told at once). The calculus: maps whose keys are texts. No program is named. The calculus: ranges over functions; rounds, yields, marks. No program is named. -/
import Derived.Test.YtdbehejbeioboaaDoorRk9
import Derived.Lib.Overlaps
import Derived.Lib.AppendZerosOnto
import Derived.Lib.SliceRun
import Derived.MapKept
import Derived.RangeFuncLeaves
import Derived.RangeFuncRecord
import Derived.RangeFuncSeq
namespace Go.Proofs.YtdbehejbeioboaaDoor
open Go.RowKit
open Asn (pt row rb)
set_option linter.unusedVariables false
set_option linter.unusedSimpArgs false
section
variable {P : Program} {ro : Option Nat} {ds : List Deferred} {B : Bk ro ds} {n : Nat} {w0 : World} {M : Nat → Prop} {k : List It} {T : Slots} {H Hr : List Asn} {dd : Option Tmp} {tt : TypeId} {pos : String} {af : Array Edge} {g : Option (Nat × Bool)} {x y z : Operand} {ts : Array TypeId}
theorem Srd.cutP {size m c q : Nat} {A : Option Addr} {xs : List Value} (h : Srd w0 M H size A m xs) (hq : q ≤ m) (hc : m ≤ c) : Srd w0 M H size (cutP A c q size) (m - q) (xs.drop (q * size)) := ⟨fun w hS => (h.rd w hS).cut hq hc⟩
theorem Srd.head {size m q : Nat} {A : Option Addr} {xs : List Value} (h : Srd w0 M H size A m xs) (hq : q ≤ m) : Srd w0 M H size A q (xs.take (q * size)) := ⟨fun w hS => (h.rd w hS).head hq⟩
theorem Srd.none {size c : Nat} : Srd w0 M H size none 0 [] := ⟨fun w hS => Rd.none_⟩
/-- where a block is known; what else there is -/
class HPt (H : List Asn) (gb : Nat) (e : outParam TypeId) (cs : outParam (List Value)) (H' : outParam (List Asn)) : Prop where
  perm : H.Perm (pt gb e cs :: H')
instance (priority := high) HPt.here {gb : Nat} {e : TypeId} {cs : List Value} {H : List Asn} : HPt (pt gb e cs :: H) gb e cs H := ⟨List.Perm.refl _⟩
instance HPt.there {gb : Nat} {e : TypeId} {cs : List Value} {B : Asn} {H H' : List Asn} [h : HPt H gb e cs H'] : HPt (B :: H) gb e cs (B :: H') := ⟨(List.Perm.cons _ h.perm).trans (List.Perm.swap _ _ _)⟩
theorem T_slN [HasTab P] {sz : Nat} {s e : TypeId} {A : Option Addr} {m c q : Nat} {z : Int} {kk : IntKind} {i ei : Ti} (hx : oget T x = some (.slice A m c)) (hy : oget T y = some (.int kk z)) [hz : NatOf z q] (hs : ty P s = some i) (hi : i.desc = .slice e) (he : ty P e = some ei) (hsz : ei.size = sz) (hq : q ≤ m) (hc : m ≤ c) :
    Tk P n w0 M T H ⟨dd, .slice s x (some y) none none, tt, pos, af, g⟩ (.slice (cutP A c q sz) (m - q) (c - q)) := by
  subst hsz
  rw [hz.is] at hy
  exact T_sll hx hy hs hi he hq hc
theorem T_slhN [HasTab P] {s e : TypeId} {A : Option Addr} {m c q : Nat} {z : Int} {kk : IntKind} {i ei : Ti} (hx : oget T x = some (.slice A m c)) (hy : oget T y = some (.int kk z)) [hz : NatOf z q] (hs : ty P s = some i) (hi : i.desc = .slice e) (he : ty P e = some ei) (hq : q ≤ c) :
    Tk P n w0 M T H ⟨dd, .slice s x none (some y) none, tt, pos, af, g⟩ (.slice A q c) := by
  rw [hz.is] at hy
  exact T_slh hx hy hs hi he hq
/-- append onto a literal without elements -/
theorem E_apple [HasTab P] {s e : TypeId} {sz gb : Nat} {A2 : Option Addr} {m2 c2 : Nat} {news : List Value} {i ei : Ti} (hx : oget T x = some (.slice (some ⟨gb, 0, none⟩) 0 0)) (hy : oget T y = some (.slice A2 m2 c2)) (hs : ty P s = some i) (hi : i.desc = .slice e) (he : ty P e = some ei) (hsz : ei.size = sz) (hz : ei.zero.cells.size = sz) (hz0 : 0 < sz)
    (hr : Rem H (pt gb e []) Hr) (hsrc : Srd w0 M H sz A2 m2 news) (h1 : ∀ u ∈ news, u.oneCell' = true) (hb : m2 * ei.bytes ≤ 140737488355328) (hm : m2 ≤ maxLen) :
    Ef P n w0 M T H ⟨dd, .call ⟨.builtin .append, #[x, y], #[s, s]⟩, tt, pos, af, g⟩ (fun v H' => ∃ A' c', v = .slice A' m2 c' ∧ H' = row e sz A' m2 c' news :: Hr) := by
  subst hsz
  exact E_appl hx hy hs hi he hz hz0 hr hsrc h1 hb hm
/-- calls by contracts: nothing made; a part made; parts turned into one -/
theorem E_gv0 {f : FuncId} {xs : Array Operand} {vs : List Value} {X : Type} {V : X → Value} {I : X → Prop} {A : X → List Asn} (hf : Fn_ P f) (hx : ogets T xs.toList = some vs) (hc : ∀ w, St w0 M H w → Gives P f vs [] w V I A) (hA : ∀ x, A x = []) :
    Ef P n w0 M T H ⟨dd, .call ⟨.value (.func f), xs, ts⟩, tt, pos, af, g⟩ (fun u H' => ∃ x, u = V x ∧ I x ∧ H' = H) := by
  refine (E_gv hf hx hc).mono ?_
  rintro v H' ⟨x, rfl, hI, rfl⟩ w hS
  rw [hA, List.nil_append] at hS
  exact ⟨_, _, rfl, ⟨x, rfl, hI, rfl⟩, hS⟩
theorem E_gv1 {f : FuncId} {xs : Array Operand} {vs : List Value} {X : Type} {V : X → Value} {I : X → Prop} {A : X → List Asn} {B : X → Asn} (hf : Fn_ P f) (hx : ogets T xs.toList = some vs) (hc : ∀ w, St w0 M H w → Gives P f vs [] w V I A) (hA : ∀ x, A x = [B x]) :
    Ef P n w0 M T H ⟨dd, .call ⟨.value (.func f), xs, ts⟩, tt, pos, af, g⟩ (fun u H' => ∃ x, u = V x ∧ I x ∧ H' = B x :: H) := by
  refine (E_gv hf hx hc).mono ?_
  rintro v H' ⟨x, rfl, hI, rfl⟩ w hS
  rw [hA] at hS
  exact ⟨_, _, rfl, ⟨x, rfl, hI, rfl⟩, hS⟩
theorem E_gt1 {f : FuncId} {xs : Array Operand} {vs : List Value} {X : Type} {V : X → Value} {I : X → Prop} {A : X → List Asn} {A1 : Asn} {B : X → Asn} [h1 : RemC H A1 Hr] (hf : Fn_ P f) (hx : ogets T xs.toList = some vs) (hc : ∀ w, St w0 M (A1 :: Hr) w → St w (owns [A1]) [A1] w → Gives P f vs [A1] w V I A) (hA : ∀ x, A x = [B x]) :
    Ef P n w0 M T H ⟨dd, .call ⟨.value (.func f), xs, ts⟩, tt, pos, af, g⟩ (fun u H' => ∃ x, u = V x ∧ I x ∧ H' = B x :: Hr) := by
  refine (E_call [A1] Hr V I A hx hf (fun w hS => hS.perm h1.perm) fun w hS => hc w hS (St.again (As := [A1]) hS)).mono ?_
  rintro v H' ⟨x, hI, rfl, rfl⟩ w hS
  rw [hA] at hS
  exact ⟨_, _, rfl, ⟨x, rfl, hI, rfl⟩, hS⟩
end
/-- a closure that holds its last arguments is called -/
theorem E_cloA {P : Program} {n : Nat} {w0 : World} {M : Nat → Prop} {T : Slots} {H : List Asn} {dd : Option Tmp} {tt : TypeId} {pos : String} {af : Array Edge} {g : Option (Nat × Bool)} {x : Operand} {f : FuncId} {cap : List Value} {xs : Array Operand} {E : Value → List Asn → Prop} {ts : Array TypeId} (hx : oget T x = some (.func (.func f) #[] cap.toArray)) (h : Ef P n w0 M T H ⟨dd, .call ⟨.value (.func f), xs ++ (cap.map Operand.const).toArray, ts⟩, tt, pos, af, g⟩ E) :
    Ef P n w0 M T H ⟨dd, .call ⟨.value x, xs, ts⟩, tt, pos, af, g⟩ E := h.same fun a w ha => by
  have e2 : ((xs ++ (cap.map Operand.const).toArray).map a.eval) = xs.map a.eval ++ cap.toArray := by
    have e3 : (cap.map Operand.const).map a.eval = cap := by
      rw [List.map_map]
      conv => rhs; rw [← List.map_id cap]
      rfl
    have e4 : (cap.map Operand.const).toArray.map a.eval = cap.toArray := by rw [List.map_toArray, e3]
    rw [Array.map_append, e4]
  have e1 : (a.eval (.func f)) = .func (.func f) #[] #[] := rfl
  simp [execOp, resolve, Deferred.ofValue, invoke, ha.eval hx, e2, e1]
end Go.Proofs.YtdbehejbeioboaaDoor

namespace Go.Proofs.YtdbehejbeioboaaDoor
open Go.RowKit
open Asn (pt row rb)
set_option linter.unusedVariables false
set_option linter.unusedSimpArgs false
section
variable {P : Program} {ro : Option Nat} {ds : List Deferred} {B : Bk ro ds} {n : Nat} {w0 : World} {M : Nat → Prop} {k : List It} {T : Slots} {H Hr : List Asn} {dd : Option Tmp} {tt : TypeId} {pos : String} {af : Array Edge} {g : Option (Nat × Bool)} {x y z : Operand} {ts : Array TypeId}
/-- a value of parts is put together -/
theorem T_build1 {s : TypeId} {j : Nat} {v : Value} {cs : List Value} (hx : oget T x = some v) (hb : P.built s [(j, v)] = some cs.toArray) :
    Tk P n w0 M T H ⟨dd, .build s #[(j, x)], tt, pos, af, g⟩ (.agg cs.toArray) := .mk fun a w ha hS => by
  have hr := run_build (P := P) w s #[(j, v)] cs.toArray (by simpa using hb)
  simp only [execOp, List.map_toArray, List.map_cons, List.map_nil, ha.eval hx, Sem.run_bind, hr, Result.andThen_ok, Sem.run_pure]
end
end Go.Proofs.YtdbehejbeioboaaDoor

namespace Go.Proofs.YtdbehejbeioboaaDoor
open Go.RowKit
open Asn (pt row rb)
set_option linter.unusedVariables false
set_option linter.unusedSimpArgs false
section
variable {P : Program} {ro : Option Nat} {ds : List Deferred} {B : Bk ro ds} {n : Nat} {w0 : World} {M : Nat → Prop} {k : List It} {T : Slots} {H Hr : List Asn} {dd : Option Tmp} {tt : TypeId} {pos : String} {af : Array Edge} {g : Option (Nat × Bool)} {x y z : Operand} {ts : Array TypeId}
end
end Go.Proofs.YtdbehejbeioboaaDoor

namespace Go.Proofs.YtdbehejbeioboaaDoor
open Go.RowKit
open Asn (pt row rb)
set_option linter.unusedVariables false
set_option linter.unusedSimpArgs false
section
variable {P : Program} {ro : Option Nat} {ds : List Deferred} {B : Bk ro ds} {n : Nat} {w0 : World} {M : Nat → Prop} {k : List It} {T : Slots} {H Hr : List Asn} {dd : Option Tmp} {tt : TypeId} {pos : String} {af : Array Edge} {g : Option (Nat × Bool)} {x y z : Operand} {ts : Array TypeId}
theorem E_hv0 {f : FuncId} {xs : Array Operand} {vs vs' : List Value} {X : Type} {V : X → Value} {I : X → Prop} {A : X → List Asn} (hf : Fn_ P f) (hc : ∀ w, St w0 M H w → Gives P f vs' [] w V I A) (hx : ogets T xs.toList = some vs) (hv : vs = vs') (hA : ∀ x, A x = []) :
    Ef P n w0 M T H ⟨dd, .call ⟨.value (.func f), xs, ts⟩, tt, pos, af, g⟩ (fun u H' => ∃ x, u = V x ∧ I x ∧ H' = H) := by
  subst hv
  exact E_gv0 hf hx hc hA
theorem E_hv1 {f : FuncId} {xs : Array Operand} {vs vs' : List Value} {X : Type} {V : X → Value} {I : X → Prop} {A : X → List Asn} {B : X → Asn} (hf : Fn_ P f) (hc : ∀ w, St w0 M H w → Gives P f vs' [] w V I A) (hx : ogets T xs.toList = some vs) (hv : vs = vs') (hA : ∀ x, A x = [B x]) :
    Ef P n w0 M T H ⟨dd, .call ⟨.value (.func f), xs, ts⟩, tt, pos, af, g⟩ (fun u H' => ∃ x, u = V x ∧ I x ∧ H' = B x :: H) := by
  subst hv
  exact E_gv1 hf hx hc hA
theorem E_ht1 {f : FuncId} {xs : Array Operand} {vs vs' : List Value} {X : Type} {V : X → Value} {I : X → Prop} {A : X → List Asn} {A1 : Asn} {B : X → Asn} [h1 : RemC H A1 Hr] (hf : Fn_ P f) (hc : ∀ w, St w0 M (A1 :: Hr) w → St w (owns [A1]) [A1] w → Gives P f vs' [A1] w V I A) (hx : ogets T xs.toList = some vs) (hv : vs = vs') (hA : ∀ x, A x = [B x]) :
    Ef P n w0 M T H ⟨dd, .call ⟨.value (.func f), xs, ts⟩, tt, pos, af, g⟩ (fun u H' => ∃ x, u = V x ∧ I x ∧ H' = B x :: Hr) := by
  subst hv
  exact E_gt1 hf hx hc hA
/-- a part of a block, told by its place -/
theorem T_loads [HasTab P] {s : TypeId} {gb off e : Nat} {cs ds : List Value} {i : Ti} (hx : oget T x = some (.pointer (some ⟨gb, off, none⟩))) (hs : ty P s = some i) (hi : aggB i.desc = true) [hm : Hat H gb e cs] (hl : ds.length = i.size) (hd : (cs.drop off).take i.size = ds) :
    Tk P n w0 M T H ⟨dd, .load s x, tt, pos, af, g⟩ (.agg ds.toArray) :=
  T_loada (cs := cs) (t := e) (ds := ds) (off := off) hx hs hi hl (fun j v h => by
    rw [← hd, List.getElem?_take] at h
    split at h
    · rwa [List.getElem?_drop] at h
    · cases h)
end
end Go.Proofs.YtdbehejbeioboaaDoor

namespace Go.Proofs.YtdbehejbeioboaaDoor
open Go.RowKit
open Asn (pt row rb)
set_option linter.unusedVariables false
set_option linter.unusedSimpArgs false
section
variable {P : Program} {ro : Option Nat} {ds : List Deferred} {B : Bk ro ds} {n : Nat} {w0 : World} {M : Nat → Prop} {k : List It} {T : Slots} {H Hr : List Asn} {dd : Option Tmp} {tt : TypeId} {pos : String} {af : Array Edge} {g : Option (Nat × Bool)} {x y z : Operand} {ts : Array TypeId}
end
end Go.Proofs.YtdbehejbeioboaaDoor

namespace Go.Proofs.YtdbehejbeioboaaDoor
open Go.RowKit
open Asn (pt row rb)
set_option linter.unusedVariables false
set_option linter.unusedSimpArgs false
/-- parts taken as one -/
def bun (L : List Asn) : Asn := .any (fun k => owns L k) (fun w => (∀ A ∈ L, A.holds w) ∧ L.Pairwise Apart) (fun w w' hk h => ⟨fun A hA => A.stable w w' (hk.mono fun k hk' _ => ⟨A, hA, hk'⟩) (h.1 A hA), h.2⟩)
theorem bun_in {w0 w : World} {M : Nat → Prop} {L H : List Asn} (h : St w0 M (L ++ H) w) : St w0 M (bun L :: H) w := by
  have hap := List.pairwise_append.1 h.apart
  refine ⟨h.kp, fun B hB => ?_, List.pairwise_cons.2 ⟨fun B hB k ⟨A, hA, hk⟩ hb => hap.2.2 A hA B hB k hk hb, hap.2.1⟩⟩
  rcases List.mem_cons.1 hB with rfl | hB
  · exact ⟨⟨fun A hA => (h.all A (by simp [hA])).1, hap.1⟩, fun k ⟨A, hA, hk⟩ => (h.all A (by simp [hA])).2 k hk⟩
  · exact h.all B (by simp [hB])
theorem bun_out {w0 w : World} {M : Nat → Prop} {L H : List Asn} (h : St w0 M (bun L :: H) w) : St w0 M (L ++ H) w := by
  have hb := h.all (bun L) (by simp)
  have hap := List.pairwise_cons.1 h.apart
  refine ⟨h.kp, fun B hB => ?_, List.pairwise_append.2 ⟨hb.1.2, hap.2, fun A hA B hB k ha hb => hap.1 B hB k ⟨A, hA, ha⟩ hb⟩⟩
  rcases List.mem_append.1 hB with hB | hB
  · exact ⟨hb.1.1 B hB, fun k hk => hb.2 k ⟨B, hB, hk⟩⟩
  · exact h.all B (by simp [hB])
theorem St.own {w0 w : World} {M M' : Nat → Prop} {H : List Asn} (h : St w0 M H w) (hM : ∀ k, M k ↔ M' k) : St w0 M' H w := by
  have : M = M' := funext fun k => propext (hM k)
  exact this ▸ h
section
variable {P : Program} {n : Nat} {w0 : World} {M : Nat → Prop} {T : Slots} {H Hr : List Asn} {dd : Option Tmp} {tt : TypeId} {pos : String} {af : Array Edge} {g : Option (Nat × Bool)}
end
def Bk.cast {ro : Option Nat} {ds : List Deferred} (B : Bk ro ds) (ds' : List Deferred) : Bk ro ds' := B
section
variable {P : Program} {B : Bk none []} {n : Nat} {w0 : World} {M : Nat → Prop} {k : List It} {T : Slots} {H : List Asn} {c : Code}
end
end Go.Proofs.YtdbehejbeioboaaDoor
