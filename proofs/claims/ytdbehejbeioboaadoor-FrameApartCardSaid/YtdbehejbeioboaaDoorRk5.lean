/- The calculus: calls by their contracts; whole values; values that are held against each other. -/
import Derived.Test.YtdbehejbeioboaaDoorRk4
import Derived.ChangeKeysEq
import Derived.Laws.Tables
namespace Go.Proofs.YtdbehejbeioboaaDoor
open Go.RowKit
open Asn (pt row rb)
set_option linter.unusedVariables false
set_option linter.unusedSimpArgs false

section
variable {P : Program} {n : Nat} {w0 : World} {M : Nat → Prop} {T : Slots} {H Hr : List Asn} {dd : Option Tmp} {tt : TypeId} {pos : String} {af : Array Edge} {g : Option (Nat × Bool)}
variable {f : FuncId} {xs : Array Operand} {ts : Array TypeId} {vs : List Value}
theorem call_run (hf : Fn_ P f) (hx : ogets T xs.toList = some vs) {a : Act} (ha : Tm n a T) (w : World) : (execOp a.eval ⟨dd, .call ⟨.value (.func f), xs, ts⟩, tt, pos, af, g⟩).run P w = .ok (.enter f vs.toArray) w := by
  have e1 : xs.map a.eval = vs.toArray := by rw [← ha.evals hx, ← Array.toList_map]
  simp [execOp, resolve, Deferred.ofValue, invoke, Act.eval, e1, callFunc_run hf]
/-- a callee that hands back v -/
theorem E_g0 {v : Value} (hf : Fn_ P f) (hx : ogets T xs.toList = some vs) (hc : ∀ w, St w0 M H w → Calls P f vs.toArray w fun e w' => e = .returned v ∧ Kp All w w') :
    Ef P n w0 M T H ⟨dd, .call ⟨.value (.func f), xs, ts⟩, tt, pos, af, g⟩ (fun u H' => u = v ∧ H' = H) := .mk fun a w ha hS => by
  unfold Oper.wp
  rw [call_run hf hx ha w]
  refine (hc w hS).mono fun e w' ⟨he, hk⟩ => ?_
  subst he
  exact ⟨_, _, ⟨rfl, rfl⟩, rfl, hS.step hk⟩
/-- a callee that hands back a slice of its own making -/
theorem E_g1 {e : TypeId} {sz m : Nat} {ys : List Value} (hf : Fn_ P f) (hx : ogets T xs.toList = some vs)
    (hc : ∀ w, St w0 M H w → Calls P f vs.toArray w fun en w' => ∃ A' c', en = .returned (.slice A' m c') ∧ w'.ownsRow w.heap.size e sz (.slice A' m c') m ys ∧ Kp All w w') :
    Ef P n w0 M T H ⟨dd, .call ⟨.value (.func f), xs, ts⟩, tt, pos, af, g⟩ (fun u H' => ∃ A' c', u = .slice A' m c' ∧ H' = row e sz A' m c' ys :: H) := .mk fun a w ha hS => by
  unfold Oper.wp
  rw [call_run hf hx ha w]
  refine (hc w hS).mono fun e w' ⟨A', c', he, ho, hk⟩ => ?_
  subst he
  exact ⟨_, _, ⟨A', c', rfl, rfl⟩, rfl, hS.add hk (own_base ho (Nat.zero_le _)) (own_block ho)⟩
/-- a callee, by what it gives -/
theorem E_gv {X : Type} {V : X → Value} {I : X → Prop} {A : X → List Asn} (hf : Fn_ P f) (hx : ogets T xs.toList = some vs) (hc : ∀ w, St w0 M H w → Gives P f vs [] w V I A) :
    Ef P n w0 M T H ⟨dd, .call ⟨.value (.func f), xs, ts⟩, tt, pos, af, g⟩ (fun u H' => ∃ x, u = V x ∧ I x ∧ H' = A x ++ H) := .mk fun a w ha hS => by
  unfold Oper.wp
  rw [call_run hf hx ha w]
  refine (hc w hS).mono fun e w' ⟨x, he, hI, hS'⟩ => ?_
  subst he
  exact ⟨_, _, ⟨x, rfl, hI, rfl⟩, rfl, St.call (As := []) hS hS'⟩
/-- a callee that turns one part of memory -/
theorem E_gm {v : Value} {A A' : Asn} {H' : List Asn} (hf : Fn_ P f) (hx : ogets T xs.toList = some vs) (hu : Upd H A A' H') (ho : ∀ k, A'.own k → A.own k)
    (hc : ∀ w, St w0 M H w → A.holds w → Calls P f vs.toArray w fun e w' => e = .returned v ∧ A'.holds w' ∧ Kp (fun k => ¬ A.own k) w w') :
    Ef P n w0 M T H ⟨dd, .call ⟨.value (.func f), xs, ts⟩, tt, pos, af, g⟩ (fun u H'' => u = v ∧ H'' = H') := .mk fun a w ha hS => by
  unfold Oper.wp
  rw [call_run hf hx ha w]
  refine (hc w hS (hS.at_ hu.mem)).mono fun e w' ⟨he, hA, hk⟩ => ?_
  subst he
  exact ⟨_, _, ⟨rfl, rfl⟩, rfl, hS.upd hu hk hA ho⟩
/-- the same, and makes a slice -/
theorem E_gm1 {e : TypeId} {sz m : Nat} {ys : List Value} {A A' : Asn} {H' : List Asn} (hf : Fn_ P f) (hx : ogets T xs.toList = some vs) (hu : Upd H A A' H') (ho : ∀ k, A'.own k → A.own k)
    (hc : ∀ w, St w0 M H w → A.holds w → Calls P f vs.toArray w fun en w' => ∃ B c', en = .returned (.slice B m c') ∧ w'.ownsRow w.heap.size e sz (.slice B m c') m ys ∧ A'.holds w' ∧ Kp (fun k => ¬ A.own k) w w') :
    Ef P n w0 M T H ⟨dd, .call ⟨.value (.func f), xs, ts⟩, tt, pos, af, g⟩ (fun u H'' => ∃ B c', u = .slice B m c' ∧ H'' = row e sz B m c' ys :: H') := .mk fun a w ha hS => by
  unfold Oper.wp
  rw [call_run hf hx ha w]
  refine (hc w hS (hS.at_ hu.mem)).mono fun e w' ⟨B, c', he, hown, hA, hk⟩ => ?_
  subst he
  refine ⟨_, _, ⟨B, c', rfl, rfl⟩, rfl, ?_⟩
  have h1 := hS.upd hu hk hA ho
  refine ⟨h1.kp, fun D hD => ?_, List.Pairwise.cons (fun D hD k a b => ?_) h1.apart⟩
  · rcases List.mem_cons.1 hD with rfl | hD
    · exact ⟨own_base hown (Nat.zero_le _), fun k hk' => ⟨.inr (Nat.le_trans hS.kp.size (own_block hown k hk').1), (own_block hown k hk').2⟩⟩
    · exact h1.all D hD
  · have hlt : k < w.heap.size := by
      rcases hu.ind D hD with rfl | ⟨hm, _⟩
      · exact ((hS.all A hu.mem).2 k (ho k b)).2
      · exact ((hS.all D hm).2 k b).2
    have := (own_block hown k a).1
    omega
theorem E_boxa {x : Operand} {s : TypeId} {cs : List Value} (hx : oget T x = some (.agg cs.toArray)) : Ef P n w0 M T H ⟨dd, .box s x, tt, pos, af, g⟩ (fun u' H' => ∃ b, u' = .pointer (some ⟨b, 0, none⟩) ∧ H' = pt b s cs :: H) :=
  E_box (P := P) (n := n) (w0 := w0) (M := M) (H := H) (dd := dd) (s := s) (tt := tt) (pos := pos) (af := af) (g := g) hx
theorem E_alloca [HasTab P] {s : TypeId} {i : Ti} {cs : List Value} (hs : ty P s = some i) (hz : i.zero = .agg cs.toArray) : Ef P n w0 M T H ⟨dd, .alloc s, tt, pos, af, g⟩ (fun u' H' => ∃ b, u' = .pointer (some ⟨b, 0, none⟩) ∧ H' = pt b s cs :: H) := by
  have h := E_alloc (P := P) (n := n) (w0 := w0) (M := M) (T := T) (H := H) (dd := dd) (tt := tt) (pos := pos) (af := af) (g := g) hs
  have hc : vcells i.zero = cs := by rw [hz]; rfl
  rwa [hc] at h
/-- the zero value of a struct or an array -/
theorem T_build0 {s : TypeId} {cs : List Value} (hb : P.built s [] = some cs.toArray) : Tk P n w0 M T H ⟨dd, .build s #[], tt, pos, af, g⟩ (.agg cs.toArray) := .mk fun a w ha hS => by
  have hr := run_build (P := P) w s #[] cs.toArray hb
  simp only [execOp, Array.map_empty, Sem.run_bind, hr, Result.andThen_ok, Sem.run_pure]
end

/-! structs and arrays, held against each other -/
section
variable {P : Program}
end
end Go.Proofs.YtdbehejbeioboaaDoor
