/- Members that came in, opened. -/
import Derived.Test.YtlihhjldkopfhaaCoE
import Derived.Test.YtlihhjldkopfhaaRkC
import Derived.Test.YtlihhjldkopfhaaOpR
namespace Go.Proofs.Ytlihhjldkopfhaa
open Go.RowKit Go.ChangeShapes Go.WideShapes Go.ChangeAt
open Asn (pt row rb)
set_option linter.unusedVariables false
set_option linter.unusedSimpArgs false
--@use N

/-- members that came in -/
structure Cf where
  A : Option Addr
  n : Nat
  c : Nat
  ms : List Int
def Cf.v (k : Cf) : Value := .slice k.A k.n k.c
def Cf.ok (k : Cf) (W : World) : Prop := Rd W All 1 k.A k.n (k.ms.map zv) ∧ k.n ≤ k.c ∧ k.c ≤ maxLen
theorem wide_rd {w0 : World} {M : Nat → Prop} {H : List Asn} {g t : Nat} {ms : List Int} [hm : Hat H g t (wide ms)] : Srd w0 M H 1 (some ⟨g, 0, none⟩) ms.length (ms.map zv) := Srd.pt (by simp) (wide_at ms)
theorem wide_rw {w0 : World} {M : Nat → Prop} {H : List Asn} {g t : Nat} {ms : List Int} [hm : Hat H g t (wide ms)] : Srd w0 M H 1 (some ⟨g, 0, none⟩) (ms.length + 2) (wide ms) := Srd.pt (by simp [wide]) (fun j v hj => by rw [Nat.zero_add]; exact hj)
theorem take9 (ms : List Int) : (ms.take 9).length ≤ 900 := by rw [List.length_take]; omega
theorem T_bnes {P : Program} {n : Nat} {w0 : World} {M : Nat → Prop} {T : Slots} {H : List Asn} {dd : Option Tmp} {tt : TypeId} {pos : String} {af : Array Edge} {g : Option (Nat × Bool)} [HasTab P] {x y : Operand} {t u : TypeId} {b : Bool} {i : Ti} (hx : oget T x = some (.bool b)) (hy : oget T y = some (.bool b)) (ht : ty P t = some i) (hi : i.desc = .bool) :
    Tk P n w0 M T H ⟨dd, .binOp .neq t x y u, tt, pos, af, g⟩ (.bool false) := by
  have h := T_bne (n := n) (w0 := w0) (M := M) (H := H) (dd := dd) (tt := tt) (pos := pos) (af := af) (g := g) (u := u) hx hy ht hi
  rwa [show (b != b) = false by cases b <;> rfl] at h
theorem open_conf {H : Type} {enc : TypeId × Value → H} {W : World} {cs : List Value} (h : Op_ enc Try.prog W 24 cs) : ∃ k : Cf, cs = [k.v] ∧ k.ok W := by
  obtain ⟨hl, hf⟩ := h.struct Try.underlying24
  have c0 : Try.prog.cellsOf 24 = 1 := by kernel_rfl
  have c1 : Try.prog.cellsOf 22 = 1 := by kernel_rfl
  rw [c0] at hl
  have g0 : Op_ enc Try.prog W 22 ((cs.drop 0).take (Try.prog.cellsOf 22)) := hf 0 _ rfl
  rw [c1, List.drop_zero, List.take_of_length_le (by omega)] at g0
  obtain ⟨A, n, c, zs, rfl, h1, h2, h3, _⟩ := g0.ints Try.underlying22 Try.underlying3 (by kernel_rfl)
  exact ⟨⟨A, n, c, zs⟩, rfl, h3, h1, h2⟩
/-- a row of things that came in, each of one cell -/
theorem row_of {X : Type} [Inhabited X] {xs : List Value} {n : Nat} (hl : xs.length = n) (f : X → Value) (I : X → Prop) (h : ∀ i, i < n → ∃ k : X, (xs.drop (i * 1)).take 1 = [f k] ∧ I k) : ∃ K : List X, xs = K.map f ∧ ∀ k ∈ K, I k := by
  subst hl
  refine ⟨(List.range xs.length).map fun i => if hi : i < xs.length then (h i hi).choose else default, ?_, ?_⟩
  · apply List.ext_getElem?
    intro j
    rcases Nat.lt_or_ge j xs.length with hj | hj
    · have h1 := (h j hj).choose_spec.1
      have h2 := congrArg (fun l => l[0]?) h1
      simp only [Nat.mul_one, List.getElem?_take, List.getElem?_drop] at h2
      rw [List.getElem?_map, List.getElem?_map, List.getElem?_range hj]
      simpa [hj] using h2
    · rw [List.getElem?_eq_none hj, List.getElem?_eq_none (by simpa using hj)]
  · intro k hk
    obtain ⟨i, hi, rfl⟩ := List.mem_map.1 hk
    have hi' : i < xs.length := by simpa using hi
    simp only [hi', dif_pos]
    exact (h i hi').choose_spec.2
instance : Inhabited Cf := ⟨⟨none, 0, 0, []⟩⟩
theorem open_confs {H : Type} {enc : TypeId × Value → H} {W : World} {r : Reach} {base : Nat} {v : Value} {d : DataW H} {p : List MemPlace}
    (hv : Value.okWide Try.prog W r base 35 v) (h : DataW.Trod enc Try.prog W 0 (fun _ => true) true 35 v d p) :
    ∃ A n c, ∃ K : List Cf, v = .slice A n c ∧ n ≤ c ∧ c ≤ maxLen ∧ Rd W All 1 A n (K.map Cf.v) ∧ ∀ k ∈ K, Cf.ok k W := by
  obtain ⟨a0, len0, cap0, rfl⟩ := okWide_slice Try.underlying35 hv
  obtain ⟨A, n, c, xs, hcs, h1, h2, h3, h4⟩ := (Op_.of_trod h).slice Try.underlying35 (size := 1) (by kernel_rfl)
  simp [Value.cells] at hcs
  obtain ⟨rfl, rfl, rfl⟩ := hcs
  obtain ⟨K, rfl, hK⟩ := row_of (by simpa using h3.1) Cf.v (fun k => k.ok W) fun i hi => open_conf (h4 i hi)
  exact ⟨_, _, _, K, rfl, h1, h2, h3, hK⟩
theorem open_is {H : Type} {enc : TypeId × Value → H} {W : World} {r : Reach} {base : Nat} {v : Value} {d : DataW H} {p : List MemPlace}
    (hv : Value.okWide Try.prog W r base 22 v) (h : DataW.Trod enc Try.prog W 0 (fun _ => true) true 22 v d p) :
    ∃ A n c, ∃ l : List Int, v = .slice A n c ∧ n ≤ c ∧ c ≤ maxLen ∧ Rd W All 1 A n (l.map zv) := by
  obtain ⟨a0, len0, cap0, rfl⟩ := okWide_slice Try.underlying22 hv
  obtain ⟨A, n, c, zs, hcs, h1, h2, h3, _⟩ := (Op_.of_trod h).ints Try.underlying22 Try.underlying3 (by kernel_rfl)
  simp [Value.cells] at hcs
  obtain ⟨rfl, rfl, rfl⟩ := hcs
  exact ⟨_, _, _, zs, rfl, h1, h2, h3⟩
theorem open_cf {H : Type} {enc : TypeId × Value → H} {W : World} {r : Reach} {base : Nat} {v : Value} {d : DataW H} {p : List MemPlace}
    (hv : Value.okWide Try.prog W r base 24 v) (h : DataW.Trod enc Try.prog W 0 (fun _ => true) true 24 v d p) :
    ∃ k : Cf, v = cfv k.A k.n k.c ∧ k.ok W := by
  obtain ⟨C, rfl, hC⟩ := okWide_struct Try.underlying24 hv
  obtain ⟨k, hk, hok⟩ := open_conf (Op_.of_trod h)
  have hk : C.toList = [k.v] := hk
  refine ⟨k, ?_, hok⟩
  have : C = (C.toList).toArray := by simp
  rw [this, hk]
  rfl
theorem Gives.pure {P : Program} {f : FuncId} {vs : List Value} {w : World} {v : Value} {I : Unit → Prop} {A : Unit → List Asn} (h : Gives P f vs [] w (fun _ => v) I A) : Calls P f vs.toArray w fun e w' => e = .returned v ∧ Kp All w w' :=
  h.mono fun e w' ⟨_, he, _, hS⟩ => ⟨he, hS.kpO⟩
end Go.Proofs.Ytlihhjldkopfhaa
