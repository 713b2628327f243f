/- The calculus: more readers. -/
import Derived.Test.YtclmaoagdkhboaaRkA
namespace Go.Proofs.Ytclmaoagdkhboaa
open Go.RowKit
open Asn (pt row rb)
set_option linter.unusedVariables false
set_option linter.unusedSimpArgs false
section
variable {P : Program} {ro : Option Nat} {ds : List Deferred} {B : Bk ro ds} {n : Nat} {w0 : World} {M : Nat → Prop} {k : List It} {T : Slots} {H Hr : List Asn} {dd : Option Tmp} {tt : TypeId} {pos : String} {af : Array Edge} {g : Option (Nat × Bool)} {x y z : Operand} {ts : Array TypeId}
/-- a value of many cells that was there is read, by its plain address -/
theorem T_loadga [HasTab P] {s : TypeId} {gb off m sz : Nat} {F : Nat → Prop} {xs ds : List Value} {i : Ti} (hx : oget T x = some (.pointer (some ⟨gb, off, none⟩))) (hs : ty P s = some i) (hi : aggB i.desc = true) (hr : Rd w0 F sz (some ⟨gb, 0, none⟩) m xs) (hF : ∀ k, F k → ¬ M k) (hl : ds.length = i.size) (h0 : 0 < m) (hv : ∀ e v, ds[e]? = some v → xs[off + e]? = some v) :
    Tk P n w0 M T H ⟨dd, .load s x, tt, pos, af, g⟩ (.agg ds.toArray) := by
  have e : (some ⟨gb, off, none⟩ : Option Addr) = pa (some ⟨gb, 0, none⟩) off := by simp [pa, add_plain]
  rw [e] at hx
  exact T_loadoa hx hs hi hr hl h0 hv hF
/-- a value of parts is put together -/
theorem T_build1 {s : TypeId} {j : Nat} {v : Value} {cs : List Value} (hx : oget T x = some v) (hb : P.built s [(j, v)] = some cs.toArray) :
    Tk P n w0 M T H ⟨dd, .build s #[(j, x)], tt, pos, af, g⟩ (.agg cs.toArray) := .mk fun a w ha hS => by
  have hr := run_build (P := P) w s #[(j, v)] cs.toArray (by simpa using hb)
  simp only [execOp, List.map_toArray, List.map_cons, List.map_nil, ha.eval hx, Sem.run_bind, hr, Result.andThen_ok, Sem.run_pure]
/-- a literal, seen as a slice of one's own -/
theorem E_litr [HasTab P] {s e : TypeId} {m : Nat} {parts : Array (Nat × Operand)} {vs : List Value} {i ei : Ti} (hv : ogets T (parts.toList.map (·.2)) = some vs) (hp : parts.toList.map (·.1) = List.range m) (hs : ty P s = some i) (hi : i.desc = .slice e) (he : ty P e = some ei) (h1 : ei.size = 1) (hz : ei.zero.cells = #[ei.zero]) (ho : ∀ v ∈ vs, v.oneCell' = true) (hm : m ≤ 1000) (hl : vs.length = m) :
    Ef P n w0 M T H ⟨dd, .buildSlice s m parts, tt, pos, af, g⟩ (fun u H' => ∃ b, u = .slice (some ⟨b, 0, none⟩) m m ∧ H' = row e 1 (some ⟨b, 0, none⟩) m m vs :: H) := by
  refine (E_lit1 hv hp hs hi he h1 hz ho hm).mono ?_
  rintro v H' ⟨b, rfl, rfl⟩ w hS
  refine ⟨_, _, rfl, ⟨b, rfl, rfl⟩, ?_⟩
  have := St.rowOf (e := e) (size := 1) (g := b) (n := m) (m := m) hS Upd.here (Nat.le_refl _) (by unfold maxLen; omega) (by omega)
  rwa [List.take_of_length_le (by omega)] at this
end
end Go.Proofs.Ytclmaoagdkhboaa
