/- The calculus: literals, arrays as slices, what is known in another order. -/
import Derived.Test.YtdbehejbeioboaaDoorRkP
namespace Go.Proofs.YtdbehejbeioboaaDoor
open Go.RowKit
open Asn (pt row rb)
set_option linter.unusedVariables false
set_option linter.unusedSimpArgs false

/-- one part is taken out -/
class RemC (H : List Asn) (A : Asn) (H' : outParam (List Asn)) : Prop where
  perm : H.Perm (A :: H')
instance (priority := high) RemC.here {A : Asn} {H : List Asn} : RemC (A :: H) A H := ⟨List.Perm.refl _⟩
instance RemC.there {A B : Asn} {H H' : List Asn} [h : RemC H A H'] : RemC (B :: H) A (B :: H') := ⟨(List.Perm.cons _ h.perm).trans (List.Perm.swap _ _ _)⟩
/-- all of H' is in H -/
class SubC (H' H : List Asn) : Prop where
  is : ∃ R, H.Perm (H' ++ R)
instance SubC.nil {H : List Asn} : SubC [] H := ⟨⟨H, List.Perm.refl _⟩⟩
instance SubC.cons {A : Asn} {H H' R : List Asn} [h : RemC H A R] [s : SubC H' R] : SubC (A :: H') H := by
  obtain ⟨Q, hQ⟩ := s.is
  exact ⟨⟨Q, h.perm.trans (List.Perm.cons _ hQ)⟩⟩
theorem sub_st {w0 : World} {M : Nat → Prop} {H H' : List Asn} [h : SubC H' H] : ∀ w, St w0 M H w → St w0 M H' w := fun w hS => by
  obtain ⟨R, hR⟩ := h.is
  exact (hS.perm hR).sublist (List.sublist_append_left _ _)

section
variable {P : Program} {n : Nat} {w0 : World} {M : Nat → Prop} {T : Slots} {H Hr : List Asn} {dd : Option Tmp} {tt : TypeId} {pos : String} {af : Array Edge} {g : Option (Nat × Bool)}
/-- arr[:] -/
theorem T_slarr [HasTab P] {x : Operand} {s e : TypeId} {gb off m : Nat} {i ei : Ti} (hx : oget T x = some (.pointer (some ⟨gb, off, none⟩))) (hs : ty P s = some i) (hi : i.desc = .array m e) (he : ty P e = some ei) :
    Tk P n w0 M T H ⟨dd, .slice s x none none none, tt, pos, af, g⟩ (.slice (some ⟨gb, off, none⟩) m m) := .mk fun a w ha hS => by
  have hu := run_underlying (hi ▸ ty_ok hs) w
  have h0 : (if m = 0 then (⟨gb, off, none⟩ : Addr) else (⟨gb, off, none⟩ : Addr).add (0 * ei.size)) = ⟨gb, off, none⟩ := by
    split
    · rfl
    · rw [Nat.zero_mul]; rfl
  simp [execOp, ha.eval hx, Instr.sliceAt, hu, Instr.sureAddr, Instr.sliceBounds, ty_size he w, Addr.add]
/-- values laid one behind the other -/
theorem fill_ones : ∀ (vs : List Value) (k : Nat) (pre : List Value) (zs : List Value), pre.length = k → zs.length = vs.length → (∀ v ∈ vs, v.oneCell' = true) →
    Instr.fill (fun i => some (i * 1, 1)) (pre ++ zs).toArray ((List.range' k vs.length).zip vs) = some (pre ++ vs).toArray
  | [], k, pre, zs, _, hz, _ => by
    have : zs = [] := List.eq_nil_of_length_eq_zero hz
    subst this
    simp [Instr.fill]
  | v :: vs, k, pre, z :: zs, hp, hz, h1 => by
    have hv : v.cells = #[v] := by
      have := h1 v (by simp)
      cases v <;> first | rfl | (simp [Value.oneCell'] at this)
    have ih := fill_ones vs (k + 1) (pre ++ [v]) zs (by simp [hp]) (by simpa using hz) (fun u hu => h1 u (by simp [hu]))
    rw [List.length_cons, List.range'_succ, List.zip_cons_cons, Instr.fill]
    simp only [hv, Nat.mul_one]
    have e : (#[v].zipIdx.foldl (fun cs x => cs.setIfInBounds (k + x.2) x.1) (pre ++ z :: zs).toArray) = ((pre ++ [v]) ++ zs).toArray := by
      apply Array.ext'
      simp [Array.zipIdx, hp ▸ List.set_append_right]
    have hsz : ¬ (#[v].size ≠ 1 ∨ k + #[v].size > (pre ++ z :: zs).toArray.size) := by simp; omega
    simp only [ne_eq] at hsz
    simp only [Nat.mul_one] at ih
    simp only [List.append_assoc, List.singleton_append] at ih
    have h3 : ((#[v].size ≠ 1) || decide (k + #[v].size > (pre ++ z :: zs).toArray.size)) = false := by simp; omega
    simp only [h3, Bool.false_eq_true, if_false]
    rw [e]
    simpa using ih
/-- a literal of values of one cell -/
theorem E_lit1 [HasTab P] {s e : TypeId} {m : Nat} {parts : Array (Nat × Operand)} {vs : List Value} {i ei : Ti} (hv : ogets T (parts.toList.map (·.2)) = some vs) (hp : parts.toList.map (·.1) = List.range m) (hs : ty P s = some i) (hi : i.desc = .slice e) (he : ty P e = some ei) (h1 : ei.size = 1) (hz : ei.zero.cells = #[ei.zero]) (ho : ∀ v ∈ vs, v.oneCell' = true) (hm : m ≤ 1000) :
    Ef P n w0 M T H ⟨dd, .buildSlice s m parts, tt, pos, af, g⟩ (fun u H' => ∃ b, u = .slice (some ⟨b, 0, none⟩) m m ∧ H' = pt b e vs :: H) := .mk fun a w ha hS => by
  have hu := run_underlying (hi ▸ ty_ok hs) w
  have hev := ha.evals hv
  have hl : vs.length = m := by rw [← hev]; have := congrArg List.length hp; simpa using this
  have hparts : (parts.map fun x => (x.1, a.eval x.2)).toList = (List.range' 0 vs.length).zip vs := by
    rw [hl, ← List.range_eq_range', ← hp, ← hev]
    simp [List.zip_map']
  have hfill := fill_ones vs 0 [] (List.replicate m ei.zero) rfl (by simp [hl]) ho
  simp only [List.nil_append, Nat.mul_one] at hfill
  have hz0 : (Array.range m).map (fun i => ei.zero.cells[i % ei.zero.cells.size]!) = (List.replicate m ei.zero).toArray := by
    rw [hz]
    apply Array.ext'
    simp [List.map_const', Nat.mod_one]
  have hrun : (Instr.buildSlice s m (parts.map fun x => (x.1, a.eval x.2))).run P w = .ok (.slice (some ⟨w.heap.size, 0, none⟩) m m) (w.alloc (.cells vs.toArray e)) := by
    have hle : ¬ m > 2 ^ 24 := by omega
    by_cases hm0 : m = 0
    · subst hm0
      have : vs = [] := List.eq_nil_of_length_eq_zero hl
      subst this
      simp only [Instr.buildSlice, Sem.run_bind, hu, Result.andThen_ok, ty_size he w, h1, Nat.mul_one, Sem.run_ite]
      have hpe : parts.toList = [] := by simpa using hp
      simp [hpe, Instr.fill, newRow, show Array.range 0 = #[] from rfl]
    · simp only [Instr.buildSlice, Sem.run_bind, hu, Result.andThen_ok, ty_size he w, h1, Nat.mul_one, Sem.run_ite, if_neg hle, if_neg hm0, ty_zero he w, Sem.run_pure, hz0, hparts, hfill]
      simp [newRow]
  unfold Oper.wp
  simp only [execOp, Sem.run_bind, hrun, Result.andThen_ok, Sem.run_pure]
  refine ⟨_, _, ⟨w.heap.size, rfl, rfl⟩, rfl, hS.add (Kp.alloc w _) (Blk.new w e _) (fun k hk => ?_)⟩
  have hk : k = w.heap.size := hk
  subst hk
  simp
end
end Go.Proofs.YtdbehejbeioboaaDoor
