/- The reader's calls in the calculus. -/
import Derived.Test.YtemgfoakffappaaDoorOcC
import Derived.Test.YtemgfoakffappaaDoorRk7
import Derived.Test.YtemgfoakffappaaDoorOct5
namespace Go.Proofs.YtemgfoakffappaaDoor
open Go.RowKit
open Asn (pt row rb)
set_option linter.unusedVariables false
set_option linter.unusedSimpArgs false

/-- a reader: its block g, its bytes in F -/
def rdr (g : Nat) (F : Nat → Prop) (l : List UInt8) (why : Int) : Asn := .any (fun k => k = g ∨ F k) (fun w => Rst w g F l why) (fun w w' hk h => h.kp hk (.inl rfl) (fun k hk => .inr hk))
class HRd (H : List Asn) (g : Nat) (F : outParam (Nat → Prop)) (l : outParam (List UInt8)) (why : outParam Int) (H' : outParam (List Asn)) : Prop where
  perm : H.Perm (rdr g F l why :: H')
instance (priority := high) HRd.here {g : Nat} {F : Nat → Prop} {l : List UInt8} {why : Int} {H : List Asn} : HRd (rdr g F l why :: H) g F l why H := ⟨List.Perm.refl _⟩
instance HRd.there {g : Nat} {F : Nat → Prop} {l : List UInt8} {why : Int} {A : Asn} {H H' : List Asn} [h : HRd H g F l why H'] : HRd (A :: H) g F l why (A :: H') := ⟨(List.Perm.cons _ h.perm).trans (List.Perm.swap _ _ _)⟩
/-- one step of a reader: t is taken off -/
structure Rstep (l : List UInt8) (why n : Int) (t l1 : List UInt8) (why1 : Int) : Prop where
  ht : t = l.take (tookN l.length why n)
  hl : l1 = l.drop (tookN l.length why n)
  hw : why1 = whyN l.length why n
  len : l1.length ≤ l.length
theorem Rstep.mk' (l : List UInt8) (why n : Int) : Rstep l why n (l.take (tookN l.length why n)) (l.drop (tookN l.length why n)) (whyN l.length why n) := ⟨rfl, rfl, rfl, by simp⟩
section
variable {n : Nat} {w0 : World} {M : Nat → Prop} {T : Slots} {H Hr : List Asn} {dd : Option Tmp} {tt : TypeId} {pos : String} {af : Array Edge} {g : Option (Nat × Bool)} {x y : Operand} {ts : Array TypeId} {gb : Nat} {F : Nat → Prop} {l : List UInt8} {why : Int}
theorem E_u32 (hx : oget T x = some (.pointer (some ⟨gb, 0, none⟩))) [h : HRd H gb F l why Hr] :
    Ef Tryd.prog n w0 M T H ⟨dd, .call ⟨.value (.func 33), #[x], ts⟩, tt, pos, af, g⟩ (fun u H' => ∃ t l1 why1, Rstep l why 4 t l1 why1 ∧ num t < 4294967296 ∧ u = .int .u32 (num t : Nat) ∧ H' = rdr gb F l1 why1 :: Hr) := by
  refine (Ef.mono (E_gm (H := rdr gb F l why :: Hr) (A := rdr gb F l why) (A' := rdr gb F (l.drop (tookN l.length why 4)) (whyN l.length why 4)) ⟨_, Tryd.func33, rfl, by kernel_rfl⟩ (vs := [.pointer (some ⟨gb, 0, none⟩)]) (by simp [ogets, hx]) .here (fun _ h => h) (fun w hS hA => (u_any_32 w gb F l why hA).mono fun e w' ⟨he, h1, h2, _⟩ => ⟨he, h1, h2.mono fun k hk _ e => hk (.inl e)⟩)) ?_).from fun w hS => hS.perm h.perm
  rintro v H' ⟨rfl, rfl⟩ w hS
  exact ⟨_, _, rfl, ⟨_, _, _, Rstep.mk' l why 4, num_le _ 4 (by rw [List.length_take]; have : tookN l.length why 4 ≤ 4 := (by unfold tookN; split <;> omega); omega), rfl, rfl⟩, hS⟩
theorem E_left (hx : oget T x = some (.pointer (some ⟨gb, 0, none⟩))) [h : HRd H gb F l why Hr] :
    Ef Tryd.prog n w0 M T H ⟨dd, .call ⟨.value (.func 34), #[x], ts⟩, tt, pos, af, g⟩ (fun u H' => u = .int .i64 (l.length : Nat) ∧ H' = H) :=
  E_g0 ⟨_, Tryd.func34, rfl, by kernel_rfl⟩ (vs := [.pointer (some ⟨gb, 0, none⟩)]) (by simp [ogets, hx]) fun w hS => (left_any w gb F l why ((hS.perm h.perm).at_ (A := rdr gb F l why) (by simp))).mono fun e w' ⟨he, hw⟩ => ⟨he, hw ▸ Kp.refl _ _⟩
theorem E_read {A : Option Addr} {m c : Nat} (hx : oget T x = some (.slice A m c)) (hs : Src w0 M H A m c l) (hm : m ≤ 140737488355328) :
    Ef Tryd.prog n w0 M T H ⟨dd, .call ⟨.value (.func 32), #[x], ts⟩, tt, pos, af, g⟩ (fun u H' => ∃ gb F, u = .pointer (some ⟨gb, 0, none⟩) ∧ H' = rdr gb F l 0 :: H) := .mk fun a w ha hS => by
  unfold Oper.wp
  rw [call_run (f := 32) ⟨_, Tryd.func32, rfl, by kernel_rfl⟩ (vs := [.slice A m c]) (by simp [ogets, hx]) ha w]
  refine (read_any w A m c l All (hs.bs w hS) hm).mono fun e w' ⟨gb, he, hg, hr, hk⟩ => ?_
  subst he
  obtain ⟨A2, n2, c2, h1, h2, h3⟩ := hr
  have hlt : gb < w'.heap.size := Blk.lt h1
  refine ⟨_, _, ⟨gb, fun b => (w.heap.size ≤ b ∧ b ≠ gb) ∧ b < w'.heap.size, rfl, rfl⟩, rfl, hS.add hk (A := rdr gb _ l 0) ⟨A2, n2, c2, h1, h2.tight (fun k hk hl => ⟨hk, hl⟩), fun b hb => hb.1.2⟩ fun k hk => ?_⟩
  rcases hk with rfl | hk
  · exact ⟨hg, hlt⟩
  · exact ⟨hk.1.1, hk.2⟩
end
end Go.Proofs.YtemgfoakffappaaDoor
