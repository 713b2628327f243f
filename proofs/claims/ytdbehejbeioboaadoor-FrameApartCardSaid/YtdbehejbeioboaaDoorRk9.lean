/- The calculus: stores into a slice of one's own; bytes of one's own. -/
import Derived.Test.YtdbehejbeioboaaDoorRk8
namespace Go.Proofs.YtdbehejbeioboaaDoor
open Go.RowKit
open Asn (pt row rb)
set_option linter.unusedVariables false
set_option linter.unusedSimpArgs false
section
variable {P : Program} {n : Nat} {w0 : World} {M : Nat → Prop} {T : Slots} {H Hr : List Asn} {dd : Option Tmp} {tt : TypeId} {pos : String} {af : Array Edge} {g : Option (Nat × Bool)} {x y z : Operand} {ts : Array TypeId}
/-- cells of a slice of one's own are overwritten -/
theorem E_storeR [HasTab P] {s e : TypeId} {size m c off : Nat} {A : Option Addr} {xs ds : List Value} {v : Value} {i : Ti} (hx : oget T x = some (.pointer (pa A off))) (hy : oget T y = some v) (hs : ty P s = some i) (hds : vcells v = ds) (hl : ds.length = i.size) (h1 : ∀ u ∈ ds, u.oneCell' = true) [hr : HRow H A m c e size xs Hr] (h0 : 0 < ds.length) (hfit : off + ds.length ≤ xs.length) :
    Ef P n w0 M T H ⟨none, .store s x y, tt, pos, af, g⟩ (fun _ H' => H' = row e size A m c (xs.take off ++ ds ++ xs.drop (off + ds.length)) :: Hr) := .mk fun a w ha hS => by
  subst hds
  have hS1 := hS.perm hr.perm
  have hown : w.ownsRow 0 e size (.slice A m c) m xs := hS1.at_ (A := row e size A m c xs) (by simp)
  have hxl := hown.1
  rcases hown.2 with ⟨hv, hm0⟩ | ⟨gb, cap, cur, hv, _, hb, hmc, hcm, hcs, htk⟩
  · subst hm0
    rw [Nat.zero_mul] at hxl
    omega
  injection hv with e1 e2 e3
  subst e1 e3
  have hx' : oget T x = some (.pointer (some ⟨gb, off, none⟩)) := by
    have e0 : pa (some ⟨gb, 0, none⟩) off = (some ⟨gb, off, none⟩ : Option Addr) := by simp [pa, add_plain]
    rw [← e0]; exact hx
  have hbl : Blk w gb e cur := hb
  have hcl : m * size ≤ c * size := Nat.mul_le_mul_right _ hmc
  have hfc : off + (vcells v).length ≤ cur.size := by omega
  have hrun := run_storeCells_at P gb off e (vcells v) 0 cur w hbl (by simpa using hfc) h1
  simp only [Nat.add_zero] at hrun
  have hsz : v.cells.size = i.size := by rw [vcells_ok]; simpa using hl
  have h3 : (storeVar s ⟨gb, off, none⟩ v).run P w = .ok () (w.setRow gb (cur.toList.take off ++ vcells v ++ cur.toList.drop (off + (vcells v).length)).toArray) := by
    simp only [storeVar, Sem.run_bind, ty_size hs w, Result.andThen_ok, hsz, ne_eq, not_true_eq_false, if_false]
    rw [vcells_ok]
    simpa using hrun
  have hrun2 : (execOp a.eval ⟨none, .store s x y, tt, pos, af, g⟩).run P w = .ok .skip (w.setRow gb (cur.toList.take off ++ vcells v ++ cur.toList.drop (off + (vcells v).length)).toArray) := by
    simp [execOp, ha.eval hx', ha.eval hy, Instr.storeAt, Instr.sureAddr, h3]
  unfold Oper.wp
  rw [hrun2]
  refine ⟨undef, _, rfl, rfl, hS1.upd .here ((Kp.setRow gb _).mono fun k hk _ e => hk (by subst e; rfl)) ?_ (fun k hk => hk)⟩
  refine ⟨?_, .inr ⟨gb, c, _, rfl, Nat.zero_le _, setRow_heap w gb _ _ e _ hbl, hmc, hcm, ?_, ?_⟩⟩
  · simp only [List.length_append, List.length_take, List.length_drop]
    omega
  · simp only [List.size_toArray, List.length_append, List.length_take, List.length_drop]
    have : cur.toList.length = cur.size := by simp
    omega
  · rw [List.toList_toArray, ← htk]
    have hcur : cur.toList.length = cur.size := by simp
    apply List.ext_getElem?
    intro j
    have hxs : (cur.toList.take (m * size)).length = m * size := by rw [List.length_take]; omega
    simp only [List.getElem?_take, List.getElem?_append, List.getElem?_drop, List.length_append, List.length_take]
    by_cases hj : j < m * size
    · rw [if_pos hj]
      by_cases ha : j < off
      · rw [if_pos (show j < min off cur.toList.length + (vcells v).length by omega), if_pos (show j < min off cur.toList.length by omega), if_pos (show j < min off (min (m * size) cur.toList.length) + (vcells v).length by omega), if_pos (show j < min off (min (m * size) cur.toList.length) by omega), if_pos ha, if_pos ha, if_pos hj]
      · by_cases hb2 : j < off + (vcells v).length
        · rw [if_pos (show j < min off cur.toList.length + (vcells v).length by omega), if_neg (show ¬ j < min off cur.toList.length by omega), if_pos (show j < min off (min (m * size) cur.toList.length) + (vcells v).length by omega), if_neg (show ¬ j < min off (min (m * size) cur.toList.length) by omega)]
          congr 1
          omega
        · rw [if_neg (show ¬ j < min off cur.toList.length + (vcells v).length by omega), if_neg (show ¬ j < min off (min (m * size) cur.toList.length) + (vcells v).length by omega)]
          rw [if_pos (by omega)]
          congr 1
          omega
    · rw [if_neg hj]
      rw [if_neg (show ¬ j < min off (min (m * size) cur.toList.length) + (vcells v).length by omega), if_neg (by omega)]
/-- a test whose answer is known -/
theorem T_decT [HasTab P] {o : Op} {p : Prop} {i : Decidable p} (h : pev P T o = some (.bool (@decide p i))) (hp : p) : Tk P n w0 M T H ⟨dd, o, tt, pos, af, g⟩ (.bool true) := by
  have h1 := pev_ok (n := n) (w0 := w0) (M := M) (H := H) (dd := dd) (tt := tt) (pos := pos) (af := af) (g := g) h
  rwa [decide_eq_true hp] at h1
theorem T_decF [HasTab P] {o : Op} {p : Prop} {i : Decidable p} (h : pev P T o = some (.bool (@decide p i))) (hp : ¬ p) : Tk P n w0 M T H ⟨dd, o, tt, pos, af, g⟩ (.bool false) := by
  have h1 := pev_ok (n := n) (w0 := w0) (M := M) (H := H) (dd := dd) (tt := tt) (pos := pos) (af := af) (g := g) h
  rwa [decide_eq_false hp] at h1
theorem Src.head {A : Option Addr} {m c : Nat} {l : List UInt8} (h : Src w0 M H A m c l) {k : Nat} (hk : k ≤ m) : Src w0 M H A k c (l.take k) := ⟨fun w hS => (h.bs w hS).head hk⟩
theorem Src.cutP {A : Option Addr} {m c : Nat} {l : List UInt8} (h : Src w0 M H A m c l) {k : Nat} (hk : k ≤ m) : Src w0 M H (cutP A c k 1) (m - k) (c - k) (l.drop k) := ⟨fun w hS => (h.bs w hS).cutP hk⟩
end
end Go.Proofs.YtdbehejbeioboaaDoor
