/- A calculus of walks: what is known of slots and of memory at each point of a function. No program is named here. -/
import Derived.Test.YtdbehejbeioboaaDoorCf
import Derived.OrdersHeld
import Derived.KernelRfl
import Derived.Scope
import Derived.Deep.LoopGhost
import Derived.Sort.LoopGhostIn
import Derived.TacticsIn
import Derived.OrdersIn
namespace Go.Proofs.YtdbehejbeioboaaDoor
open Go.RowKit
set_option linter.unusedVariables false
set_option linter.unusedSimpArgs false

/-! slots -/
abbrev Slots := List (Nat × Value)
def tget : Slots → Nat → Option Value
  | [], _ => none
  | (i, v) :: T, j => bif Nat.beq i j then some v else tget T j
def oget (T : Slots) : Operand → Option Value
  | .tmp t => tget T t
  | .const v => some v
  | .global g => some (.pointer (some ⟨g, 0, none⟩))
  | .func f => some (.func (.func f) #[] #[])
/-- the slots of a frame hold what T says -/
structure Tm (n : Nat) (a : Act) (T : Slots) : Prop where
  size : a.tmps.size = n
  at_ : ∀ i v, tget T i = some v → a.tmps[i]? = some v
theorem Tm.eval {n : Nat} {a : Act} {T : Slots} (h : Tm n a T) {x : Operand} {v : Value} (hx : oget T x = some v) : a.eval x = v := by
  cases x with
  | tmp t =>
    have := h.at_ t v hx
    simp [Act.eval, this]
  | const u => simpa [oget, Act.eval] using hx
  | global g => simpa [oget, Act.eval] using hx
  | func f => simpa [oget, Act.eval] using hx
def tput (d : Option Tmp) (v : Value) (T : Slots) : Slots :=
  match d with
  | some d => (d, v) :: T
  | none => T
def dok (n : Nat) (d : Option Tmp) : Bool :=
  match d with
  | some d => Nat.blt d n
  | none => true
theorem tget_cons (i : Nat) (v : Value) (T : Slots) (j : Nat) : tget ((i, v) :: T) j = if i = j then some v else tget T j := by
  by_cases h : i = j
  · subst h; simp [tget]
  · have : Nat.beq i j = false := by
      rw [Bool.eq_false_iff]
      intro h'
      exact h (Nat.eq_of_beq_eq_true h')
    simp [tget, this, h]
theorem Tm.put {n : Nat} {a : Act} {T : Slots} {d : Option Tmp} {v : Value} (h : Tm n a T) (hd : dok n d = true) : Tm n (a.put d v) (tput d v T) := by
  cases d with
  | none => exact h
  | some d =>
    have hlt : d < n := by
      have := hd
      simp only [dok, Nat.blt] at this
      exact Nat.le_of_ble_eq_true this
    refine ⟨by simp [Act.put, h.size], fun i u hi => ?_⟩
    simp only [tput, tget_cons] at hi
    simp only [Act.put, Array.getElem?_setIfInBounds]
    by_cases hdi : d = i
    · rw [if_pos hdi] at hi
      rw [if_pos hdi, if_pos (by rw [h.size]; exact hlt)]
      exact hi
    · rw [if_neg hdi] at hi
      rw [if_neg hdi]
      exact h.at_ i u hi
/-- T says all that T' says -/
def Sub (T' T : Slots) : Prop := ∀ i v, tget T' i = some v → tget T i = some v
theorem Sub.nil {T : Slots} : Sub [] T := fun _ _ h => by cases h
theorem Sub.cons {T' T : Slots} {i : Nat} {v : Value} (h : tget T i = some v) (hs : Sub T' T) : Sub ((i, v) :: T') T := fun j u hj => by
  rw [tget_cons] at hj
  split at hj
  · rename_i e; subst e; rw [h]; exact hj
  · exact hs j u hj
theorem Sub.refl (T : Slots) : Sub T T := fun _ _ h => h
theorem Tm.sub {n : Nat} {a : Act} {T T' : Slots} (h : Tm n a T) (hs : Sub T' T) : Tm n a T' := ⟨h.size, fun i v hi => h.at_ i v (hs i v hi)⟩
def targs : Nat → List Value → Slots
  | _, [] => []
  | k, v :: vs => (k, v) :: targs (k + 1) vs
theorem tget_targs : ∀ (vs : List Value) (k i : Nat) (v : Value), tget (targs k vs) i = some v → k ≤ i ∧ vs[i - k]? = some v
  | [], _, _, _, h => by cases h
  | u :: us, k, i, v, h => by
    rw [targs, tget_cons] at h
    split at h
    · rename_i e; subst e; exact ⟨Nat.le_refl _, by simpa using h⟩
    · rename_i hne
      obtain ⟨h1, h2⟩ := tget_targs us (k + 1) i v h
      refine ⟨by omega, ?_⟩
      rw [show i - k = (i - (k + 1)) + 1 by omega, List.getElem?_cons_succ]
      exact h2

/-! memory -/
/-- what is known of a part of memory: it hangs on the blocks of that part alone -/
inductive Asn where
  | pt (g : Nat) (t : TypeId) (cs : List Value)
  | row (e : TypeId) (size : Nat) (A : Option Addr) (n c : Nat) (xs : List Value)
  | rb (A : Option Addr) (n c : Nat) (l : List UInt8)
  | any (own : Nat → Prop) (holds : World → Prop) (stable : ∀ w w', Kp own w w' → holds w → holds w')
/-- block g is just the cells cs of element type t; a slice of n elements, size cells each, that has its block to itself; bytes that are only read -/
def Asn.own : Asn → Nat → Prop
  | .pt g _ _, k => k = g
  | .row _ _ A n c _, k => (Value.slice A n c).ownBlock = some k
  | .rb A _ _ _, k => ∃ ad, A = some ad ∧ k = ad.block
  | .any o _ _, k => o k
def Asn.holds : Asn → World → Prop
  | .pt g t cs, w => Blk w g t cs.toArray
  | .row e size A n c xs, w => w.ownsRow 0 e size (.slice A n c) n xs
  | .rb A n c l, w => Bs w (fun k => ∃ ad, A = some ad ∧ k = ad.block) A n c l
  | .any _ h _, w => h w
theorem Asn.stable (A : Asn) (w w' : World) (hk : Kp A.own w w') (h : A.holds w) : A.holds w' := by
  cases A with
  | pt g t cs => exact Blk.kp h hk rfl
  | row e size A n c xs => exact own_kp h hk (fun g hg => hg)
  | rb A n c l => exact Bs.keep h hk
  | any o hh s => exact s w w' hk h
open Asn (pt row rb)
def Apart (A B : Asn) : Prop := ∀ k, A.own k → B.own k → False
/-- From the world w0 on, all blocks are as they were but those of M; and all of H is there, each part by itself. -/
structure St (w0 : World) (M : Nat → Prop) (H : List Asn) (w : World) : Prop where
  kp : Kp (fun k => ¬ M k) w0 w
  all : ∀ A, A ∈ H → A.holds w ∧ ∀ k, A.own k → (M k ∨ w0.heap.size ≤ k) ∧ k < w.heap.size
  apart : H.Pairwise Apart
theorem Apart.symm {A B : Asn} (h : Apart A B) : Apart B A := fun k a b => h k b a
section
variable {w0 w w' : World} {M : Nat → Prop} {H H' : List Asn} {A A' : Asn}
theorem St.nil (h : Kp All w0 w) : St w0 (fun _ => False) [] w := ⟨h.all, fun _ h => (by cases h), List.Pairwise.nil⟩
theorem St.sublist (h : St w0 M H w) (hs : H'.Sublist H) : St w0 M H' w := ⟨h.kp, fun A hA => h.all A (hs.mem hA), h.apart.sublist hs⟩
theorem St.perm (h : St w0 M H w) (hp : H.Perm H') : St w0 M H' w := ⟨h.kp, fun A hA => h.all A (hp.mem_iff.2 hA), hp.pairwise h.apart fun h => Apart.symm h⟩
/-- a step that keeps all -/
theorem St.step (h : St w0 M H w) (hk : Kp All w w') : St w0 M H w' :=
  ⟨h.kp.trans hk.all, fun A hA => ⟨A.stable w w' hk.all (h.all A hA).1, fun k hk' => ⟨((h.all A hA).2 k hk').1, Nat.lt_of_lt_of_le ((h.all A hA).2 k hk').2 hk.size⟩⟩, h.apart⟩
/-- something new -/
theorem St.add (h : St w0 M H w) (hk : Kp All w w') (hA : A.holds w') (ho : ∀ k, A.own k → w.heap.size ≤ k ∧ k < w'.heap.size) : St w0 M (A :: H) w' := by
  have h' := h.step hk
  refine ⟨h'.kp, fun B hB => ?_, List.Pairwise.cons (fun B hB k a b => ?_) h'.apart⟩
  · rcases List.mem_cons.1 hB with rfl | hB
    · exact ⟨hA, fun k hk' => ⟨.inr (Nat.le_trans h.kp.size (ho k hk').1), (ho k hk').2⟩⟩
    · exact h'.all B hB
  · have := ((h.all B hB).2 k b).2
    have := (ho k a).1
    omega
/-- one part is replaced -/
inductive Upd : List Asn → Asn → Asn → List Asn → Prop
  | here {A A' : Asn} {H : List Asn} : Upd (A :: H) A A' (A' :: H)
  | there {A A' B : Asn} {H H' : List Asn} : Upd H A A' H' → Upd (B :: H) A A' (B :: H')
theorem Upd.mem (u : Upd H A A' H') : A ∈ H := by
  induction u with
  | here => simp
  | there _ ih => simp [ih]
theorem Upd.ind (u : Upd H A A' H') : ∀ B ∈ H', B = A' ∨ (B ∈ H ∧ (H.Pairwise Apart → Apart A B)) := by
  induction u with
  | here =>
    intro B hB
    rcases List.mem_cons.1 hB with rfl | hB
    · exact .inl rfl
    · exact .inr ⟨by simp [hB], fun hp => (List.pairwise_cons.1 hp).1 B hB⟩
  | there u ih =>
    intro B hB
    rcases List.mem_cons.1 hB with rfl | hB
    · exact .inr ⟨by simp, fun hp => ((List.pairwise_cons.1 hp).1 _ u.mem).symm⟩
    · rcases ih B hB with h | ⟨h1, h2⟩
      · exact .inl h
      · exact .inr ⟨by simp [h1], fun hp => h2 (List.pairwise_cons.1 hp).2⟩
theorem Upd.pair (u : Upd H A A' H') (hp : H.Pairwise Apart) (ho : ∀ k, A'.own k → A.own k) : H'.Pairwise Apart := by
  induction u with
  | here =>
    obtain ⟨h1, h2⟩ := List.pairwise_cons.1 hp
    exact List.Pairwise.cons (fun B hB k a b => h1 B hB k (ho k a) b) h2
  | there u ih =>
    obtain ⟨h1, h2⟩ := List.pairwise_cons.1 hp
    refine List.Pairwise.cons (fun B hB => ?_) (ih h2 ho)
    rcases u.ind B hB with rfl | ⟨hm, _⟩
    · exact fun k a b => h1 _ u.mem k a (ho k b)
    · exact h1 B hm
/-- a write to one part -/
theorem St.upd (h : St w0 M H w) (u : Upd H A A' H') (hk : Kp (fun k => ¬ A.own k) w w') (hA : A'.holds w') (ho : ∀ k, A'.own k → A.own k) : St w0 M H' w' := by
  have hAm := h.all A u.mem
  refine ⟨?_, fun B hB => ?_, u.pair h.apart ho⟩
  · have h2 : Kp (fun k => ¬ M k) w0 w' := by
      refine ⟨h.kp.os ▸ hk.os, h.kp.tape ▸ hk.tape, h.kp.output ▸ hk.output, Nat.le_trans h.kp.size hk.size, fun k hM hlt => ?_⟩
      rw [hk.block k ?_ (Nat.lt_of_lt_of_le hlt h.kp.size)]
      · exact h.kp.block k hM hlt
      · intro hown
        rcases (hAm.2 k hown).1 with hm | hs
        · exact hM hm
        · omega
    exact h2
  · rcases u.ind B hB with rfl | ⟨hm, hap⟩
    · exact ⟨hA, fun k hb => ⟨(hAm.2 k (ho k hb)).1, Nat.lt_of_lt_of_le (hAm.2 k (ho k hb)).2 hk.size⟩⟩
    · have hB' := h.all B hm
      refine ⟨B.stable w w' (hk.mono fun k hb _ ha => hap h.apart k ha hb) hB'.1, fun k hb => ⟨(hB'.2 k hb).1, Nat.lt_of_lt_of_le (hB'.2 k hb).2 hk.size⟩⟩
/-- one part is told otherwise -/
theorem St.turn (h : St w0 M H w) (u : Upd H A A' H') (hA : A.holds w → A'.holds w) (ho : ∀ k, A'.own k → A.own k) : St w0 M H' w := by
  refine h.upd u (Kp.refl _ _) (hA (h.all A u.mem).1) ho
end
/-- where a block is known -/
class Hat (H : List Asn) (g : Nat) (t : outParam TypeId) (cs : outParam (List Value)) : Prop where
  mem : pt g t cs ∈ H
instance (priority := high) Hat.here {g : Nat} {t : TypeId} {cs : List Value} {H : List Asn} : Hat (pt g t cs :: H) g t cs := ⟨by simp⟩
instance Hat.there {g : Nat} {t : TypeId} {cs : List Value} {A : Asn} {H : List Asn} [h : Hat H g t cs] : Hat (A :: H) g t cs := ⟨by simp [h.mem]⟩
/-- where a block is written: K tells what becomes of all -/
class HUp (H : List Asn) (g : Nat) (t : outParam TypeId) (cs : outParam (List Value)) (K : outParam (List Value → List Asn)) : Prop where
  upd : ∀ cs', Upd H (pt g t cs) (pt g t cs') (K cs')
instance (priority := high) HUp.here {g : Nat} {t : TypeId} {cs : List Value} {H : List Asn} : HUp (pt g t cs :: H) g t cs (fun cs' => pt g t cs' :: H) := ⟨fun _ => .here⟩
instance HUp.there {g : Nat} {t : TypeId} {cs : List Value} {A : Asn} {H : List Asn} {K : List Value → List Asn} [h : HUp H g t cs K] : HUp (A :: H) g t cs (fun cs' => A :: K cs') := ⟨fun cs' => .there (h.upd cs')⟩
/-- where a slice is known; what else there is -/
class HRow (H : List Asn) (A : Option Addr) (n c : Nat) (e : outParam TypeId) (size : outParam Nat) (xs : outParam (List Value)) (H' : outParam (List Asn)) : Prop where
  perm : H.Perm (row e size A n c xs :: H')
instance (priority := high) HRow.here {e : TypeId} {size : Nat} {A : Option Addr} {n c : Nat} {xs : List Value} {H : List Asn} : HRow (row e size A n c xs :: H) A n c e size xs H := ⟨List.Perm.refl _⟩
instance HRow.there {e : TypeId} {size : Nat} {A : Option Addr} {n c : Nat} {xs : List Value} {B : Asn} {H H' : List Asn} [h : HRow H A n c e size xs H'] : HRow (B :: H) A n c e size xs (B :: H') := ⟨(List.Perm.cons _ h.perm).trans (List.Perm.swap _ _ _)⟩
theorem HRow.mem {H H' : List Asn} {e : TypeId} {size : Nat} {A : Option Addr} {n c : Nat} {xs : List Value} (h : HRow H A n c e size xs H') : row e size A n c xs ∈ H := h.perm.mem_iff.2 (by simp)

/-! regions -/
/-- is the operation wanted? -/
def dstOf : List Oper → Nat → Option Tmp
  | [], _ => none
  | o :: _, 0 => o.dst
  | _ :: l, n + 1 => dstOf l n
def wants (l : List Oper) (T : Slots) (g : Option (Nat × Bool)) : Option Bool :=
  match g with
  | none => some true
  | some (j, b) =>
    match dstOf l j with
    | none => some false
    | some d =>
      match tget T d with
      | some (.bool c) => some (c == b)
      | some (.tuple _) => some false
      | _ => none
theorem dstOf_eq : ∀ (l : List Oper) (j : Nat), dstOf l j = (l.toArray[j]?).bind (·.dst)
  | [], j => by simp [dstOf]
  | o :: l, 0 => by simp [dstOf]
  | o :: l, j + 1 => by
    rw [dstOf, dstOf_eq l j]
    simp
theorem wants_ok {n : Nat} {a : Act} {T : Slots} (h : Tm n a T) {l : List Oper} {o : Oper} {b : Bool} (hw : wants l T o.guard = some b) : Region.wanted o (yielded l.toArray a.tmps) = b := by
  unfold wants at hw
  unfold Region.wanted
  cases hg : o.guard with
  | none => rw [hg] at hw; simpa using hw
  | some jb =>
    obtain ⟨j, want⟩ := jb
    rw [hg] at hw
    simp only at hw ⊢
    unfold yielded
    rw [← dstOf_eq]
    cases hd : dstOf l j with
    | none => rw [hd] at hw; simp at hw ⊢; exact hw
    | some d =>
      rw [hd] at hw
      simp only [Option.bind_some] at hw ⊢
      cases ht : tget T d with
      | none => rw [ht] at hw; simp at hw
      | some v =>
        rw [ht] at hw
        rw [h.at_ d v ht]
        cases v with
        | bool c => simp at hw ⊢; rw [← hw]
        | tuple vs => simp at hw ⊢; exact hw
        | _ => simp at hw

inductive It where
  | code (c : Code)
  | blk (id : Nat)
  | back (J : Act → World → Prop)
  | seg
/-- frames of no round, or of the round l; what is asked at a frame's end, and the calls that it has deferred -/
def Fw (ro : Option Nat) : Fence := { Fence.wide with round := ro }
def Bk (ro : Option Nat) (ds : List Deferred) : Type := Exit → Act → World → Prop
section
variable {ro : Option Nat} {ds : List Deferred}
def QS (P : Program) (B : Bk ro ds) : List It → Exit → Act → World → Prop
  | [] => B
  | .code c :: k => Exit.then (fun a w => c.wpIn (Fw ro) 0 P (QS P B k) a w) (QS P B k)
  | .blk id :: k => Exit.inBlock id (QS P B k)
  | .back J :: k => Exit.then J (QS P B k)
  | .seg :: k => Exit.noGoto (QS P B k)
end
/-- an operation, its calls and rounds taken as they are -/
def wpo (P : Program) (o : Oper) (a : Act) (w : World) (K : Act → World → Prop) (Q : Exit → Act → World → Prop) : Prop := o.uponIn Fence.wide 0 P a K Q ((execOp a.eval o).run P w)
theorem rows_in {P : Program} {row : String} {args : Array Value} {w : World} {R : Value → World → Prop} (h : Rows P row args w R) : RowsIn Fence.wide 0 P row args w R :=
  fun c cs _ => let ⟨v, w', r, s⟩ := h c cs; ⟨v, w', r, stepsIn_wide.2 s⟩
theorem wpo_of {P : Program} {o : Oper} {a : Act} {w : World} {K : Act → World → Prop} {Q : Exit → Act → World → Prop} (h : o.wp P a w K Q) : wpo P o a w K Q := by
  unfold Oper.wp at h
  unfold wpo
  generalize (execOp a.eval o).run P w = r at *
  cases r with
  | ok x w' =>
    cases x <;> simp only [Oper.upon, Oper.uponIn] at h ⊢ <;> first
      | exact h
      | exact ⟨fun h => (by cases h), callsIn_wide.2 h⟩
      | exact ⟨fun h => (by cases h), rows_in h⟩
      | exact h.elim
  | halt x w' => cases x <;> simp only [Oper.upon, Oper.uponIn] at h ⊢ <;> exact h
theorem wpo_mono {P : Program} {o : Oper} {a : Act} {w : World} {K K' : Act → World → Prop} {Q : Exit → Act → World → Prop} (h : ∀ a w, K a w → K' a w) (hh : wpo P o a w K Q) : wpo P o a w K' Q := by
  unfold wpo at *
  generalize (execOp a.eval o).run P w = r at *
  cases r with
  | ok x w' =>
    cases x <;> simp only [Oper.uponIn] at hh ⊢ <;>
      first
        | exact h _ _ hh
        | exact ⟨hh.1, CallsIn.mono hh.2 (fun e w'' he => by cases e <;> first | exact h _ _ he | exact he)⟩
        | exact ⟨hh.1, RowsIn.mono hh.2 (fun _ _ he => h _ _ he)⟩
        | exact ⟨hh.1, RoundIn.mono hh.2 (fun e w'' he => by cases e <;> first | exact h _ _ he | exact he)⟩
  | halt x w' => cases x <;> simp only [Oper.uponIn] at hh ⊢ <;> exact hh
/-- the operation hands v over, and does nothing else -/
structure Tk (P : Program) (n : Nat) (w0 : World) (M : Nat → Prop) (T : Slots) (H : List Asn) (o : Oper) (v : Value) : Prop where
  run : ∀ a w, Tm n a T → St w0 M H w → (execOp a.eval o).run P w = .ok (.value v) w
/-- the operation hands over a v and leaves memory H' so that E v H' -/
structure Ef (P : Program) (n : Nat) (w0 : World) (M : Nat → Prop) (T : Slots) (H : List Asn) (o : Oper) (E : Value → List Asn → Prop) : Prop where
  mkIn ::
  run : ∀ a w, Tm n a T → St w0 M H w → wpo P o a w (fun a' w' => ∃ v H', E v H' ∧ a' = a.put o.dst v ∧ St w0 M H' w') (fun _ _ _ => False)
theorem Ef.mk {P : Program} {n : Nat} {w0 : World} {M : Nat → Prop} {T : Slots} {H : List Asn} {o : Oper} {E : Value → List Asn → Prop} (h : ∀ a w, Tm n a T → St w0 M H w → o.wp P a w (fun a' w' => ∃ v H', E v H' ∧ a' = a.put o.dst v ∧ St w0 M H' w') (fun _ _ _ => False)) : Ef P n w0 M T H o E :=
  .mkIn fun a w ha hs => wpo_of (h a w ha hs)
section
variable (P : Program) {ro : Option Nat} {ds : List Deferred} (B : Bk ro ds) (n : Nat) (w0 : World) (M : Nat → Prop)
/-- from slots T and memory H on, all that is still to be done leads where it has to -/
structure RS (k : List It) (T : Slots) (H : List Asn) : Prop where
  mkD ::
  runD : ∀ a w, a.defers = ds → Tm n a T → St w0 M H w → QS P B k .normal a w
/-- the same within a region: l its operations, σ those still to come -/
inductive RG (l : List Oper) (k : List It) : List Oper → Slots → List Asn → Prop
  | nil {T : Slots} {H : List Asn} (h : RS P B n w0 M k T H) : RG l k [] T H
  | take {o : Oper} {σ : List Oper} {T : Slots} {H : List Asn} {v : Value} (hw : wants l T o.guard = some true) (hd : dok n o.dst = true)
      (hr : Tk P n w0 M T H o v) (h : RG l k σ (tput o.dst v T) H) : RG l k (o :: σ) T H
  | skip {o : Oper} {σ : List Oper} {T : Slots} {H : List Asn} (hw : wants l T o.guard = some false) (hd : dok n o.dst = true) (h : RG l k σ (tput o.dst undef T) H) : RG l k (o :: σ) T H
  | eff {o : Oper} {σ : List Oper} {T : Slots} {H : List Asn} {E : Value → List Asn → Prop} (hw : wants l T o.guard = some true) (hd : dok n o.dst = true)
      (hr : Ef P n w0 M T H o E) (h : ∀ v H', E v H' → RG l k σ (tput o.dst v T) H') : RG l k (o :: σ) T H
end
theorem put_defers (a : Act) (d : Option Tmp) (v : Value) : (a.put d v).defers = a.defers := by cases d <;> rfl
theorem wpo_false {P : Program} {o : Oper} {a : Act} {w : World} {K : Act → World → Prop} {Q : Exit → Act → World → Prop} (h : wpo P o a w K (fun _ _ _ => False)) : wpo P o a w K Q := by
  unfold wpo at *
  generalize (execOp a.eval o).run P w = r at *
  cases r with
  | ok x w' =>
    cases x <;> simp only [Oper.uponIn] at h ⊢ <;> first
      | exact h
      | exact ⟨h.1, CallsIn.mono h.2 fun e w'' he => (by cases e <;> first | exact he | exact he.elim | (obtain ⟨_, _, hf⟩ := he; exact hf.elim))⟩
      | exact ⟨h.1, RoundIn.mono h.2 fun e w'' he => (by cases e <;> first | exact he | exact he.elim | (obtain ⟨_, _, hf⟩ := he; exact hf.elim))⟩
  | halt x w' =>
    cases x <;> simp only [Oper.uponIn] at h
/-- an operation that puts a value defers nothing -/
theorem wpo_no {P : Program} {o : Oper} {a : Act} {w : World} {E : Value → World → Prop} (h : wpo P o a w (fun a' w' => ∃ v, a' = a.put o.dst v ∧ E v w') (fun _ _ _ => False)) : ∀ c, o.op ≠ .defer c := fun c hc => by
  unfold wpo at h
  have he : execOp a.eval o = (do pure (.defer (← resolve a.eval c o.type)) : Sem Next) := by
    unfold execOp
    rw [hc]
  rw [he, Sem.run_bind] at h
  generalize (resolve a.eval c o.type).run P w = r at h
  cases r with
  | ok d w' =>
    simp only [Result.andThen_ok, Sem.run_pure, Oper.uponIn] at h
    obtain ⟨v, h1, _⟩ := h
    have := congrArg Act.defers h1
    rw [put_defers, put_defers] at this
    have := congrArg List.length this
    simp at this
  | halt x w' =>
    cases x <;> simp only [Result.andThen, Oper.uponIn] at h
theorem tk_no {P : Program} {o : Oper} {a : Act} {w : World} {v : Value} (h : (execOp a.eval o).run P w = .ok (.value v) w) : ∀ c, o.op ≠ .defer c :=
  wpo_no (E := fun _ _ => True) (a := a) (w := w) (P := P) (by unfold wpo; rw [h]; exact ⟨v, rfl, trivial⟩)
/-- in whatever frame -/
theorem wpo_in {P : Program} {ro : Option Nat} {o : Oper} {a : Act} {w : World} {K : Act → World → Prop} {Q : Exit → Act → World → Prop} (hd : ro = none ∨ ∀ c, o.op ≠ .defer c) (h : wpo P o a w K Q) : o.wpIn (Fw ro) 0 P a w K Q := by
  refine ⟨fun _ _ => trivial, ?_⟩
  have e : Oper.semAt (Fw ro).round a.eval o = execOp a.eval o := by
    rcases hd with rfl | hd
    · rfl
    · exact Oper.semAt_eq _ _ _ hd
  rw [e]
  unfold wpo at h
  generalize (execOp a.eval o).run P w = r at *
  cases r with
  | ok x w' => cases x <;> exact h
  | halt x w' => cases x <;> exact h
section
variable {P : Program} {ro : Option Nat} {ds : List Deferred} {B : Bk ro ds} {n : Nat} {w0 : World} {M : Nat → Prop} {k : List It} {T : Slots} {H : List Asn}
theorem RS.mk (h : ∀ a w, Tm n a T → St w0 M H w → QS P B k .normal a w) : RS P B n w0 M k T H := ⟨fun a w _ ha hs => h a w ha hs⟩
theorem RG.list {l σ : List Oper} (h : RG P B n w0 M l k σ T H) : ∀ a w, a.defers = ds → Tm n a T → St w0 M H w → wpListIn (Fw ro) 0 P l.toArray (QS P B k) σ a w := by
  induction h with
  | nil h => exact fun a w had ha hw => wpListIn_nil (h.runD a w had ha hw)
  | take hw hd hr _ ih =>
    intro a w had ha hs
    unfold wpListIn
    rw [if_pos (wants_ok ha hw)]
    have h1 := hr.run a w ha hs
    refine wpo_in (.inr (tk_no h1)) ?_
    unfold wpo
    rw [h1]
    exact ih _ _ (by rw [put_defers]; exact had) (ha.put hd) hs
  | skip hw hd _ ih =>
    intro a w had ha hs
    unfold wpListIn
    rw [if_neg (by rw [wants_ok ha hw]; simp)]
    exact ⟨fun _ _ => trivial, ih _ _ (by rw [put_defers]; exact had) (ha.put hd) hs⟩
  | @eff o σ T H E hw hd hr _ ih =>
    intro a w had ha hs
    unfold wpListIn
    rw [if_pos (wants_ok ha hw)]
    have h1 := hr.run a w ha hs
    refine wpo_in (.inr (wpo_no (E := fun v w' => ∃ H', E v H' ∧ St w0 M H' w') (wpo_mono ?_ h1))) (wpo_false (wpo_mono ?_ h1))
    · rintro a' w' ⟨v, H', hE, rfl, hs'⟩
      exact ⟨v, rfl, H', hE, hs'⟩
    · rintro a' w' ⟨v, H', hE, rfl, hs'⟩
      exact ih v H' hE _ _ (by rw [put_defers]; exact had) (ha.put hd) hs'

/-! control -/
theorem RS_seq {x y : Code} (h : RS P B n w0 M (.code x :: .code y :: k) T H) : RS P B n w0 M (.code (.seq x y) :: k) T H := ⟨fun a w had ha hs => wpIn_seq (h.runD a w had ha hs)⟩
theorem RS_block {id : Nat} {c : Code} (h : RS P B n w0 M (.code c :: .blk id :: k) T H) : RS P B n w0 M (.code (.block id c) :: k) T H := ⟨fun a w had ha hs => wpIn_block (h.runD a w had ha hs)⟩
theorem RS_blk {id : Nat} (h : RS P B n w0 M k T H) : RS P B n w0 M (.blk id :: k) T H := ⟨fun a w had ha hs => h.runD a w had ha hs⟩
theorem RS_skip (h : RS P B n w0 M k T H) : RS P B n w0 M (.code .skip :: k) T H := ⟨fun a w had ha hs => wpIn_skip (h.runD a w had ha hs)⟩
theorem RS_region {id : Nat} {l : List Oper} (h : RG P B n w0 M l k l T H) : RS P B n w0 M (.code (.region id l.toArray false) :: k) T H := ⟨fun a w had ha hs => wpIn_region_lit (h.list a w had ha hs)⟩
def popTo (id : Nat) : List It → Option (List It)
  | [] => none
  | .blk i :: k => bif Nat.beq i id then some k else popTo id k
  | _ :: k => popTo id k
theorem popTo_ok {id : Nat} : ∀ {k k' : List It} {a : Act} {w : World}, popTo id k = some k' → QS P B k' .normal a w → QS P B k (.exit id) a w
  | [], _, _, _, h, _ => by cases h
  | .blk i :: k, k', a, w, h, hq => by
    simp only [popTo] at h
    by_cases hi : i = id
    · subst hi
      simp at h
      subst h
      simpa [QS, Exit.inBlock] using hq
    · have hb : Nat.beq i id = false := by
        rw [Bool.eq_false_iff]
        intro h'
        exact hi (Nat.eq_of_beq_eq_true h')
      rw [hb] at h
      have := popTo_ok h hq
      have hne : ¬ id = i := fun e => hi e.symm
      simpa [QS, Exit.inBlock, hne] using this
  | .code c :: k, _, _, _, h, hq => popTo_ok (k := k) h hq
  | .back J :: k, _, _, _, h, hq => popTo_ok (k := k) h hq
  | .seg :: k, _, _, _, h, hq => popTo_ok (k := k) h hq
theorem RS_exit {id : Nat} {k' : List It} (hp : popTo id k = some k') (h : RS P B n w0 M k' T H) : RS P B n w0 M (.code (.exit id) :: k) T H := ⟨fun a w had ha hs => wpIn_exit (popTo_ok hp (h.runD a w had ha hs))⟩
theorem RS_true {c : Operand} {x y : Code} (hc : oget T c = some (.bool true)) (h : RS P B n w0 M (.code x :: k) T H) : RS P B n w0 M (.code (.cond c x y) :: k) T H := ⟨fun a w had ha hs => wpIn_cond_true (ha.eval hc) (h.runD a w had ha hs)⟩
theorem RS_false {c : Operand} {x y : Code} (hc : oget T c = some (.bool false)) (h : RS P B n w0 M (.code y :: k) T H) : RS P B n w0 M (.code (.cond c x y) :: k) T H := ⟨fun a w had ha hs => wpIn_cond (t := false) (ha.eval hc) (h.runD a w had ha hs)⟩
theorem RS_cond {c : Operand} {x y : Code} {b : Bool} (hc : oget T c = some (.bool b)) (h1 : b = true → RS P B n w0 M (.code x :: k) T H) (h2 : b = false → RS P B n w0 M (.code y :: k) T H) : RS P B n w0 M (.code (.cond c x y) :: k) T H := by
  cases b
  · exact RS_false hc (h2 rfl)
  · exact RS_true hc (h1 rfl)
theorem RS_if {c : Operand} {x y : Code} {p : Prop} {i : Decidable p} (hc : oget T c = some (.bool (@decide p i))) (h1 : p → RS P B n w0 M (.code x :: k) T H) (h2 : ¬ p → RS P B n w0 M (.code y :: k) T H) : RS P B n w0 M (.code (.cond c x y) :: k) T H :=
  RS_cond hc (fun h => h1 (of_decide_eq_true h)) (fun h => h2 (of_decide_eq_false h))
theorem QS_ret {a : Act} {w : World} : ∀ {k : List It}, (∀ it ∈ k, it ≠ .seg ∨ True) → B .ret a w → QS P B k .ret a w
  | [], _, h => h
  | .code _ :: k, hk, h => QS_ret (k := k) (fun _ _ => .inr trivial) h
  | .blk _ :: k, hk, h => QS_ret (k := k) (fun _ _ => .inr trivial) h
  | .back _ :: k, hk, h => QS_ret (k := k) (fun _ _ => .inr trivial) h
  | .seg :: k, hk, h => QS_ret (k := k) (fun _ _ => .inr trivial) h
/-- what is handed back: the slots of the results -/
def rets (rs : List ResultVar) (T : Slots) : Option (List Value) :=
  match rs with
  | [] => some []
  | .tmp t :: rs => match tget T t, rets rs T with
    | some v, some vs => some (v :: vs)
    | _, _ => none
  | .cell _ _ :: _ => none
def retv : List Value → Value
  | [v] => v
  | vs => .tuple vs.toArray
theorem rets_ok {a : Act} (h : Tm n a T) (P : Program) (w : World) : ∀ {rs : List ResultVar} {vs : List Value}, rets rs T = some vs →
    (rs.mapM (fun | ResultVar.tmp t => (pure (a.tmps.getD t undef) : Sem Value) | ResultVar.cell a' t => do loadVar t (← asAddr (a.tmps.getD a' undef)))).run P w = Result.ok vs w
  | [], vs, hr => by simp [rets] at hr; subst hr; simp
  | .tmp t :: rs, vs, hr => by
    simp only [rets] at hr
    split at hr
    · rename_i v us hv hus
      injection hr with hr
      subst hr
      have h1 := rets_ok h P w hus
      have h2 : a.tmps.getD t undef = v := by have := h.at_ t v hv; simp [this]
      simp only [List.mapM_cons, Sem.run_bind, Sem.run_pure, Result.andThen_ok, h1, h2]
    · cases hr
  | .cell _ _ :: _, _, hr => by simp [rets] at hr
/-- the end of the function -/
def Ends (P : Program) {ro : Option Nat} {ds : List Deferred} (B : Bk ro ds) (n : Nat) (w0 : World) (M : Nat → Prop) (rs : List ResultVar) (R : Ending → World → Prop) : Prop :=
  ∀ a w v, a.defers = ds → (∀ fn : Func, fn.results = rs.toArray → (results fn a.tmps).run P w = .ok v w) → R (.returned v) w → B .ret a w ∧ B .normal a w
theorem ret_run {a : Act} (h : Tm n a T) {rs : List ResultVar} {vs : List Value} (hr : rets rs T = some vs) (w : World) : ∀ fn : Func, fn.results = rs.toArray → (results fn a.tmps).run P w = .ok (retv vs) w := fun fn hf => by
  have h1 := rets_ok h P w hr
  simp only [results, hf, List.mapM_toArray, Sem.run_bind, Sem.run_map]
  erw [h1]
  rcases vs with _ | ⟨v, _ | ⟨u, us⟩⟩ <;> simp [retv]
theorem RS_ret {rs : List ResultVar} {R : Ending → World → Prop} {vs : List Value} (hB : Ends P B n w0 M rs R) (hr : rets rs T = some vs) (h : ∀ w, St w0 M H w → R (.returned (retv vs)) w) : RS P B n w0 M (.code .ret :: k) T H := ⟨fun a w had ha hs =>
  wpIn_ret (QS_ret (fun _ _ => .inr trivial) (hB a w _ had (ret_run ha hr w) (h w hs)).1)⟩
theorem RS_end {rs : List ResultVar} {R : Ending → World → Prop} {vs : List Value} (hB : Ends P B n w0 M rs R) (hr : rets rs T = some vs) (h : ∀ w, St w0 M H w → R (.returned (retv vs)) w) : RS P B n w0 M [] T H := ⟨fun a w had ha hs =>
  (hB a w _ had (ret_run ha hr w) (h w hs)).2⟩
/-- a call, opened -/
theorem calls_RS {f : FuncId} {fn : Func} {c : Code} {vs : List Value} {rs : List ResultVar} {w : World} {R : Ending → World → Prop} (hf : P.funcs[f]? = some fn) (hb : fn.body = some c) (hn : fn.ntmps = n) (hr : fn.results = rs.toArray)
    (hv : vs.length ≤ n) (hS : St w0 M H w) (h : ∀ B : Bk none [], Ends P B n w0 M rs R → RS P B n w0 M [.code c] (targs 0 vs) H) : Calls P f vs.toArray w R := by
  refine calls_of_wp hf hb ((wpIn_wide (n := 0)).1 ?_)
  have hB : Ends P (B := bodyPost P fn R) (ro := none) (ds := []) n w0 M rs R := fun a w v hd hrun hR => ⟨⟨hd, v, hrun fn hr, hR⟩, ⟨hd, v, hrun fn hr, hR⟩⟩
  refine (h _ hB).runD _ w rfl ⟨?_, fun i v hi => ?_⟩ hS
  · simp [hn]; omega
  · obtain ⟨_, h2⟩ := tget_targs vs 0 i v hi
    have hlt := (List.getElem?_eq_some_iff.1 h2).1
    simp only [Nat.sub_zero] at hlt h2
    have h3 : (vs.toArray ++ Array.replicate (fn.ntmps - vs.toArray.size) undef)[i]? = vs[i]? := by rw [Array.getElem?_append_left (by simpa using hlt)]; simp
    exact h3.trans h2
/-- where ways meet -/
theorem RS_cut {X : Type} {c : Code} (T' : X → Slots) (H' : X → List Asn) (I : X → Prop)
    (h1 : ∀ J, (∀ y T1 H1, I y → Sub (T' y) T1 → (∀ w, St w0 M H1 w → St w0 M (H' y) w) → RS P B n w0 M (.back J :: k) T1 H1) → RS P B n w0 M (.code c :: .back J :: k) T H)
    (h2 : ∀ y, I y → RS P B n w0 M k (T' y) (H' y)) : RS P B n w0 M (.code c :: k) T H := ⟨fun a w had ha hs => by
  have := (h1 (fun a w => a.defers = ds ∧ ∃ y, I y ∧ Tm n a (T' y) ∧ St w0 M (H' y) w) (fun y T1 H1 hI hT hH => ⟨fun a w had ha hs => ⟨had, y, hI, ha.sub hT, hH w hs⟩⟩)).runD a w had ha hs
  refine wpIn_mono this fun e a' w' hq => ?_
  cases e with
  | normal =>
    obtain ⟨had', y, hI, hT, hH⟩ := hq
    exact (h2 y hI).runD a' w' had' hT hH
  | _ => exact hq⟩
/-- a loop -/
theorem RS_loop {X : Type} {c : Code} (T' : X → Slots) (H' : X → List Asn) (I : X → Prop) (μ : X → Nat)
    (x0 : X) (h0 : I x0) (hT : Sub (T' x0) T) (hH : ∀ w, St w0 M H w → St w0 M (H' x0) w)
    (round : ∀ x, I x → ∀ J, (∀ y T1 H1, I y → Sub (T' y) T1 → (∀ w, St w0 M H1 w → St w0 M (H' y) w) → μ y < μ x → RS P B n w0 M (.back J :: k) T1 H1) → RS P B n w0 M (.code c :: .back J :: k) (T' x) (H' x)) :
    RS P B n w0 M (.code (.loop c) :: k) T H := by
  refine ⟨fun a w had ha hs => ?_⟩
  refine wpIn_loop_ghost (fun m a w => ∃ x, μ x = m ∧ I x ∧ a.defers = ds ∧ Tm n a (T' x) ∧ St w0 M (H' x) w) (μ x0) ⟨x0, rfl, h0, had, ha.sub hT, hH w hs⟩ ?_
  rintro m a w ⟨x, rfl, hI, had, hTx, hHx⟩
  have hr := (round x hI (fun a w => ∃ y, I y ∧ μ y < μ x ∧ a.defers = ds ∧ Tm n a (T' y) ∧ St w0 M (H' y) w) (fun y T1 H1 hI hT hH hlt => ⟨fun a w had ha hs => ⟨y, hI, hlt, had, ha.sub hT, hH w hs⟩⟩)).runD a w had hTx hHx
  refine wpIn_mono hr fun e a' w' hq => ?_
  cases e with
  | normal =>
    obtain ⟨y, hIy, hlt, had', hTy, hHy⟩ := hq
    exact ⟨μ y, hlt, y, rfl, hIy, had', hTy, hHy⟩
  | _ => exact hq
end
end Go.Proofs.YtdbehejbeioboaaDoor
