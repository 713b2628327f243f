/- The calculus: regions that draw their order. -/
import Derived.Test.YtdbehejbeioboaaDoorRk3
namespace Go.Proofs.YtdbehejbeioboaaDoor
open Go.RowKit
open Asn (pt row rb)
set_option linter.unusedVariables false
set_option linter.unusedSimpArgs false

/-- what must come ahead of an operation, by one step -/
def predsOf (ops : Array Oper) (j : Nat) : List Nat :=
  match ops[j]? with
  | none => []
  | some o => (o.after.toList.filter fun e => Region.binds .any e).map (·.on)
def clo (ops : Array Oper) : Nat → List Nat → List Nat → List Nat
  | 0, _, seen => seen
  | _ + 1, [], seen => seen
  | f + 1, j :: todo, seen => if seen.contains j then clo ops f todo seen else clo ops f (predsOf ops j ++ todo) (j :: seen)
/-- each other operation of the region stands ahead of this one or behind it -/
def pivot (ops : Array Oper) (j : Nat) : Bool :=
  let up := clo ops 2000 [j] []
  decide (j < ops.size) && (List.range ops.size).all fun k => up.contains k || (clo ops 2000 [k] []).contains j
inductive Up (ops : Array Oper) (j : Nat) : Nat → Prop
  | refl : Up ops j j
  | step {m k : Nat} (h : Up ops j m) (hk : k ∈ predsOf ops m) : Up ops j k
theorem clo_up {ops : Array Oper} {j : Nat} : ∀ (f : Nat) (todo seen : List Nat), (∀ k ∈ todo, Up ops j k) → (∀ k ∈ seen, Up ops j k) → ∀ k ∈ clo ops f todo seen, Up ops j k
  | 0, _, _, _, hs, k, hk => hs k hk
  | _ + 1, [], _, _, hs, k, hk => hs k hk
  | f + 1, i :: todo, seen, ht, hs, k, hk => by
    unfold clo at hk
    split at hk
    · exact clo_up f todo seen (fun k hk => ht k (by simp [hk])) hs k hk
    · refine clo_up f _ _ (fun k hk => ?_) (fun k hk => ?_) k hk
      · rcases List.mem_append.1 hk with hk | hk
        · exact .step (ht i (by simp)) hk
        · exact ht k (by simp [hk])
      · rcases List.mem_cons.1 hk with rfl | hk
        · exact ht _ (by simp)
        · exact hs k hk
/-- whatever has come up, that has come up too which must come ahead of it -/
def Closed (ops : Array Oper) (L : Array Bool) : Prop := ∀ m, L.getD m false = true → ∀ k ∈ predsOf ops m, L.getD k false = true
theorem closed_none {ops : Array Oper} (n : Nat) : Closed ops (Array.replicate n false) := fun m hm => by
  exfalso
  simp only [Array.getD_eq_getD_getElem?, Array.getElem?_replicate] at hm
  split at hm <;> simp at hm
theorem ready_preds {ops : Array Oper} {L : Array Bool} {j : Nat} (hj : j ∈ Region.ready .any ops L) : ∀ k ∈ predsOf ops j, L.getD k false = true := fun k hk => by
  obtain ⟨_, oj, hoj, haj⟩ := mem_ready.1 hj
  simp only [predsOf, hoj, List.mem_map, List.mem_filter] at hk
  obtain ⟨e, ⟨he, hb⟩, rfl⟩ := hk
  exact haj e (by simpa using he) hb
theorem closed_set {ops : Array Oper} {L : Array Bool} {j : Nat} (hc : Closed ops L) (hj : j ∈ Region.ready .any ops L) : Closed ops (L.setIfInBounds j true) := fun m hm k hk => by
  have up : ∀ i, L.getD i false = true → (L.setIfInBounds j true).getD i false = true := fun i hi => by
    by_cases hij : j = i
    · subst hij
      simp only [Array.getD_eq_getD_getElem?, Array.getElem?_setIfInBounds] at hi ⊢
      rw [if_pos trivial]
      split
      · rfl
      · rename_i h; rw [Array.getElem?_eq_none (by omega)] at hi; exact hi
    · rwa [getD_set_ne false hij]
  by_cases hij : j = m
  · subst hij
    exact up k (ready_preds hj k hk)
  · rw [getD_set_ne false hij] at hm
    exact up k (hc m hm k hk)
theorem up_done {ops : Array Oper} {L : Array Bool} {j : Nat} (hc : Closed ops L) (hj : j ∈ Region.ready .any ops L) {k : Nat} (h : Up ops j k) : k = j ∨ L.getD k false = true := by
  induction h with
  | refl => exact .inl rfl
  | step h hk ih =>
    rcases ih with rfl | ih
    · exact .inr (ready_preds hj _ hk)
    · exact .inr (hc _ ih _ hk)
theorem pivot_spec {ops : Array Oper} {i j : Nat} {L : Array Bool} (hc : Closed ops L) (hp : pivot ops j = true) (hi : i ∈ Region.ready .any ops L) (hj : j ∈ Region.ready .any ops L) : i = j := by
  obtain ⟨hiL, oi, hoi, hai⟩ := mem_ready.1 hi
  obtain ⟨hjL, oj, hoj, haj⟩ := mem_ready.1 hj
  by_cases hne : i = j
  · exact hne
  exfalso
  have hil : i < ops.size := (Array.getElem?_eq_some_iff.1 hoi).1
  simp only [pivot, Bool.and_eq_true, List.all_eq_true, List.mem_range] at hp
  have h1 := hp.2 i hil
  have sz : ∀ {k : Nat}, L.getD k true = false → L.getD k false = true → False := fun {k} h0 h1 => by
    rcases Nat.lt_or_ge k L.size with h' | h'
    · simp [h'] at h0 h1; rw [h0] at h1; cases h1
    · simp [Array.getElem?_eq_none h'] at h1
  simp only [Bool.or_eq_true, List.contains_iff_mem] at h1
  rcases h1 with h1 | h1
  · have hu : Up ops j i := clo_up _ _ _ (fun k hk => (List.mem_singleton.1 hk) ▸ .refl) (fun _ h => by cases h) i h1
    rcases up_done hc hj hu with h | h
    · exact hne h
    · exact sz hiL h
  · have hu : Up ops i j := clo_up _ _ _ (fun k hk => (List.mem_singleton.1 hk) ▸ .refl) (fun _ h => by cases h) j h1
    rcases up_done hc hi hu with h | h
    · exact hne h.symm
    · exact sz hjL h

section
variable {P : Program} {ops : Array Oper} {Q : Exit → Act → World → Prop}
def wpOpX (P : Program) (ops : Array Oper) (Q : Exit → Act → World → Prop) (i : Nat) (K : Act → World → Prop) (a : Act) (w : World) : Prop :=
  match ops[i]? with
  | none => K a w
  | some o => if Region.wanted o (yielded ops a.tmps) then wpo P o a w K Q else K (a.put o.dst undef) w
theorem wpOpX_mono {i : Nat} {a : Act} {w : World} {K K' : Act → World → Prop} (h : ∀ a w, K a w → K' a w) (hh : wpOpX P ops Q i K a w) : wpOpX P ops Q i K' a w := by
  unfold wpOpX at *
  split
  · exact h _ _ (by simpa [*] using hh)
  · rename_i o ho
    simp only [ho] at hh
    split
    · rename_i hw; simp only [hw, if_true] at hh; exact wpo_mono h hh
    · rename_i hw; simp only [hw] at hh; exact h _ _ hh
theorem yieldsX {S : World → Prop} {i : Nat} {o : Oper} {v : Value} {a : Act} (hi : ops[i]? = some o) (hy : YieldsIf P ops S o v a)
    {K : Act → World → Prop} {w : World} (hS : S w) (h : K (a.put o.dst v) w) : wpOpX P ops Q i K a w := by
  unfold wpOpX
  simp only [hi]
  rcases hy with ⟨hw, hv⟩ | ⟨hw, rfl⟩
  · simp only [hw, if_true, wpo, hv w hS, Oper.uponIn]; exact h
  · simp only [hw, Bool.false_eq_true, if_false]; exact h
theorem wpOpX_putIf {S : World → Prop} {j : Nat} {oi oj : Oper} {v : Value} (hj : ops[j]? = some oj) (hap : oi.apart ops oj = true)
    (hsi : ∀ cs b, oi.op ≠ .select cs b) (hsj : ∀ cs b, oj.op ≠ .select cs b)
    (hQ : ∀ c a w, Q (.panic c) (a.put oi.dst v) w → Q (.panic c) a w) {K : Act → World → Prop} {a : Act} {w : World}
    (hy : YieldsIf P ops S oi v a) (h : wpOpX P ops Q j K (a.put oi.dst v) w) :
    wpOpX P ops Q j (fun a' w' => YieldsIf P ops S oi v a' ∧ K (a'.put oi.dst v) w') a w := by
  obtain ⟨h1, h2, h3⟩ := Oper.apart_spec hap
  have keep : ∀ (a : Act), YieldsIf P ops S oi v a → ∀ u, YieldsIf P ops S oi v (a.put oj.dst u) := fun a hy u =>
    hy.of_same (execOp_put oi hsi a oj.dst u h3) (wanted_put oi a oj.dst u h3)
  have keepD : ∀ d, YieldsIf P ops S oi v { a with defers := d :: a.defers } := fun d => hy.of_same rfl rfl
  unfold wpOpX at *
  simp only [hj] at *
  rw [wanted_put oj a oi.dst v h1] at h
  split
  · rename_i hw
    simp only [hw, if_true] at h
    unfold wpo at *
    rw [execOp_put oj hsj a oi.dst v h1] at h
    generalize (execOp a.eval oj).run P w = r at *
    cases r with
    | ok n w' =>
      cases n <;> simp only [Oper.uponIn] at h ⊢
      case value u => exact ⟨keep a hy u, by rw [← Act.put_comm a v u h2]; exact h⟩
      case skip => exact ⟨keep a hy _, by rw [← Act.put_comm a v undef h2]; exact h⟩
      case defer d =>
        refine ⟨keep _ (keepD d) _, ?_⟩
        rw [← Act.put_comm _ v undef h2, ← Act.put_defers]
        exact h
      case enter f args =>
        refine ⟨h.1, CallsIn.mono h.2 fun e w'' he => ?_⟩
        cases e with
        | returned u => exact ⟨keep a hy u, by rw [← Act.put_comm a v u h2]; exact he⟩
        | panicked c => exact hQ _ _ _ he
        | outgrown => exact he
      case row row args => exact ⟨h.1, RowsIn.mono h.2 fun u w'' he => ⟨keep a hy u, by rw [← Act.put_comm a v u h2]; exact he⟩⟩
      case round l f tmps as bd =>
        refine ⟨h.1, RoundIn.mono h.2 fun e w'' he => ?_⟩
        cases e with
        | returned u => exact ⟨keep a hy u, by rw [← Act.put_comm a v u h2]; exact he⟩
        | panicked c => exact hQ _ _ _ he
        | outgrown => exact he
    | halt x w' =>
      cases x <;> simp only [Oper.uponIn] at h ⊢
      case panic u => exact hQ _ _ _ h
  · rename_i hw
    simp only [hw] at h
    exact ⟨keep a hy _, by rw [← Act.put_comm a v undef h2]; exact h⟩
def noDefer (l : List Oper) : Bool := l.all fun o => match o.op with
  | .defer _ => false
  | _ => true
theorem noDefer_spec {l : List Oper} (h : noDefer l = true) : ∀ (i : Nat) (o : Oper), l.toArray[i]? = some o → ∀ c, o.op ≠ .defer c := fun i o ho c hc => by
  have hm : o ∈ l := by
    have := Array.mem_of_getElem? ho
    simpa using this
  have := List.all_eq_true.1 h o hm
  rw [hc] at this
  cases this
/-- whatever order is picked; what is known of the world becomes more, or the operation is a pivot -/
def wpAnyD (P : Program) (ops : Array Oper) (Q : Exit → Act → World → Prop) : Nat → (World → Prop) → Array Bool → Act → World → Prop
  | 0, _, L, a, w => Region.ready .any ops L = [] ∧ Q .normal a w
  | f + 1, S, L, a, w =>
    (Region.ready .any ops L = [] → Q .normal a w) ∧
    ∀ i ∈ Region.ready .any ops L, wpOpX P ops Q i (fun a' w' => ∃ S' : World → Prop, ((∀ w, S' w → S w) ∨ pivot ops i = true) ∧ S' w' ∧ wpAnyD P ops Q f S' (L.setIfInBounds i true) a' w') a w
theorem wpOp_in {ro : Option Nat} (hd : ro = none ∨ ∀ (i : Nat) (o : Oper), ops[i]? = some o → ∀ c, o.op ≠ .defer c) {i : Nat} {K : Act → World → Prop} {a : Act} {w : World} (h : wpOpX P ops Q i K a w) : wpOpIn (Fw ro) 0 P ops Q i K a w := by
  unfold wpOpX at h
  unfold wpOpIn
  cases ho : ops[i]? with
  | none => rw [ho] at h; exact h
  | some o =>
    rw [ho] at h
    simp only at h ⊢
    split
    · rename_i hw
      rw [if_pos hw] at h
      exact wpo_in (hd.imp id fun hd => hd i o ho) h
    · rename_i hw
      rw [if_neg hw] at h
      exact ⟨fun _ _ => trivial, h⟩
theorem wpAny_of_D {ro : Option Nat} (hd : ro = none ∨ ∀ (i : Nat) (o : Oper), ops[i]? = some o → ∀ c, o.op ≠ .defer c) : ∀ (f : Nat) (S : World → Prop) (L : Array Bool) (a : Act) (w : World), wpAnyD P ops Q f S L a w → wpAnyIn (Fw ro) 0 P .any ops Q f L a w
  | 0, _, _, _, _, h => h
  | f + 1, S, L, a, w, h => ⟨h.1, fun i hi => wpOpIn_mono (fun a' w' ⟨S', _, _, h'⟩ => wpAny_of_D hd f S' _ a' w' h') (wpOp_in hd (h.2 i hi))⟩
theorem wpAnyD_first {i : Nat} {oi : Oper} {v : Value} (hi : ops[i]? = some oi) (hsel : ∀ (j : Nat) (o : Oper) cs b, ops[j]? = some o → o.op ≠ .select cs b)
    (hQ : ∀ c a w, Q (.panic c) (a.put oi.dst v) w → Q (.panic c) a w) :
    ∀ (f : Nat) (S : World → Prop) (L : Array Bool) (a : Act) (w : World), Closed ops L →
      (∀ j oj, ops[j]? = some oj → j ≠ i → L.getD j true = false → (∀ e ∈ oj.after, Region.binds .any e = true → e.on ≠ i) → oi.apart ops oj = true) →
      i ∈ Region.ready .any ops L → YieldsIf P ops S oi v a → S w →
      wpAnyD P ops Q f S (L.setIfInBounds i true) (a.put oi.dst v) w → wpAnyD P ops Q (f + 1) S L a w := by
  intro f
  induction f with
  | zero =>
    intro S L a w _ _ hr hy hS H
    refine ⟨fun h => (by rw [h] at hr; cases hr), fun j hj => ?_⟩
    by_cases hji : j = i
    · subst hji; exact yieldsX hi hy hS ⟨S, .inl fun _ h => h, hS, H⟩
    · have := ready_mono hj hji
      rw [H.1] at this
      cases this
  | succ f ih =>
    intro S L a w hcl hfree hr hy hS H
    refine ⟨fun h => (by rw [h] at hr; cases hr), fun j hj => ?_⟩
    by_cases hji : j = i
    · subst hji; exact yieldsX hi hy hS ⟨S, .inl fun _ h => h, hS, H⟩
    · have h1 := H.2 j (ready_mono hj hji)
      obtain ⟨hjun, oj, hoj, hall⟩ := mem_ready.1 hj
      have hnot : ∀ e ∈ oj.after, Region.binds .any e = true → e.on ≠ i := fun e he hb heq => by
        have h1 := hall e he hb
        have h0 := (mem_ready.1 hr).1
        rw [heq] at h1
        rcases Nat.lt_or_ge i L.size with h' | h'
        · simp [h'] at h0 h1; rw [h0] at h1; cases h1
        · simp [Array.getElem?_eq_none h'] at h1
      have h2 := wpOpX_putIf hoj (hfree j oj hoj hji hjun hnot) (fun cs b => hsel i oi cs b hi) (fun cs b => hsel j oj cs b hoj) hQ hy h1
      have hfree' : ∀ k ok, ops[k]? = some ok → k ≠ i → (L.setIfInBounds j true).getD k true = false →
          (∀ e ∈ ok.after, Region.binds .any e = true → e.on ≠ i) → oi.apart ops ok = true := fun k ok hk hki hun hno => by
        refine hfree k ok hk hki ?_ hno
        by_cases hjk : j = k
        · subst hjk; exact hjun
        · rw [getD_set_ne true hjk] at hun; exact hun
      refine wpOpX_mono (fun a' w' ⟨hy', S', hS', hw', h3⟩ => ?_) h2
      rcases hS' with hS' | hp
      · refine ⟨S', .inl hS', hw', ih S' (L.setIfInBounds j true) a' w' (closed_set hcl hj) hfree' (ready_mono hr (Ne.symm hji)) ?_ hw' ?_⟩
        · exact hy'.imp (fun ⟨h1, h2⟩ => ⟨h1, fun w hw => h2 w (hS' w hw)⟩) id
        · rw [Array.setIfInBounds_comm _ _ hji]
          exact h3
      · exact absurd (pivot_spec hcl hp hr hj).symm hji
end

section
variable (P : Program) {ro : Option Nat} {ds : List Deferred} (B : Bk ro ds) (n : Nat) (w0 : World) (M : Nat → Prop)
/-- within a region that draws: L tells which operations have come up; C is what stays known of memory whatever comes up -/
inductive RD (l : List Oper) (k : List It) : Array Bool → List Asn → Slots → List Asn → Prop
  | done {L : Array Bool} {C : List Asn} {T : Slots} {H : List Asn} (hr : Region.ready .any l.toArray L = []) (h : RS P B n w0 M k T H) : RD l k L C T H
  | take {L : Array Bool} {C : List Asn} {T : Slots} {H : List Asn} (i : Nat) {o : Oper} {v : Value} (ho : l[i]? = some o) (hw : wants l T o.guard = some true) (hd : dok n o.dst = true) (hf : Region.free .any l.toArray L i = true)
      (hr : (Region.ready .any l.toArray L).contains i = true) (ht : Tk P n w0 M T C o v) (h : RD l k (L.setIfInBounds i true) C (tput o.dst v T) H) : RD l k L C T H
  | skip {L : Array Bool} {C : List Asn} {T : Slots} {H : List Asn} (i : Nat) {o : Oper} (ho : l[i]? = some o) (hw : wants l T o.guard = some false) (hd : dok n o.dst = true) (hf : Region.free .any l.toArray L i = true)
      (hr : (Region.ready .any l.toArray L).contains i = true) (h : RD l k (L.setIfInBounds i true) C (tput o.dst undef T) H) : RD l k L C T H
  | all {L : Array Bool} {C : List Asn} {T : Slots} {H : List Asn} (rs : List Nat) (hr : Region.ready .any l.toArray L = rs) (hne : rs ≠ []) (E : Nat → Value → List Asn → Prop) (C' : Nat → Value → List Asn → List Asn)
      (he : ∀ i ∈ rs, ∃ o, l[i]? = some o ∧ wants l T o.guard = some true ∧ dok n o.dst = true ∧ Ef P n w0 M T H o (E i))
      (hc : ∀ i ∈ rs, ∀ v H', E i v H' → (∀ w, St w0 M H' w → St w0 M (C' i v H') w) ∧ ((∀ w, St w0 M (C' i v H') w → St w0 M C w) ∨ pivot l.toArray i = true))
      (h : ∀ i ∈ rs, ∀ o, l[i]? = some o → ∀ v H', E i v H' → RD l k (L.setIfInBounds i true) (C' i v H') (tput o.dst v T) H') : RD l k L C T H
end
def cnt (n : Nat) (L : Array Bool) : Nat := ((List.range n).filter fun i => L.getD i true == false).length
theorem cnt_set {n i : Nat} {L : Array Bool} (hi : i < n) (hL : L.getD i true = false) : cnt n (L.setIfInBounds i true) < cnt n L := by
  have hs : ((List.range n).filter fun j => (L.setIfInBounds i true).getD j true == false).Sublist ((List.range n).filter fun j => L.getD j true == false) := by
    have he : ((List.range n).filter fun j => (L.setIfInBounds i true).getD j true == false) = ((List.range n).filter fun j => L.getD j true == false).filter fun j => (L.setIfInBounds i true).getD j true == false := by
      rw [List.filter_filter]
      refine List.filter_congr fun j _ => ?_
      by_cases hij : i = j
      · subst hij
        rw [hL]
        simp
      · rw [getD_set_ne true hij]
        simp
    rw [he]
    exact List.filter_sublist
  rcases Nat.lt_or_eq_of_le hs.length_le with h | h
  · exact h
  · exfalso
    have he := hs.eq_of_length h
    have hm : i ∈ (List.range n).filter fun j => L.getD j true == false := by simp [hi]; simpa using hL
    rw [← he] at hm
    have hlt : i < L.size := by
      rcases Nat.lt_or_ge i L.size with h' | h'
      · exact h'
      · simp [Array.getElem?_eq_none h'] at hL
    simp [hlt] at hm
theorem cnt_zero {l : List Oper} {L : Array Bool} (h : cnt l.length L = 0) : Region.ready .any l.toArray L = [] := by
  rcases hr : Region.ready .any l.toArray L with _ | ⟨i, rs⟩
  · rfl
  · exfalso
    have hi : i ∈ Region.ready .any l.toArray L := by rw [hr]; simp
    obtain ⟨h0, o, ho, _⟩ := mem_ready.1 hi
    have hlt : i < l.length := by
      have := (Array.getElem?_eq_some_iff.1 ho).1
      simpa using this
    have hm : i ∈ (List.range l.length).filter fun j => L.getD j true == false := by
      rw [List.mem_filter]
      exact ⟨by simpa using hlt, by rw [h0]; rfl⟩
    unfold cnt at h
    rw [List.eq_nil_of_length_eq_zero h] at hm
    cases hm
section
variable {P : Program} {ro : Option Nat} {ds : List Deferred} {B : Bk ro ds} {n : Nat} {w0 : World} {M : Nat → Prop} {k : List It}
/-- a region that may not panic -/
def NoP (Q : Exit → Act → World → Prop) : Exit → Act → World → Prop
  | .panic _, _, _ => False
  | e, a, w => Q e a w
theorem NoP.imp {Q : Exit → Act → World → Prop} (e : Exit) (a : Act) (w : World) (h : NoP Q e a w) : Q e a w := by
  cases e <;> first | exact h | exact (h : False).elim
theorem RD.any {l : List Oper} (hsel : Region.noSelect l.toArray = true) {L : Array Bool} {C : List Asn} {T : Slots} {H : List Asn} (h : RD P B n w0 M l k L C T H) :
    (∀ w, St w0 M H w → St w0 M C w) → Closed l.toArray L → ∀ f a w, cnt l.length L ≤ f → a.defers = ds → Tm n a T → St w0 M H w → wpAnyD P l.toArray (NoP (QS P B k)) f (St w0 M C) L a w := by
  induction h with
  | done hr h =>
    intro hC hcl f a w _ had ha hs
    cases f with
    | zero => exact ⟨hr, h.runD a w had ha hs⟩
    | succ f => exact ⟨fun _ => h.runD a w had ha hs, by rw [hr]; simp⟩
  | take i ho hw hd hf hr ht _ ih =>
    rename_i L C T H o v _
    intro hC hcl f a w hc had ha hs
    have hi : i ∈ Region.ready .any l.toArray L := by simpa using hr
    obtain ⟨h0, o', ho', _⟩ := mem_ready.1 hi
    have hlt : i < l.length := by have := (Array.getElem?_eq_some_iff.1 ho').1; simpa using this
    have hcs := cnt_set hlt h0
    obtain ⟨f, rfl⟩ : ∃ g, f = g + 1 := ⟨f - 1, by omega⟩
    have ho2 : l.toArray[i]? = some o := by simpa using ho
    exact wpAnyD_first ho2 (Region.noSelect_spec hsel) (fun c a w h => h) f _ L a w hcl (Region.free_spec ho2 hf) hi
      (.inl ⟨wants_ok ha hw, fun w' hw' => ht.run a w' ha hw'⟩) (hC w hs) (ih hC (closed_set hcl hi) f _ w (by omega) (by rw [put_defers]; exact had) (ha.put hd) hs)
  | skip i ho hw hd hf hr _ ih =>
    rename_i L C T H o _
    intro hC hcl f a w hc had ha hs
    have hi : i ∈ Region.ready .any l.toArray L := by simpa using hr
    obtain ⟨h0, o', ho', _⟩ := mem_ready.1 hi
    have hlt : i < l.length := by have := (Array.getElem?_eq_some_iff.1 ho').1; simpa using this
    have hcs := cnt_set hlt h0
    obtain ⟨f, rfl⟩ : ∃ g, f = g + 1 := ⟨f - 1, by omega⟩
    have ho2 : l.toArray[i]? = some o := by simpa using ho
    exact wpAnyD_first ho2 (Region.noSelect_spec hsel) (fun c a w h => h) f _ L a w hcl (Region.free_spec ho2 hf) hi
      (.inr ⟨wants_ok ha hw, rfl⟩) (hC w hs) (ih hC (closed_set hcl hi) f _ w (by omega) (by rw [put_defers]; exact had) (ha.put hd) hs)
  | all rs hr hne E C' he hcc _ ih =>
    rename_i L C T H _
    intro hC hcl f a w hc had ha hs
    have hf : 0 < f := by
      rcases Nat.eq_zero_or_pos f with h0 | h0
      · exfalso
        have := cnt_zero (l := l) (L := L) (by omega)
        rw [hr] at this
        exact hne this
      · exact h0
    obtain ⟨f, rfl⟩ : ∃ g, f = g + 1 := ⟨f - 1, by omega⟩
    refine ⟨fun h => absurd (hr ▸ h) hne, fun i hi => ?_⟩
    obtain ⟨h0, o', ho', _⟩ := mem_ready.1 hi
    have hlt : i < l.length := by have := (Array.getElem?_eq_some_iff.1 ho').1; simpa using this
    have hcs := cnt_set hlt h0
    rw [hr] at hi
    obtain ⟨o, ho, hw, hd, hE⟩ := he i hi
    have ho2 : l.toArray[i]? = some o := by simpa using ho
    unfold wpOpX
    simp only [ho2, wants_ok ha hw, if_true]
    refine wpo_false (wpo_mono ?_ (hE.run a w ha hs))
    rintro a' w' ⟨v, H', hv, rfl, hs'⟩
    obtain ⟨c1, c2⟩ := hcc i hi v H' hv
    exact ⟨St w0 M (C' i v H'), c2, c1 w' hs', ih i hi o ho v H' hv c1 (closed_set hcl (hr ▸ hi)) f _ w' (by omega) (by rw [put_defers]; exact had) (ha.put hd) hs'⟩
theorem RS_draw {id : Nat} {l : List Oper} {T : Slots} {H : List Asn} (C : List Asn) (hC : ∀ w, St w0 M H w → St w0 M C w) (hm : P.follows .mixedOrders = true) (hsel : Region.noSelect l.toArray = true) (hdf : ro = none ∨ noDefer l = true) (h : RD P B n w0 M l k (Array.replicate l.length false) C T H) : RS P B n w0 M (.code (.region id l.toArray true) :: k) T H := .mkD fun a w had ha hs => by
  refine wpIn_mono (wpIn_region_any (Q := NoP (QS P B k)) hm ?_) (fun e a w h => NoP.imp e a w h)
  have hs' : St w0 M H { w with drawn := w.drawn + 1 } := hs.step (Kp.drew w)
  have := h.any hsel hC (closed_none _) l.toArray.size a _ ?_ had ha hs'
  · have h2 := wpAny_of_D (hdf.imp (fun h => h) noDefer_spec) _ _ _ _ _ this
    simpa using h2
  · have : cnt l.length (Array.replicate l.length false) ≤ (List.range l.length).length := List.length_filter_le _ _
    simpa using this
end

section
variable {P : Program} {ro : Option Nat} {ds : List Deferred} {B : Bk ro ds} {n : Nat} {w0 : World} {M : Nat → Prop} {k : List It} {T : Slots} {C H : List Asn} {l : List Oper} {L : Array Bool}
theorem D_done (h : RS P B n w0 M k T H) (hr : Region.ready .any l.toArray L = []) : RD P B n w0 M l k L C T H := .done hr h
theorem D_take (i : Nat) {d : Tmp} {op : Op} {tt : TypeId} {pos : String} {af : Array Edge} {g : Option (Nat × Bool)} {v : Value} (ho : l[i]? = some ⟨some d, op, tt, pos, af, g⟩) (ht : Tk P n w0 M T C ⟨some d, op, tt, pos, af, g⟩ v) (h : RD P B n w0 M l k (L.setIfInBounds i true) C ((d, v) :: T) H)
    (hw : wants l T g = some true) (hd : dok n (some d) = true) (hf : Region.free .any l.toArray L i = true) (hr : (Region.ready .any l.toArray L).contains i = true) : RD P B n w0 M l k L C T H := .take i ho hw hd hf hr ht h
theorem D_skip (i : Nat) {d : Tmp} {op : Op} {tt : TypeId} {pos : String} {af : Array Edge} {g : Option (Nat × Bool)} (ho : l[i]? = some ⟨some d, op, tt, pos, af, g⟩) (h : RD P B n w0 M l k (L.setIfInBounds i true) C ((d, undef) :: T) H)
    (hw : wants l T g = some false) (hd : dok n (some d) = true) (hf : Region.free .any l.toArray L i = true) (hr : (Region.ready .any l.toArray L).contains i = true) : RD P B n w0 M l k L C T H := .skip i ho hw hd hf hr h
/-- what follows an effect: C' stays known from now on -/
structure Nx (P : Program) {ro : Option Nat} {ds : List Deferred} (B : Bk ro ds) (n : Nat) (w0 : World) (M : Nat → Prop) (l : List Oper) (k : List It) (L : Array Bool) (C : List Asn) (i : Nat) (T : Slots) (H : List Asn) : Prop where
  is : ∃ C', (∀ w, St w0 M H w → St w0 M C' w) ∧ ((∀ w, St w0 M C' w → St w0 M C w) ∨ pivot l.toArray i = true) ∧ RD P B n w0 M l k (L.setIfInBounds i true) C' T H
theorem Nx_same {i : Nat} (hC : ∀ w, St w0 M H w → St w0 M C w) (h : RD P B n w0 M l k (L.setIfInBounds i true) C T H) : Nx P B n w0 M l k L C i T H := ⟨C, hC, .inl fun _ h => h, h⟩
theorem Nx_pivot {i : Nat} (hp : pivot l.toArray i = true) (h : RD P B n w0 M l k (L.setIfInBounds i true) H T H) : Nx P B n w0 M l k L C i T H := ⟨H, fun _ h => h, .inr hp, h⟩
/-- the one operation that may come up -/
theorem D_one (i : Nat) {dd : Option Tmp} {op : Op} {tt : TypeId} {pos : String} {af : Array Edge} {g : Option (Nat × Bool)} {E : Value → List Asn → Prop} (ho : l[i]? = some ⟨dd, op, tt, pos, af, g⟩) (he : Ef P n w0 M T H ⟨dd, op, tt, pos, af, g⟩ E)
    (h : ∀ v H', E v H' → Nx P B n w0 M l k L C i (tput dd v T) H')
    (hw : wants l T g = some true) (hd : dok n dd = true) (hr : Region.ready .any l.toArray L = [i]) : RD P B n w0 M l k L C T H := by
  classical
  refine .all [i] hr (by simp) (fun _ => E) (fun _ v H' => if hE : E v H' then Classical.choose (h v H' hE).is else []) (fun j hj => ?_) (fun j hj v H' hE => ?_) (fun j hj o hoj v H' hE => ?_)
  · obtain rfl : j = i := by simpa using hj
    exact ⟨_, ho, hw, hd, he⟩
  · obtain rfl : j = i := by simpa using hj
    have := Classical.choose_spec (h v H' hE).is
    simp only [dif_pos hE]
    exact ⟨this.1, this.2.1⟩
  · obtain rfl : j = i := by simpa using hj
    rw [ho] at hoj
    injection hoj with hoj
    subst hoj
    have := Classical.choose_spec (h v H' hE).is
    simp only [dif_pos hE]
    exact this.2.2
/-- one of two -/
theorem D_two (i j : Nat) {oi oj : Oper} {Ei Ej : Value → List Asn → Prop} (hij : i ≠ j) (hi : l[i]? = some oi) (hj : l[j]? = some oj) (ei : Ef P n w0 M T H oi Ei) (ej : Ef P n w0 M T H oj Ej)
    (h1 : ∀ v H', Ei v H' → Nx P B n w0 M l k L C i (tput oi.dst v T) H') (h2 : ∀ v H', Ej v H' → Nx P B n w0 M l k L C j (tput oj.dst v T) H')
    (hwi : wants l T oi.guard = some true) (hwj : wants l T oj.guard = some true) (hdi : dok n oi.dst = true) (hdj : dok n oj.dst = true) (hr : Region.ready .any l.toArray L = [i, j]) : RD P B n w0 M l k L C T H := by
  classical
  refine .all [i, j] hr (by simp) (fun m => if m = i then Ei else Ej) (fun m v H' => if m = i then (if hE : Ei v H' then Classical.choose (h1 v H' hE).is else []) else (if hE : Ej v H' then Classical.choose (h2 v H' hE).is else [])) (fun m hm => ?_) (fun m hm v H' hE => ?_) (fun m hm o ho v H' hE => ?_)
  · rcases List.mem_cons.1 hm with rfl | hm
    · exact ⟨_, hi, hwi, hdi, by simpa using ei⟩
    · obtain rfl : m = j := by simpa using hm
      exact ⟨_, hj, hwj, hdj, by simpa [Ne.symm hij] using ej⟩
  · rcases List.mem_cons.1 hm with rfl | hm
    · simp only [if_true] at hE ⊢
      have := Classical.choose_spec (h1 v H' hE).is
      simp only [dif_pos hE]
      exact ⟨this.1, this.2.1⟩
    · obtain rfl : m = j := by simpa using hm
      simp only [if_neg (Ne.symm hij)] at hE ⊢
      have := Classical.choose_spec (h2 v H' hE).is
      simp only [dif_pos hE]
      exact ⟨this.1, this.2.1⟩
  · rcases List.mem_cons.1 hm with rfl | hm
    · rw [hi] at ho
      injection ho with ho
      subst ho
      simp only [if_true] at hE ⊢
      have := Classical.choose_spec (h1 v H' hE).is
      simp only [dif_pos hE]
      exact this.2.2
    · obtain rfl : m = j := by simpa using hm
      rw [hj] at ho
      injection ho with ho
      subst ho
      simp only [if_neg (Ne.symm hij)] at hE ⊢
      have := Classical.choose_spec (h2 v H' hE).is
      simp only [dif_pos hE]
      exact this.2.2
end
end Go.Proofs.YtdbehejbeioboaaDoor
