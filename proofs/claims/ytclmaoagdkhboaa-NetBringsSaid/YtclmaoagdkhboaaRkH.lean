/- The calculus: ranges over functions; rounds, yields, marks. No program is named. -/
import Derived.Test.YtclmaoagdkhboaaRkC
import Derived.RangeFuncLeaves
import Derived.RangeFuncRecord
import Derived.RangeFuncSeq
namespace Go.Proofs.Ytclmaoagdkhboaa
open Go.RowKit
open Asn (pt row rb)
set_option linter.unusedVariables false
set_option linter.unusedSimpArgs false
/-- block g is the object o -/
def obA (g : Nat) (o : Obj) : Asn := .any (fun k => k = g) (fun w => w.heap[g]? = some o) (fun w w' hk h => by
  have hlt : g < w.heap.size := (Array.getElem?_eq_some_iff.1 h).1
  rw [hk.block g rfl hlt]; exact h)
theorem obA_at {w0 w : World} {M : Nat → Prop} {H : List Asn} {g : Nat} {o : Obj} (h : St w0 M (obA g o :: H) w) : w.heap[g]? = some o := h.at_ (A := obA g o) (by simp)
theorem obA_put {w0 w : World} {M : Nat → Prop} {H : List Asn} {g : Nat} {o : Obj} (o' : Obj) (h : St w0 M (obA g o :: H) w) : St w0 M (obA g o' :: H) (w.putObj g o') := by
  have h1 := obA_at h
  have hlt : g < w.heap.size := (Array.getElem?_eq_some_iff.1 h1).1
  refine h.upd (A := obA g o) .here ⟨rfl, rfl, rfl, by simp [World.putObj], fun k hk _ => ?_⟩ (World.putObj_heap_same hlt) (fun _ h => h)
  have hk : ¬ k = g := hk
  exact World.putObj_heap_other hk
theorem obA_new {w0 w : World} {M : Nat → Prop} {H : List Asn} (o : Obj) (h : St w0 M H w) : St w0 M (obA w.heap.size o :: H) (w.alloc o) := by
  refine h.add (Kp.alloc w o) (World.alloc_heap_new w o) (fun k hk => ?_)
  have hk : k = w.heap.size := hk
  subst hk
  simp
/-- parts taken as one -/
def bun (L : List Asn) : Asn := .any (fun k => owns L k) (fun w => (∀ A ∈ L, A.holds w) ∧ L.Pairwise Apart) (fun w w' hk h => ⟨fun A hA => A.stable w w' (hk.mono fun k hk' _ => ⟨A, hA, hk'⟩) (h.1 A hA), h.2⟩)
theorem bun_in {w0 w : World} {M : Nat → Prop} {L H : List Asn} (h : St w0 M (L ++ H) w) : St w0 M (bun L :: H) w := by
  have hap := List.pairwise_append.1 h.apart
  refine ⟨h.kp, fun B hB => ?_, List.pairwise_cons.2 ⟨fun B hB k ⟨A, hA, hk⟩ hb => hap.2.2 A hA B hB k hk hb, hap.2.1⟩⟩
  rcases List.mem_cons.1 hB with rfl | hB
  · exact ⟨⟨fun A hA => (h.all A (by simp [hA])).1, hap.1⟩, fun k ⟨A, hA, hk⟩ => (h.all A (by simp [hA])).2 k hk⟩
  · exact h.all B (by simp [hB])
theorem bun_out {w0 w : World} {M : Nat → Prop} {L H : List Asn} (h : St w0 M (bun L :: H) w) : St w0 M (L ++ H) w := by
  have hb := h.all (bun L) (by simp)
  have hap := List.pairwise_cons.1 h.apart
  refine ⟨h.kp, fun B hB => ?_, List.pairwise_append.2 ⟨hb.1.2, hap.2, fun A hA B hB k ha hb => hap.1 B hB k ⟨A, hA, ha⟩ hb⟩⟩
  rcases List.mem_append.1 hB with hB | hB
  · exact ⟨hb.1.1 B hB, fun k hk => hb.2 k ⟨B, hB, hk⟩⟩
  · exact h.all B (by simp [hB])
theorem owns_bun {L : List Asn} {k : Nat} : owns [bun L] k ↔ owns L k := by
  constructor
  · rintro ⟨A, hA, hk⟩
    obtain rfl : A = bun L := by simpa using hA
    exact hk
  · exact fun h => ⟨bun L, by simp, h⟩
theorem St.own {w0 w : World} {M M' : Nat → Prop} {H : List Asn} (h : St w0 M H w) (hM : ∀ k, M k ↔ M' k) : St w0 M' H w := by
  have : M = M' := funext fun k => propext (hM k)
  exact this ▸ h
/-- what a yield does: the part A becomes Z y; it goes on, or it has been left -/
def YGives (P : Program) (l : Nat) (vs : List Value) (w : World) (A : Asn) {X : Type} (Z : X → Asn) (I1 S1 : X → Prop) : Prop :=
  YieldAt Fence.wide 0 P l vs.toArray w fun e w' => ∃ y b, e = .returned (.bool b) ∧ (b = true → I1 y) ∧ (b = false → S1 y) ∧ St w (owns [A]) [Z y] w'
/-- an iterator: it yields es, one behind the other, as long as it goes on; of what there was it reads F alone -/
def Iter (P : Program) (gf : FuncId) (lb : List Value) (F : Nat → Prop) (es : List (List Value)) (w : World) : Prop :=
  ∀ (l : Nat) (X : Type) (Z : X → Asn) (I : Nat → X → Prop) (S : Nat → X → Prop) (x0 : X), I 0 x0 → St w (owns [Z x0]) [Z x0] w → (∀ k, F k → ¬ owns [Z x0] k) →
    (∀ i x w', I i x → i < es.length → St w (owns [Z x0]) [Z x] w' → YGives P l (es.getD i []) w' (Z x) Z (I (i + 1)) (S i)) →
    Gives P gf (.func (.yield l) #[] #[] :: lb) [Z x0] w (X := X × Option Nat) (fun _ => .tuple #[]) (fun y => match y.2 with
      | none => I es.length y.1
      | some i => i < es.length ∧ S i y.1) (fun y => [Z y.1])
section
variable {P : Program} {n : Nat} {w0 : World} {M : Nat → Prop} {T : Slots} {H Hr : List Asn} {dd : Option Tmp} {tt : TypeId} {pos : String} {af : Array Edge} {g : Option (Nat × Bool)}
theorem E_yield {x : Operand} {xs : Array Operand} {ts : Array TypeId} {l : Nat} {vs vs' : List Value} {A : Asn} {X : Type} {Z : X → Asn} {I1 S1 : X → Prop} [hr : RemC H A Hr] (hy : ∀ w, St w0 M (A :: Hr) w → YGives P l vs' w A Z I1 S1)
    (hx : oget T x = some (.func (.yield l) #[] #[])) (hv : ogets T xs.toList = some vs) (he : vs = vs') :
    Ef P n w0 M T H ⟨dd, .call ⟨.value x, xs, ts⟩, tt, pos, af, g⟩ (fun u H' => ∃ y b, u = .bool b ∧ (b = true → I1 y) ∧ (b = false → S1 y) ∧ H' = Z y :: Hr) := .mkIn fun a w ha hS => by
  subst he
  have hS1 := hS.perm hr.perm
  obtain ⟨fn, tmps, as, bd, hrun, hround⟩ := hy w hS1
  have e1 : xs.map a.eval = vs.toArray := by rw [← ha.evals hv, ← Array.toList_map]
  have h3 : (execOp a.eval ⟨dd, .call ⟨.value x, xs, ts⟩, tt, pos, af, g⟩).run P w = .ok (.round l fn tmps as bd) w := by
    simp [execOp, resolve, Deferred.ofValue, invoke, ha.eval hx, e1, hrun]
  unfold wpo
  rw [h3]
  refine ⟨fun h => (by cases h), hround.mono fun e w' ⟨y, b, he, h1, h2, hS2⟩ => ?_⟩
  subst he
  exact ⟨.bool b, Z y :: Hr, ⟨y, b, rfl, h1, h2, rfl⟩, rfl, St.call (As := [A]) hS1 hS2⟩
end
def Bk.cast {ro : Option Nat} {ds : List Deferred} (B : Bk ro ds) (ds' : List Deferred) : Bk ro ds' := B
theorem QS_cast {P : Program} {ro : Option Nat} {ds : List Deferred} (B : Bk ro ds) (ds' : List Deferred) : ∀ k : List It, QS P (B.cast ds') k = QS P B k
  | [] => rfl
  | .code c :: k => by simp only [QS, QS_cast B ds' k]
  | .blk id :: k => by simp only [QS, QS_cast B ds' k]
  | .back J :: k => by simp only [QS, QS_cast B ds' k]
  | .seg :: k => by simp only [QS, QS_cast B ds' k]
def mark (D : Nat) : List Deferred := [{ target := .collected D, args := #[] }]
/-- the slots that a round begins with -/
def tputs : List Tmp → List Value → Slots → Slots
  | p :: ps, v :: vs, T => tputs ps vs ((p, v) :: T)
  | _, _, T => T
def oks (n : Nat) (ps : List Tmp) : Bool := ps.all fun p => Nat.blt p n
theorem Tm.puts {n : Nat} : ∀ (ps : List Tmp) (vs : List Value) (a : Act) (T : Slots), Tm n a T → oks n ps = true → Tm n { tmps := (ps.zip vs).foldl (fun t (p, v) => t.setIfInBounds p v) a.tmps, defers := [] } (tputs ps vs T)
  | [], vs, a, T, h, _ => ⟨h.size, h.at_⟩
  | p :: ps, [], a, T, h, _ => ⟨h.size, h.at_⟩
  | p :: ps, v :: vs, a, T, h, ho => by
    simp only [oks, List.all_cons, Bool.and_eq_true] at ho
    have h1 : Tm n (a.put (some p) v) ((p, v) :: T) := h.put (d := some p) ho.1
    exact Tm.puts ps vs _ _ h1 ho.2
def recL (fn : FuncId) (tmps : Array Value) (ps : Array Tmp) (as bd : Code) (D : Nat) (st : LoopState) (pe : Option Code) : Loop := { state := st, pending := pe, fn, tmps, params := ps, assign := as, body := bd, defers := D }
section
variable {P : Program} {B : Bk none []} {n : Nat} {w0 : World} {M : Nat → Prop} {k : List It} {T : Slots} {H : List Asn} {c : Code}
/-- a round, as its walk sees it: the assignment, then the body -/
def Round (P : Program) (n : Nat) (w0 : World) (M : Nat → Prop) (Hk : List Asn) (c : Code) (T : Slots) (vs : List Value) (ps : List Tmp) (w : World) {X : Type} (L : X → List Asn) (x : X) (I1 S1 : X → Prop) : Prop :=
  ∀ (l : Nat) (rA rB : Asn) (B0 B1 : Bk (some l) []) (J : Act → World → Prop), St w0 M ((rA :: L x) ++ Hk) w →
    (∀ T1 H1 H1', RS P B1 n w (owns (rA :: L x)) [.code (c2 c)] T1 (rB :: H1) → (∀ w', St w (owns (rA :: L x)) H1' w' → St w (owns (rA :: L x)) (rA :: H1) w') → RS P B0 n w (owns (rA :: L x)) [.back J] T1 H1') →
    (∀ y T1 H1, I1 y → (∀ w', St w (owns (rA :: L x)) H1 w' → St w (owns (rA :: L x)) (rB :: L y) w') → RS P B1 n w (owns (rA :: L x)) [] T1 H1) →
    (∀ y c' k' T1 H1, S1 y → kind c' = .ret → (∀ w', St w (owns (rA :: L x)) H1 w' → St w (owns (rA :: L x)) (rB :: L y) w') → RS P B1 n w (owns (rA :: L x)) (.code c' :: k') T1 H1) →
    RS P B0 n w (owns (rA :: L x)) [.code (c1 c), .back J] (tputs ps vs T) (rA :: L x)
theorem S_range {X : Type} {g : Operand} {ps : List Tmp} {gf : FuncId} {lb : List Value} {F : Nat → Prop} {es : List (List Value)} (L : X → List Asn) (I : Nat → X → Prop) (S : Nat → X → Prop) (x0 : X) (Hk : List Asn)
    (hk : kind c = .range g ps.toArray) (hg : oget T g = some (.func (.func gf) #[] lb.toArray)) (hfn : Fn_ P gf) (hps : oks n ps = true) (hes : ∀ e ∈ es, e.length = ps.length) (h0 : I 0 x0)
    (hH : ∀ w, St w0 M H w → St w0 M (L x0 ++ Hk) w) (hit : ∀ w, St w0 M (L x0 ++ Hk) w → Iter P gf lb F es w) (hF : ∀ w, St w0 M (L x0 ++ Hk) w → ∀ q, F q → ¬ owns (L x0) q ∧ q < w.heap.size)
    (round : ∀ i x w, I i x → i < es.length → St w0 M (L x ++ Hk) w → Round P n w0 M Hk c T (es.getD i []) ps w L x (I (i + 1)) (S i))
    (done : ∀ y D, I es.length y → RS P (B.cast (mark D)) n w0 M k T (obA D (.deferred (some [])) :: (L y ++ Hk)))
    (stop : ∀ y D i, i < es.length → S i y → RS P (B.cast (mark D)) n w0 M (.code .ret :: k) T (obA D (.deferred (some [])) :: (L y ++ Hk))) : RS P B n w0 M (.code c :: k) T H := by
  cases c <;> try (cases hk; done)
  rename_i g' ps' as bd
  injection hk with hk1 hk2
  subst hk1 hk2
  refine ⟨fun a w had ha hs => ?_⟩
  show (Code.rangeFunc g' ps.toArray as bd).wpIn (Fw none) 0 P (QS P B k) a w
  refine wpIn_rangeFunc fun fn _ => ?_
  have hs0 := hH w hs
  obtain ⟨rec, hrec⟩ : ∃ rec : LoopState → Option Code → Loop, rec = recL fn a.tmps ps.toArray as bd w.heap.size := ⟨_, rfl⟩
  obtain ⟨l, hl⟩ : ∃ l, w.heap.size + 1 = l := ⟨_, rfl⟩
  obtain ⟨D, hD⟩ : ∃ D, w.heap.size = D := ⟨_, rfl⟩
  obtain ⟨w1, hw1⟩ : ∃ w1, (w.alloc (.deferred (some []))).alloc (.loop (rec .ready none)) = w1 := ⟨_, rfl⟩
  have hs1 : St w0 M (obA l (.loop (rec .ready none)) :: (L x0 ++ (obA D (.deferred (some [])) :: Hk))) w1 := by
    have h1 := obA_new (.deferred (some [])) hs0
    have h2 := obA_new (.loop (rec .ready none)) h1
    rw [hw1, World.size_alloc, hl, hD] at h2
    exact h2.perm (List.Perm.cons _ List.perm_middle.symm)
  obtain ⟨rj, hn, hsm⟩ : ∃ rj : Option Code → Loop, rj none = rec .ready none ∧ rj (some .ret) = rec .done (some .ret) := ⟨fun j => match j with | none => rec .ready none | some j => rec .done (some j), rfl, rfl⟩
  obtain ⟨Z, hZ⟩ : ∃ Z : X × Option Code → Asn, Z = fun x => bun (obA l (.loop (rj x.2)) :: L x.1) := ⟨_, rfl⟩
  have hs2 : St w0 M (Z (x0, none) :: (obA D (.deferred (some [])) :: Hk)) w1 := by
    rw [hZ]
    simp only [hn]
    exact bun_in (L := obA l (.loop (rec .ready none)) :: L x0) hs1
  have hsz : w.heap.size ≤ w1.heap.size := by rw [← hw1]; simp; omega
  have hit1 := hit w1 (hs1.tail.perm ((List.perm_middle).trans (List.Perm.refl _)) |>.tail)
  have hagain : St w1 (owns [Z (x0, none)]) [Z (x0, none)] w1 := St.again (As := [Z (x0, none)]) hs2
  refine ⟨l, mark D, w1, { target := .fn (.func gf) lb.toArray, args := #[.func (.yield l) #[] #[]] }, w1, gf, #[.func (.yield l) #[] #[]] ++ lb.toArray, w1, ?_, ?_, fun _ _ => trivial, ?_, fun h => (by cases h), ?_⟩
  · have := run_enterLoop_outer (P := P) (w := w) fn a.tmps ps.toArray as bd
    rw [hl] at this
    rw [← hw1, hrec, ← hD]
    exact this
  · have e1 := ha.eval hg
    have e2 : a.eval (.const (.func (.yield l) #[] #[])) = .func (.yield l) #[] #[] := rfl
    simp [resolve, rangeCall, e1, e2, Deferred.ofValue]
  · have := callFunc_run hfn (#[.func (.yield l) #[] #[]] ++ lb.toArray) w1
    simpa [invoke] using this
  refine callsIn_wide.2 ?_
  have hcall := hit1 l (X × Option Code) Z (fun i x => x.2 = none ∧ I i x.1) (fun i x => x.2 = some .ret ∧ S i x.1) (x0, none) ⟨rfl, h0⟩ hagain (fun q hq ho => ?_) ?_
  · have e3 : (Value.func (.yield l) #[] #[] :: lb).toArray = #[.func (.yield l) #[] #[]] ++ lb.toArray := by simp
    unfold Gives at hcall
    rw [e3] at hcall
    refine hcall.mono fun e w3 ⟨y, he, hy, hS3⟩ => ?_
    subst he
    have h4 : St w0 M ([Z y.1] ++ (obA D (.deferred (some [])) :: Hk)) w3 := St.call (As := [Z (x0, none)]) hs2 hS3
    obtain ⟨⟨y1, y2⟩, y3⟩ := y
    have hfin : ∀ (st : LoopState) (pe : Option Code), St w0 M (obA l (.loop (rec st pe)) :: (L y1 ++ (obA D (.deferred (some [])) :: Hk))) w3 → st ≠ .busy → ∃ w4, (Instr.endLoop l).run P w3 = .ok pe w4 ∧ St w0 M (obA D (.deferred (some [])) :: (L y1 ++ Hk)) w4 := fun st pe h hb => by
      have h5 := run_endLoop (P := P) (obA_at h) (by rw [hrec]; exact hb)
      refine ⟨_, by rw [h5, hrec]; rfl, ?_⟩
      exact ((obA_put _ h).tail).perm List.perm_middle
    have hdef : mark D ++ a.defers = mark D := by rw [had]; rfl
    rw [hZ] at h4
    cases y3 with
    | none =>
      obtain ⟨rfl, hI⟩ : y2 = none ∧ I es.length y1 := hy
      obtain ⟨w4, h5, h6⟩ := hfin .ready none (by simp only [hn] at h4; exact bun_out h4) (by decide)
      refine ⟨none, w4, h5, ?_⟩
      have := (done y1 D hI).runD { a with defers := mark D ++ a.defers } w4 hdef ⟨ha.size, ha.at_⟩ h6
      rwa [QS_cast] at this
    | some i =>
      obtain ⟨hi, rfl, hSt⟩ : i < es.length ∧ y2 = some .ret ∧ S i y1 := hy
      obtain ⟨w4, h5, h6⟩ := hfin .done (some .ret) (by simp only [hsm] at h4; exact bun_out h4) (by decide)
      refine ⟨some .ret, w4, h5, ?_⟩
      have := (stop y1 D i hi hSt).runD { a with defers := mark D ++ a.defers } w4 hdef ⟨ha.size, ha.at_⟩ h6
      rw [QS_cast] at this
      exact this
  · have h5 := hF w hs0 q hq
    rw [hZ] at ho
    obtain ⟨A, hA, hk⟩ := owns_bun.1 ho
    rcases List.mem_cons.1 hA with rfl | hA
    · have hk : q = l := hk
      omega
    · exact h5.1 ⟨A, hA, hk⟩
  · rintro i ⟨x, x2⟩ w' ⟨hx2, hI⟩ hi hSw
    obtain rfl : x2 = none := hx2
    have h4 : St w0 M (Z (x, none) :: (obA D (.deferred (some [])) :: Hk)) w' := St.call (As := [Z (x0, none)]) hs2 hSw
    rw [hZ] at h4
    simp only [hn] at h4
    have h5 : St w0 M (obA l (.loop (rec .ready none)) :: (L x ++ (obA D (.deferred (some [])) :: Hk))) w' := bun_out h4
    have h6 : St w0 M (L x ++ Hk) w' := (h5.tail.perm List.perm_middle).tail
    have hat := obA_at h5
    have hlen : (es.getD i []).length = ps.length := hes _ (by simp [List.getD, hi])
    have hr0 := round i x w' hI hi h6
    have hag : St w' (owns (obA l (.loop (rec .ready none)) :: L x)) (obA l (.loop (rec .ready none)) :: L x) w' := St.again (As := obA l (.loop (rec .ready none)) :: L x) (Hr := obA D (.deferred (some [])) :: Hk) h5
    refine ⟨fn, ((ps.toArray.zip (es.getD i []).toArray).foldl (fun tmps (t, a) => tmps.setIfInBounds t a) a.tmps), as, bd, ?_, roundIn_of_wpIn trivial ?_⟩
    · have h7 := run_yield (P := P) (args := (es.getD i []).toArray) hat (by rw [hrec]; simpa [recL] using hlen)
      rw [h7, hrec]
      rfl
    · have hf : ((ps.toArray.zip (es.getD i []).toArray).foldl (fun tmps (x : Tmp × Value) => tmps.setIfInBounds x.1 x.2) a.tmps) = ((ps.zip (es.getD i [])).foldl (fun tmps (x : Tmp × Value) => tmps.setIfInBounds x.1 x.2) a.tmps) := by
        rw [← Array.foldl_toList, Array.toList_zip]
      have hTm : Tm n { tmps := ((ps.toArray.zip (es.getD i []).toArray).foldl (fun tmps (x : Tmp × Value) => tmps.setIfInBounds x.1 x.2) a.tmps), defers := [] } (tputs ps (es.getD i []) T) := by
        rw [hf]
        exact Tm.puts ps (es.getD i []) a T ha hps
      obtain ⟨R, hR⟩ : ∃ R : Ending → World → Prop, R = fun e w'' => ∃ (y : X × Option Code) (b : Bool), e = .returned (.bool b) ∧ (b = true → y.2 = none ∧ I (i + 1) y.1) ∧ (b = false → y.2 = some .ret ∧ S i y.1) ∧ St w' (owns [Z (x, none)]) [Z y] w'' := ⟨_, rfl⟩
      rw [← hR]
      have hclose : ∀ (y : X) (j : Option Code) (w2 : World), St w' (owns (obA l (.loop (rec .ready none)) :: L x)) (obA l (.loop (rj j)) :: L y) w2 → St w' (owns [Z (x, none)]) [Z (y, j)] w2 := fun y j w2 h => by
        rw [hZ]
        simp only [hn]
        refine St.own (bun_in (H := []) (L := obA l (.loop (rj j)) :: L y) (by rw [List.append_nil]; exact h)) fun q => owns_bun.symm
      have := hr0 l (obA l (.loop (rec .ready none))) (obA l (.loop { rec .ready none with state := .busy })) (fun _ _ _ => False) (roundPost P l R) (fun a₁ w₁ => ∃ w₂, (Instr.beginRound l).run P w₁ = .ok () w₂ ∧ bd.wpIn (Fw (some l)) 0 P (roundPost P l R) a₁ w₂) (by
          have h7 : St w0 M (obA D (.deferred (some [])) :: (obA l (.loop (rec .ready none)) :: (L x ++ Hk))) w' := h5.perm ((List.Perm.cons _ List.perm_middle).trans (List.Perm.swap _ _ _))
          exact h7.tail)
        (fun T1 H1 H1' hbody hsub => ⟨fun a w2 had2 ha2 hs2 => ⟨w2.putObj l _, run_beginRound (obA_at (hsub w2 hs2)) (by rw [hrec]; rfl), hbody.runD a _ had2 ha2 (obA_put _ (hsub w2 hs2))⟩⟩)
        (fun y T1 H1 hI1 hsub => ⟨fun a w2 _ _ hs2 => by
          have h8 := hsub w2 hs2
          refine ⟨_, _, run_endRound none (obA_at h8), ?_⟩
          rw [hR]
          refine ⟨(y, none), true, rfl, fun _ => ⟨rfl, hI1⟩, fun h => (by cases h), hclose y none _ ?_⟩
          have h9 := obA_put (.loop { ({ rec .ready none with state := .busy } : Loop) with state := .ready, pending := none }) h8
          rw [hn]
          rw [hrec] at h9 ⊢
          exact h9⟩)
        (fun y c' k' T1 H1 hS1 hk' hsub => ⟨fun a w2 _ _ hs2 => by
          have h8 := hsub w2 hs2
          have e : c' = .ret := by cases c' <;> first | rfl | (cases hk'; done)
          subst e
          refine wpIn_ret (QS_ret (fun _ _ => .inr trivial) ?_)
          refine ⟨_, _, run_endRound (some .ret) (obA_at h8), ?_⟩
          rw [hR]
          refine ⟨(y, some .ret), false, rfl, fun h => (by cases h), fun _ => ⟨rfl, hS1⟩, hclose y (some .ret) _ ?_⟩
          have h9 := obA_put (.loop { ({ rec .ready none with state := .busy } : Loop) with state := .done, pending := some .ret }) h8
          rw [hsm]
          rw [hrec] at h9 ⊢
          exact h9⟩)
      exact this.runD _ w' rfl hTm hag
end
/-- in a round: what there was, and what is kept, lies apart from what the round turns -/
theorem rd_rest {w0 w : World} {M : Nat → Prop} {sz n : Nat} {A : Option Addr} {xs : List Value} {As Hr : List Asn} (h : Rd w0 All sz A n xs) (hz : 0 < sz) (hM : ∀ k, ¬ M k) (hS : St w0 M (As ++ Hr) w) : Rd w (fun k => ¬ owns As k) sz A n xs :=
  ⟨h.1, fun hn => by
    obtain ⟨ad, e, _, hc⟩ := h.2 hn
    have hl : 0 < xs.length := by rw [h.1]; exact Nat.mul_pos hn hz
    have hb := World.block_lt_of_cell? w0 _ (hc 0 xs[0] (List.getElem?_eq_getElem hl))
    rw [block_of_add] at hb
    refine ⟨ad, e, fun ⟨B, hB, hk⟩ => ?_, fun j u hu => hS.kp.cell (by rw [block_of_add]; exact hM _) (hc j u hu)⟩
    rcases ((hS.all B (List.mem_append_left _ hB)).2 _ hk).1 with h1 | h1
    · exact hM _ h1
    · omega⟩
theorem rd_kept {w0 w : World} {M : Nat → Prop} {b t m : Nat} {cs : List Value} {As Hr : List Asn} [hm : Hat Hr b t cs] (hS : St w0 M (As ++ Hr) w) (hl : cs.length = m) : Rd w (fun k => ¬ owns As k) 1 (some ⟨b, 0, none⟩) m cs :=
  ⟨by omega, fun _ => ⟨_, rfl, fun ⟨B, hB, hk⟩ => (List.pairwise_append.1 hS.apart).2.2 B hB (pt b t cs) hm.mem b hk rfl, fun j v hj => by rw [add_plain]; exact hS.cell (List.mem_append_right _ hm.mem) (by simpa using hj)⟩⟩
/-- a function that ranges over functions, opened: its ends ahead of a range and behind one -/
theorem gives_M {P : Program} {f : FuncId} {fn : Func} {vs : List Value} {rs : List ResultVar} {n : Nat} {w : World} {As : List Asn} {X : Type} {V : X → Value} {I : X → Prop} {A : X → List Asn} (hf : P.funcs[f]? = some fn) (hb : fn.body.isSome = true) (hn : fn.ntmps = n) (hr : fn.results = rs.toArray)
    (hv : vs.length ≤ n) (hS : St w (owns As) As w) (h : ∀ B : Bk none [],
      (∀ (c : Code) (k : List It) (T : Slots) (H : List Asn) (us : List Value), kind c = .ret → Rets P n w (owns As) rs T H us → (∀ w', St w (owns As) H w' → ∃ x, retv us = V x ∧ I x ∧ St w (owns As) (A x) w') → RS P B n w (owns As) (.code c :: k) T H) →
      (∀ (D : Nat) (c : Code) (k : List It) (T : Slots) (H Hr : List Asn) (us : List Value), kind c = .ret → RemC H (obA D (.deferred (some []))) Hr → Rets P n w (owns As) rs T Hr us → (∀ w', St w (owns As) Hr w' → ∃ x, retv us = V x ∧ I x ∧ St w (owns As) (A x) w') → RS P (B.cast (mark D)) n w (owns As) (.code c :: k) T H) →
      RS P B n w (owns As) [.code (cbody fn)] (targs 0 vs) As) : Gives P f vs As w V I A := by
  obtain ⟨c, hc⟩ := Option.isSome_iff_exists.1 hb
  obtain ⟨R, hR⟩ : ∃ R : Ending → World → Prop, R = fun e w' => ∃ x, e = .returned (V x) ∧ I x ∧ St w (owns As) (A x) w' := ⟨_, rfl⟩
  unfold Gives
  rw [← hR]
  have hres : ∀ {T : Slots} {H : List Asn} {us : List Value} {a : Act} {w' : World}, Tm n a T → Rets P n w (owns As) rs T H us → St w (owns As) H w' → (results fn a.tmps).run P w' = .ok (retv us) w' := fun {T H us a w'} ha hrets hs => by
    have h1 := hrets.run a w' ha hs
    simp only [results, hr, List.mapM_toArray, Sem.run_bind, Sem.run_map]
    erw [h1]
    rcases us with _ | ⟨v, _ | ⟨u, us⟩⟩ <;> simp [retv]
  refine (callsIn_wide (n := 0)).1 (callsIn_of_wp_marks hf hc trivial ?_)
  have hmain := h (bodyPostM Fence.wide 0 P fn R) (fun c' k T H us hk hrets hw => ⟨fun a w' had ha hs => by
    have e : c' = .ret := by cases c' <;> first | rfl | (cases hk; done)
    subst e
    refine wpIn_ret (QS_ret (fun _ _ => .inr trivial) ?_)
    show LeavesInM Fence.wide 0 P fn a.tmps R a.defers .returning w'
    rw [had]
    obtain ⟨x, hx, hI, hA⟩ := hw w' hs
    exact ⟨retv us, hres ha hrets hs, by rw [hR]; exact ⟨x, by rw [hx], hI, hA⟩⟩⟩) (fun D c' k T H Hr us hk hrem hrets hw => ⟨fun a w' had ha hs => by
    have e : c' = .ret := by cases c' <;> first | rfl | (cases hk; done)
    subst e
    refine wpIn_ret (QS_ret (fun _ _ => .inr trivial) ?_)
    show LeavesInM Fence.wide 0 P fn a.tmps R a.defers .returning w'
    rw [had]
    have hs1 := hs.perm hrem.perm
    have hs2 := (obA_put (.deferred none) hs1).tail
    obtain ⟨x, hx, hI, hA⟩ := hw _ hs2
    exact ⟨by simp, .inl ⟨D, _, rfl, run_takeDeferred (obA_at hs1), retv us, hres ha hrets hs2, by rw [hR]; exact ⟨x, by rw [hx], hI, hA⟩⟩⟩⟩)
  have e : cbody fn = c := by unfold cbody; rw [hc]
  rw [e] at hmain
  refine hmain.runD _ w rfl ⟨?_, fun i v hi => ?_⟩ hS
  · simp [hn]; omega
  · obtain ⟨_, h2⟩ := tget_targs vs 0 i v hi
    have hlt := (List.getElem?_eq_some_iff.1 h2).1
    simp only [Nat.sub_zero] at hlt h2
    have h3 : (vs.toArray ++ Array.replicate (fn.ntmps - vs.toArray.size) undef)[i]? = vs[i]? := by rw [Array.getElem?_append_left (by simpa using hlt)]; simp
    exact h3.trans h2
end Go.Proofs.Ytclmaoagdkhboaa
