/- The calculus: results that lie in variables, calls of closures, copy, readers of a block of its own kind. -/
import Derived.Test.YtdbehejbeioboaaDoorRk6
import Derived.Laws.CopyRow
namespace Go.Proofs.YtdbehejbeioboaaDoor
open Go.RowKit
open Asn (pt row rb)
set_option linter.unusedVariables false
set_option linter.unusedSimpArgs false

/-- what is handed back: slots and variables -/
structure Rets (P : Program) (n : Nat) (w0 : World) (M : Nat → Prop) (rs : List ResultVar) (T : Slots) (H : List Asn) (vs : List Value) : Prop where
  run : ∀ a w, Tm n a T → St w0 M H w → (rs.mapM (fun | ResultVar.tmp t => (pure (a.tmps.getD t undef) : Sem Value) | ResultVar.cell a' t => do loadVar t (← asAddr (a.tmps.getD a' undef)))).run P w = Result.ok vs w
section
variable {P : Program} {n : Nat} {w0 : World} {M : Nat → Prop} {T : Slots} {H Hr : List Asn} {dd : Option Tmp} {tt : TypeId} {pos : String} {af : Array Edge} {g : Option (Nat × Bool)}
theorem Rets.nil : Rets P n w0 M [] T H [] := ⟨fun a w _ _ => by simp⟩
theorem Rets.tmp {t : Nat} {v : Value} {rs : List ResultVar} {vs : List Value} (hv : tget T t = some v) (h : Rets P n w0 M rs T H vs) : Rets P n w0 M (.tmp t :: rs) T H (v :: vs) := ⟨fun a w ha hS => by
  have h1 := h.run a w ha hS
  have h2 : a.tmps.getD t undef = v := by have := ha.at_ t v hv; simp [this]
  simp only [List.mapM_cons, Sem.run_bind, Sem.run_pure, Result.andThen_ok, h1, h2]⟩
theorem Rets.cell [HasTab P] {t gb e : Nat} {s : TypeId} {i : Ti} {cs : List Value} {rs : List ResultVar} {vs : List Value} (hv : tget T t = some (.pointer (some ⟨gb, 0, none⟩))) (hs : ty P s = some i) (hi : aggB i.desc = true) (hm : Hat H gb e cs) (hl : cs.length = i.size) (h : Rets P n w0 M rs T H vs) :
    Rets P n w0 M (.cell t s :: rs) T H (.agg cs.toArray :: vs) := ⟨fun a w ha hS => by
  have h1 := h.run a w ha hS
  have h2 : a.tmps.getD t undef = .pointer (some ⟨gb, 0, none⟩) := by have := ha.at_ t _ hv; simp [this]
  have h3 := loadVar_cells (P := P) (a := ⟨gb, 0, none⟩) hs hi hl (w := w) (fun j v hj => by rw [add_plain, Nat.zero_add]; exact hS.cell hm.mem hj)
  simp only [List.mapM_cons, Sem.run_bind, Sem.run_pure, Result.andThen_ok, h1, (show (asAddr (a.tmps.getD t undef)).run P w = .ok ⟨gb, 0, none⟩ w by rw [h2]; rfl), h3]⟩
theorem Rets.ret {ro : Option Nat} {ds : List Deferred} {B : Bk ro ds} {k : List It} {c : Code} {rs : List ResultVar} {R : Ending → World → Prop} {vs : List Value} (hk : kind c = .ret) (hB : Ends P B n w0 M rs R) (hr : Rets P n w0 M rs T H vs) (h : ∀ w, St w0 M H w → R (.returned (retv vs)) w) : RS P B n w0 M (.code c :: k) T H := by
  have e : c = .ret := by cases c <;> first | rfl | (cases hk; done)
  subst e
  refine ⟨fun a w had ha hs => wpIn_ret (QS_ret (fun _ _ => .inr trivial) (hB a w _ had (fun fn hf => ?_) (h w hs)).1)⟩
  have h1 := hr.run a w ha hs
  simp only [results, hf, List.mapM_toArray, Sem.run_bind, Sem.run_map]
  erw [h1]
  rcases vs with _ | ⟨v, _ | ⟨u, us⟩⟩ <;> simp [retv]
/-- a function that reads and makes, opened, where a result lies in a variable -/
theorem gives_C {f : FuncId} {fn : Func} {vs : List Value} {rs : List ResultVar} {w : World} {As : List Asn} {X : Type} {V : X → Value} {I : X → Prop} {A : X → List Asn} (hf : P.funcs[f]? = some fn) (hb : fn.body.isSome = true) (hn : fn.ntmps = n) (hr : fn.results = rs.toArray)
    (hv : vs.length ≤ n) (hS : St w (owns As) As w) (h : ∀ B : Bk none [], (∀ (c : Code) (k : List It) (T : Slots) (H : List Asn) (us : List Value), kind c = .ret → Rets P n w (owns As) rs T H us → (∀ w', St w (owns As) H w' → ∃ x, retv us = V x ∧ I x ∧ St w (owns As) (A x) w') → RS P B n w (owns As) (.code c :: k) T H) → RS P B n w (owns As) [.code (cbody fn)] (targs 0 vs) As) :
    Gives P f vs As w V I A := by
  obtain ⟨c, hc⟩ := Option.isSome_iff_exists.1 hb
  refine calls_RS hf hc hn hr hv hS fun B hB => ?_
  have h2 := h B fun c k T H us hk hus hw' => Rets.ret hk hB hus fun w' hS' => by
    obtain ⟨x, hx, hI, hA⟩ := hw' w' hS'
    exact ⟨x, by rw [hx], hI, hA⟩
  have e : cbody fn = c := by unfold cbody; rw [hc]
  rwa [e] at h2

/-- two operations that do the same -/
theorem Ef.same {op op' : Op} {E : Value → List Asn → Prop} (h : Ef P n w0 M T H ⟨dd, op', tt, pos, af, g⟩ E) (he : ∀ a w, Tm n a T → (execOp a.eval ⟨dd, op, tt, pos, af, g⟩).run P w = (execOp a.eval ⟨dd, op', tt, pos, af, g⟩).run P w) : Ef P n w0 M T H ⟨dd, op, tt, pos, af, g⟩ E := .mkIn fun a w ha hS => by
  have h1 := h.run a w ha hS
  unfold wpo at h1 ⊢
  rw [he a w ha]
  exact h1
/-- copy onto a block -/
theorem E_copyb [HasTab P] {x y : Operand} {dT sT e : TypeId} {gb off dl dc sl sc t : Nat} {A : Option Addr} {cur cs : List Value} {i ei : Ti} {H' : List Asn} {K : List Value → List Asn} (hx : oget T x = some (.slice (some ⟨gb, off, none⟩) dl dc)) (hy : oget T y = some (.slice A sl sc)) (hs : ty P dT = some i) (hi : i.desc = .slice e) (he : ty P e = some ei) (hz : ei.size = 1)
    [hu : HUp H gb t cur K] (hsrc : Srd w0 M H 1 A cs.length cs) (hn : cs.length = min sl dl) (hfit : off + cs.length ≤ cur.length) (h1 : ∀ v ∈ cs, v.oneCell' = true) (hH : K (cur.take off ++ cs ++ cur.drop (off + cs.length)) = H') :
    Ef P n w0 M T H ⟨dd, .call ⟨.builtin .copy, #[x, y], #[dT, sT]⟩, tt, pos, af, g⟩ (fun v H'' => v = .int .i64 (cs.length : Nat) ∧ H'' = H') := .mk fun a w ha hS => by
  subst hH
  have hus : P.underlying dT = some (.slice e) := hi ▸ ty_ok hs
  have hsz : (P.info? e).map (·.size) = some 1 := by
    obtain ⟨j, hj, _, hj1, _⟩ := ty_info he
    rw [hj]
    simp [hj1, hz]
  have hg : Blk w gb t cur.toArray := hS.at_ (hu.upd cur).mem
  by_cases h0 : cs.length = 0
  · obtain rfl : cs = [] := List.eq_nil_of_length_eq_zero h0
    have hrun := run_copy_none (P := P) w dT sT tt e (some ⟨gb, off, none⟩) A dl dc sl sc hus hsz (by simpa using hn.symm)
    unfold Oper.wp
    simp only [execOp, resolve, invoke, builtin, Sem.run_bind, Sem.run_pure, Result.andThen_ok, List.map_toArray, List.map_cons, List.map_nil, ha.eval hx, ha.eval hy, hrun]
    refine ⟨_, _, ⟨rfl, rfl⟩, rfl, ?_⟩
    have e : cur.take off ++ ([] : List Value) ++ cur.drop (off + ([] : List Value).length) = cur := by simp
    rw [e]
    exact hS.turn (hu.upd cur) id fun _ h => h
  · obtain ⟨ad, rfl, _, hs2⟩ := (hsrc.rd w hS).2 (by omega)
    have hrun := run_copy_row (P := P) w dT sT tt e gb off dl dc ad sl sc cur.toArray t cs hus hsz hg hn hs2 (by simpa using hfit) h1
    unfold Oper.wp
    simp only [execOp, resolve, invoke, builtin, Sem.run_bind, Sem.run_pure, Result.andThen_ok, List.map_toArray, List.map_cons, List.map_nil, ha.eval hx, ha.eval hy, hrun]
    refine ⟨_, _, ⟨rfl, rfl⟩, rfl, hS.upd (hu.upd _) (Kp.setRow gb _) ?_ fun _ h => h⟩
    have := setRow_heap w gb _ (cur.take off ++ cs ++ cur.drop (off + cs.length)).toArray t _ hg
    show Blk _ _ _ _
    unfold Blk
    simpa using this
/-- a whole variable is overwritten -/
theorem E_storew [HasTab P] {x y : Operand} {s : TypeId} {gb t : Nat} {cs ds : List Value} {i : Ti} {K : List Value → List Asn} (hx : oget T x = some (.pointer (some ⟨gb, 0, none⟩))) (hy : oget T y = some (.agg ds.toArray)) (hs : ty P s = some i) (hl : ds.length = i.size) (h1 : ∀ u ∈ ds, u.oneCell' = true) [hu : HUp H gb t cs K] (hlen : cs.length = ds.length) :
    Ef P n w0 M T H ⟨none, .store s x y, tt, pos, af, g⟩ (fun _ H'' => H'' = K ds) :=
  E_store hx hy hs (by simp [vcells]) hl h1 (by rw [Nat.zero_add, ← hlen]; simp) (by omega)
/-- what is known of some parts alone -/
theorem St.again {As : List Asn} {w : World} (h : St w0 M (As ++ Hr) w) : St w (owns As) As w :=
  ⟨Kp.refl _ _, fun A hA => ⟨(h.all A (List.mem_append_left _ hA)).1, fun k hk => ⟨.inl ⟨A, hA, hk⟩, ((h.all A (List.mem_append_left _ hA)).2 k hk).2⟩⟩, (List.pairwise_append.1 h.apart).1⟩
end
end Go.Proofs.YtdbehejbeioboaaDoor
