/- The calculus: operations that may come up in many orders, walked once for each set of those that have come up. The calculus: rows whose elements hold bytes of their own. No program is named. The calculus: a field of a struct's value. No program is named. More laws of the calculus: two-part calls, sums that wrap, slices by two bounds, arrays. -/
import Derived.Test.YtdbehejbeioboaaDoorRkZ1
import Derived.Test.YtdbehejbeioboaaDoorRkE
namespace Go.Proofs.YtdbehejbeioboaaDoor
open Go.RowKit
open Asn (pt row rb)
set_option linter.unusedVariables false
set_option linter.unusedSimpArgs false
section
variable {P : Program} {ro : Option Nat} {ds : List Deferred} {B : Bk ro ds} {n : Nat} {w0 : World} {M : Nat → Prop} {k : List It} {l : List Oper}
theorem Tk.sub {T' T : Slots} {H : List Asn} {o : Oper} {v : Value} (hs : Sub T' T) (h : Tk P n w0 M T' H o v) : Tk P n w0 M T H o v := ⟨fun a w ha hw => h.run a w (ha.sub hs) hw⟩
theorem Ef.sub {T' T : Slots} {H' H : List Asn} {o : Oper} {E : Value → List Asn → Prop} (hs : Sub T' T) (hh : ∀ w, St w0 M H w → St w0 M H' w) (h : Ef P n w0 M T' H' o E) : Ef P n w0 M T H o E := .mkIn fun a w ha hw => h.run a w (ha.sub hs) (hh w hw)
end
end Go.Proofs.YtdbehejbeioboaaDoor

namespace Go.Proofs.YtdbehejbeioboaaDoor
open Go.RowKit
open Asn (pt row rb)
set_option linter.unusedVariables false
set_option linter.unusedSimpArgs false
/-- where an element's bytes lie, their room, and what they are -/
abbrev Dt := Option Addr × Nat × List UInt8
/-- the bytes of an element, owned -/
def dtA (e : TypeId) (d : Dt) : Asn := row e 1 d.1 d.2.2.length d.2.1 (d.2.2.map bv)
/-- the bytes of all elements, owned -/
def dtB (e : TypeId) (D : List Dt) : Asn := bun (D.map (dtA e))
/-- the bytes of all elements, read -/
def RDt (w : World) (F : Nat → Prop) (D : List Dt) : Prop := ∀ d ∈ D, Rd w F 1 d.1 d.2.2.length (d.2.2.map bv)
structure SDt (w0 : World) (M : Nat → Prop) (H : List Asn) (D : List Dt) : Prop where
  rd : ∀ w, St w0 M H w → RDt w All D
section
variable {w0 w : World} {M F : Nat → Prop} {H Hr : List Asn} {e : TypeId} {D : List Dt}
theorem SDt.old (h : RDt w0 F D) (hF : ∀ k, F k → ¬ M k) : SDt w0 M H D := ⟨fun w hS d hd => (Srd.old (h d hd) hF).rd w hS⟩
theorem SDt.own (hm : dtB e D ∈ H) : SDt w0 M H D := ⟨fun w hS d hd => by
  have h1 := (hS.all _ hm).1.1 (dtA e d) (List.mem_map.2 ⟨d, hd, rfl⟩)
  exact (Rd.of_own h1).more fun _ _ => trivial⟩
theorem SDt.sub {D' : List Dt} (h : SDt w0 M H D) (hs : ∀ d ∈ D', d ∈ D) : SDt w0 M H D' := ⟨fun w hS d hd => h.rd w hS d (hs d hd)⟩
theorem SDt.at_ (h : SDt w0 M H D) {d : Dt} (hd : d ∈ D) : Srd w0 M H 1 d.1 d.2.2.length (d.2.2.map bv) := ⟨fun w hS => h.rd w hS d hd⟩
theorem dtB_nil (h : St w0 M H w) : St w0 M (dtB e [] :: H) w := bun_in (L := []) h
theorem dtB_perm {D' : List Dt} (hp : D.Perm D') (h : St w0 M (dtB e D :: H) w) : St w0 M (dtB e D' :: H) w :=
  bun_in ((bun_out h).perm ((hp.map _).append_right _))
theorem dtB_put {d : Dt} (h : St w0 M (dtA e d :: dtB e D :: H) w) : St w0 M (dtB e (D ++ [d]) :: H) w := by
  have h1 : St w0 M (dtB e D :: dtA e d :: H) w := h.perm (List.Perm.swap _ _ _)
  have h2 := bun_out h1
  refine dtB_perm (D := d :: D) (List.perm_append_comm (l₁ := [d])) (bun_in (L := (d :: D).map (dtA e)) ?_)
  exact h2.perm List.perm_middle
end
section
variable {P : Program} {ro : Option Nat} {ds : List Deferred} {B : Bk ro ds} {n : Nat} {w0 : World} {M : Nat → Prop} {k : List It} {T : Slots} {H Hr : List Asn}
end
section
variable {P : Program} {n : Nat} {w0 : World} {M : Nat → Prop} {T : Slots} {H Hr : List Asn} {dd : Option Tmp} {tt : TypeId} {pos : String} {af : Array Edge} {g : Option (Nat × Bool)} {x y z z4 : Operand} {ts : Array TypeId}
theorem T_build2 {s : TypeId} {j k : Nat} {u v : Value} {cs : List Value} (hx : oget T x = some u) (hy : oget T y = some v) (hb : P.built s [(j, u), (k, v)] = some cs.toArray) :
    Tk P n w0 M T H ⟨dd, .build s #[(j, x), (k, y)], tt, pos, af, g⟩ (.agg cs.toArray) := .mk fun a w ha hS => by
  have hr := run_build (P := P) w s #[(j, u), (k, v)] cs.toArray (by simpa using hb)
  simp only [execOp, List.map_toArray, List.map_cons, List.map_nil, ha.eval hx, ha.eval hy, Sem.run_bind, hr, Result.andThen_ok, Sem.run_pure]
theorem T_build3 {s : TypeId} {j k l : Nat} {u v v3 : Value} {cs : List Value} (hx : oget T x = some u) (hy : oget T y = some v) (hz : oget T z = some v3) (hb : P.built s [(j, u), (k, v), (l, v3)] = some cs.toArray) :
    Tk P n w0 M T H ⟨dd, .build s #[(j, x), (k, y), (l, z)], tt, pos, af, g⟩ (.agg cs.toArray) := .mk fun a w ha hS => by
  have hr := run_build (P := P) w s #[(j, u), (k, v), (l, v3)] cs.toArray (by simpa using hb)
  simp only [execOp, List.map_toArray, List.map_cons, List.map_nil, ha.eval hx, ha.eval hy, ha.eval hz, Sem.run_bind, hr, Result.andThen_ok, Sem.run_pure]
theorem T_build4 {s : TypeId} {j k l m : Nat} {u v v3 v4 : Value} {cs : List Value} (hx : oget T x = some u) (hy : oget T y = some v) (hz : oget T z = some v3) (h4 : oget T z4 = some v4) (hb : P.built s [(j, u), (k, v), (l, v3), (m, v4)] = some cs.toArray) :
    Tk P n w0 M T H ⟨dd, .build s #[(j, x), (k, y), (l, z), (m, z4)], tt, pos, af, g⟩ (.agg cs.toArray) := .mk fun a w ha hS => by
  have hr := run_build (P := P) w s #[(j, u), (k, v), (l, v3), (m, v4)] cs.toArray (by simpa using hb)
  simp only [execOp, List.map_toArray, List.map_cons, List.map_nil, ha.eval hx, ha.eval hy, ha.eval hz, ha.eval h4, Sem.run_bind, hr, Result.andThen_ok, Sem.run_pure]
end
/-- append, elements of any size -/
theorem E_appS {P : Program} {n : Nat} {w0 : World} {M : Nat → Prop} {T : Slots} {H Hr : List Asn} {dd : Option Tmp} {tt : TypeId} {pos : String} {af : Array Edge} {g : Option (Nat × Bool)} [HasTab P] {sz : Nat} {x y : Operand} {s e : TypeId} {A A2 : Option Addr} {m c m2 c2 : Nat} {xs news : List Value} {i ei : Ti} (hx : oget T x = some (.slice A m c)) (hy : oget T y = some (.slice A2 m2 c2)) (hs : ty P s = some i) (hi : i.desc = .slice e) (he : ty P e = some ei) (hsz : ei.size = sz) (hz : ei.zero.cells.size = sz) (hz0 : 0 < sz)
    [hr : HRow H A m c e sz xs Hr] (hsrc : Srd w0 M H sz A2 m2 news) (h1 : ∀ u ∈ news, u.oneCell' = true) (hb : (m + m2) * ei.bytes ≤ 140737488355328) (hm : m + m2 ≤ maxLen) :
    Ef P n w0 M T H ⟨dd, .call ⟨.builtin .append, #[x, y], #[s, s]⟩, tt, pos, af, g⟩ (fun v H' => ∃ A' c', v = .slice A' (m + m2) c' ∧ H' = row e sz A' (m + m2) c' (xs ++ news) :: Hr) := by
  subst hsz
  exact E_app hx hy hs hi he hz hz0 hsrc h1 hb hm
def zi (z : Int) : Value := .int .i64 z
end Go.Proofs.YtdbehejbeioboaaDoor

namespace Go.Proofs.YtdbehejbeioboaaDoor
open Go.RowKit
open Asn (pt row rb)
set_option linter.unusedVariables false
set_option linter.unusedSimpArgs false
/-- a plain field of a struct's value -/
theorem field_run {P : Program} [HasTab P] {s ft : TypeId} {j o : Nat} {i fi : Ti} {xs : List Value} {v : Value} (hs : ty P s = some i) (hf : nth i.fs j = some (o, ft)) (hft : ty P ft = some fi) (ha : aggB fi.desc = false) (hv : xs[o]? = some v) (w : World) : (Instr.field s (.agg xs.toArray) j).run P w = .ok v w := by
  have hf := fieldOf_fs hs hf
  have hu := run_underlying (ty_ok hs) w
  cases hd : i.desc with
  | struct fs =>
    rw [hd] at hf hu
    obtain ⟨f, hf1, hf2⟩ := Option.map_eq_some_iff.1 hf
    simp only [Prod.mk.injEq] at hf2
    obtain ⟨rfl, rfl⟩ := hf2
    have hp := part_plain (P := P) (e := f.type) (ty_ok hft) ha (xs := xs.toArray) (off := f.offset) (v := v) (by simpa using hv) w
    simp [Instr.field, hu, hf1, asAgg, hp]
  | _ => rw [hd] at hf; cases hf
theorem T_fldv {P : Program} [HasTab P] {n : Nat} {w0 : World} {M : Nat → Prop} {T : Slots} {H : List Asn} {dd : Option Tmp} {tt : TypeId} {pos : String} {af : Array Edge} {g : Option (Nat × Bool)} {x : Operand} {s ft : TypeId} {j o : Nat} {i fi : Ti} {xs : List Value} {v : Value} (hx : oget T x = some (.agg xs.toArray)) (hs : ty P s = some i) (hf : nth i.fs j = some (o, ft)) (hft : ty P ft = some fi) (ha : aggB fi.desc = false) (hv : xs[o]? = some v) :
    Tk P n w0 M T H ⟨dd, .field s x j, tt, pos, af, g⟩ v := .mk fun a w hT hS => by
  simp only [execOp, hT.eval hx, Sem.run_bind, field_run hs hf hft ha hv w, Result.andThen_ok, Sem.run_pure]
end Go.Proofs.YtdbehejbeioboaaDoor

namespace Go.Proofs.YtdbehejbeioboaaDoor
open Go.RowKit
open Asn (pt row rb)
set_option linter.unusedVariables false
set_option linter.unusedSimpArgs false

theorem Gives.pure12 {P : Program} {f : FuncId} {vs : List Value} {w : World} {v : Value} {I : Unit → Prop} {A : Unit → List Asn} (h : Gives P f vs [] w (fun _ => v) I A) : Calls P f vs.toArray w fun e w' => e = .returned v ∧ Kp All w w' :=
  h.mono fun e w' ⟨_, he, _, hS⟩ => ⟨he, hS.kpO⟩
theorem E_hvG {P : Program} {n : Nat} {w0 : World} {M : Nat → Prop} {T : Slots} {H : List Asn} {dd : Option Tmp} {tt : TypeId} {pos : String} {af : Array Edge} {g : Option (Nat × Bool)} {ts : Array TypeId} {f : FuncId} {xs : Array Operand} {vs vs' : List Value} {X : Type} {V : X → Value} {I : X → Prop} {A : X → List Asn} (hf : Fn_ P f) (hc : ∀ w, St w0 M H w → Gives P f vs' [] w V I A) (hx : ogets T xs.toList = some vs) (hv : vs = vs') :
    Ef P n w0 M T H ⟨dd, .call ⟨.value (.func f), xs, ts⟩, tt, pos, af, g⟩ (fun u H' => ∃ x, u = V x ∧ I x ∧ H' = A x ++ H) := by
  subst hv
  exact E_gv hf hx hc
theorem T_bnq {P : Program} [HasTab P] {n : Nat} {w0 : World} {M : Nat → Prop} {T : Slots} {H : List Asn} {dd : Option Tmp} {tt : TypeId} {pos : String} {af : Array Edge} {g : Option (Nat × Bool)} {x y : Operand} {t u : TypeId} {b c r : Bool} {i : Ti} (hx : oget T x = some (.bool b)) (hy : oget T y = some (.bool c)) (ht : ty P t = some i) (hi : i.desc = .bool) (hr : (b != c) = r) :
    Tk P n w0 M T H ⟨dd, .binOp .neq t x y u, tt, pos, af, g⟩ (.bool r) := hr ▸ T_bne hx hy ht hi
theorem T_subE {P : Program} {n : Nat} {w0 : World} {M : Nat → Prop} {T : Slots} {H : List Asn} {dd : Option Tmp} {tt : TypeId} {pos : String} {af : Array Edge} {g : Option (Nat × Bool)} {x y : Operand} {t u : TypeId} {kk : IntKind} {i j : Int} {p q r : Nat} (h : p - q = r) (hx : oget T x = some (.int kk i)) (hy : oget T y = some (.int kk j)) [hi : NatOf i p] [hj : NatOf j q] (hq : q ≤ p) (hf : fits kk ((p - q : Nat) : Int)) : Tk P n w0 M T H ⟨dd, .binOp .sub t x y u, tt, pos, af, g⟩ (.int kk (r : Int)) := by
  have := T_subN (P := P) (n := n) (w0 := w0) (M := M) (H := H) (dd := dd) (tt := tt) (pos := pos) (af := af) (g := g) (t := t) (u := u) hx hy hq hf
  rwa [h] at this
theorem bv_ones (l : List UInt8) : ∀ v ∈ l.map bv, v.oneCell' = true := fun v hv => by
  obtain ⟨x, _, rfl⟩ := List.mem_map.1 hv
  rfl
theorem dtB_bs {w0 w : World} {M : Nat → Prop} {H : List Asn} {e : TypeId} {D : List Dt} (hS : St w0 M H w) (hm : dtB e D ∈ H) : ∀ d ∈ D, Bs w All d.1 d.2.2.length d.2.1 d.2.2 := fun d hd => by
  have h1 := (hS.all _ hm).1.1 (dtA e d) (List.mem_map.2 ⟨d, hd, rfl⟩)
  have hf := row_facts h1
  exact ⟨rfl, hf.1, hf.2.1, (Rd.of_own h1).more fun _ _ => trivial⟩
theorem T_slbE {P : Program} {n : Nat} {w0 : World} {M : Nat → Prop} {T : Slots} {H : List Asn} {dd : Option Tmp} {tt : TypeId} {pos : String} {af : Array Edge} {g : Option (Nat × Bool)} [HasTab P] {sz : Nat} {x y z : Operand} {s e : TypeId} {A : Option Addr} {m c q r u : Nat} {z1 z2 : Int} {kk kj : IntKind} {i ei : Ti} (hu : r - q = u) (hx : oget T x = some (.slice A m c)) (hy : oget T y = some (.int kk z1)) (hz : oget T z = some (.int kj z2)) [h1 : NatOf z1 q] [h2 : NatOf z2 r] (hs : ty P s = some i) (hi : i.desc = .slice e) (he : ty P e = some ei) (hsz : ei.size = sz) (hq : q ≤ r) (hc : r ≤ c) :
    Tk P n w0 M T H ⟨dd, .slice s x (some y) (some z) none, tt, pos, af, g⟩ (.slice (cutP A c q sz) u (c - q)) := by
  subst hsz
  subst hu
  rw [h1.is] at hy
  rw [h2.is] at hz
  exact T_slb hx hy hz hs hi he hq hc
theorem row_bs {w0 w : World} {M : Nat → Prop} {H : List Asn} {e : TypeId} {A : Option Addr} {n c : Nat} {l : List UInt8} (hS : St w0 M H w) (hm : row e 1 A n c (l.map bv) ∈ H) (hl : l.length = n) : Bs w All A n c l := by
  have h1 := hS.at_ hm
  have hf := row_facts h1
  exact ⟨hl.symm, hf.1, hf.2.1, (Rd.of_own h1).more fun _ _ => trivial⟩
section
variable {P : Program} {n : Nat} {w0 : World} {M : Nat → Prop} {T : Slots} {H : List Asn} {dd : Option Tmp} {tt : TypeId} {pos : String} {af : Array Edge} {g : Option (Nat × Bool)}
theorem T_cvE [HasTab P] {x : Operand} {s t : TypeId} {kk kd : IntKind} {z : Int} {r : Nat} {i j : Ti} (h : kd.wrap z = (r : Int)) (hx : oget T x = some (.int kk z)) (hs : ty P s = some i) (ht : ty P t = some j) (hj : j.desc = .int kd) :
    Tk P n w0 M T H ⟨dd, .convert s t x, tt, pos, af, g⟩ (.int kd (r : Int)) := by
  have := T_conv (n := n) (w0 := w0) (M := M) (H := H) (dd := dd) (tt := tt) (pos := pos) (af := af) (g := g) hx hs ht hj
  rwa [h] at this
theorem E_storeA [HasTab P] {x y : Operand} {s : TypeId} {gb off t : Nat} {cs cs' ds : List Value} {i : Ti} {K : List Value → List Asn} (hx : oget T x = some (.pointer (some ⟨gb, off, none⟩))) (hy : oget T y = some (.agg ds.toArray)) (hs : ty P s = some i) (hl : ds.length = i.size) (h1 : ∀ u ∈ ds, u.oneCell' = true) [hu : HUp H gb t cs K] (hc : cs.take off ++ ds ++ cs.drop (off + ds.length) = cs') (hfit : off + ds.length ≤ cs.length) :
    Ef P n w0 M T H ⟨none, .store s x y, tt, pos, af, g⟩ (fun _ H'' => H'' = K cs') := by
  subst hc
  exact E_store hx hy hs (by simp [vcells]) hl h1 rfl hfit
theorem E_storeA1 [HasTab P] {x y : Operand} {s : TypeId} {gb off t : Nat} {cs cs' : List Value} {v : Value} {i : Ti} {K : List Value → List Asn} (hx : oget T x = some (.pointer (some ⟨gb, off, none⟩))) (hy : oget T y = some v) (hs : ty P s = some i) (h1 : v.oneCell' = true) (hl : i.size = 1) [hu : HUp H gb t cs K] (hc : cs.set off v = cs') (hfit : off < cs.length) :
    Ef P n w0 M T H ⟨none, .store s x y, tt, pos, af, g⟩ (fun _ H'' => H'' = K cs') := by
  subst hc
  exact E_store1 hx hy hs h1 hl rfl hfit
end
theorem ogets_cap (T : Slots) (x : Operand) (v : Value) (hx : oget T x = some v) : ∀ cap : List Value, ogets T (#[x] ++ (cap.map Operand.const).toArray).toList = some (v :: cap) := fun cap => by
  have h : ogets T (cap.map Operand.const) = some cap := by
    induction cap with
    | nil => rfl
    | cons u l ih => simp [ogets, ih, oget]
  simp [ogets, hx, h]
end Go.Proofs.YtdbehejbeioboaaDoor
