/- More laws of the calculus: two-part calls, sums that wrap, slices by two bounds, arrays. -/
import Derived.Test.YtclmaoagdkhboaaRkK
import Derived.Test.YtclmaoagdkhboaaRkF
namespace Go.Proofs.Ytclmaoagdkhboaa
open Go.RowKit
open Asn (pt row rb)
set_option linter.unusedVariables false
set_option linter.unusedSimpArgs false

theorem Ef.rowsG {P : Program} {n : Nat} {w0 : World} {M : Nat → Prop} {T : Slots} {H : List Asn} {o : Oper} {X : Type} {V : X → Value} {I : X → Prop} {A : X → List Asn} {e : TypeId} {sz : Nat} {a : X → Option Addr} {m c : X → Nat} {xs : X → List Value} (h : Ef P n w0 M T H o (fun u H' => ∃ x, u = V x ∧ I x ∧ H' = A x ++ H)) (hA : ∀ x, ∃ R, A x = row e sz (a x) (m x) (c x) (xs x) :: R) :
    Ef P n w0 M T H o (fun u H' => ∃ x, u = V x ∧ (I x ∧ (0 < m x → a x ≠ none) ∧ m x ≤ c x) ∧ H' = A x ++ H) := h.mono (by
  rintro v H' ⟨x, rfl, hI, rfl⟩ w hS
  obtain ⟨R, hR⟩ := hA x
  have hf := row_facts (hS.at_ (A := row e sz (a x) (m x) (c x) (xs x)) (by rw [hR]; simp))
  exact ⟨_, _, rfl, ⟨x, rfl, ⟨hI, hf.2.2.1, hf.1⟩, rfl⟩, hS⟩)
theorem Gives.pure12 {P : Program} {f : FuncId} {vs : List Value} {w : World} {v : Value} {I : Unit → Prop} {A : Unit → List Asn} (h : Gives P f vs [] w (fun _ => v) I A) : Calls P f vs.toArray w fun e w' => e = .returned v ∧ Kp All w w' :=
  h.mono fun e w' ⟨_, he, _, hS⟩ => ⟨he, hS.kpO⟩
theorem E_hvG {P : Program} {n : Nat} {w0 : World} {M : Nat → Prop} {T : Slots} {H : List Asn} {dd : Option Tmp} {tt : TypeId} {pos : String} {af : Array Edge} {g : Option (Nat × Bool)} {ts : Array TypeId} {f : FuncId} {xs : Array Operand} {vs vs' : List Value} {X : Type} {V : X → Value} {I : X → Prop} {A : X → List Asn} (hf : Fn_ P f) (hc : ∀ w, St w0 M H w → Gives P f vs' [] w V I A) (hx : ogets T xs.toList = some vs) (hv : vs = vs') :
    Ef P n w0 M T H ⟨dd, .call ⟨.value (.func f), xs, ts⟩, tt, pos, af, g⟩ (fun u H' => ∃ x, u = V x ∧ I x ∧ H' = A x ++ H) := by
  subst hv
  exact E_gv hf hx hc
theorem T_bnq {P : Program} [HasTab P] {n : Nat} {w0 : World} {M : Nat → Prop} {T : Slots} {H : List Asn} {dd : Option Tmp} {tt : TypeId} {pos : String} {af : Array Edge} {g : Option (Nat × Bool)} {x y : Operand} {t u : TypeId} {b c r : Bool} {i : Ti} (hx : oget T x = some (.bool b)) (hy : oget T y = some (.bool c)) (ht : ty P t = some i) (hi : i.desc = .bool) (hr : (b != c) = r) :
    Tk P n w0 M T H ⟨dd, .binOp .neq t x y u, tt, pos, af, g⟩ (.bool r) := hr ▸ T_bne hx hy ht hi
theorem E_dr2 {P : Program} {n : Nat} {w0 : World} {M : Nat → Prop} {T : Slots} {H H1 Hr : List Asn} {dd : Option Tmp} {tt : TypeId} {pos : String} {af : Array Edge} {g : Option (Nat × Bool)} {ts : Array TypeId} {f : FuncId} {xs : Array Operand} {vs vs' : List Value} {X : Type} {V : X → Value} {I : X → Prop} {A1 A2 : Asn} [h1 : RemC H A1 H1] [h2 : RemC H1 A2 Hr] (hf : Fn_ P f) (hc : ∀ w, St w0 M (A1 :: A2 :: Hr) w → St w (owns [A1, A2]) [A1, A2] w → Gives P f vs' [A1, A2] w V I (fun _ => [])) (hx : ogets T xs.toList = some vs) (hv : vs = vs') :
    Ef P n w0 M T H ⟨dd, .call ⟨.value (.func f), xs, ts⟩, tt, pos, af, g⟩ (fun u H' => ∃ x, u = V x ∧ I x ∧ H' = Hr) := by
  subst hv
  refine (E_call [A1, A2] Hr V I (fun _ => []) hx hf (fun w hS => hS.perm (h1.perm.trans (List.Perm.cons _ h2.perm))) fun w hS => hc w hS (St.again (As := [A1, A2]) hS)).mono ?_
  rintro v H' ⟨x, hI, rfl, rfl⟩ w hS
  exact ⟨_, _, rfl, ⟨x, rfl, hI, rfl⟩, hS⟩
theorem int_at {us : List Int} {j : Nat} (h : j < us.length) : (us.map (Value.int .u8))[j]? = some (.int .u8 (us.getD j 0)) := by simp [List.getD, h]
theorem T_subE {P : Program} {n : Nat} {w0 : World} {M : Nat → Prop} {T : Slots} {H : List Asn} {dd : Option Tmp} {tt : TypeId} {pos : String} {af : Array Edge} {g : Option (Nat × Bool)} {x y : Operand} {t u : TypeId} {kk : IntKind} {i j : Int} {p q r : Nat} (h : p - q = r) (hx : oget T x = some (.int kk i)) (hy : oget T y = some (.int kk j)) [hi : NatOf i p] [hj : NatOf j q] (hq : q ≤ p) (hf : fits kk ((p - q : Nat) : Int)) : Tk P n w0 M T H ⟨dd, .binOp .sub t x y u, tt, pos, af, g⟩ (.int kk (r : Int)) := by
  have := T_subN (P := P) (n := n) (w0 := w0) (M := M) (H := H) (dd := dd) (tt := tt) (pos := pos) (af := af) (g := g) (t := t) (u := u) hx hy hq hf
  rwa [h] at this
theorem T_minN {P : Program} {n : Nat} {w0 : World} {M : Nat → Prop} {T : Slots} {H : List Asn} {dd : Option Tmp} {tt : TypeId} {pos : String} {af : Array Edge} {g : Option (Nat × Bool)} {x y : Operand} {s t : TypeId} {kk : IntKind} {i j : Int} {p q : Nat} (hx : oget T x = some (.int kk i)) (hy : oget T y = some (.int kk j)) [hi : NatOf i p] [hj : NatOf j q] : Tk P n w0 M T H ⟨dd, .call ⟨.builtin .min, #[x, y], #[s, t]⟩, tt, pos, af, g⟩ (.int kk ((min p q : Nat) : Int)) := by
  have h := T_min (P := P) (n := n) (w0 := w0) (M := M) (H := H) (dd := dd) (tt := tt) (pos := pos) (af := af) (g := g) (s := s) (t := t) hx hy
  rw [hi.is, hj.is] at h
  rwa [show (if (q : Int) < (p : Int) then (q : Int) else (p : Int)) = ((min p q : Nat) : Int) by rw [Nat.min_def]; split <;> split <;> omega] at h
theorem T_minE {P : Program} {n : Nat} {w0 : World} {M : Nat → Prop} {T : Slots} {H : List Asn} {dd : Option Tmp} {tt : TypeId} {pos : String} {af : Array Edge} {g : Option (Nat × Bool)} {x y : Operand} {s t : TypeId} {kk : IntKind} {i j : Int} {p q r : Nat} (h : min p q = r) (hx : oget T x = some (.int kk i)) (hy : oget T y = some (.int kk j)) [hi : NatOf i p] [hj : NatOf j q] : Tk P n w0 M T H ⟨dd, .call ⟨.builtin .min, #[x, y], #[s, t]⟩, tt, pos, af, g⟩ (.int kk (r : Int)) := by
  have := T_minN (P := P) (n := n) (w0 := w0) (M := M) (H := H) (dd := dd) (tt := tt) (pos := pos) (af := af) (g := g) (s := s) (t := t) hx hy
  rwa [h] at this
theorem rd_take {w : World} {F : Nat → Prop} {sz n q : Nat} {A : Option Addr} {xs : List Value} (h : Rd w F sz A n xs) (hq : q ≤ n) : Rd w F sz A q (xs.take (q * sz)) := by
  have hle : q * sz ≤ n * sz := Nat.mul_le_mul_right _ hq
  refine ⟨by rw [List.length_take, h.1]; omega, fun h0 => ?_⟩
  obtain ⟨ad, e, hF, hcell⟩ := h.2 (by omega)
  refine ⟨ad, e, hF, fun j u hj => hcell j u ?_⟩
  rw [List.getElem?_take] at hj
  split at hj
  · exact hj
  · cases hj
theorem rd_cut {w : World} {F : Nat → Prop} {sz n c q : Nat} {A : Option Addr} {xs : List Value} (h : Rd w F sz A n xs) (hq : q ≤ n) (hc : n ≤ c) : Rd w F sz (cutP A c q sz) (n - q) (xs.drop (q * sz)) := by
  refine ⟨by rw [List.length_drop, h.1, Nat.sub_mul], fun h0 => ?_⟩
  obtain ⟨ad, rfl, hF, hcell⟩ := h.2 (by omega)
  refine ⟨ad.add (q * sz), by unfold cutP; rw [if_neg (by omega)]; rfl, by rw [block_of_add]; exact hF, fun j u hj => ?_⟩
  rw [List.getElem?_drop] at hj
  rw [add_of_add]
  exact hcell _ u hj
theorem bv_ones (l : List UInt8) : ∀ v ∈ l.map bv, v.oneCell' = true := fun v hv => by
  obtain ⟨x, _, rfl⟩ := List.mem_map.1 hv
  rfl
theorem dtB_caps {w0 w : World} {M : Nat → Prop} {H : List Asn} {e : TypeId} {D : List Dt} (hS : St w0 M H w) (hm : dtB e D ∈ H) : ∀ d ∈ D, d.2.2.length ≤ d.2.1 := fun d hd =>
  (row_facts ((hS.all _ hm).1.1 (dtA e d) (List.mem_map.2 ⟨d, hd, rfl⟩))).1
theorem dtB_bs {w0 w : World} {M : Nat → Prop} {H : List Asn} {e : TypeId} {D : List Dt} (hS : St w0 M H w) (hm : dtB e D ∈ H) : ∀ d ∈ D, Bs w All d.1 d.2.2.length d.2.1 d.2.2 := fun d hd => by
  have h1 := (hS.all _ hm).1.1 (dtA e d) (List.mem_map.2 ⟨d, hd, rfl⟩)
  have hf := row_facts h1
  exact ⟨rfl, hf.1, hf.2.1, (Rd.of_own h1).more fun _ _ => trivial⟩
theorem T_addM {P : Program} {n : Nat} {w0 : World} {M : Nat → Prop} {T : Slots} {H : List Asn} {dd : Option Tmp} {tt : TypeId} {pos : String} {af : Array Edge} {g : Option (Nat × Bool)} {x y : Operand} {t u : TypeId} {i j : Int} {p q : Nat} (hx : oget T x = some (.int .u64 i)) (hy : oget T y = some (.int .u64 j)) [hi : NatOf i p] [hj : NatOf j q] :
    Tk P n w0 M T H ⟨dd, .binOp .add t x y u, tt, pos, af, g⟩ (.int .u64 (((p + q) % 18446744073709551616 : Nat) : Int)) := by
  rw [hi.is] at hx
  rw [hj.is] at hy
  refine T_arith (op := .add) hx hy ?_
  simp only [arith, IntKind.wrap_u64]
  congr 1
theorem T_slbE {P : Program} {n : Nat} {w0 : World} {M : Nat → Prop} {T : Slots} {H : List Asn} {dd : Option Tmp} {tt : TypeId} {pos : String} {af : Array Edge} {g : Option (Nat × Bool)} [HasTab P] {sz : Nat} {x y z : Operand} {s e : TypeId} {A : Option Addr} {m c q r u : Nat} {z1 z2 : Int} {kk kj : IntKind} {i ei : Ti} (hu : r - q = u) (hx : oget T x = some (.slice A m c)) (hy : oget T y = some (.int kk z1)) (hz : oget T z = some (.int kj z2)) [h1 : NatOf z1 q] [h2 : NatOf z2 r] (hs : ty P s = some i) (hi : i.desc = .slice e) (he : ty P e = some ei) (hsz : ei.size = sz) (hq : q ≤ r) (hc : r ≤ c) :
    Tk P n w0 M T H ⟨dd, .slice s x (some y) (some z) none, tt, pos, af, g⟩ (.slice (cutP A c q sz) u (c - q)) := by
  subst hsz
  subst hu
  rw [h1.is] at hy
  rw [h2.is] at hz
  exact T_slb hx hy hz hs hi he hq hc
theorem bxx (b : Bool) : (b != b) = false := by cases b <;> rfl
theorem row_bs {w0 w : World} {M : Nat → Prop} {H : List Asn} {e : TypeId} {A : Option Addr} {n c : Nat} {l : List UInt8} (hS : St w0 M H w) (hm : row e 1 A n c (l.map bv) ∈ H) (hl : l.length = n) : Bs w All A n c l := by
  have h1 := hS.at_ hm
  have hf := row_facts h1
  exact ⟨hl.symm, hf.1, hf.2.1, (Rd.of_own h1).more fun _ _ => trivial⟩
theorem bv_zs (l : List UInt8) : ∃ zs : List Int, l.map bv = zs.map (Value.int .u8) ∧ zs.length = l.length := ⟨l.map fun x => (x.toNat : Int), by rw [List.map_map]; rfl, by simp⟩
section
variable {P : Program} {n : Nat} {w0 : World} {M : Nat → Prop} {T : Slots} {H : List Asn} {dd : Option Tmp} {tt : TypeId} {pos : String} {af : Array Edge} {g : Option (Nat × Bool)}
theorem T_ixaM [HasTab P] {x y : Operand} {s e : TypeId} {gb off m q sz : Nat} {z : Int} {kk : IntKind} {i ei : Ti} (hx : oget T x = some (.pointer (some ⟨gb, off, none⟩))) (hy : oget T y = some (.int kk z)) [hz : NatOf z q] (hs : ty P s = some i) (hi : i.desc = .array m e) (he : ty P e = some ei) (h1 : ei.size = sz) (hq : q < m) :
    Tk P n w0 M T H ⟨dd, .indexAddr s x y, tt, pos, af, g⟩ (.pointer (some ⟨gb, off + q * sz, none⟩)) := by
  subst h1
  rw [hz.is] at hy
  exact T_ixa hx hy hs hi he hq
theorem T_modE {x y : Operand} {t u : TypeId} {kk : IntKind} {i j : Int} {p q r : Nat} (h : p % q = r) (hx : oget T x = some (.int kk i)) (hy : oget T y = some (.int kk j)) [hi : NatOf i p] [hj : NatOf j q] (hq : 0 < q) :
    Tk P n w0 M T H ⟨dd, .binOp .rem t x y u, tt, pos, af, g⟩ (.int kk (r : Int)) := by
  subst h
  exact T_modN hx hy hq
theorem T_cvE [HasTab P] {x : Operand} {s t : TypeId} {kk kd : IntKind} {z : Int} {r : Nat} {i j : Ti} (h : kd.wrap z = (r : Int)) (hx : oget T x = some (.int kk z)) (hs : ty P s = some i) (ht : ty P t = some j) (hj : j.desc = .int kd) :
    Tk P n w0 M T H ⟨dd, .convert s t x, tt, pos, af, g⟩ (.int kd (r : Int)) := by
  have := T_conv (n := n) (w0 := w0) (M := M) (H := H) (dd := dd) (tt := tt) (pos := pos) (af := af) (g := g) hx hs ht hj
  rwa [h] at this
theorem E_storeA [HasTab P] {x y : Operand} {s : TypeId} {gb off t : Nat} {cs cs' ds : List Value} {i : Ti} {K : List Value → List Asn} (hx : oget T x = some (.pointer (some ⟨gb, off, none⟩))) (hy : oget T y = some (.agg ds.toArray)) (hs : ty P s = some i) (hl : ds.length = i.size) (h1 : ∀ u ∈ ds, u.oneCell' = true) [hu : HUp H gb t cs K] (hc : cs.take off ++ ds ++ cs.drop (off + ds.length) = cs') (hfit : off + ds.length ≤ cs.length) :
    Ef P n w0 M T H ⟨none, .store s x y, tt, pos, af, g⟩ (fun _ H'' => H'' = K cs') := by
  subst hc
  exact E_store hx hy hs (by simp [vcells]) hl h1 rfl hfit
theorem E_storeA1 [HasTab P] {x y : Operand} {s : TypeId} {gb off t : Nat} {cs cs' : List Value} {v : Value} {i : Ti} {K : List Value → List Asn} (hx : oget T x = some (.pointer (some ⟨gb, off, none⟩))) (hy : oget T y = some v) (hs : ty P s = some i) (h1 : v.oneCell' = true) (hl : i.size = 1) [hu : HUp H gb t cs K] (hc : cs.set off v = cs') (hfit : off < cs.length) :
    Ef P n w0 M T H ⟨none, .store s x y, tt, pos, af, g⟩ (fun _ H'' => H'' = K cs') := by
  subst hc
  exact E_store1 hx hy hs h1 hl rfl hfit
end
theorem wrapNat (z : Int) : ∃ r : Nat, IntKind.u64.wrap z = (r : Int) := ⟨(IntKind.u64.wrap z).toNat, by rw [IntKind.wrap_u64]; omega⟩
theorem ogets_cap (T : Slots) (x : Operand) (v : Value) (hx : oget T x = some v) : ∀ cap : List Value, ogets T (#[x] ++ (cap.map Operand.const).toArray).toList = some (v :: cap) := fun cap => by
  have h : ogets T (cap.map Operand.const) = some cap := by
    induction cap with
    | nil => rfl
    | cons u l ih => simp [ogets, ih, oget]
  simp [ogets, hx, h]
end Go.Proofs.Ytclmaoagdkhboaa
