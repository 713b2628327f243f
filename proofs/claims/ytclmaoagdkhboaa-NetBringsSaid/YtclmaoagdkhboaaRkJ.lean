/- The calculus: rows whose elements hold bytes of their own. No program is named. -/
import Derived.Test.YtclmaoagdkhboaaRkI
import Derived.Test.YtclmaoagdkhboaaRkE
import Derived.Test.YtclmaoagdkhboaaRkF
namespace Go.Proofs.Ytclmaoagdkhboaa
open Go.RowKit
open Asn (pt row rb)
set_option linter.unusedVariables false
set_option linter.unusedSimpArgs false
/-- where an element's bytes lie, their room, and what they are -/
abbrev Dt := Option Addr × Nat × List UInt8
/-- the bytes of an element, owned -/
def dtA (e : TypeId) (d : Dt) : Asn := row e 1 d.1 d.2.2.length d.2.1 (d.2.2.map bv)
/-- the bytes of all elements, owned -/
def dtB (e : TypeId) (D : List Dt) : Asn := bun (D.map (dtA e))
/-- the bytes of all elements, read -/
def RDt (w : World) (F : Nat → Prop) (D : List Dt) : Prop := ∀ d ∈ D, Rd w F 1 d.1 d.2.2.length (d.2.2.map bv)
structure SDt (w0 : World) (M : Nat → Prop) (H : List Asn) (D : List Dt) : Prop where
  rd : ∀ w, St w0 M H w → RDt w All D
section
variable {w0 w : World} {M F : Nat → Prop} {H Hr : List Asn} {e : TypeId} {D : List Dt}
theorem SDt.old (h : RDt w0 F D) (hF : ∀ k, F k → ¬ M k) : SDt w0 M H D := ⟨fun w hS d hd => (Srd.old (h d hd) hF).rd w hS⟩
theorem SDt.own (hm : dtB e D ∈ H) : SDt w0 M H D := ⟨fun w hS d hd => by
  have h1 := (hS.all _ hm).1.1 (dtA e d) (List.mem_map.2 ⟨d, hd, rfl⟩)
  exact (Rd.of_own h1).more fun _ _ => trivial⟩
theorem SDt.sub {D' : List Dt} (h : SDt w0 M H D) (hs : ∀ d ∈ D', d ∈ D) : SDt w0 M H D' := ⟨fun w hS d hd => h.rd w hS d (hs d hd)⟩
theorem SDt.at_ (h : SDt w0 M H D) {d : Dt} (hd : d ∈ D) : Srd w0 M H 1 d.1 d.2.2.length (d.2.2.map bv) := ⟨fun w hS => h.rd w hS d hd⟩
theorem dtB_nil (h : St w0 M H w) : St w0 M (dtB e [] :: H) w := bun_in (L := []) h
theorem dtB_perm {D' : List Dt} (hp : D.Perm D') (h : St w0 M (dtB e D :: H) w) : St w0 M (dtB e D' :: H) w :=
  bun_in ((bun_out h).perm ((hp.map _).append_right _))
theorem dtB_put {d : Dt} (h : St w0 M (dtA e d :: dtB e D :: H) w) : St w0 M (dtB e (D ++ [d]) :: H) w := by
  have h1 : St w0 M (dtB e D :: dtA e d :: H) w := h.perm (List.Perm.swap _ _ _)
  have h2 := bun_out h1
  refine dtB_perm (D := d :: D) (List.perm_append_comm (l₁ := [d])) (bun_in (L := (d :: D).map (dtA e)) ?_)
  exact h2.perm List.perm_middle
theorem dtB_take {d : Dt} {D1 D2 : List Dt} (h : St w0 M (dtB e (D1 ++ d :: D2) :: H) w) : St w0 M (dtA e d :: dtB e (D1 ++ D2) :: H) w := by
  have h1 := bun_out (dtB_perm (D' := d :: (D1 ++ D2)) List.perm_middle h)
  have h2 : St w0 M ((D1 ++ D2).map (dtA e) ++ (dtA e d :: H)) w := h1.perm List.perm_middle.symm
  exact (bun_in h2).perm (List.Perm.swap _ _ _)
theorem dtB_back {d : Dt} {D1 D2 : List Dt} (h : St w0 M (dtA e d :: dtB e (D1 ++ D2) :: H) w) : St w0 M (dtB e (D1 ++ d :: D2) :: H) w := by
  have h1 := dtB_put h
  exact dtB_perm (by simpa using (List.perm_middle (l₁ := D1) (l₂ := D2) (a := d)).symm.trans (List.Perm.refl _) |>.symm.trans (List.perm_append_comm (l₁ := [d])) |>.symm.trans (List.Perm.refl _)) h1
theorem dtB_app {D2 : List Dt} (h : St w0 M (dtB e D :: dtB e D2 :: H) w) : St w0 M (dtB e (D ++ D2) :: H) w := by
  have h1 := bun_out h
  have h2 : St w0 M (dtB e D2 :: (D.map (dtA e) ++ H)) w := h1.perm List.perm_middle
  have h3 := bun_out h2
  refine bun_in (L := (D ++ D2).map (dtA e)) ?_
  rw [List.map_append, List.append_assoc]
  have : (D2.map (dtA e) ++ (D.map (dtA e) ++ H)).Perm (D.map (dtA e) ++ (D2.map (dtA e) ++ H)) := by
    rw [← List.append_assoc, ← List.append_assoc]
    exact List.perm_append_comm.append_right _
  exact h3.perm this
theorem dtB_sub {D' : List Dt} (hs : D'.Sublist D) (h : St w0 M (dtB e D :: H) w) : St w0 M (dtB e D' :: H) w :=
  bun_in ((bun_out h).sublist ((hs.map _).append_right _))
/-- an own slice, cut -/
theorem St.rowcut {size m c n : Nat} {A : Option Addr} {xs : List Value} (h : St w0 M (row e size A m c xs :: H) w) (hn : n ≤ m) : St w0 M (row e size A n c (xs.take (n * size)) :: H) w := by
  refine h.turn (A := row e size A m c xs) (A' := row e size A n c (xs.take (n * size))) Upd.here (fun hb => ?_) (fun k hk => by cases A <;> exact hk)
  have hl : xs.length = m * size := hb.1
  have hnm : n * size ≤ m * size := Nat.mul_le_mul_right _ hn
  refine ⟨by rw [List.length_take]; omega, ?_⟩
  rcases hb.2 with ⟨hv, h0⟩ | ⟨g, cap, cur, hv, hb1, hh, hle, hm, hz, ht⟩
  · injection hv with e1 e2 e3
    subst e1
    subst e3
    exact .inl ⟨by rw [show n = 0 by omega], by omega⟩
  · injection hv with e1 e2 e3
    subst e1
    subst e3
    exact .inr ⟨g, c, cur, rfl, hb1, hh, by omega, hm, hz, by rw [← ht, List.take_take, Nat.min_eq_left hnm]⟩
end
section
variable {P : Program} {ro : Option Nat} {ds : List Deferred} {B : Bk ro ds} {n : Nat} {w0 : World} {M : Nat → Prop} {k : List It} {T : Slots} {H Hr : List Asn}
theorem RS_rowcut {e : TypeId} {size : Nat} (A : Option Addr) (m c q : Nat) {xs : List Value} [hr : HRow H A m c e size xs Hr] (hn : q ≤ m) (hp : RS P B n w0 M k T (row e size A q c (xs.take (q * size)) :: Hr)) : RS P B n w0 M k T H :=
  RS_mem (fun w hS => (hS.perm hr.perm).rowcut hn) hp
end
section
variable {P : Program} {n : Nat} {w0 : World} {M : Nat → Prop} {T : Slots} {H Hr : List Asn} {dd : Option Tmp} {tt : TypeId} {pos : String} {af : Array Edge} {g : Option (Nat × Bool)} {x y z z4 : Operand} {ts : Array TypeId}
theorem T_build2 {s : TypeId} {j k : Nat} {u v : Value} {cs : List Value} (hx : oget T x = some u) (hy : oget T y = some v) (hb : P.built s [(j, u), (k, v)] = some cs.toArray) :
    Tk P n w0 M T H ⟨dd, .build s #[(j, x), (k, y)], tt, pos, af, g⟩ (.agg cs.toArray) := .mk fun a w ha hS => by
  have hr := run_build (P := P) w s #[(j, u), (k, v)] cs.toArray (by simpa using hb)
  simp only [execOp, List.map_toArray, List.map_cons, List.map_nil, ha.eval hx, ha.eval hy, Sem.run_bind, hr, Result.andThen_ok, Sem.run_pure]
theorem T_build3 {s : TypeId} {j k l : Nat} {u v v3 : Value} {cs : List Value} (hx : oget T x = some u) (hy : oget T y = some v) (hz : oget T z = some v3) (hb : P.built s [(j, u), (k, v), (l, v3)] = some cs.toArray) :
    Tk P n w0 M T H ⟨dd, .build s #[(j, x), (k, y), (l, z)], tt, pos, af, g⟩ (.agg cs.toArray) := .mk fun a w ha hS => by
  have hr := run_build (P := P) w s #[(j, u), (k, v), (l, v3)] cs.toArray (by simpa using hb)
  simp only [execOp, List.map_toArray, List.map_cons, List.map_nil, ha.eval hx, ha.eval hy, ha.eval hz, Sem.run_bind, hr, Result.andThen_ok, Sem.run_pure]
theorem T_build4 {s : TypeId} {j k l m : Nat} {u v v3 v4 : Value} {cs : List Value} (hx : oget T x = some u) (hy : oget T y = some v) (hz : oget T z = some v3) (h4 : oget T z4 = some v4) (hb : P.built s [(j, u), (k, v), (l, v3), (m, v4)] = some cs.toArray) :
    Tk P n w0 M T H ⟨dd, .build s #[(j, x), (k, y), (l, z), (m, z4)], tt, pos, af, g⟩ (.agg cs.toArray) := .mk fun a w ha hS => by
  have hr := run_build (P := P) w s #[(j, u), (k, v), (l, v3), (m, v4)] cs.toArray (by simpa using hb)
  simp only [execOp, List.map_toArray, List.map_cons, List.map_nil, ha.eval hx, ha.eval hy, ha.eval hz, ha.eval h4, Sem.run_bind, hr, Result.andThen_ok, Sem.run_pure]
end
/-- append, elements of any size -/
theorem E_appS {P : Program} {n : Nat} {w0 : World} {M : Nat → Prop} {T : Slots} {H Hr : List Asn} {dd : Option Tmp} {tt : TypeId} {pos : String} {af : Array Edge} {g : Option (Nat × Bool)} [HasTab P] {sz : Nat} {x y : Operand} {s e : TypeId} {A A2 : Option Addr} {m c m2 c2 : Nat} {xs news : List Value} {i ei : Ti} (hx : oget T x = some (.slice A m c)) (hy : oget T y = some (.slice A2 m2 c2)) (hs : ty P s = some i) (hi : i.desc = .slice e) (he : ty P e = some ei) (hsz : ei.size = sz) (hz : ei.zero.cells.size = sz) (hz0 : 0 < sz)
    [hr : HRow H A m c e sz xs Hr] (hsrc : Srd w0 M H sz A2 m2 news) (h1 : ∀ u ∈ news, u.oneCell' = true) (hb : (m + m2) * ei.bytes ≤ 140737488355328) (hm : m + m2 ≤ maxLen) :
    Ef P n w0 M T H ⟨dd, .call ⟨.builtin .append, #[x, y], #[s, s]⟩, tt, pos, af, g⟩ (fun v H' => ∃ A' c', v = .slice A' (m + m2) c' ∧ H' = row e sz A' (m + m2) c' (xs ++ news) :: Hr) := by
  subst hsz
  exact E_app hx hy hs hi he hz hz0 hsrc h1 hb hm
theorem gives_N2 {P : Program} {f : FuncId} {fn : Func} {vs : List Value} {w : World} {n : Nat} {As : List Asn} {X : Type} {I : X → Prop} {A : X → List Asn} (hf : P.funcs[f]? = some fn) (hb : fn.body.isSome = true) (hn : fn.ntmps = n) (hr : fn.results = #[])
    (hv : vs.length ≤ n) (hS : St w (owns As) As w) (h : ∀ B : Bk none [], (∀ (T : Slots) (H : List Asn), (∀ w', St w (owns As) H w' → ∃ x, I x ∧ St w (owns As) (A x) w') → RS P B n w (owns As) [] T H) →
      (∀ (c : Code) (k : List It) (T : Slots) (H : List Asn), kind c = .ret → (∀ w', St w (owns As) H w' → ∃ x, I x ∧ St w (owns As) (A x) w') → RS P B n w (owns As) (.code c :: k) T H) → RS P B n w (owns As) [.code (cbody fn)] (targs 0 vs) As) :
    Gives P f vs As w (fun _ => .tuple #[]) I A := by
  obtain ⟨c, hc⟩ := Option.isSome_iff_exists.1 hb
  refine calls_RS hf hc hn (rs := []) (by simpa using hr) hv hS fun B hB => ?_
  have h2 := h B (fun T H hw' => RS_end hB (rs := []) (vs := []) rfl fun w' hS' => by
    obtain ⟨x, hI, hA⟩ := hw' w' hS'
    exact ⟨x, rfl, hI, hA⟩) (fun c k T H hk hw' => S_ret hB hk (rs := []) (vs := []) rfl fun w' hS' => by
    obtain ⟨x, hI, hA⟩ := hw' w' hS'
    exact ⟨x, rfl, hI, hA⟩)
  have e : cbody fn = c := by unfold cbody; rw [hc]
  rwa [e] at h2
theorem rd_old {w0 w : World} {M : Nat → Prop} {H : List Asn} {sz n : Nat} {A : Option Addr} {xs : List Value} (h : Rd w0 All sz A n xs) (hz : 0 < sz) (hM : ∀ k, ¬ M k) (hS : St w0 M H w) {F : Nat → Prop} (hF : ∀ k, k < w0.heap.size → F k) : Rd w F sz A n xs :=
  ⟨h.1, fun hn => by
    obtain ⟨ad, e, _, hc⟩ := h.2 hn
    have hl : 0 < xs.length := by rw [h.1]; exact Nat.mul_pos hn hz
    have hb := World.block_lt_of_cell? w0 _ (hc 0 xs[0] (List.getElem?_eq_getElem hl))
    rw [block_of_add] at hb
    exact ⟨ad, e, hF _ hb, fun j u hu => hS.kp.cell (by rw [block_of_add]; exact hM _) (hc j u hu)⟩⟩
theorem rd_blk {w0 w : World} {M : Nat → Prop} {L H : List Asn} {b t m : Nat} {cs : List Value} [hm : Hat H b t cs] (hS : St w0 M (L ++ H) w) (hl : cs.length = m) {F : Nat → Prop} (hF : F b) : Rd w F 1 (some ⟨b, 0, none⟩) m cs :=
  ⟨by omega, fun _ => ⟨_, rfl, hF, fun j v hj => by rw [add_plain]; exact hS.cell (List.mem_append_right _ hm.mem) (by simpa using hj)⟩⟩
/-- what an iterator may read lies apart from what the rounds turn -/
theorem reads_ok {w0 w : World} {L Hk : List Asn} {b t : Nat} {cs : List Value} [hm : Hat Hk b t cs] (hS : St w0 (owns []) (L ++ Hk) w) : ∀ q, (q < w0.heap.size ∨ q = b) → ¬ owns L q ∧ q < w.heap.size := fun q hq => by
  have hb := hS.all (pt b t cs) (by simp [hm.mem])
  rcases hq with hq | rfl
  · refine ⟨fun ⟨A, hA, hk⟩ => ?_, Nat.lt_of_lt_of_le hq hS.kp.size⟩
    rcases ((hS.all A (by simp [hA])).2 q hk).1 with h | h
    · exact noOwns _ h
    · omega
  · exact ⟨fun ⟨A, hA, hk⟩ => (List.pairwise_append.1 hS.apart).2.2 A hA (pt q t cs) hm.mem q hk rfl, (hb.2 q rfl).2⟩
def zi (z : Int) : Value := .int .i64 z
end Go.Proofs.Ytclmaoagdkhboaa
