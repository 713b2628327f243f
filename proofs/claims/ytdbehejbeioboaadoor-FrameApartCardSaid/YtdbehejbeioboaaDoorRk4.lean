/- The calculus: slices. -/
import Derived.Test.YtdbehejbeioboaaDoorRkD
import Derived.Lib.ConvBytes
import Derived.Lib.AppendStr
namespace Go.Proofs.YtdbehejbeioboaaDoor
open Go.RowKit
open Asn (pt row rb)
set_option linter.unusedVariables false
set_option linter.unusedSimpArgs false

theorem own_block {w : World} {base : Nat} {e : TypeId} {size n : Nat} {v : Value} {xs : List Value} (h : w.ownsRow base e size v n xs) : ∀ k, v.ownBlock = some k → base ≤ k ∧ k < w.heap.size := World.ownsRow.lt h
/-- how a part of memory is read: bytes -/
structure Src (w0 : World) (M : Nat → Prop) (H : List Asn) (A : Option Addr) (n c : Nat) (l : List UInt8) : Prop where
  bs : ∀ w, St w0 M H w → Bs w All A n c l
/-- how a part of memory is read: cells -/
structure Srd (w0 : World) (M : Nat → Prop) (H : List Asn) (size : Nat) (A : Option Addr) (n : Nat) (xs : List Value) : Prop where
  rd : ∀ w, St w0 M H w → Rd w All size A n xs
section
variable {w0 w w' : World} {M F : Nat → Prop} {H H' Hr : List Asn} {A : Option Addr} {n c size : Nat} {e : TypeId} {l : List UInt8} {xs : List Value}
theorem Src.old (h : Bs w0 F A n c l) (hF : ∀ k, F k → ¬ M k) : Src w0 M H A n c l := ⟨fun w hS => ((h.more hF).keep hS.kp).more fun _ _ => trivial⟩
theorem Srd.old (h : Rd w0 F size A n xs) (hF : ∀ k, F k → ¬ M k) : Srd w0 M H size A n xs := ⟨fun w hS => ((h.more hF).keep hS.kp).more fun _ _ => trivial⟩
theorem Src.rd (h : Src w0 M H A n c l) : Srd w0 M H 1 A n (l.map bv) := ⟨fun w hS => (h.bs w hS).rd⟩
theorem Srd.row [hm : HRow H A n c e size xs Hr] : Srd w0 M H size A n xs := ⟨fun w hS => (Rd.of_own (hS.at_ hm.mem)).more fun _ _ => trivial⟩
theorem Src.row [hm : HRow H A n c e 1 (l.map bv) Hr] : Src w0 M H A n c l := ⟨fun w hS => (Bs.of_own (e := e) (hS.at_ hm.mem)).more fun _ _ => trivial⟩
theorem Srd.pt {g t off : Nat} {cs ds : List Value} [hm : Hat H g t cs] (hl : ds.length = n * size) (hd : ∀ j v, ds[j]? = some v → cs[off + j]? = some v) : Srd w0 M H size (some ⟨g, off, none⟩) n ds :=
  ⟨fun w hS => ⟨hl, fun _ => ⟨_, rfl, trivial, fun j v hj => by rw [add_plain]; exact hS.cell hm.mem (hd j v hj)⟩⟩⟩
theorem Src.pt {g t off : Nat} {cs : List Value} [hm : Hat H g t cs] (hl : l.length = n) (hnc : n ≤ c) (hc : c ≤ maxLen) (hd : ∀ j v, (l.map bv)[j]? = some v → cs[off + j]? = some v) : Src w0 M H (some ⟨g, off, none⟩) n c l :=
  ⟨fun w hS => ⟨hl.symm, hnc, hc, (Srd.pt (n := n) (size := 1) (by simp [hl]) hd).rd w hS⟩⟩
theorem Src.nil : Src w0 M H none 0 0 [] := ⟨fun w _ => Bs.nil w _⟩
theorem Src.len (h : Src w0 M H A n c l) (hS : St w0 M H w) : n = l.length := (h.bs w hS).len
/-- one part is taken out -/
inductive Rem : List Asn → Asn → List Asn → Prop
  | here {A : Asn} {H : List Asn} : Rem (A :: H) A H
  | there {A B : Asn} {H Hr : List Asn} : Rem H A Hr → Rem (B :: H) A (B :: Hr)
theorem Rem.perm {A : Asn} (r : Rem H A Hr) : H.Perm (A :: Hr) := by
  induction r with
  | here => exact List.Perm.refl _
  | there _ ih => exact (List.Perm.cons _ ih).trans (List.Perm.swap _ _ _)
theorem St.rem {A : Asn} (h : St w0 M H w) (r : Rem H A Hr) : St w0 M (A :: Hr) w := h.perm r.perm
theorem St.unrem {A : Asn} (h : St w0 M (A :: Hr) w) (r : Rem H A Hr) : St w0 M H w := h.perm r.perm.symm
/-- a nil slice can be had for nothing -/
theorem St.nilrow (h : St w0 M H w) (e : TypeId) (size : Nat) : St w0 M (row e size none 0 0 [] :: H) w :=
  h.add (Kp.refl _ _) (World.ownsRow_nil w 0 e size) (fun k hk => by cases hk)
/-- a known block, seen as a slice -/
theorem St.rowOf {g m : Nat} {cs : List Value} (h : St w0 M H w) (u : Upd H (Asn.pt g e cs) (row e size (some ⟨g, 0, none⟩) n m (cs.take (n * size))) H') (hn : n ≤ m) (hm : m ≤ maxLen) (hc : cs.length = m * size) : St w0 M H' w :=
  h.turn u (fun hb => Blk.own hb (Nat.zero_le _) hn hm (by simp [hc]) (by simp)) (fun k hk => by
    simp only [Asn.own, Value.ownBlock, Option.some.injEq] at hk
    exact hk.symm)
end

section
variable {P : Program} {ro : Option Nat} {ds : List Deferred} {B : Bk ro ds} {n : Nat} {w0 : World} {M : Nat → Prop} {k : List It} {T : Slots} {H Hr : List Asn} {l σ : List Oper} {d : Tmp} {dd : Option Tmp} {tt : TypeId} {pos : String} {af : Array Edge} {g : Option (Nat × Bool)}
theorem Ef.mono {o : Oper} {E E' : Value → List Asn → Prop} (h : Ef P n w0 M T H o E) (hE : ∀ v H', E v H' → ∀ w, St w0 M H' w → ∃ v' H'', v' = v ∧ E' v' H'' ∧ St w0 M H'' w) : Ef P n w0 M T H o E' :=
  .mkIn fun a w ha hS => wpo_mono (fun a' w' ⟨v, H', hv, he, hS'⟩ => by
    obtain ⟨v', H'', rfl, h1, h2⟩ := hE v H' hv w' hS'
    exact ⟨_, H'', h1, he, h2⟩) (h.run a w ha hS)
theorem Ef.from {o : Oper} {E : Value → List Asn → Prop} {H' : List Asn} (h : Ef P n w0 M T H' o E) (hH : ∀ w, St w0 M H w → St w0 M H' w) : Ef P n w0 M T H o E := .mkIn fun a w ha hS => h.run a w ha (hH w hS)
/-- append -/
theorem E_app [HasTab P] {x y : Operand} {s e : TypeId} {A A2 : Option Addr} {m c m2 c2 : Nat} {xs news : List Value} {i ei : Ti} (hx : oget T x = some (.slice A m c)) (hy : oget T y = some (.slice A2 m2 c2)) (hs : ty P s = some i) (hi : i.desc = .slice e) (he : ty P e = some ei) (hz : ei.zero.cells.size = ei.size) (hz0 : 0 < ei.size)
    [hr : HRow H A m c e ei.size xs Hr] (hsrc : Srd w0 M H ei.size A2 m2 news) (h1 : ∀ u ∈ news, u.oneCell' = true) (hb : (m + m2) * ei.bytes ≤ 140737488355328) (hm : m + m2 ≤ maxLen) :
    Ef P n w0 M T H ⟨dd, .call ⟨.builtin .append, #[x, y], #[s, s]⟩, tt, pos, af, g⟩ (fun v H' => ∃ A' c', v = .slice A' (m + m2) c' ∧ H' = row e ei.size A' (m + m2) c' (xs ++ news) :: Hr) := .mk fun a w ha hS => by
  obtain ⟨j, hj, hj0, hj1, hj2⟩ := ty_info he
  have hS1 := hS.perm hr.perm
  have hown : w.ownsRow 0 e ei.size (.slice A m c) m xs := hS1.at_ (A := row e ei.size A m c xs) (by simp)
  refine wp_append_rd w x y s rfl 0 e j _ ei.size ei.bytes (hi ▸ ty_ok hs) hj hj0 hj1 hj2 hz hz0 _ m xs (ha.eval hx) hown All A2 m2 c2 news (ha.eval hy) (hsrc.rd w hS) h1 hm hb (Nat.zero_le _) fun A' c' w' h2 h3 h4 => ?_
  refine ⟨_, _, ⟨A', c', rfl, rfl⟩, rfl, ?_⟩
  refine St.call (As := [row e ei.size A m c xs]) (Bs := [row e ei.size A' (m + m2) c' (xs ++ news)]) hS1 ⟨h3.mono fun k hk _ => ?_, fun B hB => ?_, List.pairwise_singleton _ _⟩
  · intro he
    exact hk ⟨_, List.mem_singleton_self _, he.symm⟩
  · rcases List.mem_singleton.1 hB with rfl
    refine ⟨h2, fun k hk => ⟨?_, (own_block h2 k hk).2⟩⟩
    rcases h4 with h4 | h4
    · exact .inl ⟨_, List.mem_singleton_self _, h4.symm.trans hk⟩
    · have hk' : (Value.slice A' (m + m2) c').ownBlock = some k := hk
      rw [h4] at hk'
      injection hk' with hk'
      exact .inr (Nat.le_of_eq hk')
/-- append onto a literal without elements -/
theorem E_appl [HasTab P] {x y : Operand} {s e : TypeId} {gb : Nat} {A2 : Option Addr} {m2 c2 : Nat} {news : List Value} {i ei : Ti} (hx : oget T x = some (.slice (some ⟨gb, 0, none⟩) 0 0)) (hy : oget T y = some (.slice A2 m2 c2)) (hs : ty P s = some i) (hi : i.desc = .slice e) (he : ty P e = some ei) (hz : ei.zero.cells.size = ei.size) (hz0 : 0 < ei.size)
    (hr : Rem H (pt gb e []) Hr) (hsrc : Srd w0 M H ei.size A2 m2 news) (h1 : ∀ u ∈ news, u.oneCell' = true) (hb : m2 * ei.bytes ≤ 140737488355328) (hm : m2 ≤ maxLen) :
    Ef P n w0 M T H ⟨dd, .call ⟨.builtin .append, #[x, y], #[s, s]⟩, tt, pos, af, g⟩ (fun v H' => ∃ A' c', v = .slice A' m2 c' ∧ H' = row e ei.size A' m2 c' news :: Hr) := .mkIn fun a w ha hS => by
  have hS' : St w0 M (row e ei.size (some ⟨gb, 0, none⟩) 0 0 [] :: Hr) w := by
    have := St.rowOf (e := e) (size := ei.size) (g := gb) (cs := []) (n := 0) (m := 0) (hS.rem hr) Upd.here (Nat.le_refl _) (by simp) (by simp)
    simpa only [List.take_nil] using this
  have hcong : Srd w0 M (row e ei.size (some ⟨gb, 0, none⟩) 0 0 [] :: Hr) ei.size A2 m2 news := by
    refine ⟨fun w' hw' => ?_⟩
    refine hsrc.rd w' ((hw'.turn (A := row e ei.size (some ⟨gb, 0, none⟩) 0 0 []) (A' := pt gb e []) .here (fun ho => ?_) (fun k hk => ?_)).unrem hr)
    · rcases ho.2 with ⟨h, _⟩ | ⟨g', cap, cur, hv, _, hh, _, _, hsz, _⟩
      · cases h
      · injection hv with e1 e2 e3
        injection e1 with e1
        injection e1 with e1
        subst e1 e3
        have : cur = #[] := Array.eq_empty_of_size_eq_zero (by simpa using hsz)
        subst this
        exact hh
    · have hk : k = gb := hk
      subst hk
      rfl
  have h := E_app (P := P) (n := n) (w0 := w0) (M := M) (dd := dd) (tt := tt) (pos := pos) (af := af) (g := g) hx hy hs hi he hz hz0 hcong h1 (by simpa using hb) (by simpa using hm)
  simp only [Nat.zero_add, List.nil_append] at h
  exact h.run a w ha hS'
theorem Src.rb {A : Option Addr} {m c : Nat} {bs : List UInt8} (hm : rb A m c bs ∈ H) : Src w0 M H A m c bs := ⟨fun w hS => Bs.more (hS.at_ hm) fun _ _ => trivial⟩
/-- string(bytes) -/
theorem T_b2s [HasTab P] {x : Operand} {s t e : TypeId} {A : Option Addr} {m c : Nat} {bs : List UInt8} {i j ei : Ti} (hx : oget T x = some (.slice A m c)) (hs : ty P s = some i) (hi : i.desc = .slice e) (ht : ty P t = some j) (hj : j.desc = .string) (he : ty P e = some ei) (hei : ei.desc = .int .u8) (hsrc : Src w0 M H A m c bs) :
    Tk P n w0 M T H ⟨dd, .convert s t x, tt, pos, af, g⟩ (.string ⟨bs.toArray⟩) := .mk fun a w ha hS => by
  have h := hsrc.bs w hS
  have hrun : (convert s t (.slice A m c)).run P w = .ok (.string ⟨bs.toArray⟩) w := by
    cases A with
    | none =>
      have hn : m = 0 := by
        rcases Nat.eq_zero_or_pos m with h0 | h0
        · exact h0
        · obtain ⟨ad, h, _⟩ := h.rd.2 h0
          cases h
      subst hn
      rw [List.eq_nil_of_length_eq_zero h.len.symm, run_convert_bytes_nil w s e (hi ▸ ty_ok hs) (hei ▸ ty_ok he) 0 c t (hj ▸ ty_ok ht)]
      rfl
    | some ad =>
      have hl : (loadCells ad m).run P w = .ok ((bs.map fun x => (x.toNat : Int)).map (Value.int .u8)).toArray w := by
        have h1 := run_loadCells_list (P := P) w ad (bs.map bv) (fun j v hj => by
          have hp : 0 < m := by
            have := h.len
            have hlt := (List.getElem?_eq_some_iff.1 hj).1
            simp at hlt
            omega
          obtain ⟨ad', e, _, hc⟩ := h.rd.2 hp
          injection e with e
          subst e
          exact hc j v hj)
        rw [List.length_map, ← h.len] at h1
        rw [h1, List.map_map]
        rfl
      rw [run_convert_bytes_string w s t e _ m c (hi ▸ ty_ok hs) (hei ▸ ty_ok he) (hj ▸ ty_ok ht), run_bytesToString w ad m c _ hl, foldl_push_bytes]
      simp [ByteArray.empty, ByteArray.emptyWithCapacity, Function.comp_def]
      rfl
  simp only [execOp, ha.eval hx, Sem.run_bind, hrun, Result.andThen_ok, Sem.run_pure]
/-- a byte is read -/
theorem T_ldb [HasTab P] {x : Operand} {s : TypeId} {A : Option Addr} {j m c : Nat} {bs : List UInt8} {i : Ti} (hx : oget T x = some (.pointer (pa A j))) (hs : ty P s = some i) (hi : aggB i.desc = false) (hr : Src w0 M H A m c bs) (hj : j < m) :
    Tk P n w0 M T H ⟨dd, .load s x, tt, pos, af, g⟩ (.int .u8 ((bs.getD j 0).toNat : Int)) := .mk fun a w ha hS => by
  have h := hr.bs w hS
  obtain ⟨ad, rfl, _, hc⟩ := h.rd.2 (by omega)
  have h1 := hc j (.int .u8 ((bs.getD j 0).toNat : Int)) (by have := h.len; simp [bv, List.getElem?_eq_getElem (show j < bs.length by omega)])
  simp [execOp, ha.eval hx, pa, Instr.loadAt, Instr.sureAddr, loadVar_cell hs hi h1]
/-- a cell is read -/
theorem T_ldr [HasTab P] {x : Operand} {s : TypeId} {A : Option Addr} {j sz m : Nat} {xs : List Value} {v : Value} {i : Ti} (hx : oget T x = some (.pointer (pa A j))) (hs : ty P s = some i) (hi : aggB i.desc = false) (hr : Srd w0 M H sz A m xs) (hm : 0 < m) (hv : xs[j]? = some v) :
    Tk P n w0 M T H ⟨dd, .load s x, tt, pos, af, g⟩ v := .mk fun a w ha hS => by
  obtain ⟨ad, rfl, _, hc⟩ := (hr.rd w hS).2 hm
  simp [execOp, ha.eval hx, pa, Instr.loadAt, Instr.sureAddr, loadVar_cell hs hi (hc j v hv)]
/-- make([]T, m, c), T of one cell -/
theorem E_make1 [HasTab P] {x y : Operand} {s e : TypeId} {kx ky : IntKind} {m c : Nat} {i ei : Ti} (hx : oget T x = some (.int kx (m : Int))) (hy : oget T y = some (.int ky (c : Int))) (hs : ty P s = some i) (hi : i.desc = .slice e) (he : ty P e = some ei) (h1 : ei.size = 1) (hz : ei.zero.cells = #[ei.zero]) (hmc : m ≤ c) (hb : ei.bytes * c ≤ 281474976710656) (hc : c ≤ maxLen) :
    Ef P n w0 M T H ⟨dd, .makeSlice s x y, tt, pos, af, g⟩ (fun v H' => ∃ b, v = .slice (some ⟨b, 0, none⟩) m c ∧ H' = pt b e (List.replicate c ei.zero) :: H) := .mk fun a w ha hS => by
  obtain ⟨j, hj, hj0, hj1, hj2⟩ := ty_info he
  have hb' : (j.bytes : Int) * (c : Int) ≤ 281474976710656 := by
    rw [hj2]
    have h : ((ei.bytes * c : Nat) : Int) ≤ 281474976710656 := by omega
    rwa [Int.natCast_mul] at h
  have hrun := run_make (P := P) w s e j ei.zero (hi ▸ ty_ok hs) hj hj0 kx ky m c (by omega) (by omega) hb' (by unfold maxLen at hc; omega)
  simp only [Int.toNat_natCast, hj1, h1, Nat.mul_one, hz] at hrun
  unfold Oper.wp
  simp only [execOp, ha.eval hx, ha.eval hy, Sem.run_bind, hrun, Result.andThen_ok, Sem.run_pure, Oper.upon_value]
  have hmm : madeCells #[ei.zero] c = (List.replicate c ei.zero).toArray := by rw [← toList_madeCells_one]
  rw [hmm]
  refine ⟨_, _, ⟨w.heap.size, rfl, rfl⟩, rfl, hS.add (Kp.alloc w _) (Blk.new w e _) (fun k hk => ?_)⟩
  have hk : k = w.heap.size := hk
  subst hk
  simp
/-- addresses behind s[lo:] -/
def cutP (A : Option Addr) (c lo sz : Nat) : Option Addr := if c = lo then A else pa A (lo * sz)
theorem sliceAt_run [HasTab P] {s e : TypeId} {i ei : Ti} (hs : ty P s = some i) (hi : i.desc = .slice e) (he : ty P e = some ei) {A : Option Addr} {m c lo hi' : Nat} (h1 : lo ≤ hi') (h2 : hi' ≤ c) (lo? hi? mx? : Option Value) (hl : (lo? = none ∧ lo = 0) ∨ ∃ kk, lo? = some (.int kk (lo : Int))) (hh : (hi? = none ∧ hi' = m) ∨ ∃ kk, hi? = some (.int kk (hi' : Int))) (cc : Nat) (hm : (mx? = none ∧ cc = c) ∨ ((∃ kk, mx? = some (.int kk (cc : Int))) ∧ hi?.isSome = true ∧ hi' ≤ cc ∧ cc ≤ c)) (w : World) :
    (Instr.sliceAt s (.slice A m c) lo? hi? mx?).run P w = .ok (.slice (cutP A cc lo ei.size) (hi' - lo) (cc - lo)) w := by
  have hu := run_underlying (hi ▸ ty_ok hs) w
  have hcut : (if cc = lo then A else A.map (·.add (lo * ei.size))) = cutP A cc lo ei.size := rfl
  rcases hm with ⟨rfl, rfl⟩ | ⟨⟨km, rfl⟩, hsome, h3, h4⟩
  · rcases hl with ⟨rfl, rfl⟩ | ⟨kl, rfl⟩ <;> rcases hh with ⟨rfl, rfl⟩ | ⟨kh, rfl⟩ <;>
      simp [Instr.sliceAt, Instr.slice, hu, Instr.sliceBounds, Instr.sliceBound, asIntOf, ty_size he w, h1, h2, cutP, pa]
  · rcases hl with ⟨rfl, rfl⟩ | ⟨kl, rfl⟩ <;> rcases hh with ⟨rfl, rfl⟩ | ⟨kh, rfl⟩ <;> first | (simp at hsome; done) |
      simp [Instr.sliceAt, Instr.slice, hu, Instr.sliceBounds, Instr.sliceBound, asIntOf, ty_size he w, h1, h2, h3, h4, cutP, pa]
theorem cutP_zero (A : Option Addr) (c sz : Nat) : cutP A c 0 sz = A := by
  unfold cutP
  split
  · rfl
  · cases A <;> simp [pa, Addr.add]
/-- s[:hi] -/
theorem T_slh [HasTab P] {x y : Operand} {s e : TypeId} {A : Option Addr} {m c q : Nat} {kk : IntKind} {i ei : Ti} (hx : oget T x = some (.slice A m c)) (hy : oget T y = some (.int kk (q : Int))) (hs : ty P s = some i) (hi : i.desc = .slice e) (he : ty P e = some ei) (hq : q ≤ c) :
    Tk P n w0 M T H ⟨dd, .slice s x none (some y) none, tt, pos, af, g⟩ (.slice A q c) := .mk fun a w ha hS => by
  have := sliceAt_run (P := P) hs hi he (A := A) (m := m) (c := c) (lo := 0) (hi' := q) (Nat.zero_le _) hq none (some (.int kk (q : Int))) none (.inl ⟨rfl, rfl⟩) (.inr ⟨kk, rfl⟩) c (.inl ⟨rfl, rfl⟩) w
  rw [cutP_zero] at this
  simp only [execOp, ha.eval hx, ha.eval hy, Option.map_none, Option.map_some, Sem.run_bind, this, Result.andThen_ok, Sem.run_pure, Nat.sub_zero]
/-- s[lo:] -/
theorem T_sll [HasTab P] {x y : Operand} {s e : TypeId} {A : Option Addr} {m c q : Nat} {kk : IntKind} {i ei : Ti} (hx : oget T x = some (.slice A m c)) (hy : oget T y = some (.int kk (q : Int))) (hs : ty P s = some i) (hi : i.desc = .slice e) (he : ty P e = some ei) (hq : q ≤ m) (hc : m ≤ c) :
    Tk P n w0 M T H ⟨dd, .slice s x (some y) none none, tt, pos, af, g⟩ (.slice (cutP A c q ei.size) (m - q) (c - q)) := .mk fun a w ha hS => by
  have := sliceAt_run (P := P) hs hi he (A := A) (m := m) (c := c) (lo := q) (hi' := m) hq hc (some (.int kk (q : Int))) none none (.inr ⟨kk, rfl⟩) (.inl ⟨rfl, rfl⟩) c (.inl ⟨rfl, rfl⟩) w
  simp only [execOp, ha.eval hx, ha.eval hy, Option.map_none, Option.map_some, Sem.run_bind, this, Result.andThen_ok, Sem.run_pure]
/-- s[lo:hi] -/
theorem T_slb [HasTab P] {x y z : Operand} {s e : TypeId} {A : Option Addr} {m c q r : Nat} {kk kj : IntKind} {i ei : Ti} (hx : oget T x = some (.slice A m c)) (hy : oget T y = some (.int kk (q : Int))) (hz : oget T z = some (.int kj (r : Int))) (hs : ty P s = some i) (hi : i.desc = .slice e) (he : ty P e = some ei) (hq : q ≤ r) (hc : r ≤ c) :
    Tk P n w0 M T H ⟨dd, .slice s x (some y) (some z) none, tt, pos, af, g⟩ (.slice (cutP A c q ei.size) (r - q) (c - q)) := .mk fun a w ha hS => by
  have := sliceAt_run (P := P) hs hi he (A := A) (m := m) (c := c) (lo := q) (hi' := r) hq hc (some (.int kk (q : Int))) (some (.int kj (r : Int))) none (.inr ⟨kk, rfl⟩) (.inr ⟨kj, rfl⟩) c (.inl ⟨rfl, rfl⟩) w
  simp only [execOp, ha.eval hx, ha.eval hy, ha.eval hz, Option.map_none, Option.map_some, Sem.run_bind, this, Result.andThen_ok, Sem.run_pure]
end
theorem Bs.cutP {w : World} {F : Nat → Prop} {A : Option Addr} {n c : Nat} {l : List UInt8} (h : Bs w F A n c l) {k : Nat} (hk : k ≤ n) : Bs w F (cutP A c k 1) (n - k) (c - k) (l.drop k) := by
  have := h.cut hk
  unfold Go.Proofs.YtdbehejbeioboaaDoor.cutP
  rw [Nat.mul_one]
  exact this
theorem Bs.part {w : World} {F : Nat → Prop} {A : Option Addr} {n c : Nat} {l : List UInt8} (h : Bs w F A n c l) {q r : Nat} (hq : q ≤ r) (hr : r ≤ n) : Bs w F (Go.Proofs.YtdbehejbeioboaaDoor.cutP A c q 1) (r - q) (c - q) ((l.drop q).take (r - q)) := (h.cutP (k := q) (by omega)).head (by omega)
end Go.Proofs.YtdbehejbeioboaaDoor
