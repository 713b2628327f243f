/- The calculus: slices worked on within their room: copies, appends in place and appends that grow, clear; a slice of one's own seen as its block. -/
import Derived.Test.YtclmaoagdkhboaaRk9
import Derived.Lib.Overlaps
import Derived.Lib.AppendZerosOnto
import Derived.Lib.SliceRun
namespace Go.Proofs.Ytclmaoagdkhboaa
open Go.RowKit
open Asn (pt row rb)
set_option linter.unusedVariables false
set_option linter.unusedSimpArgs false
section
variable {P : Program} {ro : Option Nat} {ds : List Deferred} {B : Bk ro ds} {n : Nat} {w0 : World} {M : Nat → Prop} {k : List It} {T : Slots} {H Hr : List Asn} {dd : Option Tmp} {tt : TypeId} {pos : String} {af : Array Edge} {g : Option (Nat × Bool)} {x y z : Operand} {ts : Array TypeId}
theorem Srd.cutP {size m c q : Nat} {A : Option Addr} {xs : List Value} (h : Srd w0 M H size A m xs) (hq : q ≤ m) (hc : m ≤ c) : Srd w0 M H size (cutP A c q size) (m - q) (xs.drop (q * size)) := ⟨fun w hS => (h.rd w hS).cut hq hc⟩
theorem Srd.head {size m q : Nat} {A : Option Addr} {xs : List Value} (h : Srd w0 M H size A m xs) (hq : q ≤ m) : Srd w0 M H size A q (xs.take (q * size)) := ⟨fun w hS => (h.rd w hS).head hq⟩
theorem Srd.none {size c : Nat} : Srd w0 M H size none 0 [] := ⟨fun w hS => Rd.none_⟩
/-- a slice of one's own, seen as its block -/
theorem RS_open {e : TypeId} {size : Nat} (A : Option Addr) (m c : Nat) {xs : List Value} [hr : HRow H A m c e size xs Hr] (hA : A ≠ none) (hp : ∀ gb ys, A = some ⟨gb, 0, none⟩ → ys.length = (c - m) * size → m ≤ c → c ≤ maxLen → xs.length = m * size → RS P B n w0 M k T (pt gb e (xs ++ ys) :: Hr)) : RS P B n w0 M k T H := ⟨fun a w had ha hS => by
  have hS1 := hS.perm hr.perm
  have hown : w.ownsRow 0 e size (.slice A m c) m xs := hS1.at_ (A := row e size A m c xs) (by simp)
  rcases hown.2 with ⟨hv, _⟩ | ⟨gb, cap, cur, hv, _, hb, hmc, hcm, hcs, htk⟩
  · injection hv with e1
    exact absurd e1 hA
  · injection hv with e1 e2 e3
    subst e1 e3
    have hcl : cur.toList.length = c * size := by simpa using hcs
    have hcur : xs ++ cur.toList.drop (m * size) = cur.toList := by rw [← htk, List.take_append_drop]
    refine (hp gb (cur.toList.drop (m * size)) rfl (by rw [List.length_drop, hcl, Nat.sub_mul]) hmc hcm hown.1).runD a w had ha (hS1.turn .here (fun _ => ?_) (fun k hk => ?_))
    · rw [hcur]
      show Blk w gb e _
      unfold Blk
      rw [hb]
    · have hk : k = gb := hk
      subst hk
      rfl⟩
/-- where a block is known; what else there is -/
class HPt (H : List Asn) (gb : Nat) (e : outParam TypeId) (cs : outParam (List Value)) (H' : outParam (List Asn)) : Prop where
  perm : H.Perm (pt gb e cs :: H')
instance (priority := high) HPt.here {gb : Nat} {e : TypeId} {cs : List Value} {H : List Asn} : HPt (pt gb e cs :: H) gb e cs H := ⟨List.Perm.refl _⟩
instance HPt.there {gb : Nat} {e : TypeId} {cs : List Value} {B : Asn} {H H' : List Asn} [h : HPt H gb e cs H'] : HPt (B :: H) gb e cs (B :: H') := ⟨(List.Perm.cons _ h.perm).trans (List.Perm.swap _ _ _)⟩
/-- a block, seen as a slice -/
theorem RS_close {e : TypeId} {size : Nat} (gb m c : Nat) {xs cs : List Value} [hu : HPt H gb e cs Hr] (hm : m ≤ c) (hc : c ≤ maxLen) (hl : cs.length = c * size) (hx : cs.take (m * size) = xs) (hp : RS P B n w0 M k T (row e size (some ⟨gb, 0, none⟩) m c xs :: Hr)) : RS P B n w0 M k T H := ⟨fun a w had ha hS => by
  subst hx
  exact hp.runD a w had ha (St.rowOf (hS.perm hu.perm) .here hm hc hl)⟩
theorem St.close {w : World} {e : TypeId} {size gb m c : Nat} {xs cs : List Value} (hS : St w0 M H w) [hu : HPt H gb e cs Hr] (hm : m ≤ c) (hc : c ≤ maxLen) (hl : cs.length = c * size) (hx : cs.take (m * size) = xs) : St w0 M (row e size (some ⟨gb, 0, none⟩) m c xs :: Hr) w := by
  subst hx
  exact St.rowOf (hS.perm hu.perm) .here hm hc hl
theorem run_copy_rowN (w : World) (dT sT ty elem : TypeId) (gb o dLen dCap : Nat) (A : Option Addr) (sLen sCap q size : Nat) (cur : Array Value) (t : TypeId) (cs : List Value)
    (hu : P.underlying dT = some (.slice elem)) (hs : (P.info? elem).map (·.size) = some size)
    (hg : w.heap[gb]? = some (.cells cur t (0, 0))) (hq : q = Nat.min sLen dLen) (hl : cs.length = q * size)
    (hsrc : 0 < q → ∃ ad, A = some ad ∧ ∀ j v, cs[j]? = some v → w.cell? (ad.add j) = some v) (hfit : o + cs.length ≤ cur.size) (h1 : ∀ v ∈ cs, v.oneCell' = true) :
    (Builtin.copy_ #[dT, sT] ty #[.slice (some ⟨gb, o, none⟩) dLen dCap, .slice A sLen sCap]).run P w =
      .ok (goInt q) (w.setRow gb (cur.toList.take o ++ cs ++ cur.toList.drop (o + cs.length)).toArray) := by
  have hst := run_storeCells_at P gb o t cs 0 cur w hg (by simpa using hfit) h1
  have hfc : (Builtin.firstCells size q (.slice A sLen sCap)).run P w = .ok cs.toArray w := by
    rcases Nat.eq_zero_or_pos q with h0 | h0
    · subst h0
      obtain rfl : cs = [] := List.eq_nil_of_length_eq_zero (by simpa using hl)
      cases A with
      | none => exact run_firstCells_none w size 0 sLen sCap
      | some ad => exact run_firstCells_some w size 0 ad sLen sCap [] (by simp) (by simp)
    · obtain ⟨ad, rfl, hc⟩ := hsrc h0
      exact run_firstCells_some w size q ad sLen sCap cs hl hc
  cases hqq : P.info? elem with
  | none => simp [hqq] at hs
  | some i =>
    have hi : i.size = size := by simpa [hqq] using hs
    simp [Builtin.copy_, run_underlying hu, Builtin.lenOf, sizeOf, typeInfo, hqq, hi, ← hq, hfc, hst]
/-- copy onto a block -/
theorem E_copyn [HasTab P] {dT sT e : TypeId} {gb off dl dc sl sc t q : Nat} {A : Option Addr} {cur cs : List Value} {i ei : Ti} {H' : List Asn} {K : List Value → List Asn} (hx : oget T x = some (.slice (some ⟨gb, off, none⟩) dl dc)) (hy : oget T y = some (.slice A sl sc)) (hs : ty P dT = some i) (hi : i.desc = .slice e) (he : ty P e = some ei)
    [hu : HUp H gb t cur K] (hsrc : Srd w0 M H ei.size A q cs) (hn : q = min sl dl) (hfit : off + cs.length ≤ cur.length) (h1 : ∀ v ∈ cs, v.oneCell' = true) (hH : K (cur.take off ++ cs ++ cur.drop (off + cs.length)) = H') :
    Ef P n w0 M T H ⟨dd, .call ⟨.builtin .copy, #[x, y], #[dT, sT]⟩, tt, pos, af, g⟩ (fun v H'' => v = .int .i64 (q : Nat) ∧ H'' = H') := .mk fun a w ha hS => by
  subst hH
  have hus : P.underlying dT = some (.slice e) := hi ▸ ty_ok hs
  have hsz : (P.info? e).map (·.size) = some ei.size := by
    obtain ⟨j, hj, _, hj1, _⟩ := ty_info he
    rw [hj]
    simp [hj1]
  have hg : Blk w gb t cur.toArray := hS.at_ (hu.upd cur).mem
  have hrd := hsrc.rd w hS
  have hrun := run_copy_rowN (P := P) w dT sT tt e gb off dl dc A sl sc q ei.size cur.toArray t cs hus hsz hg hn hrd.1 (fun h0 => by
    obtain ⟨ad, e1, _, hc⟩ := hrd.2 h0
    exact ⟨ad, e1, hc⟩) (by simpa using hfit) h1
  unfold Oper.wp
  simp only [execOp, resolve, invoke, builtin, Sem.run_bind, Sem.run_pure, Result.andThen_ok, List.map_toArray, List.map_cons, List.map_nil, ha.eval hx, ha.eval hy, hrun]
  refine ⟨_, _, ⟨rfl, rfl⟩, rfl, hS.upd (hu.upd _) (Kp.setRow gb _) ?_ fun _ h => h⟩
  have := setRow_heap w gb _ (cur.take off ++ cs ++ cur.drop (off + cs.length)).toArray t _ hg
  show Blk _ _ _ _
  unfold Blk
  simpa using this
theorem setCells_row (P : Program) {w : World} {gb : Nat} {t : TypeId} : ∀ (vs : List Value) (cur : Array Value) (o : Nat), w.heap[gb]? = some (.cells cur t (0, 0)) → o + vs.length ≤ cur.size → (∀ v ∈ vs, v.oneCell' = true) →
    w.setCells gb o vs = w.setRow gb (cur.toList.take o ++ vs ++ cur.toList.drop (o + vs.length)).toArray := fun vs cur o hg hl h1 => by
  have h2 := run_storeCells_at P gb o t vs 0 cur w hg (by simpa using hl) h1
  have hb : Blk w gb t cur := hg
  have h3 := run_storeCells_cells (P := P) gb o vs 0 w (fun j hj => by rw [Nat.add_zero, hb.cell, Array.getElem?_eq_getElem (by omega)]; rfl) (fun j hj => hb.frozen _) h1
  rw [h2] at h3
  injection h3 with _ h3
  simpa using h3.symm
/-- append where there is room, onto a block -/
theorem E_appin [HasTab P] {sz : Nat} {s e : TypeId} {gb off m c m2 c2 t : Nat} {A2 : Option Addr} {cur news : List Value} {i ei : Ti} {H' : List Asn} {K : List Value → List Asn} (hx : oget T x = some (.slice (some ⟨gb, off, none⟩) m c)) (hy : oget T y = some (.slice A2 m2 c2)) (hs : ty P s = some i) (hi : i.desc = .slice e) (he : ty P e = some ei) (hsz : ei.size = sz)
    [hu : HUp H gb t cur K] (hsrc : Srd w0 M H sz A2 m2 news) (h1 : ∀ v ∈ news, v.oneCell' = true) (hroom : m + m2 ≤ c) (hfit : off + m * sz + news.length ≤ cur.length) (hH : K (cur.take (off + m * sz) ++ news ++ cur.drop (off + m * sz + news.length)) = H') :
    Ef P n w0 M T H ⟨dd, .call ⟨.builtin .append, #[x, y], #[s, s]⟩, tt, pos, af, g⟩ (fun v H'' => v = .slice (some ⟨gb, off, none⟩) (m + m2) c ∧ H'' = H') := .mk fun a w ha hS => by
  subst hsz
  subst hH
  have hus : P.underlying s = some (.slice e) := hi ▸ ty_ok hs
  obtain ⟨j, hj, hj0, hj1, hj2⟩ := ty_info he
  have hg : Blk w gb t cur.toArray := hS.at_ (hu.upd cur).mem
  have hrd := hsrc.rd w hS
  have hsr : Go.Src P j.size s (.slice A2 m2 c2) m2 news w := by
    rw [hj1]
    rcases Nat.eq_zero_or_pos m2 with h0 | h0
    · subst h0
      obtain rfl : news = [] := List.eq_nil_of_length_eq_zero (by simpa using hrd.1)
      cases A2 with
      | none => exact Go.Src.ofNil w hus c2
      | some ad => exact Go.Src.ofSlice w hus ad 0 c2 [] (by simp) (by simp) (by simp)
    · obtain ⟨ad, rfl, _, hc⟩ := hrd.2 h0
      exact Go.Src.ofSlice w hus ad m2 c2 news hrd.1 hc h1
  have hrun := run_append_room_src (P := P) w s s tt e j hus hj gb off m c (.slice A2 m2 c2) m2 news hsr hroom (fun q hq => by rw [hg.cell, hj1, Array.getElem?_eq_getElem (by simp; omega)]; rfl) (fun q hq => hg.frozen _)
  rw [hj1, setCells_row P news cur.toArray _ hg (by simpa using hfit) h1] at hrun
  unfold Oper.wp
  simp only [execOp, resolve, invoke, builtin, Sem.run_bind, Sem.run_pure, Result.andThen_ok, List.map_toArray, List.map_cons, List.map_nil, ha.eval hx, ha.eval hy, hrun]
  refine ⟨_, _, ⟨rfl, rfl⟩, rfl, hS.upd (hu.upd _) (Kp.setRow gb _) ?_ fun _ h => h⟩
  have := setRow_heap w gb _ (cur.take (off + m * ei.size) ++ news ++ cur.drop (off + m * ei.size + news.length)).toArray t _ hg
  show Blk _ _ _ _
  unfold Blk
  simpa using this
theorem own_grown (w : World) (old need size : Nat) (e : TypeId) (z : Value) (cs : List Value) (ho : old < need) (hzs : z.cells.size = size) (hl : cs.length = need * size) (hm : need ≤ maxLen) :
    (w.drew.alloc (.cells (cs.toArray ++ Builtin.zeroCells z.cells (grownCap w need old e - need)) e)).ownsRow w.heap.size e size (.slice (some ⟨w.heap.size, 0, none⟩) need (grownCap w need old e)) need cs := by
  have hge := grownCap_ge w need old e
  refine ⟨hl, .inr ⟨w.heap.size, _, _, rfl, Nat.le_refl _, heap_alloc_new w.drew _, hge, grownCap_le_maxLen w need old e hm, ?_, ?_⟩⟩
  · simp only [Array.size_append, List.size_toArray, size_zeroCells, hzs, hl, ← Nat.add_mul]
    congr 1
    omega
  · simp only [Array.toList_append]
    rw [← hl]
    exact List.take_left
theorem kp_grown (w : World) (o : Obj) : Kp All w (w.drew.alloc o) := (Kp.alloc w o).trans ⟨rfl, rfl, rfl, by simp, fun k _ _ => rfl⟩
theorem firstCells_rd {w : World} {F : Nat → Prop} {size m c : Nat} {A : Option Addr} {xs : List Value} (h : Rd w F size A m xs) : (Builtin.firstCells size m (.slice A m c)).run P w = .ok xs.toArray w := by
  rcases Nat.eq_zero_or_pos m with h0 | h0
  · subst h0
    obtain rfl : xs = [] := List.eq_nil_of_length_eq_zero (by simpa using h.1)
    cases A with
    | none => exact run_firstCells_none w size 0 0 c
    | some ad => exact run_firstCells_some w size 0 ad 0 c [] (by simp) (by simp)
  · obtain ⟨ad, rfl, _, hc⟩ := h.2 h0
    exact run_firstCells_some w size m ad m c xs h.1 hc
/-- append where there is none -/
theorem E_appg [HasTab P] {sz : Nat} {s e : TypeId} {m c m2 c2 : Nat} {A A2 : Option Addr} {olds news : List Value} {i ei : Ti} (hx : oget T x = some (.slice A m c)) (hy : oget T y = some (.slice A2 m2 c2)) (hs : ty P s = some i) (hi : i.desc = .slice e) (he : ty P e = some ei) (hsz : ei.size = sz) (hz : ei.zero.cells.size = sz)
    (hold : Srd w0 M H sz A m olds) (hsrc : Srd w0 M H sz A2 m2 news) (h1 : ∀ v ∈ news, v.oneCell' = true) (hroom : c < m + m2) (hb : (m + m2) * ei.bytes ≤ 140737488355328) (hm : m + m2 ≤ maxLen) :
    Ef P n w0 M T H ⟨dd, .call ⟨.builtin .append, #[x, y], #[s, s]⟩, tt, pos, af, g⟩ (fun v H' => ∃ A' c', v = .slice A' (m + m2) c' ∧ H' = row e sz A' (m + m2) c' (olds ++ news) :: H) := .mk fun a w ha hS => by
  subst hsz
  have hus : P.underlying s = some (.slice e) := hi ▸ ty_ok hs
  obtain ⟨j, hj, hj0, hj1, hj2⟩ := ty_info he
  have hrd := hsrc.rd w hS
  have hro := hold.rd w hS
  have hsr : Go.Src P j.size s (.slice A2 m2 c2) m2 news w := by
    rw [hj1]
    rcases Nat.eq_zero_or_pos m2 with h0 | h0
    · subst h0
      obtain rfl : news = [] := List.eq_nil_of_length_eq_zero (by simpa using hrd.1)
      cases A2 with
      | none => exact Go.Src.ofNil w hus c2
      | some ad => exact Go.Src.ofSlice w hus ad 0 c2 [] (by simp) (by simp) (by simp)
    · obtain ⟨ad, rfl, _, hc⟩ := hrd.2 h0
      exact Go.Src.ofSlice w hus ad m2 c2 news hrd.1 hc h1
  have hrod : Rd w.drew All ei.size A m olds := hro.keep (⟨rfl, rfl, rfl, Nat.le_refl _, fun k _ _ => rfl⟩)
  have hrun := run_append_grow_src (P := P) w s s tt e j _ hus hj hj0 A m c olds (by rw [hj1]; exact firstCells_rd hrod) (.slice A2 m2 c2) m2 news hsr hroom (by simp only [maxLen] at hm; omega) (by rw [hj2]; exact growslice_fits hroom hb)
  have hown := own_grown w c (m + m2) ei.size e ei.zero (olds ++ news) hroom hz (by rw [List.length_append, hro.1, hrd.1, Nat.add_mul]) hm
  unfold Oper.wp
  simp only [execOp, resolve, invoke, builtin, Sem.run_bind, Sem.run_pure, Result.andThen_ok, List.map_toArray, List.map_cons, List.map_nil, ha.eval hx, ha.eval hy, hrun]
  refine ⟨_, _, ⟨_, _, rfl, rfl⟩, rfl, hS.add (kp_grown w _) (own_base hown (Nat.zero_le _)) (own_block hown)⟩
/-- append of so many noughts, where there is no room -/
theorem E_appz [HasTab P] {sz : Nat} {s sn e : TypeId} {m c q : Nat} {kq kn : IntKind} {A : Option Addr} {olds : List Value} {i i2 ei : Ti} (hx : oget T x = some (.slice A m c)) (hy : oget T y = some (.int kq (q : Int))) (hs : ty P s = some i) (hi : i.desc = .slice e) (hs2 : ty P sn = some i2) (hi2 : i2.desc = .int kn) (he : ty P e = some ei) (hsz : ei.size = sz) (hz : ei.zero.cells.size = sz) (hz0 : 0 < sz)
    (hold : Srd w0 M H sz A m olds) (h0 : 0 < q) (hroom : c < m + q) (hb : (m + q) * ei.bytes ≤ 140737488355328) (hm : m + q ≤ maxLen) :
    Ef P n w0 M T H ⟨dd, .call ⟨.builtin .append, #[x, y], #[s, sn]⟩, tt, pos, af, g⟩ (fun v H' => ∃ gb c' zs ys, v = .slice (some ⟨gb, 0, none⟩) (m + q) c' ∧ zs.length = q * sz ∧ ys.length = (c' - (m + q)) * sz ∧ m + q ≤ c' ∧ c' ≤ maxLen ∧ H' = pt gb e (olds ++ zs ++ ys) :: H) := .mk fun a w ha hS => by
  subst hsz
  have hus : P.underlying s = some (.slice e) := hi ▸ ty_ok hs
  obtain ⟨j, hj, hj0, hj1, hj2⟩ := ty_info he
  have hro := hold.rd w hS
  have hrod : Rd w.drew All ei.size A m olds := hro.keep (⟨rfl, rfl, rfl, Nat.le_refl _, fun k _ _ => rfl⟩)
  have hrun := Go.Lib.run_append_grow_zeros (P := P) w s sn tt e j _ kq kn hus (hi2 ▸ ty_ok hs2) hj hj0 A m c olds (by rw [hj1]; exact firstCells_rd hrod) q h0 (by omega) hroom (by simp only [maxLen] at hm; omega) (by rw [hj2]; have : q * ei.bytes ≤ (m + q) * ei.bytes := Nat.mul_le_mul_right _ (by omega); omega) (by rw [hj2]; exact growslice_fits hroom hb)
  have hzl : (Builtin.zeroCells ei.zero.cells q).toList.length = q * ei.size := by rw [Array.length_toList, size_zeroCells, hz]
  have e1 : olds.toArray ++ Builtin.zeroCells ei.zero.cells q ++ Builtin.zeroCells ei.zero.cells (grownCap w (m + q) c e - (m + q)) = (olds ++ (Builtin.zeroCells ei.zero.cells q).toList ++ (Builtin.zeroCells ei.zero.cells (grownCap w (m + q) c e - (m + q))).toList).toArray := by apply Array.ext'; simp
  rw [e1] at hrun
  unfold Oper.wp
  simp only [execOp, resolve, invoke, builtin, Sem.run_bind, Sem.run_pure, Result.andThen_ok, List.map_toArray, List.map_cons, List.map_nil, ha.eval hx, ha.eval hy, hrun]
  refine ⟨_, _, ⟨w.heap.size, _, _, _, rfl, hzl, by rw [Array.length_toList, size_zeroCells, hz], grownCap_ge w _ _ _, grownCap_le_maxLen w _ _ e hm, rfl⟩, rfl, hS.add (kp_grown w _) ?_ (fun k hk => ?_)⟩
  · show Blk _ _ _ _
    exact heap_alloc_new w.drew _
  · have hk : k = w.heap.size := hk
    subst hk
    simp
/-- clear -/
theorem E_clear [HasTab P] {sz : Nat} {s e : TypeId} {gb off m c t : Nat} {cur : List Value} {i ei : Ti} {K : List Value → List Asn} (hx : oget T x = some (.slice (some ⟨gb, off, none⟩) m c)) (hs : ty P s = some i) (hi : i.desc = .slice e) (he : ty P e = some ei) (hsz : ei.size = sz) (hz : ei.zero.cells.size = sz) (hz1 : ei.zero.cells.toList.all (fun v => v.oneCell') = true)
    [hu : HUp H gb t cur K] (hfit : off + m * sz ≤ cur.length) :
    Ef P n w0 M T H ⟨dd, .call ⟨.builtin .clear, #[x], #[s]⟩, tt, pos, af, g⟩ (fun v H' => ∃ zs, v = .tuple #[] ∧ zs.length = m * sz ∧ H' = K (cur.take off ++ zs ++ cur.drop (off + zs.length))) := .mk fun a w ha hS => by
  subst hsz
  have hus : P.underlying s = some (.slice e) := hi ▸ ty_ok hs
  have hg : Blk w gb t cur.toArray := hS.at_ (hu.upd cur).mem
  rcases Nat.eq_zero_or_pos m with h0 | h0
  · subst h0
    have hrun : (Builtin.clear_ #[s] tt #[.slice (some ⟨gb, off, none⟩) 0 c]).run P w = .ok (.tuple #[]) w := by simp [Builtin.clear_, run_underlying hus]
    unfold Oper.wp
    simp only [execOp, resolve, invoke, builtin, Sem.run_bind, Sem.run_pure, Result.andThen_ok, List.map_toArray, List.map_cons, List.map_nil, ha.eval hx, hrun]
    refine ⟨_, _, ⟨[], rfl, by simp, rfl⟩, rfl, ?_⟩
    have e : cur.take off ++ ([] : List Value) ++ cur.drop (off + ([] : List Value).length) = cur := by simp
    rw [e]
    exact hS.turn (hu.upd cur) id fun _ h => h
  · have hzl : (Builtin.zeroCells ei.zero.cells m).toList.length = m * ei.size := by rw [Array.length_toList, size_zeroCells, hz]
    have h1 : ∀ v ∈ (Builtin.zeroCells ei.zero.cells m).toList, v.oneCell' = true := fun v hv => by
      simp only [Builtin.zeroCells, Array.toList_map, List.mem_map] at hv
      obtain ⟨q, hq, rfl⟩ := hv
      have hq' : q < m * ei.zero.cells.size := by simpa using hq
      have hpos : 0 < ei.zero.cells.size := by
        rcases Nat.eq_zero_or_pos ei.zero.cells.size with h | h
        · rw [h] at hq'; omega
        · exact h
      have hlt := Nat.mod_lt q hpos
      refine List.all_eq_true.1 hz1 _ ?_
      rw [Array.getElem!_eq_getD, Array.getD_eq_getD_getElem?, Array.getElem?_eq_getElem hlt]
      simp
    obtain ⟨m', rfl⟩ : ∃ m', m = m' + 1 := ⟨m - 1, by omega⟩
    have hst := run_storeCells_at P gb off t _ 0 cur.toArray w hg (by rw [Nat.add_zero, hzl]; simpa using hfit) h1
    have hrun : (Builtin.clear_ #[s] tt #[.slice (some ⟨gb, off, none⟩) (m' + 1) c]).run P w = .ok (.tuple #[]) (w.setRow gb (cur.take off ++ (Builtin.zeroCells ei.zero.cells (m' + 1)).toList ++ cur.drop (off + (Builtin.zeroCells ei.zero.cells (m' + 1)).toList.length)).toArray) := by
      simp [Builtin.clear_, run_underlying hus, ty_zero he w, hst]
    unfold Oper.wp
    simp only [execOp, resolve, invoke, builtin, Sem.run_bind, Sem.run_pure, Result.andThen_ok, List.map_toArray, List.map_cons, List.map_nil, ha.eval hx, hrun]
    refine ⟨_, _, ⟨_, rfl, hzl, rfl⟩, rfl, hS.upd (hu.upd _) (Kp.setRow gb _) ?_ fun _ h => h⟩
    have := setRow_heap w gb _ (cur.take off ++ (Builtin.zeroCells ei.zero.cells (m' + 1)).toList ++ cur.drop (off + (Builtin.zeroCells ei.zero.cells (m' + 1)).toList.length)).toArray t _ hg
    show Blk _ _ _ _
    unfold Blk
    simpa using this
/-- parts of a slice at a known block -/
theorem cutP_at {gb off c lo sz : Nat} (h : lo < c) : cutP (some ⟨gb, off, none⟩) c lo sz = some ⟨gb, off + lo * sz, none⟩ := by
  unfold cutP
  rw [if_neg (by omega)]
  simp [pa, add_plain]
theorem T_sllg [HasTab P] {sz : Nat} {s e : TypeId} {gb off m c q : Nat} {z : Int} {kk : IntKind} {i ei : Ti} (hx : oget T x = some (.slice (some ⟨gb, off, none⟩) m c)) (hy : oget T y = some (.int kk z)) [hz : NatOf z q] (hs : ty P s = some i) (hi : i.desc = .slice e) (he : ty P e = some ei) (hsz : ei.size = sz) (hq : q ≤ m) (hq2 : q < c) (hc : m ≤ c) :
    Tk P n w0 M T H ⟨dd, .slice s x (some y) none none, tt, pos, af, g⟩ (.slice (some ⟨gb, off + q * sz, none⟩) (m - q) (c - q)) := by
  subst hsz
  rw [hz.is] at hy
  have h := T_sll (n := n) (w0 := w0) (M := M) (H := H) (dd := dd) (tt := tt) (pos := pos) (af := af) (g := g) hx hy hs hi he hq hc
  rwa [cutP_at hq2] at h
theorem T_slbg [HasTab P] {sz : Nat} {s e : TypeId} {gb off m c q r : Nat} {z1 z2 : Int} {kk kj : IntKind} {i ei : Ti} (hx : oget T x = some (.slice (some ⟨gb, off, none⟩) m c)) (hy : oget T y = some (.int kk z1)) (hz : oget T z = some (.int kj z2)) [h1 : NatOf z1 q] [h2 : NatOf z2 r] (hs : ty P s = some i) (hi : i.desc = .slice e) (he : ty P e = some ei) (hsz : ei.size = sz) (hq : q ≤ r) (hc : r ≤ c) (hq2 : q < c) :
    Tk P n w0 M T H ⟨dd, .slice s x (some y) (some z) none, tt, pos, af, g⟩ (.slice (some ⟨gb, off + q * sz, none⟩) (r - q) (c - q)) := by
  subst hsz
  rw [h1.is] at hy
  rw [h2.is] at hz
  have h := T_slb (n := n) (w0 := w0) (M := M) (H := H) (dd := dd) (tt := tt) (pos := pos) (af := af) (g := g) hx hy hz hs hi he hq hc
  rwa [cutP_at hq2] at h
theorem T_slN [HasTab P] {sz : Nat} {s e : TypeId} {A : Option Addr} {m c q : Nat} {z : Int} {kk : IntKind} {i ei : Ti} (hx : oget T x = some (.slice A m c)) (hy : oget T y = some (.int kk z)) [hz : NatOf z q] (hs : ty P s = some i) (hi : i.desc = .slice e) (he : ty P e = some ei) (hsz : ei.size = sz) (hq : q ≤ m) (hc : m ≤ c) :
    Tk P n w0 M T H ⟨dd, .slice s x (some y) none none, tt, pos, af, g⟩ (.slice (cutP A c q sz) (m - q) (c - q)) := by
  subst hsz
  rw [hz.is] at hy
  exact T_sll hx hy hs hi he hq hc
theorem T_slhN [HasTab P] {s e : TypeId} {A : Option Addr} {m c q : Nat} {z : Int} {kk : IntKind} {i ei : Ti} (hx : oget T x = some (.slice A m c)) (hy : oget T y = some (.int kk z)) [hz : NatOf z q] (hs : ty P s = some i) (hi : i.desc = .slice e) (he : ty P e = some ei) (hq : q ≤ c) :
    Tk P n w0 M T H ⟨dd, .slice s x none (some y) none, tt, pos, af, g⟩ (.slice A q c) := by
  rw [hz.is] at hy
  exact T_slh hx hy hs hi he hq
theorem T_cap [HasTab P] {s e : TypeId} {A : Option Addr} {m c : Nat} {i : Ti} (hx : oget T x = some (.slice A m c)) (hs : ty P s = some i) (hi : i.desc = .slice e) :
    Tk P n w0 M T H ⟨dd, .call ⟨.builtin .cap, #[x], #[s]⟩, tt, pos, af, g⟩ (.int .i64 (c : Int)) := .mk fun a w ha _ => by
  have hu := run_underlying (hi ▸ ty_ok hs) w
  simp [execOp, resolve, invoke, builtin, ha.eval hx, Builtin.cap_, hu, goInt]
/-- is it nil? -/
theorem T_eqnil [HasTab P] {s e u : TypeId} {A : Option Addr} {m c : Nat} {i : Ti} (hx : oget T x = some (.slice A m c)) (hy : oget T y = some (.slice none 0 0)) (hs : ty P s = some i) (hi : i.desc = .slice e) :
    Tk P n w0 M T H ⟨dd, .binOp .eql s x y u, tt, pos, af, g⟩ (.bool A.isNone) := .mk fun a w ha hS => by
  have h3 := Go.Lib.run_eql_slice_nil (P := P) w s e A m c 0 0 (hi ▸ ty_ok hs)
  simp [execOp, ha.eval hx, ha.eval hy, eqGuard, h3]
/-- append onto a literal without elements -/
theorem E_apple [HasTab P] {s e : TypeId} {sz gb : Nat} {A2 : Option Addr} {m2 c2 : Nat} {news : List Value} {i ei : Ti} (hx : oget T x = some (.slice (some ⟨gb, 0, none⟩) 0 0)) (hy : oget T y = some (.slice A2 m2 c2)) (hs : ty P s = some i) (hi : i.desc = .slice e) (he : ty P e = some ei) (hsz : ei.size = sz) (hz : ei.zero.cells.size = sz) (hz0 : 0 < sz)
    (hr : Rem H (pt gb e []) Hr) (hsrc : Srd w0 M H sz A2 m2 news) (h1 : ∀ u ∈ news, u.oneCell' = true) (hb : m2 * ei.bytes ≤ 140737488355328) (hm : m2 ≤ maxLen) :
    Ef P n w0 M T H ⟨dd, .call ⟨.builtin .append, #[x, y], #[s, s]⟩, tt, pos, af, g⟩ (fun v H' => ∃ A' c', v = .slice A' m2 c' ∧ H' = row e sz A' m2 c' news :: Hr) := by
  subst hsz
  exact E_appl hx hy hs hi he hz hz0 hr hsrc h1 hb hm
/-- s[lo:hi:mx] -/
theorem T_slbm [HasTab P] {sz : Nat} {v : Operand} {s e : TypeId} {A : Option Addr} {m c q r u : Nat} {z1 z2 z3 : Int} {kk kj kl : IntKind} {i ei : Ti} (hx : oget T x = some (.slice A m c)) (hy : oget T y = some (.int kk z1)) (hz : oget T z = some (.int kj z2)) (hv : oget T v = some (.int kl z3)) [h1 : NatOf z1 q] [h2 : NatOf z2 r] [h3 : NatOf z3 u] (hs : ty P s = some i) (hi : i.desc = .slice e) (he : ty P e = some ei) (hsz : ei.size = sz) (hq : q ≤ r) (hr : r ≤ u) (hu : u ≤ c) :
    Tk P n w0 M T H ⟨dd, .slice s x (some y) (some z) (some v), tt, pos, af, g⟩ (.slice (cutP A u q sz) (r - q) (u - q)) := .mk fun a w ha hS => by
  subst hsz
  rw [h1.is] at hy
  rw [h2.is] at hz
  rw [h3.is] at hv
  have := sliceAt_run (P := P) hs hi he (A := A) (m := m) (c := c) (lo := q) (hi' := r) hq (by omega) (some (.int kk (q : Int))) (some (.int kj (r : Int))) (some (.int kl (u : Int))) (.inr ⟨kk, rfl⟩) (.inr ⟨kj, rfl⟩) u (.inr ⟨⟨kl, rfl⟩, rfl, hr, hu⟩) w
  simp only [execOp, ha.eval hx, ha.eval hy, ha.eval hz, ha.eval hv, Option.map_some, Sem.run_bind, this, Result.andThen_ok, Sem.run_pure]
/-- calls by contracts: nothing made; a part made; parts turned into one -/
theorem E_gv0 {f : FuncId} {xs : Array Operand} {vs : List Value} {X : Type} {V : X → Value} {I : X → Prop} {A : X → List Asn} (hf : Fn_ P f) (hx : ogets T xs.toList = some vs) (hc : ∀ w, St w0 M H w → Gives P f vs [] w V I A) (hA : ∀ x, A x = []) :
    Ef P n w0 M T H ⟨dd, .call ⟨.value (.func f), xs, ts⟩, tt, pos, af, g⟩ (fun u H' => ∃ x, u = V x ∧ I x ∧ H' = H) := by
  refine (E_gv hf hx hc).mono ?_
  rintro v H' ⟨x, rfl, hI, rfl⟩ w hS
  rw [hA, List.nil_append] at hS
  exact ⟨_, _, rfl, ⟨x, rfl, hI, rfl⟩, hS⟩
theorem E_gv1 {f : FuncId} {xs : Array Operand} {vs : List Value} {X : Type} {V : X → Value} {I : X → Prop} {A : X → List Asn} {B : X → Asn} (hf : Fn_ P f) (hx : ogets T xs.toList = some vs) (hc : ∀ w, St w0 M H w → Gives P f vs [] w V I A) (hA : ∀ x, A x = [B x]) :
    Ef P n w0 M T H ⟨dd, .call ⟨.value (.func f), xs, ts⟩, tt, pos, af, g⟩ (fun u H' => ∃ x, u = V x ∧ I x ∧ H' = B x :: H) := by
  refine (E_gv hf hx hc).mono ?_
  rintro v H' ⟨x, rfl, hI, rfl⟩ w hS
  rw [hA] at hS
  exact ⟨_, _, rfl, ⟨x, rfl, hI, rfl⟩, hS⟩
theorem E_gt1 {f : FuncId} {xs : Array Operand} {vs : List Value} {X : Type} {V : X → Value} {I : X → Prop} {A : X → List Asn} {A1 : Asn} {B : X → Asn} [h1 : RemC H A1 Hr] (hf : Fn_ P f) (hx : ogets T xs.toList = some vs) (hc : ∀ w, St w0 M (A1 :: Hr) w → St w (owns [A1]) [A1] w → Gives P f vs [A1] w V I A) (hA : ∀ x, A x = [B x]) :
    Ef P n w0 M T H ⟨dd, .call ⟨.value (.func f), xs, ts⟩, tt, pos, af, g⟩ (fun u H' => ∃ x, u = V x ∧ I x ∧ H' = B x :: Hr) := by
  refine (E_call [A1] Hr V I A hx hf (fun w hS => hS.perm h1.perm) fun w hS => hc w hS (St.again (As := [A1]) hS)).mono ?_
  rintro v H' ⟨x, hI, rfl, rfl⟩ w hS
  rw [hA] at hS
  exact ⟨_, _, rfl, ⟨x, rfl, hI, rfl⟩, hS⟩
theorem E_gt2 {f : FuncId} {xs : Array Operand} {vs : List Value} {X : Type} {V : X → Value} {I : X → Prop} {A : X → List Asn} {A1 A2 : Asn} {H1 : List Asn} {B : X → Asn} [h1 : RemC H A1 H1] [h2 : RemC H1 A2 Hr] (hf : Fn_ P f) (hx : ogets T xs.toList = some vs) (hc : ∀ w, St w0 M (A1 :: A2 :: Hr) w → St w (owns [A1, A2]) [A1, A2] w → Gives P f vs [A1, A2] w V I A) (hA : ∀ x, A x = [B x]) :
    Ef P n w0 M T H ⟨dd, .call ⟨.value (.func f), xs, ts⟩, tt, pos, af, g⟩ (fun u H' => ∃ x, u = V x ∧ I x ∧ H' = B x :: Hr) := by
  refine (E_call [A1, A2] Hr V I A hx hf (fun w hS => hS.perm (h1.perm.trans (List.Perm.cons _ h2.perm))) fun w hS => hc w hS (St.again (As := [A1, A2]) hS)).mono ?_
  rintro v H' ⟨x, hI, rfl, rfl⟩ w hS
  rw [hA] at hS
  exact ⟨_, _, rfl, ⟨x, rfl, hI, rfl⟩, hS⟩
/-- slices in two blocks do not overlap -/
theorem E_over [HasTab P] {f : FuncId} {fn : Func} {s b e : TypeId} {ga oa la ca gb ob lb cb ta tb : Nat} {ca' cb' : List Value} {i ei : Ti} (hf : P.funcs[f]? = some fn) (hname : (fn.name == "runtime.NumGoroutine") = false) (hb : fn.body.isNone = true) (hn : Extern.findNext fn = none) (he' : Extern.find fn = some (Extern.SlicesOverlaps.overlaps #[s, s] #[b]))
    (hx : oget T x = some (.slice (some ⟨ga, oa, none⟩) la ca)) (hy : oget T y = some (.slice (some ⟨gb, ob, none⟩) lb cb)) (hs : ty P s = some i) (hi : i.desc = .slice e) (he : ty P e = some ei) (ha : Hat H ga ta ca') (hbb : Hat H gb tb cb') (hne : ga ≠ gb) (h0 : 0 < cb'.length) :
    Ef P n w0 M T H ⟨dd, .call ⟨.value (.func f), #[x, y], ts⟩, tt, pos, af, g⟩ (fun u H' => u = .bool false ∧ H' = H) := .mk fun a w hT hS => by
  have h1 : Blk w ga ta ca'.toArray := hS.at_ ha.mem
  have h2 : Blk w gb tb cb'.toArray := hS.at_ hbb.mem
  have hrun : (callFunc f #[.slice (some ⟨ga, oa, none⟩) la ca, .slice (some ⟨gb, ob, none⟩) lb cb]).run P w = .ok (.value (.bool false)) w := by
    rw [run_callFunc_extern hf hname hb hn he', Go.Lib.run_overlaps_apart w s b e (hi ▸ ty_ok hs) ei.size (fun w => ty_size he w) ⟨ga, oa, none⟩ ⟨gb, ob, none⟩ la ca lb cb hne ta tb ca'.length cb'.length
      (by simp only [World.shape?]; unfold Blk at h1; simp [h1]) (by simp only [World.shape?]; unfold Blk at h2; simp [h2]) (by omega) (h1.frozen _) (h1.frozen _)]
    rfl
  unfold Oper.wp
  have : (execOp a.eval ⟨dd, .call ⟨.value (.func f), #[x, y], ts⟩, tt, pos, af, g⟩).run P w = .ok (.value (.bool false)) w := by
    have e1 : a.eval (.func f) = .func (.func f) #[] #[] := rfl
    simp [execOp, resolve, Deferred.ofValue, invoke, e1, hT.eval hx, hT.eval hy, hrun]
  rw [this]
  exact ⟨_, _, ⟨rfl, rfl⟩, rfl, hS⟩
end
theorem ins_shift {α} (xs ys : List α) (v : α) (i m : Nat) (hx : xs.length = m) (hi : i < m) (hy : 1 ≤ ys.length) (R : List α) :
    ((((xs ++ ys).take (i + 1) ++ xs.drop i ++ R).take i ++ [v] ++ ((xs ++ ys).take (i + 1) ++ xs.drop i ++ R).drop (i + 1))).take (m + 1) = xs.take i ++ v :: xs.drop i := by
  have h1 : ((xs ++ ys).take (i + 1)).length = i + 1 := by simp; omega
  have h2 : ((xs ++ ys).take (i + 1) ++ xs.drop i ++ R).take i = xs.take i := by
    rw [List.append_assoc, List.take_append_of_le_length (by omega), List.take_take, List.take_append_of_le_length (by omega)]
    congr 1; omega
  have h3 : ((xs ++ ys).take (i + 1) ++ xs.drop i ++ R).drop (i + 1) = xs.drop i ++ R := by
    rw [List.append_assoc, List.drop_left' h1]
  rw [h2, h3]
  have h4 : xs.take i ++ [v] ++ (xs.drop i ++ R) = (xs.take i ++ v :: xs.drop i) ++ R := by simp
  rw [h4, List.take_left' (by simp; omega)]
theorem ins_grow {α} (xs zs ys : List α) (v : α) (i m : Nat) (hx : xs.length = m) (hi : i < m) (R Q : List α) :
    (((xs.take i ++ zs ++ ys).take i ++ [v] ++ R).take (i + 1) ++ xs.drop i ++ Q).take (m + 1) = xs.take i ++ v :: xs.drop i := by
  have h2 : ((xs.take i ++ zs ++ ys)).take i = xs.take i := by
    rw [List.append_assoc, List.take_left' (by simp; omega)]
  rw [h2, List.take_left' (l₁ := xs.take i ++ [v]) (by simp; omega)]
  have h4 : xs.take i ++ [v] ++ xs.drop i ++ Q = (xs.take i ++ v :: xs.drop i) ++ Q := by simp
  rw [h4, List.take_left' (by simp; omega)]
/-- elements taken out -/
theorem del_ {α} (xs ys zs : List α) (i j m : Nat) (hx : xs.length = m) (hij : i ≤ j) (hj : j ≤ m) (R Q : List α) :
    (((xs ++ ys).take i ++ xs.drop j ++ R).take (i + (m - j)) ++ zs ++ Q).take (i + (m - j)) = xs.take i ++ xs.drop j := by
  have h1 : ((xs ++ ys).take i ++ xs.drop j ++ R).take (i + (m - j)) = xs.take i ++ xs.drop j := by
    rw [List.take_left' (l₁ := (xs ++ ys).take i ++ xs.drop j) (by simp; omega), List.take_append_of_le_length (by omega)]
  rw [h1, List.append_assoc, List.take_left' (by simp; omega)]
/-- a closure that holds its last arguments is called -/
theorem E_cloA {P : Program} {n : Nat} {w0 : World} {M : Nat → Prop} {T : Slots} {H : List Asn} {dd : Option Tmp} {tt : TypeId} {pos : String} {af : Array Edge} {g : Option (Nat × Bool)} {x : Operand} {f : FuncId} {cap : List Value} {xs : Array Operand} {E : Value → List Asn → Prop} {ts : Array TypeId} (hx : oget T x = some (.func (.func f) #[] cap.toArray)) (h : Ef P n w0 M T H ⟨dd, .call ⟨.value (.func f), xs ++ (cap.map Operand.const).toArray, ts⟩, tt, pos, af, g⟩ E) :
    Ef P n w0 M T H ⟨dd, .call ⟨.value x, xs, ts⟩, tt, pos, af, g⟩ E := h.same fun a w ha => by
  have e2 : ((xs ++ (cap.map Operand.const).toArray).map a.eval) = xs.map a.eval ++ cap.toArray := by
    have e3 : (cap.map Operand.const).map a.eval = cap := by
      rw [List.map_map]
      conv => rhs; rw [← List.map_id cap]
      rfl
    have e4 : (cap.map Operand.const).toArray.map a.eval = cap.toArray := by rw [List.map_toArray, e3]
    rw [Array.map_append, e4]
  have e1 : (a.eval (.func f)) = .func (.func f) #[] #[] := rfl
  simp [execOp, resolve, Deferred.ofValue, invoke, ha.eval hx, e2, e1]
end Go.Proofs.Ytclmaoagdkhboaa
