/- Messages that came in, opened; what the listed variable gives. -/
import Derived.Test.YtdbehejbeioboaaDoorFrH
import Derived.Test.YtdbehejbeioboaaDoorRows
import Derived.Test.YtdbehejbeioboaaDoorOpen
import Derived.Test.YtdbehejbeioboaaDoorOpR
import Derived.LaidMore
import Derived.Stop.Joined
namespace Go.Proofs.YtdbehejbeioboaaDoor
open Go.RowKit Go.ChangeShapes Go.WideShapes Go.ChangeAt
open Asn (pt row rb)
set_option linter.unusedVariables false
set_option linter.unusedSimpArgs false
--@use N

def rootsI : List Int := rootsL.map fun x => (x.toNat : Int)
theorem roots_datum : (Rows.laid_confluence_sha_roots : DataW Unit) = .agg (rootsI.map fun k => .lit (.int .u32 k)) := by kernel_rfl
theorem rootsI_len : rootsI.length = 64 := rfl
set_option maxRecDepth 100000 in
theorem laid_roots {W : World} (h : laidMetH Tryd.prog [("confluence/sha.roots", Rows.laid_confluence_sha_roots)] W) : Roots W := by
  rw [MakeChecks.laidMetH_plain _ _ _ (by kernel_rfl)] at h
  obtain ⟨ps, ⟨g0, t0, cs0, f0, p0, q0, hg0, ht0, hv0, hd0, _, _⟩, _, _⟩ := h
  obtain rfl := Option.some.inj ((show Tryd.prog.globalNamed "confluence/sha.roots" = some 0 by kernel_rfl).symm.trans hg0)
  obtain rfl := Option.some.inj ((show (Tryd.prog.globals[0]?).map (·.type) = some 118 by kernel_rfl).symm.trans ht0)
  obtain ⟨xs, m1, _, hx1, hl, hn3, hel⟩ := DataW.trod_array Tryd.underlying118 hd0
  have c1 : Tryd.prog.cellsOf 72 = 1 := by kernel_rfl
  have c2 : Tryd.prog.cellsOf 118 = 64 := by kernel_rfl
  rw [c2] at hl
  rw [roots_datum] at hx1
  simp only [Prod.mk.injEq, DataW.agg.injEq] at hx1
  have hxs : xs.map (·.1) = rootsI.map fun k => .lit (.int .u32 k) := hx1.1.symm
  have hxl : xs.length = 64 := by have := congrArg List.length hxs; simpa [rootsI_len] using this
  have hsz : cs0.size = 64 := by simpa using hl
  refine ⟨by simp [roots_len], fun _ => ⟨_, rfl, rfl, fun j v hv => ?_⟩⟩
  rw [add_plain, Nat.zero_add, World.var?_cell hg0 hv0 j]
  have hj : j < 64 := by have := (List.getElem?_eq_some_iff.1 hv).1; simpa [roots_len] using this
  have h1 := hel j hj
  rw [c1, Nat.mul_one] at h1
  have h2 : (cs0.toList.drop j).take 1 = [cs0.toList[j]'(by simp; omega)] := by
    rw [List.drop_eq_getElem_cons (by simp; omega)]
    rfl
  rw [h2] at h1
  obtain ⟨y, hy⟩ : ∃ y, xs[j]? = some y := ⟨_, List.getElem?_eq_getElem (by omega)⟩
  rw [hy] at h1
  obtain ⟨z, e, e2, hz⟩ := DataW.trod_int Tryd.underlying72 h1
  injection e with e
  have h3 : (xs.map (·.1))[j]? = some (.lit (.int .u32 z)) := by rw [List.getElem?_map, hy, e2]; rfl
  rw [hxs, List.getElem?_map] at h3
  have h4 : (rootsL.map w32)[j]? = (rootsI.map (Value.int .u32))[j]? := by rw [rootsI, List.map_map]; rfl
  rw [hv, List.getElem?_map] at h4
  rw [List.getElem?_eq_getElem (show j < rootsI.length by rw [rootsI_len]; exact hj)] at h3 h4
  simp only [Option.map_some, Option.some.injEq, DataW.lit.injEq, Lit.int.injEq, true_and] at h3 h4
  rw [h4, h3, ← e]
  simp
theorem wf_u64 {n : Int} (h : (Lit.int .u64 n).wf = true) : ∃ k : Nat, n = (k : Int) ∧ k < 18446744073709551616 := by
  have : 0 ≤ n ∧ n < 18446744073709551616 := by
    have := bounds_u64 h
    omega
  exact ⟨n.toNat, by omega, by omega⟩
section
variable {H : Type} {enc : TypeId × Value → H} {W : World}
set_option maxRecDepth 100000 in
theorem op_entry {cs : List Value} (h : Op_ enc Tryd.prog W 46 cs) : ∃ m : Em, cs = emc m ∧ BsM W m ∧ m.1 < 18446744073709551616 := by
  obtain ⟨hl, hf⟩ := h.struct Tryd.underlying46
  have c0 : Tryd.prog.cellsOf 46 = 3 := by kernel_rfl
  have c1 : Tryd.prog.cellsOf 22 = 1 := by kernel_rfl
  have c2 : Tryd.prog.cellsOf 3 = 1 := by kernel_rfl
  have c3 : Tryd.prog.cellsOf 29 = 1 := by kernel_rfl
  rw [c0] at hl
  have g0 : Op_ enc Tryd.prog W 22 ((cs.drop 0).take (Tryd.prog.cellsOf 22)) := hf 0 _ rfl
  have g1 : Op_ enc Tryd.prog W 3 ((cs.drop 1).take (Tryd.prog.cellsOf 3)) := hf 1 _ rfl
  have g2 : Op_ enc Tryd.prog W 29 ((cs.drop 2).take (Tryd.prog.cellsOf 29)) := hf 2 _ rfl
  rw [c1] at g0
  rw [c2] at g1
  rw [c3] at g2
  obtain ⟨a, ha, hwa⟩ := Op_.int Tryd.underlying22 g0
  obtain ⟨b, hb, _⟩ := Op_.int Tryd.underlying3 g1
  obtain ⟨A, n, c, l, hc, hbs⟩ := Op_.bytes Tryd.underlying29 Tryd.underlying5 (by kernel_rfl) g2
  obtain ⟨k, rfl, hk⟩ := wf_u64 hwa
  have hln : l.length = n := by have := hbs.rd.1; simpa using this
  subst hln
  have hcap : l.length ≤ c := hbs.cap
  match cs, hl with
  | [u, v, w], _ =>
    simp at ha hb hc
    exact ⟨(k, b, A, c, l), by rw [ha, hb, hc]; rfl, hbs, hk⟩
set_option maxRecDepth 100000 in
theorem op_at {cs : List Value} (h : Op_ enc Tryd.prog W 24 cs) : ∃ a : At, cs = atc a ∧ a.1 < 18446744073709551616 ∧ a.2 < 18446744073709551616 := by
  have c1 : Tryd.prog.cellsOf 24 = 2 := by kernel_rfl
  have c3 : Tryd.prog.cellsOf 22 = 1 := by kernel_rfl
  obtain ⟨hl2, hf2⟩ := h.struct Tryd.underlying24
  rw [c1] at hl2
  have g2 : Op_ enc Tryd.prog W 22 ((cs.drop 0).take (Tryd.prog.cellsOf 22)) := hf2 0 _ rfl
  have g3 : Op_ enc Tryd.prog W 22 ((cs.drop 1).take (Tryd.prog.cellsOf 22)) := hf2 1 _ rfl
  rw [c3] at g2 g3
  obtain ⟨i, hi, hwi⟩ := Op_.int Tryd.underlying22 g2
  obtain ⟨t, ht, hwt⟩ := Op_.int Tryd.underlying22 g3
  obtain ⟨i, rfl, hi2⟩ := wf_u64 hwi
  obtain ⟨t, rfl, ht2⟩ := wf_u64 hwt
  refine ⟨(i, t), ?_, hi2, ht2⟩
  match cs, hl2 with
  | [u, v], _ =>
    simp at hi ht
    rw [hi, ht]
    rfl
set_option maxRecDepth 100000 in
theorem op_msg {cs : List Value} (h : Op_ enc Tryd.prog W 31 cs) : ∃ (x : Ms) (p : Mp), cs = mgc x p ∧ MsR W x p ∧ MsU x := by
  obtain ⟨hl, hf⟩ := h.struct Tryd.underlying31
  have c0 : Tryd.prog.cellsOf 31 = 12 := by kernel_rfl
  have zint : Tryd.prog.cellsOf 3 = 1 := by kernel_rfl
  have zu64 : Tryd.prog.cellsOf 22 = 1 := by kernel_rfl
  have zat : Tryd.prog.cellsOf 24 = 2 := by kernel_rfl
  have zes : Tryd.prog.cellsOf 25 = 1 := by kernel_rfl
  have zbool : Tryd.prog.cellsOf 4 = 1 := by kernel_rfl
  have zcf : Tryd.prog.cellsOf 28 = 1 := by kernel_rfl
  have zby : Tryd.prog.cellsOf 29 = 1 := by kernel_rfl
  have zints : Tryd.prog.cellsOf 26 = 1 := by kernel_rfl
  rw [c0] at hl
  have g0 : Op_ enc Tryd.prog W 3 ((cs.drop 0).take (Tryd.prog.cellsOf 3)) := hf 0 _ rfl
  rw [zint] at g0
  have g1 : Op_ enc Tryd.prog W 3 ((cs.drop 1).take (Tryd.prog.cellsOf 3)) := hf 1 _ rfl
  rw [zint] at g1
  have g2 : Op_ enc Tryd.prog W 3 ((cs.drop 2).take (Tryd.prog.cellsOf 3)) := hf 2 _ rfl
  rw [zint] at g2
  have g3 : Op_ enc Tryd.prog W 22 ((cs.drop 3).take (Tryd.prog.cellsOf 22)) := hf 3 _ rfl
  rw [zu64] at g3
  have g4 : Op_ enc Tryd.prog W 24 ((cs.drop 4).take (Tryd.prog.cellsOf 24)) := hf 4 _ rfl
  rw [zat] at g4
  have g5 : Op_ enc Tryd.prog W 25 ((cs.drop 6).take (Tryd.prog.cellsOf 25)) := hf 5 _ rfl
  rw [zes] at g5
  have g6 : Op_ enc Tryd.prog W 22 ((cs.drop 7).take (Tryd.prog.cellsOf 22)) := hf 6 _ rfl
  rw [zu64] at g6
  have g7 : Op_ enc Tryd.prog W 4 ((cs.drop 8).take (Tryd.prog.cellsOf 4)) := hf 7 _ rfl
  rw [zbool] at g7
  have g8 : Op_ enc Tryd.prog W 22 ((cs.drop 9).take (Tryd.prog.cellsOf 22)) := hf 8 _ rfl
  rw [zu64] at g8
  have g9 : Op_ enc Tryd.prog W 28 ((cs.drop 10).take (Tryd.prog.cellsOf 28)) := hf 9 _ rfl
  rw [zcf] at g9
  have g10 : Op_ enc Tryd.prog W 29 ((cs.drop 11).take (Tryd.prog.cellsOf 29)) := hf 10 _ rfl
  rw [zby] at g10
  obtain ⟨K, e0, _⟩ := Op_.int Tryd.underlying3 g0
  obtain ⟨F, e1, _⟩ := Op_.int Tryd.underlying3 g1
  obtain ⟨T, e2, _⟩ := Op_.int Tryd.underlying3 g2
  obtain ⟨tm, e3, w3⟩ := Op_.int Tryd.underlying22 g3
  obtain ⟨tm, rfl, u3⟩ := wf_u64 w3
  obtain ⟨cm, e6, w6⟩ := Op_.int Tryd.underlying22 g6
  obtain ⟨cm, rfl, u6⟩ := wf_u64 w6
  obtain ⟨ix, e8, w8⟩ := Op_.int Tryd.underlying22 g8
  obtain ⟨ix, rfl, u8⟩ := wf_u64 w8
  obtain ⟨⟨p1, p2⟩, e4, u41, u42⟩ := op_at g4
  obtain ⟨A, n, c, xs, e5, h51, h52, h53, h54⟩ := g5.slice Tryd.underlying25 (size := 3) (by kernel_rfl)
  obtain ⟨Q, hQ, rfl, hall⟩ := rows_of (n := 0) (size := 3) (f := emc) emc_len (fun m : Em => BsM W m ∧ m.1 < 18446744073709551616) _ _ h53.1 fun i hi => op_entry (h54 i hi)
  obtain ⟨m7, x7, h7⟩ := g7
  obtain ⟨ok, e7, _⟩ := DataW.trod_bool Tryd.underlying4 h7
  obtain ⟨hl9, hf9⟩ := g9.struct Tryd.underlying28
  have g9' : Op_ enc Tryd.prog W 26 ((((cs.drop 10).take 1).drop 0).take (Tryd.prog.cellsOf 26)) := hf9 0 _ rfl
  rw [zints] at g9'
  obtain ⟨cA, cn, cc, zs, e9, h91, h92, h93, _⟩ := Op_.ints (k := .i64) Tryd.underlying26 Tryd.underlying3 (by kernel_rfl) g9'
  obtain ⟨dA, dn, dc, l, e10, hbs⟩ := Op_.bytes Tryd.underlying29 Tryd.underlying5 (by kernel_rfl) g10
  have hln : l.length = dn := by have := hbs.rd.1; simpa using this
  have hlz : zs.length = cn := by have := h93.1; simpa using this
  subst hQ
  match cs, hl with
  | [v0, v1, v2, v3, v4, v5, v6, v7, v8, v9, v10, v11], _ =>
    simp at e0 e1 e2 e3 e4 e5 e6 e7 e8 e9 e10
    have e4 : v4 = .int .u64 (p1 : Int) ∧ v5 = .int .u64 (p2 : Int) := by simpa [atc] using e4
    refine ⟨⟨K, F, T, tm, (p1, p2), Q.map emv, cm, ok, ix, zs, l⟩, ⟨A, Q.length, c, cA, cn, cc, dA, dn, dc, Q⟩, ?_, ⟨rfl, Nat.le_trans h51 h52, rfl, h53, fun m hm => ?_, hlz, Nat.le_trans h91 h92, h93, hbs⟩, ⟨u3, u41, u42, u6, u8, fun e he => ?_⟩⟩
    · rw [e0, e1, e2, e3, e4.1, e4.2, e5, e6, e7, e8, e9, e10]
      rfl
    · exact (hall m hm).1
    · obtain ⟨m, hm, rfl⟩ := List.mem_map.1 he
      exact (hall m hm).2
theorem eqL_rfl (x : Ms) : (eqL x x).all id = true := by rw [eqL_dec]; exact decide_eq_true rfl
set_option maxRecDepth 100000 in
theorem open_msg {r : Reach} {base : Nat} {v : Value} {d : DataW H} {p : List MemPlace} (hv : Value.okWide Tryd.prog W r base 31 v) (h : DataW.Trod enc Tryd.prog W 0 (fun _ => true) true 31 v d p) :
    ∃ (x : Ms) (p : Mp), v = .agg (mgc x p).toArray ∧ MsR W x p ∧ MsU x := by
  obtain ⟨Z, rfl, hZ⟩ := okWide_struct Tryd.underlying31 hv
  obtain ⟨x, p, hcs, h1, h2⟩ := op_msg (Op_.of_trod h)
  refine ⟨x, p, ?_, h1, h2⟩
  have e : Z = (Z.toList).toArray := by simp
  have hcs : Z.toList = mgc x p := hcs
  rw [e, hcs]
end
theorem Kp.below {w w' : World} (h : Kp All w w') : Below w.heap.size w w' := ⟨h.os, h.tape, h.output, h.size, fun k hk => h.block k trivial hk⟩
end Go.Proofs.YtdbehejbeioboaaDoor
