/- Logs that came in, opened; cut short; what a log has behind a cut. -/
import Derived.Test.YtkdpfnaaopimoaaLgC
namespace Go.Proofs.Ytkdpfnaaopimoaa
open Go.RowKit Go.ChangeShapes Go.WideShapes Go.ChangeAt
open Asn (pt row rb)
set_option linter.unusedVariables false
set_option linter.unusedSimpArgs false
--@use N

theorem wf_u64 {n : Int} (h : (Lit.int .u64 n).wf = true) : ∃ k : Nat, n = (k : Int) ∧ k < 18446744073709551616 := by
  have : 0 ≤ n ∧ n < 18446744073709551616 := by
    have := bounds_u64 h
    omega
  exact ⟨n.toNat, by omega, by omega⟩
section
variable {H : Type} {enc : TypeId × Value → H} {W : World}
set_option maxRecDepth 100000 in
theorem op_entry {cs : List Value} (h : Op_ enc Try.prog W 44 cs) : ∃ m : Em, cs = emc m ∧ Rd W All 1 m.2.2.1 m.2.2.2.2.length (m.2.2.2.2.map bv) ∧ m.2.2.2.2.length ≤ m.2.2.2.1 ∧ m.1 < 18446744073709551616 := by
  obtain ⟨hl, hf⟩ := h.struct Try.underlying44
  have c0 : Try.prog.cellsOf 44 = 3 := by kernel_rfl
  have c1 : Try.prog.cellsOf 22 = 1 := by kernel_rfl
  have c2 : Try.prog.cellsOf 3 = 1 := by kernel_rfl
  have c3 : Try.prog.cellsOf 42 = 1 := by kernel_rfl
  rw [c0] at hl
  have g0 : Op_ enc Try.prog W 22 ((cs.drop 0).take (Try.prog.cellsOf 22)) := hf 0 _ rfl
  have g1 : Op_ enc Try.prog W 3 ((cs.drop 1).take (Try.prog.cellsOf 3)) := hf 1 _ rfl
  have g2 : Op_ enc Try.prog W 42 ((cs.drop 2).take (Try.prog.cellsOf 42)) := hf 2 _ rfl
  rw [c1] at g0
  rw [c2] at g1
  rw [c3] at g2
  obtain ⟨a, ha, hwa⟩ := Op_.int Try.underlying22 g0
  obtain ⟨b, hb, _⟩ := Op_.int Try.underlying3 g1
  obtain ⟨A, n, c, l, hc, hbs⟩ := Op_.bytes Try.underlying42 Try.underlying5 (by kernel_rfl) g2
  obtain ⟨k, rfl, hk⟩ := wf_u64 hwa
  have hln : l.length = n := by have := hbs.rd.1; simpa using this
  subst hln
  have hcap : l.length ≤ c := hbs.cap
  match cs, hl with
  | [u, v, w], _ =>
    simp at ha hb hc
    exact ⟨(k, b, A, c, l), by rw [ha, hb, hc]; rfl, hbs.rd, hcap, hk⟩
set_option maxRecDepth 100000 in
theorem op_log {cs : List Value} (h : Op_ enc Try.prog W 27 cs) : ∃ (a : At) (A : Option Addr) (c : Nat) (Q : List Em), cs = lgc a A Q.length c ∧ Rd W All 3 A Q.length (cellsL emc Q) ∧ RDt W All (Q.map emd) ∧ Q.length ≤ c ∧ (∀ m ∈ Q, m.2.2.2.2.length ≤ m.2.2.2.1 ∧ m.1 < 18446744073709551616) ∧ a.1 < 18446744073709551616 ∧ a.2 < 18446744073709551616 := by
  obtain ⟨hl, hf⟩ := h.struct Try.underlying27
  have c0 : Try.prog.cellsOf 27 = 3 := by kernel_rfl
  have c1 : Try.prog.cellsOf 24 = 2 := by kernel_rfl
  have c2 : Try.prog.cellsOf 25 = 1 := by kernel_rfl
  have c3 : Try.prog.cellsOf 22 = 1 := by kernel_rfl
  rw [c0] at hl
  have g0 : Op_ enc Try.prog W 24 ((cs.drop 0).take (Try.prog.cellsOf 24)) := hf 0 _ rfl
  have g1 : Op_ enc Try.prog W 25 ((cs.drop 2).take (Try.prog.cellsOf 25)) := hf 1 _ rfl
  rw [c1] at g0
  rw [c2] at g1
  obtain ⟨hl2, hf2⟩ := g0.struct Try.underlying24
  have g2 : Op_ enc Try.prog W 22 (((((cs.drop 0).take 2)).drop 0).take (Try.prog.cellsOf 22)) := hf2 0 _ rfl
  have g3 : Op_ enc Try.prog W 22 (((((cs.drop 0).take 2)).drop 1).take (Try.prog.cellsOf 22)) := hf2 1 _ rfl
  rw [c3] at g2 g3
  obtain ⟨i, hi, hwi⟩ := Op_.int Try.underlying22 g2
  obtain ⟨t, ht, hwt⟩ := Op_.int Try.underlying22 g3
  obtain ⟨i, rfl, hi2⟩ := wf_u64 hwi
  obtain ⟨t, rfl, ht2⟩ := wf_u64 hwt
  obtain ⟨A, n, c, xs, hcs, h1, h2, h3, h4⟩ := g1.slice Try.underlying25 (size := 3) (by kernel_rfl)
  obtain ⟨Q, hQ, rfl, hall⟩ := rows_of (n := 0) (size := 3) (f := emc) emc_len (fun m : Em => Rd W All 1 m.2.2.1 m.2.2.2.2.length (m.2.2.2.2.map bv) ∧ m.2.2.2.2.length ≤ m.2.2.2.1 ∧ m.1 < 18446744073709551616) _ _ h3.1 fun i hi => op_entry (h4 i hi)
  subst hQ
  refine ⟨(i, t), A, c, Q, ?_, h3, fun d hd => ?_, h1, fun m hm => (hall m hm).2, hi2, ht2⟩
  · match cs, hl with
    | [u, v, w], _ =>
      simp at hi ht hcs
      rw [hi, ht, hcs]
      rfl
  · obtain ⟨m, hm, rfl⟩ := List.mem_map.1 hd
    exact (hall m hm).1
set_option maxRecDepth 100000 in
theorem open_log {r : Reach} {base : Nat} {v : Value} {d : DataW H} {p : List MemPlace} (hv : Value.okWide Try.prog W r base 27 v) (h : DataW.Trod enc Try.prog W 0 (fun _ => true) true 27 v d p) :
    ∃ (a : At) (A : Option Addr) (c : Nat) (Q : List Em), v = .agg (lgc a A Q.length c).toArray ∧ Rd W All 3 A Q.length (cellsL emc Q) ∧ RDt W All (Q.map emd) ∧ Q.length ≤ c ∧ (∀ m ∈ Q, m.2.2.2.2.length ≤ m.2.2.2.1 ∧ m.1 < 18446744073709551616) ∧ a.1 < 18446744073709551616 ∧ a.2 < 18446744073709551616 := by
  obtain ⟨Z, rfl, hZ⟩ := okWide_struct Try.underlying27 hv
  obtain ⟨a, A, c, Q, hcs, h1⟩ := op_log (Op_.of_trod h)
  refine ⟨a, A, c, Q, ?_, h1⟩
  have e : Z = (Z.toList).toArray := by simp
  have hcs : Z.toList = lgc a A Q.length c := hcs
  rw [e, hcs]
theorem open_u64 {z : Int} {d : DataW H} {p : List MemPlace} (h : DataW.Trod enc Try.prog W 0 (fun _ => true) true 22 (.int .u64 z) d p) : ∃ k : Nat, z = (k : Int) ∧ k < 18446744073709551616 := by
  obtain ⟨n, hn, hw⟩ := (Op_.of_trod h).int Try.underlying22
  have hn : [Value.int .u64 z] = [.int .u64 n] := hn
  injection hn with hn
  injection hn with _ hn
  subst hn
  exact wf_u64 hw
end
theorem cutE_len (l : List En) (n : Nat) : (cutE l n).length ≤ n := by
  unfold cutE
  rw [List.length_map, List.length_take]
  omega
theorem cutE_txt (l : List En) (n : Nat) : ∀ e ∈ cutE l n, e.2.2.length ≤ 1025 := fun e he => by
  obtain ⟨x, _, rfl⟩ := List.mem_map.1 he
  show (x.2.2.take 1025).length ≤ 1025
  rw [List.length_take]
  omega
theorem em_txt {P : List Em} {l : List En} {N : Nat} (h : P.map emv = l) (hl : ∀ e ∈ l, e.2.2.length ≤ N) : ∀ m ∈ P, m.2.2.2.2.length ≤ N := fun m hm => hl (emv m) (by rw [← h]; exact List.mem_map.2 ⟨m, hm, rfl⟩)
theorem em_len {P : List Em} {l : List En} (h : P.map emv = l) : P.length = l.length := by rw [← h, List.length_map]
end Go.Proofs.Ytkdpfnaaopimoaa
