/- Members: find; Has. -/
import Derived.Test.YtlihhjldkopfhaaCo3
namespace Go.Proofs.Ytlihhjldkopfhaa
open Go.RowKit
open Asn (pt row rb)
set_option linter.unusedVariables false
set_option linter.unusedSimpArgs false
--@use N

theorem chk_up : ∀ (ms : List Int) (s : Bool × Int), (chk ms s).1 = true → s.1 = true ∧ (∀ m ∈ ms, 1 ≤ m ∧ m ≤ 5 ∧ s.2 < m) ∧ Up_ ms
  | [], s, h => ⟨h, fun m hm => (by cases hm), List.Pairwise.nil⟩
  | m :: ms, s, h => by
    obtain ⟨h1, h2, h3⟩ := chk_up ms _ h
    simp only [Bool.and_eq_true, memb, decide_eq_true_eq] at h1
    refine ⟨h1.1.1, fun x hx => ?_, List.Pairwise.cons (fun x hx => (h2 x hx).2.2) h3⟩
    rcases List.mem_cons.1 hx with rfl | hx
    · exact ⟨h1.1.2.1, h1.1.2.2, h1.2⟩
    · have := h2 x hx
      have := h1.2
      exact ⟨by omega, by omega, by simp only at *; omega⟩
theorem right_up {ms : List Int} (h : right ms = true) : ms ≠ [] ∧ (∀ m ∈ ms, 1 ≤ m ∧ m ≤ 5) ∧ Up_ ms := by
  obtain ⟨h1, h2, h3⟩ := chk_up ms _ h
  refine ⟨?_, fun m hm => ⟨(h2 m hm).1, (h2 m hm).2.1⟩, h3⟩
  rintro rfl
  simp at h1
section
variable {n : Nat} {w0 : World} {M : Nat → Prop} {T : Slots} {H Hr : List Asn} {dd : Option Tmp} {tt : TypeId} {pos : String} {af : Array Edge} {g : Option (Nat × Bool)} {x y z : Operand} {ts : Array TypeId}
theorem E_check {A : Option Addr} {m c : Nat} {ms : List Int} (hx : oget T x = some (cfv A m c)) (hs : Srd w0 M H 1 A m (ms.map zv)) (hm : m ≤ 1000) :
    Ef Try.prog n w0 M T H ⟨dd, .call ⟨.value (.func 26), #[x], ts⟩, tt, pos, af, g⟩ (fun u H' => u = .int .i64 (chkE ms) ∧ H' = H) := by
  refine (E_gv ⟨_, Try.func26, rfl, by kernel_rfl⟩ (vs := [cfv A m c]) (by simp [ogets, hx]) fun w hS => check_any w A m c ms (hs.rd w hS) hm).mono ?_
  rintro v H' ⟨_, rfl, _, rfl⟩ w hS
  exact ⟨_, _, rfl, ⟨rfl, rfl⟩, hS⟩
theorem E_bins {A : Option Addr} {m c : Nat} {ms : List Int} {a : Int} (hx : oget T x = some (.slice A m c)) (hy : oget T y = some (zv a)) (hs : Srd w0 M H 1 A m (ms.map zv)) (hm : m ≤ 1000) (hu : Up_ ms) :
    Ef Try.prog n w0 M T H ⟨dd, .call ⟨.value (.func 49), #[x, y], ts⟩, tt, pos, af, g⟩ (fun u H' => u = .tuple #[.int .i64 (cut ms a : Int), .bool (decide (a ∈ ms))] ∧ H' = H) := by
  refine (E_gv ⟨_, Try.func49, rfl, by kernel_rfl⟩ (vs := [.slice A m c, zv a]) (by simp [ogets, hx, hy]) fun w hS => bins_any w A m c ms a (hs.rd w hS) hm hu).mono ?_
  rintro v H' ⟨_, rfl, _, rfl⟩ w hS
  exact ⟨_, _, rfl, ⟨rfl, rfl⟩, hS⟩
end
set_option maxRecDepth 100000 in
set_option maxHeartbeats 4000000 in
theorem find_any (w : World) (A : Option Addr) (n c : Nat) (ms : List Int) (m : Int) (h : Rd w All 1 A n (ms.map zv)) (hn : n ≤ 1000) (hu : Up_ ms) :
    Gives Try.prog 36 [cfv A n c, zv m] [] w (X := Unit) (fun _ => .tuple #[.int .i64 (cut ms m : Int), .bool (decide (m ∈ ms))]) (fun _ => True) (fun _ => []) := by
  refine gives_S Try.func36 rfl Try.ntmps36 Try.results36 (by simp) (St.enter w) (fun B hB => ?_)
  focus (refine S_seq rfl ?_; refine S_region rfl rfl ?_; (refine R_eff (E_boxa rfl) ?_ rfl rfl; rintro _ _ ⟨b, rfl, rfl⟩); refine R_p rfl ?_ rfl rfl; refine R_p rfl ?_ rfl rfl; refine R_nil ?_; refine S_seq rfl ?_; refine S_region rfl rfl ?_; refine R_p rfl ?_ rfl rfl; refine R_take (T_load rfl rfl rfl (by first | rfl | assumption)) ?_ rfl rfl; refine R_p rfl ?_ rfl rfl; (refine R_eff (E_bins rfl rfl (Srd.old h (fun k _ => noOwns k)) hn hu) ?_ rfl rfl; rintro _ _ ⟨rfl, rfl⟩); refine R_p rfl ?_ rfl rfl; refine R_p rfl ?_ rfl rfl; refine R_p rfl ?_ rfl rfl; refine R_p rfl ?_ rfl rfl; refine R_nil ?_)
  refine hB _ _ _ _ _ rfl rfl fun w' hS => ⟨(), ?_, trivial, hS.sublist (List.nil_sublist _)⟩
  rfl
section
variable {n : Nat} {w0 : World} {M : Nat → Prop} {T : Slots} {H Hr : List Asn} {dd : Option Tmp} {tt : TypeId} {pos : String} {af : Array Edge} {g : Option (Nat × Bool)} {x y z : Operand} {ts : Array TypeId}
theorem E_find {A : Option Addr} {m c : Nat} {ms : List Int} {a : Int} (hx : oget T x = some (cfv A m c)) (hy : oget T y = some (zv a)) (hs : Srd w0 M H 1 A m (ms.map zv)) (hm : m ≤ 1000) (hu : Up_ ms) :
    Ef Try.prog n w0 M T H ⟨dd, .call ⟨.value (.func 36), #[x, y], ts⟩, tt, pos, af, g⟩ (fun u H' => u = .tuple #[.int .i64 (cut ms a : Int), .bool (decide (a ∈ ms))] ∧ H' = H) := by
  refine (E_gv ⟨_, Try.func36, rfl, by kernel_rfl⟩ (vs := [cfv A m c, zv a]) (by simp [ogets, hx, hy]) fun w hS => find_any w A m c ms a (hs.rd w hS) hm hu).mono ?_
  rintro v H' ⟨_, rfl, _, rfl⟩ w hS
  exact ⟨_, _, rfl, ⟨rfl, rfl⟩, hS⟩
theorem E_checkT {A : Option Addr} {m c : Nat} {ms : List Int} (hx : oget T x = some (cfv A m c)) (hs : Srd w0 M H 1 A m (ms.map zv)) (hm : m ≤ 1000) (hr : right ms = true) :
    Ef Try.prog n w0 M T H ⟨dd, .call ⟨.value (.func 26), #[x], ts⟩, tt, pos, af, g⟩ (fun u H' => u = .int .i64 0 ∧ H' = H) := by
  have h := E_check (n := n) (w0 := w0) (M := M) (T := T) (H := H) (dd := dd) (ts := ts) (tt := tt) (pos := pos) (af := af) (g := g) hx hs hm
  rwa [chkE, if_pos hr] at h
theorem E_checkF {A : Option Addr} {m c : Nat} {ms : List Int} (hx : oget T x = some (cfv A m c)) (hs : Srd w0 M H 1 A m (ms.map zv)) (hm : m ≤ 1000) (hr : right ms = false) :
    Ef Try.prog n w0 M T H ⟨dd, .call ⟨.value (.func 26), #[x], ts⟩, tt, pos, af, g⟩ (fun u H' => u = .int .i64 240 ∧ H' = H) := by
  have h := E_check (n := n) (w0 := w0) (M := M) (T := T) (H := H) (dd := dd) (ts := ts) (tt := tt) (pos := pos) (af := af) (g := g) hx hs hm
  rwa [chkE, if_neg (by simp [hr])] at h
end
set_option maxRecDepth 100000 in
set_option maxHeartbeats 4000000 in
theorem has_any (w : World) (A : Option Addr) (n c : Nat) (ms : List Int) (m : Int) (h : Rd w All 1 A n (ms.map zv)) (hn : n ≤ 1000) :
    Gives Try.prog 15 [cfv A n c, zv m] [] w (X := Unit) (fun _ => .bool (right ms && decide (m ∈ ms))) (fun _ => True) (fun _ => []) := by
  refine gives_S Try.func15 rfl Try.ntmps15 Try.results15 (by simp) (St.enter w) (fun B hB => ?_)
  cases hr : right ms
  · focus (refine S_seq rfl ?_; refine S_region rfl rfl ?_; (refine R_eff (E_boxa rfl) ?_ rfl rfl; rintro _ _ ⟨b, rfl, rfl⟩); refine R_p rfl ?_ rfl rfl; refine R_nil ?_; refine S_seq rfl ?_; refine S_seq rfl ?_; refine S_region rfl rfl ?_; refine R_take (T_loada (ds := [.slice A n c]) rfl rfl rfl rfl (fun j v h => by simpa using h)) ?_ rfl rfl; (refine R_eff (E_checkF rfl (Srd.old h (fun k _ => noOwns k)) hn hr) ?_ rfl rfl; rintro _ _ ⟨rfl, rfl⟩); refine R_p rfl ?_ rfl rfl; refine R_nil ?_; refine S_true rfl rfl ?_; refine S_seq rfl ?_; refine S_region rfl rfl ?_; refine R_p rfl ?_ rfl rfl; refine R_nil ?_)
    all_goals (try (exfalso; simp_all; done))
    refine hB _ _ _ _ _ rfl rfl fun w' hS => ⟨(), ?_, trivial, hS.sublist (List.nil_sublist _)⟩
    rw [hr, Bool.false_and]; rfl
  · have hu := (right_up hr).2.2
    focus (refine S_seq rfl ?_; refine S_region rfl rfl ?_; (refine R_eff (E_boxa rfl) ?_ rfl rfl; rintro _ _ ⟨b, rfl, rfl⟩); refine R_p rfl ?_ rfl rfl; refine R_nil ?_; refine S_seq rfl ?_; refine S_seq rfl ?_; refine S_region rfl rfl ?_; refine R_take (T_loada (ds := [.slice A n c]) rfl rfl rfl rfl (fun j v h => by simpa using h)) ?_ rfl rfl; (refine R_eff (E_checkT rfl (Srd.old h (fun k _ => noOwns k)) hn hr) ?_ rfl rfl; rintro _ _ ⟨rfl, rfl⟩); refine R_p rfl ?_ rfl rfl; refine R_nil ?_; refine S_false rfl rfl ?_; refine S_skip rfl ?_; refine S_seq rfl ?_; refine S_region rfl rfl ?_; refine R_take (T_loada (ds := [.slice A n c]) rfl rfl rfl rfl (fun j v h => by simpa using h)) ?_ rfl rfl; refine R_p rfl ?_ rfl rfl; (refine R_eff (E_find rfl rfl (Srd.old h (fun k _ => noOwns k)) hn hu) ?_ rfl rfl; rintro _ _ ⟨rfl, rfl⟩); refine R_p rfl ?_ rfl rfl; refine R_p rfl ?_ rfl rfl; refine R_p rfl ?_ rfl rfl; refine R_p rfl ?_ rfl rfl; refine R_p rfl ?_ rfl rfl; refine R_nil ?_; refine S_seq rfl ?_; refine S_region rfl rfl ?_; refine R_p rfl ?_ rfl rfl; refine R_p rfl ?_ rfl rfl; refine R_nil ?_)
    all_goals (try (exfalso; simp_all; done))
    refine hB _ _ _ _ _ rfl rfl fun w' hS => ⟨(), ?_, trivial, hS.sublist (List.nil_sublist _)⟩
    rw [hr, Bool.true_and]
    rfl
end Go.Proofs.Ytlihhjldkopfhaa
