/- Members: calls by contracts; wakes. -/
import Derived.Test.YtlihhjldkopfhaaCoD
namespace Go.Proofs.Ytlihhjldkopfhaa
open Go.RowKit
open Asn (pt row rb)
set_option linter.unusedVariables false
set_option linter.unusedSimpArgs false
--@use N
section
variable {n : Nat} {w0 : World} {M : Nat → Prop} {T : Slots} {H Hr : List Asn} {dd : Option Tmp} {tt : TypeId} {pos : String} {af : Array Edge} {g : Option (Nat × Bool)} {x y z : Operand} {ts : Array TypeId} {A A2 : Option Addr} {m c m2 c2 : Nat} {ms ks : List Int} {a : Int} {bs : List UInt8}
theorem E_of (hx : oget T x = some (.slice A m c)) :
    Ef Try.prog n w0 M T H ⟨dd, .call ⟨.value (.func 35), #[x], ts⟩, tt, pos, af, g⟩ (fun u H' => u = cfv A m c ∧ H' = H) := by
  refine (E_gv ⟨_, Try.func35, rfl, by kernel_rfl⟩ (vs := [.slice A m c]) (by simp [ogets, hx]) fun w hS => of_any w A m c).mono ?_
  rintro v H' ⟨_, rfl, _, rfl⟩ w hS
  exact ⟨_, _, rfl, ⟨rfl, rfl⟩, hS⟩
theorem E_short (hx : oget T x = some (cfv A m c)) (hs : Srd w0 M H 1 A m (ms.map zv)) (hm : m ≤ c) {L : List Int} (hc : c ≤ maxLen) (hL : ms.take 9 = L) :
    Ef Try.prog n w0 M T H ⟨dd, .call ⟨.value (.func 11), #[x], ts⟩, tt, pos, af, g⟩ (fun u H' => ∃ b, u = cfv (some ⟨b, 0, none⟩) L.length (L.length + 2) ∧ H' = pt b 3 (wide L) :: H) := by
  refine (E_gv ⟨_, Try.func11, rfl, by kernel_rfl⟩ (vs := [cfv A m c]) (by simp [ogets, hx]) fun w hS => short_any w A m c ms (hs.rd w hS) hm hc).mono ?_
  rintro v H' ⟨b, rfl, _, rfl⟩ w hS
  rw [hL] at hS ⊢
  exact ⟨_, _, rfl, ⟨b, rfl, rfl⟩, hS⟩
theorem E_whole {b : Nat} {r : Bool} (hx : oget T x = some (cfv (some ⟨b, 0, none⟩) ms.length (ms.length + 2))) (hy : oget T y = some (cfv A2 m2 c2)) (hs : Srd w0 M H 1 (some ⟨b, 0, none⟩) (ms.length + 2) (wide ms)) (hs2 : Srd w0 M H 1 A2 m2 (ks.map zv)) (hm : ms.length ≤ 900) (hm2 : m2 ≤ 900) (hr : decide (ms = ks) = r) :
    Ef Try.prog n w0 M T H ⟨dd, .call ⟨.value (.func 16), #[x, y], ts⟩, tt, pos, af, g⟩ (fun u H' => u = .bool r ∧ H' = H) := by
  refine (E_gv ⟨_, Try.func16, rfl, by kernel_rfl⟩ (vs := [cfv (some ⟨b, 0, none⟩) ms.length (ms.length + 2), cfv A2 m2 c2]) (by simp [ogets, hx, hy]) fun w hS => whole_any w A2 b m2 c2 ms ks (hs.rd w hS) (hs2.rd w hS) hm (by omega)).mono ?_
  rintro v H' ⟨_, rfl, _, rfl⟩ w hS
  exact ⟨_, _, rfl, ⟨by rw [hr], rfl⟩, hS⟩
theorem E_addW {e : Int} {k : Nat} {L : List Int} (hx : oget T x = some (cfv A m c)) (hy : oget T y = some (zv a)) (hs : Srd w0 M H 1 A m (ms.map zv)) (hm : m ≤ 900) (he : addE ms a = e) (hL : addL ms a = L) (hk : L.length = k) :
    Ef Try.prog n w0 M T H ⟨dd, .call ⟨.value (.func 13), #[x, y], ts⟩, tt, pos, af, g⟩ (fun u H' => ∃ A' c', u = .tuple #[cfv A' k c', .int .i64 e] ∧ H' = row 3 1 A' k c' (L.map zv) :: H) := by
  refine (E_gv ⟨_, Try.func13, rfl, by kernel_rfl⟩ (vs := [cfv A m c, zv a]) (by simp [ogets, hx, hy]) fun w hS => add_any w A m c ms a (hs.rd w hS) hm).mono ?_
  rintro v H' ⟨⟨A', c'⟩, rfl, _, rfl⟩ w hS
  rw [he, hL, hk]
  rw [hL, hk] at hS
  exact ⟨_, _, rfl, ⟨A', c', rfl, rfl⟩, hS⟩
theorem E_drpW {e : Int} {k : Nat} {L : List Int} (hx : oget T x = some (cfv A m c)) (hy : oget T y = some (zv a)) (hs : Srd w0 M H 1 A m (ms.map zv)) (hm : m ≤ 900) (he : drpE ms a = e) (hL : drpL ms a = L) (hk : L.length = k) :
    Ef Try.prog n w0 M T H ⟨dd, .call ⟨.value (.func 14), #[x, y], ts⟩, tt, pos, af, g⟩ (fun u H' => ∃ A' c', u = .tuple #[cfv A' k c', .int .i64 e] ∧ H' = row 3 1 A' k c' (L.map zv) :: H) := by
  refine (E_gv ⟨_, Try.func14, rfl, by kernel_rfl⟩ (vs := [cfv A m c, zv a]) (by simp [ogets, hx, hy]) fun w hS => drop_any w A m c ms a (hs.rd w hS) hm).mono ?_
  rintro v H' ⟨⟨A', c'⟩, rfl, _, rfl⟩ w hS
  rw [he, hL, hk]
  rw [hL, hk] at hS
  exact ⟨_, _, rfl, ⟨A', c', rfl, rfl⟩, hS⟩
theorem E_hasW {r : Bool} (hx : oget T x = some (cfv A m c)) (hy : oget T y = some (zv a)) (hs : Srd w0 M H 1 A m (ms.map zv)) (hm : m ≤ 900) (hr : (right ms && decide (a ∈ ms)) = r) :
    Ef Try.prog n w0 M T H ⟨dd, .call ⟨.value (.func 15), #[x, y], ts⟩, tt, pos, af, g⟩ (fun u H' => u = .bool r ∧ H' = H) := by
  refine (E_gv ⟨_, Try.func15, rfl, by kernel_rfl⟩ (vs := [cfv A m c, zv a]) (by simp [ogets, hx, hy]) fun w hS => has_any w A m c ms a (hs.rd w hS) (by omega)).mono ?_
  rintro v H' ⟨_, rfl, _, rfl⟩ w hS
  exact ⟨_, _, rfl, ⟨by rw [hr], rfl⟩, hS⟩
theorem E_chkW {e : Int} (hx : oget T x = some (cfv A m c)) (hs : Srd w0 M H 1 A m (ms.map zv)) (hm : m ≤ 900) (hr : chkE ms = e) :
    Ef Try.prog n w0 M T H ⟨dd, .call ⟨.value (.func 26), #[x], ts⟩, tt, pos, af, g⟩ (fun u H' => u = .int .i64 e ∧ H' = H) := by
  refine (E_gv ⟨_, Try.func26, rfl, by kernel_rfl⟩ (vs := [cfv A m c]) (by simp [ogets, hx]) fun w hS => check_any w A m c ms (hs.rd w hS) (by omega)).mono ?_
  rintro v H' ⟨_, rfl, _, rfl⟩ w hS
  exact ⟨_, _, rfl, ⟨by rw [hr], rfl⟩, hS⟩
theorem E_sameW {r : Bool} (hx : oget T x = some (cfv A m c)) (hy : oget T y = some (cfv A2 m2 c2)) (hs : Srd w0 M H 1 A m (ms.map zv)) (hs2 : Srd w0 M H 1 A2 m2 (ks.map zv)) (hm : m ≤ 900) (hm2 : m2 ≤ 900) (hr : decide (ms = ks) = r) :
    Ef Try.prog n w0 M T H ⟨dd, .call ⟨.value (.func 29), #[x, y], ts⟩, tt, pos, af, g⟩ (fun u H' => u = .bool r ∧ H' = H) := by
  refine (E_gv ⟨_, Try.func29, rfl, by kernel_rfl⟩ (vs := [cfv A m c, cfv A2 m2 c2]) (by simp [ogets, hx, hy]) fun w hS => cosame_any w A A2 m c m2 c2 ms ks (hs.rd w hS) (hs2.rd w hS) (by omega) (by omega)).mono ?_
  rintro v H' ⟨_, rfl, _, rfl⟩ w hS
  exact ⟨_, _, rfl, ⟨by rw [hr], rfl⟩, hS⟩
theorem E_rsameW {r : Bool} (hx : oget T x = some (cfv A m c)) (hy : oget T y = some (cfv A2 m2 c2)) (hs : Srd w0 M H 1 A m (ms.map zv)) (hs2 : Srd w0 M H 1 A2 m2 (ks.map zv)) (hm : m ≤ 900) (hm2 : m2 ≤ 900) (hr : decide (ms = ks) = r) :
    Ef Try.prog n w0 M T H ⟨dd, .call ⟨.value (.func 18), #[x, y], ts⟩, tt, pos, af, g⟩ (fun u H' => u = .bool r ∧ H' = H) := by
  refine (E_gv ⟨_, Try.func18, rfl, by kernel_rfl⟩ (vs := [cfv A m c, cfv A2 m2 c2]) (by simp [ogets, hx, hy]) fun w hS => rsame_any w A A2 m c m2 c2 ms ks (hs.rd w hS) (hs2.rd w hS) (by omega) (by omega)).mono ?_
  rintro v H' ⟨_, rfl, _, rfl⟩ w hS
  exact ⟨_, _, rfl, ⟨by rw [hr], rfl⟩, hS⟩
theorem E_stepW {e : Int} (hx : oget T x = some (cfv A m c)) (hy : oget T y = some (cfv A2 m2 c2)) (hs : Srd w0 M H 1 A m (ms.map zv)) (hs2 : Srd w0 M H 1 A2 m2 (ks.map zv)) (hm : m ≤ 900) (hm2 : m2 ≤ 900) (hr : stpE ms ks = e) :
    Ef Try.prog n w0 M T H ⟨dd, .call ⟨.value (.func 27), #[x, y], ts⟩, tt, pos, af, g⟩ (fun u H' => u = .int .i64 e ∧ H' = H) := by
  refine (E_gv ⟨_, Try.func27, rfl, by kernel_rfl⟩ (vs := [cfv A m c, cfv A2 m2 c2]) (by simp [ogets, hx, hy]) fun w hS => step_any w A A2 m c m2 c2 ms ks (hs.rd w hS) (hs2.rd w hS) (by omega) (by omega)).mono ?_
  rintro v H' ⟨_, rfl, _, rfl⟩ w hS
  exact ⟨_, _, rfl, ⟨by rw [hr], rfl⟩, hS⟩
theorem E_rfarW {e : Nat} (hx : oget T x = some (cfv A m c)) (hy : oget T y = some (cfv A2 m2 c2)) (hs : Srd w0 M H 1 A m (ms.map zv)) (hs2 : Srd w0 M H 1 A2 m2 (ks.map zv)) (hm : m ≤ 900) (hm2 : m2 ≤ 900) (hr : farN ms ks = e) :
    Ef Try.prog n w0 M T H ⟨dd, .call ⟨.value (.func 28), #[x, y], ts⟩, tt, pos, af, g⟩ (fun u H' => u = .int .i64 (e : Nat) ∧ H' = H) := by
  refine (E_gv ⟨_, Try.func28, rfl, by kernel_rfl⟩ (vs := [cfv A m c, cfv A2 m2 c2]) (by simp [ogets, hx, hy]) fun w hS => rfar_any w A A2 m c m2 c2 ms ks (hs.rd w hS) (hs2.rd w hS) (by omega) (by omega)).mono ?_
  rintro v H' ⟨_, rfl, _, rfl⟩ w hS
  exact ⟨_, _, rfl, ⟨by rw [hr], rfl⟩, hS⟩
theorem E_majW {r : Bool} (hx : oget T x = some (cfv A m c)) (hy : oget T y = some (.slice A2 m2 c2)) (hs : Srd w0 M H 1 A m (ms.map zv)) (hs2 : Srd w0 M H 1 A2 m2 (ks.map zv)) (hm : m ≤ 900) (hm2 : m2 ≤ 900) (hr : majB ms ks = r) :
    Ef Try.prog n w0 M T H ⟨dd, .call ⟨.value (.func 30), #[x, y], ts⟩, tt, pos, af, g⟩ (fun u H' => u = .bool r ∧ H' = H) := by
  refine (E_gv ⟨_, Try.func30, rfl, by kernel_rfl⟩ (vs := [cfv A m c, .slice A2 m2 c2]) (by simp [ogets, hx, hy]) fun w hS => maj_any w A A2 m c m2 c2 ms ks (hs.rd w hS) (hs2.rd w hS) (by omega) (by omega)).mono ?_
  rintro v H' ⟨_, rfl, _, rfl⟩ w hS
  exact ⟨_, _, rfl, ⟨by rw [hr], rfl⟩, hS⟩
theorem E_rrightW {r : Bool} (hx : oget T x = some (cfv A m c)) (hs : Srd w0 M H 1 A m (ms.map zv)) (hm : m ≤ 900) (hr : right ms = r) :
    Ef Try.prog n w0 M T H ⟨dd, .call ⟨.value (.func 12), #[x], ts⟩, tt, pos, af, g⟩ (fun u H' => u = .bool r ∧ H' = H) := by
  refine (E_gv ⟨_, Try.func12, rfl, by kernel_rfl⟩ (vs := [cfv A m c]) (by simp [ogets, hx]) fun w hS => rright_any w A m c ms (hs.rd w hS) (by omega)).mono ?_
  rintro v H' ⟨_, rfl, _, rfl⟩ w hS
  exact ⟨_, _, rfl, ⟨by rw [hr], rfl⟩, hS⟩
theorem E_rhasW {r : Bool} (hx : oget T x = some (cfv A m c)) (hy : oget T y = some (zv a)) (hs : Srd w0 M H 1 A m (ms.map zv)) (hm : m ≤ 900) (hr : decide (a ∈ ms) = r) :
    Ef Try.prog n w0 M T H ⟨dd, .call ⟨.value (.func 17), #[x, y], ts⟩, tt, pos, af, g⟩ (fun u H' => u = .bool r ∧ H' = H) := by
  refine (E_gv ⟨_, Try.func17, rfl, by kernel_rfl⟩ (vs := [cfv A m c, zv a]) (by simp [ogets, hx, hy]) fun w hS => rhas_any w A m c ms a (hs.rd w hS) (by omega)).mono ?_
  rintro v H' ⟨_, rfl, _, rfl⟩ w hS
  exact ⟨_, _, rfl, ⟨by rw [hr], rfl⟩, hS⟩
theorem E_rwithW {k : Nat} {L : List Int} (hx : oget T x = some (cfv A m c)) (hy : oget T y = some (zv a)) (hs : Srd w0 M H 1 A m (ms.map zv)) (hm : m ≤ 900) (hL : withL ms a = L) (hk : L.length = k) :
    Ef Try.prog n w0 M T H ⟨dd, .call ⟨.value (.func 19), #[x, y], ts⟩, tt, pos, af, g⟩ (fun u H' => ∃ A' c', u = cfv A' k c' ∧ H' = row 3 1 A' k c' (L.map zv) :: H) := by
  refine (E_gv ⟨_, Try.func19, rfl, by kernel_rfl⟩ (vs := [cfv A m c, zv a]) (by simp [ogets, hx, hy]) fun w hS => rwith_any w A m c ms a (hs.rd w hS) hm).mono ?_
  rintro v H' ⟨⟨A', c'⟩, rfl, _, rfl⟩ w hS
  rw [hL, hk]
  rw [hL, hk] at hS
  exact ⟨_, _, rfl, ⟨A', c', rfl, rfl⟩, hS⟩
theorem E_rwoutW {k : Nat} {L : List Int} (hx : oget T x = some (cfv A m c)) (hy : oget T y = some (zv a)) (hs : Srd w0 M H 1 A m (ms.map zv)) (hm : m ≤ 900) (hL : woutL ms a = L) (hk : L.length = k) :
    Ef Try.prog n w0 M T H ⟨dd, .call ⟨.value (.func 20), #[x, y], ts⟩, tt, pos, af, g⟩ (fun u H' => ∃ A' c', u = cfv A' k c' ∧ H' = row 3 1 A' k c' (L.map zv) :: H) := by
  refine (E_gv ⟨_, Try.func20, rfl, by kernel_rfl⟩ (vs := [cfv A m c, zv a]) (by simp [ogets, hx, hy]) fun w hS => rwout_any w A m c ms a (hs.rd w hS) hm).mono ?_
  rintro v H' ⟨⟨A', c'⟩, rfl, _, rfl⟩ w hS
  rw [hL, hk]
  rw [hL, hk] at hS
  exact ⟨_, _, rfl, ⟨A', c', rfl, rfl⟩, hS⟩
theorem E_encT {bs : List UInt8} (hx : oget T x = some (cfv A m c)) (hs : Srd w0 M H 1 A m (ms.map zv)) (hm : m ≤ 900) (hr : right ms = true) (hL : encM ms = bs) :
    Ef Try.prog n w0 M T H ⟨dd, .call ⟨.value (.func 21), #[x], ts⟩, tt, pos, af, g⟩ (fun u H' => ∃ A' c', u = .tuple #[.slice A' (m + 1) c', .int .i64 0] ∧ H' = row 5 1 A' (m + 1) c' (bs.map bv) :: H) := by
  refine (E_gv ⟨_, Try.func21, rfl, by kernel_rfl⟩ (vs := [cfv A m c]) (by simp [ogets, hx]) fun w hS => enc_ok w A m c ms (hs.rd w hS) (by omega) hr).mono ?_
  rintro v H' ⟨⟨A', c'⟩, rfl, _, rfl⟩ w hS
  rw [hL] at hS
  exact ⟨_, _, rfl, ⟨A', c', rfl, rfl⟩, hS⟩
theorem E_encF (hx : oget T x = some (cfv A m c)) (hs : Srd w0 M H 1 A m (ms.map zv)) (hm : m ≤ 900) (hr : right ms = false) :
    Ef Try.prog n w0 M T H ⟨dd, .call ⟨.value (.func 21), #[x], ts⟩, tt, pos, af, g⟩ (fun u H' => u = .tuple #[.slice none 0 0, .int .i64 240] ∧ H' = H) := by
  refine (E_gv ⟨_, Try.func21, rfl, by kernel_rfl⟩ (vs := [cfv A m c]) (by simp [ogets, hx]) fun w hS => enc_no w A m c ms (hs.rd w hS) (by omega) hr).mono ?_
  rintro v H' ⟨_, rfl, _, rfl⟩ w hS
  exact ⟨_, _, rfl, ⟨rfl, rfl⟩, hS⟩
theorem E_rbytT {bs : List UInt8} (hx : oget T x = some (cfv A m c)) (hs : Srd w0 M H 1 A m (ms.map zv)) (hm : m ≤ 900) (hr : right ms = true) (hL : encM ms = bs) :
    Ef Try.prog n w0 M T H ⟨dd, .call ⟨.value (.func 23), #[x], ts⟩, tt, pos, af, g⟩ (fun u H' => ∃ A' c', u = .slice A' (m + 1) c' ∧ H' = row 5 1 A' (m + 1) c' (bs.map bv) :: H) := by
  refine (E_gv ⟨_, Try.func23, rfl, by kernel_rfl⟩ (vs := [cfv A m c]) (by simp [ogets, hx]) fun w hS => byt_ok w A m c ms (hs.rd w hS) (by omega) hr).mono ?_
  rintro v H' ⟨⟨A', c'⟩, rfl, _, rfl⟩ w hS
  rw [hL] at hS
  exact ⟨_, _, rfl, ⟨A', c', rfl, rfl⟩, hS⟩
theorem E_decW {e : Int} {k : Nat} {L : List Int} {l : List UInt8} (hx : oget T x = some (.slice A m c)) (hs : Src w0 M H A m c l) (hm : m ≤ 900) (he : decE l = e) (hL : decL l = L) (hk : L.length = k) :
    Ef Try.prog n w0 M T H ⟨dd, .call ⟨.value (.func 24), #[x], ts⟩, tt, pos, af, g⟩ (fun u H' => ∃ A' c', u = .tuple #[cfv A' k c', .int .i64 e] ∧ H' = row 3 1 A' k c' (L.map zv) :: H) := by
  refine (E_gv ⟨_, Try.func24, rfl, by kernel_rfl⟩ (vs := [.slice A m c]) (by simp [ogets, hx]) fun w hS => dec_any w A m c l (hs.bs w hS) hm).mono ?_
  rintro v H' ⟨⟨A', c'⟩, rfl, _, rfl⟩ w hS
  rw [he, hL, hk]
  rw [hL, hk] at hS
  exact ⟨_, _, rfl, ⟨A', c', rfl, rfl⟩, hS⟩
theorem E_equal {l1 l2 : List UInt8} {r : Bool} (hx : oget T x = some (.slice A m c)) (hy : oget T y = some (.slice A2 m2 c2)) (h1 : Src w0 M H A m c l1) (h2 : Src w0 M H A2 m2 c2 l2) (hr : decide (l1 = l2) = r) :
    Ef Try.prog n w0 M T H ⟨dd, .call ⟨.value (.func 22), #[x, y], ts⟩, tt, pos, af, g⟩ (fun u H' => u = .bool r ∧ H' = H) := by
  have h := E_g0 (P := Try.prog) (n := n) (w0 := w0) (M := M) (T := T) (H := H) (dd := dd) (ts := ts) (tt := tt) (pos := pos) (af := af) (g := g) (f := 22) (v := .bool (decide (l1 = l2))) ⟨_, Try.func22, rfl, by kernel_rfl⟩ (xs := #[x, y]) (vs := [.slice A m c, .slice A2 m2 c2]) (by simp [ogets, hx, hy]) fun w hS => (beq_equal w A A2 m c m2 c2 l1 l2 All All (h1.bs w hS) (h2.bs w hS)).mono fun e w' ⟨he, hw⟩ => ⟨he, hw ▸ Kp.refl _ _⟩
  rwa [hr] at h
end
theorem lit_at (ms : List Int) : ∀ j v, (ms.map zv)[j]? = some v → (ms.map zv)[0 + j]? = some v := fun j v hj => by rw [Nat.zero_add]; exact hj
set_option maxRecDepth 100000 in
set_option maxHeartbeats 4000000 in
theorem wakes_any (w : World) :
    Gives Try.prog 10 [] [] w (X := Unit) (fun _ => .bool true) (fun _ => True) (fun _ => []) := by
  refine gives_S Try.func10 rfl Try.ntmps10 Try.results10 (by simp) (St.enter w) (fun B hB => ?_)
  focus (refine S_seq rfl ?_; refine S_region rfl rfl ?_; refine R_p rfl ?_ rfl rfl; refine R_nil ?_; refine S_seq rfl ?_; refine S_region rfl rfl ?_; (refine R_eff (E_lit1 (m := 2) (vs := [zv 1, zv 2]) rfl rfl rfl rfl rfl rfl rfl (by simp [zv, Value.oneCell']) (by decide)) ?_ rfl rfl; rintro _ _ ⟨_, rfl, rfl⟩); (refine R_eff (E_of rfl) ?_ rfl rfl; rintro _ _ ⟨rfl, rfl⟩); (refine R_eff (E_addW (ms := [1, 2]) (e := 0) (L := [1, 2, 3]) rfl rfl (Srd.pt rfl (lit_at [1, 2])) (by decide) (by decide +kernel) (by decide +kernel) rfl) ?_ rfl rfl; rintro _ _ ⟨Aa, ca, rfl, rfl⟩); refine R_p rfl ?_ rfl rfl; refine R_p rfl ?_ rfl rfl; refine R_p rfl ?_ rfl rfl; (refine R_eff (E_alloca rfl cf_alloc) ?_ rfl rfl; rintro _ _ ⟨bc, rfl, rfl⟩); (refine R_eff0 (E_storew (cs := [.slice none 0 0]) rfl rfl rfl rfl (sl_one _ _ _) rfl) ?_ rfl; rintro _ _ rfl); refine R_p rfl ?_ rfl rfl; refine R_nil ?_; refine S_seq rfl ?_; refine S_region rfl rfl ?_; (refine R_eff (E_lit1 (m := 2) (vs := [zv 1, zv 3]) rfl rfl rfl rfl rfl rfl rfl (by simp [zv, Value.oneCell']) (by decide)) ?_ rfl rfl; rintro _ _ ⟨_, rfl, rfl⟩); (refine R_eff (E_of rfl) ?_ rfl rfl; rintro _ _ ⟨rfl, rfl⟩); (refine R_eff (E_drpW (ms := [1, 3]) (e := 0) (L := [3]) rfl rfl (Srd.pt rfl (lit_at [1, 3])) (by decide) (by decide +kernel) (by decide +kernel) rfl) ?_ rfl rfl; rintro _ _ ⟨Ad, cd, rfl, rfl⟩); refine R_p rfl ?_ rfl rfl; refine R_p rfl ?_ rfl rfl; refine R_p rfl ?_ rfl rfl; (refine R_eff (E_alloca rfl cf_alloc) ?_ rfl rfl; rintro _ _ ⟨bc, rfl, rfl⟩); (refine R_eff0 (E_storew (cs := [.slice none 0 0]) rfl rfl rfl rfl (sl_one _ _ _) rfl) ?_ rfl; rintro _ _ rfl); refine R_p rfl ?_ rfl rfl; refine R_nil ?_; refine S_seq rfl ?_; refine S_region rfl rfl ?_; (refine R_eff (E_lit1 (m := 2) (vs := [zv 1, zv 3]) rfl rfl rfl rfl rfl rfl rfl (by simp [zv, Value.oneCell']) (by decide)) ?_ rfl rfl; rintro _ _ ⟨_, rfl, rfl⟩); (refine R_eff (E_of rfl) ?_ rfl rfl; rintro _ _ ⟨rfl, rfl⟩); (refine R_eff (E_encT (ms := [1, 3]) (bs := [2, 1, 3]) rfl (Srd.pt rfl (lit_at [1, 3])) (by decide) (by decide +kernel) (by decide +kernel)) ?_ rfl rfl; rintro _ _ ⟨Ae, ce, rfl, rfl⟩); refine R_p rfl ?_ rfl rfl; refine R_p rfl ?_ rfl rfl; refine R_p rfl ?_ rfl rfl; refine R_p rfl ?_ rfl rfl; refine R_p rfl ?_ rfl rfl; refine R_nil ?_; refine S_seq rfl ?_)
  refine S_draw (_) (fun _ h => h) (by kernel_rfl) rfl (by kernel_rfl) (by kernel_rfl : _ = 39) ?_
  refine D_take 0 rfl (pev_ok rfl) ?_ rfl rfl (by kernel_rfl) (by kernel_rfl)
  refine D_take 1 rfl (T_decT rfl rfl) ?_ rfl rfl (by kernel_rfl) (by kernel_rfl)
  refine D_take 2 rfl (pev_ok rfl) ?_ rfl rfl (by kernel_rfl) (by kernel_rfl)
  refine D_take 3 rfl (pev_ok rfl) ?_ rfl rfl (by kernel_rfl) (by kernel_rfl)
  refine D_take 4 rfl (T_decT rfl rfl) ?_ rfl rfl (by kernel_rfl) (by kernel_rfl)
  refine D_take 5 rfl (pev_ok rfl) ?_ rfl rfl (by kernel_rfl) (by kernel_rfl)
  refine D_take 6 rfl (pev_ok rfl) ?_ rfl rfl (by kernel_rfl) (by kernel_rfl)
  refine D_take 7 rfl (pev_ok rfl) ?_ rfl rfl (by kernel_rfl) (by kernel_rfl)
  refine D_take 8 rfl (T_decT rfl rfl) ?_ rfl rfl (by kernel_rfl) (by kernel_rfl)
  refine D_take 9 rfl (pev_ok rfl) ?_ rfl rfl (by kernel_rfl) (by kernel_rfl)
  refine D_take 10 rfl (pev_ok rfl) ?_ rfl rfl (by kernel_rfl) (by kernel_rfl)
  refine D_take 11 rfl (T_loada (ds := [.slice Aa 3 ca]) rfl rfl rfl rfl (fun j v h => by simpa using h)) ?_ rfl rfl (by kernel_rfl) (by kernel_rfl)
  refine D_one 12 rfl (E_lit1 (m := 3) (vs := [zv 1, zv 2, zv 3]) rfl rfl rfl rfl rfl rfl rfl (by simp [zv, Value.oneCell']) (by decide)) ?_ rfl rfl (by kernel_rfl)
  rintro _ _ ⟨_, rfl, rfl⟩
  refine Nx_same sub_st ?_
  refine D_one 13 rfl (E_of rfl) ?_ rfl rfl (by kernel_rfl)
  rintro _ _ ⟨rfl, rfl⟩
  refine Nx_same sub_st ?_
  refine D_one 14 rfl (E_sameW (ms := [1, 2, 3]) (ks := [1, 2, 3]) rfl rfl (Srd.row (c := ca)) (Srd.pt rfl (lit_at [1, 2, 3])) (by decide) (by decide) (decide_eq_true rfl)) ?_ rfl rfl (by kernel_rfl)
  rintro _ _ ⟨rfl, rfl⟩
  refine Nx_same sub_st ?_
  refine D_take 15 rfl (pev_ok rfl) ?_ rfl rfl (by kernel_rfl) (by kernel_rfl)
  refine D_take 16 rfl (pev_ok rfl) ?_ rfl rfl (by kernel_rfl) (by kernel_rfl)
  refine D_take 17 rfl (T_loada (ds := [.slice Ad 1 cd]) rfl rfl rfl rfl (fun j v h => by simpa using h)) ?_ rfl rfl (by kernel_rfl) (by kernel_rfl)
  refine D_one 18 rfl (E_lit1 (m := 1) (vs := [zv 3]) rfl rfl rfl rfl rfl rfl rfl (by simp [zv, Value.oneCell']) (by decide)) ?_ rfl rfl (by kernel_rfl)
  rintro _ _ ⟨_, rfl, rfl⟩
  refine Nx_same sub_st ?_
  refine D_one 19 rfl (E_of rfl) ?_ rfl rfl (by kernel_rfl)
  rintro _ _ ⟨rfl, rfl⟩
  refine Nx_same sub_st ?_
  refine D_one 20 rfl (E_sameW (ms := [3]) (ks := [3]) rfl rfl (Srd.row (c := cd)) (Srd.pt rfl (lit_at [3])) (by decide) (by decide) (decide_eq_true rfl)) ?_ rfl rfl (by kernel_rfl)
  rintro _ _ ⟨rfl, rfl⟩
  refine Nx_same sub_st ?_
  refine D_take 21 rfl (pev_ok rfl) ?_ rfl rfl (by kernel_rfl) (by kernel_rfl)
  refine D_take 22 rfl (pev_ok rfl) ?_ rfl rfl (by kernel_rfl) (by kernel_rfl)
  refine D_take 23 rfl (T_loada (ds := [.slice Aa 3 ca]) rfl rfl rfl rfl (fun j v h => by simpa using h)) ?_ rfl rfl (by kernel_rfl) (by kernel_rfl)
  refine D_one 24 rfl (E_lit1 (m := 2) (vs := [zv 1, zv 3]) rfl rfl rfl rfl rfl rfl rfl (by simp [zv, Value.oneCell']) (by decide)) ?_ rfl rfl (by kernel_rfl)
  rintro _ _ ⟨_, rfl, rfl⟩
  refine Nx_same sub_st ?_
  refine D_one 25 rfl (E_majW (ms := [1, 2, 3]) (ks := [1, 3]) (r := true) rfl rfl (Srd.row (c := ca)) (Srd.pt rfl (lit_at [1, 3])) (by decide) (by decide) (by decide +kernel)) ?_ rfl rfl (by kernel_rfl)
  rintro _ _ ⟨rfl, rfl⟩
  refine Nx_same sub_st ?_
  refine D_take 26 rfl (pev_ok rfl) ?_ rfl rfl (by kernel_rfl) (by kernel_rfl)
  refine D_take 27 rfl (pev_ok rfl) ?_ rfl rfl (by kernel_rfl) (by kernel_rfl)
  refine D_take 28 rfl (T_loada (ds := [.slice Aa 3 ca]) rfl rfl rfl rfl (fun j v h => by simpa using h)) ?_ rfl rfl (by kernel_rfl) (by kernel_rfl)
  refine D_one 29 rfl (E_lit1 (m := 3) (vs := [zv 1, zv 1, zv 9]) rfl rfl rfl rfl rfl rfl rfl (by simp [zv, Value.oneCell']) (by decide)) ?_ rfl rfl (by kernel_rfl)
  rintro _ _ ⟨_, rfl, rfl⟩
  refine Nx_same sub_st ?_
  refine D_one 30 rfl (E_majW (ms := [1, 2, 3]) (ks := [1, 1, 9]) (r := false) rfl rfl (Srd.row (c := ca)) (Srd.pt rfl (lit_at [1, 1, 9])) (by decide) (by decide) (by decide +kernel)) ?_ rfl rfl (by kernel_rfl)
  rintro _ _ ⟨rfl, rfl⟩
  refine Nx_same sub_st ?_
  refine D_take 31 rfl (T_not rfl) ?_ rfl rfl (by kernel_rfl) (by kernel_rfl)
  refine D_take 32 rfl (pev_ok rfl) ?_ rfl rfl (by kernel_rfl) (by kernel_rfl)
  refine D_take 33 rfl (pev_ok rfl) ?_ rfl rfl (by kernel_rfl) (by kernel_rfl)
  refine D_take 34 rfl (pev_ok rfl) ?_ rfl rfl (by kernel_rfl) (by kernel_rfl)
  refine D_one 35 rfl (E_lit1 (m := 3) (vs := [.int .u8 2, .int .u8 1, .int .u8 3]) rfl rfl rfl rfl rfl rfl rfl (by simp [Value.oneCell']) (by decide)) ?_ rfl rfl (by kernel_rfl)
  rintro _ _ ⟨_, rfl, rfl⟩
  refine Nx_same sub_st ?_
  refine D_one 36 rfl (E_equal (l1 := [2, 1, 3]) (l2 := [2, 1, 3]) rfl rfl Src.row (Src.pt rfl (by decide) (by decide) (fun j v hj => by rw [Nat.zero_add]; exact hj)) (decide_eq_true rfl)) ?_ rfl rfl (by kernel_rfl)
  rintro _ _ ⟨rfl, rfl⟩
  refine Nx_same sub_st ?_
  refine D_take 37 rfl (pev_ok rfl) ?_ rfl rfl (by kernel_rfl) (by kernel_rfl)
  refine D_take 38 rfl (pev_ok rfl) ?_ rfl rfl (by kernel_rfl) (by kernel_rfl)
  refine D_done ?_ (by kernel_rfl)
  skip
  skip
  refine hB _ _ _ _ _ rfl rfl fun w' hS => ⟨(), ?_, trivial, hS.sublist (List.nil_sublist _)⟩
  rfl
end Go.Proofs.Ytlihhjldkopfhaa
