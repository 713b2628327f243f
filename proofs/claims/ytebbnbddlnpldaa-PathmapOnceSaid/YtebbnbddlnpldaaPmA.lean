/- An edit applied to a map. -/
import Derived.Test.YtebbnbddlnpldaaPm5
import Derived.Test.YtebbnbddlnpldaaPm9
namespace Go.Proofs.Ytebbnbddlnpldaa
open Go.RowKit
open Asn (pt row rb)
set_option linter.unusedVariables false
set_option linter.unusedSimpArgs false
--@use N

theorem ris_srt {α : Type} [Inhabited α] {L : List (Str × α)} (h : risB (L.map (·.1)) = true) : L.length ≤ 32 ∧ Srt (·.1) L ∧ ∀ x ∈ L, pathB x.1 = true := by
  rw [risB, Bool.and_eq_true, decide_eq_true_eq, List.length_map, incN, List.all_eq_true] at h
  obtain ⟨h1, h2⟩ := h
  have h3 : ∀ i, i < L.length → pathB (L.getD i default).1 = true ∧ (0 < i → (L.getD (i - 1) default).1 < (L.getD i default).1) := fun i hi => by
    have := h2 i (List.mem_range.2 hi)
    rw [stepB, map_getD L i hi, Bool.and_eq_true, Bool.or_eq_true, decide_eq_true_eq] at this
    refine ⟨this.1, fun h0 => ?_⟩
    rcases this.2 with h4 | h4
    · omega
    · rw [map_getD L (i - 1) (by omega), bytesLess_eq, decide_eq_true_eq] at h4
      exact h4
  have h4 : ∀ d i, i + d + 1 < L.length → (L.getD i default).1 < (L.getD (i + d + 1) default).1 := fun d => by
    induction d with
    | zero =>
      intro i hi
      have := (h3 (i + 0 + 1) hi).2 (by omega)
      simpa using this
    | succ d ih =>
      intro i hi
      have a := ih i (by omega)
      have b := (h3 (i + (d + 1) + 1) hi).2 (by omega)
      rw [show i + (d + 1) + 1 - 1 = i + d + 1 by omega] at b
      exact sl_tr a b
  refine ⟨h1, List.pairwise_iff_getElem.2 fun i j hi hj hij => ?_, fun x hx => ?_⟩
  · have := h4 (j - i - 1) i (by omega)
    rw [show i + (j - i - 1) + 1 = j by omega] at this
    simpa [List.getD, hi, hj] using this
  · obtain ⟨i, hi, rfl⟩ := List.getElem_of_mem hx
    have := (h3 i hi).1
    simpa [List.getD, hi] using this
theorem chkR_srt {L : List Rw} (h : chkR L = true) : L.length ≤ 32 ∧ Srt (·.1) L ∧ ∀ x ∈ L, pathB x.1 = true := by
  rw [chkR, Bool.and_eq_true] at h
  exact ris_srt h.2
theorem chkC_srt {L : List Ch} (h : chkC L = true) : L.length ≤ 32 ∧ Srt (·.1) L ∧ ∀ x ∈ L, pathB x.1 = true := by
  rw [chkC, Bool.and_eq_true] at h
  exact ris_srt h.2
theorem lohi_len (L : List Rw) (s : Str) : (lo (·.1) L s).length + (hi (·.1) L s).length ≤ L.length := by
  show (L.filter (fun x => decide (x.1 < s))).length + (L.filter (fun x => decide (s < x.1))).length ≤ L.length
  induction L with
  | nil => simp
  | cons x L ih =>
    simp only [List.filter_cons, List.length_cons]
    by_cases h : x.1 < s
    · rw [if_pos (by simpa using h), if_neg (by simpa using sl_as h), List.length_cons]
      omega
    · rw [if_neg (by simpa using h)]
      by_cases h2 : s < x.1
      · rw [if_pos (by simpa using h2), List.length_cons]
        omega
      · rw [if_neg (by simpa using h2)]
        omega
theorem upd_len (L : List Rw) (c : Ch) : (updR L c).length ≤ L.length + 1 := by
  have := lohi_len L c.1
  unfold updR
  have h2 : (if c.2.1 = true then [(c.1, c.2.2)] else [] : List Rw).length ≤ 1 := by split <;> simp
  simp only [List.length_append]
  omega
/-- the rows that come of an edit -/
def appU (L : List Rw) (C : List Ch) : List Rw := C.foldl updR L
theorem appU_srt {L : List Rw} (h : Srt (·.1) L) (C : List Ch) : Srt (·.1) (appU L C) := by
  induction C generalizing L with
  | nil => exact h
  | cons c C ih => exact ih (upd_srt h c)
theorem appU_len (L : List Rw) (C : List Ch) : (appU L C).length ≤ L.length + C.length := by
  induction C generalizing L with
  | nil => simp [appU]
  | cons c C ih =>
    have := ih (updR L c)
    have := upd_len L c
    simp only [appU, List.foldl_cons, List.length_cons] at *
    omega
theorem appU_next (L : List Rw) (C : List Ch) (j : Nat) (hj : j < C.length) : appU L (C.take (j + 1)) = updR (appU L (C.take j)) (C.getD j default) := by
  rw [appU, List.take_succ_eq_append_getElem hj, List.foldl_append]
  simp [appU, List.getD, hj]
def appE (L : List Rw) (C : List Ch) : Int := if chkR L then (if chkC C then (if (appU L C).length ≤ 32 then 0 else 6) else 151) else 150
def appR (L : List Rw) (C : List Ch) : List Rw := if chkR L then (if chkC C then (if (appU L C).length ≤ 32 then appU L C else []) else []) else []
theorem cells_set1 : ∀ (L : List Rw) (i : Nat) (s t : Str), i < L.length → (L.getD i default).1 = s → (cellsL rwc L).set (i * 2 + 1) (sv t) = cellsL rwc (L.set i (s, t))
  | x :: L, 0, s, t, _, h => by
    simp only [List.getD_cons_zero] at h
    subst h
    rfl
  | x :: L, i + 1, s, t, hi, h => by
    have ih := cells_set1 L i s t (by simpa using hi) (by simpa using h)
    have e : (i + 1) * 2 + 1 = (i * 2 + 1) + 1 + 1 := by omega
    simp only [cellsL, List.flatMap_cons] at ih ⊢
    rw [e]
    simp only [rwc, List.cons_append, List.nil_append, List.set_cons_succ, List.flatMap_cons] at ih ⊢
    rw [ih]
theorem cells_ones (L : List Rw) : ∀ v ∈ cellsL rwc L, v.oneCell' = true := fun v hv => by
  obtain ⟨x, _, hx⟩ := List.mem_flatMap.1 hv
  exact rwc_one x v hx
theorem cells_del (L : List Rw) (i : Nat) : (cellsL rwc L).take (i * 2) ++ (cellsL rwc L).drop ((i + 1) * 2) = cellsL rwc (L.take i ++ L.drop (i + 1)) := by
  rw [cellsL_app, cellsL_take rwc_len, cellsL_drop rwc_len]
theorem cells_ins (L : List Rw) (i : Nat) (x : Rw) : (cellsL rwc L).take (i * 2) ++ rwc x ++ (cellsL rwc L).drop (i * 2) = cellsL rwc (L.take i ++ x :: L.drop i) := by
  rw [show x :: L.drop i = [x] ++ L.drop i from rfl, ← List.append_assoc, cellsL_app, cellsL_app, cellsL_take rwc_len, cellsL_drop rwc_len, cellsL_one]
theorem mp_built0 : Try.prog.built 24 [] = some [Value.slice none 0 0].toArray := by kernel_rfl
theorem mp_built1 (A : Option Addr) (n c : Nat) : Try.prog.built 24 [(0, .slice A n c)] = some [Value.slice A n c].toArray := by kernel_rfl
theorem mp_alloc : ti24.zero = .agg [Value.slice none 0 0].toArray := by kernel_rfl
theorem ed_built0 : Try.prog.built 27 [] = some [Value.slice none 0 0].toArray := by kernel_rfl
theorem ed_built1 (A : Option Addr) (n c : Nat) : Try.prog.built 27 [(0, .slice A n c)] = some [Value.slice A n c].toArray := by kernel_rfl
theorem ed_alloc : ti27.zero = .agg [Value.slice none 0 0].toArray := by kernel_rfl
theorem rw_built2 (s t : Str) : Try.prog.built 56 [(0, sv s), (1, sv t)] = some (rwc (s, t)).toArray := by kernel_rfl
theorem sl_one (A : Option Addr) (n c : Nat) : ∀ u ∈ [Value.slice A n c], u.oneCell' = true := by simp [Value.oneCell']
section
variable {n : Nat} {w0 : World} {M : Nat → Prop} {T : Slots} {H Hr : List Asn} {dd : Option Tmp} {tt : TypeId} {pos : String} {af : Array Edge} {g : Option (Nat × Bool)} {x y z : Operand} {ts : Array TypeId} {A : Option Addr} {m c : Nat}
theorem E_chkRW {L : List Rw} {r : Bool} (hx : oget T x = some (.agg #[.slice A m c])) (hs : Srd w0 M H 2 A m (cellsL rwc L)) (hm : m ≤ 100000) (hp : ∀ x ∈ L, x.1.length ≤ 100000) (hr : chkR L = r) :
    Ef Try.prog n w0 M T H ⟨dd, .call ⟨.value (.func 18), #[x], ts⟩, tt, pos, af, g⟩ (fun u H' => u = zi (if r then 0 else 150) ∧ H' = H) := by
  subst hr
  refine (E_gv ⟨_, Try.func18, rfl, by kernel_rfl⟩ (vs := [.agg #[.slice A m c]]) (by simp [ogets, hx]) fun w hS => checkR_any w A m c L (hs.rd w hS) hm hp).mono ?_
  rintro v H' ⟨_, rfl, _, rfl⟩ w hS
  exact ⟨_, _, rfl, ⟨rfl, rfl⟩, hS⟩
theorem E_rightRW {L : List Rw} {r : Bool} (hx : oget T x = some (.agg #[.slice A m c])) (hs : Srd w0 M H 2 A m (cellsL rwc L)) (hm : m ≤ 100000) (hp : ∀ x ∈ L, x.1.length ≤ 100000) (hr : chkR L = r) :
    Ef Try.prog n w0 M T H ⟨dd, .call ⟨.value (.func 14), #[x], ts⟩, tt, pos, af, g⟩ (fun u H' => u = .bool r ∧ H' = H) := by
  subst hr
  refine (E_gv ⟨_, Try.func14, rfl, by kernel_rfl⟩ (vs := [.agg #[.slice A m c]]) (by simp [ogets, hx]) fun w hS => rightR_any w A m c L (hs.rd w hS) hm hp).mono ?_
  rintro v H' ⟨_, rfl, _, rfl⟩ w hS
  exact ⟨_, _, rfl, ⟨rfl, rfl⟩, hS⟩
theorem E_chkCW {L : List Ch} {r : Bool} (hx : oget T x = some (.agg #[.slice A m c])) (hs : Srd w0 M H 3 A m (cellsL chc L)) (hm : m ≤ 100000) (hp : ∀ x ∈ L, x.1.length ≤ 100000) (hr : chkC L = r) :
    Ef Try.prog n w0 M T H ⟨dd, .call ⟨.value (.func 19), #[x], ts⟩, tt, pos, af, g⟩ (fun u H' => u = zi (if r then 0 else 151) ∧ H' = H) := by
  subst hr
  refine (E_gv ⟨_, Try.func19, rfl, by kernel_rfl⟩ (vs := [.agg #[.slice A m c]]) (by simp [ogets, hx]) fun w hS => checkC_any w A m c L (hs.rd w hS) hm hp).mono ?_
  rintro v H' ⟨_, rfl, _, rfl⟩ w hS
  exact ⟨_, _, rfl, ⟨rfl, rfl⟩, hS⟩
theorem E_rightCW {L : List Ch} {r : Bool} (hx : oget T x = some (.agg #[.slice A m c])) (hs : Srd w0 M H 3 A m (cellsL chc L)) (hm : m ≤ 100000) (hp : ∀ x ∈ L, x.1.length ≤ 100000) (hr : chkC L = r) :
    Ef Try.prog n w0 M T H ⟨dd, .call ⟨.value (.func 15), #[x], ts⟩, tt, pos, af, g⟩ (fun u H' => u = .bool r ∧ H' = H) := by
  subst hr
  refine (E_gv ⟨_, Try.func15, rfl, by kernel_rfl⟩ (vs := [.agg #[.slice A m c]]) (by simp [ogets, hx]) fun w hS => rightC_any w A m c L (hs.rd w hS) hm hp).mono ?_
  rintro v H' ⟨_, rfl, _, rfl⟩ w hS
  exact ⟨_, _, rfl, ⟨rfl, rfl⟩, hS⟩
theorem E_binW {L : List Rw} {s : Str} (hx : oget T x = some (.slice A m c)) (hy : oget T y = some (sv s)) (hz : oget T z = some (.func (.func 31) #[] #[])) (hs : Srd w0 M H 2 A m (cellsL rwc L)) (hm : m ≤ 1000) (hu : Srt (·.1) L) {r : Bool} (hr : thereR L s = r) :
    Ef Try.prog n w0 M T H ⟨dd, .call ⟨.value (.func 30), #[x, y, z], ts⟩, tt, pos, af, g⟩ (fun u H' => ∃ i : Nat, u = .tuple #[.int .i64 (i : Int), .bool r] ∧ i ≤ L.length ∧ lo (·.1) L s = L.take i ∧ (r = true → i < L.length ∧ (L.getD i default).1 = s) ∧ (r = false → hi (·.1) L s = L.drop i) ∧ H' = H) := by
  subst hr
  refine (E_gv ⟨_, Try.func30, rfl, by kernel_rfl⟩ (vs := [.slice A m c, sv s, .func (.func 31) #[] #[]]) (by simp [ogets, hx, hy, hz]) fun w hS => binf_any w A m c L s (hs.rd w hS) hm hu).mono ?_
  rintro v H' ⟨i, rfl, ⟨h1, h2, h3, h4⟩, rfl⟩ w hS
  exact ⟨_, _, rfl, ⟨i, rfl, h1, h2, h3, h4, rfl⟩, hS⟩
end
end Go.Proofs.Ytebbnbddlnpldaa
