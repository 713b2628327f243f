/- An edit applied to a map. An edit applied to a map: walked. Apply as a step; large, copied, copiedEdit, wakes. wakes. The document: With, Paths, Get, Said. The document: Paths, Get, Said. The document: Apply. The document: Same; what Apply makes is the document's. Maps and edits that come in. The statement PathmapApplies: what Apply makes of any map and any edit is the document's. -/
import Derived.Test.YtghfjfgpiomdhaaPmZ0
import Derived.Test.YtghfjfgpiomdhaaOpR
namespace Go.Proofs.Ytghfjfgpiomdhaa
open Go.RowKit
open Asn (pt row rb)
set_option linter.unusedVariables false
set_option linter.unusedSimpArgs false
--@use N

theorem ris_srt {α : Type} [Inhabited α] {L : List (Str × α)} (h : risB (L.map (·.1)) = true) : L.length ≤ 32 ∧ Srt (·.1) L ∧ ∀ x ∈ L, pathB x.1 = true := by
  rw [risB, Bool.and_eq_true, decide_eq_true_eq, List.length_map, incN, List.all_eq_true] at h
  obtain ⟨h1, h2⟩ := h
  have h3 : ∀ i, i < L.length → pathB (L.getD i default).1 = true ∧ (0 < i → (L.getD (i - 1) default).1 < (L.getD i default).1) := fun i hi => by
    have := h2 i (List.mem_range.2 hi)
    rw [stepB, map_getD L i hi, Bool.and_eq_true, Bool.or_eq_true, decide_eq_true_eq] at this
    refine ⟨this.1, fun h0 => ?_⟩
    rcases this.2 with h4 | h4
    · omega
    · rw [map_getD L (i - 1) (by omega), bytesLess_eq, decide_eq_true_eq] at h4
      exact h4
  have h4 : ∀ d i, i + d + 1 < L.length → (L.getD i default).1 < (L.getD (i + d + 1) default).1 := fun d => by
    induction d with
    | zero =>
      intro i hi
      have := (h3 (i + 0 + 1) hi).2 (by omega)
      simpa using this
    | succ d ih =>
      intro i hi
      have a := ih i (by omega)
      have b := (h3 (i + (d + 1) + 1) hi).2 (by omega)
      rw [show i + (d + 1) + 1 - 1 = i + d + 1 by omega] at b
      exact sl_tr a b
  refine ⟨h1, List.pairwise_iff_getElem.2 fun i j hi hj hij => ?_, fun x hx => ?_⟩
  · have := h4 (j - i - 1) i (by omega)
    rw [show i + (j - i - 1) + 1 = j by omega] at this
    simpa [List.getD, hi, hj] using this
  · obtain ⟨i, hi, rfl⟩ := List.getElem_of_mem hx
    have := (h3 i hi).1
    simpa [List.getD, hi] using this
theorem chkR_srt {L : List Rw} (h : chkR L = true) : L.length ≤ 32 ∧ Srt (·.1) L ∧ ∀ x ∈ L, pathB x.1 = true := by
  rw [chkR, Bool.and_eq_true] at h
  exact ris_srt h.2
theorem chkC_srt {L : List Ch} (h : chkC L = true) : L.length ≤ 32 ∧ Srt (·.1) L ∧ ∀ x ∈ L, pathB x.1 = true := by
  rw [chkC, Bool.and_eq_true] at h
  exact ris_srt h.2
theorem lohi_len (L : List Rw) (s : Str) : (lo (·.1) L s).length + (hi (·.1) L s).length ≤ L.length := by
  show (L.filter (fun x => decide (x.1 < s))).length + (L.filter (fun x => decide (s < x.1))).length ≤ L.length
  induction L with
  | nil => simp
  | cons x L ih =>
    simp only [List.filter_cons, List.length_cons]
    by_cases h : x.1 < s
    · rw [if_pos (by simpa using h), if_neg (by simpa using sl_as h), List.length_cons]
      omega
    · rw [if_neg (by simpa using h)]
      by_cases h2 : s < x.1
      · rw [if_pos (by simpa using h2), List.length_cons]
        omega
      · rw [if_neg (by simpa using h2)]
        omega
theorem upd_len (L : List Rw) (c : Ch) : (updR L c).length ≤ L.length + 1 := by
  have := lohi_len L c.1
  unfold updR
  have h2 : (if c.2.1 = true then [(c.1, c.2.2)] else [] : List Rw).length ≤ 1 := by split <;> simp
  simp only [List.length_append]
  omega
/-- the rows that come of an edit -/
def appU (L : List Rw) (C : List Ch) : List Rw := C.foldl updR L
theorem appU_srt {L : List Rw} (h : Srt (·.1) L) (C : List Ch) : Srt (·.1) (appU L C) := by
  induction C generalizing L with
  | nil => exact h
  | cons c C ih => exact ih (upd_srt h c)
theorem appU_len (L : List Rw) (C : List Ch) : (appU L C).length ≤ L.length + C.length := by
  induction C generalizing L with
  | nil => simp [appU]
  | cons c C ih =>
    have := ih (updR L c)
    have := upd_len L c
    simp only [appU, List.foldl_cons, List.length_cons] at *
    omega
theorem appU_next (L : List Rw) (C : List Ch) (j : Nat) (hj : j < C.length) : appU L (C.take (j + 1)) = updR (appU L (C.take j)) (C.getD j default) := by
  rw [appU, List.take_succ_eq_append_getElem hj, List.foldl_append]
  simp [appU, List.getD, hj]
def appE (L : List Rw) (C : List Ch) : Int := if chkR L then (if chkC C then (if (appU L C).length ≤ 32 then 0 else 6) else 151) else 150
def appR (L : List Rw) (C : List Ch) : List Rw := if chkR L then (if chkC C then (if (appU L C).length ≤ 32 then appU L C else []) else []) else []
theorem cells_set1 : ∀ (L : List Rw) (i : Nat) (s t : Str), i < L.length → (L.getD i default).1 = s → (cellsL rwc L).set (i * 2 + 1) (sv t) = cellsL rwc (L.set i (s, t))
  | x :: L, 0, s, t, _, h => by
    simp only [List.getD_cons_zero] at h
    subst h
    rfl
  | x :: L, i + 1, s, t, hi, h => by
    have ih := cells_set1 L i s t (by simpa using hi) (by simpa using h)
    have e : (i + 1) * 2 + 1 = (i * 2 + 1) + 1 + 1 := by omega
    simp only [cellsL, List.flatMap_cons] at ih ⊢
    rw [e]
    simp only [rwc, List.cons_append, List.nil_append, List.set_cons_succ, List.flatMap_cons] at ih ⊢
    rw [ih]
theorem cells_ones (L : List Rw) : ∀ v ∈ cellsL rwc L, v.oneCell' = true := fun v hv => by
  obtain ⟨x, _, hx⟩ := List.mem_flatMap.1 hv
  exact rwc_one x v hx
theorem cells_del (L : List Rw) (i : Nat) : (cellsL rwc L).take (i * 2) ++ (cellsL rwc L).drop ((i + 1) * 2) = cellsL rwc (L.take i ++ L.drop (i + 1)) := by
  rw [cellsL_app, cellsL_take rwc_len, cellsL_drop rwc_len]
theorem cells_ins (L : List Rw) (i : Nat) (x : Rw) : (cellsL rwc L).take (i * 2) ++ rwc x ++ (cellsL rwc L).drop (i * 2) = cellsL rwc (L.take i ++ x :: L.drop i) := by
  rw [show x :: L.drop i = [x] ++ L.drop i from rfl, ← List.append_assoc, cellsL_app, cellsL_app, cellsL_take rwc_len, cellsL_drop rwc_len, cellsL_one]
theorem mp_built0 : Try.prog.built 24 [] = some [Value.slice none 0 0].toArray := by kernel_rfl
theorem mp_built1 (A : Option Addr) (n c : Nat) : Try.prog.built 24 [(0, .slice A n c)] = some [Value.slice A n c].toArray := by kernel_rfl
theorem mp_alloc : ti24.zero = .agg [Value.slice none 0 0].toArray := by kernel_rfl
theorem ed_built0 : Try.prog.built 29 [] = some [Value.slice none 0 0].toArray := by kernel_rfl
theorem ed_built1 (A : Option Addr) (n c : Nat) : Try.prog.built 29 [(0, .slice A n c)] = some [Value.slice A n c].toArray := by kernel_rfl
theorem ed_alloc : ti29.zero = .agg [Value.slice none 0 0].toArray := by kernel_rfl
theorem rw_built2 (s t : Str) : Try.prog.built 70 [(0, sv s), (1, sv t)] = some (rwc (s, t)).toArray := by kernel_rfl
theorem sl_one (A : Option Addr) (n c : Nat) : ∀ u ∈ [Value.slice A n c], u.oneCell' = true := by simp [Value.oneCell']
section
variable {n : Nat} {w0 : World} {M : Nat → Prop} {T : Slots} {H Hr : List Asn} {dd : Option Tmp} {tt : TypeId} {pos : String} {af : Array Edge} {g : Option (Nat × Bool)} {x y z : Operand} {ts : Array TypeId} {A : Option Addr} {m c : Nat}
theorem E_chkRW {L : List Rw} {r : Bool} (hx : oget T x = some (.agg #[.slice A m c])) (hs : Srd w0 M H 2 A m (cellsL rwc L)) (hm : m ≤ 100000) (hp : ∀ x ∈ L, x.1.length ≤ 100000) (hr : chkR L = r) :
    Ef Try.prog n w0 M T H ⟨dd, .call ⟨.value (.func 26), #[x], ts⟩, tt, pos, af, g⟩ (fun u H' => u = zi (if r then 0 else 150) ∧ H' = H) := by
  subst hr
  refine (E_gv ⟨_, Try.func26, rfl, by kernel_rfl⟩ (vs := [.agg #[.slice A m c]]) (by simp [ogets, hx]) fun w hS => checkR_any w A m c L (hs.rd w hS) hm hp).mono ?_
  rintro v H' ⟨_, rfl, _, rfl⟩ w hS
  exact ⟨_, _, rfl, ⟨rfl, rfl⟩, hS⟩
theorem E_rightRW {L : List Rw} {r : Bool} (hx : oget T x = some (.agg #[.slice A m c])) (hs : Srd w0 M H 2 A m (cellsL rwc L)) (hm : m ≤ 100000) (hp : ∀ x ∈ L, x.1.length ≤ 100000) (hr : chkR L = r) :
    Ef Try.prog n w0 M T H ⟨dd, .call ⟨.value (.func 32), #[x], ts⟩, tt, pos, af, g⟩ (fun u H' => u = .bool r ∧ H' = H) := by
  subst hr
  refine (E_gv ⟨_, Try.func32, rfl, by kernel_rfl⟩ (vs := [.agg #[.slice A m c]]) (by simp [ogets, hx]) fun w hS => rightR_any w A m c L (hs.rd w hS) hm hp).mono ?_
  rintro v H' ⟨_, rfl, _, rfl⟩ w hS
  exact ⟨_, _, rfl, ⟨rfl, rfl⟩, hS⟩
theorem E_chkCW {L : List Ch} {r : Bool} (hx : oget T x = some (.agg #[.slice A m c])) (hs : Srd w0 M H 3 A m (cellsL chc L)) (hm : m ≤ 100000) (hp : ∀ x ∈ L, x.1.length ≤ 100000) (hr : chkC L = r) :
    Ef Try.prog n w0 M T H ⟨dd, .call ⟨.value (.func 38), #[x], ts⟩, tt, pos, af, g⟩ (fun u H' => u = zi (if r then 0 else 151) ∧ H' = H) := by
  subst hr
  refine (E_gv ⟨_, Try.func38, rfl, by kernel_rfl⟩ (vs := [.agg #[.slice A m c]]) (by simp [ogets, hx]) fun w hS => checkC_any w A m c L (hs.rd w hS) hm hp).mono ?_
  rintro v H' ⟨_, rfl, _, rfl⟩ w hS
  exact ⟨_, _, rfl, ⟨rfl, rfl⟩, hS⟩
theorem E_rightCW {L : List Ch} {r : Bool} (hx : oget T x = some (.agg #[.slice A m c])) (hs : Srd w0 M H 3 A m (cellsL chc L)) (hm : m ≤ 100000) (hp : ∀ x ∈ L, x.1.length ≤ 100000) (hr : chkC L = r) :
    Ef Try.prog n w0 M T H ⟨dd, .call ⟨.value (.func 16), #[x], ts⟩, tt, pos, af, g⟩ (fun u H' => u = .bool r ∧ H' = H) := by
  subst hr
  refine (E_gv ⟨_, Try.func16, rfl, by kernel_rfl⟩ (vs := [.agg #[.slice A m c]]) (by simp [ogets, hx]) fun w hS => rightC_any w A m c L (hs.rd w hS) hm hp).mono ?_
  rintro v H' ⟨_, rfl, _, rfl⟩ w hS
  exact ⟨_, _, rfl, ⟨rfl, rfl⟩, hS⟩
theorem E_binW {L : List Rw} {s : Str} (hx : oget T x = some (.slice A m c)) (hy : oget T y = some (sv s)) (hz : oget T z = some (.func (.func 65) #[] #[])) (hs : Srd w0 M H 2 A m (cellsL rwc L)) (hm : m ≤ 1000) (hu : Srt (·.1) L) {r : Bool} (hr : thereR L s = r) :
    Ef Try.prog n w0 M T H ⟨dd, .call ⟨.value (.func 64), #[x, y, z], ts⟩, tt, pos, af, g⟩ (fun u H' => ∃ i : Nat, u = .tuple #[.int .i64 (i : Int), .bool r] ∧ i ≤ L.length ∧ lo (·.1) L s = L.take i ∧ (r = true → i < L.length ∧ (L.getD i default).1 = s) ∧ (r = false → hi (·.1) L s = L.drop i) ∧ H' = H) := by
  subst hr
  refine (E_gv ⟨_, Try.func64, rfl, by kernel_rfl⟩ (vs := [.slice A m c, sv s, .func (.func 65) #[] #[]]) (by simp [ogets, hx, hy, hz]) fun w hS => binf_any w A m c L s (hs.rd w hS) hm hu).mono ?_
  rintro v H' ⟨i, rfl, ⟨h1, h2, h3, h4⟩, rfl⟩ w hS
  exact ⟨_, _, rfl, ⟨i, rfl, h1, h2, h3, h4, rfl⟩, hS⟩
end
end Go.Proofs.Ytghfjfgpiomdhaa

namespace Go.Proofs.Ytghfjfgpiomdhaa
open Go.RowKit
open Asn (pt row rb)
set_option linter.unusedVariables false
set_option linter.unusedSimpArgs false
--@use N

set_option maxRecDepth 100000 in
set_option maxHeartbeats 4000000 in
theorem apply_any (w : World) (A A2 : Option Addr) (n c n2 c2 : Nat) (L : List Rw) (C : List Ch) (h : Rd w All 2 A n (cellsL rwc L)) (h2 : Rd w All 3 A2 n2 (cellsL chc C)) (hn : n ≤ 100000) (hn2 : n2 ≤ 100000) (hp : ∀ x ∈ L, x.1.length ≤ 100000) (hp2 : ∀ x ∈ C, x.1.length ≤ 100000) :
    Gives Try.prog 34 [.agg #[.slice A n c], .agg #[.slice A2 n2 c2]] [] w (X := Option Addr × Nat) (fun x => .tuple #[.agg #[.slice x.1 (appR L C).length x.2], zi (appE L C)]) (fun _ => True) (fun x => [row 70 2 x.1 (appR L C).length x.2 (cellsL rwc (appR L C))]) := by
  refine gives_C Try.func34 rfl Try.ntmps34 Try.results34 (by simp) (St.enter w) (fun B hB => ?_)
  have hl : L.length = n := by have := h.1; rw [cellsL_len rwc_len] at this; omega
  have hl2 : C.length = n2 := by have := h2.1; rw [cellsL_len chc_len] at this; omega
  subst hl
  subst hl2
  have hne2 : 0 < C.length → A2 ≠ none := fun h0 => by obtain ⟨ad, rfl, _⟩ := h2.2 (by omega); simp
  cases hr : chkR L
  · have e1 : appE L C = 150 := by rw [appE, hr]; rfl
    have e2 : appR L C = [] := by rw [appR, hr]; rfl
    rw [e1, e2] at hB
    focus (refine S_seq rfl ?_; refine S_region rfl rfl ?_; (refine R_eff (E_boxa (cs := [.slice A L.length c]) rfl) ?_ rfl rfl; rintro _ _ ⟨b2, rfl, rfl⟩); (refine R_eff (E_boxa (cs := [.slice A2 C.length c2]) rfl) ?_ rfl rfl; rintro _ _ ⟨b3, rfl, rfl⟩); (refine R_eff (E_alloca rfl mp_alloc) ?_ rfl rfl; rintro _ _ ⟨b4, rfl, rfl⟩); refine R_p rfl ?_ rfl rfl; refine R_nil ?_; refine S_seq rfl ?_; refine S_block rfl ?_; refine S_seq rfl ?_; refine S_region rfl rfl ?_; refine R_take (T_loada (ds := [.slice A L.length c]) rfl rfl rfl rfl (fun j v h => by simpa using h)) ?_ rfl rfl; (refine R_eff (E_chkRW (L := L) (r := false) rfl (Srd.old h (fun k _ => noOwns k)) (by omega) hp hr) ?_ rfl rfl; rintro _ _ ⟨rfl, rfl⟩); refine R_p rfl ?_ rfl rfl; refine R_p rfl ?_ rfl rfl; refine R_nil ?_; refine S_true rfl rfl ?_; refine S_seq rfl ?_; refine S_region rfl rfl ?_; refine R_take (T_build0 mp_built0) ?_ rfl rfl; (refine R_eff0 (E_storew (ds := [.slice none 0 0]) (cs := [.slice none 0 0]) rfl rfl rfl rfl (sl_one _ _ _) rfl) ?_ rfl; rintro _ _ rfl); refine R_p rfl ?_ rfl rfl; refine R_nil ?_)
    refine hB _ _ _ _ _ rfl (.cell rfl rfl rfl inferInstance rfl (.tmp rfl .nil)) fun w' hS => ⟨(none, 0), rfl, trivial, (hS.sublist (List.nil_sublist _)).nilrow _ _⟩
  have hsr := chkR_srt hr
  cases hrc : chkC C
  · have e1 : appE L C = 151 := by rw [appE, hr, hrc]; rfl
    have e2 : appR L C = [] := by rw [appR, hr, hrc]; rfl
    rw [e1, e2] at hB
    focus (refine S_seq rfl ?_; refine S_region rfl rfl ?_; (refine R_eff (E_boxa (cs := [.slice A L.length c]) rfl) ?_ rfl rfl; rintro _ _ ⟨b2, rfl, rfl⟩); (refine R_eff (E_boxa (cs := [.slice A2 C.length c2]) rfl) ?_ rfl rfl; rintro _ _ ⟨b3, rfl, rfl⟩); (refine R_eff (E_alloca rfl mp_alloc) ?_ rfl rfl; rintro _ _ ⟨b4, rfl, rfl⟩); refine R_p rfl ?_ rfl rfl; refine R_nil ?_; refine S_seq rfl ?_; refine S_block rfl ?_; refine S_seq rfl ?_; refine S_region rfl rfl ?_; refine R_take (T_loada (ds := [.slice A L.length c]) rfl rfl rfl rfl (fun j v h => by simpa using h)) ?_ rfl rfl; (refine R_eff (E_chkRW (L := L) (r := true) rfl (Srd.old h (fun k _ => noOwns k)) (by omega) hp hr) ?_ rfl rfl; rintro _ _ ⟨rfl, rfl⟩); refine R_p rfl ?_ rfl rfl; refine R_p rfl ?_ rfl rfl; refine R_nil ?_; refine S_false rfl rfl ?_; refine S_seq rfl ?_; refine S_region rfl rfl ?_; refine R_take (T_loada (ds := [.slice A2 C.length c2]) rfl rfl rfl rfl (fun j v h => by simpa using h)) ?_ rfl rfl; (refine R_eff (E_chkCW (L := C) (r := false) rfl (Srd.old h2 (fun k _ => noOwns k)) (by omega) hp2 hrc) ?_ rfl rfl; rintro _ _ ⟨rfl, rfl⟩); refine R_p rfl ?_ rfl rfl; refine R_p rfl ?_ rfl rfl; refine R_nil ?_; refine S_true rfl rfl ?_; refine S_seq rfl ?_; refine S_region rfl rfl ?_; refine R_take (T_build0 mp_built0) ?_ rfl rfl; (refine R_eff0 (E_storew (ds := [.slice none 0 0]) (cs := [.slice none 0 0]) rfl rfl rfl rfl (sl_one _ _ _) rfl) ?_ rfl; rintro _ _ rfl); refine R_p rfl ?_ rfl rfl; refine R_nil ?_)
    refine hB _ _ _ _ _ rfl (.cell rfl rfl rfl inferInstance rfl (.tmp rfl .nil)) fun w' hS => ⟨(none, 0), rfl, trivial, (hS.sublist (List.nil_sublist _)).nilrow _ _⟩
  have hsc := chkC_srt hrc
  focus (refine S_seq rfl ?_; refine S_region rfl rfl ?_; (refine R_eff (E_boxa (cs := [.slice A L.length c]) rfl) ?_ rfl rfl; rintro _ _ ⟨b2, rfl, rfl⟩); (refine R_eff (E_boxa (cs := [.slice A2 C.length c2]) rfl) ?_ rfl rfl; rintro _ _ ⟨b3, rfl, rfl⟩); (refine R_eff (E_alloca rfl mp_alloc) ?_ rfl rfl; rintro _ _ ⟨b4, rfl, rfl⟩); refine R_p rfl ?_ rfl rfl; refine R_nil ?_; refine S_seq rfl ?_; refine S_block rfl ?_; refine S_seq rfl ?_; refine S_region rfl rfl ?_; refine R_take (T_loada (ds := [.slice A L.length c]) rfl rfl rfl rfl (fun j v h => by simpa using h)) ?_ rfl rfl; (refine R_eff (E_chkRW (L := L) (r := true) rfl (Srd.old h (fun k _ => noOwns k)) (by omega) hp hr) ?_ rfl rfl; rintro _ _ ⟨rfl, rfl⟩); refine R_p rfl ?_ rfl rfl; refine R_p rfl ?_ rfl rfl; refine R_nil ?_; refine S_false rfl rfl ?_; refine S_seq rfl ?_; refine S_region rfl rfl ?_; refine R_take (T_loada (ds := [.slice A2 C.length c2]) rfl rfl rfl rfl (fun j v h => by simpa using h)) ?_ rfl rfl; (refine R_eff (E_chkCW (L := C) (r := true) rfl (Srd.old h2 (fun k _ => noOwns k)) (by omega) hp2 hrc) ?_ rfl rfl; rintro _ _ ⟨rfl, rfl⟩); refine R_p rfl ?_ rfl rfl; refine R_p rfl ?_ rfl rfl; refine R_nil ?_; refine S_false rfl rfl ?_; refine S_skip rfl ?_; refine RS_blk ?_; refine S_seq rfl ?_; refine S_region rfl rfl ?_; refine R_p rfl ?_ rfl rfl; refine R_take (T_load rfl rfl rfl (by first | rfl | assumption)) ?_ rfl rfl; (refine R_eff (E_gv1 (f := 63) ⟨_, Try.func63, rfl, by kernel_rfl⟩ rfl (fun w hS => clone_any w A _ c (cellsL rwc L) ((Srd.old h (fun k _ => noOwns k)).rd w hS) (cells_ones L) (by omega)) (fun _ => rfl)) ?_ rfl rfl; rintro _ _ ⟨⟨A5, c5⟩, rfl, _, rfl⟩); refine R_p rfl ?_ rfl rfl; refine R_nil ?_; refine S_seq rfl ?_; refine S_seq rfl ?_; refine S_region rfl rfl ?_; refine R_p rfl ?_ rfl rfl; refine R_take (T_load rfl rfl rfl (by first | rfl | assumption)) ?_ rfl rfl; refine R_p rfl ?_ rfl rfl; refine R_p rfl ?_ rfl rfl; refine R_nil ?_; refine S_block rfl ?_)
  refine S_loop (X := Nat × Option Addr × Nat) (fun x => [(4, .pointer (some ⟨b4, 0, none⟩)), (6, .slice x.2.1 (appU L (C.take x.1)).length x.2.2), (25, .slice A2 C.length c2), (26, .int .i64 (C.length : Int)), (27, .int .i64 (x.1 : Int))]) (fun x => [row 70 2 x.2.1 (appU L (C.take x.1)).length x.2.2 (cellsL rwc (appU L (C.take x.1))), pt b4 24 [.slice none 0 0]]) (fun x => x.1 ≤ C.length) (fun x => C.length - x.1) rfl (0, A5, c5) (Nat.zero_le _) (Sub.cons rfl (Sub.cons rfl (Sub.cons rfl (Sub.cons rfl (Sub.cons rfl Sub.nil))))) (fun w hS => sub_st (H' := [row 70 2 A5 L.length c5 (cellsL rwc L), pt b4 24 [.slice none 0 0]]) w hS) ?_
  rintro ⟨j, A6, c6⟩ hj J hJ
  dsimp only at hj ⊢
  have hRs := appU_srt hsr.2.1 (C.take j)
  have hRl := appU_len L (C.take j)
  have hnx := appU_next L C j
  rw [List.length_take] at hRl
  have hend : j = C.length → appU L C = appU L (C.take j) := fun e => by rw [e, List.take_length]
  obtain ⟨R, hR⟩ : ∃ R, appU L (C.take j) = R := ⟨_, rfl⟩
  rw [hR] at hRs hRl hnx hend ⊢
  have hR1 : R.length ≤ 100 := by omega
  refine RS_row A6 R.length c6 fun hmc hcm hne6 hxl => ?_
  rcases Nat.lt_or_ge j C.length with hjl | hjl
  · have hne2 := hne2 (by omega)
    have hnx := hnx hjl
    have hat := cellsL_at (f := chc) chc_len C default j hjl
    obtain ⟨⟨s, is, t⟩, hx⟩ : ∃ x, C.getD j default = x := ⟨_, rfl⟩
    rw [hx] at hat hnx
    obtain ⟨r, hth⟩ : ∃ r, thereR R s = r := ⟨_, rfl⟩
    cases r
    · cases is
      · skip
        focus (refine S_seq rfl ?_; refine S_region rfl rfl ?_; refine R_take (T_decT rfl (by omega)) ?_ rfl rfl; refine R_nil ?_; refine S_seq rfl ?_; refine S_true rfl rfl ?_; refine S_skip rfl ?_; refine S_seq rfl ?_; refine S_block rfl ?_; refine S_seq rfl ?_; refine S_region rfl rfl ?_; refine R_take (T_ixM (sz := 3) rfl rfl rfl rfl rfl rfl hne2 hjl) ?_ rfl rfl; refine R_take (T_lda (ds := chc (s, false, t)) rfl rfl rfl (Srd.old h2 (fun k _ => noOwns k)) rfl (by omega) hat) ?_ rfl rfl; (refine R_eff (E_alloca rfl chc_zero) ?_ rfl rfl; rintro _ _ ⟨b8, rfl, rfl⟩); (refine R_eff0 (E_storew (cs := chc default) (ds := chc (s, false, t)) rfl rfl rfl rfl (chc_one _) rfl) ?_ rfl; rintro _ _ rfl); refine R_nil ?_; refine S_seq rfl ?_; refine S_region rfl rfl ?_; refine R_p rfl ?_ rfl rfl; refine R_p rfl ?_ rfl rfl; refine R_take (T_load rfl rfl rfl (by first | rfl | assumption)) ?_ rfl rfl; (refine R_eff (E_binW (L := R) (s := s) rfl rfl rfl (Srd.row (n := R.length) (c := c6)) (by omega) hRs hth) ?_ rfl rfl; rintro _ _ ⟨i, rfl, hi, hlo, _, hhi, rfl⟩); refine R_p rfl ?_ rfl rfl; refine R_p rfl ?_ rfl rfl; refine R_p rfl ?_ rfl rfl; refine R_p rfl ?_ rfl rfl; refine R_p rfl ?_ rfl rfl; refine R_nil ?_; refine S_block rfl ?_; refine S_seq rfl ?_; refine S_region rfl rfl ?_; refine R_p rfl ?_ rfl rfl; refine R_p rfl ?_ rfl rfl; refine R_skip ?_ rfl rfl; refine R_skip ?_ rfl rfl; refine R_p rfl ?_ rfl rfl; refine R_p rfl ?_ rfl rfl; refine R_nil ?_; refine S_false rfl rfl ?_; refine S_seq rfl ?_; refine S_region rfl rfl ?_; refine R_p rfl ?_ rfl rfl; refine R_p rfl ?_ rfl rfl; refine R_nil ?_; refine S_false rfl rfl ?_; refine S_seq rfl ?_; refine S_region rfl rfl ?_; refine R_p rfl ?_ rfl rfl; refine R_take (T_load rfl rfl rfl (by first | rfl | assumption)) ?_ rfl rfl; refine R_p rfl ?_ rfl rfl; refine R_nil ?_; refine S_false rfl rfl ?_; refine S_skip rfl ?_; refine RS_blk ?_; refine RS_blk ?_; refine S_region rfl rfl ?_; refine R_take (T_addN rfl rfl (by unfold fits; omega)) ?_ rfl rfl; refine R_p rfl ?_ rfl rfl; refine R_nil ?_)
        have hup := upd_not (t := t) hlo (hhi rfl)
        rw [hup] at hnx
        refine hJ (j + 1, A6, c6) _ _ (by show j + 1 ≤ _; omega) ?_ (fun w' hS => ?_) (by show C.length - (j + 1) < _; omega)
        · dsimp only
          rw [hnx]
          exact (Sub.cons rfl (Sub.cons rfl (Sub.cons rfl (Sub.cons rfl (Sub.cons rfl Sub.nil)))))
        · dsimp only
          rw [hnx]
          exact sub_st w' hS
      · skip
        focus (refine S_seq rfl ?_; refine S_region rfl rfl ?_; refine R_take (T_decT rfl (by omega)) ?_ rfl rfl; refine R_nil ?_; refine S_seq rfl ?_; refine S_true rfl rfl ?_; refine S_skip rfl ?_; refine S_seq rfl ?_; refine S_block rfl ?_; refine S_seq rfl ?_; refine S_region rfl rfl ?_; refine R_take (T_ixM (sz := 3) rfl rfl rfl rfl rfl rfl hne2 hjl) ?_ rfl rfl; refine R_take (T_lda (ds := chc (s, true, t)) rfl rfl rfl (Srd.old h2 (fun k _ => noOwns k)) rfl (by omega) hat) ?_ rfl rfl; (refine R_eff (E_alloca rfl chc_zero) ?_ rfl rfl; rintro _ _ ⟨b8, rfl, rfl⟩); (refine R_eff0 (E_storew (cs := chc default) (ds := chc (s, true, t)) rfl rfl rfl rfl (chc_one _) rfl) ?_ rfl; rintro _ _ rfl); refine R_nil ?_; refine S_seq rfl ?_; refine S_region rfl rfl ?_; refine R_p rfl ?_ rfl rfl; refine R_p rfl ?_ rfl rfl; refine R_take (T_load rfl rfl rfl (by first | rfl | assumption)) ?_ rfl rfl; (refine R_eff (E_binW (L := R) (s := s) rfl rfl rfl (Srd.row (n := R.length) (c := c6)) (by omega) hRs hth) ?_ rfl rfl; rintro _ _ ⟨i, rfl, hi, hlo, _, hhi, rfl⟩); refine R_p rfl ?_ rfl rfl; refine R_p rfl ?_ rfl rfl; refine R_p rfl ?_ rfl rfl; refine R_p rfl ?_ rfl rfl; refine R_p rfl ?_ rfl rfl; refine R_nil ?_; refine S_block rfl ?_; refine S_seq rfl ?_; refine S_region rfl rfl ?_; refine R_p rfl ?_ rfl rfl; refine R_p rfl ?_ rfl rfl; refine R_skip ?_ rfl rfl; refine R_skip ?_ rfl rfl; refine R_p rfl ?_ rfl rfl; refine R_p rfl ?_ rfl rfl; refine R_nil ?_; refine S_false rfl rfl ?_; refine S_seq rfl ?_; refine S_region rfl rfl ?_; refine R_p rfl ?_ rfl rfl; refine R_p rfl ?_ rfl rfl; refine R_nil ?_; refine S_false rfl rfl ?_; refine S_seq rfl ?_; refine S_region rfl rfl ?_; refine R_p rfl ?_ rfl rfl; refine R_take (T_load rfl rfl rfl (by first | rfl | assumption)) ?_ rfl rfl; refine R_p rfl ?_ rfl rfl; refine R_nil ?_; refine S_true rfl rfl ?_; refine S_region rfl rfl ?_; refine R_p rfl ?_ rfl rfl; refine R_p rfl ?_ rfl rfl; refine R_p rfl ?_ rfl rfl; refine R_take (T_load rfl rfl rfl (by first | rfl | assumption)) ?_ rfl rfl; refine R_p rfl ?_ rfl rfl; refine R_take (T_load rfl rfl rfl (by first | rfl | assumption)) ?_ rfl rfl; refine R_take (T_build2 rfl rfl (rw_built2 _ _)) ?_ rfl rfl; (refine R_eff (E_litS (vs := [.agg (rwc (s, t)).toArray]) (size := 2) (ds := rwc (s, t)) rfl rfl rfl rfl rfl rfl (by simp [vcells, rwc]) rfl (by omega)) ?_ rfl rfl; rintro _ _ ⟨vb, rfl, rfl⟩); (refine R_eff (E_gt2 (A1 := row 70 2 A6 R.length c6 (cellsL rwc R)) (A2 := pt vb 70 (rwc (s, t))) (f := 68) ⟨_, Try.func68, rfl, by kernel_rfl⟩ rfl (fun w hS hS2 => insert_any w A6 R.length c6 vb i (cellsL rwc R) (rwc (s, t)) hi (by omega) (cells_ones R) (rwc_one _) rfl hS2) (fun _ => rfl)) ?_ rfl rfl; rintro _ _ ⟨⟨A7, c7⟩, rfl, _, rfl⟩); refine R_p rfl ?_ rfl rfl; refine R_nil ?_; refine RS_blk ?_; refine RS_blk ?_; refine S_region rfl rfl ?_; refine R_take (T_addN rfl rfl (by unfold fits; omega)) ?_ rfl rfl; refine R_p rfl ?_ rfl rfl; refine R_nil ?_)
        have hup := upd_ins (t := t) hlo (hhi rfl)
        rw [hup] at hnx
        have hln : (R.take i ++ (s, t) :: R.drop i).length = R.length + 1 := by simp; omega
        refine hJ (j + 1, A7, c7) _ _ (by show j + 1 ≤ _; omega) ?_ (fun w' hS => ?_) (by show C.length - (j + 1) < _; omega)
        · dsimp only
          rw [hnx, hln]
          exact (Sub.cons rfl (Sub.cons rfl (Sub.cons rfl (Sub.cons rfl (Sub.cons rfl Sub.nil)))))
        · dsimp only
          rw [hnx, hln, ← cells_ins]
          exact sub_st w' hS
    · cases is
      · skip
        focus (refine S_seq rfl ?_; refine S_region rfl rfl ?_; refine R_take (T_decT rfl (by omega)) ?_ rfl rfl; refine R_nil ?_; refine S_seq rfl ?_; refine S_true rfl rfl ?_; refine S_skip rfl ?_; refine S_seq rfl ?_; refine S_block rfl ?_; refine S_seq rfl ?_; refine S_region rfl rfl ?_; refine R_take (T_ixM (sz := 3) rfl rfl rfl rfl rfl rfl hne2 hjl) ?_ rfl rfl; refine R_take (T_lda (ds := chc (s, false, t)) rfl rfl rfl (Srd.old h2 (fun k _ => noOwns k)) rfl (by omega) hat) ?_ rfl rfl; (refine R_eff (E_alloca rfl chc_zero) ?_ rfl rfl; rintro _ _ ⟨b8, rfl, rfl⟩); (refine R_eff0 (E_storew (cs := chc default) (ds := chc (s, false, t)) rfl rfl rfl rfl (chc_one _) rfl) ?_ rfl; rintro _ _ rfl); refine R_nil ?_; refine S_seq rfl ?_; refine S_region rfl rfl ?_; refine R_p rfl ?_ rfl rfl; refine R_p rfl ?_ rfl rfl; refine R_take (T_load rfl rfl rfl (by first | rfl | assumption)) ?_ rfl rfl; (refine R_eff (E_binW (L := R) (s := s) rfl rfl rfl (Srd.row (n := R.length) (c := c6)) (by omega) hRs hth) ?_ rfl rfl; rintro _ _ ⟨i, rfl, hi, hlo, hik, _, rfl⟩; obtain ⟨hil, hik⟩ := hik rfl); refine R_p rfl ?_ rfl rfl; refine R_p rfl ?_ rfl rfl; refine R_p rfl ?_ rfl rfl; refine R_p rfl ?_ rfl rfl; refine R_p rfl ?_ rfl rfl; refine R_nil ?_; refine S_block rfl ?_; refine S_seq rfl ?_; refine S_region rfl rfl ?_; refine R_p rfl ?_ rfl rfl; refine R_p rfl ?_ rfl rfl; refine R_p rfl ?_ rfl rfl; refine R_take (T_load rfl rfl rfl (by first | rfl | assumption)) ?_ rfl rfl; refine R_p rfl ?_ rfl rfl; refine R_p rfl ?_ rfl rfl; refine R_nil ?_; refine S_false rfl rfl ?_; refine S_seq rfl ?_; refine S_region rfl rfl ?_; refine R_p rfl ?_ rfl rfl; refine R_p rfl ?_ rfl rfl; refine R_nil ?_; refine S_true rfl rfl ?_; refine S_region rfl rfl ?_; refine R_p rfl ?_ rfl rfl; refine R_p rfl ?_ rfl rfl; refine R_p rfl ?_ rfl rfl; refine R_take (T_addN rfl rfl (by unfold fits; omega)) ?_ rfl rfl; (refine R_eff (E_gt1 (A1 := row 70 2 A6 R.length c6 (cellsL rwc R)) (f := 67) ⟨_, Try.func67, rfl, by kernel_rfl⟩ rfl (fun w hS hS2 => delete_any w A6 R.length c6 i (i + 1) (cellsL rwc R) (by omega) (by omega) (by omega) (cells_ones R) hS2) (fun _ => rfl)) ?_ rfl rfl; rintro _ _ ⟨⟨A7, c7⟩, rfl, _, rfl⟩); refine R_p rfl ?_ rfl rfl; refine R_nil ?_; refine RS_blk ?_; refine RS_blk ?_; refine S_region rfl rfl ?_; refine R_take (T_addN rfl rfl (by unfold fits; omega)) ?_ rfl rfl; refine R_p rfl ?_ rfl rfl; refine R_nil ?_)
        have hup := upd_del (t := t) hRs hil hlo hik
        rw [hup] at hnx
        have hln : (R.take i ++ R.drop (i + 1)).length = i + (R.length - (i + 1)) := by simp; omega
        refine hJ (j + 1, A7, c7) _ _ (by show j + 1 ≤ _; omega) ?_ (fun w' hS => ?_) (by show C.length - (j + 1) < _; omega)
        · dsimp only
          rw [hnx, hln]
          exact (Sub.cons rfl (Sub.cons rfl (Sub.cons rfl (Sub.cons rfl (Sub.cons rfl Sub.nil)))))
        · dsimp only
          rw [hnx, hln, ← cells_del]
          exact sub_st w' hS
      · skip
        focus (refine S_seq rfl ?_; refine S_region rfl rfl ?_; refine R_take (T_decT rfl (by omega)) ?_ rfl rfl; refine R_nil ?_; refine S_seq rfl ?_; refine S_true rfl rfl ?_; refine S_skip rfl ?_; refine S_seq rfl ?_; refine S_block rfl ?_; refine S_seq rfl ?_; refine S_region rfl rfl ?_; refine R_take (T_ixM (sz := 3) rfl rfl rfl rfl rfl rfl hne2 hjl) ?_ rfl rfl; refine R_take (T_lda (ds := chc (s, true, t)) rfl rfl rfl (Srd.old h2 (fun k _ => noOwns k)) rfl (by omega) hat) ?_ rfl rfl; (refine R_eff (E_alloca rfl chc_zero) ?_ rfl rfl; rintro _ _ ⟨b8, rfl, rfl⟩); (refine R_eff0 (E_storew (cs := chc default) (ds := chc (s, true, t)) rfl rfl rfl rfl (chc_one _) rfl) ?_ rfl; rintro _ _ rfl); refine R_nil ?_; refine S_seq rfl ?_; refine S_region rfl rfl ?_; refine R_p rfl ?_ rfl rfl; refine R_p rfl ?_ rfl rfl; refine R_take (T_load rfl rfl rfl (by first | rfl | assumption)) ?_ rfl rfl; (refine R_eff (E_binW (L := R) (s := s) rfl rfl rfl (Srd.row (n := R.length) (c := c6)) (by omega) hRs hth) ?_ rfl rfl; rintro _ _ ⟨i, rfl, hi, hlo, hik, _, rfl⟩; obtain ⟨hil, hik⟩ := hik rfl); refine R_p rfl ?_ rfl rfl; refine R_p rfl ?_ rfl rfl; refine R_p rfl ?_ rfl rfl; refine R_p rfl ?_ rfl rfl; refine R_p rfl ?_ rfl rfl; refine R_nil ?_; refine S_block rfl ?_; refine S_seq rfl ?_; refine S_region rfl rfl ?_; refine R_p rfl ?_ rfl rfl; refine R_p rfl ?_ rfl rfl; refine R_p rfl ?_ rfl rfl; refine R_take (T_load rfl rfl rfl (by first | rfl | assumption)) ?_ rfl rfl; refine R_p rfl ?_ rfl rfl; refine R_p rfl ?_ rfl rfl; refine R_nil ?_; refine S_true rfl rfl ?_; refine S_region rfl rfl ?_; refine R_p rfl ?_ rfl rfl; refine R_p rfl ?_ rfl rfl; refine R_p rfl ?_ rfl rfl; refine R_take (T_load rfl rfl rfl (by first | rfl | assumption)) ?_ rfl rfl; refine R_take (T_ixM (sz := 2) (q := i) rfl rfl rfl rfl rfl rfl (hne6 (by omega)) hil) ?_ rfl rfl; refine R_take (T_fap rfl rfl rfl rfl rfl (hne6 (by omega))) ?_ rfl rfl; (refine R_eff0 (E_storeRS (sz := 2) (m := R.length) (c := c6) (A := A6) (xs := cellsL rwc R) (v := sv t) rfl rfl rfl rfl rfl (by rw [cellsL_len rwc_len]; omega)) ?_ rfl; rintro _ _ rfl); refine R_nil ?_; refine RS_blk ?_; refine RS_blk ?_; refine S_region rfl rfl ?_; refine R_take (T_addN rfl rfl (by unfold fits; omega)) ?_ rfl rfl; refine R_p rfl ?_ rfl rfl; refine R_nil ?_)
        have hup := upd_set (t := t) hRs hil hlo hik
        rw [hup] at hnx
        refine hJ (j + 1, A6, c6) _ _ (by show j + 1 ≤ _; omega) ?_ (fun w' hS => ?_) (by show C.length - (j + 1) < _; omega)
        · dsimp only
          rw [hnx, List.length_set]
          exact (Sub.cons rfl (Sub.cons rfl (Sub.cons rfl (Sub.cons rfl (Sub.cons rfl Sub.nil)))))
        · dsimp only
          rw [hnx, List.length_set, ← cells_set1 R i s t hil hik]
          exact sub_st w' hS
  have hend := hend (by omega)
  rcases Nat.lt_or_ge 32 R.length with hfl | hfl
  · have e1 : appE L C = 6 := by rw [appE, hr, hrc, hend, if_pos rfl, if_pos rfl, if_neg (by omega)]
    have e2 : appR L C = [] := by rw [appR, hr, hrc, hend, if_pos rfl, if_pos rfl, if_neg (by omega)]
    rw [e1, e2] at hB
    focus (refine S_seq rfl ?_; refine S_region rfl rfl ?_; refine R_take (T_decF rfl (by omega)) ?_ rfl rfl; refine R_nil ?_; refine S_seq rfl ?_; refine S_false rfl rfl ?_; refine S_exit rfl rfl ?_; refine S_seq rfl ?_; refine S_seq rfl ?_; refine S_region rfl rfl ?_; refine R_p rfl ?_ rfl rfl; refine R_p rfl ?_ rfl rfl; refine R_take (T_decT rfl (by omega)) ?_ rfl rfl; refine R_nil ?_; refine S_true rfl rfl ?_; refine S_seq rfl ?_; refine S_region rfl rfl ?_; refine R_take (T_build0 mp_built0) ?_ rfl rfl; (refine R_eff0 (E_storew (ds := [.slice none 0 0]) (cs := [.slice none 0 0]) rfl rfl rfl rfl (sl_one _ _ _) rfl) ?_ rfl; rintro _ _ rfl); refine R_p rfl ?_ rfl rfl; refine R_nil ?_)
    refine hB _ _ _ _ _ rfl (.cell rfl rfl rfl inferInstance rfl (.tmp rfl .nil)) fun w' hS => ⟨(none, 0), rfl, trivial, (hS.sublist (List.nil_sublist _)).nilrow _ _⟩
  · have e1 : appE L C = 0 := by rw [appE, hr, hrc, hend, if_pos rfl, if_pos rfl, if_pos (by omega)]
    have e2 : appR L C = R := by rw [appR, hr, hrc, hend, if_pos rfl, if_pos rfl, if_pos (by omega)]
    rw [e1, e2] at hB
    focus (refine S_seq rfl ?_; refine S_region rfl rfl ?_; refine R_take (T_decF rfl (by omega)) ?_ rfl rfl; refine R_nil ?_; refine S_seq rfl ?_; refine S_false rfl rfl ?_; refine S_exit rfl rfl ?_; refine S_seq rfl ?_; refine S_seq rfl ?_; refine S_region rfl rfl ?_; refine R_p rfl ?_ rfl rfl; refine R_p rfl ?_ rfl rfl; refine R_take (T_decF rfl (by omega)) ?_ rfl rfl; refine R_nil ?_; refine S_false rfl rfl ?_; refine S_skip rfl ?_; refine S_seq rfl ?_; refine S_region rfl rfl ?_; refine R_p rfl ?_ rfl rfl; refine R_take (T_build1 rfl (mp_built1 _ _ _)) ?_ rfl rfl; (refine R_eff0 (E_storew (ds := [.slice A6 R.length c6]) (cs := [.slice none 0 0]) rfl rfl rfl rfl (sl_one _ _ _) rfl) ?_ rfl; rintro _ _ rfl); refine R_p rfl ?_ rfl rfl; refine R_nil ?_)
    refine hB _ _ _ _ _ rfl (.cell rfl rfl rfl inferInstance rfl (.tmp rfl .nil)) fun w' hS => ⟨(A6, c6), rfl, trivial, sub_st _ hS⟩
end Go.Proofs.Ytghfjfgpiomdhaa

namespace Go.Proofs.Ytghfjfgpiomdhaa
open Go.RowKit
open Asn (pt row rb)
set_option linter.unusedVariables false
set_option linter.unusedSimpArgs false
--@use N

theorem ch_ones (L : List Ch) : ∀ v ∈ cellsL chc L, v.oneCell' = true := fun v hv => by
  obtain ⟨x, _, hx⟩ := List.mem_flatMap.1 hv
  exact chc_one x v hx
theorem ch_built1 (s : Str) : Try.prog.built 73 [(0, sv s)] = some (chc (s, false, [])).toArray := by kernel_rfl
theorem ch_built3 (s t : Str) (b : Bool) : Try.prog.built 73 [(0, sv s), (1, .bool b), (2, sv t)] = some (chc (s, b, t)).toArray := by kernel_rfl
section
variable {n : Nat} {w0 : World} {M : Nat → Prop} {T : Slots} {H : List Asn} {dd : Option Tmp} {tt : TypeId} {pos : String} {af : Array Edge} {g : Option (Nat × Bool)} {x y z : Operand} {ts : Array TypeId} {A A2 : Option Addr} {m c m2 c2 : Nat}
theorem E_applyW {L : List Rw} {C : List Ch} {R : List Rw} {e : Int} {k : Nat} (hx : oget T x = some (.agg #[.slice A m c])) (hy : oget T y = some (.agg #[.slice A2 m2 c2])) (hs : Srd w0 M H 2 A m (cellsL rwc L)) (hs2 : Srd w0 M H 3 A2 m2 (cellsL chc C)) (hm : m ≤ 100000) (hm2 : m2 ≤ 100000) (hp : ∀ x ∈ L, x.1.length ≤ 100000) (hp2 : ∀ x ∈ C, x.1.length ≤ 100000) (hR : appR L C = R) (he : appE L C = e) (hk : R.length = k) :
    Ef Try.prog n w0 M T H ⟨dd, .call ⟨.value (.func 34), #[x, y], ts⟩, tt, pos, af, g⟩ (fun u H' => ∃ A' c', u = .tuple #[.agg #[.slice A' k c'], zi e] ∧ (0 < k → A' ≠ none) ∧ H' = row 70 2 A' k c' (cellsL rwc R) :: H) := by
  subst hR
  subst he
  subst hk
  refine (E_gv1 ⟨_, Try.func34, rfl, by kernel_rfl⟩ (vs := [.agg #[.slice A m c], .agg #[.slice A2 m2 c2]]) (by simp [ogets, hx, hy]) (fun w hS => apply_any w A A2 m c m2 c2 L C (hs.rd w hS) (hs2.rd w hS) hm hm2 hp hp2) (fun _ => rfl)).mono ?_
  rintro v H' ⟨⟨A', c'⟩, rfl, _, rfl⟩ w hS
  exact ⟨_, _, rfl, ⟨A', c', rfl, (row_facts (hS.at_ (A := row 70 2 A' (appR L C).length c' (cellsL rwc (appR L C))) (by simp))).2.2.1, rfl⟩, hS⟩
end
def smallR (L : List Rw) : Prop := L.length ≤ 100 ∧ ∀ x ∈ L, x.1.length ≤ 500 ∧ x.2.length ≤ 5000
def smallC (L : List Ch) : Prop := L.length ≤ 100 ∧ ∀ x ∈ L, x.1.length ≤ 500 ∧ x.2.2.length ≤ 5000
end Go.Proofs.Ytghfjfgpiomdhaa

namespace Go.Proofs.Ytghfjfgpiomdhaa
open Go.RowKit
open Asn (pt row rb)
set_option linter.unusedVariables false
set_option linter.unusedSimpArgs false
--@use N

theorem eqv_sv (a b : Str) : eqVal (sv a) (sv b) = decide (a = b) := by
  simp only [eqVal, sv, Lib.toList_data]
  rw [Bool.eq_iff_iff]
  simp
section
variable {n : Nat} {w0 : World} {M : Nat → Prop} {T : Slots} {H : List Asn} {dd : Option Tmp} {tt : TypeId} {pos : String} {af : Array Edge} {g : Option (Nat × Bool)} {x y : Operand}
theorem T_eqRw {u : TypeId} {a b : Rw} {r : Bool} (hx : oget T x = some (.agg (rwc a).toArray)) (hy : oget T y = some (.agg (rwc b).toArray)) (hr : decide (a = b) = r) :
    Tk Try.prog n w0 M T H ⟨dd, .binOp .eql 70 x y u, tt, pos, af, g⟩ (.bool (r)) := by
  refine T_eqS (r := r) hx hy (s := 70) (i := ti70) rfl rfl (by kernel_rfl) (by kernel_rfl) rfl ?_
  subst hr
  obtain ⟨a1, a2⟩ := a
  obtain ⟨b1, b2⟩ := b
  show (eqVal (sv a1) (sv b1) && (eqVal (sv a2) (sv b2) && true)) = _
  rw [eqv_sv, eqv_sv, Bool.and_true, Bool.eq_iff_iff]
  simp
theorem T_eqCh {u : TypeId} {a b : Ch} {r : Bool} (hx : oget T x = some (.agg (chc a).toArray)) (hy : oget T y = some (.agg (chc b).toArray)) (hr : decide (a = b) = r) :
    Tk Try.prog n w0 M T H ⟨dd, .binOp .eql 73 x y u, tt, pos, af, g⟩ (.bool (r)) := by
  refine T_eqS (r := r) hx hy (s := 73) (i := ti73) rfl rfl (by kernel_rfl) (by kernel_rfl) rfl ?_
  subst hr
  obtain ⟨a1, a2, a3⟩ := a
  obtain ⟨b1, b2, b3⟩ := b
  show (eqVal (sv a1) (sv b1) && ((a2 == b2) && (eqVal (sv a3) (sv b3) && true))) = _
  rw [eqv_sv, eqv_sv, Bool.and_true, Bool.eq_iff_iff]
  simp
theorem T_neRw {u : TypeId} {a b : Rw} {r : Bool} (hx : oget T x = some (.agg (rwc a).toArray)) (hy : oget T y = some (.agg (rwc b).toArray)) (hr : decide (a = b) = r) :
    Tk Try.prog n w0 M T H ⟨dd, .binOp .neq 70 x y u, tt, pos, af, g⟩ (.bool (!r)) := by
  refine T_neS (r := r) hx hy (s := 70) (i := ti70) rfl rfl (by kernel_rfl) (by kernel_rfl) rfl ?_
  subst hr
  obtain ⟨a1, a2⟩ := a
  obtain ⟨b1, b2⟩ := b
  show (eqVal (sv a1) (sv b1) && (eqVal (sv a2) (sv b2) && true)) = _
  rw [eqv_sv, eqv_sv, Bool.and_true, Bool.eq_iff_iff]
  simp
theorem T_neCh {u : TypeId} {a b : Ch} {r : Bool} (hx : oget T x = some (.agg (chc a).toArray)) (hy : oget T y = some (.agg (chc b).toArray)) (hr : decide (a = b) = r) :
    Tk Try.prog n w0 M T H ⟨dd, .binOp .neq 73 x y u, tt, pos, af, g⟩ (.bool (!r)) := by
  refine T_neS (r := r) hx hy (s := 73) (i := ti73) rfl rfl (by kernel_rfl) (by kernel_rfl) rfl ?_
  subst hr
  obtain ⟨a1, a2, a3⟩ := a
  obtain ⟨b1, b2, b3⟩ := b
  show (eqVal (sv a1) (sv b1) && ((a2 == b2) && (eqVal (sv a3) (sv b3) && true))) = _
  rw [eqv_sv, eqv_sv, Bool.and_true, Bool.eq_iff_iff]
  simp
end
def wkL : List Rw := [([97], [49]), ([98], [50])]
def wkC : List Ch := [([98], false, []), ([99], true, [51])]
theorem wk_R : appR wkL wkC = [([97], [49]), ([99], [51])] := by kernel_rfl
theorem wk_E : appE wkL wkC = 0 := by kernel_rfl
end Go.Proofs.Ytghfjfgpiomdhaa

namespace Go.Proofs.Ytghfjfgpiomdhaa
open Go.RowKit
open Asn (pt row rb)
set_option linter.unusedVariables false
set_option linter.unusedSimpArgs false
--@use N

theorem lo_next {α : Type} [Inhabited α] (k : α → Str) (l : List α) (s : Str) (j : Nat) (hj : j < l.length) : lo k (l.take (j + 1)) s = lo k (l.take j) s ++ if k (l.getD j default) < s then [l.getD j default] else [] := by
  rw [lo, List.take_succ_eq_append_getElem hj, List.filter_append, lo]
  simp only [List.getD, List.getElem?_eq_getElem hj, Option.getD_some]
  by_cases h : k l[j] < s <;> simp [h, List.filter_cons]
theorem hi_next {α : Type} [Inhabited α] (k : α → Str) (l : List α) (s : Str) (j : Nat) (hj : j < l.length) : hi k (l.take (j + 1)) s = hi k (l.take j) s ++ if s < k (l.getD j default) then [l.getD j default] else [] := by
  rw [hi, List.take_succ_eq_append_getElem hj, List.filter_append, hi]
  simp only [List.getD, List.getElem?_eq_getElem hj, Option.getD_some]
  by_cases h : s < k l[j] <;> simp [h, List.filter_cons]
/-- texts that rise, with one -/
def withS (l : List Str) (s : Str) : List Str := lo id l s ++ [s] ++ hi id l s
theorem with_srt {l : List Str} (h : Srt id l) (s : Str) : Srt id (withS l s) := srt_put h s [s] (by simp) (by simp)
theorem with_mem (l : List Str) (s x : Str) : x ∈ withS l s ↔ x ∈ l ∨ x = s := by
  unfold withS lo hi
  simp only [List.mem_append, List.mem_filter, decide_eq_true_eq, List.mem_singleton, id]
  constructor
  · rintro ((⟨a, _⟩ | a) | ⟨a, _⟩)
    · exact .inl a
    · exact .inr a
    · exact .inl a
  · rintro (a | a)
    · rcases sl_tri x s with h | h | h
      · exact .inl (.inl ⟨a, h⟩)
      · exact .inl (.inr h)
      · exact .inr ⟨a, h⟩
    · exact .inl (.inr a)
theorem with_has {l : List Str} {s : Str} (h : Srt id l) (hs : s ∈ l) : withS l s = l :=
  srt_ext (with_srt h s) h fun x => by rw [with_mem]; exact ⟨fun h => h.elim id (fun e => e ▸ hs), .inl⟩
theorem with_len (l : List Str) (s : Str) : (withS l s).length ≤ l.length + 1 := by
  have : (l.filter (fun x => decide (x < s))).length + (l.filter (fun x => decide (s < x))).length ≤ l.length := by
    induction l with
    | nil => simp
    | cons x L ih =>
      simp only [List.filter_cons, List.length_cons]
      by_cases h : x < s
      · rw [if_pos (by simpa using h), if_neg (by simpa using sl_as h), List.length_cons]
        omega
      · rw [if_neg (by simpa using h)]
        by_cases h2 : s < x
        · rw [if_pos (by simpa using h2), List.length_cons]
          omega
        · rw [if_neg (by simpa using h2)]
          omega
  have e : (withS l s).length = (l.filter (fun x => decide (x < s))).length + 1 + (l.filter (fun x => decide (s < x))).length := by
    simp only [withS, lo, hi, List.length_append, List.length_singleton, id]
  omega
theorem sv_ones (l : List Str) : ∀ v ∈ l.map sv, v.oneCell' = true := by simp [sv, Value.oneCell']
theorem sv_at {l : List Str} {j : Nat} {x : Str} (hj : j < l.length) (h : l.getD j [] = x) : (l.map sv)[j]? = some (sv x) := by
  subst h
  simp [List.getD, hj]
set_option maxRecDepth 100000 in
set_option maxHeartbeats 4000000 in
theorem with_any (w : World) (A : Option Addr) (n c : Nat) (l : List Str) (s : Str) (hu : Srt id l) (hn : n ≤ 1000)
    (hS : St w (owns [row 9 1 A n c (l.map sv)]) [row 9 1 A n c (l.map sv)] w) :
    Gives Try.prog 61 [.slice A n c, sv s] [row 9 1 A n c (l.map sv)] w (X := Option Addr × Nat) (fun x => .slice x.1 (withS l s).length x.2) (fun _ => True) (fun x => [row 9 1 x.1 (withS l s).length x.2 ((withS l s).map sv)]) := by
  refine gives_S Try.func61 rfl Try.ntmps61 Try.results61 (by simp) hS (fun B hB => ?_)
  refine RS_row A n c fun hnc hcm hne hxl => ?_
  have hl : l.length = n := by simpa using hxl
  subst hl
  focus (refine S_seq rfl ?_; refine S_region rfl rfl ?_; refine R_p rfl ?_ rfl rfl; refine R_nil ?_; refine S_seq rfl ?_; refine S_region rfl rfl ?_; refine R_p rfl ?_ rfl rfl; refine R_nil ?_; refine S_seq rfl ?_; refine S_region rfl rfl ?_; refine R_p rfl ?_ rfl rfl; refine R_nil ?_; refine S_seq rfl ?_; refine S_seq rfl ?_; refine S_region rfl rfl ?_; refine R_p rfl ?_ rfl rfl; refine R_nil ?_; refine S_block rfl ?_)
  refine S_loop (X := Nat × Bool × Option Addr × Nat) (fun x => [(0, .slice A l.length c), (1, sv s), (5, .slice x.2.2.1 (lo id (l.take x.1) s ++ (if x.2.1 then [s] else []) ++ hi id (l.take x.1) s).length x.2.2.2), (6, .bool x.2.1), (7, .int .i64 (x.1 : Int))]) (fun x => [row 9 1 x.2.2.1 (lo id (l.take x.1) s ++ (if x.2.1 then [s] else []) ++ hi id (l.take x.1) s).length x.2.2.2 ((lo id (l.take x.1) s ++ (if x.2.1 then [s] else []) ++ hi id (l.take x.1) s).map sv), row 9 1 A l.length c (l.map sv)]) (fun x => x.1 ≤ l.length ∧ s ∉ l.take x.1 ∧ (x.2.1 = false → hi id (l.take x.1) s = []) ∧ (x.2.1 = true → ∃ y, y ∈ l.take x.1 ∧ s < y)) (fun x => l.length - x.1) rfl (0, false, none, 0) ⟨Nat.zero_le _, by simp, fun _ => rfl, fun h => by cases h⟩ (Sub.cons rfl (Sub.cons rfl (Sub.cons rfl (Sub.cons rfl (Sub.cons rfl Sub.nil))))) (fun w hS => sub_st (H' := [row 9 1 none 0 0 [], row 9 1 A l.length c (l.map sv)]) w (hS.nilrow 9 1)) ?_
  rintro ⟨j, p, A5, c5⟩ ⟨hj, hno, hpf, hpt⟩ J hJ
  dsimp only at hj hno hpf hpt ⊢
  rcases Nat.lt_or_ge j l.length with hjl | hjl
  · have hne := hne (by omega)
    have hln := lo_next id l s j hjl
    have hhn := hi_next id l s j hjl
    have htk : l.take (j + 1) = l.take j ++ [l.getD j default] := by rw [List.take_succ_eq_append_getElem hjl]; simp [List.getD, hjl]
    have hmem : l.getD j default ∈ l := by simp [List.getD, hjl]
    have hat := fun x (h : l.getD j [] = x) => sv_at hjl h
    have hbig : ∀ y, y ∈ l.take j → y < l.getD j default := fun y hy => by
      obtain ⟨i, hi, rfl⟩ := List.getElem_of_mem hy
      simp only [List.length_take] at hi
      have := List.pairwise_iff_getElem.1 hu i j (by omega) hjl (by omega)
      simpa [List.getD, hjl] using this
    obtain ⟨x, hx⟩ : ∃ x, l.getD j default = x := ⟨_, rfl⟩
    rw [hx] at hln hhn htk hmem hbig
    have hat := hat x hx
    simp only [id] at hln hhn
    obtain ⟨O, hO⟩ : ∃ O, lo id (l.take j) s ++ (if p then [s] else []) ++ hi id (l.take j) s = O := ⟨_, rfl⟩
    have hOl : O.length ≤ 2100 := by
      rw [← hO]
      have a1 : (lo id (l.take j) s).length ≤ j := by refine Nat.le_trans (List.length_filter_le _ _) ?_; rw [List.length_take]; omega
      have a2 : (hi id (l.take j) s).length ≤ j := by refine Nat.le_trans (List.length_filter_le _ _) ?_; rw [List.length_take]; omega
      have a3 : (if p = true then [s] else [] : List Str).length ≤ 1 := by split <;> simp
      simp only [List.length_append]
      omega
    simp only [hO]
    by_cases hxs : x = s
    · have hcm : scmp .eql x s = some true := by simp [scmp, hxs]
      have hw := with_has hu (hxs ▸ hmem)
      rw [hw] at hB
      focus (refine S_seq rfl ?_; refine S_seq rfl ?_; refine S_region rfl rfl ?_; refine R_p rfl ?_ rfl rfl; refine R_p rfl ?_ rfl rfl; refine R_p rfl ?_ rfl rfl; refine R_take (T_decT rfl (by omega)) ?_ rfl rfl; refine R_nil ?_; refine S_true rfl rfl ?_; refine S_skip rfl ?_; refine S_seq rfl ?_; refine S_block rfl ?_; refine S_seq rfl ?_; refine S_seq rfl ?_; refine S_region rfl rfl ?_; refine R_p rfl ?_ rfl rfl; refine R_p rfl ?_ rfl rfl; refine R_take (T_ixN rfl rfl rfl rfl rfl rfl hne hjl) ?_ rfl rfl; refine R_take (T_ldr rfl rfl rfl (Srd.row (n := l.length) (c := c)) (by omega) hat) ?_ rfl rfl; refine R_p rfl ?_ rfl rfl; refine R_take (T_scm (a := x) (b := s) rfl rfl hcm) ?_ rfl rfl; refine R_nil ?_; refine S_true rfl rfl ?_; refine S_seq rfl ?_; refine S_region rfl rfl ?_; refine R_p rfl ?_ rfl rfl; refine R_p rfl ?_ rfl rfl; refine R_nil ?_)
      exact hB _ _ _ _ _ rfl rfl fun w' hS => ⟨(A, c), rfl, trivial, sub_st _ hS⟩
    have hcm : scmp .eql x s = some false := by simp [scmp, hxs]
    have hno2 : s ∉ l.take (j + 1) := by
      rw [htk]
      intro h
      rcases List.mem_append.1 h with h | h
      · exact hno h
      · exact hxs (List.mem_singleton.1 h).symm
    cases p
    · have hh0 := hpf rfl
      rw [hh0] at hO hhn
      simp only [Bool.false_eq_true, if_false, List.append_nil] at hO
      by_cases hlt : s < x
      · have hc2 : scmp .lss s x = some true := congrArg some (less_T hlt)
        rw [if_neg (sl_as hlt), List.append_nil] at hln
        rw [if_pos hlt] at hhn
        have hE : lo id (l.take (j + 1)) s ++ (if true = true then [s] else []) ++ hi id (l.take (j + 1)) s = O ++ [s] ++ [x] := by rw [hln, hhn, if_pos rfl, hO, List.nil_append]
        focus (refine S_seq rfl ?_; refine S_seq rfl ?_; refine S_region rfl rfl ?_; refine R_p rfl ?_ rfl rfl; refine R_p rfl ?_ rfl rfl; refine R_p rfl ?_ rfl rfl; refine R_take (T_decT rfl (by omega)) ?_ rfl rfl; refine R_nil ?_; refine S_true rfl rfl ?_; refine S_skip rfl ?_; refine S_seq rfl ?_; refine S_block rfl ?_; refine S_seq rfl ?_; refine S_seq rfl ?_; refine S_region rfl rfl ?_; refine R_p rfl ?_ rfl rfl; refine R_p rfl ?_ rfl rfl; refine R_take (T_ixN rfl rfl rfl rfl rfl rfl hne hjl) ?_ rfl rfl; refine R_take (T_ldr rfl rfl rfl (Srd.row (n := l.length) (c := c)) (by omega) hat) ?_ rfl rfl; refine R_p rfl ?_ rfl rfl; refine R_take (T_scm (a := x) (b := s) rfl rfl hcm) ?_ rfl rfl; refine R_nil ?_; refine S_false rfl rfl ?_; refine S_skip rfl ?_; refine S_seq rfl ?_; refine S_seq rfl ?_; refine S_region rfl rfl ?_; refine R_p rfl ?_ rfl rfl; refine R_take (T_not rfl) ?_ rfl rfl; refine R_p rfl ?_ rfl rfl; refine R_p rfl ?_ rfl rfl; refine R_p rfl ?_ rfl rfl; refine R_p rfl ?_ rfl rfl; refine R_take (T_ixN rfl rfl rfl rfl rfl rfl hne hjl) ?_ rfl rfl; refine R_take (T_ldr rfl rfl rfl (Srd.row (n := l.length) (c := c)) (by omega) hat) ?_ rfl rfl; refine R_take (T_scm (a := s) (b := x) rfl rfl hc2) ?_ rfl rfl; refine R_p rfl ?_ rfl rfl; refine R_nil ?_; refine S_true rfl rfl ?_; refine S_seq rfl ?_; refine S_region rfl rfl ?_; refine R_p rfl ?_ rfl rfl; refine R_p rfl ?_ rfl rfl; (refine R_eff (E_lit1 (m := 1) (vs := [sv s]) rfl rfl rfl rfl rfl rfl rfl (by simp [sv, Value.oneCell']) (by decide)) ?_ rfl rfl; rintro _ _ ⟨bs, rfl, rfl⟩); (refine R_eff (E_app1 (m := O.length) (c := c5) rfl rfl rfl rfl rfl rfl rfl (Srd.pt (ds := [sv s]) rfl (fun j u hj => by rw [Nat.zero_add]; exact hj)) (by simp [sv, Value.oneCell']) (by show _ * 16 ≤ _; omega) (by unfold maxLen; omega)) ?_ rfl rfl; rintro _ _ ⟨A7, c7, rfl, rfl⟩); refine R_p rfl ?_ rfl rfl; refine R_nil ?_; refine S_region rfl rfl ?_; refine R_p rfl ?_ rfl rfl; refine R_nil ?_; refine S_region rfl rfl ?_; refine R_p rfl ?_ rfl rfl; refine R_p rfl ?_ rfl rfl; refine R_p rfl ?_ rfl rfl; refine R_take (T_ixN rfl rfl rfl rfl rfl rfl hne hjl) ?_ rfl rfl; refine R_take (T_ldr rfl rfl rfl (Srd.row (n := l.length) (c := c)) (by omega) hat) ?_ rfl rfl; (refine R_eff (E_lit1 (m := 1) (vs := [sv x]) rfl rfl rfl rfl rfl rfl rfl (by simp [sv, Value.oneCell']) (by decide)) ?_ rfl rfl; rintro _ _ ⟨bx, rfl, rfl⟩); (refine R_eff (E_app1 (m := O.length + 1) (c := c7) rfl rfl rfl rfl rfl rfl rfl (Srd.pt (ds := [sv x]) rfl (fun j u hj => by rw [Nat.zero_add]; exact hj)) (by simp [sv, Value.oneCell']) (by show _ * 16 ≤ _; omega) (by unfold maxLen; omega)) ?_ rfl rfl; rintro _ _ ⟨A8, c8, rfl, rfl⟩); refine R_p rfl ?_ rfl rfl; refine R_nil ?_; refine RS_blk ?_; refine S_region rfl rfl ?_; refine R_p rfl ?_ rfl rfl; refine R_take (T_addN rfl rfl (by unfold fits; omega)) ?_ rfl rfl; refine R_p rfl ?_ rfl rfl; refine R_nil ?_)
        have e1 : (O ++ [s] ++ [x]).length = O.length + 1 + 1 := by simp
        refine hJ (j + 1, true, A8, c8) _ _ ⟨by show j + 1 ≤ _; omega, hno2, fun h => (by cases h), fun _ => ⟨x, by show x ∈ l.take (j + 1); rw [htk]; simp, hlt⟩⟩ ?_ (fun w' hS => ?_) (by show l.length - (j + 1) < _; omega)
        · dsimp only
          rw [hE, e1]
          exact (Sub.cons rfl (Sub.cons rfl (Sub.cons rfl (Sub.cons rfl (Sub.cons rfl Sub.nil)))))
        · dsimp only
          rw [hE, e1, List.map_append, List.map_append, List.map_cons, List.map_nil, List.map_cons, List.map_nil]
          exact sub_st w' hS
      · have hlt2 : x < s := (sl_tri x s).elim id (fun h => h.elim (fun h => absurd h hxs) (fun h => absurd h hlt))
        have hc2 : scmp .lss s x = some false := congrArg some (less_F hlt)
        rw [if_pos hlt2] at hln
        rw [if_neg hlt, List.append_nil] at hhn
        have hE : lo id (l.take (j + 1)) s ++ (if false = true then [s] else []) ++ hi id (l.take (j + 1)) s = O ++ [x] := by rw [hln, hhn, hO]; simp
        focus (refine S_seq rfl ?_; refine S_seq rfl ?_; refine S_region rfl rfl ?_; refine R_p rfl ?_ rfl rfl; refine R_p rfl ?_ rfl rfl; refine R_p rfl ?_ rfl rfl; refine R_take (T_decT rfl (by omega)) ?_ rfl rfl; refine R_nil ?_; refine S_true rfl rfl ?_; refine S_skip rfl ?_; refine S_seq rfl ?_; refine S_block rfl ?_; refine S_seq rfl ?_; refine S_seq rfl ?_; refine S_region rfl rfl ?_; refine R_p rfl ?_ rfl rfl; refine R_p rfl ?_ rfl rfl; refine R_take (T_ixN rfl rfl rfl rfl rfl rfl hne hjl) ?_ rfl rfl; refine R_take (T_ldr rfl rfl rfl (Srd.row (n := l.length) (c := c)) (by omega) hat) ?_ rfl rfl; refine R_p rfl ?_ rfl rfl; refine R_take (T_scm (a := x) (b := s) rfl rfl hcm) ?_ rfl rfl; refine R_nil ?_; refine S_false rfl rfl ?_; refine S_skip rfl ?_; refine S_seq rfl ?_; refine S_seq rfl ?_; refine S_region rfl rfl ?_; refine R_p rfl ?_ rfl rfl; refine R_take (T_not rfl) ?_ rfl rfl; refine R_p rfl ?_ rfl rfl; refine R_p rfl ?_ rfl rfl; refine R_p rfl ?_ rfl rfl; refine R_p rfl ?_ rfl rfl; refine R_take (T_ixN rfl rfl rfl rfl rfl rfl hne hjl) ?_ rfl rfl; refine R_take (T_ldr rfl rfl rfl (Srd.row (n := l.length) (c := c)) (by omega) hat) ?_ rfl rfl; refine R_take (T_scm (a := s) (b := x) rfl rfl hc2) ?_ rfl rfl; refine R_p rfl ?_ rfl rfl; refine R_nil ?_; refine S_false rfl rfl ?_; refine S_skip rfl ?_; refine S_region rfl rfl ?_; refine R_p rfl ?_ rfl rfl; refine R_p rfl ?_ rfl rfl; refine R_p rfl ?_ rfl rfl; refine R_take (T_ixN rfl rfl rfl rfl rfl rfl hne hjl) ?_ rfl rfl; refine R_take (T_ldr rfl rfl rfl (Srd.row (n := l.length) (c := c)) (by omega) hat) ?_ rfl rfl; (refine R_eff (E_lit1 (m := 1) (vs := [sv x]) rfl rfl rfl rfl rfl rfl rfl (by simp [sv, Value.oneCell']) (by decide)) ?_ rfl rfl; rintro _ _ ⟨bx, rfl, rfl⟩); (refine R_eff (E_app1 (m := O.length) (c := c5) rfl rfl rfl rfl rfl rfl rfl (Srd.pt (ds := [sv x]) rfl (fun j u hj => by rw [Nat.zero_add]; exact hj)) (by simp [sv, Value.oneCell']) (by show _ * 16 ≤ _; omega) (by unfold maxLen; omega)) ?_ rfl rfl; rintro _ _ ⟨A8, c8, rfl, rfl⟩); refine R_p rfl ?_ rfl rfl; refine R_nil ?_; refine RS_blk ?_; refine S_region rfl rfl ?_; refine R_p rfl ?_ rfl rfl; refine R_take (T_addN rfl rfl (by unfold fits; omega)) ?_ rfl rfl; refine R_p rfl ?_ rfl rfl; refine R_nil ?_)
        have e1 : (O ++ [x]).length = O.length + 1 := by simp
        refine hJ (j + 1, false, A8, c8) _ _ ⟨by show j + 1 ≤ _; omega, hno2, fun _ => hhn, fun h => by cases h⟩ ?_ (fun w' hS => ?_) (by show l.length - (j + 1) < _; omega)
        · dsimp only
          rw [hE, e1]
          exact (Sub.cons rfl (Sub.cons rfl (Sub.cons rfl (Sub.cons rfl (Sub.cons rfl Sub.nil)))))
        · dsimp only
          rw [hE, e1, List.map_append, List.map_cons, List.map_nil]
          exact sub_st w' hS
    · obtain ⟨y, hy, hsy⟩ := hpt rfl
      have hlt : s < x := sl_tr hsy (hbig y hy)
      rw [if_neg (sl_as hlt), List.append_nil] at hln
      rw [if_pos hlt] at hhn
      have hE : lo id (l.take (j + 1)) s ++ (if true = true then [s] else []) ++ hi id (l.take (j + 1)) s = O ++ [x] := by rw [hln, hhn, ← hO]; simp
      focus (refine S_seq rfl ?_; refine S_seq rfl ?_; refine S_region rfl rfl ?_; refine R_p rfl ?_ rfl rfl; refine R_p rfl ?_ rfl rfl; refine R_p rfl ?_ rfl rfl; refine R_take (T_decT rfl (by omega)) ?_ rfl rfl; refine R_nil ?_; refine S_true rfl rfl ?_; refine S_skip rfl ?_; refine S_seq rfl ?_; refine S_block rfl ?_; refine S_seq rfl ?_; refine S_seq rfl ?_; refine S_region rfl rfl ?_; refine R_p rfl ?_ rfl rfl; refine R_p rfl ?_ rfl rfl; refine R_take (T_ixN rfl rfl rfl rfl rfl rfl hne hjl) ?_ rfl rfl; refine R_take (T_ldr rfl rfl rfl (Srd.row (n := l.length) (c := c)) (by omega) hat) ?_ rfl rfl; refine R_p rfl ?_ rfl rfl; refine R_take (T_scm (a := x) (b := s) rfl rfl hcm) ?_ rfl rfl; refine R_nil ?_; refine S_false rfl rfl ?_; refine S_skip rfl ?_; refine S_seq rfl ?_; refine S_seq rfl ?_; refine S_region rfl rfl ?_; refine R_p rfl ?_ rfl rfl; refine R_take (T_not rfl) ?_ rfl rfl; refine R_p rfl ?_ rfl rfl; refine R_skip ?_ rfl rfl; refine R_skip ?_ rfl rfl; refine R_skip ?_ rfl rfl; refine R_skip ?_ rfl rfl; refine R_skip ?_ rfl rfl; refine R_skip ?_ rfl rfl; refine R_p rfl ?_ rfl rfl; refine R_nil ?_; refine S_false rfl rfl ?_; refine S_skip rfl ?_; refine S_region rfl rfl ?_; refine R_p rfl ?_ rfl rfl; refine R_p rfl ?_ rfl rfl; refine R_p rfl ?_ rfl rfl; refine R_take (T_ixN rfl rfl rfl rfl rfl rfl hne hjl) ?_ rfl rfl; refine R_take (T_ldr rfl rfl rfl (Srd.row (n := l.length) (c := c)) (by omega) hat) ?_ rfl rfl; (refine R_eff (E_lit1 (m := 1) (vs := [sv x]) rfl rfl rfl rfl rfl rfl rfl (by simp [sv, Value.oneCell']) (by decide)) ?_ rfl rfl; rintro _ _ ⟨bx, rfl, rfl⟩); (refine R_eff (E_app1 (m := O.length) (c := c5) rfl rfl rfl rfl rfl rfl rfl (Srd.pt (ds := [sv x]) rfl (fun j u hj => by rw [Nat.zero_add]; exact hj)) (by simp [sv, Value.oneCell']) (by show _ * 16 ≤ _; omega) (by unfold maxLen; omega)) ?_ rfl rfl; rintro _ _ ⟨A8, c8, rfl, rfl⟩); refine R_p rfl ?_ rfl rfl; refine R_nil ?_; refine RS_blk ?_; refine S_region rfl rfl ?_; refine R_p rfl ?_ rfl rfl; refine R_take (T_addN rfl rfl (by unfold fits; omega)) ?_ rfl rfl; refine R_p rfl ?_ rfl rfl; refine R_nil ?_)
      have e1 : (O ++ [x]).length = O.length + 1 := by simp
      refine hJ (j + 1, true, A8, c8) _ _ ⟨by show j + 1 ≤ _; omega, hno2, fun h => (by cases h), fun _ => ⟨x, by show x ∈ l.take (j + 1); rw [htk]; simp, hlt⟩⟩ ?_ (fun w' hS => ?_) (by show l.length - (j + 1) < _; omega)
      · dsimp only
        rw [hE, e1]
        exact (Sub.cons rfl (Sub.cons rfl (Sub.cons rfl (Sub.cons rfl (Sub.cons rfl Sub.nil)))))
      · dsimp only
        rw [hE, e1, List.map_append, List.map_cons, List.map_nil]
        exact sub_st w' hS
  have hjn : j = l.length := by omega
  subst hjn
  rw [List.take_length] at hno hpf hpt ⊢
  cases p
  · have hh0 := hpf rfl
    have hW : withS l s = lo id l s ++ [s] := by rw [withS, hh0, List.append_nil]
    simp only [hh0, Bool.false_eq_true, if_false, List.append_nil]
    obtain ⟨O, hO⟩ : ∃ O, lo id l s = O := ⟨_, rfl⟩
    have hOl : O.length ≤ 1000 := by rw [← hO]; exact Nat.le_trans (List.length_filter_le _ _) hn
    rw [hO] at hW ⊢
    have e1 : (O ++ [s]).length = O.length + 1 := by simp
    rw [hW, e1, List.map_append, List.map_cons, List.map_nil] at hB
    focus (refine S_seq rfl ?_; refine S_seq rfl ?_; refine S_region rfl rfl ?_; refine R_p rfl ?_ rfl rfl; refine R_p rfl ?_ rfl rfl; refine R_p rfl ?_ rfl rfl; refine R_take (T_decF rfl (by omega)) ?_ rfl rfl; refine R_nil ?_; refine S_false rfl rfl ?_; refine S_exit rfl rfl ?_; refine S_seq rfl ?_; refine S_seq rfl ?_; refine S_region rfl rfl ?_; refine R_p rfl ?_ rfl rfl; refine R_take (T_not rfl) ?_ rfl rfl; refine R_nil ?_; refine S_true rfl rfl ?_; refine S_region rfl rfl ?_; refine R_p rfl ?_ rfl rfl; refine R_p rfl ?_ rfl rfl; (refine R_eff (E_lit1 (m := 1) (vs := [sv s]) rfl rfl rfl rfl rfl rfl rfl (by simp [sv, Value.oneCell']) (by decide)) ?_ rfl rfl; rintro _ _ ⟨bs, rfl, rfl⟩); (refine R_eff (E_app1 (m := O.length) (c := c5) rfl rfl rfl rfl rfl rfl rfl (Srd.pt (ds := [sv s]) rfl (fun j u hj => by rw [Nat.zero_add]; exact hj)) (by simp [sv, Value.oneCell']) (by show _ * 16 ≤ _; omega) (by unfold maxLen; omega)) ?_ rfl rfl; rintro _ _ ⟨A7, c7, rfl, rfl⟩); refine R_p rfl ?_ rfl rfl; refine R_nil ?_; refine S_seq rfl ?_; refine S_region rfl rfl ?_; refine R_p rfl ?_ rfl rfl; refine R_p rfl ?_ rfl rfl; refine R_nil ?_)
    exact hB _ _ _ _ _ rfl rfl fun w' hS => ⟨(A7, c7), rfl, trivial, sub_st _ hS⟩
  · simp only [if_true, show lo id l s ++ [s] ++ hi id l s = withS l s from rfl]
    focus (refine S_seq rfl ?_; refine S_seq rfl ?_; refine S_region rfl rfl ?_; refine R_p rfl ?_ rfl rfl; refine R_p rfl ?_ rfl rfl; refine R_p rfl ?_ rfl rfl; refine R_take (T_decF rfl (by omega)) ?_ rfl rfl; refine R_nil ?_; refine S_false rfl rfl ?_; refine S_exit rfl rfl ?_; refine S_seq rfl ?_; refine S_seq rfl ?_; refine S_region rfl rfl ?_; refine R_p rfl ?_ rfl rfl; refine R_take (T_not rfl) ?_ rfl rfl; refine R_nil ?_; refine S_false rfl rfl ?_; refine S_skip rfl ?_; refine S_seq rfl ?_; refine S_region rfl rfl ?_; refine R_p rfl ?_ rfl rfl; refine R_p rfl ?_ rfl rfl; refine R_nil ?_)
    exact hB _ _ _ _ _ rfl rfl fun w' hS => ⟨(A5, c5), rfl, trivial, sub_st _ hS⟩
end Go.Proofs.Ytghfjfgpiomdhaa

namespace Go.Proofs.Ytghfjfgpiomdhaa
open Go.RowKit
open Asn (pt row rb)
set_option linter.unusedVariables false
set_option linter.unusedSimpArgs false
--@use N

def pathsS (l : List Str) (ps : List Str) : List Str := ps.foldl withS l
theorem paths_srt {l : List Str} (h : Srt id l) (ps : List Str) : Srt id (pathsS l ps) := by
  induction ps generalizing l with
  | nil => exact h
  | cons p ps ih => exact ih (with_srt h p)
theorem paths_len (l ps : List Str) : (pathsS l ps).length ≤ l.length + ps.length := by
  induction ps generalizing l with
  | nil => simp [pathsS]
  | cons p ps ih =>
    have := ih (withS l p)
    have := with_len l p
    simp only [pathsS, List.foldl_cons, List.length_cons] at *
    omega
theorem paths_mem (ps : List Str) : ∀ (l : List Str) (x : Str), x ∈ pathsS l ps ↔ x ∈ l ∨ x ∈ ps := by
  induction ps with
  | nil => intro l x; simp [pathsS]
  | cons p ps ih =>
    intro l x
    have := ih (withS l p) x
    simp only [pathsS, List.foldl_cons] at this ⊢
    rw [this, with_mem, List.mem_cons]
    constructor
    · rintro ((a | a) | a)
      · exact .inl a
      · exact .inr (.inl a)
      · exact .inr (.inr a)
    · rintro (a | a | a)
      · exact .inl (.inl a)
      · exact .inl (.inr a)
      · exact .inr a
theorem paths_next (l ps : List Str) (j : Nat) (hj : j < ps.length) : pathsS l (ps.take (j + 1)) = withS (pathsS l (ps.take j)) (ps.getD j []) := by
  rw [pathsS, List.take_succ_eq_append_getElem hj, List.foldl_append]
  simp [pathsS, List.getD, hj]
/-- the first with a key -/
def fstK {α : Type} (k : α → Str) (L : List α) (p : Str) : Option α := L.find? (fun x => decide (k x = p))
theorem fst_hit {α : Type} [Inhabited α] {k : α → Str} {L : List α} {p : Str} {j : Nat} (hj : j < L.length) (h : ∀ x ∈ L.take j, k x ≠ p) (hx : k (L.getD j default) = p) : fstK k L p = some (L.getD j default) := by
  have e : L.getD j default = L[j] := by simp [List.getD, hj]
  rw [e] at hx ⊢
  conv => lhs; rw [fstK, ← List.take_append_drop j L, List.drop_eq_getElem_cons hj]
  rw [List.find?_append, List.find?_eq_none.2 (fun x hx => by simpa using h x hx)]
  rw [Option.none_or, List.find?_cons_of_pos (by simpa using hx)]
theorem fst_none {α : Type} {k : α → Str} {L : List α} {p : Str} (h : ∀ x ∈ L, k x ≠ p) : fstK k L p = none := List.find?_eq_none.2 (fun x hx => by simpa using h x hx)
theorem fst_mem {α : Type} {k : α → Str} {L : List α} {p : Str} (hs : Srt k L) {x : α} : fstK k L p = some x ↔ x ∈ L ∧ k x = p := by
  constructor
  · intro h
    exact ⟨List.mem_of_find?_eq_some h, by simpa using List.find?_some h⟩
  · rintro ⟨h1, h2⟩
    cases h3 : fstK k L p with
    | none =>
      have := List.find?_eq_none.1 h3 x h1
      simp [h2] at this
    | some y =>
      have a1 := List.mem_of_find?_eq_some h3
      have a2 : k y = p := by simpa using List.find?_some h3
      rw [srt_key hs h1 a1 (h2.trans a2.symm)]
theorem take_ne {α : Type} [Inhabited α] {k : α → Str} {L : List α} {p : Str} {j : Nat} (hj : j < L.length) (h : ∀ x ∈ L.take j, k x ≠ p) (hx : k (L.getD j default) ≠ p) : ∀ x ∈ L.take (j + 1), k x ≠ p := by
  intro x hx'
  rw [List.take_succ_eq_append_getElem hj] at hx'
  rcases List.mem_append.1 hx' with h1 | h1
  · exact h x h1
  · rw [List.mem_singleton.1 h1]
    simpa [List.getD, hj] using hx
/-- what was there lies apart from one's own -/
theorem rd_apart {w0 w : World} {M : Nat → Prop} {sz n : Nat} {A : Option Addr} {xs : List Value} {A1 : Asn} {Hr : List Asn} (h : Rd w0 All sz A n xs) (hz : 0 < sz) (hM : ∀ k, ¬ M k) (hS : St w0 M (A1 :: Hr) w) : Rd w (fun k => ¬ owns [A1] k) sz A n xs :=
  ⟨h.1, fun hn => by
    obtain ⟨ad, e, _, hc⟩ := h.2 hn
    have hl : 0 < xs.length := by rw [h.1]; exact Nat.mul_pos hn hz
    have hb := World.block_lt_of_cell? w0 _ (hc 0 xs[0] (List.getElem?_eq_getElem hl))
    rw [block_of_add] at hb
    refine ⟨ad, e, fun ho => ?_, fun j u hu => hS.kp.cell (by rw [block_of_add]; exact hM _) (hc j u hu)⟩
    have : A1.own ad.block := by simpa [owns] using ho
    rcases ((hS.all A1 (by simp)).2 _ this).1 with h1 | h1
    · exact hM _ h1
    · omega⟩
def getV : Option Rw → Value
  | some x => .tuple #[sv x.2, .bool true]
  | none => .tuple #[sv [], .bool false]
def saidV : Option Ch → Value
  | some x => .tuple #[.bool true, .bool x.2.1, sv x.2.2]
  | none => .tuple #[.bool false, .bool false, sv []]
set_option maxRecDepth 100000 in
set_option maxHeartbeats 4000000 in
theorem rpaths_any (w : World) (A A2 : Option Addr) (n c n2 c2 : Nat) (l : List Str) (L : List Rw) (hu : Srt id l) (h : Rd w (fun k => ¬ owns [row 9 1 A n c (l.map sv)] k) 2 A2 n2 (cellsL rwc L)) (hn : n + n2 ≤ 900)
    (hS : St w (owns [row 9 1 A n c (l.map sv)]) [row 9 1 A n c (l.map sv)] w) :
    Gives Try.prog 60 [.slice A n c, .agg #[.slice A2 n2 c2]] [row 9 1 A n c (l.map sv)] w (X := Option Addr × Nat) (fun x => .slice x.1 (pathsS l (L.map (·.1))).length x.2) (fun _ => True) (fun x => [row 9 1 x.1 (pathsS l (L.map (·.1))).length x.2 ((pathsS l (L.map (·.1))).map sv)]) := by
  refine gives_S Try.func60 rfl Try.ntmps60 Try.results60 (by simp) hS (fun B hB => ?_)
  refine RS_row A n c fun hnc hcm _ hxl => ?_
  have hl : l.length = n := by simpa using hxl
  subst hl
  have hl : L.length = n2 := by have := h.1; rw [cellsL_len rwc_len] at this; omega
  subst hl
  have hne : 0 < L.length → A2 ≠ none := fun h0 => by obtain ⟨ad, rfl, _⟩ := h.2 (by omega); simp
  focus (refine S_seq rfl ?_; refine S_region rfl rfl ?_; (refine R_eff (E_boxa (cs := [.slice A2 L.length c2]) rfl) ?_ rfl rfl; rintro _ _ ⟨b3, rfl, rfl⟩); refine R_p rfl ?_ rfl rfl; refine R_nil ?_; refine S_seq rfl ?_; refine S_seq rfl ?_; refine S_region rfl rfl ?_; refine R_p rfl ?_ rfl rfl; refine R_nil ?_; refine S_block rfl ?_)
  refine S_loop (X := Nat × Option Addr × Nat) (fun x => [(0, .slice x.2.1 (pathsS l ((L.map (·.1)).take x.1)).length x.2.2), (3, .pointer (some ⟨b3, 0, none⟩)), (5, .int .i64 (x.1 : Int))]) (fun x => [row 9 1 x.2.1 (pathsS l ((L.map (·.1)).take x.1)).length x.2.2 ((pathsS l ((L.map (·.1)).take x.1)).map sv), pt b3 24 [.slice A2 L.length c2]]) (fun x => x.1 ≤ L.length) (fun x => L.length - x.1) rfl (0, A, c) (Nat.zero_le _) (Sub.cons rfl (Sub.cons rfl (Sub.cons rfl Sub.nil))) (fun w hS => sub_st (H' := [row 9 1 A l.length c (l.map sv), pt b3 24 [.slice A2 L.length c2]]) w hS) ?_
  rintro ⟨j, A6, c6⟩ hj J hJ
  dsimp only at hj ⊢
  have hRs := paths_srt hu ((L.map (·.1)).take j)
  have hRl := paths_len l ((L.map (·.1)).take j)
  have hnx := paths_next l (L.map (·.1)) j
  rw [List.length_take] at hRl
  have hend : j = L.length → pathsS l (L.map (·.1)) = pathsS l ((L.map (·.1)).take j) := fun e => by rw [e, List.take_of_length_le (by simp)]
  obtain ⟨R, hR⟩ : ∃ R, pathsS l ((L.map (·.1)).take j) = R := ⟨_, rfl⟩
  rw [hR] at hRs hRl hnx hend ⊢
  rcases Nat.lt_or_ge j L.length with hjl | hjl
  · have hne := hne (by omega)
    have hnx := hnx (by simpa using hjl)
    rw [map_getD L j hjl] at hnx
    have hat := fun e v => cellsL_at (f := rwc) rwc_len L default j hjl e v
    obtain ⟨⟨s, t⟩, hx⟩ : ∃ x, L.getD j default = x := ⟨_, rfl⟩
    rw [hx] at hat hnx
    have hat : (cellsL rwc L)[j * 2 + 0]? = some (sv s) := hat 0 _ rfl
    focus (refine S_seq rfl ?_; refine S_seq rfl ?_; refine S_region rfl rfl ?_; refine R_p rfl ?_ rfl rfl; refine R_p rfl ?_ rfl rfl; refine R_take (T_load rfl rfl rfl (by first | rfl | assumption)) ?_ rfl rfl; refine R_p rfl ?_ rfl rfl; refine R_take (T_decT rfl (by omega)) ?_ rfl rfl; refine R_nil ?_; refine S_true rfl rfl ?_; refine S_skip rfl ?_; refine S_seq rfl ?_; refine S_block rfl ?_; refine S_region rfl rfl ?_; refine R_p rfl ?_ rfl rfl; refine R_p rfl ?_ rfl rfl; refine R_take (T_load rfl rfl rfl (by first | rfl | assumption)) ?_ rfl rfl; refine R_p rfl ?_ rfl rfl; refine R_take (T_ixM (sz := 2) rfl rfl rfl rfl rfl rfl hne hjl) ?_ rfl rfl; refine R_take (T_fap rfl rfl rfl rfl rfl hne) ?_ rfl rfl; refine R_take (T_ldr rfl rfl rfl (Srd.old h (fun k hk => hk)) (by omega) hat) ?_ rfl rfl; (refine R_eff (E_gt1 (A1 := row 9 1 A6 R.length c6 (R.map sv)) (f := 61) ⟨_, Try.func61, rfl, by kernel_rfl⟩ rfl (fun w hS hS2 => with_any w A6 R.length c6 R s hRs (by omega) hS2) (fun _ => rfl)) ?_ rfl rfl; rintro _ _ ⟨⟨A7, c7⟩, rfl, _, rfl⟩); refine R_p rfl ?_ rfl rfl; refine R_nil ?_; refine RS_blk ?_; refine S_region rfl rfl ?_; refine R_p rfl ?_ rfl rfl; refine R_take (T_addN rfl rfl (by unfold fits; omega)) ?_ rfl rfl; refine R_p rfl ?_ rfl rfl; refine R_nil ?_)
    refine hJ (j + 1, A7, c7) _ _ (by show j + 1 ≤ _; omega) ?_ (fun w' hS => ?_) (by show L.length - (j + 1) < _; omega)
    · dsimp only
      rw [hnx]
      exact (Sub.cons rfl (Sub.cons rfl (Sub.cons rfl Sub.nil)))
    · dsimp only
      rw [hnx]
      exact sub_st w' hS
  have hend := hend (by omega)
  rw [hend] at hB
  focus (refine S_seq rfl ?_; refine S_seq rfl ?_; refine S_region rfl rfl ?_; refine R_p rfl ?_ rfl rfl; refine R_p rfl ?_ rfl rfl; refine R_take (T_load rfl rfl rfl (by first | rfl | assumption)) ?_ rfl rfl; refine R_p rfl ?_ rfl rfl; refine R_take (T_decF rfl (by omega)) ?_ rfl rfl; refine R_nil ?_; refine S_false rfl rfl ?_; refine S_exit rfl rfl ?_; refine S_seq rfl ?_; refine S_region rfl rfl ?_; refine R_p rfl ?_ rfl rfl; refine R_p rfl ?_ rfl rfl; refine R_nil ?_)
  exact hB _ _ _ _ _ rfl rfl fun w' hS => ⟨(A6, c6), rfl, trivial, sub_st _ hS⟩
set_option maxRecDepth 100000 in
set_option maxHeartbeats 4000000 in
theorem rget_any (w : World) (A : Option Addr) (n c : Nat) (L : List Rw) (p : Str) (h : Rd w All 2 A n (cellsL rwc L)) (hn : n ≤ 100000) :
    Gives Try.prog 62 [.agg #[.slice A n c], sv p] [] w (X := Unit) (fun _ => getV (fstK (·.1) L p)) (fun _ => True) (fun _ => []) := by
  refine gives_S Try.func62 rfl Try.ntmps62 Try.results62 (by simp) (St.enter w) (fun B hB => ?_)
  have hl : L.length = n := by have := h.1; rw [cellsL_len rwc_len] at this; omega
  have hne : 0 < n → A ≠ none := fun h0 => by obtain ⟨ad, rfl, _⟩ := h.2 (by omega); simp
  subst hl
  focus (refine S_seq rfl ?_; refine S_region rfl rfl ?_; (refine R_eff (E_boxa (cs := [.slice A L.length c]) rfl) ?_ rfl rfl; rintro _ _ ⟨b2, rfl, rfl⟩); refine R_p rfl ?_ rfl rfl; refine R_p rfl ?_ rfl rfl; refine R_nil ?_; refine S_seq rfl ?_; refine S_seq rfl ?_; refine S_region rfl rfl ?_; refine R_p rfl ?_ rfl rfl; refine R_nil ?_; refine S_block rfl ?_)
  refine S_loop (X := Nat) (fun j => [(1, sv p), (2, .pointer (some ⟨b2, 0, none⟩)), (6, .int .i64 (j : Int))]) (fun _ => [pt b2 24 [.slice A L.length c]]) (fun j => j ≤ L.length ∧ ∀ x ∈ L.take j, x.1 ≠ p) (fun j => L.length - j) rfl 0 ⟨Nat.zero_le _, by simp⟩ (Sub.cons rfl (Sub.cons rfl (Sub.cons rfl Sub.nil))) sub_st ?_
  rintro j ⟨hj, hno⟩ J hJ
  rcases Nat.lt_or_ge j L.length with hjl | hjl
  · have hne := hne (by omega)
    have hat := fun e v => cellsL_at (f := rwc) rwc_len L default j hjl e v
    have hhit := fst_hit (k := (·.1)) (p := p) hjl hno
    have hmis := take_ne (k := (·.1)) (p := p) hjl hno
    obtain ⟨⟨s, t⟩, hx⟩ : ∃ x, L.getD j default = x := ⟨_, rfl⟩
    rw [hx] at hat hhit hmis
    have hat0 : (cellsL rwc L)[j * 2 + 0]? = some (sv s) := hat 0 _ rfl
    have hat1 : (cellsL rwc L)[j * 2 + 1]? = some (sv t) := hat 1 _ rfl
    by_cases hsp : s = p
    · have hcm : scmp .eql s p = some true := by simp [scmp, hsp]
      rw [hhit hsp] at hB
      focus (refine S_seq rfl ?_; refine S_seq rfl ?_; refine S_region rfl rfl ?_; refine R_p rfl ?_ rfl rfl; refine R_p rfl ?_ rfl rfl; refine R_take (T_load rfl rfl rfl (by first | rfl | assumption)) ?_ rfl rfl; refine R_p rfl ?_ rfl rfl; refine R_take (T_decT rfl (by omega)) ?_ rfl rfl; refine R_nil ?_; refine S_true rfl rfl ?_; refine S_skip rfl ?_; refine S_seq rfl ?_; refine S_block rfl ?_; refine S_seq rfl ?_; refine S_region rfl rfl ?_; refine R_p rfl ?_ rfl rfl; refine R_take (T_load rfl rfl rfl (by first | rfl | assumption)) ?_ rfl rfl; refine R_p rfl ?_ rfl rfl; refine R_take (T_ixM (sz := 2) rfl rfl rfl rfl rfl rfl hne hjl) ?_ rfl rfl; refine R_take (T_fap rfl rfl rfl rfl rfl hne) ?_ rfl rfl; refine R_take (T_ldr rfl rfl rfl (Srd.old h (fun k _ => noOwns k)) (by omega) hat0) ?_ rfl rfl; refine R_p rfl ?_ rfl rfl; refine R_take (T_scm (a := s) (b := p) rfl rfl hcm) ?_ rfl rfl; refine R_nil ?_; refine S_true rfl rfl ?_; refine S_seq rfl ?_; refine S_region rfl rfl ?_; refine R_p rfl ?_ rfl rfl; refine R_take (T_load rfl rfl rfl (by first | rfl | assumption)) ?_ rfl rfl; refine R_p rfl ?_ rfl rfl; refine R_take (T_ixM (sz := 2) rfl rfl rfl rfl rfl rfl hne hjl) ?_ rfl rfl; refine R_take (T_fap rfl rfl rfl rfl rfl hne) ?_ rfl rfl; refine R_take (T_ldr rfl rfl rfl (Srd.old h (fun k _ => noOwns k)) (by omega) hat1) ?_ rfl rfl; refine R_p rfl ?_ rfl rfl; refine R_p rfl ?_ rfl rfl; refine R_nil ?_)
      exact hB _ _ _ _ _ rfl rfl fun w' hS => ⟨(), rfl, trivial, hS.sublist (List.nil_sublist _)⟩
    · have hcm : scmp .eql s p = some false := by simp [scmp, hsp]
      focus (refine S_seq rfl ?_; refine S_seq rfl ?_; refine S_region rfl rfl ?_; refine R_p rfl ?_ rfl rfl; refine R_p rfl ?_ rfl rfl; refine R_take (T_load rfl rfl rfl (by first | rfl | assumption)) ?_ rfl rfl; refine R_p rfl ?_ rfl rfl; refine R_take (T_decT rfl (by omega)) ?_ rfl rfl; refine R_nil ?_; refine S_true rfl rfl ?_; refine S_skip rfl ?_; refine S_seq rfl ?_; refine S_block rfl ?_; refine S_seq rfl ?_; refine S_region rfl rfl ?_; refine R_p rfl ?_ rfl rfl; refine R_take (T_load rfl rfl rfl (by first | rfl | assumption)) ?_ rfl rfl; refine R_p rfl ?_ rfl rfl; refine R_take (T_ixM (sz := 2) rfl rfl rfl rfl rfl rfl hne hjl) ?_ rfl rfl; refine R_take (T_fap rfl rfl rfl rfl rfl hne) ?_ rfl rfl; refine R_take (T_ldr rfl rfl rfl (Srd.old h (fun k _ => noOwns k)) (by omega) hat0) ?_ rfl rfl; refine R_p rfl ?_ rfl rfl; refine R_take (T_scm (a := s) (b := p) rfl rfl hcm) ?_ rfl rfl; refine R_nil ?_; refine S_false rfl rfl ?_; refine S_skip rfl ?_; refine RS_blk ?_; refine S_region rfl rfl ?_; refine R_p rfl ?_ rfl rfl; refine R_take (T_addN rfl rfl (by unfold fits; omega)) ?_ rfl rfl; refine R_p rfl ?_ rfl rfl; refine R_nil ?_)
      exact hJ (j + 1) _ _ ⟨by omega, hmis hsp⟩ (Sub.cons rfl (Sub.cons rfl (Sub.cons rfl Sub.nil))) sub_st (by omega)
  have hjn : j = L.length := by omega
  subst hjn
  rw [List.take_length] at hno
  rw [fst_none hno] at hB
  focus (refine S_seq rfl ?_; refine S_seq rfl ?_; refine S_region rfl rfl ?_; refine R_p rfl ?_ rfl rfl; refine R_p rfl ?_ rfl rfl; refine R_take (T_load rfl rfl rfl (by first | rfl | assumption)) ?_ rfl rfl; refine R_p rfl ?_ rfl rfl; refine R_take (T_decF rfl (by omega)) ?_ rfl rfl; refine R_nil ?_; refine S_false rfl rfl ?_; refine S_exit rfl rfl ?_; refine S_seq rfl ?_; refine S_region rfl rfl ?_; refine R_p rfl ?_ rfl rfl; refine R_p rfl ?_ rfl rfl; refine R_nil ?_)
  exact hB _ _ _ _ _ rfl rfl fun w' hS => ⟨(), rfl, trivial, hS.sublist (List.nil_sublist _)⟩
set_option maxRecDepth 100000 in
set_option maxHeartbeats 4000000 in
theorem said_any (w : World) (A : Option Addr) (n c : Nat) (L : List Ch) (p : Str) (h : Rd w All 3 A n (cellsL chc L)) (hn : n ≤ 100000) :
    Gives Try.prog 49 [.agg #[.slice A n c], sv p] [] w (X := Unit) (fun _ => saidV (fstK (·.1) L p)) (fun _ => True) (fun _ => []) := by
  refine gives_S Try.func49 rfl Try.ntmps49 Try.results49 (by simp) (St.enter w) (fun B hB => ?_)
  have hl : L.length = n := by have := h.1; rw [cellsL_len chc_len] at this; omega
  have hne : 0 < n → A ≠ none := fun h0 => by obtain ⟨ad, rfl, _⟩ := h.2 (by omega); simp
  subst hl
  focus (refine S_seq rfl ?_; refine S_region rfl rfl ?_; (refine R_eff (E_boxa (cs := [.slice A L.length c]) rfl) ?_ rfl rfl; rintro _ _ ⟨b2, rfl, rfl⟩); refine R_p rfl ?_ rfl rfl; refine R_p rfl ?_ rfl rfl; refine R_p rfl ?_ rfl rfl; refine R_nil ?_; refine S_seq rfl ?_; refine S_seq rfl ?_; refine S_region rfl rfl ?_; refine R_p rfl ?_ rfl rfl; refine R_nil ?_; refine S_block rfl ?_)
  refine S_loop (X := Nat) (fun j => [(1, sv p), (2, .pointer (some ⟨b2, 0, none⟩)), (7, .int .i64 (j : Int))]) (fun _ => [pt b2 29 [.slice A L.length c]]) (fun j => j ≤ L.length ∧ ∀ x ∈ L.take j, x.1 ≠ p) (fun j => L.length - j) rfl 0 ⟨Nat.zero_le _, by simp⟩ (Sub.cons rfl (Sub.cons rfl (Sub.cons rfl Sub.nil))) sub_st ?_
  rintro j ⟨hj, hno⟩ J hJ
  rcases Nat.lt_or_ge j L.length with hjl | hjl
  · have hne := hne (by omega)
    have hat := fun e v => cellsL_at (f := chc) chc_len L default j hjl e v
    have hhit := fst_hit (k := (·.1)) (p := p) hjl hno
    have hmis := take_ne (k := (·.1)) (p := p) hjl hno
    obtain ⟨⟨s, is, t⟩, hx⟩ : ∃ x, L.getD j default = x := ⟨_, rfl⟩
    rw [hx] at hat hhit hmis
    have hat0 : (cellsL chc L)[j * 3 + 0]? = some (sv s) := hat 0 _ rfl
    have hat1 : (cellsL chc L)[j * 3 + 1]? = some (.bool is) := hat 1 _ rfl
    have hat2 : (cellsL chc L)[j * 3 + 2]? = some (sv t) := hat 2 _ rfl
    by_cases hsp : s = p
    · have hcm : scmp .eql s p = some true := by simp [scmp, hsp]
      rw [hhit hsp] at hB
      focus (refine S_seq rfl ?_; refine S_seq rfl ?_; refine S_region rfl rfl ?_; refine R_p rfl ?_ rfl rfl; refine R_p rfl ?_ rfl rfl; refine R_take (T_load rfl rfl rfl (by first | rfl | assumption)) ?_ rfl rfl; refine R_p rfl ?_ rfl rfl; refine R_take (T_decT rfl (by omega)) ?_ rfl rfl; refine R_nil ?_; refine S_true rfl rfl ?_; refine S_skip rfl ?_; refine S_seq rfl ?_; refine S_block rfl ?_; refine S_seq rfl ?_; refine S_region rfl rfl ?_; refine R_p rfl ?_ rfl rfl; refine R_take (T_load rfl rfl rfl (by first | rfl | assumption)) ?_ rfl rfl; refine R_p rfl ?_ rfl rfl; refine R_take (T_ixM (sz := 3) rfl rfl rfl rfl rfl rfl hne hjl) ?_ rfl rfl; refine R_take (T_fap rfl rfl rfl rfl rfl hne) ?_ rfl rfl; refine R_take (T_ldr rfl rfl rfl (Srd.old h (fun k _ => noOwns k)) (by omega) hat0) ?_ rfl rfl; refine R_p rfl ?_ rfl rfl; refine R_take (T_scm (a := s) (b := p) rfl rfl hcm) ?_ rfl rfl; refine R_nil ?_; refine S_true rfl rfl ?_; refine S_seq rfl ?_; (refine S_draw _ (fun _ h => h) (by kernel_rfl) rfl (by kernel_rfl) (rfl : _ = 15) ?_; (refine D_take 0 rfl (pev_ok rfl) ?_ rfl rfl (by kernel_rfl) (by kernel_rfl)); (refine D_take 1 rfl (T_load rfl rfl rfl (by first | rfl | assumption)) ?_ rfl rfl (by kernel_rfl) (by kernel_rfl)); (refine D_take 2 rfl (pev_ok rfl) ?_ rfl rfl (by kernel_rfl) (by kernel_rfl)); (refine D_take 3 rfl (T_ixM (sz := 3) rfl rfl rfl rfl rfl rfl hne hjl) ?_ rfl rfl (by kernel_rfl) (by kernel_rfl)); (refine D_take 4 rfl (T_fap rfl rfl rfl rfl rfl hne) ?_ rfl rfl (by kernel_rfl) (by kernel_rfl)); (refine D_take 5 rfl (T_ldr rfl rfl rfl (Srd.old h (fun k _ => noOwns k)) (by omega) hat1) ?_ rfl rfl (by kernel_rfl) (by kernel_rfl)); (refine D_take 6 rfl (pev_ok rfl) ?_ rfl rfl (by kernel_rfl) (by kernel_rfl)); (refine D_take 7 rfl (T_load rfl rfl rfl (by first | rfl | assumption)) ?_ rfl rfl (by kernel_rfl) (by kernel_rfl)); (refine D_take 8 rfl (pev_ok rfl) ?_ rfl rfl (by kernel_rfl) (by kernel_rfl)); (refine D_take 9 rfl (T_ixM (sz := 3) rfl rfl rfl rfl rfl rfl hne hjl) ?_ rfl rfl (by kernel_rfl) (by kernel_rfl)); (refine D_take 10 rfl (T_fap rfl rfl rfl rfl rfl hne) ?_ rfl rfl (by kernel_rfl) (by kernel_rfl)); (refine D_take 11 rfl (T_ldr rfl rfl rfl (Srd.old h (fun k _ => noOwns k)) (by omega) hat2) ?_ rfl rfl (by kernel_rfl) (by kernel_rfl)); (refine D_take 12 rfl (pev_ok rfl) ?_ rfl rfl (by kernel_rfl) (by kernel_rfl)); (refine D_take 13 rfl (pev_ok rfl) ?_ rfl rfl (by kernel_rfl) (by kernel_rfl)); (refine D_take 14 rfl (pev_ok rfl) ?_ rfl rfl (by kernel_rfl) (by kernel_rfl)); refine D_done ?_ (by kernel_rfl)))
      exact hB _ _ _ _ _ rfl rfl fun w' hS => ⟨(), rfl, trivial, hS.sublist (List.nil_sublist _)⟩
    · have hcm : scmp .eql s p = some false := by simp [scmp, hsp]
      focus (refine S_seq rfl ?_; refine S_seq rfl ?_; refine S_region rfl rfl ?_; refine R_p rfl ?_ rfl rfl; refine R_p rfl ?_ rfl rfl; refine R_take (T_load rfl rfl rfl (by first | rfl | assumption)) ?_ rfl rfl; refine R_p rfl ?_ rfl rfl; refine R_take (T_decT rfl (by omega)) ?_ rfl rfl; refine R_nil ?_; refine S_true rfl rfl ?_; refine S_skip rfl ?_; refine S_seq rfl ?_; refine S_block rfl ?_; refine S_seq rfl ?_; refine S_region rfl rfl ?_; refine R_p rfl ?_ rfl rfl; refine R_take (T_load rfl rfl rfl (by first | rfl | assumption)) ?_ rfl rfl; refine R_p rfl ?_ rfl rfl; refine R_take (T_ixM (sz := 3) rfl rfl rfl rfl rfl rfl hne hjl) ?_ rfl rfl; refine R_take (T_fap rfl rfl rfl rfl rfl hne) ?_ rfl rfl; refine R_take (T_ldr rfl rfl rfl (Srd.old h (fun k _ => noOwns k)) (by omega) hat0) ?_ rfl rfl; refine R_p rfl ?_ rfl rfl; refine R_take (T_scm (a := s) (b := p) rfl rfl hcm) ?_ rfl rfl; refine R_nil ?_; refine S_false rfl rfl ?_; refine S_skip rfl ?_; refine RS_blk ?_; refine S_region rfl rfl ?_; refine R_p rfl ?_ rfl rfl; refine R_take (T_addN rfl rfl (by unfold fits; omega)) ?_ rfl rfl; refine R_p rfl ?_ rfl rfl; refine R_nil ?_)
      exact hJ (j + 1) _ _ ⟨by omega, hmis hsp⟩ (Sub.cons rfl (Sub.cons rfl (Sub.cons rfl Sub.nil))) sub_st (by omega)
  have hjn : j = L.length := by omega
  subst hjn
  rw [List.take_length] at hno
  rw [fst_none hno] at hB
  focus (refine S_seq rfl ?_; refine S_seq rfl ?_; refine S_region rfl rfl ?_; refine R_p rfl ?_ rfl rfl; refine R_p rfl ?_ rfl rfl; refine R_take (T_load rfl rfl rfl (by first | rfl | assumption)) ?_ rfl rfl; refine R_p rfl ?_ rfl rfl; refine R_take (T_decF rfl (by omega)) ?_ rfl rfl; refine R_nil ?_; refine S_false rfl rfl ?_; refine S_exit rfl rfl ?_; refine S_seq rfl ?_; refine S_region rfl rfl ?_; refine R_p rfl ?_ rfl rfl; refine R_p rfl ?_ rfl rfl; refine R_p rfl ?_ rfl rfl; refine R_nil ?_)
  exact hB _ _ _ _ _ rfl rfl fun w' hS => ⟨(), rfl, trivial, hS.sublist (List.nil_sublist _)⟩
end Go.Proofs.Ytghfjfgpiomdhaa

namespace Go.Proofs.Ytghfjfgpiomdhaa
open Go.RowKit
open Asn (pt row rb)
set_option linter.unusedVariables false
set_option linter.unusedSimpArgs false
--@use N

def gt (o : Option Rw) : Str := match o with | some x => x.2 | none => []
def sb (o : Option Ch) : Bool := match o with | some x => x.2.1 | none => false
def st (o : Option Ch) : Str := match o with | some x => x.2.2 | none => []
/-- what is at a path when an edit is applied -/
def resOf (L : List Rw) (C : List Ch) (p : Str) : Option Rw := match fstK (·.1) C p with
  | some c => if c.2.1 then some (p, c.2.2) else none
  | none => match fstK (·.1) L p with
    | some x => some (p, x.2)
    | none => none
def allP (L : List Rw) (C : List Ch) : List Str := pathsS (pathsS [] (L.map (·.1))) (C.map (·.1))
def resA (L : List Rw) (C : List Ch) : List Rw := (allP L C).filterMap (resOf L C)
theorem res_next (L : List Rw) (C : List Ch) (l : List Str) (j : Nat) (hj : j < l.length) : (l.take (j + 1)).filterMap (resOf L C) = (l.take j).filterMap (resOf L C) ++ (match resOf L C (l.getD j []) with | some x => [x] | none => []) := by
  rw [List.take_succ_eq_append_getElem hj, List.filterMap_append]
  simp only [List.getD, List.getElem?_eq_getElem hj, Option.getD_some, List.filterMap_cons, List.filterMap_nil]
  cases resOf L C l[j] <;> rfl
section
variable {n : Nat} {w0 : World} {M : Nat → Prop} {T : Slots} {H : List Asn} {dd : Option Tmp} {tt : TypeId} {pos : String} {af : Array Edge} {g : Option (Nat × Bool)} {x y z : Operand} {ts : Array TypeId} {A A2 : Option Addr} {m c m2 c2 : Nat}
theorem E_rgetW {L : List Rw} {p : Str} {o : Option Rw} (hx : oget T x = some (.agg #[.slice A m c])) (hy : oget T y = some (sv p)) (hs : Srd w0 M H 2 A m (cellsL rwc L)) (hm : m ≤ 100000) (ho : fstK (·.1) L p = o) :
    Ef Try.prog n w0 M T H ⟨dd, .call ⟨.value (.func 62), #[x, y], ts⟩, tt, pos, af, g⟩ (fun u H' => u = .tuple #[sv (gt o), .bool o.isSome] ∧ H' = H) := by
  subst ho
  refine (E_gv ⟨_, Try.func62, rfl, by kernel_rfl⟩ (vs := [.agg #[.slice A m c], sv p]) (by simp [ogets, hx, hy]) fun w hS => rget_any w A m c L p (hs.rd w hS) hm).mono ?_
  rintro v H' ⟨_, rfl, _, rfl⟩ w hS
  exact ⟨_, _, rfl, ⟨by cases fstK (·.1) L p <;> rfl, rfl⟩, hS⟩
theorem E_saidW {L : List Ch} {p : Str} {o : Option Ch} (hx : oget T x = some (.agg #[.slice A m c])) (hy : oget T y = some (sv p)) (hs : Srd w0 M H 3 A m (cellsL chc L)) (hm : m ≤ 100000) (ho : fstK (·.1) L p = o) :
    Ef Try.prog n w0 M T H ⟨dd, .call ⟨.value (.func 49), #[x, y], ts⟩, tt, pos, af, g⟩ (fun u H' => u = .tuple #[.bool o.isSome, .bool (sb o), sv (st o)] ∧ H' = H) := by
  subst ho
  refine (E_gv ⟨_, Try.func49, rfl, by kernel_rfl⟩ (vs := [.agg #[.slice A m c], sv p]) (by simp [ogets, hx, hy]) fun w hS => said_any w A m c L p (hs.rd w hS) hm).mono ?_
  rintro v H' ⟨_, rfl, _, rfl⟩ w hS
  exact ⟨_, _, rfl, ⟨by cases fstK (·.1) L p <;> rfl, rfl⟩, hS⟩
theorem E_rpaths0 {L : List Rw} (hM : ∀ k, ¬ M k) (hx : oget T x = some (.slice none 0 0)) (hy : oget T y = some (.agg #[.slice A m c])) (hs : Rd w0 All 2 A m (cellsL rwc L)) (hm : m ≤ 900) :
    Ef Try.prog n w0 M T H ⟨dd, .call ⟨.value (.func 60), #[x, y], ts⟩, tt, pos, af, g⟩ (fun u H' => ∃ A' c', u = .slice A' (pathsS [] (L.map (·.1))).length c' ∧ H' = row 9 1 A' (pathsS [] (L.map (·.1))).length c' ((pathsS [] (L.map (·.1))).map sv) :: H) := by
  have hnil : ∀ w, St w0 M H w → St w0 M ([row 9 1 none 0 0 (List.map sv [])] ++ H) w := fun w hS => hS.nilrow _ _
  refine (E_call [row 9 1 none 0 0 (List.map sv [])] H (fun x : Option Addr × Nat => .slice x.1 (pathsS [] (L.map (·.1))).length x.2) (fun _ : Option Addr × Nat => True) (fun x : Option Addr × Nat => [row 9 1 x.1 (pathsS [] (L.map (·.1))).length x.2 ((pathsS [] (L.map (·.1))).map sv)]) (vs := [.slice none 0 0, .agg #[.slice A m c]]) (by simp [ogets, hx, hy]) ⟨_, Try.func60, rfl, by kernel_rfl⟩ hnil fun w hS => rpaths_any w none A 0 0 m c [] L List.Pairwise.nil (rd_apart hs (by decide) hM hS) (by omega) (St.again (As := [row 9 1 none 0 0 (List.map sv [])]) hS)).mono ?_
  rintro v H' ⟨⟨A', c'⟩, _, rfl, rfl⟩ w hS
  exact ⟨_, _, rfl, ⟨A', c', rfl, rfl⟩, hS⟩
end
set_option maxRecDepth 100000 in
set_option maxHeartbeats 4000000 in
theorem rapply_any (w : World) (A A2 : Option Addr) (n c n2 c2 : Nat) (L : List Rw) (C : List Ch) (h : Rd w All 2 A n (cellsL rwc L)) (h2 : Rd w All 3 A2 n2 (cellsL chc C)) (hn : n ≤ 200) (hn2 : n2 ≤ 200) :
    Gives Try.prog 33 [.agg #[.slice A n c], .agg #[.slice A2 n2 c2]] [] w (X := Option Addr × Nat) (fun x => .agg #[.slice x.1 (resA L C).length x.2]) (fun _ => True) (fun x => [row 70 2 x.1 (resA L C).length x.2 (cellsL rwc (resA L C))]) := by
  refine gives_C Try.func33 rfl Try.ntmps33 Try.results33 (by simp) (St.enter w) (fun B hB => ?_)
  have hl : L.length = n := by have := h.1; rw [cellsL_len rwc_len] at this; omega
  have hl2 : C.length = n2 := by have := h2.1; rw [cellsL_len chc_len] at this; omega
  subst hl
  subst hl2
  have hne2 : 0 < C.length → A2 ≠ none := fun h0 => by obtain ⟨ad, rfl, _⟩ := h2.2 (by omega); simp
  have hl0 := paths_len [] (L.map (·.1))
  have hs0 := paths_srt (l := []) List.Pairwise.nil (L.map (·.1))
  rw [List.length_map, List.length_nil] at hl0
  obtain ⟨P0, hP0⟩ : ∃ P0, pathsS [] (L.map (·.1)) = P0 := ⟨_, rfl⟩
  have hall : allP L C = pathsS P0 (C.map (·.1)) := by rw [allP, hP0]
  rw [hP0] at hl0 hs0
  focus (refine S_seq rfl ?_; refine S_region rfl rfl ?_; (refine R_eff (E_boxa (cs := [.slice A L.length c]) rfl) ?_ rfl rfl; rintro _ _ ⟨b2, rfl, rfl⟩); (refine R_eff (E_boxa (cs := [.slice A2 C.length c2]) rfl) ?_ rfl rfl; rintro _ _ ⟨b3, rfl, rfl⟩); (refine R_eff (E_alloca rfl mp_alloc) ?_ rfl rfl; rintro _ _ ⟨b4, rfl, rfl⟩); refine R_nil ?_; refine S_seq rfl ?_; refine S_region rfl rfl ?_; refine R_take (T_loada (ds := [.slice A L.length c]) rfl rfl rfl rfl (fun j v h => by simpa using h)) ?_ rfl rfl; (refine R_eff (E_rpaths0 (L := L) (fun k => noOwns k) rfl rfl h (by omega)) ?_ rfl rfl; rintro _ _ ⟨A5, c5, rfl, rfl⟩; rw [hP0]); refine R_p rfl ?_ rfl rfl; refine R_nil ?_; refine S_seq rfl ?_; refine S_seq rfl ?_; refine S_region rfl rfl ?_; refine R_p rfl ?_ rfl rfl; refine R_nil ?_; refine S_block rfl ?_)
  refine S_loop (X := Nat × Option Addr × Nat) (fun x => [(2, .pointer (some ⟨b2, 0, none⟩)), (3, .pointer (some ⟨b3, 0, none⟩)), (4, .pointer (some ⟨b4, 0, none⟩)), (5, .slice x.2.1 (pathsS P0 ((C.map (·.1)).take x.1)).length x.2.2), (6, .int .i64 (x.1 : Int))]) (fun x => [row 9 1 x.2.1 (pathsS P0 ((C.map (·.1)).take x.1)).length x.2.2 ((pathsS P0 ((C.map (·.1)).take x.1)).map sv), pt b4 24 [.slice none 0 0], pt b3 29 [.slice A2 C.length c2], pt b2 24 [.slice A L.length c]]) (fun x => x.1 ≤ C.length) (fun x => C.length - x.1) rfl (0, A5, c5) (Nat.zero_le _) (Sub.cons rfl (Sub.cons rfl (Sub.cons rfl (Sub.cons rfl (Sub.cons rfl Sub.nil))))) (fun w hS => sub_st (H' := [row 9 1 A5 P0.length c5 (P0.map sv), pt b4 24 [.slice none 0 0], pt b3 29 [.slice A2 C.length c2], pt b2 24 [.slice A L.length c]]) w hS) ?_
  rintro ⟨j, A6, c6⟩ hj J hJ
  dsimp only at hj ⊢
  have hRs := paths_srt hs0 ((C.map (·.1)).take j)
  have hRl := paths_len P0 ((C.map (·.1)).take j)
  have hnx := paths_next P0 (C.map (·.1)) j
  rw [List.length_take] at hRl
  have hend : j = C.length → allP L C = pathsS P0 ((C.map (·.1)).take j) := fun e => by rw [hall, e, List.take_of_length_le (by simp)]
  obtain ⟨l, hR⟩ : ∃ R, pathsS P0 ((C.map (·.1)).take j) = R := ⟨_, rfl⟩
  rw [hR] at hRs hRl hnx hend ⊢
  rcases Nat.lt_or_ge j C.length with hjl | hjl
  · have hne := hne2 (by omega)
    have hnx := hnx (by simpa using hjl)
    rw [map_getD C j hjl] at hnx
    have hat := fun e v => cellsL_at (f := chc) chc_len C default j hjl e v
    obtain ⟨⟨s, is, t⟩, hx⟩ : ∃ x, C.getD j default = x := ⟨_, rfl⟩
    rw [hx] at hat hnx
    have hat : (cellsL chc C)[j * 3 + 0]? = some (sv s) := hat 0 _ rfl
    focus (refine S_seq rfl ?_; refine S_seq rfl ?_; refine S_region rfl rfl ?_; refine R_p rfl ?_ rfl rfl; refine R_p rfl ?_ rfl rfl; refine R_take (T_load rfl rfl rfl (by first | rfl | assumption)) ?_ rfl rfl; refine R_p rfl ?_ rfl rfl; refine R_take (T_decT rfl (by omega)) ?_ rfl rfl; refine R_nil ?_; refine S_true rfl rfl ?_; refine S_skip rfl ?_; refine S_seq rfl ?_; refine S_block rfl ?_; refine S_region rfl rfl ?_; refine R_p rfl ?_ rfl rfl; refine R_p rfl ?_ rfl rfl; refine R_take (T_load rfl rfl rfl (by first | rfl | assumption)) ?_ rfl rfl; refine R_p rfl ?_ rfl rfl; refine R_take (T_ixM (sz := 3) rfl rfl rfl rfl rfl rfl hne hjl) ?_ rfl rfl; refine R_take (T_fap rfl rfl rfl rfl rfl hne) ?_ rfl rfl; refine R_take (T_ldr rfl rfl rfl (Srd.old h2 (fun k _ => noOwns k)) (by omega) hat) ?_ rfl rfl; (refine R_eff (E_gt1 (A1 := row 9 1 A6 l.length c6 (l.map sv)) (f := 61) ⟨_, Try.func61, rfl, by kernel_rfl⟩ rfl (fun w hS hS2 => with_any w A6 l.length c6 l s hRs (by omega) hS2) (fun _ => rfl)) ?_ rfl rfl; rintro _ _ ⟨⟨A7, c7⟩, rfl, _, rfl⟩); refine R_p rfl ?_ rfl rfl; refine R_nil ?_; refine RS_blk ?_; refine S_region rfl rfl ?_; refine R_p rfl ?_ rfl rfl; refine R_take (T_addN rfl rfl (by unfold fits; omega)) ?_ rfl rfl; refine R_p rfl ?_ rfl rfl; refine R_nil ?_)
    refine hJ (j + 1, A7, c7) _ _ (by show j + 1 ≤ _; omega) ?_ (fun w' hS => ?_) (by show C.length - (j + 1) < _; omega)
    · dsimp only
      rw [hnx]
      exact (Sub.cons rfl (Sub.cons rfl (Sub.cons rfl (Sub.cons rfl (Sub.cons rfl Sub.nil)))))
    · dsimp only
      rw [hnx]
      exact sub_st w' hS
  have hend := hend (by omega)
  have hlen : l.length ≤ 400 := by omega
  have hra : resA L C = l.filterMap (resOf L C) := by rw [resA, hend]
  rw [hra] at hB
  clear hJ hnx hend hRl hRs hR hra hall hP0 hl0 hs0 hj
  refine RS_row A6 l.length c6 fun _ _ hne6 _ => ?_
  focus (refine S_seq rfl ?_; refine S_seq rfl ?_; refine S_region rfl rfl ?_; refine R_p rfl ?_ rfl rfl; refine R_p rfl ?_ rfl rfl; refine R_take (T_load rfl rfl rfl (by first | rfl | assumption)) ?_ rfl rfl; refine R_p rfl ?_ rfl rfl; refine R_take (T_decF rfl (by omega)) ?_ rfl rfl; refine R_nil ?_; refine S_false rfl rfl ?_; refine S_exit rfl rfl ?_; refine S_seq rfl ?_; refine S_region rfl rfl ?_; refine R_take (T_build0 mp_built0) ?_ rfl rfl; (refine R_eff (E_alloca rfl mp_alloc) ?_ rfl rfl; rintro _ _ ⟨b7, rfl, rfl⟩); (refine R_eff0 (E_storew (ds := [.slice none 0 0]) (cs := [.slice none 0 0]) rfl rfl rfl rfl (sl_one _ _ _) rfl) ?_ rfl; rintro _ _ rfl); refine R_nil ?_; refine S_seq rfl ?_; refine S_seq rfl ?_; refine S_region rfl rfl ?_; refine R_p rfl ?_ rfl rfl; refine R_nil ?_; refine S_block rfl ?_)
  refine S_loop (X := Nat × Option Addr × Nat) (fun x => [(2, .pointer (some ⟨b2, 0, none⟩)), (3, .pointer (some ⟨b3, 0, none⟩)), (4, .pointer (some ⟨b4, 0, none⟩)), (5, .slice A6 l.length c6), (7, .pointer (some ⟨b7, 0, none⟩)), (8, .int .i64 (x.1 : Int))]) (fun x => [row 70 2 x.2.1 ((l.take x.1).filterMap (resOf L C)).length x.2.2 (cellsL rwc ((l.take x.1).filterMap (resOf L C))), pt b7 24 [.slice x.2.1 ((l.take x.1).filterMap (resOf L C)).length x.2.2], row 9 1 A6 l.length c6 (l.map sv), pt b4 24 [.slice none 0 0], pt b3 29 [.slice A2 C.length c2], pt b2 24 [.slice A L.length c]]) (fun x => x.1 ≤ l.length) (fun x => l.length - x.1) rfl (0, none, 0) (Nat.zero_le _) (Sub.cons rfl (Sub.cons rfl (Sub.cons rfl (Sub.cons rfl (Sub.cons rfl (Sub.cons rfl Sub.nil)))))) (fun w hS => sub_st (H' := [row 70 2 none 0 0 [], pt b7 24 [.slice none 0 0], row 9 1 A6 l.length c6 (l.map sv), pt b4 24 [.slice none 0 0], pt b3 29 [.slice A2 C.length c2], pt b2 24 [.slice A L.length c]]) w (hS.nilrow 70 2)) ?_
  rintro ⟨j, A8, c8⟩ hj J hJ
  dsimp only at hj ⊢
  have hnx := res_next L C l j
  have hOl : ((l.take j).filterMap (resOf L C)).length ≤ j := Nat.le_trans (List.length_filterMap_le _ _) (by rw [List.length_take]; omega)
  have hend : j = l.length → l.filterMap (resOf L C) = (l.take j).filterMap (resOf L C) := fun e => by rw [e, List.take_length]
  obtain ⟨O, hO⟩ : ∃ O, (l.take j).filterMap (resOf L C) = O := ⟨_, rfl⟩
  rw [hO] at hnx hOl hend ⊢
  rcases Nat.lt_or_ge j l.length with hjl | hjl
  · have hne6 := hne6 (by omega)
    have hnx := hnx hjl
    have hat := fun x (h : l.getD j [] = x) => sv_at hjl h
    obtain ⟨p, hp⟩ : ∃ p, l.getD j [] = p := ⟨_, rfl⟩
    have hat := hat p hp
    rw [hp, resOf] at hnx
    obtain ⟨o, ho⟩ : ∃ o, fstK (·.1) L p = o := ⟨_, rfl⟩
    obtain ⟨q, hq⟩ : ∃ q, fstK (·.1) C p = q := ⟨_, rfl⟩
    rw [ho, hq] at hnx
    focus (refine S_seq rfl ?_; refine S_seq rfl ?_; refine S_region rfl rfl ?_; refine R_p rfl ?_ rfl rfl; refine R_p rfl ?_ rfl rfl; refine R_p rfl ?_ rfl rfl; refine R_take (T_decT rfl (by omega)) ?_ rfl rfl; refine R_nil ?_; refine S_true rfl rfl ?_; refine S_skip rfl ?_; refine S_seq rfl ?_; refine S_block rfl ?_; refine S_seq rfl ?_)
    refine S_draw ([row 9 1 A6 l.length c6 (l.map sv), pt b2 24 [.slice A L.length c]]) sub_st (by kernel_rfl) rfl (by kernel_rfl) (by kernel_rfl : _ = 11) ?_
    refine D_take 0 rfl (T_loada (ds := [.slice A L.length c]) rfl rfl rfl rfl (fun j v h => by simpa using h)) ?_ rfl rfl (by kernel_rfl) (by kernel_rfl)
    refine D_take 1 rfl (pev_ok rfl) ?_ rfl rfl (by kernel_rfl) (by kernel_rfl)
    refine D_take 2 rfl (pev_ok rfl) ?_ rfl rfl (by kernel_rfl) (by kernel_rfl)
    refine D_take 3 rfl (T_ixN rfl rfl rfl rfl rfl rfl hne6 hjl) ?_ rfl rfl (by kernel_rfl) (by kernel_rfl)
    refine D_take 4 rfl (T_ldr rfl rfl rfl (Srd.row (n := l.length) (c := c6)) (by omega) hat) ?_ rfl rfl (by kernel_rfl) (by kernel_rfl)
    refine D_one 5 rfl (E_rgetW (L := L) (p := p) rfl rfl (Srd.old h (fun k _ => noOwns k)) (by omega) ho) ?_ rfl rfl (by kernel_rfl)
    rintro _ _ ⟨rfl, rfl⟩
    refine Nx_same sub_st ?_
    refine D_take 6 rfl (pev_ok rfl) ?_ rfl rfl (by kernel_rfl) (by kernel_rfl)
    refine D_take 7 rfl (pev_ok rfl) ?_ rfl rfl (by kernel_rfl) (by kernel_rfl)
    refine D_take 8 rfl (pev_ok rfl) ?_ rfl rfl (by kernel_rfl) (by kernel_rfl)
    refine D_take 9 rfl (pev_ok rfl) ?_ rfl rfl (by kernel_rfl) (by kernel_rfl)
    refine D_take 10 rfl (pev_ok rfl) ?_ rfl rfl (by kernel_rfl) (by kernel_rfl)
    refine D_done ?_ (by kernel_rfl)
    skip
    focus (refine S_seq rfl ?_)
    refine S_draw ([row 9 1 A6 l.length c6 (l.map sv), pt b3 29 [.slice A2 C.length c2]]) sub_st (by kernel_rfl) rfl (by kernel_rfl) (by kernel_rfl : _ = 13) ?_
    refine D_take 0 rfl (T_loada (ds := [.slice A2 C.length c2]) rfl rfl rfl rfl (fun j v h => by simpa using h)) ?_ rfl rfl (by kernel_rfl) (by kernel_rfl)
    refine D_take 1 rfl (pev_ok rfl) ?_ rfl rfl (by kernel_rfl) (by kernel_rfl)
    refine D_take 2 rfl (pev_ok rfl) ?_ rfl rfl (by kernel_rfl) (by kernel_rfl)
    refine D_take 3 rfl (T_ixN rfl rfl rfl rfl rfl rfl hne6 hjl) ?_ rfl rfl (by kernel_rfl) (by kernel_rfl)
    refine D_take 4 rfl (T_ldr rfl rfl rfl (Srd.row (n := l.length) (c := c6)) (by omega) hat) ?_ rfl rfl (by kernel_rfl) (by kernel_rfl)
    refine D_one 5 rfl (E_saidW (L := C) (p := p) rfl rfl (Srd.old h2 (fun k _ => noOwns k)) (by omega) hq) ?_ rfl rfl (by kernel_rfl)
    rintro _ _ ⟨rfl, rfl⟩
    refine Nx_same sub_st ?_
    refine D_take 6 rfl (pev_ok rfl) ?_ rfl rfl (by kernel_rfl) (by kernel_rfl)
    refine D_take 7 rfl (pev_ok rfl) ?_ rfl rfl (by kernel_rfl) (by kernel_rfl)
    refine D_take 8 rfl (pev_ok rfl) ?_ rfl rfl (by kernel_rfl) (by kernel_rfl)
    refine D_take 9 rfl (pev_ok rfl) ?_ rfl rfl (by kernel_rfl) (by kernel_rfl)
    refine D_take 10 rfl (pev_ok rfl) ?_ rfl rfl (by kernel_rfl) (by kernel_rfl)
    refine D_take 11 rfl (pev_ok rfl) ?_ rfl rfl (by kernel_rfl) (by kernel_rfl)
    refine D_take 12 rfl (pev_ok rfl) ?_ rfl rfl (by kernel_rfl) (by kernel_rfl)
    refine D_done ?_ (by kernel_rfl)
    skip
    obtain ⟨tx, htx⟩ : ∃ tx, gt o = tx := ⟨_, rfl⟩
    rw [htx]
    cases q with
    | some c0 =>
      obtain ⟨s0, is0, t0⟩ := c0
      cases is0
      · skip
        replace hnx : (l.take (j + 1)).filterMap (resOf L C) = O := by rw [hnx]; simp
        focus (refine S_seq rfl ?_; refine S_seq rfl ?_; refine S_region rfl rfl ?_; refine R_p rfl ?_ rfl rfl; refine R_nil ?_; refine S_true rfl rfl ?_; refine S_region rfl rfl ?_; refine R_p rfl ?_ rfl rfl; refine R_p rfl ?_ rfl rfl; refine R_p rfl ?_ rfl rfl; refine R_p rfl ?_ rfl rfl; refine R_nil ?_; refine S_seq rfl ?_; refine S_region rfl rfl ?_; refine R_p rfl ?_ rfl rfl; refine R_nil ?_; refine S_false rfl rfl ?_; refine S_skip rfl ?_; refine RS_blk ?_; refine S_region rfl rfl ?_; refine R_p rfl ?_ rfl rfl; refine R_take (T_addN rfl rfl (by unfold fits; omega)) ?_ rfl rfl; refine R_p rfl ?_ rfl rfl; refine R_nil ?_)
        refine hJ (j + 1, A8, c8) _ _ (by show j + 1 ≤ _; omega) ?_ (fun w' hS => ?_) (by show l.length - (j + 1) < _; omega)
        · exact (Sub.cons rfl (Sub.cons rfl (Sub.cons rfl (Sub.cons rfl (Sub.cons rfl (Sub.cons rfl Sub.nil))))))
        · dsimp only
          rw [hnx]
          exact sub_st w' hS
      · skip
        replace hnx : (l.take (j + 1)).filterMap (resOf L C) = O ++ [(p, t0)] := by rw [hnx]; simp
        focus (refine S_seq rfl ?_; refine S_seq rfl ?_; refine S_region rfl rfl ?_; refine R_p rfl ?_ rfl rfl; refine R_nil ?_; refine S_true rfl rfl ?_; refine S_region rfl rfl ?_; refine R_p rfl ?_ rfl rfl; refine R_p rfl ?_ rfl rfl; refine R_p rfl ?_ rfl rfl; refine R_p rfl ?_ rfl rfl; refine R_nil ?_; refine S_seq rfl ?_; refine S_region rfl rfl ?_; refine R_p rfl ?_ rfl rfl; refine R_nil ?_; refine S_true rfl rfl ?_)
        refine S_draw ([pt b7 24 [.slice A8 O.length c8], row 9 1 A6 l.length c6 (l.map sv)]) sub_st (by kernel_rfl) rfl (by kernel_rfl) (by kernel_rfl : _ = 12) ?_
        refine D_take 0 rfl (pev_ok rfl) ?_ rfl rfl (by kernel_rfl) (by kernel_rfl)
        refine D_take 1 rfl (T_load rfl rfl rfl (by first | rfl | assumption)) ?_ rfl rfl (by kernel_rfl) (by kernel_rfl)
        refine D_take 2 rfl (pev_ok rfl) ?_ rfl rfl (by kernel_rfl) (by kernel_rfl)
        refine D_take 3 rfl (pev_ok rfl) ?_ rfl rfl (by kernel_rfl) (by kernel_rfl)
        refine D_take 4 rfl (T_ixN rfl rfl rfl rfl rfl rfl hne6 hjl) ?_ rfl rfl (by kernel_rfl) (by kernel_rfl)
        refine D_take 5 rfl (T_ldr rfl rfl rfl (Srd.row (n := l.length) (c := c6)) (by omega) hat) ?_ rfl rfl (by kernel_rfl) (by kernel_rfl)
        refine D_take 6 rfl (pev_ok rfl) ?_ rfl rfl (by kernel_rfl) (by kernel_rfl)
        refine D_take 7 rfl (T_build2 rfl rfl (rw_built2 p t0)) ?_ rfl rfl (by kernel_rfl) (by kernel_rfl)
        refine D_one 8 rfl (E_litS (vs := [.agg (rwc (p, t0)).toArray]) (size := 2) (ds := rwc (p, t0)) rfl rfl rfl rfl rfl rfl (by simp [vcells, rwc]) rfl (by omega)) ?_ rfl rfl (by kernel_rfl)
        rintro _ _ ⟨vb, rfl, rfl⟩
        refine Nx_same sub_st ?_
        refine D_one 9 rfl (E_appS (sz := 2) (m := O.length) (c := c8) (A := A8) rfl rfl rfl rfl rfl rfl rfl (by decide) (Srd.pt (n := 1) (g := vb) (ds := rwc (p, t0)) rfl (fun j u hj => by rw [Nat.zero_add]; exact hj)) (rwc_one _) (by show (O.length + 1) * 32 ≤ _; omega) (by unfold maxLen; omega)) ?_ rfl rfl (by kernel_rfl)
        rintro _ _ ⟨A9, c9, rfl, rfl⟩
        refine Nx_same sub_st ?_
        refine D_take 10 rfl (pev_ok rfl) ?_ rfl rfl (by kernel_rfl) (by kernel_rfl)
        refine D_one 11 rfl (E_store1 rfl rfl rfl rfl rfl rfl (by first | (simp; done) | (simp; omega) | decide)) ?_ rfl rfl (by kernel_rfl)
        rintro _ _ rfl
        refine Nx_pivot (by kernel_rfl) ?_
        refine D_done ?_ (by kernel_rfl)
        skip
        focus (refine RS_blk ?_; refine S_region rfl rfl ?_; refine R_p rfl ?_ rfl rfl; refine R_take (T_addN rfl rfl (by unfold fits; omega)) ?_ rfl rfl; refine R_p rfl ?_ rfl rfl; refine R_nil ?_)
        have e1 : (O ++ [(p, t0)]).length = O.length + 1 := by simp
        refine hJ (j + 1, A9, c9) _ _ (by show j + 1 ≤ _; omega) ?_ (fun w' hS => ?_) (by show l.length - (j + 1) < _; omega)
        · exact (Sub.cons rfl (Sub.cons rfl (Sub.cons rfl (Sub.cons rfl (Sub.cons rfl (Sub.cons rfl Sub.nil))))))
        · dsimp only
          rw [hnx, e1, cellsL_app, cellsL_one]
          simp only [Nat.add_zero, List.set_cons_zero] at hS
          exact sub_st w' hS
    | none =>
      cases o with
      | none =>
        replace hnx : (l.take (j + 1)).filterMap (resOf L C) = O := by rw [hnx]; simp
        focus (refine S_seq rfl ?_; refine S_seq rfl ?_; refine S_region rfl rfl ?_; refine R_p rfl ?_ rfl rfl; refine R_nil ?_; refine S_false rfl rfl ?_; refine S_skip rfl ?_; refine S_seq rfl ?_; refine S_region rfl rfl ?_; refine R_p rfl ?_ rfl rfl; refine R_nil ?_; refine S_false rfl rfl ?_; refine S_skip rfl ?_; refine RS_blk ?_; refine S_region rfl rfl ?_; refine R_p rfl ?_ rfl rfl; refine R_take (T_addN rfl rfl (by unfold fits; omega)) ?_ rfl rfl; refine R_p rfl ?_ rfl rfl; refine R_nil ?_)
        refine hJ (j + 1, A8, c8) _ _ (by show j + 1 ≤ _; omega) ?_ (fun w' hS => ?_) (by show l.length - (j + 1) < _; omega)
        · exact (Sub.cons rfl (Sub.cons rfl (Sub.cons rfl (Sub.cons rfl (Sub.cons rfl (Sub.cons rfl Sub.nil))))))
        · dsimp only
          rw [hnx]
          exact sub_st w' hS
      | some x0 =>
        obtain rfl : x0.2 = tx := htx
        replace hnx : (l.take (j + 1)).filterMap (resOf L C) = O ++ [(p, x0.2)] := by rw [hnx]
        focus (refine S_seq rfl ?_; refine S_seq rfl ?_; refine S_region rfl rfl ?_; refine R_p rfl ?_ rfl rfl; refine R_nil ?_; refine S_false rfl rfl ?_; refine S_skip rfl ?_; refine S_seq rfl ?_; refine S_region rfl rfl ?_; refine R_p rfl ?_ rfl rfl; refine R_nil ?_; refine S_true rfl rfl ?_)
        refine S_draw ([pt b7 24 [.slice A8 O.length c8], row 9 1 A6 l.length c6 (l.map sv)]) sub_st (by kernel_rfl) rfl (by kernel_rfl) (by kernel_rfl : _ = 12) ?_
        refine D_take 0 rfl (pev_ok rfl) ?_ rfl rfl (by kernel_rfl) (by kernel_rfl)
        refine D_take 1 rfl (T_load rfl rfl rfl (by first | rfl | assumption)) ?_ rfl rfl (by kernel_rfl) (by kernel_rfl)
        refine D_take 2 rfl (pev_ok rfl) ?_ rfl rfl (by kernel_rfl) (by kernel_rfl)
        refine D_take 3 rfl (pev_ok rfl) ?_ rfl rfl (by kernel_rfl) (by kernel_rfl)
        refine D_take 4 rfl (T_ixN rfl rfl rfl rfl rfl rfl hne6 hjl) ?_ rfl rfl (by kernel_rfl) (by kernel_rfl)
        refine D_take 5 rfl (T_ldr rfl rfl rfl (Srd.row (n := l.length) (c := c6)) (by omega) hat) ?_ rfl rfl (by kernel_rfl) (by kernel_rfl)
        refine D_take 6 rfl (pev_ok rfl) ?_ rfl rfl (by kernel_rfl) (by kernel_rfl)
        refine D_take 7 rfl (T_build2 rfl rfl (rw_built2 p x0.2)) ?_ rfl rfl (by kernel_rfl) (by kernel_rfl)
        refine D_one 8 rfl (E_litS (vs := [.agg (rwc (p, x0.2)).toArray]) (size := 2) (ds := rwc (p, x0.2)) rfl rfl rfl rfl rfl rfl (by simp [vcells, rwc]) rfl (by omega)) ?_ rfl rfl (by kernel_rfl)
        rintro _ _ ⟨vb, rfl, rfl⟩
        refine Nx_same sub_st ?_
        refine D_one 9 rfl (E_appS (sz := 2) (m := O.length) (c := c8) (A := A8) rfl rfl rfl rfl rfl rfl rfl (by decide) (Srd.pt (n := 1) (g := vb) (ds := rwc (p, x0.2)) rfl (fun j u hj => by rw [Nat.zero_add]; exact hj)) (rwc_one _) (by show (O.length + 1) * 32 ≤ _; omega) (by unfold maxLen; omega)) ?_ rfl rfl (by kernel_rfl)
        rintro _ _ ⟨A9, c9, rfl, rfl⟩
        refine Nx_same sub_st ?_
        refine D_take 10 rfl (pev_ok rfl) ?_ rfl rfl (by kernel_rfl) (by kernel_rfl)
        refine D_one 11 rfl (E_store1 rfl rfl rfl rfl rfl rfl (by first | (simp; done) | (simp; omega) | decide)) ?_ rfl rfl (by kernel_rfl)
        rintro _ _ rfl
        refine Nx_pivot (by kernel_rfl) ?_
        refine D_done ?_ (by kernel_rfl)
        skip
        focus (refine RS_blk ?_; refine S_region rfl rfl ?_; refine R_p rfl ?_ rfl rfl; refine R_take (T_addN rfl rfl (by unfold fits; omega)) ?_ rfl rfl; refine R_p rfl ?_ rfl rfl; refine R_nil ?_)
        have e1 : (O ++ [(p, x0.2)]).length = O.length + 1 := by simp
        refine hJ (j + 1, A9, c9) _ _ (by show j + 1 ≤ _; omega) ?_ (fun w' hS => ?_) (by show l.length - (j + 1) < _; omega)
        · exact (Sub.cons rfl (Sub.cons rfl (Sub.cons rfl (Sub.cons rfl (Sub.cons rfl (Sub.cons rfl Sub.nil))))))
        · dsimp only
          rw [hnx, e1, cellsL_app, cellsL_one]
          simp only [Nat.add_zero, List.set_cons_zero] at hS
          exact sub_st w' hS
  have hend := hend (by omega)
  rw [hend] at hB
  focus (refine S_seq rfl ?_; refine S_seq rfl ?_; refine S_region rfl rfl ?_; refine R_p rfl ?_ rfl rfl; refine R_p rfl ?_ rfl rfl; refine R_p rfl ?_ rfl rfl; refine R_take (T_decF rfl (by omega)) ?_ rfl rfl; refine R_nil ?_; refine S_false rfl rfl ?_; refine S_exit rfl rfl ?_; refine S_seq rfl ?_; refine S_region rfl rfl ?_; refine R_take (T_loada (ds := [.slice A8 O.length c8]) rfl rfl rfl rfl (fun j v h => by simpa using h)) ?_ rfl rfl; (refine R_eff0 (E_storew (ds := [.slice A8 O.length c8]) (cs := [.slice none 0 0]) rfl rfl rfl rfl (sl_one _ _ _) rfl) ?_ rfl; rintro _ _ rfl); refine R_nil ?_)
  refine hB _ _ _ _ _ rfl (.cell rfl rfl rfl inferInstance rfl .nil) fun w' hS => ⟨(A8, c8), rfl, trivial, sub_st _ hS⟩
end Go.Proofs.Ytghfjfgpiomdhaa

namespace Go.Proofs.Ytghfjfgpiomdhaa
open Go.RowKit
open Asn (pt row rb)
set_option linter.unusedVariables false
set_option linter.unusedSimpArgs false
--@use N

theorem appU_mem {C : List Ch} (hC : Srt (·.1) C) : ∀ (L : List Rw) (x : Rw), x ∈ appU L C ↔ (∃ c, c ∈ C ∧ c.1 = x.1 ∧ c.2.1 = true ∧ x = (x.1, c.2.2)) ∨ (x ∈ L ∧ ∀ c, c ∈ C → c.1 ≠ x.1) := by
  induction C with
  | nil => intro L x; simp [appU]
  | cons c C ih =>
    intro L x
    have hC' := List.pairwise_cons.1 hC
    have := ih hC'.2 (updR L c) x
    simp only [appU, List.foldl_cons] at this ⊢
    rw [this, upd_mem]
    constructor
    · rintro (⟨d, h1, h2⟩ | ⟨(⟨h1, h2⟩ | ⟨h1, h2⟩), h3⟩)
      · exact .inl ⟨d, by simp [h1], h2⟩
      · refine .inr ⟨h1, fun d hd => ?_⟩
        rcases List.mem_cons.1 hd with e | hd
        · subst e; exact fun e => h2 e.symm
        · exact h3 d hd
      · refine .inl ⟨c, by simp, by rw [h2], h1, by rw [h2]⟩
    · rintro (⟨d, h1, h2, h3, h4⟩ | ⟨h1, h2⟩)
      · rcases List.mem_cons.1 h1 with e | hd
        · subst e
          refine .inr ⟨.inr ⟨h3, by rw [h4, h2]⟩, fun e he he2 => ?_⟩
          exact sl_ne (hC'.1 e he) (h2.trans he2.symm)
        · exact .inl ⟨d, hd, h2, h3, h4⟩
      · exact .inr ⟨.inl ⟨h1, fun e => h2 c (by simp) e.symm⟩, fun d hd => h2 d (by simp [hd])⟩
theorem resOf_iff {L : List Rw} {C : List Ch} (hL : Srt (·.1) L) (hC : Srt (·.1) C) (p : Str) (x : Rw) : resOf L C p = some x ↔ (∃ c, c ∈ C ∧ c.1 = p ∧ c.2.1 = true ∧ x = (p, c.2.2)) ∨ (x ∈ L ∧ x.1 = p ∧ ∀ c, c ∈ C → c.1 ≠ p) := by
  unfold resOf
  cases h : fstK (·.1) C p with
  | some c =>
    have hc := (fst_mem hC).1 h
    simp only []
    constructor
    · intro h2
      split at h2
      · rename_i h3
        exact .inl ⟨c, hc.1, hc.2, h3, by injection h2 with h2; exact h2.symm⟩
      · cases h2
    · rintro (⟨d, h1, h2, h3, h4⟩ | ⟨h1, h2, h3⟩)
      · have := (fst_mem hC).2 ⟨h1, h2⟩
        rw [h] at this
        injection this with this
        subst this
        rw [if_pos h3, h4]
      · exact absurd hc.2 (h3 c hc.1)
  | none =>
    have hn : ∀ c, c ∈ C → c.1 ≠ p := fun c hc e => by
      have := List.find?_eq_none.1 h c hc
      simp [e] at this
    simp only []
    constructor
    · intro h2
      cases h3 : fstK (·.1) L p with
      | none => rw [h3] at h2; cases h2
      | some y =>
        rw [h3] at h2
        injection h2 with h2
        have hy := (fst_mem hL).1 h3
        have e : x = y := by
          rw [← h2]
          exact Prod.ext hy.2.symm rfl
        subst e
        exact .inr ⟨hy.1, hy.2, hn⟩
    · rintro (⟨d, h1, h2, _⟩ | ⟨h1, h2, h3⟩)
      · exact absurd h2 (hn d h1)
      · rw [(fst_mem hL).2 ⟨h1, h2⟩]
        exact congrArg some (Prod.ext h2.symm rfl)
theorem resOf_key {L : List Rw} {C : List Ch} (hL : Srt (·.1) L) (hC : Srt (·.1) C) {p : Str} {x : Rw} (h : resOf L C p = some x) : x.1 = p := by
  rcases (resOf_iff hL hC p x).1 h with ⟨c, _, _, _, e⟩ | ⟨_, e, _⟩
  · rw [e]
  · exact e
theorem allP_srt (L : List Rw) (C : List Ch) : Srt id (allP L C) := paths_srt (paths_srt List.Pairwise.nil _) _
theorem allP_mem (L : List Rw) (C : List Ch) (p : Str) : p ∈ allP L C ↔ (∃ x, x ∈ L ∧ x.1 = p) ∨ ∃ c, c ∈ C ∧ c.1 = p := by
  rw [allP, paths_mem, paths_mem]
  simp
theorem res_srt {L : List Rw} {C : List Ch} (hL : Srt (·.1) L) (hC : Srt (·.1) C) : Srt (·.1) (resA L C) := by
  unfold Srt resA
  rw [List.pairwise_filterMap]
  refine (allP_srt L C).imp ?_
  intro p q hpq x hx y hy
  have e1 := resOf_key hL hC hx
  have e2 := resOf_key hL hC hy
  simp only [e1, e2]
  exact hpq
theorem app_res {L : List Rw} {C : List Ch} (hL : Srt (·.1) L) (hC : Srt (·.1) C) : appU L C = resA L C := by
  refine srt_ext (appU_srt hL C) (res_srt hL hC) fun x => ?_
  rw [appU_mem hC, resA, List.mem_filterMap]
  constructor
  · intro h
    refine ⟨x.1, (allP_mem L C x.1).2 ?_, (resOf_iff hL hC x.1 x).2 ?_⟩
    · rcases h with ⟨c, h1, h2, _⟩ | ⟨h1, _⟩
      · exact .inr ⟨c, h1, h2⟩
      · exact .inl ⟨x, h1, rfl⟩
    · rcases h with ⟨c, h1, h2, h3, h4⟩ | ⟨h1, h2⟩
      · exact .inl ⟨c, h1, h2, h3, h4⟩
      · exact .inr ⟨h1, rfl, h2⟩
  · rintro ⟨p, _, h⟩
    have e := resOf_key hL hC h
    subst e
    rcases (resOf_iff hL hC x.1 x).1 h with ⟨c, h1, h2, h3, h4⟩ | ⟨h1, _, h2⟩
    · exact .inl ⟨c, h1, h2, h3, h4⟩
    · exact .inr ⟨h1, h2⟩
theorem eq_upto {α : Type} [Inhabited α] {L M : List α} (hl : L.length = M.length) (h : ∀ i, i < L.length → L.getD i default = M.getD i default) : L = M := by
  refine List.ext_getElem hl fun i h1 h2 => ?_
  have := h i h1
  simpa [List.getD, h1, h2] using this
set_option maxRecDepth 100000 in
set_option maxHeartbeats 4000000 in
theorem rSame_any (w : World) (A A2 : Option Addr) (n c n2 c2 : Nat) (L M : List Rw) (h : Rd w All 2 A n (cellsL rwc L)) (h2 : Rd w All 2 A2 n2 (cellsL rwc M)) (hn : n ≤ 100000) (hn2 : n2 ≤ 100000) :
    Gives Try.prog 20 [.agg #[.slice A n c], .agg #[.slice A2 n2 c2]] [] w (X := Unit) (fun _ => .bool (decide (L = M))) (fun _ => True) (fun _ => []) := by
  refine gives_S Try.func20 rfl Try.ntmps20 Try.results20 (by simp) (St.enter w) (fun B hB => ?_)
  have hl : L.length = n := by have := h.1; rw [cellsL_len rwc_len] at this; omega
  have hl2 : M.length = n2 := by have := h2.1; rw [cellsL_len rwc_len] at this; omega
  subst hl
  subst hl2
  have hne : 0 < L.length → A ≠ none := fun h0 => by obtain ⟨ad, rfl, _⟩ := h.2 (by omega); simp
  have hne2 : 0 < M.length → A2 ≠ none := fun h0 => by obtain ⟨ad, rfl, _⟩ := h2.2 (by omega); simp
  by_cases hlm : L.length = M.length
  · skip
    focus (refine S_seq rfl ?_; refine S_region rfl rfl ?_; (refine R_eff (E_boxa (cs := [.slice A L.length c]) rfl) ?_ rfl rfl; rintro _ _ ⟨b2, rfl, rfl⟩); (refine R_eff (E_boxa (cs := [.slice A2 M.length c2]) rfl) ?_ rfl rfl; rintro _ _ ⟨b3, rfl, rfl⟩); refine R_p rfl ?_ rfl rfl; refine R_nil ?_; refine S_seq rfl ?_; refine S_seq rfl ?_; refine S_region rfl rfl ?_; refine R_p rfl ?_ rfl rfl; refine R_take (T_load rfl rfl rfl (by first | rfl | assumption)) ?_ rfl rfl; refine R_p rfl ?_ rfl rfl; refine R_p rfl ?_ rfl rfl; refine R_take (T_load rfl rfl rfl (by first | rfl | assumption)) ?_ rfl rfl; refine R_p rfl ?_ rfl rfl; refine R_take (T_decF rfl (by omega)) ?_ rfl rfl; refine R_nil ?_; refine S_false rfl rfl ?_; refine S_skip rfl ?_; refine S_seq rfl ?_; refine S_seq rfl ?_; refine S_region rfl rfl ?_; refine R_p rfl ?_ rfl rfl; refine R_nil ?_; refine S_block rfl ?_)
    refine S_loop (X := Nat) (fun j => [(2, .pointer (some ⟨b2, 0, none⟩)), (3, .pointer (some ⟨b3, 0, none⟩)), (5, .int .i64 (j : Int))]) (fun _ => [pt b3 24 [.slice A2 M.length c2], pt b2 24 [.slice A L.length c]]) (fun j => j ≤ L.length ∧ ∀ i, i < j → L.getD i default = M.getD i default) (fun j => L.length - j) rfl 0 ⟨Nat.zero_le _, fun i hi => by omega⟩ (Sub.cons rfl (Sub.cons rfl (Sub.cons rfl Sub.nil))) sub_st ?_
    rintro j ⟨hj, hok⟩ J hJ
    rcases Nat.lt_or_ge j L.length with hjl | hjl
    · have hne := hne (by omega)
      have hne2 := hne2 (by omega)
      have hjm : j < M.length := by omega
      have hat := cellsL_at (f := rwc) rwc_len L default j hjl
      have hat2 := cellsL_at (f := rwc) rwc_len M default j hjm
      have hnx : L.getD j default = M.getD j default → ∀ i, i < j + 1 → L.getD i default = M.getD i default := fun e i hi => by
        rcases Nat.lt_or_ge i j with h3 | h3
        · exact hok i h3
        · rw [show i = j by omega]; exact e
      have hne3 : L.getD j default ≠ M.getD j default → ¬ L = M := fun e e2 => e (by rw [e2])
      obtain ⟨x, hx⟩ : ∃ x, L.getD j default = x := ⟨_, rfl⟩
      obtain ⟨y, hy⟩ : ∃ y, M.getD j default = y := ⟨_, rfl⟩
      rw [hx] at hat hnx hne3
      rw [hy] at hat2 hnx hne3
      by_cases hxy : x = y
      · have hd := decide_eq_true hxy
        focus (refine S_seq rfl ?_; refine S_seq rfl ?_; refine S_region rfl rfl ?_; refine R_p rfl ?_ rfl rfl; refine R_p rfl ?_ rfl rfl; refine R_take (T_load rfl rfl rfl (by first | rfl | assumption)) ?_ rfl rfl; refine R_p rfl ?_ rfl rfl; refine R_take (T_decT rfl (by omega)) ?_ rfl rfl; refine R_nil ?_; refine S_true rfl rfl ?_; refine S_skip rfl ?_; refine S_seq rfl ?_; refine S_block rfl ?_; refine S_seq rfl ?_; (refine S_draw _ (fun _ h => h) (by kernel_rfl) rfl (by kernel_rfl) (rfl : _ = 11) ?_; (refine D_take 0 rfl (pev_ok rfl) ?_ rfl rfl (by kernel_rfl) (by kernel_rfl)); (refine D_take 1 rfl (T_load rfl rfl rfl (by first | rfl | assumption)) ?_ rfl rfl (by kernel_rfl) (by kernel_rfl)); (refine D_take 2 rfl (pev_ok rfl) ?_ rfl rfl (by kernel_rfl) (by kernel_rfl)); (refine D_take 3 rfl (T_ixM (sz := 2) rfl rfl rfl rfl rfl rfl hne hjl) ?_ rfl rfl (by kernel_rfl) (by kernel_rfl)); (refine D_take 4 rfl (T_lda (ds := rwc x) rfl rfl rfl (Srd.old h (fun k _ => noOwns k)) rfl (by omega) hat) ?_ rfl rfl (by kernel_rfl) (by kernel_rfl)); (refine D_take 5 rfl (pev_ok rfl) ?_ rfl rfl (by kernel_rfl) (by kernel_rfl)); (refine D_take 6 rfl (T_load rfl rfl rfl (by first | rfl | assumption)) ?_ rfl rfl (by kernel_rfl) (by kernel_rfl)); (refine D_take 7 rfl (pev_ok rfl) ?_ rfl rfl (by kernel_rfl) (by kernel_rfl)); (refine D_take 8 rfl (T_ixM (sz := 2) rfl rfl rfl rfl rfl rfl hne2 hjm) ?_ rfl rfl (by kernel_rfl) (by kernel_rfl)); (refine D_take 9 rfl (T_lda (ds := rwc y) rfl rfl rfl (Srd.old h2 (fun k _ => noOwns k)) rfl (by omega) hat2) ?_ rfl rfl (by kernel_rfl) (by kernel_rfl)); (refine D_take 10 rfl (T_neRw (a := x) (b := y) rfl rfl hd) ?_ rfl rfl (by kernel_rfl) (by kernel_rfl)); refine D_done ?_ (by kernel_rfl)); refine S_false rfl rfl ?_; refine S_skip rfl ?_; refine RS_blk ?_; refine S_region rfl rfl ?_; refine R_p rfl ?_ rfl rfl; refine R_take (T_addN rfl rfl (by unfold fits; omega)) ?_ rfl rfl; refine R_p rfl ?_ rfl rfl; refine R_nil ?_)
        exact hJ (j + 1) _ _ ⟨by omega, hnx hxy⟩ (Sub.cons rfl (Sub.cons rfl (Sub.cons rfl Sub.nil))) sub_st (by omega)
      · have hd := decide_eq_false hxy
        rw [decide_eq_false (hne3 hxy)] at hB
        focus (refine S_seq rfl ?_; refine S_seq rfl ?_; refine S_region rfl rfl ?_; refine R_p rfl ?_ rfl rfl; refine R_p rfl ?_ rfl rfl; refine R_take (T_load rfl rfl rfl (by first | rfl | assumption)) ?_ rfl rfl; refine R_p rfl ?_ rfl rfl; refine R_take (T_decT rfl (by omega)) ?_ rfl rfl; refine R_nil ?_; refine S_true rfl rfl ?_; refine S_skip rfl ?_; refine S_seq rfl ?_; refine S_block rfl ?_; refine S_seq rfl ?_; (refine S_draw _ (fun _ h => h) (by kernel_rfl) rfl (by kernel_rfl) (rfl : _ = 11) ?_; (refine D_take 0 rfl (pev_ok rfl) ?_ rfl rfl (by kernel_rfl) (by kernel_rfl)); (refine D_take 1 rfl (T_load rfl rfl rfl (by first | rfl | assumption)) ?_ rfl rfl (by kernel_rfl) (by kernel_rfl)); (refine D_take 2 rfl (pev_ok rfl) ?_ rfl rfl (by kernel_rfl) (by kernel_rfl)); (refine D_take 3 rfl (T_ixM (sz := 2) rfl rfl rfl rfl rfl rfl hne hjl) ?_ rfl rfl (by kernel_rfl) (by kernel_rfl)); (refine D_take 4 rfl (T_lda (ds := rwc x) rfl rfl rfl (Srd.old h (fun k _ => noOwns k)) rfl (by omega) hat) ?_ rfl rfl (by kernel_rfl) (by kernel_rfl)); (refine D_take 5 rfl (pev_ok rfl) ?_ rfl rfl (by kernel_rfl) (by kernel_rfl)); (refine D_take 6 rfl (T_load rfl rfl rfl (by first | rfl | assumption)) ?_ rfl rfl (by kernel_rfl) (by kernel_rfl)); (refine D_take 7 rfl (pev_ok rfl) ?_ rfl rfl (by kernel_rfl) (by kernel_rfl)); (refine D_take 8 rfl (T_ixM (sz := 2) rfl rfl rfl rfl rfl rfl hne2 hjm) ?_ rfl rfl (by kernel_rfl) (by kernel_rfl)); (refine D_take 9 rfl (T_lda (ds := rwc y) rfl rfl rfl (Srd.old h2 (fun k _ => noOwns k)) rfl (by omega) hat2) ?_ rfl rfl (by kernel_rfl) (by kernel_rfl)); (refine D_take 10 rfl (T_neRw (a := x) (b := y) rfl rfl hd) ?_ rfl rfl (by kernel_rfl) (by kernel_rfl)); refine D_done ?_ (by kernel_rfl)); refine S_true rfl rfl ?_; refine S_seq rfl ?_; refine S_region rfl rfl ?_; refine R_p rfl ?_ rfl rfl; refine R_nil ?_)
        exact hB _ _ _ _ _ rfl rfl fun w' hS => ⟨(), rfl, trivial, hS.sublist (List.nil_sublist _)⟩
    have hjn : j = L.length := by omega
    subst hjn
    rw [decide_eq_true (eq_upto hlm hok)] at hB
    focus (refine S_seq rfl ?_; refine S_seq rfl ?_; refine S_region rfl rfl ?_; refine R_p rfl ?_ rfl rfl; refine R_p rfl ?_ rfl rfl; refine R_take (T_load rfl rfl rfl (by first | rfl | assumption)) ?_ rfl rfl; refine R_p rfl ?_ rfl rfl; refine R_take (T_decF rfl (by omega)) ?_ rfl rfl; refine R_nil ?_; refine S_false rfl rfl ?_; refine S_exit rfl rfl ?_; refine S_seq rfl ?_; refine S_region rfl rfl ?_; refine R_p rfl ?_ rfl rfl; refine R_nil ?_)
    exact hB _ _ _ _ _ rfl rfl fun w' hS => ⟨(), rfl, trivial, hS.sublist (List.nil_sublist _)⟩
  · rw [decide_eq_false (fun e => hlm (by rw [e]))] at hB
    focus (refine S_seq rfl ?_; refine S_region rfl rfl ?_; (refine R_eff (E_boxa (cs := [.slice A L.length c]) rfl) ?_ rfl rfl; rintro _ _ ⟨b2, rfl, rfl⟩); (refine R_eff (E_boxa (cs := [.slice A2 M.length c2]) rfl) ?_ rfl rfl; rintro _ _ ⟨b3, rfl, rfl⟩); refine R_p rfl ?_ rfl rfl; refine R_nil ?_; refine S_seq rfl ?_; refine S_seq rfl ?_; refine S_region rfl rfl ?_; refine R_p rfl ?_ rfl rfl; refine R_take (T_load rfl rfl rfl (by first | rfl | assumption)) ?_ rfl rfl; refine R_p rfl ?_ rfl rfl; refine R_p rfl ?_ rfl rfl; refine R_take (T_load rfl rfl rfl (by first | rfl | assumption)) ?_ rfl rfl; refine R_p rfl ?_ rfl rfl; refine R_take (T_decT rfl (by omega)) ?_ rfl rfl; refine R_nil ?_; refine S_true rfl rfl ?_; refine S_seq rfl ?_; refine S_region rfl rfl ?_; refine R_p rfl ?_ rfl rfl; refine R_nil ?_)
    exact hB _ _ _ _ _ rfl rfl fun w' hS => ⟨(), rfl, trivial, hS.sublist (List.nil_sublist _)⟩
set_option maxRecDepth 100000 in
set_option maxHeartbeats 4000000 in
theorem rSameEdit_any (w : World) (A A2 : Option Addr) (n c n2 c2 : Nat) (L M : List Ch) (h : Rd w All 3 A n (cellsL chc L)) (h2 : Rd w All 3 A2 n2 (cellsL chc M)) (hn : n ≤ 100000) (hn2 : n2 ≤ 100000) :
    Gives Try.prog 24 [.agg #[.slice A n c], .agg #[.slice A2 n2 c2]] [] w (X := Unit) (fun _ => .bool (decide (L = M))) (fun _ => True) (fun _ => []) := by
  refine gives_S Try.func24 rfl Try.ntmps24 Try.results24 (by simp) (St.enter w) (fun B hB => ?_)
  have hl : L.length = n := by have := h.1; rw [cellsL_len chc_len] at this; omega
  have hl2 : M.length = n2 := by have := h2.1; rw [cellsL_len chc_len] at this; omega
  subst hl
  subst hl2
  have hne : 0 < L.length → A ≠ none := fun h0 => by obtain ⟨ad, rfl, _⟩ := h.2 (by omega); simp
  have hne2 : 0 < M.length → A2 ≠ none := fun h0 => by obtain ⟨ad, rfl, _⟩ := h2.2 (by omega); simp
  by_cases hlm : L.length = M.length
  · skip
    focus (refine S_seq rfl ?_; refine S_region rfl rfl ?_; (refine R_eff (E_boxa (cs := [.slice A L.length c]) rfl) ?_ rfl rfl; rintro _ _ ⟨b2, rfl, rfl⟩); (refine R_eff (E_boxa (cs := [.slice A2 M.length c2]) rfl) ?_ rfl rfl; rintro _ _ ⟨b3, rfl, rfl⟩); refine R_p rfl ?_ rfl rfl; refine R_nil ?_; refine S_seq rfl ?_; refine S_seq rfl ?_; refine S_region rfl rfl ?_; refine R_p rfl ?_ rfl rfl; refine R_take (T_load rfl rfl rfl (by first | rfl | assumption)) ?_ rfl rfl; refine R_p rfl ?_ rfl rfl; refine R_p rfl ?_ rfl rfl; refine R_take (T_load rfl rfl rfl (by first | rfl | assumption)) ?_ rfl rfl; refine R_p rfl ?_ rfl rfl; refine R_take (T_decF rfl (by omega)) ?_ rfl rfl; refine R_nil ?_; refine S_false rfl rfl ?_; refine S_skip rfl ?_; refine S_seq rfl ?_; refine S_seq rfl ?_; refine S_region rfl rfl ?_; refine R_p rfl ?_ rfl rfl; refine R_nil ?_; refine S_block rfl ?_)
    refine S_loop (X := Nat) (fun j => [(2, .pointer (some ⟨b2, 0, none⟩)), (3, .pointer (some ⟨b3, 0, none⟩)), (5, .int .i64 (j : Int))]) (fun _ => [pt b3 29 [.slice A2 M.length c2], pt b2 29 [.slice A L.length c]]) (fun j => j ≤ L.length ∧ ∀ i, i < j → L.getD i default = M.getD i default) (fun j => L.length - j) rfl 0 ⟨Nat.zero_le _, fun i hi => by omega⟩ (Sub.cons rfl (Sub.cons rfl (Sub.cons rfl Sub.nil))) sub_st ?_
    rintro j ⟨hj, hok⟩ J hJ
    rcases Nat.lt_or_ge j L.length with hjl | hjl
    · have hne := hne (by omega)
      have hne2 := hne2 (by omega)
      have hjm : j < M.length := by omega
      have hat := cellsL_at (f := chc) chc_len L default j hjl
      have hat2 := cellsL_at (f := chc) chc_len M default j hjm
      have hnx : L.getD j default = M.getD j default → ∀ i, i < j + 1 → L.getD i default = M.getD i default := fun e i hi => by
        rcases Nat.lt_or_ge i j with h3 | h3
        · exact hok i h3
        · rw [show i = j by omega]; exact e
      have hne3 : L.getD j default ≠ M.getD j default → ¬ L = M := fun e e2 => e (by rw [e2])
      obtain ⟨x, hx⟩ : ∃ x, L.getD j default = x := ⟨_, rfl⟩
      obtain ⟨y, hy⟩ : ∃ y, M.getD j default = y := ⟨_, rfl⟩
      rw [hx] at hat hnx hne3
      rw [hy] at hat2 hnx hne3
      by_cases hxy : x = y
      · have hd := decide_eq_true hxy
        focus (refine S_seq rfl ?_; refine S_seq rfl ?_; refine S_region rfl rfl ?_; refine R_p rfl ?_ rfl rfl; refine R_p rfl ?_ rfl rfl; refine R_take (T_load rfl rfl rfl (by first | rfl | assumption)) ?_ rfl rfl; refine R_p rfl ?_ rfl rfl; refine R_take (T_decT rfl (by omega)) ?_ rfl rfl; refine R_nil ?_; refine S_true rfl rfl ?_; refine S_skip rfl ?_; refine S_seq rfl ?_; refine S_block rfl ?_; refine S_seq rfl ?_; (refine S_draw _ (fun _ h => h) (by kernel_rfl) rfl (by kernel_rfl) (rfl : _ = 11) ?_; (refine D_take 0 rfl (pev_ok rfl) ?_ rfl rfl (by kernel_rfl) (by kernel_rfl)); (refine D_take 1 rfl (T_load rfl rfl rfl (by first | rfl | assumption)) ?_ rfl rfl (by kernel_rfl) (by kernel_rfl)); (refine D_take 2 rfl (pev_ok rfl) ?_ rfl rfl (by kernel_rfl) (by kernel_rfl)); (refine D_take 3 rfl (T_ixM (sz := 3) rfl rfl rfl rfl rfl rfl hne hjl) ?_ rfl rfl (by kernel_rfl) (by kernel_rfl)); (refine D_take 4 rfl (T_lda (ds := chc x) rfl rfl rfl (Srd.old h (fun k _ => noOwns k)) rfl (by omega) hat) ?_ rfl rfl (by kernel_rfl) (by kernel_rfl)); (refine D_take 5 rfl (pev_ok rfl) ?_ rfl rfl (by kernel_rfl) (by kernel_rfl)); (refine D_take 6 rfl (T_load rfl rfl rfl (by first | rfl | assumption)) ?_ rfl rfl (by kernel_rfl) (by kernel_rfl)); (refine D_take 7 rfl (pev_ok rfl) ?_ rfl rfl (by kernel_rfl) (by kernel_rfl)); (refine D_take 8 rfl (T_ixM (sz := 3) rfl rfl rfl rfl rfl rfl hne2 hjm) ?_ rfl rfl (by kernel_rfl) (by kernel_rfl)); (refine D_take 9 rfl (T_lda (ds := chc y) rfl rfl rfl (Srd.old h2 (fun k _ => noOwns k)) rfl (by omega) hat2) ?_ rfl rfl (by kernel_rfl) (by kernel_rfl)); (refine D_take 10 rfl (T_neCh (a := x) (b := y) rfl rfl hd) ?_ rfl rfl (by kernel_rfl) (by kernel_rfl)); refine D_done ?_ (by kernel_rfl)); refine S_false rfl rfl ?_; refine S_skip rfl ?_; refine RS_blk ?_; refine S_region rfl rfl ?_; refine R_p rfl ?_ rfl rfl; refine R_take (T_addN rfl rfl (by unfold fits; omega)) ?_ rfl rfl; refine R_p rfl ?_ rfl rfl; refine R_nil ?_)
        exact hJ (j + 1) _ _ ⟨by omega, hnx hxy⟩ (Sub.cons rfl (Sub.cons rfl (Sub.cons rfl Sub.nil))) sub_st (by omega)
      · have hd := decide_eq_false hxy
        rw [decide_eq_false (hne3 hxy)] at hB
        focus (refine S_seq rfl ?_; refine S_seq rfl ?_; refine S_region rfl rfl ?_; refine R_p rfl ?_ rfl rfl; refine R_p rfl ?_ rfl rfl; refine R_take (T_load rfl rfl rfl (by first | rfl | assumption)) ?_ rfl rfl; refine R_p rfl ?_ rfl rfl; refine R_take (T_decT rfl (by omega)) ?_ rfl rfl; refine R_nil ?_; refine S_true rfl rfl ?_; refine S_skip rfl ?_; refine S_seq rfl ?_; refine S_block rfl ?_; refine S_seq rfl ?_; (refine S_draw _ (fun _ h => h) (by kernel_rfl) rfl (by kernel_rfl) (rfl : _ = 11) ?_; (refine D_take 0 rfl (pev_ok rfl) ?_ rfl rfl (by kernel_rfl) (by kernel_rfl)); (refine D_take 1 rfl (T_load rfl rfl rfl (by first | rfl | assumption)) ?_ rfl rfl (by kernel_rfl) (by kernel_rfl)); (refine D_take 2 rfl (pev_ok rfl) ?_ rfl rfl (by kernel_rfl) (by kernel_rfl)); (refine D_take 3 rfl (T_ixM (sz := 3) rfl rfl rfl rfl rfl rfl hne hjl) ?_ rfl rfl (by kernel_rfl) (by kernel_rfl)); (refine D_take 4 rfl (T_lda (ds := chc x) rfl rfl rfl (Srd.old h (fun k _ => noOwns k)) rfl (by omega) hat) ?_ rfl rfl (by kernel_rfl) (by kernel_rfl)); (refine D_take 5 rfl (pev_ok rfl) ?_ rfl rfl (by kernel_rfl) (by kernel_rfl)); (refine D_take 6 rfl (T_load rfl rfl rfl (by first | rfl | assumption)) ?_ rfl rfl (by kernel_rfl) (by kernel_rfl)); (refine D_take 7 rfl (pev_ok rfl) ?_ rfl rfl (by kernel_rfl) (by kernel_rfl)); (refine D_take 8 rfl (T_ixM (sz := 3) rfl rfl rfl rfl rfl rfl hne2 hjm) ?_ rfl rfl (by kernel_rfl) (by kernel_rfl)); (refine D_take 9 rfl (T_lda (ds := chc y) rfl rfl rfl (Srd.old h2 (fun k _ => noOwns k)) rfl (by omega) hat2) ?_ rfl rfl (by kernel_rfl) (by kernel_rfl)); (refine D_take 10 rfl (T_neCh (a := x) (b := y) rfl rfl hd) ?_ rfl rfl (by kernel_rfl) (by kernel_rfl)); refine D_done ?_ (by kernel_rfl)); refine S_true rfl rfl ?_; refine S_seq rfl ?_; refine S_region rfl rfl ?_; refine R_p rfl ?_ rfl rfl; refine R_nil ?_)
        exact hB _ _ _ _ _ rfl rfl fun w' hS => ⟨(), rfl, trivial, hS.sublist (List.nil_sublist _)⟩
    have hjn : j = L.length := by omega
    subst hjn
    rw [decide_eq_true (eq_upto hlm hok)] at hB
    focus (refine S_seq rfl ?_; refine S_seq rfl ?_; refine S_region rfl rfl ?_; refine R_p rfl ?_ rfl rfl; refine R_p rfl ?_ rfl rfl; refine R_take (T_load rfl rfl rfl (by first | rfl | assumption)) ?_ rfl rfl; refine R_p rfl ?_ rfl rfl; refine R_take (T_decF rfl (by omega)) ?_ rfl rfl; refine R_nil ?_; refine S_false rfl rfl ?_; refine S_exit rfl rfl ?_; refine S_seq rfl ?_; refine S_region rfl rfl ?_; refine R_p rfl ?_ rfl rfl; refine R_nil ?_)
    exact hB _ _ _ _ _ rfl rfl fun w' hS => ⟨(), rfl, trivial, hS.sublist (List.nil_sublist _)⟩
  · rw [decide_eq_false (fun e => hlm (by rw [e]))] at hB
    focus (refine S_seq rfl ?_; refine S_region rfl rfl ?_; (refine R_eff (E_boxa (cs := [.slice A L.length c]) rfl) ?_ rfl rfl; rintro _ _ ⟨b2, rfl, rfl⟩); (refine R_eff (E_boxa (cs := [.slice A2 M.length c2]) rfl) ?_ rfl rfl; rintro _ _ ⟨b3, rfl, rfl⟩); refine R_p rfl ?_ rfl rfl; refine R_nil ?_; refine S_seq rfl ?_; refine S_seq rfl ?_; refine S_region rfl rfl ?_; refine R_p rfl ?_ rfl rfl; refine R_take (T_load rfl rfl rfl (by first | rfl | assumption)) ?_ rfl rfl; refine R_p rfl ?_ rfl rfl; refine R_p rfl ?_ rfl rfl; refine R_take (T_load rfl rfl rfl (by first | rfl | assumption)) ?_ rfl rfl; refine R_p rfl ?_ rfl rfl; refine R_take (T_decT rfl (by omega)) ?_ rfl rfl; refine R_nil ?_; refine S_true rfl rfl ?_; refine S_seq rfl ?_; refine S_region rfl rfl ?_; refine R_p rfl ?_ rfl rfl; refine R_nil ?_)
    exact hB _ _ _ _ _ rfl rfl fun w' hS => ⟨(), rfl, trivial, hS.sublist (List.nil_sublist _)⟩
end Go.Proofs.Ytghfjfgpiomdhaa

namespace Go.Proofs.Ytghfjfgpiomdhaa
open Go.RowKit Go.ChangeShapes Go.WideShapes Go.ChangeAt
open Asn (pt row rb)
set_option linter.unusedVariables false
set_option linter.unusedSimpArgs false

theorem sv_bl (s : ByteArray) : Value.string s = sv (bl s) := by
  simp [sv, bl, Lib.toList_data]
section
variable {H : Type} {enc : TypeId × Value → H} {W : World}
theorem Op_.boolean {P : Program} {t : TypeId} {cs : List Value} (ht : P.underlying t = some .bool) (h : Op_ enc P W t cs) : ∃ b, cs = [.bool b] := by
  obtain ⟨m, x, h⟩ := h
  obtain ⟨n, h1, _⟩ := DataW.trod_bool ht h
  exact ⟨n, h1⟩
set_option maxRecDepth 100000 in
theorem open_rw {cs : List Value} (h : Op_ enc Try.prog W 70 cs) : ∃ x : Rw, cs = rwc x := by
  obtain ⟨hl, hf⟩ := h.struct Try.underlying70
  have c0 : Try.prog.cellsOf 70 = 2 := by kernel_rfl
  have c1 : Try.prog.cellsOf 9 = 1 := by kernel_rfl
  rw [c0] at hl
  have g0 : Op_ enc Try.prog W 9 ((cs.drop 0).take (Try.prog.cellsOf 9)) := hf 0 _ rfl
  have g1 : Op_ enc Try.prog W 9 ((cs.drop 1).take (Try.prog.cellsOf 9)) := hf 1 _ rfl
  rw [c1] at g0 g1
  obtain ⟨a, ha, _⟩ := Op_.str Try.underlying9 g0
  obtain ⟨b, hb, _⟩ := Op_.str Try.underlying9 g1
  match cs, hl with
  | [u, v], _ =>
    simp at ha hb
    exact ⟨(bl a, bl b), by rw [ha, hb, sv_bl, sv_bl]; rfl⟩
set_option maxRecDepth 100000 in
theorem open_ch {cs : List Value} (h : Op_ enc Try.prog W 73 cs) : ∃ x : Ch, cs = chc x := by
  obtain ⟨hl, hf⟩ := h.struct Try.underlying73
  have c0 : Try.prog.cellsOf 73 = 3 := by kernel_rfl
  have c1 : Try.prog.cellsOf 9 = 1 := by kernel_rfl
  have c2 : Try.prog.cellsOf 4 = 1 := by kernel_rfl
  rw [c0] at hl
  have g0 : Op_ enc Try.prog W 9 ((cs.drop 0).take (Try.prog.cellsOf 9)) := hf 0 _ rfl
  have g1 : Op_ enc Try.prog W 4 ((cs.drop 1).take (Try.prog.cellsOf 4)) := hf 1 _ rfl
  have g2 : Op_ enc Try.prog W 9 ((cs.drop 2).take (Try.prog.cellsOf 9)) := hf 2 _ rfl
  rw [c1] at g0 g2
  rw [c2] at g1
  obtain ⟨a, ha, _⟩ := Op_.str Try.underlying9 g0
  obtain ⟨q, hq⟩ := Op_.boolean Try.underlying4 g1
  obtain ⟨b, hb, _⟩ := Op_.str Try.underlying9 g2
  match cs, hl with
  | [u, v, w], _ =>
    simp at ha hb hq
    exact ⟨(bl a, q, bl b), by rw [ha, hb, hq, sv_bl, sv_bl]; rfl⟩
set_option maxRecDepth 100000 in
theorem open_map {r : Reach} {base : Nat} {v : Value} {d : DataW H} {p : List MemPlace} (hv : Value.okWide Try.prog W r base 24 v) (h : DataW.Trod enc Try.prog W 0 (fun _ => true) true 24 v d p) :
    ∃ A n c, ∃ L : List Rw, v = .agg #[.slice A n c] ∧ n ≤ c ∧ c ≤ maxLen ∧ Rd W All 2 A n (cellsL rwc L) := by
  obtain ⟨Q, rfl, hQ⟩ := okWide_struct Try.underlying24 hv
  obtain ⟨hl, hf⟩ := (Op_.of_trod h).struct Try.underlying24
  have c0 : Try.prog.cellsOf 24 = 1 := by kernel_rfl
  have c1 : Try.prog.cellsOf 22 = 1 := by kernel_rfl
  rw [c0] at hl
  have hl : Q.toList.length = 1 := hl
  have g0 : Op_ enc Try.prog W 22 ((Q.toList.drop 0).take (Try.prog.cellsOf 22)) := hf 0 _ rfl
  rw [c1, List.drop_zero, List.take_of_length_le (by omega)] at g0
  obtain ⟨A, n, c, xs, hcs, h1, h2, h3, h4⟩ := g0.slice Try.underlying22 (size := 2) (by kernel_rfl)
  obtain ⟨L, _, rfl, _⟩ := rows_of (n := 0) (size := 2) (f := rwc) rwc_len (fun _ => True) _ _ h3.1 fun i hi => by
    obtain ⟨x, hx⟩ := open_rw (h4 i hi)
    exact ⟨x, hx, trivial⟩
  refine ⟨A, n, c, L, ?_, h1, h2, h3⟩
  have : Q = (Q.toList).toArray := by simp
  rw [this, hcs]
set_option maxRecDepth 100000 in
theorem open_edit {r : Reach} {base : Nat} {v : Value} {d : DataW H} {p : List MemPlace} (hv : Value.okWide Try.prog W r base 29 v) (h : DataW.Trod enc Try.prog W 0 (fun _ => true) true 29 v d p) :
    ∃ A n c, ∃ L : List Ch, v = .agg #[.slice A n c] ∧ n ≤ c ∧ c ≤ maxLen ∧ Rd W All 3 A n (cellsL chc L) := by
  obtain ⟨Q, rfl, hQ⟩ := okWide_struct Try.underlying29 hv
  obtain ⟨hl, hf⟩ := (Op_.of_trod h).struct Try.underlying29
  have c0 : Try.prog.cellsOf 29 = 1 := by kernel_rfl
  have c1 : Try.prog.cellsOf 27 = 1 := by kernel_rfl
  rw [c0] at hl
  have hl : Q.toList.length = 1 := hl
  have g0 : Op_ enc Try.prog W 27 ((Q.toList.drop 0).take (Try.prog.cellsOf 27)) := hf 0 _ rfl
  rw [c1, List.drop_zero, List.take_of_length_le (by omega)] at g0
  obtain ⟨A, n, c, xs, hcs, h1, h2, h3, h4⟩ := g0.slice Try.underlying27 (size := 3) (by kernel_rfl)
  obtain ⟨L, _, rfl, _⟩ := rows_of (n := 0) (size := 3) (f := chc) chc_len (fun _ => True) _ _ h3.1 fun i hi => by
    obtain ⟨x, hx⟩ := open_ch (h4 i hi)
    exact ⟨x, hx, trivial⟩
  refine ⟨A, n, c, L, ?_, h1, h2, h3⟩
  have : Q = (Q.toList).toArray := by simp
  rw [this, hcs]
end
end Go.Proofs.Ytghfjfgpiomdhaa

namespace Go.Proofs.Ytghfjfgpiomdhaa
open Go.RowKit Go.ChangeShapes Go.WideShapes Go.ChangeAt
open Asn (pt row rb)
set_option linter.unusedVariables false
set_option linter.unusedSimpArgs false
--@use N

theorem Gives.pure {P : Program} {f : FuncId} {vs : List Value} {w : World} {v : Value} {I : Unit → Prop} {A : Unit → List Asn} (h : Gives P f vs [] w (fun _ => v) I A) : Calls P f vs.toArray w fun e w' => e = .returned v ∧ Kp All w w' :=
  h.mono fun e w' ⟨_, he, _, hS⟩ => ⟨he, hS.kpO⟩
end Go.Proofs.Ytghfjfgpiomdhaa
