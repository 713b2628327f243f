/- The document: With, Paths, Get, Said. -/
import Derived.Test.YtebbnbddlnpldaaPmD
namespace Go.Proofs.Ytebbnbddlnpldaa
open Go.RowKit
open Asn (pt row rb)
set_option linter.unusedVariables false
set_option linter.unusedSimpArgs false
--@use N

theorem lo_next {α : Type} [Inhabited α] (k : α → Str) (l : List α) (s : Str) (j : Nat) (hj : j < l.length) : lo k (l.take (j + 1)) s = lo k (l.take j) s ++ if k (l.getD j default) < s then [l.getD j default] else [] := by
  rw [lo, List.take_succ_eq_append_getElem hj, List.filter_append, lo]
  simp only [List.getD, List.getElem?_eq_getElem hj, Option.getD_some]
  by_cases h : k l[j] < s <;> simp [h, List.filter_cons]
theorem hi_next {α : Type} [Inhabited α] (k : α → Str) (l : List α) (s : Str) (j : Nat) (hj : j < l.length) : hi k (l.take (j + 1)) s = hi k (l.take j) s ++ if s < k (l.getD j default) then [l.getD j default] else [] := by
  rw [hi, List.take_succ_eq_append_getElem hj, List.filter_append, hi]
  simp only [List.getD, List.getElem?_eq_getElem hj, Option.getD_some]
  by_cases h : s < k l[j] <;> simp [h, List.filter_cons]
/-- texts that rise, with one -/
def withS (l : List Str) (s : Str) : List Str := lo id l s ++ [s] ++ hi id l s
theorem with_srt {l : List Str} (h : Srt id l) (s : Str) : Srt id (withS l s) := srt_put h s [s] (by simp) (by simp)
theorem with_mem (l : List Str) (s x : Str) : x ∈ withS l s ↔ x ∈ l ∨ x = s := by
  unfold withS lo hi
  simp only [List.mem_append, List.mem_filter, decide_eq_true_eq, List.mem_singleton, id]
  constructor
  · rintro ((⟨a, _⟩ | a) | ⟨a, _⟩)
    · exact .inl a
    · exact .inr a
    · exact .inl a
  · rintro (a | a)
    · rcases sl_tri x s with h | h | h
      · exact .inl (.inl ⟨a, h⟩)
      · exact .inl (.inr h)
      · exact .inr ⟨a, h⟩
    · exact .inl (.inr a)
theorem with_has {l : List Str} {s : Str} (h : Srt id l) (hs : s ∈ l) : withS l s = l :=
  srt_ext (with_srt h s) h fun x => by rw [with_mem]; exact ⟨fun h => h.elim id (fun e => e ▸ hs), .inl⟩
theorem with_len (l : List Str) (s : Str) : (withS l s).length ≤ l.length + 1 := by
  have : (l.filter (fun x => decide (x < s))).length + (l.filter (fun x => decide (s < x))).length ≤ l.length := by
    induction l with
    | nil => simp
    | cons x L ih =>
      simp only [List.filter_cons, List.length_cons]
      by_cases h : x < s
      · rw [if_pos (by simpa using h), if_neg (by simpa using sl_as h), List.length_cons]
        omega
      · rw [if_neg (by simpa using h)]
        by_cases h2 : s < x
        · rw [if_pos (by simpa using h2), List.length_cons]
          omega
        · rw [if_neg (by simpa using h2)]
          omega
  have e : (withS l s).length = (l.filter (fun x => decide (x < s))).length + 1 + (l.filter (fun x => decide (s < x))).length := by
    simp only [withS, lo, hi, List.length_append, List.length_singleton, id]
  omega
theorem sv_ones (l : List Str) : ∀ v ∈ l.map sv, v.oneCell' = true := by simp [sv, Value.oneCell']
theorem sv_at {l : List Str} {j : Nat} {x : Str} (hj : j < l.length) (h : l.getD j [] = x) : (l.map sv)[j]? = some (sv x) := by
  subst h
  simp [List.getD, hj]
set_option maxRecDepth 100000 in
set_option maxHeartbeats 4000000 in
theorem with_any (w : World) (A : Option Addr) (n c : Nat) (l : List Str) (s : Str) (hu : Srt id l) (hn : n ≤ 1000)
    (hS : St w (owns [row 9 1 A n c (l.map sv)]) [row 9 1 A n c (l.map sv)] w) :
    Gives Try.prog 36 [.slice A n c, sv s] [row 9 1 A n c (l.map sv)] w (X := Option Addr × Nat) (fun x => .slice x.1 (withS l s).length x.2) (fun _ => True) (fun x => [row 9 1 x.1 (withS l s).length x.2 ((withS l s).map sv)]) := by
  refine gives_S Try.func36 rfl Try.ntmps36 Try.results36 (by simp) hS (fun B hB => ?_)
  refine RS_row A n c fun hnc hcm hne hxl => ?_
  have hl : l.length = n := by simpa using hxl
  subst hl
  focus (refine S_seq rfl ?_; refine S_region rfl rfl ?_; refine R_p rfl ?_ rfl rfl; refine R_nil ?_; refine S_seq rfl ?_; refine S_region rfl rfl ?_; refine R_p rfl ?_ rfl rfl; refine R_nil ?_; refine S_seq rfl ?_; refine S_region rfl rfl ?_; refine R_p rfl ?_ rfl rfl; refine R_nil ?_; refine S_seq rfl ?_; refine S_seq rfl ?_; refine S_region rfl rfl ?_; refine R_p rfl ?_ rfl rfl; refine R_nil ?_; refine S_block rfl ?_)
  refine S_loop (X := Nat × Bool × Option Addr × Nat) (fun x => [(0, .slice A l.length c), (1, sv s), (5, .slice x.2.2.1 (lo id (l.take x.1) s ++ (if x.2.1 then [s] else []) ++ hi id (l.take x.1) s).length x.2.2.2), (6, .bool x.2.1), (7, .int .i64 (x.1 : Int))]) (fun x => [row 9 1 x.2.2.1 (lo id (l.take x.1) s ++ (if x.2.1 then [s] else []) ++ hi id (l.take x.1) s).length x.2.2.2 ((lo id (l.take x.1) s ++ (if x.2.1 then [s] else []) ++ hi id (l.take x.1) s).map sv), row 9 1 A l.length c (l.map sv)]) (fun x => x.1 ≤ l.length ∧ s ∉ l.take x.1 ∧ (x.2.1 = false → hi id (l.take x.1) s = []) ∧ (x.2.1 = true → ∃ y, y ∈ l.take x.1 ∧ s < y)) (fun x => l.length - x.1) rfl (0, false, none, 0) ⟨Nat.zero_le _, by simp, fun _ => rfl, fun h => by cases h⟩ (Sub.cons rfl (Sub.cons rfl (Sub.cons rfl (Sub.cons rfl (Sub.cons rfl Sub.nil))))) (fun w hS => sub_st (H' := [row 9 1 none 0 0 [], row 9 1 A l.length c (l.map sv)]) w (hS.nilrow 9 1)) ?_
  rintro ⟨j, p, A5, c5⟩ ⟨hj, hno, hpf, hpt⟩ J hJ
  dsimp only at hj hno hpf hpt ⊢
  rcases Nat.lt_or_ge j l.length with hjl | hjl
  · have hne := hne (by omega)
    have hln := lo_next id l s j hjl
    have hhn := hi_next id l s j hjl
    have htk : l.take (j + 1) = l.take j ++ [l.getD j default] := by rw [List.take_succ_eq_append_getElem hjl]; simp [List.getD, hjl]
    have hmem : l.getD j default ∈ l := by simp [List.getD, hjl]
    have hat := fun x (h : l.getD j [] = x) => sv_at hjl h
    have hbig : ∀ y, y ∈ l.take j → y < l.getD j default := fun y hy => by
      obtain ⟨i, hi, rfl⟩ := List.getElem_of_mem hy
      simp only [List.length_take] at hi
      have := List.pairwise_iff_getElem.1 hu i j (by omega) hjl (by omega)
      simpa [List.getD, hjl] using this
    obtain ⟨x, hx⟩ : ∃ x, l.getD j default = x := ⟨_, rfl⟩
    rw [hx] at hln hhn htk hmem hbig
    have hat := hat x hx
    simp only [id] at hln hhn
    obtain ⟨O, hO⟩ : ∃ O, lo id (l.take j) s ++ (if p then [s] else []) ++ hi id (l.take j) s = O := ⟨_, rfl⟩
    have hOl : O.length ≤ 2100 := by
      rw [← hO]
      have a1 : (lo id (l.take j) s).length ≤ j := by refine Nat.le_trans (List.length_filter_le _ _) ?_; rw [List.length_take]; omega
      have a2 : (hi id (l.take j) s).length ≤ j := by refine Nat.le_trans (List.length_filter_le _ _) ?_; rw [List.length_take]; omega
      have a3 : (if p = true then [s] else [] : List Str).length ≤ 1 := by split <;> simp
      simp only [List.length_append]
      omega
    simp only [hO]
    by_cases hxs : x = s
    · have hcm : scmp .eql x s = some true := by simp [scmp, hxs]
      have hw := with_has hu (hxs ▸ hmem)
      rw [hw] at hB
      focus (refine S_seq rfl ?_; refine S_seq rfl ?_; refine S_region rfl rfl ?_; refine R_p rfl ?_ rfl rfl; refine R_p rfl ?_ rfl rfl; refine R_p rfl ?_ rfl rfl; refine R_take (T_decT rfl (by omega)) ?_ rfl rfl; refine R_nil ?_; refine S_true rfl rfl ?_; refine S_skip rfl ?_; refine S_seq rfl ?_; refine S_block rfl ?_; refine S_seq rfl ?_; refine S_seq rfl ?_; refine S_region rfl rfl ?_; refine R_p rfl ?_ rfl rfl; refine R_p rfl ?_ rfl rfl; refine R_take (T_ixN rfl rfl rfl rfl rfl rfl hne hjl) ?_ rfl rfl; refine R_take (T_ldr rfl rfl rfl (Srd.row (n := l.length) (c := c)) (by omega) hat) ?_ rfl rfl; refine R_p rfl ?_ rfl rfl; refine R_take (T_scm (a := x) (b := s) rfl rfl hcm) ?_ rfl rfl; refine R_nil ?_; refine S_true rfl rfl ?_; refine S_seq rfl ?_; refine S_region rfl rfl ?_; refine R_p rfl ?_ rfl rfl; refine R_p rfl ?_ rfl rfl; refine R_nil ?_)
      exact hB _ _ _ _ _ rfl rfl fun w' hS => ⟨(A, c), rfl, trivial, sub_st _ hS⟩
    have hcm : scmp .eql x s = some false := by simp [scmp, hxs]
    have hno2 : s ∉ l.take (j + 1) := by
      rw [htk]
      intro h
      rcases List.mem_append.1 h with h | h
      · exact hno h
      · exact hxs (List.mem_singleton.1 h).symm
    cases p
    · have hh0 := hpf rfl
      rw [hh0] at hO hhn
      simp only [Bool.false_eq_true, if_false, List.append_nil] at hO
      by_cases hlt : s < x
      · have hc2 : scmp .lss s x = some true := congrArg some (less_T hlt)
        rw [if_neg (sl_as hlt), List.append_nil] at hln
        rw [if_pos hlt] at hhn
        have hE : lo id (l.take (j + 1)) s ++ (if true = true then [s] else []) ++ hi id (l.take (j + 1)) s = O ++ [s] ++ [x] := by rw [hln, hhn, if_pos rfl, hO, List.nil_append]
        focus (refine S_seq rfl ?_; refine S_seq rfl ?_; refine S_region rfl rfl ?_; refine R_p rfl ?_ rfl rfl; refine R_p rfl ?_ rfl rfl; refine R_p rfl ?_ rfl rfl; refine R_take (T_decT rfl (by omega)) ?_ rfl rfl; refine R_nil ?_; refine S_true rfl rfl ?_; refine S_skip rfl ?_; refine S_seq rfl ?_; refine S_block rfl ?_; refine S_seq rfl ?_; refine S_seq rfl ?_; refine S_region rfl rfl ?_; refine R_p rfl ?_ rfl rfl; refine R_p rfl ?_ rfl rfl; refine R_take (T_ixN rfl rfl rfl rfl rfl rfl hne hjl) ?_ rfl rfl; refine R_take (T_ldr rfl rfl rfl (Srd.row (n := l.length) (c := c)) (by omega) hat) ?_ rfl rfl; refine R_p rfl ?_ rfl rfl; refine R_take (T_scm (a := x) (b := s) rfl rfl hcm) ?_ rfl rfl; refine R_nil ?_; refine S_false rfl rfl ?_; refine S_skip rfl ?_; refine S_seq rfl ?_; refine S_seq rfl ?_; refine S_region rfl rfl ?_; refine R_p rfl ?_ rfl rfl; refine R_take (T_not rfl) ?_ rfl rfl; refine R_p rfl ?_ rfl rfl; refine R_p rfl ?_ rfl rfl; refine R_p rfl ?_ rfl rfl; refine R_p rfl ?_ rfl rfl; refine R_take (T_ixN rfl rfl rfl rfl rfl rfl hne hjl) ?_ rfl rfl; refine R_take (T_ldr rfl rfl rfl (Srd.row (n := l.length) (c := c)) (by omega) hat) ?_ rfl rfl; refine R_take (T_scm (a := s) (b := x) rfl rfl hc2) ?_ rfl rfl; refine R_p rfl ?_ rfl rfl; refine R_nil ?_; refine S_true rfl rfl ?_; refine S_seq rfl ?_; refine S_region rfl rfl ?_; refine R_p rfl ?_ rfl rfl; refine R_p rfl ?_ rfl rfl; (refine R_eff (E_lit1 (m := 1) (vs := [sv s]) rfl rfl rfl rfl rfl rfl rfl (by simp [sv, Value.oneCell']) (by decide)) ?_ rfl rfl; rintro _ _ ⟨bs, rfl, rfl⟩); (refine R_eff (E_app1 (m := O.length) (c := c5) rfl rfl rfl rfl rfl rfl rfl (Srd.pt (ds := [sv s]) rfl (fun j u hj => by rw [Nat.zero_add]; exact hj)) (by simp [sv, Value.oneCell']) (by show _ * 16 ≤ _; omega) (by unfold maxLen; omega)) ?_ rfl rfl; rintro _ _ ⟨A7, c7, rfl, rfl⟩); refine R_p rfl ?_ rfl rfl; refine R_nil ?_; refine S_region rfl rfl ?_; refine R_p rfl ?_ rfl rfl; refine R_nil ?_; refine S_region rfl rfl ?_; refine R_p rfl ?_ rfl rfl; refine R_p rfl ?_ rfl rfl; refine R_p rfl ?_ rfl rfl; refine R_take (T_ixN rfl rfl rfl rfl rfl rfl hne hjl) ?_ rfl rfl; refine R_take (T_ldr rfl rfl rfl (Srd.row (n := l.length) (c := c)) (by omega) hat) ?_ rfl rfl; (refine R_eff (E_lit1 (m := 1) (vs := [sv x]) rfl rfl rfl rfl rfl rfl rfl (by simp [sv, Value.oneCell']) (by decide)) ?_ rfl rfl; rintro _ _ ⟨bx, rfl, rfl⟩); (refine R_eff (E_app1 (m := O.length + 1) (c := c7) rfl rfl rfl rfl rfl rfl rfl (Srd.pt (ds := [sv x]) rfl (fun j u hj => by rw [Nat.zero_add]; exact hj)) (by simp [sv, Value.oneCell']) (by show _ * 16 ≤ _; omega) (by unfold maxLen; omega)) ?_ rfl rfl; rintro _ _ ⟨A8, c8, rfl, rfl⟩); refine R_p rfl ?_ rfl rfl; refine R_nil ?_; refine RS_blk ?_; refine S_region rfl rfl ?_; refine R_p rfl ?_ rfl rfl; refine R_take (T_addN rfl rfl (by unfold fits; omega)) ?_ rfl rfl; refine R_p rfl ?_ rfl rfl; refine R_nil ?_)
        have e1 : (O ++ [s] ++ [x]).length = O.length + 1 + 1 := by simp
        refine hJ (j + 1, true, A8, c8) _ _ ⟨by show j + 1 ≤ _; omega, hno2, fun h => (by cases h), fun _ => ⟨x, by show x ∈ l.take (j + 1); rw [htk]; simp, hlt⟩⟩ ?_ (fun w' hS => ?_) (by show l.length - (j + 1) < _; omega)
        · dsimp only
          rw [hE, e1]
          exact (Sub.cons rfl (Sub.cons rfl (Sub.cons rfl (Sub.cons rfl (Sub.cons rfl Sub.nil)))))
        · dsimp only
          rw [hE, e1, List.map_append, List.map_append, List.map_cons, List.map_nil, List.map_cons, List.map_nil]
          exact sub_st w' hS
      · have hlt2 : x < s := (sl_tri x s).elim id (fun h => h.elim (fun h => absurd h hxs) (fun h => absurd h hlt))
        have hc2 : scmp .lss s x = some false := congrArg some (less_F hlt)
        rw [if_pos hlt2] at hln
        rw [if_neg hlt, List.append_nil] at hhn
        have hE : lo id (l.take (j + 1)) s ++ (if false = true then [s] else []) ++ hi id (l.take (j + 1)) s = O ++ [x] := by rw [hln, hhn, hO]; simp
        focus (refine S_seq rfl ?_; refine S_seq rfl ?_; refine S_region rfl rfl ?_; refine R_p rfl ?_ rfl rfl; refine R_p rfl ?_ rfl rfl; refine R_p rfl ?_ rfl rfl; refine R_take (T_decT rfl (by omega)) ?_ rfl rfl; refine R_nil ?_; refine S_true rfl rfl ?_; refine S_skip rfl ?_; refine S_seq rfl ?_; refine S_block rfl ?_; refine S_seq rfl ?_; refine S_seq rfl ?_; refine S_region rfl rfl ?_; refine R_p rfl ?_ rfl rfl; refine R_p rfl ?_ rfl rfl; refine R_take (T_ixN rfl rfl rfl rfl rfl rfl hne hjl) ?_ rfl rfl; refine R_take (T_ldr rfl rfl rfl (Srd.row (n := l.length) (c := c)) (by omega) hat) ?_ rfl rfl; refine R_p rfl ?_ rfl rfl; refine R_take (T_scm (a := x) (b := s) rfl rfl hcm) ?_ rfl rfl; refine R_nil ?_; refine S_false rfl rfl ?_; refine S_skip rfl ?_; refine S_seq rfl ?_; refine S_seq rfl ?_; refine S_region rfl rfl ?_; refine R_p rfl ?_ rfl rfl; refine R_take (T_not rfl) ?_ rfl rfl; refine R_p rfl ?_ rfl rfl; refine R_p rfl ?_ rfl rfl; refine R_p rfl ?_ rfl rfl; refine R_p rfl ?_ rfl rfl; refine R_take (T_ixN rfl rfl rfl rfl rfl rfl hne hjl) ?_ rfl rfl; refine R_take (T_ldr rfl rfl rfl (Srd.row (n := l.length) (c := c)) (by omega) hat) ?_ rfl rfl; refine R_take (T_scm (a := s) (b := x) rfl rfl hc2) ?_ rfl rfl; refine R_p rfl ?_ rfl rfl; refine R_nil ?_; refine S_false rfl rfl ?_; refine S_skip rfl ?_; refine S_region rfl rfl ?_; refine R_p rfl ?_ rfl rfl; refine R_p rfl ?_ rfl rfl; refine R_p rfl ?_ rfl rfl; refine R_take (T_ixN rfl rfl rfl rfl rfl rfl hne hjl) ?_ rfl rfl; refine R_take (T_ldr rfl rfl rfl (Srd.row (n := l.length) (c := c)) (by omega) hat) ?_ rfl rfl; (refine R_eff (E_lit1 (m := 1) (vs := [sv x]) rfl rfl rfl rfl rfl rfl rfl (by simp [sv, Value.oneCell']) (by decide)) ?_ rfl rfl; rintro _ _ ⟨bx, rfl, rfl⟩); (refine R_eff (E_app1 (m := O.length) (c := c5) rfl rfl rfl rfl rfl rfl rfl (Srd.pt (ds := [sv x]) rfl (fun j u hj => by rw [Nat.zero_add]; exact hj)) (by simp [sv, Value.oneCell']) (by show _ * 16 ≤ _; omega) (by unfold maxLen; omega)) ?_ rfl rfl; rintro _ _ ⟨A8, c8, rfl, rfl⟩); refine R_p rfl ?_ rfl rfl; refine R_nil ?_; refine RS_blk ?_; refine S_region rfl rfl ?_; refine R_p rfl ?_ rfl rfl; refine R_take (T_addN rfl rfl (by unfold fits; omega)) ?_ rfl rfl; refine R_p rfl ?_ rfl rfl; refine R_nil ?_)
        have e1 : (O ++ [x]).length = O.length + 1 := by simp
        refine hJ (j + 1, false, A8, c8) _ _ ⟨by show j + 1 ≤ _; omega, hno2, fun _ => hhn, fun h => by cases h⟩ ?_ (fun w' hS => ?_) (by show l.length - (j + 1) < _; omega)
        · dsimp only
          rw [hE, e1]
          exact (Sub.cons rfl (Sub.cons rfl (Sub.cons rfl (Sub.cons rfl (Sub.cons rfl Sub.nil)))))
        · dsimp only
          rw [hE, e1, List.map_append, List.map_cons, List.map_nil]
          exact sub_st w' hS
    · obtain ⟨y, hy, hsy⟩ := hpt rfl
      have hlt : s < x := sl_tr hsy (hbig y hy)
      rw [if_neg (sl_as hlt), List.append_nil] at hln
      rw [if_pos hlt] at hhn
      have hE : lo id (l.take (j + 1)) s ++ (if true = true then [s] else []) ++ hi id (l.take (j + 1)) s = O ++ [x] := by rw [hln, hhn, ← hO]; simp
      focus (refine S_seq rfl ?_; refine S_seq rfl ?_; refine S_region rfl rfl ?_; refine R_p rfl ?_ rfl rfl; refine R_p rfl ?_ rfl rfl; refine R_p rfl ?_ rfl rfl; refine R_take (T_decT rfl (by omega)) ?_ rfl rfl; refine R_nil ?_; refine S_true rfl rfl ?_; refine S_skip rfl ?_; refine S_seq rfl ?_; refine S_block rfl ?_; refine S_seq rfl ?_; refine S_seq rfl ?_; refine S_region rfl rfl ?_; refine R_p rfl ?_ rfl rfl; refine R_p rfl ?_ rfl rfl; refine R_take (T_ixN rfl rfl rfl rfl rfl rfl hne hjl) ?_ rfl rfl; refine R_take (T_ldr rfl rfl rfl (Srd.row (n := l.length) (c := c)) (by omega) hat) ?_ rfl rfl; refine R_p rfl ?_ rfl rfl; refine R_take (T_scm (a := x) (b := s) rfl rfl hcm) ?_ rfl rfl; refine R_nil ?_; refine S_false rfl rfl ?_; refine S_skip rfl ?_; refine S_seq rfl ?_; refine S_seq rfl ?_; refine S_region rfl rfl ?_; refine R_p rfl ?_ rfl rfl; refine R_take (T_not rfl) ?_ rfl rfl; refine R_p rfl ?_ rfl rfl; refine R_skip ?_ rfl rfl; refine R_skip ?_ rfl rfl; refine R_skip ?_ rfl rfl; refine R_skip ?_ rfl rfl; refine R_skip ?_ rfl rfl; refine R_skip ?_ rfl rfl; refine R_p rfl ?_ rfl rfl; refine R_nil ?_; refine S_false rfl rfl ?_; refine S_skip rfl ?_; refine S_region rfl rfl ?_; refine R_p rfl ?_ rfl rfl; refine R_p rfl ?_ rfl rfl; refine R_p rfl ?_ rfl rfl; refine R_take (T_ixN rfl rfl rfl rfl rfl rfl hne hjl) ?_ rfl rfl; refine R_take (T_ldr rfl rfl rfl (Srd.row (n := l.length) (c := c)) (by omega) hat) ?_ rfl rfl; (refine R_eff (E_lit1 (m := 1) (vs := [sv x]) rfl rfl rfl rfl rfl rfl rfl (by simp [sv, Value.oneCell']) (by decide)) ?_ rfl rfl; rintro _ _ ⟨bx, rfl, rfl⟩); (refine R_eff (E_app1 (m := O.length) (c := c5) rfl rfl rfl rfl rfl rfl rfl (Srd.pt (ds := [sv x]) rfl (fun j u hj => by rw [Nat.zero_add]; exact hj)) (by simp [sv, Value.oneCell']) (by show _ * 16 ≤ _; omega) (by unfold maxLen; omega)) ?_ rfl rfl; rintro _ _ ⟨A8, c8, rfl, rfl⟩); refine R_p rfl ?_ rfl rfl; refine R_nil ?_; refine RS_blk ?_; refine S_region rfl rfl ?_; refine R_p rfl ?_ rfl rfl; refine R_take (T_addN rfl rfl (by unfold fits; omega)) ?_ rfl rfl; refine R_p rfl ?_ rfl rfl; refine R_nil ?_)
      have e1 : (O ++ [x]).length = O.length + 1 := by simp
      refine hJ (j + 1, true, A8, c8) _ _ ⟨by show j + 1 ≤ _; omega, hno2, fun h => (by cases h), fun _ => ⟨x, by show x ∈ l.take (j + 1); rw [htk]; simp, hlt⟩⟩ ?_ (fun w' hS => ?_) (by show l.length - (j + 1) < _; omega)
      · dsimp only
        rw [hE, e1]
        exact (Sub.cons rfl (Sub.cons rfl (Sub.cons rfl (Sub.cons rfl (Sub.cons rfl Sub.nil)))))
      · dsimp only
        rw [hE, e1, List.map_append, List.map_cons, List.map_nil]
        exact sub_st w' hS
  have hjn : j = l.length := by omega
  subst hjn
  rw [List.take_length] at hno hpf hpt ⊢
  cases p
  · have hh0 := hpf rfl
    have hW : withS l s = lo id l s ++ [s] := by rw [withS, hh0, List.append_nil]
    simp only [hh0, Bool.false_eq_true, if_false, List.append_nil]
    obtain ⟨O, hO⟩ : ∃ O, lo id l s = O := ⟨_, rfl⟩
    have hOl : O.length ≤ 1000 := by rw [← hO]; exact Nat.le_trans (List.length_filter_le _ _) hn
    rw [hO] at hW ⊢
    have e1 : (O ++ [s]).length = O.length + 1 := by simp
    rw [hW, e1, List.map_append, List.map_cons, List.map_nil] at hB
    focus (refine S_seq rfl ?_; refine S_seq rfl ?_; refine S_region rfl rfl ?_; refine R_p rfl ?_ rfl rfl; refine R_p rfl ?_ rfl rfl; refine R_p rfl ?_ rfl rfl; refine R_take (T_decF rfl (by omega)) ?_ rfl rfl; refine R_nil ?_; refine S_false rfl rfl ?_; refine S_exit rfl rfl ?_; refine S_seq rfl ?_; refine S_seq rfl ?_; refine S_region rfl rfl ?_; refine R_p rfl ?_ rfl rfl; refine R_take (T_not rfl) ?_ rfl rfl; refine R_nil ?_; refine S_true rfl rfl ?_; refine S_region rfl rfl ?_; refine R_p rfl ?_ rfl rfl; refine R_p rfl ?_ rfl rfl; (refine R_eff (E_lit1 (m := 1) (vs := [sv s]) rfl rfl rfl rfl rfl rfl rfl (by simp [sv, Value.oneCell']) (by decide)) ?_ rfl rfl; rintro _ _ ⟨bs, rfl, rfl⟩); (refine R_eff (E_app1 (m := O.length) (c := c5) rfl rfl rfl rfl rfl rfl rfl (Srd.pt (ds := [sv s]) rfl (fun j u hj => by rw [Nat.zero_add]; exact hj)) (by simp [sv, Value.oneCell']) (by show _ * 16 ≤ _; omega) (by unfold maxLen; omega)) ?_ rfl rfl; rintro _ _ ⟨A7, c7, rfl, rfl⟩); refine R_p rfl ?_ rfl rfl; refine R_nil ?_; refine S_seq rfl ?_; refine S_region rfl rfl ?_; refine R_p rfl ?_ rfl rfl; refine R_p rfl ?_ rfl rfl; refine R_nil ?_)
    exact hB _ _ _ _ _ rfl rfl fun w' hS => ⟨(A7, c7), rfl, trivial, sub_st _ hS⟩
  · simp only [if_true, show lo id l s ++ [s] ++ hi id l s = withS l s from rfl]
    focus (refine S_seq rfl ?_; refine S_seq rfl ?_; refine S_region rfl rfl ?_; refine R_p rfl ?_ rfl rfl; refine R_p rfl ?_ rfl rfl; refine R_p rfl ?_ rfl rfl; refine R_take (T_decF rfl (by omega)) ?_ rfl rfl; refine R_nil ?_; refine S_false rfl rfl ?_; refine S_exit rfl rfl ?_; refine S_seq rfl ?_; refine S_seq rfl ?_; refine S_region rfl rfl ?_; refine R_p rfl ?_ rfl rfl; refine R_take (T_not rfl) ?_ rfl rfl; refine R_nil ?_; refine S_false rfl rfl ?_; refine S_skip rfl ?_; refine S_seq rfl ?_; refine S_region rfl rfl ?_; refine R_p rfl ?_ rfl rfl; refine R_p rfl ?_ rfl rfl; refine R_nil ?_)
    exact hB _ _ _ _ _ rfl rfl fun w' hS => ⟨(A5, c5), rfl, trivial, sub_st _ hS⟩
end Go.Proofs.Ytebbnbddlnpldaa
