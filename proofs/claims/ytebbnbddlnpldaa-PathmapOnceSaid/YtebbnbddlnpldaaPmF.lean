/- The document: Paths, Get, Said. -/
import Derived.Test.YtebbnbddlnpldaaPmE
namespace Go.Proofs.Ytebbnbddlnpldaa
open Go.RowKit
open Asn (pt row rb)
set_option linter.unusedVariables false
set_option linter.unusedSimpArgs false
--@use N

def pathsS (l : List Str) (ps : List Str) : List Str := ps.foldl withS l
theorem paths_srt {l : List Str} (h : Srt id l) (ps : List Str) : Srt id (pathsS l ps) := by
  induction ps generalizing l with
  | nil => exact h
  | cons p ps ih => exact ih (with_srt h p)
theorem paths_len (l ps : List Str) : (pathsS l ps).length ≤ l.length + ps.length := by
  induction ps generalizing l with
  | nil => simp [pathsS]
  | cons p ps ih =>
    have := ih (withS l p)
    have := with_len l p
    simp only [pathsS, List.foldl_cons, List.length_cons] at *
    omega
theorem paths_mem (ps : List Str) : ∀ (l : List Str) (x : Str), x ∈ pathsS l ps ↔ x ∈ l ∨ x ∈ ps := by
  induction ps with
  | nil => intro l x; simp [pathsS]
  | cons p ps ih =>
    intro l x
    have := ih (withS l p) x
    simp only [pathsS, List.foldl_cons] at this ⊢
    rw [this, with_mem, List.mem_cons]
    constructor
    · rintro ((a | a) | a)
      · exact .inl a
      · exact .inr (.inl a)
      · exact .inr (.inr a)
    · rintro (a | a | a)
      · exact .inl (.inl a)
      · exact .inl (.inr a)
      · exact .inr a
theorem paths_next (l ps : List Str) (j : Nat) (hj : j < ps.length) : pathsS l (ps.take (j + 1)) = withS (pathsS l (ps.take j)) (ps.getD j []) := by
  rw [pathsS, List.take_succ_eq_append_getElem hj, List.foldl_append]
  simp [pathsS, List.getD, hj]
/-- the first with a key -/
def fstK {α : Type} (k : α → Str) (L : List α) (p : Str) : Option α := L.find? (fun x => decide (k x = p))
theorem fst_hit {α : Type} [Inhabited α] {k : α → Str} {L : List α} {p : Str} {j : Nat} (hj : j < L.length) (h : ∀ x ∈ L.take j, k x ≠ p) (hx : k (L.getD j default) = p) : fstK k L p = some (L.getD j default) := by
  have e : L.getD j default = L[j] := by simp [List.getD, hj]
  rw [e] at hx ⊢
  conv => lhs; rw [fstK, ← List.take_append_drop j L, List.drop_eq_getElem_cons hj]
  rw [List.find?_append, List.find?_eq_none.2 (fun x hx => by simpa using h x hx)]
  rw [Option.none_or, List.find?_cons_of_pos (by simpa using hx)]
theorem fst_none {α : Type} {k : α → Str} {L : List α} {p : Str} (h : ∀ x ∈ L, k x ≠ p) : fstK k L p = none := List.find?_eq_none.2 (fun x hx => by simpa using h x hx)
theorem fst_mem {α : Type} {k : α → Str} {L : List α} {p : Str} (hs : Srt k L) {x : α} : fstK k L p = some x ↔ x ∈ L ∧ k x = p := by
  constructor
  · intro h
    exact ⟨List.mem_of_find?_eq_some h, by simpa using List.find?_some h⟩
  · rintro ⟨h1, h2⟩
    cases h3 : fstK k L p with
    | none =>
      have := List.find?_eq_none.1 h3 x h1
      simp [h2] at this
    | some y =>
      have a1 := List.mem_of_find?_eq_some h3
      have a2 : k y = p := by simpa using List.find?_some h3
      rw [srt_key hs h1 a1 (h2.trans a2.symm)]
theorem take_ne {α : Type} [Inhabited α] {k : α → Str} {L : List α} {p : Str} {j : Nat} (hj : j < L.length) (h : ∀ x ∈ L.take j, k x ≠ p) (hx : k (L.getD j default) ≠ p) : ∀ x ∈ L.take (j + 1), k x ≠ p := by
  intro x hx'
  rw [List.take_succ_eq_append_getElem hj] at hx'
  rcases List.mem_append.1 hx' with h1 | h1
  · exact h x h1
  · rw [List.mem_singleton.1 h1]
    simpa [List.getD, hj] using hx
/-- what was there lies apart from one's own -/
theorem rd_apart {w0 w : World} {M : Nat → Prop} {sz n : Nat} {A : Option Addr} {xs : List Value} {A1 : Asn} {Hr : List Asn} (h : Rd w0 All sz A n xs) (hz : 0 < sz) (hM : ∀ k, ¬ M k) (hS : St w0 M (A1 :: Hr) w) : Rd w (fun k => ¬ owns [A1] k) sz A n xs :=
  ⟨h.1, fun hn => by
    obtain ⟨ad, e, _, hc⟩ := h.2 hn
    have hl : 0 < xs.length := by rw [h.1]; exact Nat.mul_pos hn hz
    have hb := World.block_lt_of_cell? w0 _ (hc 0 xs[0] (List.getElem?_eq_getElem hl))
    rw [block_of_add] at hb
    refine ⟨ad, e, fun ho => ?_, fun j u hu => hS.kp.cell (by rw [block_of_add]; exact hM _) (hc j u hu)⟩
    have : A1.own ad.block := by simpa [owns] using ho
    rcases ((hS.all A1 (by simp)).2 _ this).1 with h1 | h1
    · exact hM _ h1
    · omega⟩
def getV : Option Rw → Value
  | some x => .tuple #[sv x.2, .bool true]
  | none => .tuple #[sv [], .bool false]
def saidV : Option Ch → Value
  | some x => .tuple #[.bool true, .bool x.2.1, sv x.2.2]
  | none => .tuple #[.bool false, .bool false, sv []]
set_option maxRecDepth 100000 in
set_option maxHeartbeats 4000000 in
theorem rpaths_any (w : World) (A A2 : Option Addr) (n c n2 c2 : Nat) (l : List Str) (L : List Rw) (hu : Srt id l) (h : Rd w (fun k => ¬ owns [row 9 1 A n c (l.map sv)] k) 2 A2 n2 (cellsL rwc L)) (hn : n + n2 ≤ 900)
    (hS : St w (owns [row 9 1 A n c (l.map sv)]) [row 9 1 A n c (l.map sv)] w) :
    Gives Try.prog 28 [.slice A n c, .agg #[.slice A2 n2 c2]] [row 9 1 A n c (l.map sv)] w (X := Option Addr × Nat) (fun x => .slice x.1 (pathsS l (L.map (·.1))).length x.2) (fun _ => True) (fun x => [row 9 1 x.1 (pathsS l (L.map (·.1))).length x.2 ((pathsS l (L.map (·.1))).map sv)]) := by
  refine gives_S Try.func28 rfl Try.ntmps28 Try.results28 (by simp) hS (fun B hB => ?_)
  refine RS_row A n c fun hnc hcm _ hxl => ?_
  have hl : l.length = n := by simpa using hxl
  subst hl
  have hl : L.length = n2 := by have := h.1; rw [cellsL_len rwc_len] at this; omega
  subst hl
  have hne : 0 < L.length → A2 ≠ none := fun h0 => by obtain ⟨ad, rfl, _⟩ := h.2 (by omega); simp
  focus (refine S_seq rfl ?_; refine S_region rfl rfl ?_; (refine R_eff (E_boxa (cs := [.slice A2 L.length c2]) rfl) ?_ rfl rfl; rintro _ _ ⟨b3, rfl, rfl⟩); refine R_p rfl ?_ rfl rfl; refine R_nil ?_; refine S_seq rfl ?_; refine S_seq rfl ?_; refine S_region rfl rfl ?_; refine R_p rfl ?_ rfl rfl; refine R_nil ?_; refine S_block rfl ?_)
  refine S_loop (X := Nat × Option Addr × Nat) (fun x => [(0, .slice x.2.1 (pathsS l ((L.map (·.1)).take x.1)).length x.2.2), (3, .pointer (some ⟨b3, 0, none⟩)), (5, .int .i64 (x.1 : Int))]) (fun x => [row 9 1 x.2.1 (pathsS l ((L.map (·.1)).take x.1)).length x.2.2 ((pathsS l ((L.map (·.1)).take x.1)).map sv), pt b3 24 [.slice A2 L.length c2]]) (fun x => x.1 ≤ L.length) (fun x => L.length - x.1) rfl (0, A, c) (Nat.zero_le _) (Sub.cons rfl (Sub.cons rfl (Sub.cons rfl Sub.nil))) (fun w hS => sub_st (H' := [row 9 1 A l.length c (l.map sv), pt b3 24 [.slice A2 L.length c2]]) w hS) ?_
  rintro ⟨j, A6, c6⟩ hj J hJ
  dsimp only at hj ⊢
  have hRs := paths_srt hu ((L.map (·.1)).take j)
  have hRl := paths_len l ((L.map (·.1)).take j)
  have hnx := paths_next l (L.map (·.1)) j
  rw [List.length_take] at hRl
  have hend : j = L.length → pathsS l (L.map (·.1)) = pathsS l ((L.map (·.1)).take j) := fun e => by rw [e, List.take_of_length_le (by simp)]
  obtain ⟨R, hR⟩ : ∃ R, pathsS l ((L.map (·.1)).take j) = R := ⟨_, rfl⟩
  rw [hR] at hRs hRl hnx hend ⊢
  rcases Nat.lt_or_ge j L.length with hjl | hjl
  · have hne := hne (by omega)
    have hnx := hnx (by simpa using hjl)
    rw [map_getD L j hjl] at hnx
    have hat := fun e v => cellsL_at (f := rwc) rwc_len L default j hjl e v
    obtain ⟨⟨s, t⟩, hx⟩ : ∃ x, L.getD j default = x := ⟨_, rfl⟩
    rw [hx] at hat hnx
    have hat : (cellsL rwc L)[j * 2 + 0]? = some (sv s) := hat 0 _ rfl
    focus (refine S_seq rfl ?_; refine S_seq rfl ?_; refine S_region rfl rfl ?_; refine R_p rfl ?_ rfl rfl; refine R_p rfl ?_ rfl rfl; refine R_take (T_load rfl rfl rfl (by first | rfl | assumption)) ?_ rfl rfl; refine R_p rfl ?_ rfl rfl; refine R_take (T_decT rfl (by omega)) ?_ rfl rfl; refine R_nil ?_; refine S_true rfl rfl ?_; refine S_skip rfl ?_; refine S_seq rfl ?_; refine S_block rfl ?_; refine S_region rfl rfl ?_; refine R_p rfl ?_ rfl rfl; refine R_p rfl ?_ rfl rfl; refine R_take (T_load rfl rfl rfl (by first | rfl | assumption)) ?_ rfl rfl; refine R_p rfl ?_ rfl rfl; refine R_take (T_ixM (sz := 2) rfl rfl rfl rfl rfl rfl hne hjl) ?_ rfl rfl; refine R_take (T_fap rfl rfl rfl rfl rfl hne) ?_ rfl rfl; refine R_take (T_ldr rfl rfl rfl (Srd.old h (fun k hk => hk)) (by omega) hat) ?_ rfl rfl; (refine R_eff (E_gt1 (A1 := row 9 1 A6 R.length c6 (R.map sv)) (f := 36) ⟨_, Try.func36, rfl, by kernel_rfl⟩ rfl (fun w hS hS2 => with_any w A6 R.length c6 R s hRs (by omega) hS2) (fun _ => rfl)) ?_ rfl rfl; rintro _ _ ⟨⟨A7, c7⟩, rfl, _, rfl⟩); refine R_p rfl ?_ rfl rfl; refine R_nil ?_; refine RS_blk ?_; refine S_region rfl rfl ?_; refine R_p rfl ?_ rfl rfl; refine R_take (T_addN rfl rfl (by unfold fits; omega)) ?_ rfl rfl; refine R_p rfl ?_ rfl rfl; refine R_nil ?_)
    refine hJ (j + 1, A7, c7) _ _ (by show j + 1 ≤ _; omega) ?_ (fun w' hS => ?_) (by show L.length - (j + 1) < _; omega)
    · dsimp only
      rw [hnx]
      exact (Sub.cons rfl (Sub.cons rfl (Sub.cons rfl Sub.nil)))
    · dsimp only
      rw [hnx]
      exact sub_st w' hS
  have hend := hend (by omega)
  rw [hend] at hB
  focus (refine S_seq rfl ?_; refine S_seq rfl ?_; refine S_region rfl rfl ?_; refine R_p rfl ?_ rfl rfl; refine R_p rfl ?_ rfl rfl; refine R_take (T_load rfl rfl rfl (by first | rfl | assumption)) ?_ rfl rfl; refine R_p rfl ?_ rfl rfl; refine R_take (T_decF rfl (by omega)) ?_ rfl rfl; refine R_nil ?_; refine S_false rfl rfl ?_; refine S_exit rfl rfl ?_; refine S_seq rfl ?_; refine S_region rfl rfl ?_; refine R_p rfl ?_ rfl rfl; refine R_p rfl ?_ rfl rfl; refine R_nil ?_)
  exact hB _ _ _ _ _ rfl rfl fun w' hS => ⟨(A6, c6), rfl, trivial, sub_st _ hS⟩
set_option maxRecDepth 100000 in
set_option maxHeartbeats 4000000 in
theorem rget_any (w : World) (A : Option Addr) (n c : Nat) (L : List Rw) (p : Str) (h : Rd w All 2 A n (cellsL rwc L)) (hn : n ≤ 100000) :
    Gives Try.prog 26 [.agg #[.slice A n c], sv p] [] w (X := Unit) (fun _ => getV (fstK (·.1) L p)) (fun _ => True) (fun _ => []) := by
  refine gives_S Try.func26 rfl Try.ntmps26 Try.results26 (by simp) (St.enter w) (fun B hB => ?_)
  have hl : L.length = n := by have := h.1; rw [cellsL_len rwc_len] at this; omega
  have hne : 0 < n → A ≠ none := fun h0 => by obtain ⟨ad, rfl, _⟩ := h.2 (by omega); simp
  subst hl
  focus (refine S_seq rfl ?_; refine S_region rfl rfl ?_; (refine R_eff (E_boxa (cs := [.slice A L.length c]) rfl) ?_ rfl rfl; rintro _ _ ⟨b2, rfl, rfl⟩); refine R_p rfl ?_ rfl rfl; refine R_p rfl ?_ rfl rfl; refine R_nil ?_; refine S_seq rfl ?_; refine S_seq rfl ?_; refine S_region rfl rfl ?_; refine R_p rfl ?_ rfl rfl; refine R_nil ?_; refine S_block rfl ?_)
  refine S_loop (X := Nat) (fun j => [(1, sv p), (2, .pointer (some ⟨b2, 0, none⟩)), (6, .int .i64 (j : Int))]) (fun _ => [pt b2 24 [.slice A L.length c]]) (fun j => j ≤ L.length ∧ ∀ x ∈ L.take j, x.1 ≠ p) (fun j => L.length - j) rfl 0 ⟨Nat.zero_le _, by simp⟩ (Sub.cons rfl (Sub.cons rfl (Sub.cons rfl Sub.nil))) sub_st ?_
  rintro j ⟨hj, hno⟩ J hJ
  rcases Nat.lt_or_ge j L.length with hjl | hjl
  · have hne := hne (by omega)
    have hat := fun e v => cellsL_at (f := rwc) rwc_len L default j hjl e v
    have hhit := fst_hit (k := (·.1)) (p := p) hjl hno
    have hmis := take_ne (k := (·.1)) (p := p) hjl hno
    obtain ⟨⟨s, t⟩, hx⟩ : ∃ x, L.getD j default = x := ⟨_, rfl⟩
    rw [hx] at hat hhit hmis
    have hat0 : (cellsL rwc L)[j * 2 + 0]? = some (sv s) := hat 0 _ rfl
    have hat1 : (cellsL rwc L)[j * 2 + 1]? = some (sv t) := hat 1 _ rfl
    by_cases hsp : s = p
    · have hcm : scmp .eql s p = some true := by simp [scmp, hsp]
      rw [hhit hsp] at hB
      focus (refine S_seq rfl ?_; refine S_seq rfl ?_; refine S_region rfl rfl ?_; refine R_p rfl ?_ rfl rfl; refine R_p rfl ?_ rfl rfl; refine R_take (T_load rfl rfl rfl (by first | rfl | assumption)) ?_ rfl rfl; refine R_p rfl ?_ rfl rfl; refine R_take (T_decT rfl (by omega)) ?_ rfl rfl; refine R_nil ?_; refine S_true rfl rfl ?_; refine S_skip rfl ?_; refine S_seq rfl ?_; refine S_block rfl ?_; refine S_seq rfl ?_; refine S_region rfl rfl ?_; refine R_p rfl ?_ rfl rfl; refine R_take (T_load rfl rfl rfl (by first | rfl | assumption)) ?_ rfl rfl; refine R_p rfl ?_ rfl rfl; refine R_take (T_ixM (sz := 2) rfl rfl rfl rfl rfl rfl hne hjl) ?_ rfl rfl; refine R_take (T_fap rfl rfl rfl rfl rfl hne) ?_ rfl rfl; refine R_take (T_ldr rfl rfl rfl (Srd.old h (fun k _ => noOwns k)) (by omega) hat0) ?_ rfl rfl; refine R_p rfl ?_ rfl rfl; refine R_take (T_scm (a := s) (b := p) rfl rfl hcm) ?_ rfl rfl; refine R_nil ?_; refine S_true rfl rfl ?_; refine S_seq rfl ?_; refine S_region rfl rfl ?_; refine R_p rfl ?_ rfl rfl; refine R_take (T_load rfl rfl rfl (by first | rfl | assumption)) ?_ rfl rfl; refine R_p rfl ?_ rfl rfl; refine R_take (T_ixM (sz := 2) rfl rfl rfl rfl rfl rfl hne hjl) ?_ rfl rfl; refine R_take (T_fap rfl rfl rfl rfl rfl hne) ?_ rfl rfl; refine R_take (T_ldr rfl rfl rfl (Srd.old h (fun k _ => noOwns k)) (by omega) hat1) ?_ rfl rfl; refine R_p rfl ?_ rfl rfl; refine R_p rfl ?_ rfl rfl; refine R_nil ?_)
      exact hB _ _ _ _ _ rfl rfl fun w' hS => ⟨(), rfl, trivial, hS.sublist (List.nil_sublist _)⟩
    · have hcm : scmp .eql s p = some false := by simp [scmp, hsp]
      focus (refine S_seq rfl ?_; refine S_seq rfl ?_; refine S_region rfl rfl ?_; refine R_p rfl ?_ rfl rfl; refine R_p rfl ?_ rfl rfl; refine R_take (T_load rfl rfl rfl (by first | rfl | assumption)) ?_ rfl rfl; refine R_p rfl ?_ rfl rfl; refine R_take (T_decT rfl (by omega)) ?_ rfl rfl; refine R_nil ?_; refine S_true rfl rfl ?_; refine S_skip rfl ?_; refine S_seq rfl ?_; refine S_block rfl ?_; refine S_seq rfl ?_; refine S_region rfl rfl ?_; refine R_p rfl ?_ rfl rfl; refine R_take (T_load rfl rfl rfl (by first | rfl | assumption)) ?_ rfl rfl; refine R_p rfl ?_ rfl rfl; refine R_take (T_ixM (sz := 2) rfl rfl rfl rfl rfl rfl hne hjl) ?_ rfl rfl; refine R_take (T_fap rfl rfl rfl rfl rfl hne) ?_ rfl rfl; refine R_take (T_ldr rfl rfl rfl (Srd.old h (fun k _ => noOwns k)) (by omega) hat0) ?_ rfl rfl; refine R_p rfl ?_ rfl rfl; refine R_take (T_scm (a := s) (b := p) rfl rfl hcm) ?_ rfl rfl; refine R_nil ?_; refine S_false rfl rfl ?_; refine S_skip rfl ?_; refine RS_blk ?_; refine S_region rfl rfl ?_; refine R_p rfl ?_ rfl rfl; refine R_take (T_addN rfl rfl (by unfold fits; omega)) ?_ rfl rfl; refine R_p rfl ?_ rfl rfl; refine R_nil ?_)
      exact hJ (j + 1) _ _ ⟨by omega, hmis hsp⟩ (Sub.cons rfl (Sub.cons rfl (Sub.cons rfl Sub.nil))) sub_st (by omega)
  have hjn : j = L.length := by omega
  subst hjn
  rw [List.take_length] at hno
  rw [fst_none hno] at hB
  focus (refine S_seq rfl ?_; refine S_seq rfl ?_; refine S_region rfl rfl ?_; refine R_p rfl ?_ rfl rfl; refine R_p rfl ?_ rfl rfl; refine R_take (T_load rfl rfl rfl (by first | rfl | assumption)) ?_ rfl rfl; refine R_p rfl ?_ rfl rfl; refine R_take (T_decF rfl (by omega)) ?_ rfl rfl; refine R_nil ?_; refine S_false rfl rfl ?_; refine S_exit rfl rfl ?_; refine S_seq rfl ?_; refine S_region rfl rfl ?_; refine R_p rfl ?_ rfl rfl; refine R_p rfl ?_ rfl rfl; refine R_nil ?_)
  exact hB _ _ _ _ _ rfl rfl fun w' hS => ⟨(), rfl, trivial, hS.sublist (List.nil_sublist _)⟩
set_option maxRecDepth 100000 in
set_option maxHeartbeats 4000000 in
theorem said_any (w : World) (A : Option Addr) (n c : Nat) (L : List Ch) (p : Str) (h : Rd w All 3 A n (cellsL chc L)) (hn : n ≤ 100000) :
    Gives Try.prog 37 [.agg #[.slice A n c], sv p] [] w (X := Unit) (fun _ => saidV (fstK (·.1) L p)) (fun _ => True) (fun _ => []) := by
  refine gives_S Try.func37 rfl Try.ntmps37 Try.results37 (by simp) (St.enter w) (fun B hB => ?_)
  have hl : L.length = n := by have := h.1; rw [cellsL_len chc_len] at this; omega
  have hne : 0 < n → A ≠ none := fun h0 => by obtain ⟨ad, rfl, _⟩ := h.2 (by omega); simp
  subst hl
  focus (refine S_seq rfl ?_; refine S_region rfl rfl ?_; (refine R_eff (E_boxa (cs := [.slice A L.length c]) rfl) ?_ rfl rfl; rintro _ _ ⟨b2, rfl, rfl⟩); refine R_p rfl ?_ rfl rfl; refine R_p rfl ?_ rfl rfl; refine R_p rfl ?_ rfl rfl; refine R_nil ?_; refine S_seq rfl ?_; refine S_seq rfl ?_; refine S_region rfl rfl ?_; refine R_p rfl ?_ rfl rfl; refine R_nil ?_; refine S_block rfl ?_)
  refine S_loop (X := Nat) (fun j => [(1, sv p), (2, .pointer (some ⟨b2, 0, none⟩)), (7, .int .i64 (j : Int))]) (fun _ => [pt b2 27 [.slice A L.length c]]) (fun j => j ≤ L.length ∧ ∀ x ∈ L.take j, x.1 ≠ p) (fun j => L.length - j) rfl 0 ⟨Nat.zero_le _, by simp⟩ (Sub.cons rfl (Sub.cons rfl (Sub.cons rfl Sub.nil))) sub_st ?_
  rintro j ⟨hj, hno⟩ J hJ
  rcases Nat.lt_or_ge j L.length with hjl | hjl
  · have hne := hne (by omega)
    have hat := fun e v => cellsL_at (f := chc) chc_len L default j hjl e v
    have hhit := fst_hit (k := (·.1)) (p := p) hjl hno
    have hmis := take_ne (k := (·.1)) (p := p) hjl hno
    obtain ⟨⟨s, is, t⟩, hx⟩ : ∃ x, L.getD j default = x := ⟨_, rfl⟩
    rw [hx] at hat hhit hmis
    have hat0 : (cellsL chc L)[j * 3 + 0]? = some (sv s) := hat 0 _ rfl
    have hat1 : (cellsL chc L)[j * 3 + 1]? = some (.bool is) := hat 1 _ rfl
    have hat2 : (cellsL chc L)[j * 3 + 2]? = some (sv t) := hat 2 _ rfl
    by_cases hsp : s = p
    · have hcm : scmp .eql s p = some true := by simp [scmp, hsp]
      rw [hhit hsp] at hB
      focus (refine S_seq rfl ?_; refine S_seq rfl ?_; refine S_region rfl rfl ?_; refine R_p rfl ?_ rfl rfl; refine R_p rfl ?_ rfl rfl; refine R_take (T_load rfl rfl rfl (by first | rfl | assumption)) ?_ rfl rfl; refine R_p rfl ?_ rfl rfl; refine R_take (T_decT rfl (by omega)) ?_ rfl rfl; refine R_nil ?_; refine S_true rfl rfl ?_; refine S_skip rfl ?_; refine S_seq rfl ?_; refine S_block rfl ?_; refine S_seq rfl ?_; refine S_region rfl rfl ?_; refine R_p rfl ?_ rfl rfl; refine R_take (T_load rfl rfl rfl (by first | rfl | assumption)) ?_ rfl rfl; refine R_p rfl ?_ rfl rfl; refine R_take (T_ixM (sz := 3) rfl rfl rfl rfl rfl rfl hne hjl) ?_ rfl rfl; refine R_take (T_fap rfl rfl rfl rfl rfl hne) ?_ rfl rfl; refine R_take (T_ldr rfl rfl rfl (Srd.old h (fun k _ => noOwns k)) (by omega) hat0) ?_ rfl rfl; refine R_p rfl ?_ rfl rfl; refine R_take (T_scm (a := s) (b := p) rfl rfl hcm) ?_ rfl rfl; refine R_nil ?_; refine S_true rfl rfl ?_; refine S_seq rfl ?_; (refine S_draw _ (fun _ h => h) (by kernel_rfl) rfl (by kernel_rfl) (rfl : _ = 15) ?_; (refine D_take 0 rfl (pev_ok rfl) ?_ rfl rfl (by kernel_rfl) (by kernel_rfl)); (refine D_take 1 rfl (T_load rfl rfl rfl (by first | rfl | assumption)) ?_ rfl rfl (by kernel_rfl) (by kernel_rfl)); (refine D_take 2 rfl (pev_ok rfl) ?_ rfl rfl (by kernel_rfl) (by kernel_rfl)); (refine D_take 3 rfl (T_ixM (sz := 3) rfl rfl rfl rfl rfl rfl hne hjl) ?_ rfl rfl (by kernel_rfl) (by kernel_rfl)); (refine D_take 4 rfl (T_fap rfl rfl rfl rfl rfl hne) ?_ rfl rfl (by kernel_rfl) (by kernel_rfl)); (refine D_take 5 rfl (T_ldr rfl rfl rfl (Srd.old h (fun k _ => noOwns k)) (by omega) hat1) ?_ rfl rfl (by kernel_rfl) (by kernel_rfl)); (refine D_take 6 rfl (pev_ok rfl) ?_ rfl rfl (by kernel_rfl) (by kernel_rfl)); (refine D_take 7 rfl (T_load rfl rfl rfl (by first | rfl | assumption)) ?_ rfl rfl (by kernel_rfl) (by kernel_rfl)); (refine D_take 8 rfl (pev_ok rfl) ?_ rfl rfl (by kernel_rfl) (by kernel_rfl)); (refine D_take 9 rfl (T_ixM (sz := 3) rfl rfl rfl rfl rfl rfl hne hjl) ?_ rfl rfl (by kernel_rfl) (by kernel_rfl)); (refine D_take 10 rfl (T_fap rfl rfl rfl rfl rfl hne) ?_ rfl rfl (by kernel_rfl) (by kernel_rfl)); (refine D_take 11 rfl (T_ldr rfl rfl rfl (Srd.old h (fun k _ => noOwns k)) (by omega) hat2) ?_ rfl rfl (by kernel_rfl) (by kernel_rfl)); (refine D_take 12 rfl (pev_ok rfl) ?_ rfl rfl (by kernel_rfl) (by kernel_rfl)); (refine D_take 13 rfl (pev_ok rfl) ?_ rfl rfl (by kernel_rfl) (by kernel_rfl)); (refine D_take 14 rfl (pev_ok rfl) ?_ rfl rfl (by kernel_rfl) (by kernel_rfl)); refine D_done ?_ (by kernel_rfl)))
      exact hB _ _ _ _ _ rfl rfl fun w' hS => ⟨(), rfl, trivial, hS.sublist (List.nil_sublist _)⟩
    · have hcm : scmp .eql s p = some false := by simp [scmp, hsp]
      focus (refine S_seq rfl ?_; refine S_seq rfl ?_; refine S_region rfl rfl ?_; refine R_p rfl ?_ rfl rfl; refine R_p rfl ?_ rfl rfl; refine R_take (T_load rfl rfl rfl (by first | rfl | assumption)) ?_ rfl rfl; refine R_p rfl ?_ rfl rfl; refine R_take (T_decT rfl (by omega)) ?_ rfl rfl; refine R_nil ?_; refine S_true rfl rfl ?_; refine S_skip rfl ?_; refine S_seq rfl ?_; refine S_block rfl ?_; refine S_seq rfl ?_; refine S_region rfl rfl ?_; refine R_p rfl ?_ rfl rfl; refine R_take (T_load rfl rfl rfl (by first | rfl | assumption)) ?_ rfl rfl; refine R_p rfl ?_ rfl rfl; refine R_take (T_ixM (sz := 3) rfl rfl rfl rfl rfl rfl hne hjl) ?_ rfl rfl; refine R_take (T_fap rfl rfl rfl rfl rfl hne) ?_ rfl rfl; refine R_take (T_ldr rfl rfl rfl (Srd.old h (fun k _ => noOwns k)) (by omega) hat0) ?_ rfl rfl; refine R_p rfl ?_ rfl rfl; refine R_take (T_scm (a := s) (b := p) rfl rfl hcm) ?_ rfl rfl; refine R_nil ?_; refine S_false rfl rfl ?_; refine S_skip rfl ?_; refine RS_blk ?_; refine S_region rfl rfl ?_; refine R_p rfl ?_ rfl rfl; refine R_take (T_addN rfl rfl (by unfold fits; omega)) ?_ rfl rfl; refine R_p rfl ?_ rfl rfl; refine R_nil ?_)
      exact hJ (j + 1) _ _ ⟨by omega, hmis hsp⟩ (Sub.cons rfl (Sub.cons rfl (Sub.cons rfl Sub.nil))) sub_st (by omega)
  have hjn : j = L.length := by omega
  subst hjn
  rw [List.take_length] at hno
  rw [fst_none hno] at hB
  focus (refine S_seq rfl ?_; refine S_seq rfl ?_; refine S_region rfl rfl ?_; refine R_p rfl ?_ rfl rfl; refine R_p rfl ?_ rfl rfl; refine R_take (T_load rfl rfl rfl (by first | rfl | assumption)) ?_ rfl rfl; refine R_p rfl ?_ rfl rfl; refine R_take (T_decF rfl (by omega)) ?_ rfl rfl; refine R_nil ?_; refine S_false rfl rfl ?_; refine S_exit rfl rfl ?_; refine S_seq rfl ?_; refine S_region rfl rfl ?_; refine R_p rfl ?_ rfl rfl; refine R_p rfl ?_ rfl rfl; refine R_p rfl ?_ rfl rfl; refine R_nil ?_)
  exact hB _ _ _ _ _ rfl rfl fun w' hS => ⟨(), rfl, trivial, hS.sublist (List.nil_sublist _)⟩
end Go.Proofs.Ytebbnbddlnpldaa
