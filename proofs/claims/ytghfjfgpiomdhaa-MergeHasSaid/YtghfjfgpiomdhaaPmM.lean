/- The difference of two maps: plain. -/
import Derived.Test.YtghfjfgpiomdhaaPmZ1
namespace Go.Proofs.Ytghfjfgpiomdhaa
set_option linter.unusedVariables false
set_option linter.unusedSimpArgs false
def diffU : List Rw → List Rw → List Ch
  | [], [] => []
  | x :: a, [] => (x.1, false, []) :: diffU a []
  | [], y :: b => (y.1, true, y.2) :: diffU [] b
  | x :: a, y :: b => if x.1 < y.1 then (x.1, false, []) :: diffU a (y :: b) else if y.1 < x.1 then (y.1, true, y.2) :: diffU (x :: a) b else if x = y then diffU a b else (y.1, true, y.2) :: diffU a b
termination_by a b => a.length + b.length
theorem diffU_key : ∀ (L M : List Rw) (c : Ch), c ∈ diffU L M → (∃ x, x ∈ L ∧ x.1 = c.1) ∨ ∃ y, y ∈ M ∧ y.1 = c.1
  | [], [], c, h => by simp [diffU] at h
  | x :: a, [], c, h => by
    rw [diffU] at h
    rcases List.mem_cons.1 h with e | h
    · exact .inl ⟨x, by simp, by rw [e]⟩
    · rcases diffU_key a [] c h with ⟨z, h1, h2⟩ | ⟨z, h1, h2⟩
      · exact .inl ⟨z, by simp [h1], h2⟩
      · exact .inr ⟨z, h1, h2⟩
  | [], y :: b, c, h => by
    rw [diffU] at h
    rcases List.mem_cons.1 h with e | h
    · exact .inr ⟨y, by simp, by rw [e]⟩
    · rcases diffU_key [] b c h with ⟨z, h1, h2⟩ | ⟨z, h1, h2⟩
      · exact .inl ⟨z, h1, h2⟩
      · exact .inr ⟨z, by simp [h1], h2⟩
  | x :: a, y :: b, c, h => by
    rw [diffU] at h
    split at h
    · rcases List.mem_cons.1 h with e | h
      · exact .inl ⟨x, by simp, by rw [e]⟩
      · rcases diffU_key a (y :: b) c h with ⟨z, h1, h2⟩ | ⟨z, h1, h2⟩
        · exact .inl ⟨z, by simp [h1], h2⟩
        · exact .inr ⟨z, h1, h2⟩
    · split at h
      · rcases List.mem_cons.1 h with e | h
        · exact .inr ⟨y, by simp, by rw [e]⟩
        · rcases diffU_key (x :: a) b c h with ⟨z, h1, h2⟩ | ⟨z, h1, h2⟩
          · exact .inl ⟨z, h1, h2⟩
          · exact .inr ⟨z, by simp [h1], h2⟩
      · split at h
        · rcases diffU_key a b c h with ⟨z, h1, h2⟩ | ⟨z, h1, h2⟩
          · exact .inl ⟨z, by simp [h1], h2⟩
          · exact .inr ⟨z, by simp [h1], h2⟩
        · rcases List.mem_cons.1 h with e | h
          · exact .inr ⟨y, by simp, by rw [e]⟩
          · rcases diffU_key a b c h with ⟨z, h1, h2⟩ | ⟨z, h1, h2⟩
            · exact .inl ⟨z, by simp [h1], h2⟩
            · exact .inr ⟨z, by simp [h1], h2⟩
termination_by L M => L.length + M.length
theorem srt_cons {α : Type} {k : α → Str} {x : α} {L : List α} : Srt k (x :: L) ↔ (∀ y ∈ L, k x < k y) ∧ Srt k L := List.pairwise_cons
theorem diffU_srt : ∀ (L M : List Rw), Srt (·.1) L → Srt (·.1) M → Srt (·.1) (diffU L M)
  | [], [], _, _ => by rw [diffU]; exact List.Pairwise.nil
  | x :: a, [], hL, hM => by
    rw [diffU]
    refine srt_cons.2 ⟨fun c hc => ?_, diffU_srt a [] (srt_cons.1 hL).2 hM⟩
    rcases diffU_key a [] c hc with ⟨z, h1, h2⟩ | ⟨z, h1, h2⟩
    · rw [← h2]; exact (srt_cons.1 hL).1 z h1
    · simp at h1
  | [], y :: b, hL, hM => by
    rw [diffU]
    refine srt_cons.2 ⟨fun c hc => ?_, diffU_srt [] b hL (srt_cons.1 hM).2⟩
    rcases diffU_key [] b c hc with ⟨z, h1, h2⟩ | ⟨z, h1, h2⟩
    · simp at h1
    · rw [← h2]; exact (srt_cons.1 hM).1 z h1
  | x :: a, y :: b, hL, hM => by
    have hL' := srt_cons.1 hL
    have hM' := srt_cons.1 hM
    rw [diffU]
    split
    · rename_i hlt
      refine srt_cons.2 ⟨fun c hc => ?_, diffU_srt a (y :: b) hL'.2 hM⟩
      rcases diffU_key a (y :: b) c hc with ⟨z, h1, h2⟩ | ⟨z, h1, h2⟩
      · rw [← h2]; exact hL'.1 z h1
      · rw [← h2]
        rcases List.mem_cons.1 h1 with e | h1
        · rw [e]; exact hlt
        · exact sl_tr hlt (hM'.1 z h1)
    · rename_i hnl
      split
      · rename_i hgt
        refine srt_cons.2 ⟨fun c hc => ?_, diffU_srt (x :: a) b hL hM'.2⟩
        rcases diffU_key (x :: a) b c hc with ⟨z, h1, h2⟩ | ⟨z, h1, h2⟩
        · rw [← h2]
          rcases List.mem_cons.1 h1 with e | h1
          · rw [e]; exact hgt
          · exact sl_tr hgt (hL'.1 z h1)
        · rw [← h2]; exact hM'.1 z h1
      · rename_i hng
        have hxy : x.1 = y.1 := by
          rcases sl_tri x.1 y.1 with h | h | h
          · exact absurd h hnl
          · exact h
          · exact absurd h hng
        split
        · exact diffU_srt a b hL'.2 hM'.2
        · refine srt_cons.2 ⟨fun c hc => ?_, diffU_srt a b hL'.2 hM'.2⟩
          rcases diffU_key a b c hc with ⟨z, h1, h2⟩ | ⟨z, h1, h2⟩
          · rw [← h2]
            show y.1 < z.1
            rw [← hxy]; exact hL'.1 z h1
          · rw [← h2]; exact hM'.1 z h1
termination_by L M => L.length + M.length
def DiffP (L M : List Rw) (c : Ch) : Prop := (∃ x, x ∈ L ∧ c = (x.1, false, []) ∧ ∀ y, y ∈ M → y.1 ≠ x.1) ∨ ∃ y, y ∈ M ∧ c = (y.1, true, y.2) ∧ y ∉ L
theorem diffU_mem : ∀ (L M : List Rw), Srt (·.1) L → Srt (·.1) M → ∀ c, c ∈ diffU L M ↔ DiffP L M c
  | [], [], _, _, c => by simp [diffU, DiffP]
  | x :: a, [], hL, hM, c => by
    rw [diffU, List.mem_cons, diffU_mem a [] (srt_cons.1 hL).2 hM]
    simp [DiffP]
  | [], y :: b, hL, hM, c => by
    rw [diffU, List.mem_cons, diffU_mem [] b hL (srt_cons.1 hM).2]
    simp [DiffP]
  | x :: a, y :: b, hL, hM, c => by
    have hL' := srt_cons.1 hL
    have hM' := srt_cons.1 hM
    rw [diffU]
    split
    · rename_i hlt
      rw [List.mem_cons, diffU_mem a (y :: b) hL'.2 hM]
      unfold DiffP
      have hxM : ∀ z, z ∈ y :: b → x.1 < z.1 := fun z hz => by
        rcases List.mem_cons.1 hz with e | hz
        · rw [e]; exact hlt
        · exact sl_tr hlt (hM'.1 z hz)
      constructor
      · rintro (e | ⟨z, h1, h2, h3⟩ | ⟨z, h1, h2, h3⟩)
        · exact .inl ⟨x, by simp, e, fun z hz => (sl_ne (hxM z hz)).symm⟩
        · exact .inl ⟨z, by simp [h1], h2, h3⟩
        · refine .inr ⟨z, h1, h2, fun hz => ?_⟩
          rcases List.mem_cons.1 hz with e | hz
          · exact sl_ne (hxM z h1) (by rw [e])
          · exact h3 hz
      · rintro (⟨z, h1, h2, h3⟩ | ⟨z, h1, h2, h3⟩)
        · rcases List.mem_cons.1 h1 with e | h1
          · exact .inl (by rw [h2, e])
          · exact .inr (.inl ⟨z, h1, h2, h3⟩)
        · exact .inr (.inr ⟨z, h1, h2, fun hz => h3 (by simp [hz])⟩)
    · rename_i hnl
      split
      · rename_i hgt
        rw [List.mem_cons, diffU_mem (x :: a) b hL hM'.2]
        unfold DiffP
        have hyL : ∀ z, z ∈ x :: a → y.1 < z.1 := fun z hz => by
          rcases List.mem_cons.1 hz with e | hz
          · rw [e]; exact hgt
          · exact sl_tr hgt (hL'.1 z hz)
        constructor
        · rintro (e | ⟨z, h1, h2, h3⟩ | ⟨z, h1, h2, h3⟩)
          · exact .inr ⟨y, by simp, e, fun hz => sl_irr _ (hyL y hz)⟩
          · refine .inl ⟨z, h1, h2, fun u hu => ?_⟩
            rcases List.mem_cons.1 hu with e | hu
            · rw [e]; exact sl_ne (hyL z h1)
            · exact h3 u hu
          · exact .inr ⟨z, by simp [h1], h2, h3⟩
        · rintro (⟨z, h1, h2, h3⟩ | ⟨z, h1, h2, h3⟩)
          · exact .inr (.inl ⟨z, h1, h2, fun u hu => h3 u (by simp [hu])⟩)
          · rcases List.mem_cons.1 h1 with e | h1
            · exact .inl (by rw [h2, e])
            · exact .inr (.inr ⟨z, h1, h2, h3⟩)
      · rename_i hng
        have hxy : x.1 = y.1 := by
          rcases sl_tri x.1 y.1 with h | h | h
          · exact absurd h hnl
          · exact h
          · exact absurd h hng
        have ih := diffU_mem a b hL'.2 hM'.2 c
        have key : DiffP (x :: a) (y :: b) c ↔ (x ≠ y ∧ c = (y.1, true, y.2)) ∨ DiffP a b c := by
          unfold DiffP
          constructor
          · rintro (⟨z, h1, h2, h3⟩ | ⟨z, h1, h2, h3⟩)
            · rcases List.mem_cons.1 h1 with e | h1
              · exact absurd (by rw [e, hxy]) (h3 y (by simp))
              · exact .inr (.inl ⟨z, h1, h2, fun u hu => h3 u (by simp [hu])⟩)
            · rcases List.mem_cons.1 h1 with e | h1
              · exact .inl ⟨fun e2 => h3 (by rw [e, e2]; simp), by rw [h2, e]⟩
              · exact .inr (.inr ⟨z, h1, h2, fun hz => h3 (by simp [hz])⟩)
          · rintro (⟨h1, h2⟩ | ⟨z, h1, h2, h3⟩ | ⟨z, h1, h2, h3⟩)
            · refine .inr ⟨y, by simp, h2, fun hz => ?_⟩
              rcases List.mem_cons.1 hz with e | hz
              · exact h1 e.symm
              · have := hL'.1 y hz
                simp only [hxy] at this
                exact sl_irr _ this
            · refine .inl ⟨z, by simp [h1], h2, fun u hu => ?_⟩
              rcases List.mem_cons.1 hu with e | hu
              · rw [e, ← hxy]; exact sl_ne (hL'.1 z h1)
              · exact h3 u hu
            · refine .inr ⟨z, by simp [h1], h2, fun hz => ?_⟩
              rcases List.mem_cons.1 hz with e | hz
              · have := hM'.1 z h1
                rw [e] at this
                simp only [hxy] at this
                exact sl_irr _ this
              · exact h3 hz
        rw [key, ← ih]
        split
        · rename_i e
          simp [e]
        · rename_i e
          simp [e]
termination_by L M => L.length + M.length
/-- the document's -/
def dOf (L M : List Rw) (p : Str) : Option Ch := if (fstK (·.1) L p).isSome = (fstK (·.1) M p).isSome ∧ gt (fstK (·.1) L p) = gt (fstK (·.1) M p) then none else some (p, (fstK (·.1) M p).isSome, gt (fstK (·.1) M p))
def allD (L M : List Rw) : List Str := pathsS (pathsS [] (L.map (·.1))) (M.map (·.1))
def diffR (L M : List Rw) : List Ch := (allD L M).filterMap (dOf L M)
theorem allD_srt (L M : List Rw) : Srt id (allD L M) := paths_srt (paths_srt List.Pairwise.nil _) _
theorem dOf_key {L M : List Rw} {p : Str} {c : Ch} (h : dOf L M p = some c) : c.1 = p := by
  unfold dOf at h
  split at h
  · cases h
  · injection h with h; rw [← h]
theorem fst_not {L : List Rw} {p : Str} : fstK (·.1) L p = none ↔ ∀ x, x ∈ L → x.1 ≠ p := by
  rw [fstK, List.find?_eq_none]
  simp
theorem diffR_srt (L M : List Rw) : Srt (·.1) (diffR L M) := by
  unfold Srt diffR
  rw [List.pairwise_filterMap]
  refine (allD_srt L M).imp ?_
  intro p q hpq x hx y hy
  simp only [dOf_key hx, dOf_key hy]
  exact hpq
theorem dOf_iff {L M : List Rw} (hL : Srt (·.1) L) (hM : Srt (·.1) M) (c : Ch) : dOf L M c.1 = some c ↔ DiffP L M c := by
  unfold dOf DiffP
  cases h1 : fstK (·.1) L c.1 with
  | none =>
    have n1 := fst_not.1 h1
    cases h2 : fstK (·.1) M c.1 with
    | none =>
      have n2 := fst_not.1 h2
      simp only [gt, Option.isSome_none, and_self, if_true]
      constructor
      · intro h; cases h
      · rintro (⟨z, a1, a2, _⟩ | ⟨z, a1, a2, _⟩)
        · exact absurd (by rw [a2]) (n1 z a1)
        · exact absurd (by rw [a2]) (n2 z a1)
    | some y =>
      have m2 := (fst_mem hM).1 h2
      simp only [gt, Option.isSome_none, Option.isSome_some, Bool.false_eq_true, false_and, if_false]
      constructor
      · intro h
        injection h with h
        exact .inr ⟨y, m2.1, by rw [← h]; exact Prod.ext m2.2.symm rfl, fun hy => n1 y hy m2.2⟩
      · rintro (⟨z, a1, a2, _⟩ | ⟨z, a1, a2, _⟩)
        · exact absurd (by rw [a2]) (n1 z a1)
        · have : y = z := srt_key hM m2.1 a1 (by rw [m2.2, a2])
          rw [this]; exact congrArg some (by rw [a2])
  | some x =>
    have m1 := (fst_mem hL).1 h1
    cases h2 : fstK (·.1) M c.1 with
    | none =>
      have n2 := fst_not.1 h2
      simp only [gt, Option.isSome_none, Option.isSome_some, Bool.true_eq_false, false_and, if_false]
      constructor
      · intro h
        injection h with h
        exact .inl ⟨x, m1.1, by rw [← h]; exact Prod.ext m1.2.symm rfl, fun y hy => by rw [m1.2]; exact n2 y hy⟩
      · rintro (⟨z, a1, a2, _⟩ | ⟨z, a1, a2, _⟩)
        · exact congrArg some (by rw [a2])
        · exact absurd (by rw [a2]) (n2 z a1)
    | some y =>
      have m2 := (fst_mem hM).1 h2
      simp only [gt, Option.isSome_some, true_and]
      constructor
      · intro h
        split at h
        · cases h
        · rename_i hne
          injection h with h
          refine .inr ⟨y, m2.1, by rw [← h]; exact Prod.ext m2.2.symm rfl, fun hy => hne ?_⟩
          have : x = y := srt_key hL m1.1 hy (m1.2.trans m2.2.symm)
          rw [this]
      · rintro (⟨z, a1, a2, a3⟩ | ⟨z, a1, a2, a3⟩)
        · exact absurd (by rw [m2.2, a2]) (a3 y m2.1)
        · have e : y = z := srt_key hM m2.1 a1 (by rw [m2.2, a2])
          subst e
          rw [if_neg]
          · exact congrArg some (by rw [a2])
          · intro e
            apply a3
            have : x = y := Prod.ext (m1.2.trans m2.2.symm) e
            rw [← this]; exact m1.1
theorem diff_res {L M : List Rw} (hL : Srt (·.1) L) (hM : Srt (·.1) M) : diffU L M = diffR L M := by
  refine srt_ext (diffU_srt L M hL hM) (diffR_srt L M) fun c => ?_
  rw [diffU_mem L M hL hM, ← dOf_iff hL hM, diffR, List.mem_filterMap]
  constructor
  · intro h
    refine ⟨c.1, ?_, h⟩
    rw [allD, paths_mem, paths_mem]
    rcases (dOf_iff hL hM c).1 h with ⟨z, a1, a2, _⟩ | ⟨z, a1, a2, _⟩
    · exact .inl (.inr (List.mem_map.2 ⟨z, a1, by rw [a2]⟩))
    · exact .inr (List.mem_map.2 ⟨z, a1, by rw [a2]⟩)
  · rintro ⟨p, _, h⟩
    rw [dOf_key h]; exact h
theorem diffU_len : ∀ (L M : List Rw), (diffU L M).length ≤ L.length + M.length
  | [], [] => by rw [diffU]; simp
  | x :: a, [] => by have := diffU_len a []; rw [diffU]; simp at this ⊢; omega
  | [], y :: b => by have := diffU_len [] b; rw [diffU]; simp at this ⊢; omega
  | x :: a, y :: b => by
    have h1 := diffU_len a (y :: b)
    have h2 := diffU_len (x :: a) b
    have h3 := diffU_len a b
    rw [diffU]
    simp only [List.length_cons] at *
    split
    · simp only [List.length_cons]; omega
    · split
      · simp only [List.length_cons]; omega
      · split
        · omega
        · simp only [List.length_cons]; omega
termination_by L M => L.length + M.length
end Go.Proofs.Ytghfjfgpiomdhaa
