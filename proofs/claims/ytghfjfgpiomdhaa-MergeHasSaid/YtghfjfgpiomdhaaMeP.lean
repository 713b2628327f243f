/- Merges: plain laws. -/
import Derived.Test.YtghfjfgpiomdhaaMeD
namespace Go.Proofs.Ytghfjfgpiomdhaa
set_option linter.unusedVariables false
set_option linter.unusedSimpArgs false

theorem sl_le {a b : Str} (h : a ≤ b) (h2 : a ≠ b) : a < b := by
  rcases sl_tri a b with h3 | h3 | h3
  · exact h3
  · exact absurd h3 h2
  · exact absurd h3 (List.not_lt.2 h)
theorem srtS_pw (l : List Str) : (srtS l).Pairwise (fun x y => x ≤ y) := by
  have := List.pairwise_mergeSort (le := fun x y : Str => decide (x ≤ y)) (fun a b c h1 h2 => by simp at *; exact List.le_trans h1 h2) (fun a b => by
    simp only [Bool.or_eq_true, decide_eq_true_eq]
    rcases sl_tri a b with h | h | h
    · exact .inl (List.le_of_lt h)
    · exact .inl (h ▸ List.le_refl _)
    · exact .inr (List.le_of_lt h)) l
  exact this.imp (by simp)
theorem srtS_mem (l : List Str) (x : Str) : x ∈ srtS l ↔ x ∈ l := by rw [srtS, List.mem_mergeSort]
theorem compact_pw {zs : List Str} (h : zs.Pairwise (fun x y => x ≤ y)) : Srt id (Lib.compact zs) := by
  unfold Srt Lib.compact Lib.compactUpTo
  rw [List.pairwise_map]
  have h1 : ((List.range zs.length).filter (Lib.keeps zs.toArray)).Pairwise (fun a b => a < b ∧ Lib.keeps zs.toArray b = true ∧ b < zs.length) := by
    rw [List.pairwise_filter]
    refine (List.pairwise_lt_range (n := zs.length)).imp_of_mem fun {a b} ha hb hlt h1 h2 => ⟨hlt, h2, List.mem_range.1 hb⟩
  refine h1.imp fun {a b} ⟨hab, hk, hb⟩ => ?_
  have hle := fun i j (hi : i < j) (hj : j < zs.length) => List.pairwise_iff_getElem.1 h i j (by omega) hj hi
  have e : ∀ i (hi : i < zs.length), zs.toArray[i]! = zs[i] := fun i hi => by simp [hi]
  simp only [id]
  rw [e a (by omega), e b hb]
  have hk : zs[b] ≠ zs[b - 1] := by
    have : b = 0 ∨ zs.toArray[b]! ≠ zs.toArray[b - 1]! := by simpa [Lib.keeps] using hk
    rcases this with h0 | h0
    · omega
    · rwa [e b hb, e (b - 1) (by omega)] at h0
  have h2 : zs[b - 1] < zs[b] := sl_le (hle (b - 1) b (by omega) hb) hk.symm
  by_cases hab2 : a = b - 1
  · subst hab2; exact h2
  · exact List.lt_of_le_of_lt (hle a (b - 1) (by omega) (by omega)) h2
theorem compact_mem {zs : List Str} (x : Str) : x ∈ Lib.compact zs ↔ x ∈ zs := by
  unfold Lib.compact Lib.compactUpTo
  rw [List.mem_map]
  have e : ∀ i (hi : i < zs.length), zs.toArray[i]! = zs[i] := fun i hi => by simp [hi]
  constructor
  · rintro ⟨i, hi, rfl⟩
    have hi := List.mem_range.1 (List.mem_filter.1 hi).1
    rw [e i hi]
    exact List.getElem_mem hi
  · intro hx
    have key : ∀ i, (hi : i < zs.length) → zs[i] = x → ∃ a, a ∈ (List.range zs.length).filter (Lib.keeps zs.toArray) ∧ zs.toArray[a]! = x := fun i => by
      induction i with
      | zero => exact fun hi hx => ⟨0, List.mem_filter.2 ⟨List.mem_range.2 hi, by simp [Lib.keeps]⟩, by rw [e 0 hi, hx]⟩
      | succ i ih =>
        intro hi hx
        by_cases hk : zs[i] = x
        · exact ih (by omega) hk
        · refine ⟨i + 1, List.mem_filter.2 ⟨List.mem_range.2 hi, ?_⟩, by rw [e _ hi, hx]⟩
          simp only [Lib.keeps, decide_eq_true_eq, Nat.add_sub_cancel]
          right
          rw [e _ hi, e i (by omega), hx]
          exact fun e2 => hk e2.symm
    obtain ⟨i, hi, h2⟩ := List.getElem_of_mem hx
    exact key i hi h2
theorem pathsP_srt (ms : List Mp) : Srt id (pathsP ms) := compact_pw (srtS_pw _)
theorem pathsP_mem (ms : List Mp) (x : Str) : x ∈ pathsP ms ↔ x ∈ keysM ms := by rw [pathsP, compact_mem, srtS_mem]
theorem srt_ris {α : Type} [Inhabited α] {L : List (Str × α)} (hl : L.length ≤ 32) (hs : Srt (·.1) L) (hp : ∀ x ∈ L, pathB x.1 = true) : risB (L.map (·.1)) = true := by
  rw [risB, Bool.and_eq_true, decide_eq_true_eq, List.length_map, incN, List.all_eq_true]
  refine ⟨hl, fun i hi => ?_⟩
  have hi : i < L.length := List.mem_range.1 hi
  have e : L.getD i default = L[i] := by simp [List.getD, hi]
  rw [stepB, map_getD L i hi, Bool.and_eq_true, Bool.or_eq_true, decide_eq_true_eq]
  refine ⟨by rw [e]; exact hp _ (List.getElem_mem hi), ?_⟩
  rcases Nat.eq_zero_or_pos i with h0 | h0
  · exact .inl h0
  · refine .inr ?_
    rw [map_getD L (i - 1) (by omega), bytesLess_eq, decide_eq_true_eq, e]
    have e2 : L.getD (i - 1) default = L[i - 1] := by simp [List.getD, show i - 1 < L.length by omega]
    rw [e2]
    exact List.pairwise_iff_getElem.1 hs (i - 1) i (by omega) hi (by omega)
theorem chkR_txt {L : List Rw} (h : chkR L = true) : ∀ x ∈ L, x.2.length ≤ 256 := fun x hx => by
  rw [chkR, Bool.and_eq_true, List.all_eq_true] at h
  have := h.1 x hx
  simpa [badR] using this
theorem chkC_txt {C : List Ch} (h : chkC C = true) : ∀ c ∈ C, c.2.2.length ≤ 256 ∧ (c.2.1 = false → c.2.2 = []) := fun c hc => by
  rw [chkC, Bool.and_eq_true, List.all_eq_true] at h
  have := h.1 c hc
  simp [badC] at this
  refine ⟨by omega, fun h0 => ?_⟩
  have h2 := this.2
  rw [h0] at h2
  simpa using h2
theorem app_chk {L : List Rw} {C : List Ch} (hL : chkR L = true) (hC : chkC C = true) (hl : (appU L C).length ≤ 32) : chkR (appU L C) = true := by
  have sL := chkR_srt hL
  have sC := chkC_srt hC
  have hm := fun x => appU_mem sC.2.1 L x
  rw [chkR, Bool.and_eq_true, List.all_eq_true]
  refine ⟨fun x hx => ?_, srt_ris hl (appU_srt sL.2.1 C) fun x hx => ?_⟩
  · rcases (hm x).1 hx with ⟨c, h1, h2, h3, h4⟩ | ⟨h1, _⟩
    · have := (chkC_txt hC c h1).1
      rw [h4]; simp [badR]; omega
    · have := chkR_txt hL x h1
      simp [badR]; omega
  · rcases (hm x).1 hx with ⟨c, h1, h2, h3, h4⟩ | ⟨h1, _⟩
    · rw [← h2]; exact sC.2.2 c h1
    · exact sL.2.2 x h1
theorem pathsR_mem (L1 L2 L3 : List Rw) (p : Str) : p ∈ pathsR L1 L2 L3 ↔ (∃ x ∈ L1, x.1 = p) ∨ (∃ x ∈ L2, x.1 = p) ∨ ∃ x ∈ L3, x.1 = p := by
  rw [pathsR, paths_mem, paths_mem, paths_mem]
  simp only [List.not_mem_nil, false_or, List.mem_map, or_assoc]
theorem pathsT_R (L1 L2 L3 : List Rw) : pathsT L1 L2 L3 = pathsR L1 L2 L3 := by
  refine srt_ext (k := id) (pathsP_srt _) (pathsR_srt _ _ _) fun x => ?_
  rw [pathsT, pathsP_mem, pathsR_mem]
  simp [keysM]
theorem pathsT_srt (L1 L2 L3 : List Rw) : Srt id (pathsT L1 L2 L3) := pathsP_srt _
theorem pathsT_mem (L1 L2 L3 : List Rw) (p : Str) : p ∈ pathsT L1 L2 L3 ↔ (∃ x ∈ L1, x.1 = p) ∨ (∃ x ∈ L2, x.1 = p) ∨ ∃ x ∈ L3, x.1 = p := by
  rw [pathsT_R, pathsR_mem]
theorem cnfs_R (L1 L2 L3 : List Rw) : cnfs L1 L2 L3 = rcnfs L1 L2 L3 := by rw [cnfs, rcnfs, allT, pathsT_R]
theorem fm_congr {α β : Type} {f g : α → Option β} : ∀ {l : List α}, (∀ x ∈ l, f x = g x) → l.filterMap f = l.filterMap g
  | [], _ => rfl
  | x :: l, h => by
    rw [List.filterMap_cons, List.filterMap_cons, h x (by simp), fm_congr fun y hy => h y (by simp [hy])]
theorem cnfs_mem {L1 L2 L3 : List Rw} {c : Cn} : c ∈ cnfs L1 L2 L3 ↔ c.1 ∈ pathsT L1 L2 L3 ∧ c = cnOf L1 L2 L3 c.1 ∧ (settle_ c).2 = false := by
  rw [cnfs, List.mem_filter, allT, List.mem_map]
  constructor
  · rintro ⟨⟨p, hp, rfl⟩, h⟩
    exact ⟨hp, rfl, by simpa using h⟩
  · rintro ⟨h1, h2, h3⟩
    exact ⟨⟨c.1, h1, h2.symm⟩, by rw [h3]; rfl⟩
theorem fit_none {L1 L2 L3 : List Rw} {C : List Ch} (h : fitsB (cnfs L1 L2 L3) C = true) {p : Str} (hp : p ∈ pathsT L1 L2 L3) : fstK (·.1) C p = none ↔ (settle_ (cnOf L1 L2 L3 p)).2 = true := by
  have h1 := of_decide_eq_true h
  constructor
  · intro hn
    cases hs : (settle_ (cnOf L1 L2 L3 p)).2
    · exact absurd hn (fits_in h (c := cnOf L1 L2 L3 p) (List.mem_map.2 ⟨p, hp, rfl⟩) hs)
    · rfl
  · intro hs
    refine fst_none fun x hx he => ?_
    have h2 : x.1 ∈ C.map (·.1) := List.mem_map.2 ⟨x, hx, rfl⟩
    rw [← h1] at h2
    obtain ⟨c, hc, hcx⟩ := List.mem_map.1 h2
    obtain ⟨_, h3, h4⟩ := cnfs_mem.1 hc
    have hcx : c.1 = x.1 := hcx
    have h5 : c = cnOf L1 L2 L3 p := by rw [h3, hcx]; exact congrArg _ he
    rw [h5, hs] at h4
    cases h4
theorem res_eq {C : List Ch} {p : Str} {b o t : Sd} (h : fstK (·.1) C p = none ↔ (settle_ (p, b, o, t)).2 = true) : resC C (p, b, o, t) = rres0 b o t (fstK (·.1) C p) := by
  cases hs : (settle_ (p, b, o, t)).2
  · have hn : fstK (·.1) C p ≠ none := fun e => by rw [h.1 e] at hs; cases hs
    rw [resC, hs]
    show (match fstK (·.1) C p with | some x => (x.2.1, x.2.2) | none => default) = _
    cases hq : fstK (·.1) C p with
    | none => exact absurd hq hn
    | some x => rfl
  · rw [h.2 hs, resC, hs]
    show (settle_ (p, b, o, t)).1 = rres0 b o t none
    unfold settle_ rres0
    show (if o = t ∨ b = t then (o, true) else if b = o then (t, true) else (default, false)).1 = _
    by_cases h1 : o = t
    · rw [if_pos (.inl h1), if_neg (fun h => h.1 h1)]
    by_cases h2 : b = t
    · rw [if_pos (.inr h2), if_neg (fun h => h1 (h.2.symm.trans h2))]
    by_cases h3 : b = o
    · rw [if_neg (fun h => h.elim h1 h2), if_pos h3, if_pos ⟨h1, h3⟩]
    · exfalso
      unfold settle_ at hs
      have hs : (if o = t ∨ b = t then (o, true) else if b = o then (t, true) else (default, false)).2 = true := hs
      rw [if_neg (fun h => h.elim h1 h2), if_neg h3] at hs
      cases hs
theorem mgU_R {L1 L2 L3 : List Rw} {C : List Ch} (h : fitsB (cnfs L1 L2 L3) C = true) : mgU L1 L2 L3 C = rmg L1 L2 L3 C := by
  rw [mgU, rmg, allT, ← pathsT_R, List.filterMap_map]
  refine fm_congr fun p hp => ?_
  have := res_eq (C := C) (p := p) (b := sideOf L1 p) (o := sideOf L2 p) (t := sideOf L3 p) (fit_none h hp)
  show mgF C (p, sideOf L1 p, sideOf L2 p, sideOf L3 p) = _
  rw [mgF, this]
  rfl
theorem side_norm (L : List Rw) (p : Str) (h : (sideOf L p).1 = false) : sideOf L p = default := by
  unfold sideOf at h ⊢
  cases hq : fstK (·.1) L p with
  | none => rfl
  | some x => rw [hq] at h; cases h
theorem side_mem {L : List Rw} (s : Srt (·.1) L) {p t : Str} : sideOf L p = (true, t) ↔ (p, t) ∈ L := by
  unfold sideOf
  constructor
  · intro h
    cases hq : fstK (·.1) L p with
    | none => rw [hq] at h; cases h
    | some x =>
      rw [hq] at h
      obtain ⟨h1, h2⟩ := (fst_mem s).1 hq
      have h3 : x.2 = t := congrArg Prod.snd h
      rw [← h2, ← h3]
      exact h1
  · intro h
    rw [(fst_mem (k := (·.1)) s (p := p) (x := (p, t))).2 ⟨h, rfl⟩]
    rfl
theorem side_in {L : List Rw} {p : Str} (h : (sideOf L p).1 = true) : ∃ x ∈ L, x.1 = p ∧ sideOf L p = (true, x.2) := by
  unfold sideOf at h ⊢
  cases hq : fstK (·.1) L p with
  | none => rw [hq] at h; cases h
  | some x => exact ⟨x, List.mem_of_find?_eq_some hq, by simpa using List.find?_some hq, rfl⟩
theorem side_out {L : List Rw} {p : Str} (h : ∀ x ∈ L, x.1 ≠ p) : sideOf L p = default := by
  unfold sideOf
  rw [fst_none h]
  rfl
theorem mgF_key {C : List Ch} {c : Cn} {x : Rw} (h : mgF C c = some x) : x.1 = c.1 ∧ resC C c = (true, x.2) := by
  unfold mgF at h
  split at h
  · rename_i h1
    injection h with h
    subst h
    exact ⟨rfl, Prod.ext h1 rfl⟩
  · cases h
theorem mgU_srt (L1 L2 L3 : List Rw) (C : List Ch) : Srt (·.1) (mgU L1 L2 L3 C) := by
  unfold Srt mgU allT
  rw [List.filterMap_map, List.pairwise_filterMap]
  refine (pathsT_srt L1 L2 L3).imp ?_
  intro p q hpq x hx y hy
  have e1 : x.1 = p := (mgF_key hx).1
  have e2 : y.1 = q := (mgF_key hy).1
  simp only [e1, e2]
  exact hpq
theorem mgU_mem {L1 L2 L3 : List Rw} {C : List Ch} {x : Rw} : x ∈ mgU L1 L2 L3 C ↔ x.1 ∈ pathsT L1 L2 L3 ∧ resC C (cnOf L1 L2 L3 x.1) = (true, x.2) := by
  unfold mgU allT
  rw [List.filterMap_map, List.mem_filterMap]
  constructor
  · rintro ⟨p, hp, h⟩
    obtain ⟨h1, h2⟩ := mgF_key h
    have h1 : x.1 = p := h1
    rw [h1]
    exact ⟨hp, h2⟩
  · rintro ⟨h1, h2⟩
    refine ⟨x.1, h1, ?_⟩
    show mgF C (cnOf L1 L2 L3 x.1) = some x
    unfold mgF
    rw [h2, if_pos rfl]
    rfl
theorem settle_turn (p : Str) (b o t : Sd) : settle_ (p, b, t, o) = settle_ (p, b, o, t) := by
  unfold settle_
  show (if t = o ∨ b = o then (t, true) else if b = t then (o, true) else (default, false)) = if o = t ∨ b = t then (o, true) else if b = o then (t, true) else (default, false)
  by_cases h1 : o = t
  · rw [if_pos (.inl h1.symm), if_pos (.inl h1), h1]
  by_cases h2 : b = t
  · by_cases h3 : b = o
    · exact absurd (h3.symm.trans h2) h1
    · rw [if_neg (fun h => h.elim (fun e => h1 e.symm) h3), if_pos h2, if_pos (.inr h2)]
  · by_cases h3 : b = o
    · rw [if_pos (.inr h3), if_neg (fun h => h.elim h1 h2), if_pos h3]
    · rw [if_neg (fun h => h.elim (fun e => h1 e.symm) h3), if_neg h2, if_neg (fun h => h.elim h1 h2), if_neg h3]
theorem pathsT_turn (L1 L2 L3 : List Rw) : pathsT L1 L3 L2 = pathsT L1 L2 L3 := by
  refine srt_ext (k := id) (pathsT_srt _ _ _) (pathsT_srt _ _ _) fun x => ?_
  rw [pathsT_mem, pathsT_mem]
  exact ⟨fun h => h.elim .inl fun h => .inr (h.elim .inr .inl), fun h => h.elim .inl fun h => .inr (h.elim .inr .inl)⟩
theorem fitsB_nil (Q : List Cn) : fitsB Q [] = decide (Q = []) := by
  unfold fitsB
  rw [decide_eq_decide]
  simp
theorem cnfs_nil {L1 L2 L3 : List Rw} : cnfs L1 L2 L3 = [] ↔ ∀ p ∈ pathsT L1 L2 L3, (settle_ (cnOf L1 L2 L3 p)).2 = true := by
  rw [List.eq_nil_iff_forall_not_mem]
  constructor
  · intro h p hp
    cases hs : (settle_ (cnOf L1 L2 L3 p)).2
    · exact absurd (cnfs_mem.2 ⟨hp, rfl, hs⟩) (h _)
    · rfl
  · intro h c hc
    obtain ⟨h1, h2, h3⟩ := cnfs_mem.1 hc
    rw [h2, h _ h1] at h3
    cases h3
theorem cnfs_turn {L1 L2 L3 : List Rw} : cnfs L1 L3 L2 = [] ↔ cnfs L1 L2 L3 = [] := by
  rw [cnfs_nil, cnfs_nil, pathsT_turn]
  have : ∀ p, settle_ (cnOf L1 L3 L2 p) = settle_ (cnOf L1 L2 L3 p) := fun p => settle_turn p _ _ _
  simp only [this]
theorem resC_nil (c : Cn) : resC [] c = (settle_ c).1 := by
  unfold resC
  split
  · rfl
  · rename_i h
    show default = _
    unfold settle_ at h ⊢
    by_cases h1 : c.2.2.1 = c.2.2.2 ∨ c.2.1 = c.2.2.2
    · rw [if_pos h1] at h; exact absurd rfl h
    · rw [if_neg h1] at h ⊢
      by_cases h2 : c.2.1 = c.2.2.1
      · rw [if_pos h2] at h; exact absurd rfl h
      · rw [if_neg h2]
theorem mgU_turn (L1 L2 L3 : List Rw) : mgU L1 L3 L2 [] = mgU L1 L2 L3 [] := by
  unfold mgU allT
  rw [pathsT_turn, List.filterMap_map, List.filterMap_map]
  refine fm_congr fun p _ => ?_
  show mgF [] (cnOf L1 L3 L2 p) = mgF [] (cnOf L1 L2 L3 p)
  unfold mgF
  rw [resC_nil, resC_nil, show settle_ (cnOf L1 L3 L2 p) = settle_ (cnOf L1 L2 L3 p) from settle_turn p _ _ _]
  rfl
theorem chkC_nil : chkC [] = true := by kernel_rfl
theorem rdy_turn (L1 L2 L3 : List Rw) : rdy L1 L3 L2 = rdy L1 L2 L3 := by unfold rdy; rw [Bool.and_comm (chkR L3)]
theorem mg_turn (L1 L2 L3 : List Rw) : mgE L1 L3 L2 [] = mgE L1 L2 L3 [] ∧ mgR L1 L3 L2 [] = mgR L1 L2 L3 [] := by
  have e : fitsB (cnfs L1 L3 L2) [] = fitsB (cnfs L1 L2 L3) [] := by rw [fitsB_nil, fitsB_nil, decide_eq_decide]; exact cnfs_turn
  unfold mgE mgR
  rw [rdy_turn, e, mgU_turn]
  exact ⟨rfl, rfl⟩
/-- both sides alike -/
theorem mg_same {L1 L2 : List Rw} (h1 : chkR L1 = true) (h2 : chkR L2 = true) : mgE L1 L2 L2 [] = 0 ∧ mgR L1 L2 L2 [] = L2 := by
  have e0 : rdy L1 L2 L2 = true := by rw [rdy, h1, h2]; rfl
  have hs : ∀ p, settle_ (cnOf L1 L2 L2 p) = (sideOf L2 p, true) := fun p => by
    unfold settle_
    exact if_pos (.inl rfl)
  have e1 : fitsB (cnfs L1 L2 L2) [] = true := by rw [fitsB_nil, decide_eq_true_eq, cnfs_nil]; exact fun p _ => by rw [hs]
  have e2 : mgU L1 L2 L2 [] = L2 := by
    refine srt_ext (mgU_srt _ _ _ _) (chkR_srt h2).2.1 fun x => ?_
    rw [mgU_mem, resC_nil, hs, pathsT_mem]
    constructor
    · exact fun h => (side_mem (chkR_srt h2).2.1).1 h.2
    · exact fun h => ⟨.inr (.inl ⟨x, h, rfl⟩), (side_mem (chkR_srt h2).2.1).2 h⟩
  unfold mgE mgR
  rw [e0, chkC_nil, e1, e2, if_pos rfl, if_pos rfl, if_pos rfl, if_pos (chkR_srt h2).1, if_pos rfl, if_pos rfl, if_pos rfl, if_pos (chkR_srt h2).1]
  exact ⟨rfl, rfl⟩
/-- one side as the base -/
theorem mg_base {L1 L3 : List Rw} (h1 : chkR L1 = true) (h3 : chkR L3 = true) : mgE L1 L1 L3 [] = 0 ∧ mgR L1 L1 L3 [] = L3 := by
  have e0 : rdy L1 L1 L3 = true := by rw [rdy, h1, h3]; rfl
  have hs : ∀ p, settle_ (cnOf L1 L1 L3 p) = (sideOf L3 p, true) := fun p => by
    unfold settle_
    show (if sideOf L1 p = sideOf L3 p ∨ sideOf L1 p = sideOf L3 p then (sideOf L1 p, true) else if sideOf L1 p = sideOf L1 p then (sideOf L3 p, true) else (default, false)) = _
    by_cases h : sideOf L1 p = sideOf L3 p
    · rw [if_pos (.inl h), h]
    · rw [if_neg (fun e => h (e.elim id id)), if_pos rfl]
  have e1 : fitsB (cnfs L1 L1 L3) [] = true := by rw [fitsB_nil, decide_eq_true_eq, cnfs_nil]; exact fun p _ => by rw [hs]
  have e2 : mgU L1 L1 L3 [] = L3 := by
    refine srt_ext (mgU_srt _ _ _ _) (chkR_srt h3).2.1 fun x => ?_
    rw [mgU_mem, resC_nil, hs, pathsT_mem]
    constructor
    · exact fun h => (side_mem (chkR_srt h3).2.1).1 h.2
    · exact fun h => ⟨.inr (.inr ⟨x, h, rfl⟩), (side_mem (chkR_srt h3).2.1).2 h⟩
  unfold mgE mgR
  rw [e0, chkC_nil, e1, e2, if_pos rfl, if_pos rfl, if_pos rfl, if_pos (chkR_srt h3).1, if_pos rfl, if_pos rfl, if_pos rfl, if_pos (chkR_srt h3).1]
  exact ⟨rfl, rfl⟩
theorem appE_zero {L : List Rw} {C : List Ch} (h : appE L C = 0) : chkR L = true ∧ chkC C = true ∧ (appU L C).length ≤ 32 ∧ appR L C = appU L C := by
  unfold appE at h
  unfold appR
  split at h
  · rename_i h1
    split at h
    · rename_i h2
      split at h
      · rename_i h3
        exact ⟨h1, h2, h3, by rw [if_pos h1, if_pos h2, if_pos h3]⟩
      · cases h
    · cases h
  · cases h
theorem appE_not {L : List Rw} {C : List Ch} (h : appE L C ≠ 0) : appR L C = [] := by
  unfold appE at h
  unfold appR
  split
  · rename_i h1
    rw [if_pos h1] at h
    split
    · rename_i h2
      rw [if_pos h2] at h
      split
      · rename_i h3
        rw [if_pos h3] at h
        exact absurd rfl h
      · rfl
    · rfl
  · rfl
theorem rb_back (L : List Rw) (C : List Ch) : rbE L L C = appE L C ∧ rbR L L C = appR L C := by
  unfold rbE rbR
  by_cases h : appE L C = 0
  · obtain ⟨h1, h2, h3, h4⟩ := appE_zero h
    obtain ⟨h5, h6⟩ := mg_base h1 (app_chk h1 h2 h3)
    rw [if_pos h, if_pos h, h, h4, h5, h6]
    exact ⟨rfl, rfl⟩
  · rw [if_neg h, if_neg h, appE_not h]
    exact ⟨rfl, rfl⟩
end Go.Proofs.Ytghfjfgpiomdhaa
