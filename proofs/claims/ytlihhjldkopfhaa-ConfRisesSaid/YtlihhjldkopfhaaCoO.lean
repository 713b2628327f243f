/- Two majorities have a member in common. Plain laws; the law's own helper. -/
import Derived.Test.YtlihhjldkopfhaaCoG
namespace Go.Proofs.Ytlihhjldkopfhaa
open Go.RowKit
open Asn (pt row rb)
set_option linter.unusedVariables false
set_option linter.unusedSimpArgs false
--@use N

def comB (ms xs ys : List Int) : Bool := xs.any fun x => decide (x ∈ ys) && (right ms && decide (x ∈ ms))
theorem comB_no {ms xs ys : List Int} (h : ∀ x ∈ xs, x ∈ ys → ¬ (right ms && decide (x ∈ ms)) = true) : comB ms xs ys = false := by
  rw [comB, List.any_eq_false]
  intro x hx
  by_cases hy : x ∈ ys
  · have := h x hx hy
    simpa [hy] using this
  · simp [hy]
theorem comB_yes {ms xs ys : List Int} {x : Int} (h1 : x ∈ xs) (h2 : x ∈ ys) (h3 : (right ms && decide (x ∈ ms)) = true) : comB ms xs ys = true := by
  rw [comB, List.any_eq_true]
  exact ⟨x, h1, by rw [decide_eq_true h2, h3]; rfl⟩
set_option maxRecDepth 100000 in
set_option maxHeartbeats 4000000 in
theorem common_any (w : World) (A A1 A2 : Option Addr) (n c n1 c1' n2 c2' : Nat) (ms xs ys : List Int) (h : Rd w All 1 A n (ms.map zv)) (h1 : Rd w All 1 A1 n1 (xs.map zv)) (h2 : Rd w All 1 A2 n2 (ys.map zv)) (hn : n ≤ 900) (hn1 : n1 ≤ 900) (hn2 : n2 ≤ 900) :
    Gives Try.prog 31 [cfv A n c, .slice A1 n1 c1', .slice A2 n2 c2'] [] w (X := Unit) (fun _ => .bool (comB ms xs ys)) (fun _ => True) (fun _ => []) := by
  refine gives_S Try.func31 rfl Try.ntmps31 Try.results31 (by simp) (St.enter w) (fun B hB => ?_)
  have hl1 : xs.length = n1 := by have := h1.1; simpa using this
  have hl2 : ys.length = n2 := by have := h2.1; simpa using this
  have hne : 0 < n1 → A1 ≠ none := fun h0 => by obtain ⟨ad, rfl, _⟩ := h1.2 h0; simp
  have hne2 : 0 < n2 → A2 ≠ none := fun h0 => by obtain ⟨ad, rfl, _⟩ := h2.2 h0; simp
  subst hl1 hl2
  have hld : ∀ j, j < xs.length → (xs.map zv)[j]? = some (zv (xs.getD j 0)) := fun j hj => zv_at hj
  have hld2 : ∀ j, j < ys.length → (ys.map zv)[j]? = some (zv (ys.getD j 0)) := fun j hj => zv_at hj
  focus (refine S_seq rfl ?_; refine S_region rfl rfl ?_; (refine R_eff (E_boxa rfl) ?_ rfl rfl; rintro _ _ ⟨b, rfl, rfl⟩); refine R_p rfl ?_ rfl rfl; refine R_nil ?_; refine S_seq rfl ?_; refine S_seq rfl ?_; refine S_region rfl rfl ?_; refine R_p rfl ?_ rfl rfl; refine R_p rfl ?_ rfl rfl; refine R_p rfl ?_ rfl rfl; refine R_nil ?_; refine S_block rfl ?_)
  refine S_loop (X := Nat) (fun j => [(2, .slice A2 ys.length c2'), (3, .pointer (some ⟨b, 0, none⟩)), (11, .slice A1 xs.length c1'), (12, .int .i64 (xs.length : Int)), (13, .int .i64 (j : Int))]) (fun _ => [pt b 24 [.slice A n c]]) (fun j => j ≤ xs.length ∧ ∀ x ∈ xs.take j, x ∈ ys → ¬ (right ms && decide (x ∈ ms)) = true) (fun j => xs.length - j) rfl 0 ⟨Nat.zero_le _, by simp⟩ (Sub.cons rfl (Sub.cons rfl (Sub.cons rfl (Sub.cons rfl (Sub.cons rfl Sub.nil))))) (fun _ h => h) ?_
  rintro j ⟨hj, hno⟩ J hJ
  rcases Nat.lt_or_ge j xs.length with hjl | hjl
  rotate_left
  · have hjn : j = xs.length := by omega
    subst hjn
    rw [List.take_length] at hno
    focus (refine S_seq rfl ?_; refine S_region rfl rfl ?_; refine R_take (T_decF rfl (by omega)) ?_ rfl rfl; refine R_nil ?_; refine S_seq rfl ?_; refine S_false rfl rfl ?_; refine S_exit rfl rfl ?_; refine S_seq rfl ?_; refine S_region rfl rfl ?_; refine R_p rfl ?_ rfl rfl; refine R_nil ?_)
    refine hB _ _ _ _ _ rfl rfl fun w' hS => ⟨(), ?_, trivial, hS.sublist (List.nil_sublist _)⟩
    rw [comB_no hno]
    rfl
  have hld' := hld j hjl
  have hxm : xs[j] ∈ xs := List.getElem_mem _
  have hxt : xs.take (j + 1) = xs.take j ++ [xs[j]] := List.take_succ_eq_append_getElem hjl
  rw [getD_at hjl] at hld'
  obtain ⟨x, hx⟩ : ∃ x, xs[j] = x := ⟨_, rfl⟩
  rw [hx] at hld' hxm hxt
  focus (refine S_seq rfl ?_; refine S_region rfl rfl ?_; refine R_take (T_decT rfl (by omega)) ?_ rfl rfl; refine R_nil ?_; refine S_seq rfl ?_; refine S_true rfl rfl ?_; refine S_skip rfl ?_; refine S_seq rfl ?_; refine S_block rfl ?_; refine S_seq rfl ?_; refine S_region rfl rfl ?_; refine R_take (T_ixN rfl rfl rfl rfl rfl rfl (by first | assumption | exact hne (by omega) | exact hne2 (by omega)) (by omega)) ?_ rfl rfl; refine R_take (T_ldr rfl rfl rfl (Srd.old h1 (fun k _ => noOwns k)) (by omega) hld') ?_ rfl rfl; refine R_p rfl ?_ rfl rfl; refine R_nil ?_; refine S_seq rfl ?_; refine S_region rfl rfl ?_; refine R_p rfl ?_ rfl rfl; refine R_p rfl ?_ rfl rfl; refine R_p rfl ?_ rfl rfl; refine R_nil ?_; refine S_block rfl ?_)
  refine S_loop (X := Nat) (fun i => [(2, .slice A2 ys.length c2'), (3, .pointer (some ⟨b, 0, none⟩)), (8, zv x), (11, .slice A1 xs.length c1'), (12, .int .i64 (xs.length : Int)), (13, .int .i64 (j : Int)), (17, .slice A2 ys.length c2'), (18, .int .i64 (ys.length : Int)), (19, .int .i64 (i : Int))]) (fun _ => [pt b 24 [.slice A n c]]) (fun i => i ≤ ys.length ∧ (x ∈ ys.take i → ¬ (right ms && decide (x ∈ ms)) = true)) (fun i => ys.length - i) rfl 0 ⟨Nat.zero_le _, by simp⟩ (Sub.cons rfl (Sub.cons rfl (Sub.cons rfl (Sub.cons rfl (Sub.cons rfl (Sub.cons rfl (Sub.cons rfl (Sub.cons rfl (Sub.cons rfl Sub.nil))))))))) (fun _ h => h) ?_
  rintro i ⟨hi, hno2⟩ J2 hJ2
  rcases Nat.lt_or_ge i ys.length with hil | hil
  rotate_left
  · have hin : i = ys.length := by omega
    subst hin
    rw [List.take_length] at hno2
    focus (refine S_seq rfl ?_; refine S_region rfl rfl ?_; refine R_take (T_decF rfl (by omega)) ?_ rfl rfl; refine R_nil ?_; refine S_seq rfl ?_; refine S_false rfl rfl ?_; refine S_exit rfl rfl ?_; refine RS_blk ?_; refine S_region rfl rfl ?_; refine R_take (T_addN rfl rfl (by unfold fits; omega)) ?_ rfl rfl; refine R_p rfl ?_ rfl rfl; refine R_nil ?_)
    refine hJ (j + 1) _ _ ⟨by omega, fun z hz hzy => ?_⟩ (Sub.cons rfl (Sub.cons rfl (Sub.cons rfl (Sub.cons rfl (Sub.cons rfl Sub.nil))))) (fun _ h => h) (by omega)
    rw [hxt, List.mem_append, List.mem_singleton] at hz
    rcases hz with hz | rfl
    · exact hno z hz hzy
    · exact hno2 hzy
  have hld2' := hld2 i hil
  have hym : ys[i] ∈ ys := List.getElem_mem _
  have hyt : ys.take (i + 1) = ys.take i ++ [ys[i]] := List.take_succ_eq_append_getElem hil
  rw [getD_at hil] at hld2'
  obtain ⟨y, hy⟩ : ∃ y, ys[i] = y := ⟨_, rfl⟩
  rw [hy] at hld2' hym hyt
  obtain ⟨rh, hrh⟩ : ∃ rh, (right ms && decide (x ∈ ms)) = rh := ⟨_, rfl⟩
  by_cases hxy : x = y
  · subst hxy
    cases rh
    · skip
      focus (refine S_seq rfl ?_; refine S_region rfl rfl ?_; refine R_take (T_decT rfl (by omega)) ?_ rfl rfl; refine R_nil ?_; refine S_seq rfl ?_; refine S_true rfl rfl ?_; refine S_skip rfl ?_; refine S_seq rfl ?_; refine S_block rfl ?_; refine S_seq rfl ?_; refine S_region rfl rfl ?_; refine R_take (T_ixN rfl rfl rfl rfl rfl rfl (by first | assumption | exact hne (by omega) | exact hne2 (by omega)) (by omega)) ?_ rfl rfl; refine R_take (T_ldr rfl rfl rfl (Srd.old h2 (fun k _ => noOwns k)) (by omega) hld2') ?_ rfl rfl; refine R_p rfl ?_ rfl rfl; refine R_nil ?_; refine S_seq rfl ?_; refine S_region rfl rfl ?_; refine R_p rfl ?_ rfl rfl; refine R_p rfl ?_ rfl rfl; refine R_take (T_decT rfl (by omega)) ?_ rfl rfl; refine R_p rfl ?_ rfl rfl; refine R_take (T_loada (ds := [.slice A n c]) rfl rfl rfl rfl (fun j v h => by simpa using h)) ?_ rfl rfl; refine R_p rfl ?_ rfl rfl; (refine R_eff (E_hasW rfl rfl (Srd.old h (fun k _ => noOwns k)) hn hrh) ?_ rfl rfl; rintro _ _ ⟨rfl, rfl⟩); refine R_p rfl ?_ rfl rfl; refine R_nil ?_; refine S_false rfl rfl ?_; refine S_skip rfl ?_; refine RS_blk ?_; refine S_region rfl rfl ?_; refine R_take (T_addN rfl rfl (by unfold fits; omega)) ?_ rfl rfl; refine R_p rfl ?_ rfl rfl; refine R_nil ?_)
      refine hJ2 (i + 1) _ _ ⟨by omega, fun _ => by rw [hrh]; simp⟩ (Sub.cons rfl (Sub.cons rfl (Sub.cons rfl (Sub.cons rfl (Sub.cons rfl (Sub.cons rfl (Sub.cons rfl (Sub.cons rfl (Sub.cons rfl Sub.nil))))))))) (fun _ h => h) (by omega)
    · skip
      focus (refine S_seq rfl ?_; refine S_region rfl rfl ?_; refine R_take (T_decT rfl (by omega)) ?_ rfl rfl; refine R_nil ?_; refine S_seq rfl ?_; refine S_true rfl rfl ?_; refine S_skip rfl ?_; refine S_seq rfl ?_; refine S_block rfl ?_; refine S_seq rfl ?_; refine S_region rfl rfl ?_; refine R_take (T_ixN rfl rfl rfl rfl rfl rfl (by first | assumption | exact hne (by omega) | exact hne2 (by omega)) (by omega)) ?_ rfl rfl; refine R_take (T_ldr rfl rfl rfl (Srd.old h2 (fun k _ => noOwns k)) (by omega) hld2') ?_ rfl rfl; refine R_p rfl ?_ rfl rfl; refine R_nil ?_; refine S_seq rfl ?_; refine S_region rfl rfl ?_; refine R_p rfl ?_ rfl rfl; refine R_p rfl ?_ rfl rfl; refine R_take (T_decT rfl (by omega)) ?_ rfl rfl; refine R_p rfl ?_ rfl rfl; refine R_take (T_loada (ds := [.slice A n c]) rfl rfl rfl rfl (fun j v h => by simpa using h)) ?_ rfl rfl; refine R_p rfl ?_ rfl rfl; (refine R_eff (E_hasW rfl rfl (Srd.old h (fun k _ => noOwns k)) hn hrh) ?_ rfl rfl; rintro _ _ ⟨rfl, rfl⟩); refine R_p rfl ?_ rfl rfl; refine R_nil ?_; refine S_true rfl rfl ?_; refine S_seq rfl ?_; refine S_region rfl rfl ?_; refine R_p rfl ?_ rfl rfl; refine R_nil ?_)
      refine hB _ _ _ _ _ rfl rfl fun w' hS => ⟨(), ?_, trivial, hS.sublist (List.nil_sublist _)⟩
      rw [comB_yes hxm hym hrh]
      rfl
  · skip
    focus (refine S_seq rfl ?_; refine S_region rfl rfl ?_; refine R_take (T_decT rfl (by omega)) ?_ rfl rfl; refine R_nil ?_; refine S_seq rfl ?_; refine S_true rfl rfl ?_; refine S_skip rfl ?_; refine S_seq rfl ?_; refine S_block rfl ?_; refine S_seq rfl ?_; refine S_region rfl rfl ?_; refine R_take (T_ixN rfl rfl rfl rfl rfl rfl (by first | assumption | exact hne (by omega) | exact hne2 (by omega)) (by omega)) ?_ rfl rfl; refine R_take (T_ldr rfl rfl rfl (Srd.old h2 (fun k _ => noOwns k)) (by omega) hld2') ?_ rfl rfl; refine R_p rfl ?_ rfl rfl; refine R_nil ?_; refine S_seq rfl ?_; refine S_region rfl rfl ?_; refine R_p rfl ?_ rfl rfl; refine R_p rfl ?_ rfl rfl; refine R_take (T_decF rfl hxy) ?_ rfl rfl; refine R_p rfl ?_ rfl rfl; refine R_skip ?_ rfl rfl; refine R_skip ?_ rfl rfl; refine R_skip ?_ rfl rfl; refine R_p rfl ?_ rfl rfl; refine R_nil ?_; refine S_false rfl rfl ?_; refine S_skip rfl ?_; refine RS_blk ?_; refine S_region rfl rfl ?_; refine R_take (T_addN rfl rfl (by unfold fits; omega)) ?_ rfl rfl; refine R_p rfl ?_ rfl rfl; refine R_nil ?_)
    refine hJ2 (i + 1) _ _ ⟨by omega, fun hm => ?_⟩ (Sub.cons rfl (Sub.cons rfl (Sub.cons rfl (Sub.cons rfl (Sub.cons rfl (Sub.cons rfl (Sub.cons rfl (Sub.cons rfl (Sub.cons rfl Sub.nil))))))))) (fun _ h => h) (by omega)
    rw [hyt, List.mem_append, List.mem_singleton] at hm
    exact hno2 (hm.resolve_right hxy)
/-! counting -/
theorem count_both (p q : Int → Bool) : ∀ (ms : List Int), ms.countP p + ms.countP q ≤ ms.length + ms.countP (fun m => p m && q m)
  | [] => by simp
  | m :: ms => by
    have := count_both p q ms
    simp only [List.countP_cons, List.length_cons]
    cases p m <;> cases q m <;> simp <;> omega
theorem count_part (p q : Int → Bool) : ∀ (ms : List Int), ms.countP p = ms.countP (fun m => p m && q m) + ms.countP (fun m => p m && !q m)
  | [] => by simp
  | m :: ms => by
    have := count_part p q ms
    simp only [List.countP_cons]
    cases p m <;> cases q m <;> simp <;> omega
theorem count_le (p q : Int → Bool) (h : ∀ m, p m = true → q m = true) (ms : List Int) : ms.countP p ≤ ms.countP q := List.countP_mono_left fun m _ => h m
theorem up_nodup {ms : List Int} (h : Up_ ms) : ms.Nodup := h.imp fun hab => by omega
/-- two majorities of the same members -/
theorem maj_meet {ms s1 s2 : List Int} (h1 : majB ms s1 = true) (h2 : majB ms s2 = true) : comB ms s1 s2 = true := by
  simp only [majB, Bool.and_eq_true, decide_eq_true_eq] at h1 h2
  have h := count_both (fun m => decide (m ∈ s1)) (fun m => decide (m ∈ s2)) ms
  have hp : 0 < ms.countP (fun m => decide (m ∈ s1) && decide (m ∈ s2)) := by omega
  obtain ⟨x, hx, hxs⟩ := List.countP_pos_iff.1 hp
  simp only [Bool.and_eq_true, decide_eq_true_eq] at hxs
  exact comB_yes hxs.1 hxs.2 (by rw [h1.1, decide_eq_true hx]; rfl)
/-- one step apart -/
theorem maj_step {ms ks s1 s2 : List Int} (hs : stpE ms ks = 0) (h1 : majB ms s1 = true) (h2 : majB ks s2 = true) : comB ms s1 s2 = true ∧ comB ks s1 s2 = true := by
  simp only [majB, Bool.and_eq_true, decide_eq_true_eq] at h1 h2
  obtain ⟨r1, h1⟩ := h1
  obtain ⟨r2, h2⟩ := h2
  have hl : lackN ms ks + lackN ks ms ≤ 1 := by
    rw [stpE, r1, r2] at hs
    simp only [Bool.and_self, if_true] at hs
    split at hs
    · cases hs
    · omega
  rw [lackN, lackN, r1, r2] at hl
  simp only [Bool.true_and] at hl
  -- what both have
  have e1 : (ms.filter fun m => decide (m ∈ ks)).Perm (ks.filter fun m => decide (m ∈ ms)) := by
    rw [List.perm_ext_iff_of_nodup ((up_nodup (right_up r1).2.2).filter _) ((up_nodup (right_up r2).2.2).filter _)]
    intro x
    simp only [List.mem_filter, decide_eq_true_eq]
    exact And.comm
  have f1 : ∀ p : Int → Bool, ms.countP p ≤ (ms.filter fun m => decide (m ∈ ks)).countP p + ms.countP (fun m => !decide (m ∈ ks)) := fun p => by
    have := count_part p (fun m => decide (m ∈ ks)) ms
    have := count_le (fun m => p m && !decide (m ∈ ks)) (fun m => !decide (m ∈ ks)) (fun m h => by simp at h ⊢; exact h.2) ms
    rw [List.countP_filter]
    omega
  have f2 : ∀ p : Int → Bool, ks.countP p ≤ (ks.filter fun m => decide (m ∈ ms)).countP p + ks.countP (fun m => !decide (m ∈ ms)) := fun p => by
    have := count_part p (fun m => decide (m ∈ ms)) ks
    have := count_le (fun m => p m && !decide (m ∈ ms)) (fun m => !decide (m ∈ ms)) (fun m h => by simp at h ⊢; exact h.2) ks
    rw [List.countP_filter]
    omega
  have g1 := f1 (fun m => decide (m ∈ s1))
  have g2 := f2 (fun m => decide (m ∈ s2))
  have l1 : ms.length = (ms.filter fun m => decide (m ∈ ks)).length + ms.countP (fun m => !decide (m ∈ ks)) := by
    have := count_part (fun _ => true) (fun m => decide (m ∈ ks)) ms
    simp only [Bool.true_and, List.countP_true] at this
    rw [← List.countP_eq_length_filter]
    exact this
  have l2 : ks.length = (ks.filter fun m => decide (m ∈ ms)).length + ks.countP (fun m => !decide (m ∈ ms)) := by
    have := count_part (fun _ => true) (fun m => decide (m ∈ ms)) ks
    simp only [Bool.true_and, List.countP_true] at this
    rw [← List.countP_eq_length_filter]
    exact this
  rw [← e1.countP_eq] at g2
  have hll := e1.length_eq
  have hb := count_both (fun m => decide (m ∈ s1)) (fun m => decide (m ∈ s2)) (ms.filter fun m => decide (m ∈ ks))
  have hp : 0 < (ms.filter fun m => decide (m ∈ ks)).countP (fun m => decide (m ∈ s1) && decide (m ∈ s2)) := by omega
  obtain ⟨x, hx, hxs⟩ := List.countP_pos_iff.1 hp
  simp only [Bool.and_eq_true, decide_eq_true_eq] at hxs
  simp only [List.mem_filter, decide_eq_true_eq] at hx
  exact ⟨comB_yes hxs.1 hxs.2 (by rw [r1, decide_eq_true hx.1]; rfl), comB_yes hxs.1 hxs.2 (by rw [r2, decide_eq_true hx.2]; rfl)⟩
end Go.Proofs.Ytlihhjldkopfhaa
