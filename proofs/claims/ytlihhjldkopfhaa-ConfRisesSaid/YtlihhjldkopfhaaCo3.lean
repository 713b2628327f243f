/- Members: slices.BinarySearch. -/
import Derived.Test.YtlihhjldkopfhaaCo2
namespace Go.Proofs.Ytlihhjldkopfhaa
open Go.RowKit
open Asn (pt row rb)
set_option linter.unusedVariables false
set_option linter.unusedSimpArgs false
--@use N

section
variable {n : Nat} {w0 : World} {M : Nat → Prop} {T : Slots} {H Hr : List Asn} {dd : Option Tmp} {tt : TypeId} {pos : String} {af : Array Edge} {g : Option (Nat × Bool)} {x y z : Operand} {ts : Array TypeId}
theorem T_shrN {P : Program} {t u : TypeId} {kk kj : IntKind} {i j : Int} {p q : Nat} (hx : oget T x = some (.int kk i)) (hy : oget T y = some (.int kj j)) [hi : NatOf i p] [hj : NatOf j q] (hq : q ≤ kk.bits) :
    Tk P n w0 M T H ⟨dd, .binOp .shr t x y u, tt, pos, af, g⟩ (.int kk ((p / 2 ^ q : Nat) : Int)) := by
  rw [hi.is] at hx
  rw [hj.is] at hy
  have h := T_shr (P := P) (n := n) (w0 := w0) (M := M) (H := H) (dd := dd) (tt := tt) (pos := pos) (af := af) (g := g) (t := t) (u := u) hx hy (by omega)
  have e : Int.fdiv (p : Int) (2 ^ (min ((q : Int)).toNat kk.bits)) = ((p / 2 ^ q : Nat) : Int) := by
    have e1 : min ((q : Int)).toNat kk.bits = q := by rw [Int.toNat_natCast]; omega
    rw [e1, Int.fdiv_eq_ediv_of_nonneg _ (Int.le_of_lt (Int.pow_pos (by decide))), Int.natCast_ediv, Int.natCast_pow]
    rfl
  rwa [e] at h
end
/-- how many are less: of members that go up, where it is or goes -/
def cut (ms : List Int) (m : Int) : Nat := ms.findIdx (fun x => decide (m ≤ x))
def Up_ (ms : List Int) : Prop := ms.Pairwise (· < ·)
theorem cut_is {ms : List Int} {m : Int} {i : Nat} (hi : i ≤ ms.length) (h1 : ∀ k, k < i → ms.getD k 0 < m) (h2 : ∀ k, i ≤ k → k < ms.length → m ≤ ms.getD k 0) : cut ms m = i := by
  unfold cut
  rcases Nat.lt_or_ge i ms.length with h | h
  · rw [List.findIdx_eq h]
    refine ⟨?_, fun j hj => ?_⟩
    · have := h2 i (Nat.le_refl _) h
      simpa [List.getD, h] using this
    · have := h1 j hj
      have hj' : j < ms.length := by omega
      simp [List.getD, hj'] at this
      simpa using this
  · have : i = ms.length := by omega
    subst this
    rw [List.findIdx_eq_length]
    intro x hx
    obtain ⟨j, hj, rfl⟩ := List.getElem_of_mem hx
    have := h1 j hj
    simp [List.getD, hj] at this
    simpa using this
theorem up_lt {ms : List Int} (h : Up_ ms) {i j : Nat} (hij : i < j) (hj : j < ms.length) : ms.getD i 0 < ms.getD j 0 := by
  have := List.pairwise_iff_getElem.1 h i j (by omega) hj hij
  simpa [List.getD, hj, show i < ms.length by omega] using this
theorem mem_cut {ms : List Int} {m : Int} {i : Nat} (h : Up_ ms) (hi : i ≤ ms.length) (h1 : ∀ k, k < i → ms.getD k 0 < m) (h2 : ∀ k, i ≤ k → k < ms.length → m ≤ ms.getD k 0) : decide (m ∈ ms) = (decide (i < ms.length) && decide (ms.getD i 0 = m)) := by
  rcases Nat.lt_or_ge i ms.length with hl | hl
  · rw [decide_eq_true hl, Bool.true_and]
    congr 1
    apply propext
    constructor
    · intro hm
      obtain ⟨j, hj, he⟩ := List.getElem_of_mem hm
      have hg : ms.getD j 0 = m := by simp [List.getD, hj, he]
      rcases Nat.lt_trichotomy j i with h3 | h3 | h3
      · have := h1 j h3; omega
      · rw [← h3]; exact hg
      · have := up_lt h h3 hj
        have := h2 i (Nat.le_refl _) hl
        omega
    · intro he
      have : ms[i] = m := by simpa [List.getD, hl] using he
      rw [← this]
      exact List.getElem_mem hl
  · rw [decide_eq_false (by omega : ¬ i < ms.length), Bool.false_and, decide_eq_false]
    intro hm
    obtain ⟨j, hj, he⟩ := List.getElem_of_mem hm
    have := h1 j (by omega)
    simp [List.getD, hj, he] at this
set_option maxRecDepth 100000 in
set_option maxHeartbeats 4000000 in
theorem bins_any (w : World) (A : Option Addr) (n c : Nat) (ms : List Int) (m : Int) (h : Rd w All 1 A n (ms.map zv)) (hn : n ≤ 1000) (hu : Up_ ms) :
    Gives Try.prog 49 [.slice A n c, zv m] [] w (X := Unit) (fun _ => .tuple #[.int .i64 (cut ms m : Int), .bool (decide (m ∈ ms))]) (fun _ => True) (fun _ => []) := by
  refine gives_S Try.func49 rfl Try.ntmps49 Try.results49 (by simp) (St.enter w) (fun B hB => ?_)
  have hl : ms.length = n := by have := h.1; simpa using this
  have hne : 0 < n → A ≠ none := fun h0 => by obtain ⟨ad, rfl, _⟩ := h.2 h0; simp
  focus (refine S_seq rfl ?_; refine S_region rfl rfl ?_; refine R_p rfl ?_ rfl rfl; refine R_p rfl ?_ rfl rfl; refine R_nil ?_; refine S_seq rfl ?_; refine S_region rfl rfl ?_; refine R_p rfl ?_ rfl rfl; refine R_p rfl ?_ rfl rfl; refine R_p rfl ?_ rfl rfl; refine R_nil ?_; refine S_seq rfl ?_; refine S_region rfl rfl ?_; refine R_p rfl ?_ rfl rfl; refine R_p rfl ?_ rfl rfl; refine R_p rfl ?_ rfl rfl; refine R_nil ?_; refine S_seq rfl ?_; refine S_block rfl ?_)
  refine S_loop (X := Nat × Nat) (fun s => [(0, .slice A n c), (1, zv m), (6, .int .i64 (n : Int)), (7, .int .i64 (s.1 : Int)), (8, .int .i64 (s.2 : Int))]) (fun _ => _) (fun s => s.1 ≤ s.2 ∧ s.2 ≤ n ∧ (∀ k, k < s.1 → ms.getD k 0 < m) ∧ ∀ k, s.2 ≤ k → k < n → m ≤ ms.getD k 0) (fun s => s.2 - s.1) rfl (0, n) ⟨Nat.zero_le _, Nat.le_refl _, fun k hk => by omega, fun k h1 h2 => by dsimp only at h1; omega⟩ (Sub.cons rfl (Sub.cons rfl (Sub.cons rfl (Sub.cons rfl (Sub.cons rfl Sub.nil))))) (fun _ h => h) ?_
  rintro ⟨i, j⟩ ⟨hij, hjn, h1, h2⟩ J hJ
  dsimp only at hij hjn h1 h2 ⊢
  obtain ⟨x, hx⟩ : ∃ x, ms.getD ((i + j) / 2 ^ 1) 0 = x := ⟨_, rfl⟩
  have hld : (i + j) / 2 ^ 1 < n → (ms.map zv)[(i + j) / 2 ^ 1]? = some (zv x) := fun hlt => by rw [← hx]; exact zv_at (by omega)
  obtain ⟨y, hy⟩ : ∃ y, ms.getD i 0 = y := ⟨_, rfl⟩
  have hld2 : i < n → (ms.map zv)[i]? = some (zv y) := fun hlt => by rw [← hy]; exact zv_at (by omega)
  focus (refine S_seq rfl ?_; refine S_seq rfl ?_; refine S_region rfl rfl ?_; refine R_p rfl ?_ rfl rfl; refine R_p rfl ?_ rfl rfl; refine R_p rfl ?_ rfl rfl; refine R_nil ?_; (refine S_if rfl rfl (fun hs => ?_) (fun hs => ?_)); refine S_skip rfl ?_; refine S_block rfl ?_; refine S_seq rfl ?_; refine S_region rfl rfl ?_; refine R_p rfl ?_ rfl rfl; refine R_p rfl ?_ rfl rfl; refine R_take (T_addN rfl rfl (by unfold fits; omega)) ?_ rfl rfl; refine R_take (T_convf rfl rfl rfl rfl (by unfold fits; omega)) ?_ rfl rfl; refine R_take (T_shrN rfl rfl (by decide)) ?_ rfl rfl; refine R_take (T_convf rfl rfl rfl rfl (by unfold fits; omega)) ?_ rfl rfl; refine R_p rfl ?_ rfl rfl; refine R_nil ?_; refine S_seq rfl ?_; refine S_region rfl rfl ?_; refine R_p rfl ?_ rfl rfl; refine R_p rfl ?_ rfl rfl; refine R_take (T_ixN rfl rfl rfl rfl rfl rfl (by first | assumption | exact hne (by omega) | exact hne2 (by omega)) (by omega)) ?_ rfl rfl; refine R_take (T_ldr rfl rfl rfl (Srd.old h (fun k _ => noOwns k)) (by omega) (hld (by omega))) ?_ rfl rfl; refine R_p rfl ?_ rfl rfl; (refine R_eff (E_less rfl rfl) ?_ rfl rfl; rintro _ _ ⟨rfl, rfl⟩); refine R_nil ?_; (refine S_if rfl rfl (fun hs => ?_) (fun hs => ?_)); refine S_region rfl rfl ?_; refine R_p rfl ?_ rfl rfl; refine R_take (T_addN rfl rfl (by unfold fits; omega)) ?_ rfl rfl; refine R_p rfl ?_ rfl rfl; refine R_nil ?_; refine RS_blk ?_; rotate_left; refine S_region rfl rfl ?_; refine R_p rfl ?_ rfl rfl; refine R_p rfl ?_ rfl rfl; refine R_nil ?_; refine RS_blk ?_; rotate_left; refine S_exit rfl rfl ?_; refine S_seq rfl ?_; refine S_region rfl rfl ?_; refine R_p rfl ?_ rfl rfl; refine R_p rfl ?_ rfl rfl; refine R_p rfl ?_ rfl rfl; refine R_p rfl ?_ rfl rfl; refine R_p rfl ?_ rfl rfl; (refine R_splitd rfl rfl (fun hs => ?_) (fun hs => ?_)); refine R_p rfl ?_ rfl rfl; refine R_p rfl ?_ rfl rfl; refine R_take (T_ixN rfl rfl rfl rfl rfl rfl (by first | assumption | exact hne (by omega) | exact hne2 (by omega)) (by omega)) ?_ rfl rfl; refine R_take (T_ldr rfl rfl rfl (Srd.old h (fun k _ => noOwns k)) (by omega) (hld2 (by omega))) ?_ rfl rfl; refine R_p rfl ?_ rfl rfl; refine R_p rfl ?_ rfl rfl; refine R_p rfl ?_ rfl rfl; (refine R_splitd rfl rfl (fun hs => ?_) (fun hs => ?_)); refine R_skip ?_ rfl rfl; refine R_skip ?_ rfl rfl; refine R_skip ?_ rfl rfl; refine R_skip ?_ rfl rfl; refine R_skip ?_ rfl rfl; refine R_skip ?_ rfl rfl; refine R_skip ?_ rfl rfl; refine R_skip ?_ rfl rfl; refine R_skip ?_ rfl rfl; refine R_p rfl ?_ rfl rfl; refine R_p rfl ?_ rfl rfl; refine R_p rfl ?_ rfl rfl; refine R_p rfl ?_ rfl rfl; refine R_nil ?_; rotate_left; refine R_p rfl ?_ rfl rfl; refine R_p rfl ?_ rfl rfl; refine R_take (T_ixN rfl rfl rfl rfl rfl rfl (by first | assumption | exact hne (by omega) | exact hne2 (by omega)) (by omega)) ?_ rfl rfl; refine R_take (T_ldr rfl rfl rfl (Srd.old h (fun k _ => noOwns k)) (by omega) (hld2 (by omega))) ?_ rfl rfl; (refine R_eff (E_nan2 rfl) ?_ rfl rfl; rintro _ _ ⟨rfl, rfl⟩); refine R_p rfl ?_ rfl rfl; refine R_skip ?_ rfl rfl; refine R_skip ?_ rfl rfl; refine R_p rfl ?_ rfl rfl; refine R_p rfl ?_ rfl rfl; refine R_p rfl ?_ rfl rfl; refine R_p rfl ?_ rfl rfl; refine R_p rfl ?_ rfl rfl; refine R_nil ?_; rotate_left; refine R_skip ?_ rfl rfl; refine R_skip ?_ rfl rfl; refine R_skip ?_ rfl rfl; refine R_skip ?_ rfl rfl; refine R_skip ?_ rfl rfl; refine R_skip ?_ rfl rfl; refine R_skip ?_ rfl rfl; refine R_skip ?_ rfl rfl; refine R_skip ?_ rfl rfl; refine R_skip ?_ rfl rfl; refine R_skip ?_ rfl rfl; refine R_skip ?_ rfl rfl; refine R_skip ?_ rfl rfl; refine R_skip ?_ rfl rfl; refine R_skip ?_ rfl rfl; refine R_skip ?_ rfl rfl; refine R_skip ?_ rfl rfl; refine R_p rfl ?_ rfl rfl; refine R_p rfl ?_ rfl rfl; refine R_p rfl ?_ rfl rfl; refine R_nil ?_; rotate_left)
  · refine hJ ((i + j) / 2 ^ 1 + 1, j) _ _ ⟨by dsimp only; omega, by dsimp only; omega, fun k hk => ?_, h2⟩ (Sub.cons rfl (Sub.cons rfl (Sub.cons rfl (Sub.cons rfl (Sub.cons rfl Sub.nil))))) (fun _ h => h) (by dsimp only; omega)
    dsimp only at hk
    rcases Nat.lt_or_ge k ((i + j) / 2 ^ 1) with h3 | h3
    · have := up_lt hu h3 (by omega); omega
    · rw [show k = (i + j) / 2 ^ 1 by omega, hx]; assumption
  · refine hJ (i, (i + j) / 2 ^ 1) _ _ ⟨by dsimp only; omega, by dsimp only; omega, h1, fun k hk hkn => ?_⟩ (Sub.cons rfl (Sub.cons rfl (Sub.cons rfl (Sub.cons rfl (Sub.cons rfl Sub.nil))))) (fun _ h => h) (by dsimp only; omega)
    dsimp only at hk
    rcases Nat.eq_or_lt_of_le hk with h3 | h3
    · rw [← h3, hx]; omega
    · have := up_lt hu h3 (by omega); omega
  all_goals
    have hij' : i = j := by omega
    subst hij'
    refine hB _ _ _ _ _ rfl rfl fun w' hS => ⟨(), ?_, trivial, hS⟩
    rw [cut_is (by omega) h1 (fun k a b => h2 k a (by omega)), mem_cut hu (by omega) h1 (fun k a b => h2 k a (by omega)), hy, hl]
    have hcast : ((i : Int) < (n : Int)) ↔ i < n := by omega
    first | (rw [decide_eq_false (show ¬ i < n by omega), Bool.false_and]; rfl) | (simp_all; done) | (simp_all; rfl)
end Go.Proofs.Ytlihhjldkopfhaa
