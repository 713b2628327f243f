/- The statement ConfBytes: members' bytes, and which members any bytes are. -/
import Derived.Test.YtlihhjldkopfhaaCoK
namespace Go.Proofs.Ytlihhjldkopfhaa
open Go.RowKit Go.ChangeShapes Go.WideShapes Go.ChangeAt
open Asn (pt row rb)
set_option linter.unusedVariables false
set_option linter.unusedSimpArgs false
--@use N

section
variable {n : Nat} {w0 : World} {M : Nat → Prop} {T : Slots} {H Hr : List Asn} {dd : Option Tmp} {tt : TypeId} {pos : String} {af : Array Edge} {g : Option (Nat × Bool)} {x y z : Operand} {ts : Array TypeId} {A A2 : Option Addr} {m c m2 c2 : Nat} {ms ks : List Int} {a : Int} {bs : List UInt8}
theorem T_minN {P : Program} {s t : TypeId} {kk : IntKind} {i j : Int} {p q : Nat} (hx : oget T x = some (.int kk i)) (hy : oget T y = some (.int kk j)) [hi : NatOf i p] [hj : NatOf j q] :
    Tk P n w0 M T H ⟨dd, .call ⟨.builtin .min, #[x, y], #[s, t]⟩, tt, pos, af, g⟩ (.int kk ((min p q : Nat) : Int)) := by
  have h := T_min (P := P) (n := n) (w0 := w0) (M := M) (H := H) (dd := dd) (tt := tt) (pos := pos) (af := af) (g := g) (s := s) (t := t) hx hy
  rw [hi.is, hj.is] at h
  rwa [show (if (q : Int) < (p : Int) then (q : Int) else (p : Int)) = ((min p q : Nat) : Int) by rw [Nat.min_def]; split <;> split <;> omega] at h
theorem E_rdecW {k : Nat} {e : Int} {L : List Int} {l : List UInt8} (hx : oget T x = some (.slice A m c)) (hs : Src w0 M H A m c l) (hm : m ≤ 900) (he : decE l = e) (hL : decL l = L) (hk : L.length = k) :
    Ef Try.prog n w0 M T H ⟨dd, .call ⟨.value (.func 25), #[x], ts⟩, tt, pos, af, g⟩ (fun u H' => ∃ A' c', u = .tuple #[cfv A' k c', .int .i64 e] ∧ H' = row 3 1 A' k c' (L.map zv) :: H) := by
  refine (E_gv ⟨_, Try.func25, rfl, by kernel_rfl⟩ (vs := [.slice A m c]) (by simp [ogets, hx]) fun w hS => rdec_any w A m c l (hs.bs w hS) hm).mono ?_
  rintro v H' ⟨⟨A', c'⟩, rfl, _, rfl⟩ w hS
  rw [he, hL, hk]
  rw [hL, hk] at hS
  exact ⟨_, _, rfl, ⟨A', c', rfl, rfl⟩, hS⟩
end
/-- bytes that came in -/
structure Rw where
  A : Option Addr
  n : Nat
  c : Nat
  l : List UInt8
def Rw.v (k : Rw) : Value := .slice k.A k.n k.c
def Rw.ok (k : Rw) (W : World) : Prop := Bs W All k.A k.n k.c k.l
theorem encM_len (ms : List Int) : (encM ms).length = ms.length + 1 := by simp [encM]
theorem decM_le (l : List UInt8) : (decL l).length ≤ l.length := by
  rw [decL]
  split
  · rw [decM_len]; omega
  · simp
set_option maxRecDepth 100000 in
set_option maxHeartbeats 4000000 in
theorem bytes_any (w : World) (A : Option Addr) (n c : Nat) (K : List Cf) (h : Rd w All 1 A n (K.map Cf.v)) (hc : n ≤ c) (hcm : c ≤ maxLen) (hK : ∀ k ∈ K, k.ok w) (A2 : Option Addr) (n2 c2 : Nat) (R : List Rw) (h2 : Rd w All 1 A2 n2 (R.map Rw.v)) (hc2 : n2 ≤ c2) (hcm2 : c2 ≤ maxLen) (hR : ∀ k ∈ R, k.ok w) :
    Gives Try.prog 4 [.slice A n c, .slice A2 n2 c2] [] w (X := Unit) (fun _ => .bool true) (fun _ => True) (fun _ => []) := by
  refine gives_S Try.func4 rfl Try.ntmps4 Try.results4 (by simp) (St.enter w) (fun B hB => ?_)
  have hl : K.length = n := by have := h.1; simpa using this
  have hl2 : R.length = n2 := by have := h2.1; simpa using this
  have hne : 0 < n → A ≠ none := fun h0 => by obtain ⟨ad, rfl, _⟩ := h.2 h0; simp
  have hne2 : 0 < n2 → A2 ≠ none := fun h0 => by obtain ⟨ad, rfl, _⟩ := h2.2 h0; simp
  subst hl hl2
  unfold maxLen at hcm hcm2
  have fin : ∀ (T : Slots) (H : List Asn), Sub [(56, .slice A2 R.length c2), (57, .int .i64 (R.length : Int)), (58, .int .i64 0)] T → RS Try.prog B 101 w (owns []) [It.code (c1 (Go.Proofs.Ytlihhjldkopfhaa.c2 (c1 (Go.Proofs.Ytlihhjldkopfhaa.c2 (Go.Proofs.Ytlihhjldkopfhaa.c2 (Go.Proofs.Ytlihhjldkopfhaa.c2 (cbody Try.f4))))))), It.blk 2, It.code (Go.Proofs.Ytlihhjldkopfhaa.c2 (Go.Proofs.Ytlihhjldkopfhaa.c2 (Go.Proofs.Ytlihhjldkopfhaa.c2 (Go.Proofs.Ytlihhjldkopfhaa.c2 (cbody Try.f4)))))] T H := by
    intro T H hT
    refine S_loop (X := Nat) (fun j => [(56, .slice A2 R.length c2), (57, .int .i64 (R.length : Int)), (58, .int .i64 (j : Int))]) (fun _ => []) (fun j => j ≤ R.length ∧ j ≤ 20) (fun j => R.length - j) rfl 0 ⟨Nat.zero_le _, by omega⟩ (Sub.cons (hT _ _ rfl) (Sub.cons (hT _ _ rfl) (Sub.cons (hT _ _ rfl) Sub.nil))) (fun _ hS => hS.sublist (List.nil_sublist _)) ?_
    rintro j ⟨hj, hj20⟩ J hJ
    rcases Nat.lt_or_ge j R.length with hjl | hjl
    rotate_left
    · skip
      focus (refine S_seq rfl ?_; refine S_region rfl rfl ?_; refine R_take (T_decF rfl (by omega)) ?_ rfl rfl; refine R_nil ?_; refine S_seq rfl ?_; refine S_false rfl rfl ?_; refine S_exit rfl rfl ?_; refine S_seq rfl ?_; refine S_region rfl rfl ?_; refine R_p rfl ?_ rfl rfl; refine R_nil ?_)
      refine hB _ _ _ _ _ rfl rfl fun w' hS => ⟨(), rfl, trivial, hS.sublist (List.nil_sublist _)⟩
    obtain ⟨k, hk⟩ : ∃ k, R[j] = k := ⟨_, rfl⟩
    have hld : (R.map Rw.v)[j]? = some (.slice k.A k.n k.c) := by simp [hk, hjl, Rw.v]
    have hr : Bs w All k.A k.n k.c k.l := hR k (hk ▸ List.getElem_mem _)
    have hcap := hr.cap
    obtain ⟨q, hq⟩ : ∃ q, min k.n 300 = q := ⟨_, rfl⟩
    have hqn : q ≤ k.n ∧ q ≤ 300 := by omega
    have hrq := hr.head hqn.1
    obtain ⟨l, hlq⟩ : ∃ l, k.l.take q = l := ⟨_, rfl⟩
    rw [hlq] at hrq
    have hll := hrq.len
    obtain ⟨kL, hkL⟩ : ∃ kL, (decL l).length = kL := ⟨_, rfl⟩
    have hkL9 : kL ≤ 900 := by have := decM_le l; omega
    have hee : ∀ e : Int, ¬ (¬ e = e) := fun e h => h rfl
    by_cases h20 : j = 20
    · focus (refine S_seq rfl ?_; refine S_region rfl rfl ?_; refine R_take (T_decT rfl (by omega)) ?_ rfl rfl; refine R_nil ?_; refine S_seq rfl ?_; refine S_true rfl rfl ?_; refine S_skip rfl ?_; refine S_seq rfl ?_; refine S_block rfl ?_; refine S_seq rfl ?_; refine S_region rfl rfl ?_; refine R_p rfl ?_ rfl rfl; refine R_take (T_ixN rfl rfl rfl rfl rfl rfl (by first | assumption | exact hne (by omega) | exact hne2 (by omega)) (by omega)) ?_ rfl rfl; refine R_take (T_ldr rfl rfl rfl (Srd.old h2 (fun k _ => noOwns k)) (by omega) hld) ?_ rfl rfl; refine R_p rfl ?_ rfl rfl; refine R_p rfl ?_ rfl rfl; refine R_nil ?_; refine S_seq rfl ?_; refine S_seq rfl ?_; refine S_region rfl rfl ?_; refine R_p rfl ?_ rfl rfl; refine R_take (T_decT rfl (by omega)) ?_ rfl rfl; refine R_nil ?_; refine S_true rfl rfl ?_; refine S_exit rfl rfl ?_; refine S_seq rfl ?_; refine S_region rfl rfl ?_; refine R_p rfl ?_ rfl rfl; refine R_nil ?_)
      all_goals (try (exfalso; omega))
      refine hB _ _ _ _ _ rfl rfl fun w' hS => ⟨(), rfl, trivial, hS.sublist (List.nil_sublist _)⟩
    focus (refine S_seq rfl ?_; refine S_region rfl rfl ?_; refine R_take (T_decT rfl (by omega)) ?_ rfl rfl; refine R_nil ?_; refine S_seq rfl ?_; refine S_true rfl rfl ?_; refine S_skip rfl ?_; refine S_seq rfl ?_; refine S_block rfl ?_; refine S_seq rfl ?_; refine S_region rfl rfl ?_; refine R_p rfl ?_ rfl rfl; refine R_take (T_ixN rfl rfl rfl rfl rfl rfl (by first | assumption | exact hne (by omega) | exact hne2 (by omega)) (by omega)) ?_ rfl rfl; refine R_take (T_ldr rfl rfl rfl (Srd.old h2 (fun k _ => noOwns k)) (by omega) hld) ?_ rfl rfl; refine R_p rfl ?_ rfl rfl; refine R_p rfl ?_ rfl rfl; refine R_nil ?_; refine S_seq rfl ?_; refine S_seq rfl ?_; refine S_region rfl rfl ?_; refine R_p rfl ?_ rfl rfl; refine R_take (T_decF rfl (by omega)) ?_ rfl rfl; refine R_nil ?_; refine S_false rfl rfl ?_; refine S_skip rfl ?_; refine S_seq rfl ?_; refine S_region rfl rfl ?_; (refine R_eff (E_lit1 (m := 0) (vs := []) rfl rfl rfl rfl rfl rfl rfl (by simp) (by decide)) ?_ rfl rfl; rintro _ _ ⟨bl, rfl, rfl⟩); refine R_p rfl ?_ rfl rfl; refine R_p rfl ?_ rfl rfl; refine R_p rfl ?_ rfl rfl; refine R_take ((hq ▸ T_minN rfl rfl)) ?_ rfl rfl; refine R_take (T_slhN rfl rfl rfl rfl rfl (by omega)) ?_ rfl rfl; (refine R_eff (E_apple (sz := 1) (m2 := q) (A2 := k.A) (news := l.map bv) rfl rfl rfl rfl rfl rfl rfl (by decide) .here (Src.old hrq (fun k _ => noOwns k)).rd (bv_one _) (by show q * 1 ≤ _; omega) (by unfold maxLen; omega)) ?_ rfl rfl; rintro _ _ ⟨Ab, cb, rfl, rfl⟩); refine R_p rfl ?_ rfl rfl; refine R_nil ?_; refine S_seq rfl ?_; refine S_region rfl rfl ?_; (refine R_eff (E_lit1 (m := 0) (vs := []) rfl rfl rfl rfl rfl rfl rfl (by simp) (by decide)) ?_ rfl rfl; rintro _ _ ⟨bl, rfl, rfl⟩); refine R_p rfl ?_ rfl rfl; (refine R_eff (E_apple (sz := 1) (m2 := q) (A2 := Ab) (news := l.map bv) rfl rfl rfl rfl rfl rfl rfl (by decide) .here (Srd.row (n := q) (c := cb)) (bv_one _) (by show q * 1 ≤ _; omega) (by unfold maxLen; omega)) ?_ rfl rfl; rintro _ _ ⟨Aw, cw, rfl, rfl⟩); refine R_p rfl ?_ rfl rfl; refine R_nil ?_; refine S_seq rfl ?_; refine S_region rfl rfl ?_; refine R_p rfl ?_ rfl rfl; (refine R_eff (E_decW (l := l) rfl (Src.row (c := cb)) (by omega) rfl rfl hkL) ?_ rfl rfl; rintro _ _ ⟨Ac, cc, rfl, rfl⟩); refine R_p rfl ?_ rfl rfl; refine R_p rfl ?_ rfl rfl; refine R_p rfl ?_ rfl rfl; (refine R_eff (E_alloca rfl cf_alloc) ?_ rfl rfl; rintro _ _ ⟨b4, rfl, rfl⟩); (refine R_eff0 (E_storew (cs := [.slice none 0 0]) rfl rfl rfl rfl (sl_one _ _ _) rfl) ?_ rfl; rintro _ _ rfl); refine R_p rfl ?_ rfl rfl; refine R_nil ?_; refine S_seq rfl ?_; refine S_region rfl rfl ?_; refine R_p rfl ?_ rfl rfl; (refine R_eff (E_rdecW (l := l) rfl (Src.row (c := cw)) (by omega) rfl rfl hkL) ?_ rfl rfl; rintro _ _ ⟨Ad, cd, rfl, rfl⟩); refine R_p rfl ?_ rfl rfl; refine R_p rfl ?_ rfl rfl; refine R_p rfl ?_ rfl rfl; (refine R_eff (E_alloca rfl cf_alloc) ?_ rfl rfl; rintro _ _ ⟨b4, rfl, rfl⟩); (refine R_eff0 (E_storew (cs := [.slice none 0 0]) rfl rfl rfl rfl (sl_one _ _ _) rfl) ?_ rfl; rintro _ _ rfl); refine R_p rfl ?_ rfl rfl; refine R_nil ?_; refine S_seq rfl ?_; refine S_region rfl rfl ?_; refine R_p rfl ?_ rfl rfl; refine R_p rfl ?_ rfl rfl; refine R_take (T_decF rfl (by omega)) ?_ rfl rfl; refine R_p rfl ?_ rfl rfl; refine R_take (T_loada (ds := [.slice Ac kL cc]) rfl rfl rfl rfl (fun j v h => by simpa using h)) ?_ rfl rfl; refine R_take (T_loada (ds := [.slice Ad kL cd]) rfl rfl rfl rfl (fun j v h => by simpa using h)) ?_ rfl rfl; (refine R_eff (E_rsameW (ms := decL l) (ks := decL l) rfl rfl (Srd.row (n := kL) (c := cc)) (Srd.row (n := kL) (c := cd)) hkL9 hkL9 (decide_eq_true rfl)) ?_ rfl rfl; rintro _ _ ⟨rfl, rfl⟩); refine R_take (T_not rfl) ?_ rfl rfl; refine R_p rfl ?_ rfl rfl; refine R_p rfl ?_ rfl rfl; refine R_p rfl ?_ rfl rfl; refine R_p rfl ?_ rfl rfl; (refine R_eff (E_equal (l1 := l) (l2 := l) rfl rfl (Src.row (c := cb)) (Src.row (c := cw)) (decide_eq_true rfl)) ?_ rfl rfl; rintro _ _ ⟨rfl, rfl⟩); refine R_take (T_not rfl) ?_ rfl rfl; refine R_p rfl ?_ rfl rfl; refine R_nil ?_; refine S_false rfl rfl ?_; refine S_skip rfl ?_; refine RS_blk ?_; refine S_region rfl rfl ?_; refine R_take (T_addN rfl rfl (by unfold fits; omega)) ?_ rfl rfl; refine R_p rfl ?_ rfl rfl; refine R_nil ?_)
    all_goals (try (exfalso; omega))
    exact hJ (j + 1) _ _ ⟨by omega, by omega⟩ (Sub.cons rfl (Sub.cons rfl (Sub.cons rfl Sub.nil))) (fun _ hS => hS.sublist (List.nil_sublist _)) (by omega)
  focus (refine S_seq rfl ?_; refine S_region rfl rfl ?_; refine R_p rfl ?_ rfl rfl; refine R_nil ?_; refine S_seq rfl ?_; refine S_seq rfl ?_; refine S_region rfl rfl ?_; (refine R_eff (E_gv0 (f := 10) ⟨_, Try.func10, rfl, by kernel_rfl⟩ rfl (fun w hS => wakes_any w) (fun _ => rfl)) ?_ rfl rfl; rintro _ _ ⟨_, rfl, _, rfl⟩); refine R_take (T_not rfl) ?_ rfl rfl; refine R_nil ?_; refine S_false rfl rfl ?_; refine S_skip rfl ?_; refine S_seq rfl ?_; refine S_seq rfl ?_; refine S_region rfl rfl ?_; refine R_p rfl ?_ rfl rfl; refine R_p rfl ?_ rfl rfl; refine R_p rfl ?_ rfl rfl; refine R_nil ?_; refine S_block rfl ?_)
  refine S_loop (X := Nat) (fun j => [(1, .slice A2 R.length c2), (20, .slice A K.length c), (21, .int .i64 (K.length : Int)), (22, .int .i64 (j : Int))]) (fun _ => []) (fun j => j ≤ K.length ∧ j ≤ 16) (fun j => K.length - j) rfl 0 ⟨Nat.zero_le _, by omega⟩ (Sub.cons rfl (Sub.cons rfl (Sub.cons rfl (Sub.cons rfl Sub.nil)))) (fun _ h => h) ?_
  rintro j ⟨hj, hj16⟩ J hJ
  rcases Nat.lt_or_ge j K.length with hjl | hjl
  rotate_left
  · skip
    focus (refine S_seq rfl ?_; refine S_region rfl rfl ?_; refine R_take (T_decF rfl (by omega)) ?_ rfl rfl; refine R_nil ?_; refine S_seq rfl ?_; refine S_false rfl rfl ?_; refine S_exit rfl rfl ?_; refine S_seq rfl ?_; refine S_seq rfl ?_; refine S_region rfl rfl ?_; refine R_p rfl ?_ rfl rfl; refine R_p rfl ?_ rfl rfl; refine R_p rfl ?_ rfl rfl; refine R_nil ?_; refine S_block rfl ?_)
    exact fin _ _ (Sub.cons rfl (Sub.cons rfl (Sub.cons rfl Sub.nil)))
  obtain ⟨k, hk⟩ : ∃ k, K[j] = k := ⟨_, rfl⟩
  have hld : (K.map Cf.v)[j]? = some k.v := by simp [hk, hjl]
  obtain ⟨hr, hnc, hcm1⟩ := hK k (hk ▸ List.getElem_mem _)
  have hld' : ∀ e v, [k.v][e]? = some v → (K.map Cf.v)[j + e]? = some v := fun e v he => by
    cases e with
    | zero => rw [Nat.add_zero, hld]; exact he
    | succ e => simp at he
  obtain ⟨a, ha⟩ : ∃ a, k.ms.take 9 = a := ⟨_, rfl⟩
  have ha9 : a.length ≤ 900 := ha ▸ take9 _
  by_cases h16 : j = 16
  · focus (refine S_seq rfl ?_; refine S_region rfl rfl ?_; refine R_take (T_decT rfl (by omega)) ?_ rfl rfl; refine R_nil ?_; refine S_seq rfl ?_; refine S_true rfl rfl ?_; refine S_skip rfl ?_; refine S_seq rfl ?_; refine S_block rfl ?_; refine S_seq rfl ?_; refine S_region rfl rfl ?_; refine R_p rfl ?_ rfl rfl; refine R_take (T_ixN rfl rfl rfl rfl rfl rfl (by first | assumption | exact hne (by omega) | exact hne2 (by omega)) (by omega)) ?_ rfl rfl; refine R_take (T_loadoa (ds := [k.v]) rfl rfl rfl h rfl (by omega) hld' (fun k _ => noOwns k)) ?_ rfl rfl; (refine R_eff (E_alloca rfl cf_alloc) ?_ rfl rfl; rintro _ _ ⟨b4, rfl, rfl⟩); refine R_p rfl ?_ rfl rfl; (refine R_eff0 (E_storew (cs := [.slice none 0 0]) rfl rfl rfl rfl (sl_one _ _ _) rfl) ?_ rfl; rintro _ _ rfl); refine R_nil ?_; refine S_seq rfl ?_; refine S_seq rfl ?_; refine S_region rfl rfl ?_; refine R_p rfl ?_ rfl rfl; refine R_take (T_decT rfl (by omega)) ?_ rfl rfl; refine R_nil ?_; refine S_true rfl rfl ?_; refine S_exit rfl rfl ?_; refine S_seq rfl ?_; refine S_seq rfl ?_; refine S_region rfl rfl ?_; refine R_p rfl ?_ rfl rfl; refine R_p rfl ?_ rfl rfl; refine R_p rfl ?_ rfl rfl; refine R_nil ?_; refine S_block rfl ?_)
    all_goals (try (exfalso; omega))
    exact fin _ _ (Sub.cons rfl (Sub.cons rfl (Sub.cons rfl Sub.nil)))
  cases hra : right a
  · skip
    focus (refine S_seq rfl ?_; refine S_region rfl rfl ?_; refine R_take (T_decT rfl (by omega)) ?_ rfl rfl; refine R_nil ?_; refine S_seq rfl ?_; refine S_true rfl rfl ?_; refine S_skip rfl ?_; refine S_seq rfl ?_; refine S_block rfl ?_; refine S_seq rfl ?_; refine S_region rfl rfl ?_; refine R_p rfl ?_ rfl rfl; refine R_take (T_ixN rfl rfl rfl rfl rfl rfl (by first | assumption | exact hne (by omega) | exact hne2 (by omega)) (by omega)) ?_ rfl rfl; refine R_take (T_loadoa (ds := [k.v]) rfl rfl rfl h rfl (by omega) hld' (fun k _ => noOwns k)) ?_ rfl rfl; (refine R_eff (E_alloca rfl cf_alloc) ?_ rfl rfl; rintro _ _ ⟨b4, rfl, rfl⟩); refine R_p rfl ?_ rfl rfl; (refine R_eff0 (E_storew (cs := [.slice none 0 0]) rfl rfl rfl rfl (sl_one _ _ _) rfl) ?_ rfl; rintro _ _ rfl); refine R_nil ?_; refine S_seq rfl ?_; refine S_seq rfl ?_; refine S_region rfl rfl ?_; refine R_p rfl ?_ rfl rfl; refine R_take (T_decF rfl (by omega)) ?_ rfl rfl; refine R_nil ?_; refine S_false rfl rfl ?_; refine S_skip rfl ?_; refine S_seq rfl ?_; refine S_region rfl rfl ?_; refine R_take (T_loada (ds := [k.v]) rfl rfl rfl rfl (fun j v h => by simpa using h)) ?_ rfl rfl; (refine R_eff (E_short (A := k.A) (m := k.n) (c := k.c) rfl (Srd.old hr (fun k _ => noOwns k)) hnc hcm1 ha) ?_ rfl rfl; rintro _ _ ⟨ga, rfl, rfl⟩); (refine R_eff (E_alloca rfl cf_alloc) ?_ rfl rfl; rintro _ _ ⟨b4, rfl, rfl⟩); (refine R_eff0 (E_storew (cs := [.slice none 0 0]) rfl rfl rfl rfl (sl_one _ _ _) rfl) ?_ rfl; rintro _ _ rfl); refine R_nil ?_; refine S_seq rfl ?_; refine S_region rfl rfl ?_; refine R_take (T_loada (ds := [.slice (some ⟨ga, 0, none⟩) a.length (a.length + 2)]) rfl rfl rfl rfl (fun j v h => by simpa using h)) ?_ rfl rfl; (refine R_eff (E_encF rfl (wide_rd (g := ga)) ha9 hra) ?_ rfl rfl; rintro _ _ ⟨rfl, rfl⟩); refine R_p rfl ?_ rfl rfl; refine R_p rfl ?_ rfl rfl; refine R_p rfl ?_ rfl rfl; refine R_p rfl ?_ rfl rfl; refine R_p rfl ?_ rfl rfl; refine R_nil ?_; refine S_seq rfl ?_; refine S_region rfl rfl ?_; refine R_take (T_loada (ds := [.slice (some ⟨ga, 0, none⟩) a.length (a.length + 2)]) rfl rfl rfl rfl (fun j v h => by simpa using h)) ?_ rfl rfl; (refine R_eff (E_rrightW rfl (wide_rd (g := ga)) ha9 hra) ?_ rfl rfl; rintro _ _ ⟨rfl, rfl⟩); refine R_take (T_not rfl) ?_ rfl rfl; refine R_nil ?_; refine S_true rfl rfl ?_; refine S_seq rfl ?_; refine S_region rfl rfl ?_; refine R_p rfl ?_ rfl rfl; refine R_take (T_decF rfl (by omega)) ?_ rfl rfl; refine R_p rfl ?_ rfl rfl; refine R_p rfl ?_ rfl rfl; refine R_p rfl ?_ rfl rfl; refine R_take (T_decF rfl (by omega)) ?_ rfl rfl; refine R_p rfl ?_ rfl rfl; refine R_nil ?_; refine S_false rfl rfl ?_; refine S_skip rfl ?_; refine RS_blk ?_; refine S_region rfl rfl ?_; refine R_take (T_addN rfl rfl (by unfold fits; omega)) ?_ rfl rfl; refine R_p rfl ?_ rfl rfl; refine R_nil ?_)
    all_goals (try (exfalso; omega))
    exact hJ (j + 1) _ _ ⟨by omega, by omega⟩ (Sub.cons rfl (Sub.cons rfl (Sub.cons rfl (Sub.cons rfl Sub.nil)))) (fun _ hS => hS.sublist (List.nil_sublist _)) (by omega)
  · skip
    focus (refine S_seq rfl ?_; refine S_region rfl rfl ?_; refine R_take (T_decT rfl (by omega)) ?_ rfl rfl; refine R_nil ?_; refine S_seq rfl ?_; refine S_true rfl rfl ?_; refine S_skip rfl ?_; refine S_seq rfl ?_; refine S_block rfl ?_; refine S_seq rfl ?_; refine S_region rfl rfl ?_; refine R_p rfl ?_ rfl rfl; refine R_take (T_ixN rfl rfl rfl rfl rfl rfl (by first | assumption | exact hne (by omega) | exact hne2 (by omega)) (by omega)) ?_ rfl rfl; refine R_take (T_loadoa (ds := [k.v]) rfl rfl rfl h rfl (by omega) hld' (fun k _ => noOwns k)) ?_ rfl rfl; (refine R_eff (E_alloca rfl cf_alloc) ?_ rfl rfl; rintro _ _ ⟨b4, rfl, rfl⟩); refine R_p rfl ?_ rfl rfl; (refine R_eff0 (E_storew (cs := [.slice none 0 0]) rfl rfl rfl rfl (sl_one _ _ _) rfl) ?_ rfl; rintro _ _ rfl); refine R_nil ?_; refine S_seq rfl ?_; refine S_seq rfl ?_; refine S_region rfl rfl ?_; refine R_p rfl ?_ rfl rfl; refine R_take (T_decF rfl (by omega)) ?_ rfl rfl; refine R_nil ?_; refine S_false rfl rfl ?_; refine S_skip rfl ?_; refine S_seq rfl ?_; refine S_region rfl rfl ?_; refine R_take (T_loada (ds := [k.v]) rfl rfl rfl rfl (fun j v h => by simpa using h)) ?_ rfl rfl; (refine R_eff (E_short (A := k.A) (m := k.n) (c := k.c) rfl (Srd.old hr (fun k _ => noOwns k)) hnc hcm1 ha) ?_ rfl rfl; rintro _ _ ⟨ga, rfl, rfl⟩); (refine R_eff (E_alloca rfl cf_alloc) ?_ rfl rfl; rintro _ _ ⟨b4, rfl, rfl⟩); (refine R_eff0 (E_storew (cs := [.slice none 0 0]) rfl rfl rfl rfl (sl_one _ _ _) rfl) ?_ rfl; rintro _ _ rfl); refine R_nil ?_; refine S_seq rfl ?_; refine S_region rfl rfl ?_; refine R_take (T_loada (ds := [.slice (some ⟨ga, 0, none⟩) a.length (a.length + 2)]) rfl rfl rfl rfl (fun j v h => by simpa using h)) ?_ rfl rfl; (refine R_eff (E_encT rfl (wide_rd (g := ga)) ha9 hra rfl) ?_ rfl rfl; rintro _ _ ⟨Ae, ce, rfl, rfl⟩); refine R_p rfl ?_ rfl rfl; refine R_p rfl ?_ rfl rfl; refine R_p rfl ?_ rfl rfl; refine R_p rfl ?_ rfl rfl; refine R_p rfl ?_ rfl rfl; refine R_nil ?_; refine S_seq rfl ?_; refine S_region rfl rfl ?_; refine R_take (T_loada (ds := [.slice (some ⟨ga, 0, none⟩) a.length (a.length + 2)]) rfl rfl rfl rfl (fun j v h => by simpa using h)) ?_ rfl rfl; (refine R_eff (E_rrightW rfl (wide_rd (g := ga)) ha9 hra) ?_ rfl rfl; rintro _ _ ⟨rfl, rfl⟩); refine R_take (T_not rfl) ?_ rfl rfl; refine R_nil ?_; refine S_false rfl rfl ?_; refine S_seq rfl ?_; refine S_region rfl rfl ?_; refine R_p rfl ?_ rfl rfl; refine R_take (T_decF rfl (by omega)) ?_ rfl rfl; refine R_p rfl ?_ rfl rfl; refine R_p rfl ?_ rfl rfl; refine R_take (T_loada (ds := [.slice (some ⟨ga, 0, none⟩) a.length (a.length + 2)]) rfl rfl rfl rfl (fun j v h => by simpa using h)) ?_ rfl rfl; (refine R_eff (E_rbytT rfl (wide_rd (g := ga)) ha9 hra rfl) ?_ rfl rfl; rintro _ _ ⟨Af, cf, rfl, rfl⟩); (refine R_eff (E_equal (l1 := encM a) (l2 := encM a) rfl rfl (Src.row (c := ce)) (Src.row (c := cf)) (decide_eq_true rfl)) ?_ rfl rfl; rintro _ _ ⟨rfl, rfl⟩); refine R_take (T_not rfl) ?_ rfl rfl; refine R_p rfl ?_ rfl rfl; refine R_nil ?_; refine S_false rfl rfl ?_; refine S_skip rfl ?_; refine RS_blk ?_; refine S_region rfl rfl ?_; refine R_take (T_addN rfl rfl (by unfold fits; omega)) ?_ rfl rfl; refine R_p rfl ?_ rfl rfl; refine R_nil ?_)
    all_goals (try (exfalso; omega))
    exact hJ (j + 1) _ _ ⟨by omega, by omega⟩ (Sub.cons rfl (Sub.cons rfl (Sub.cons rfl (Sub.cons rfl Sub.nil)))) (fun _ hS => hS.sublist (List.nil_sublist _)) (by omega)
theorem open_bs {H : Type} {enc : TypeId × Value → H} {W : World} {cs : List Value} (h : Op_ enc Try.prog W 37 cs) : ∃ k : Rw, cs = [k.v] ∧ k.ok W := by
  obtain ⟨A, n, c, l, rfl, hb⟩ := h.bytes Try.underlying37 Try.underlying5 (by kernel_rfl)
  exact ⟨⟨A, n, c, l⟩, rfl, hb⟩
instance : Inhabited Rw := ⟨⟨none, 0, 0, []⟩⟩
theorem open_rows {H : Type} {enc : TypeId × Value → H} {W : World} {r : Reach} {base : Nat} {v : Value} {d : DataW H} {p : List MemPlace}
    (hv : Value.okWide Try.prog W r base 36 v) (h : DataW.Trod enc Try.prog W 0 (fun _ => true) true 36 v d p) :
    ∃ A n c, ∃ K : List Rw, v = .slice A n c ∧ n ≤ c ∧ c ≤ maxLen ∧ Rd W All 1 A n (K.map Rw.v) ∧ ∀ k ∈ K, Rw.ok k W := by
  obtain ⟨a0, len0, cap0, rfl⟩ := okWide_slice Try.underlying36 hv
  obtain ⟨A, n, c, xs, hcs, h1, h2, h3, h4⟩ := (Op_.of_trod h).slice Try.underlying36 (size := 1) (by kernel_rfl)
  simp [Value.cells] at hcs
  obtain ⟨rfl, rfl, rfl⟩ := hcs
  obtain ⟨K, rfl, hK⟩ := row_of (by simpa using h3.1) Rw.v (fun k => k.ok W) fun i hi => open_bs (h4 i hi)
  exact ⟨_, _, _, K, rfl, h1, h2, h3, hK⟩
theorem ConfBytes_open {H : Type} {enc : TypeId × Value → H} (W : World) {r : Reach} (base : Nat) (v0 v1 : Value) {d0 d1 : DataW H} {p0 p1 : List MemPlace}
    (hv0 : Value.okWide Try.prog W r base 35 v0) (hv1 : Value.okWide Try.prog W r base 36 v1)
    (h0 : DataW.Trod enc Try.prog W 0 (fun _ => true) true 35 v0 d0 p0) (h1 : DataW.Trod enc Try.prog W 0 (fun _ => true) true 36 v1 d1 p1) :
    Calls Try.prog 4 #[v0, v1] W fun e w' => e = .returned (.bool true) ∧ Kp All W w' := by
  obtain ⟨A, n, c, K, rfl, g1, g2, g3, g4⟩ := open_confs hv0 h0
  obtain ⟨A2, n2, c2, R, rfl, k1, k2, k3, k4⟩ := open_rows hv1 h1
  exact (bytes_any W A n c K g3 g1 g2 g4 A2 n2 c2 R k3 k1 k2 k4).pure
end Go.Proofs.Ytlihhjldkopfhaa
