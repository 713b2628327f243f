/- Messages: what they say, and where that lies; fields, set, server, sound, Check. -/
import Derived.Test.YtdbehejbeioboaaDoorFrZ
namespace Go.Proofs.YtdbehejbeioboaaDoor
open Go.RowKit
open Asn (pt row rb)
set_option linter.unusedVariables false
set_option linter.unusedSimpArgs false
--@use N

/-- what a message says -/
structure Ms where
  K : Int
  F : Int
  T : Int
  tm : Nat
  pl : At
  es : List En
  cm : Nat
  ok : Bool
  ix : Nat
  cf : List Int
  dt : List UInt8
/-- where it lies -/
structure Mp where
  A : Option Addr
  n : Nat
  c : Nat
  cA : Option Addr
  cn : Nat
  cc : Nat
  dA : Option Addr
  dn : Nat
  dc : Nat
  Q : List Em
def mgc (x : Ms) (p : Mp) : List Value := [.int .i64 x.K, .int .i64 x.F, .int .i64 x.T, .int .u64 (x.tm : Int), .int .u64 (x.pl.1 : Int), .int .u64 (x.pl.2 : Int), .slice p.A p.n p.c, .int .u64 (x.cm : Int), .bool x.ok, .int .u64 (x.ix : Int), .slice p.cA p.cn p.cc, .slice p.dA p.dn p.dc]
theorem mgc_one (x : Ms) (p : Mp) : ∀ u ∈ mgc x p, u.oneCell' = true := by simp [mgc, Value.oneCell']
theorem mg_zero : ti31.zero = .agg (mgc ⟨0, 0, 0, 0, (0, 0), [], 0, false, 0, [], []⟩ ⟨none, 0, 0, none, 0, 0, none, 0, 0, []⟩).toArray := by kernel_rfl
/-- there it can be read -/
structure MsR (w : World) (x : Ms) (p : Mp) : Prop where
  hn : p.Q.length = p.n
  hm : p.n ≤ maxLen
  hQ : p.Q.map emv = x.es
  rq : Rd w All 3 p.A p.n (cellsL emc p.Q)
  bq : ∀ m ∈ p.Q, BsM w m
  hc : x.cf.length = p.cn
  hmc : p.cn ≤ maxLen
  rc : Rd w All 1 p.cA p.cn (x.cf.map zv)
  bd : Bs w All p.dA p.dn p.dc x.dt
theorem MsR.keep {w w' : World} {x : Ms} {p : Mp} (h : MsR w x p) (hk : Kp All w w') : MsR w' x p := ⟨h.hn, h.hm, h.hQ, h.rq.keep hk, fun m hm => Bs.keep (h.bq m hm) hk, h.hc, h.hmc, h.rc.keep hk, Bs.keep h.bd hk⟩
theorem MsR.ln {w : World} {x : Ms} {p : Mp} (h : MsR w x p) : x.es.length = p.n := by rw [← h.hQ, List.length_map, h.hn]
theorem MsR.dn {w : World} {x : Ms} {p : Mp} (h : MsR w x p) : p.dn = x.dt.length := h.bd.len
/-- the fields that count, as bits -/
def fldN (K : Int) : Nat := if K = 1 ∨ K = 3 then 1 else if K = 2 ∨ K = 4 then 2 else if K = 5 then 13 else if K = 6 then 18 else if K = 7 then 97 else 0
set_option maxRecDepth 100000 in
set_option maxHeartbeats 4000000 in
theorem fields_any (w : World) (K : Int) :
    Gives Tryd.prog 24 [.int .i64 K] [] w (X := Unit) (fun _ => .int .i64 (fldN K : Int)) (fun _ => True) (fun _ => []) := by
  refine gives_S Tryd.func24 rfl Tryd.ntmps24 Tryd.results24 (by simp) (St.enter w) (fun B hB => ?_)
  rcases (by omega : K = 1 ∨ K = 2 ∨ K = 3 ∨ K = 4 ∨ K = 5 ∨ K = 6 ∨ K = 7 ∨ (K ≠ 1 ∧ K ≠ 2 ∧ K ≠ 3 ∧ K ≠ 4 ∧ K ≠ 5 ∧ K ≠ 6 ∧ K ≠ 7)) with rfl | rfl | rfl | rfl | rfl | rfl | rfl | hK
  · focus (refine S_seq rfl ?_; refine S_region rfl rfl ?_; refine R_p rfl ?_ rfl rfl; refine R_nil ?_; refine S_seq rfl ?_; refine S_seq rfl (S_region rfl rfl ?_); refine R_p rfl ?_ rfl rfl; refine R_nil ?_; refine S_block rfl ?_; refine S_seq rfl ?_; refine S_seq rfl (S_region rfl rfl ?_); refine R_take (T_decT rfl (by omega)) ?_ rfl rfl; refine R_p rfl ?_ rfl rfl; refine R_nil ?_; refine S_true rfl rfl ?_; refine S_skip rfl ?_; refine S_true rfl rfl ?_; refine S_seq rfl (S_region rfl rfl ?_); refine R_p rfl ?_ rfl rfl; refine R_nil ?_)
    exact hB _ _ _ _ _ rfl rfl fun w' hS => ⟨(), rfl, trivial, hS.sublist (List.nil_sublist _)⟩
  · focus (refine S_seq rfl ?_; refine S_region rfl rfl ?_; refine R_p rfl ?_ rfl rfl; refine R_nil ?_; refine S_seq rfl ?_; refine S_seq rfl (S_region rfl rfl ?_); refine R_p rfl ?_ rfl rfl; refine R_nil ?_; refine S_block rfl ?_; refine S_seq rfl ?_; refine S_seq rfl (S_region rfl rfl ?_); refine R_take (T_decF rfl (by omega)) ?_ rfl rfl; refine R_p rfl ?_ rfl rfl; refine R_nil ?_; refine S_false rfl rfl ?_; refine S_region rfl rfl ?_; refine R_take (T_decF rfl (by omega)) ?_ rfl rfl; refine R_p rfl ?_ rfl rfl; refine R_nil ?_; refine S_false rfl rfl ?_; refine S_seq rfl ?_; refine S_seq rfl (S_region rfl rfl ?_); refine R_take (T_decT rfl (by omega)) ?_ rfl rfl; refine R_p rfl ?_ rfl rfl; refine R_nil ?_; refine S_true rfl rfl ?_; refine S_skip rfl ?_; refine S_true rfl rfl ?_; refine S_seq rfl (S_region rfl rfl ?_); refine R_p rfl ?_ rfl rfl; refine R_nil ?_)
    exact hB _ _ _ _ _ rfl rfl fun w' hS => ⟨(), rfl, trivial, hS.sublist (List.nil_sublist _)⟩
  · focus (refine S_seq rfl ?_; refine S_region rfl rfl ?_; refine R_p rfl ?_ rfl rfl; refine R_nil ?_; refine S_seq rfl ?_; refine S_seq rfl (S_region rfl rfl ?_); refine R_p rfl ?_ rfl rfl; refine R_nil ?_; refine S_block rfl ?_; refine S_seq rfl ?_; refine S_seq rfl (S_region rfl rfl ?_); refine R_take (T_decF rfl (by omega)) ?_ rfl rfl; refine R_p rfl ?_ rfl rfl; refine R_nil ?_; refine S_false rfl rfl ?_; refine S_region rfl rfl ?_; refine R_take (T_decT rfl (by omega)) ?_ rfl rfl; refine R_p rfl ?_ rfl rfl; refine R_nil ?_; refine S_true rfl rfl ?_; refine S_seq rfl (S_region rfl rfl ?_); refine R_p rfl ?_ rfl rfl; refine R_nil ?_)
    exact hB _ _ _ _ _ rfl rfl fun w' hS => ⟨(), rfl, trivial, hS.sublist (List.nil_sublist _)⟩
  · focus (refine S_seq rfl ?_; refine S_region rfl rfl ?_; refine R_p rfl ?_ rfl rfl; refine R_nil ?_; refine S_seq rfl ?_; refine S_seq rfl (S_region rfl rfl ?_); refine R_p rfl ?_ rfl rfl; refine R_nil ?_; refine S_block rfl ?_; refine S_seq rfl ?_; refine S_seq rfl (S_region rfl rfl ?_); refine R_take (T_decF rfl (by omega)) ?_ rfl rfl; refine R_p rfl ?_ rfl rfl; refine R_nil ?_; refine S_false rfl rfl ?_; refine S_region rfl rfl ?_; refine R_take (T_decF rfl (by omega)) ?_ rfl rfl; refine R_p rfl ?_ rfl rfl; refine R_nil ?_; refine S_false rfl rfl ?_; refine S_seq rfl ?_; refine S_seq rfl (S_region rfl rfl ?_); refine R_take (T_decF rfl (by omega)) ?_ rfl rfl; refine R_p rfl ?_ rfl rfl; refine R_nil ?_; refine S_false rfl rfl ?_; refine S_region rfl rfl ?_; refine R_take (T_decT rfl (by omega)) ?_ rfl rfl; refine R_p rfl ?_ rfl rfl; refine R_nil ?_; refine S_true rfl rfl ?_; refine S_seq rfl (S_region rfl rfl ?_); refine R_p rfl ?_ rfl rfl; refine R_nil ?_)
    exact hB _ _ _ _ _ rfl rfl fun w' hS => ⟨(), rfl, trivial, hS.sublist (List.nil_sublist _)⟩
  · focus (refine S_seq rfl ?_; refine S_region rfl rfl ?_; refine R_p rfl ?_ rfl rfl; refine R_nil ?_; refine S_seq rfl ?_; refine S_seq rfl (S_region rfl rfl ?_); refine R_p rfl ?_ rfl rfl; refine R_nil ?_; refine S_block rfl ?_; refine S_seq rfl ?_; refine S_seq rfl (S_region rfl rfl ?_); refine R_take (T_decF rfl (by omega)) ?_ rfl rfl; refine R_p rfl ?_ rfl rfl; refine R_nil ?_; refine S_false rfl rfl ?_; refine S_region rfl rfl ?_; refine R_take (T_decF rfl (by omega)) ?_ rfl rfl; refine R_p rfl ?_ rfl rfl; refine R_nil ?_; refine S_false rfl rfl ?_; refine S_seq rfl ?_; refine S_seq rfl (S_region rfl rfl ?_); refine R_take (T_decF rfl (by omega)) ?_ rfl rfl; refine R_p rfl ?_ rfl rfl; refine R_nil ?_; refine S_false rfl rfl ?_; refine S_region rfl rfl ?_; refine R_take (T_decF rfl (by omega)) ?_ rfl rfl; refine R_p rfl ?_ rfl rfl; refine R_nil ?_; refine S_false rfl rfl ?_; refine S_seq rfl (S_region rfl rfl ?_); refine R_take (T_decT rfl (by omega)) ?_ rfl rfl; refine R_p rfl ?_ rfl rfl; refine R_nil ?_; refine S_true rfl rfl ?_; refine S_seq rfl (S_region rfl rfl ?_); refine R_p rfl ?_ rfl rfl; refine R_nil ?_)
    exact hB _ _ _ _ _ rfl rfl fun w' hS => ⟨(), rfl, trivial, hS.sublist (List.nil_sublist _)⟩
  · focus (refine S_seq rfl ?_; refine S_region rfl rfl ?_; refine R_p rfl ?_ rfl rfl; refine R_nil ?_; refine S_seq rfl ?_; refine S_seq rfl (S_region rfl rfl ?_); refine R_p rfl ?_ rfl rfl; refine R_nil ?_; refine S_block rfl ?_; refine S_seq rfl ?_; refine S_seq rfl (S_region rfl rfl ?_); refine R_take (T_decF rfl (by omega)) ?_ rfl rfl; refine R_p rfl ?_ rfl rfl; refine R_nil ?_; refine S_false rfl rfl ?_; refine S_region rfl rfl ?_; refine R_take (T_decF rfl (by omega)) ?_ rfl rfl; refine R_p rfl ?_ rfl rfl; refine R_nil ?_; refine S_false rfl rfl ?_; refine S_seq rfl ?_; refine S_seq rfl (S_region rfl rfl ?_); refine R_take (T_decF rfl (by omega)) ?_ rfl rfl; refine R_p rfl ?_ rfl rfl; refine R_nil ?_; refine S_false rfl rfl ?_; refine S_region rfl rfl ?_; refine R_take (T_decF rfl (by omega)) ?_ rfl rfl; refine R_p rfl ?_ rfl rfl; refine R_nil ?_; refine S_false rfl rfl ?_; refine S_seq rfl (S_region rfl rfl ?_); refine R_take (T_decF rfl (by omega)) ?_ rfl rfl; refine R_p rfl ?_ rfl rfl; refine R_nil ?_; refine S_false rfl rfl ?_; refine S_seq rfl (S_region rfl rfl ?_); refine R_take (T_decT rfl (by omega)) ?_ rfl rfl; refine R_p rfl ?_ rfl rfl; refine R_nil ?_; refine S_true rfl rfl ?_; refine S_seq rfl (S_region rfl rfl ?_); refine R_p rfl ?_ rfl rfl; refine R_nil ?_)
    exact hB _ _ _ _ _ rfl rfl fun w' hS => ⟨(), rfl, trivial, hS.sublist (List.nil_sublist _)⟩
  · focus (refine S_seq rfl ?_; refine S_region rfl rfl ?_; refine R_p rfl ?_ rfl rfl; refine R_nil ?_; refine S_seq rfl ?_; refine S_seq rfl (S_region rfl rfl ?_); refine R_p rfl ?_ rfl rfl; refine R_nil ?_; refine S_block rfl ?_; refine S_seq rfl ?_; refine S_seq rfl (S_region rfl rfl ?_); refine R_take (T_decF rfl (by omega)) ?_ rfl rfl; refine R_p rfl ?_ rfl rfl; refine R_nil ?_; refine S_false rfl rfl ?_; refine S_region rfl rfl ?_; refine R_take (T_decF rfl (by omega)) ?_ rfl rfl; refine R_p rfl ?_ rfl rfl; refine R_nil ?_; refine S_false rfl rfl ?_; refine S_seq rfl ?_; refine S_seq rfl (S_region rfl rfl ?_); refine R_take (T_decF rfl (by omega)) ?_ rfl rfl; refine R_p rfl ?_ rfl rfl; refine R_nil ?_; refine S_false rfl rfl ?_; refine S_region rfl rfl ?_; refine R_take (T_decF rfl (by omega)) ?_ rfl rfl; refine R_p rfl ?_ rfl rfl; refine R_nil ?_; refine S_false rfl rfl ?_; refine S_seq rfl (S_region rfl rfl ?_); refine R_take (T_decF rfl (by omega)) ?_ rfl rfl; refine R_p rfl ?_ rfl rfl; refine R_nil ?_; refine S_false rfl rfl ?_; refine S_seq rfl (S_region rfl rfl ?_); refine R_take (T_decF rfl (by omega)) ?_ rfl rfl; refine R_p rfl ?_ rfl rfl; refine R_nil ?_; refine S_false rfl rfl ?_; refine S_seq rfl (S_region rfl rfl ?_); refine R_take (T_decT rfl (by omega)) ?_ rfl rfl; refine R_p rfl ?_ rfl rfl; refine R_nil ?_; refine S_true rfl rfl ?_; refine S_seq rfl (S_region rfl rfl ?_); refine R_p rfl ?_ rfl rfl; refine R_nil ?_)
    exact hB _ _ _ _ _ rfl rfl fun w' hS => ⟨(), rfl, trivial, hS.sublist (List.nil_sublist _)⟩
  · focus (refine S_seq rfl ?_; refine S_region rfl rfl ?_; refine R_p rfl ?_ rfl rfl; refine R_nil ?_; refine S_seq rfl ?_; refine S_seq rfl (S_region rfl rfl ?_); refine R_p rfl ?_ rfl rfl; refine R_nil ?_; refine S_block rfl ?_; refine S_seq rfl ?_; refine S_seq rfl (S_region rfl rfl ?_); refine R_take (T_decF rfl (by omega)) ?_ rfl rfl; refine R_p rfl ?_ rfl rfl; refine R_nil ?_; refine S_false rfl rfl ?_; refine S_region rfl rfl ?_; refine R_take (T_decF rfl (by omega)) ?_ rfl rfl; refine R_p rfl ?_ rfl rfl; refine R_nil ?_; refine S_false rfl rfl ?_; refine S_seq rfl ?_; refine S_seq rfl (S_region rfl rfl ?_); refine R_take (T_decF rfl (by omega)) ?_ rfl rfl; refine R_p rfl ?_ rfl rfl; refine R_nil ?_; refine S_false rfl rfl ?_; refine S_region rfl rfl ?_; refine R_take (T_decF rfl (by omega)) ?_ rfl rfl; refine R_p rfl ?_ rfl rfl; refine R_nil ?_; refine S_false rfl rfl ?_; refine S_seq rfl (S_region rfl rfl ?_); refine R_take (T_decF rfl (by omega)) ?_ rfl rfl; refine R_p rfl ?_ rfl rfl; refine R_nil ?_; refine S_false rfl rfl ?_; refine S_seq rfl (S_region rfl rfl ?_); refine R_take (T_decF rfl (by omega)) ?_ rfl rfl; refine R_p rfl ?_ rfl rfl; refine R_nil ?_; refine S_false rfl rfl ?_; refine S_seq rfl (S_region rfl rfl ?_); refine R_take (T_decF rfl (by omega)) ?_ rfl rfl; refine R_p rfl ?_ rfl rfl; refine R_nil ?_; refine S_false rfl rfl ?_; refine S_skip rfl ?_; refine RS_blk ?_; refine S_seq rfl (S_region rfl rfl ?_); refine R_p rfl ?_ rfl rfl; refine R_nil ?_)
    have e : fldN K = 0 := by unfold fldN; rw [if_neg (by omega), if_neg (by omega), if_neg (by omega), if_neg (by omega), if_neg (by omega)]
    rw [e] at hB
    exact hB _ _ _ _ _ rfl rfl fun w' hS => ⟨(), rfl, trivial, hS.sublist (List.nil_sublist _)⟩
set_option maxRecDepth 100000 in
set_option maxHeartbeats 4000000 in
theorem server_any (w : World) (n : Int) (r : Bool) (hr : (decide (1 ≤ n) && decide (n ≤ 5)) = r) :
    Gives Tryd.prog 26 [.int .i64 n] [] w (X := Unit) (fun _ => .bool r) (fun _ => True) (fun _ => []) := by
  refine gives_S Tryd.func26 rfl Tryd.ntmps26 Tryd.results26 (by simp) (St.enter w) (fun B hB => ?_)
  subst hr
  by_cases h1 : 1 ≤ n
  · by_cases h2 : n ≤ 5
    · rw [decide_eq_true h1, decide_eq_true h2] at hB
      focus (refine S_seq rfl ?_; refine S_region rfl rfl ?_; refine R_p rfl ?_ rfl rfl; refine R_nil (S_seq rfl (S_region rfl rfl ?_)); refine R_p rfl ?_ rfl rfl; refine R_take (T_decT rfl (by omega)) ?_ rfl rfl; (iterate 2 refine R_p rfl ?_ rfl rfl); refine R_take (T_decT rfl (by omega)) ?_ rfl rfl; (iterate 2 refine R_p rfl ?_ rfl rfl); refine R_nil ?_)
      exact hB _ _ _ _ _ rfl rfl fun w' hS => ⟨(), rfl, trivial, hS.sublist (List.nil_sublist _)⟩
    · rw [decide_eq_true h1, decide_eq_false h2] at hB
      focus (refine S_seq rfl ?_; refine S_region rfl rfl ?_; refine R_p rfl ?_ rfl rfl; refine R_nil (S_seq rfl (S_region rfl rfl ?_)); refine R_p rfl ?_ rfl rfl; refine R_take (T_decT rfl (by omega)) ?_ rfl rfl; (iterate 2 refine R_p rfl ?_ rfl rfl); refine R_take (T_decF rfl (by omega)) ?_ rfl rfl; (iterate 2 refine R_p rfl ?_ rfl rfl); refine R_nil ?_)
      exact hB _ _ _ _ _ rfl rfl fun w' hS => ⟨(), rfl, trivial, hS.sublist (List.nil_sublist _)⟩
  · rw [decide_eq_false h1, Bool.false_and] at hB
    focus (refine S_seq rfl ?_; refine S_region rfl rfl ?_; refine R_p rfl ?_ rfl rfl; refine R_nil (S_seq rfl (S_region rfl rfl ?_)); refine R_p rfl ?_ rfl rfl; refine R_take (T_decF rfl (by omega)) ?_ rfl rfl; refine R_p rfl ?_ rfl rfl; (iterate 2 refine R_skip ?_ rfl rfl); (iterate 2 refine R_p rfl ?_ rfl rfl); refine R_nil ?_)
    exact hB _ _ _ _ _ rfl rfl fun w' hS => ⟨(), rfl, trivial, hS.sublist (List.nil_sublist _)⟩
set_option maxRecDepth 100000 in
set_option maxHeartbeats 4000000 in
theorem num255_any (w : World) (n : Int) :
    Gives Tryd.prog 30 [zv n] [] w (X := Unit) (fun _ => .bool (!(decide (1 ≤ n) && decide (n ≤ 255)))) (fun _ => True) (fun _ => []) := by
  refine gives_S Tryd.func30 rfl Tryd.ntmps30 Tryd.results30 (by simp) (St.enter w) (fun B hB => ?_)
  unfold zv
  by_cases h1 : 1 ≤ n
  · by_cases h2 : n ≤ 255
    · rw [decide_eq_true h1, decide_eq_true h2] at hB
      focus (refine S_seq rfl ?_; refine S_region rfl rfl ?_; refine R_p rfl ?_ rfl rfl; refine R_nil (S_seq rfl (S_region rfl rfl ?_)); refine R_p rfl ?_ rfl rfl; refine R_take (T_decF rfl (by omega)) ?_ rfl rfl; (iterate 2 refine R_p rfl ?_ rfl rfl); refine R_take (T_decF rfl (by omega)) ?_ rfl rfl; (iterate 2 refine R_p rfl ?_ rfl rfl); refine R_nil ?_)
      exact hB _ _ _ _ _ rfl rfl fun w' hS => ⟨(), rfl, trivial, hS.sublist (List.nil_sublist _)⟩
    · rw [decide_eq_true h1, decide_eq_false h2] at hB
      focus (refine S_seq rfl ?_; refine S_region rfl rfl ?_; refine R_p rfl ?_ rfl rfl; refine R_nil (S_seq rfl (S_region rfl rfl ?_)); refine R_p rfl ?_ rfl rfl; refine R_take (T_decF rfl (by omega)) ?_ rfl rfl; (iterate 2 refine R_p rfl ?_ rfl rfl); refine R_take (T_decT rfl (by omega)) ?_ rfl rfl; (iterate 2 refine R_p rfl ?_ rfl rfl); refine R_nil ?_)
      exact hB _ _ _ _ _ rfl rfl fun w' hS => ⟨(), rfl, trivial, hS.sublist (List.nil_sublist _)⟩
  · rw [decide_eq_false h1, Bool.false_and] at hB
    focus (refine S_seq rfl ?_; refine S_region rfl rfl ?_; refine R_p rfl ?_ rfl rfl; refine R_nil (S_seq rfl (S_region rfl rfl ?_)); refine R_p rfl ?_ rfl rfl; refine R_take (T_decT rfl (by omega)) ?_ rfl rfl; refine R_p rfl ?_ rfl rfl; (iterate 2 refine R_skip ?_ rfl rfl); (iterate 2 refine R_p rfl ?_ rfl rfl); refine R_nil ?_)
    exact hB _ _ _ _ _ rfl rfl fun w' hS => ⟨(), rfl, trivial, hS.sublist (List.nil_sublist _)⟩
/-- where one is, of which something is so -/
def idxZ (p : Int → Bool) (L : List Int) : Int := if L.all (fun x => !p x) then -1 else (L.findIdx p : Nat)
set_option maxRecDepth 100000 in
set_option maxHeartbeats 4000000 in
theorem idxfZ_any (w : World) (A : Option Addr) (n c f : Nat) (cap : List Value) (L : List Int) (p : Int → Bool) (h : Rd w All 1 A n (L.map zv)) (hn : n ≤ 100000) (hf : Fn_ Tryd.prog f)
    (hp : ∀ w', Kp All w w' → ∀ x ∈ L, Gives Tryd.prog f (zv x :: cap) [] w' (X := Unit) (fun _ => .bool (p x)) (fun _ => True) (fun _ => [])) :
    Gives Tryd.prog 61 [.slice A n c, .func (.func f) #[] cap.toArray] [] w (X := Unit) (fun _ => zi (idxZ p L)) (fun _ => True) (fun _ => []) := by
  refine gives_S Tryd.func61 rfl Tryd.ntmps61 Tryd.results61 (by simp) (St.enter w) (fun B hB => ?_)
  have hl : L.length = n := by have := h.1; simpa using this
  have hne : 0 < n → A ≠ none := fun h0 => by obtain ⟨ad, rfl, _⟩ := h.2 (by omega); simp
  subst hl
  focus (refine S_seq rfl ?_; refine S_region rfl rfl ?_; refine R_p rfl ?_ rfl rfl; refine R_nil ?_; refine S_seq rfl ?_; refine S_seq rfl (S_region rfl rfl ?_); (iterate 3 refine R_p rfl ?_ rfl rfl); refine R_nil ?_; refine S_block rfl ?_)
  refine S_loop (X := Nat) (fun j => [(0, .slice A L.length c), (1, .func (.func f) #[] cap.toArray), (7, .int .i64 (L.length : Int)), (8, .int .i64 (j : Int))]) (fun _ => []) (fun j => j ≤ L.length ∧ (L.take j).all (fun x => !p x) = true) (fun j => L.length - j) rfl 0 ⟨Nat.zero_le _, rfl⟩ (Sub.cons rfl (Sub.cons rfl (Sub.cons rfl (Sub.cons rfl Sub.nil)))) (fun _ h => h) ?_
  rintro j ⟨hj, hok⟩ J hJ
  rcases Nat.lt_or_ge j L.length with hjl | hjl
  · have hne := hne (by omega)
    have hat := zv_at (l := L) (j := j) hjl
    have hmem : L.getD j 0 ∈ L := by simp [List.getD, hjl]
    have htk : L.take (j + 1) = L.take j ++ [L.getD j 0] := by rw [List.take_succ_eq_append_getElem hjl]; simp [List.getD, hjl]
    have hsp : L = L.take j ++ L.getD j 0 :: L.drop (j + 1) := by
      conv => lhs; rw [← List.take_append_drop j L, List.drop_eq_getElem_cons hjl]
      simp [List.getD, hjl]
    obtain ⟨x, hx⟩ : ∃ x, L.getD j 0 = x := ⟨_, rfl⟩
    rw [hx] at hat hmem htk hsp
    obtain ⟨r, hr⟩ : ∃ r, p x = r := ⟨_, rfl⟩
    cases r
    · focus (refine S_seq rfl ?_; refine S_region rfl rfl ?_; refine R_take (T_decT rfl (by omega)) ?_ rfl rfl; refine R_nil ?_; refine S_seq rfl ?_; refine S_true rfl rfl ?_; refine S_skip rfl ?_; refine S_seq rfl ?_; refine S_block rfl ?_; refine S_seq rfl (S_region rfl rfl ?_); (iterate 2 refine R_p rfl ?_ rfl rfl); refine R_nil (S_seq rfl (S_region rfl rfl ?_)); (iterate 3 refine R_p rfl ?_ rfl rfl); refine R_take (T_ix1 rfl rfl rfl rfl rfl rfl hne hjl) ?_ rfl rfl; refine R_take (T_ldr (v := zv x) rfl rfl rfl (Srd.old h (fun k _ => noOwns k)) (by omega) hat) ?_ rfl rfl; (refine R_eff (E_cloA (cap := cap) rfl (E_gv0 hf (ogets_cap _ _ (zv x) rfl cap) (fun w' hS => hp w' hS.kpO x hmem) (fun _ => rfl))) ?_ rfl rfl; rintro _ _ ⟨_, rfl, _, rfl⟩; rw [hr]); refine R_nil ?_; refine S_false rfl rfl ?_; refine S_skip rfl ?_; refine RS_blk ?_; refine S_region rfl rfl ?_; refine R_take (T_addN rfl rfl (by unfold fits; omega)) ?_ rfl rfl; refine R_p rfl ?_ rfl rfl; refine R_nil ?_)
      exact hJ (j + 1) _ _ ⟨by omega, by rw [htk, List.all_append, hok]; simp [hr]⟩ (Sub.cons rfl (Sub.cons rfl (Sub.cons rfl (Sub.cons rfl Sub.nil)))) (fun _ h => h) (by omega)
    · focus (refine S_seq rfl ?_; refine S_region rfl rfl ?_; refine R_take (T_decT rfl (by omega)) ?_ rfl rfl; refine R_nil ?_; refine S_seq rfl ?_; refine S_true rfl rfl ?_; refine S_skip rfl ?_; refine S_seq rfl ?_; refine S_block rfl ?_; refine S_seq rfl (S_region rfl rfl ?_); (iterate 2 refine R_p rfl ?_ rfl rfl); refine R_nil (S_seq rfl (S_region rfl rfl ?_)); (iterate 3 refine R_p rfl ?_ rfl rfl); refine R_take (T_ix1 rfl rfl rfl rfl rfl rfl hne hjl) ?_ rfl rfl; refine R_take (T_ldr (v := zv x) rfl rfl rfl (Srd.old h (fun k _ => noOwns k)) (by omega) hat) ?_ rfl rfl; (refine R_eff (E_cloA (cap := cap) rfl (E_gv0 hf (ogets_cap _ _ (zv x) rfl cap) (fun w' hS => hp w' hS.kpO x hmem) (fun _ => rfl))) ?_ rfl rfl; rintro _ _ ⟨_, rfl, _, rfl⟩; rw [hr]); refine R_nil ?_; refine S_true rfl rfl ?_; refine S_seq rfl (S_region rfl rfl ?_); (iterate 2 refine R_p rfl ?_ rfl rfl); refine R_nil ?_)
      refine hB _ _ _ _ _ rfl rfl fun w' hS => ⟨(), ?_, trivial, hS.sublist (List.nil_sublist _)⟩
      show Value.int _ _ = Value.int _ _
      congr 1
      have h1 : ¬ L.all (fun x => !p x) = true := by
        rw [List.all_eq_true]
        intro h
        have := h x hmem
        rw [hr] at this
        cases this
      rw [idxZ, if_neg h1, hsp, List.findIdx_append]
      have h2 : (L.take j).findIdx p = (L.take j).length := by
        rw [List.findIdx_eq_length]
        intro y hy
        have := List.all_eq_true.1 hok y hy
        simpa using this
      rw [h2, if_neg (Nat.lt_irrefl _), List.findIdx_cons, hr]
      simp
      omega
  have hjn : j = L.length := by omega
  subst hjn
  rw [List.take_length] at hok
  focus (refine S_seq rfl ?_; refine S_region rfl rfl ?_; refine R_take (T_decF rfl (by omega)) ?_ rfl rfl; refine R_nil ?_; refine S_seq rfl ?_; refine S_false rfl rfl ?_; refine S_exit rfl rfl ?_; refine S_seq rfl (S_region rfl rfl ?_); refine R_p rfl ?_ rfl rfl; refine R_nil ?_)
  refine hB _ _ _ _ _ rfl rfl fun w' hS => ⟨(), ?_, trivial, hS.sublist (List.nil_sublist _)⟩
  rw [idxZ, if_pos hok]
  rfl
set_option maxRecDepth 100000 in
set_option maxHeartbeats 4000000 in
theorem confZ_any (w : World) (A : Option Addr) (n c f : Nat) (cap : List Value) (L : List Int) (p : Int → Bool) (h : Rd w All 1 A n (L.map zv)) (hn : n ≤ 100000) (hf : Fn_ Tryd.prog f)
    (hp : ∀ w', Kp All w w' → ∀ x ∈ L, Gives Tryd.prog f (zv x :: cap) [] w' (X := Unit) (fun _ => .bool (p x)) (fun _ => True) (fun _ => [])) :
    Gives Tryd.prog 29 [.slice A n c, .func (.func f) #[] cap.toArray] [] w (X := Unit) (fun _ => .bool (!L.all (fun x => !p x))) (fun _ => True) (fun _ => []) := by
  refine gives_S Tryd.func29 rfl Tryd.ntmps29 Tryd.results29 (by simp) (St.enter w) (fun B hB => ?_)
  focus (refine S_seq rfl ?_; refine S_region rfl rfl ?_; refine R_p rfl ?_ rfl rfl; refine R_nil (S_seq rfl (S_region rfl rfl ?_)); (iterate 2 refine R_p rfl ?_ rfl rfl); (refine R_eff (E_hv0 (f := 61) ⟨_, Tryd.func61, rfl, by kernel_rfl⟩ (fun w hS => idxfZ_any w A n c f cap L p ((Srd.old h (fun k _ => noOwns k)).rd w hS) hn hf (fun w' hk x hx => hp w' (hS.kpO.trans hk) x hx)) rfl rfl (fun _ => rfl)) ?_ rfl rfl; rintro _ _ ⟨_, rfl, _, rfl⟩); (iterate 2 refine R_p rfl ?_ rfl rfl); refine R_nil ?_)
  refine hB _ _ _ _ _ rfl rfl fun w' hS => ⟨(), ?_, trivial, hS.sublist (List.nil_sublist _)⟩
  refine congrArg Value.bool ?_
  rw [idxZ]
  cases L.all (fun x => !p x)
  · simp
  · simp
theorem cells_cut {α : Type} {f : α → List Value} {k : Nat} (hf : ∀ a, (f a).length = k) (l : List α) (d : α) (j : Nat) (hj : j < l.length) : ((cellsL f l).drop (j * k)).take k = f (l.getD j d) := by
  have h := cellsL_at (f := f) hf l d j hj
  have hl := cellsL_len (f := f) hf l
  have hle : (j + 1) * k ≤ l.length * k := Nat.mul_le_mul_right _ hj
  rw [Nat.succ_mul] at hle
  refine List.ext_getElem? fun i => ?_
  rw [List.getElem?_take]
  split
  · rename_i hi
    rw [List.getElem?_drop]
    have h2 : (f (l.getD j d))[i]? = some ((f (l.getD j d))[i]'(by rw [hf]; exact hi)) := List.getElem?_eq_getElem _
    rw [h2]
    exact h i _ h2
  · rename_i hi
    exact (List.getElem?_eq_none (by rw [hf]; omega)).symm
/-- bits of numbers -/
def bitsN : List (Bool × Nat) → Nat → Nat
  | [], v => v
  | z :: l, v => bitsN l (if z.1 then v ||| z.2 else v)
def setL (x : Ms) : List (Bool × Nat) := [(!decide (x.pl = (0, 0)), 1), (x.ok, 2), (decide (0 < x.es.length), 4), (decide (0 < x.cm), 8), (decide (0 < x.ix), 16), (decide (0 < x.cf.length), 32), (decide (0 < x.dt.length), 64)]
def setN (x : Ms) : Nat := bitsN (setL x) 0
def sfc (z : Bool × Nat) : List Value := [.bool z.1, .int .i64 (z.2 : Int)]
theorem sfc_len (z : Bool × Nat) : (sfc z).length = 2 := rfl
theorem sfc_one (z : Bool × Nat) : ∀ u ∈ sfc z, u.oneCell' = true := by simp [sfc, Value.oneCell']
theorem sf_zero : ti95.zero = .agg (sfc (false, 0)).toArray := by kernel_rfl
theorem sf_built (b : Bool) (f : Nat) : Tryd.prog.built 95 [(0, .bool b), (1, .int .i64 (f : Int))] = some (sfc (b, f)).toArray := by kernel_rfl
theorem s7_built (a b c d e f g : Bool × Nat) : Tryd.prog.built 96 [(0, .agg (sfc a).toArray), (1, .agg (sfc b).toArray), (2, .agg (sfc c).toArray), (3, .agg (sfc d).toArray), (4, .agg (sfc e).toArray), (5, .agg (sfc f).toArray), (6, .agg (sfc g).toArray)] = some (cellsL sfc [a, b, c, d, e, f, g]).toArray := by kernel_rfl
theorem bits_snoc (l : List (Bool × Nat)) (z : Bool × Nat) (v : Nat) : bitsN (l ++ [z]) v = if z.1 then bitsN l v ||| z.2 else bitsN l v := by
  induction l generalizing v with
  | nil => rfl
  | cons y l ih => exact ih _
theorem bits_lt : ∀ (l : List (Bool × Nat)) (v : Nat), (∀ z ∈ l, z.2 < 128) → v < 128 → bitsN l v < 128
  | [], v, _, hv => hv
  | z :: l, v, hl, hv => by
    unfold bitsN
    refine bits_lt l _ (fun y hy => hl y (List.mem_cons_of_mem _ hy)) ?_
    split
    · exact Nat.or_lt_two_pow (n := 7) hv (hl z (List.mem_cons_self ..))
    · exact hv
theorem setL_lt (x : Ms) : ∀ z ∈ setL x, z.2 < 128 := by simp [setL]
section
variable {P : Program} {n : Nat} {w0 : World} {M : Nat → Prop} {T : Slots} {H : List Asn} {dd : Option Tmp} {tt : TypeId} {pos : String} {af : Array Edge} {g : Option (Nat × Bool)} {x y : Operand} {t u : TypeId}
theorem wrap_nat {p : Nat} (hp : p < 9223372036854775808) : IntKind.i64.wrap (p : Int) = (p : Int) := wrap_fits (show fits .i64 (p : Int) by unfold fits; omega)
theorem T_orN {i j : Int} {p q r : Nat} (h : p ||| q = r) (hx : oget T x = some (.int .i64 i)) (hy : oget T y = some (.int .i64 j)) [hi : NatOf i p] [hj : NatOf j q] (hp : p < 128) (hq : q < 128) :
    Tk P n w0 M T H ⟨dd, .binOp .or t x y u, tt, pos, af, g⟩ (.int .i64 (r : Int)) := by
  subst h
  rw [hi.is] at hx
  rw [hj.is] at hy
  refine T_arith hx hy ?_
  have h1 : p ||| q < 128 := Nat.or_lt_two_pow (n := 7) hp hq
  show some (IntKind.i64.wrap (((BitVec.ofInt 64 (p : Int) ||| BitVec.ofInt 64 (q : Int)).toNat : Nat) : Int)) = _
  rw [BitVec.ofInt_natCast, BitVec.ofInt_natCast, BitVec.toNat_or, BitVec.toNat_ofNat, BitVec.toNat_ofNat, Nat.mod_eq_of_lt (by omega), Nat.mod_eq_of_lt (by omega), wrap_nat (by omega)]
theorem T_andN {i j : Int} {p q r : Nat} (h : p &&& q = r) (hx : oget T x = some (.int .i64 i)) (hy : oget T y = some (.int .i64 j)) [hi : NatOf i p] [hj : NatOf j q] (hp : p < 128) (hq : q < 128) :
    Tk P n w0 M T H ⟨dd, .binOp .and t x y u, tt, pos, af, g⟩ (.int .i64 (r : Int)) := by
  subst h
  rw [hi.is] at hx
  rw [hj.is] at hy
  refine T_arith hx hy ?_
  have h1 : p &&& q < 128 := Nat.lt_of_le_of_lt Nat.and_le_left hp
  show some (IntKind.i64.wrap (((BitVec.ofInt 64 (p : Int) &&& BitVec.ofInt 64 (q : Int)).toNat : Nat) : Int)) = _
  rw [BitVec.ofInt_natCast, BitVec.ofInt_natCast, BitVec.toNat_and, BitVec.toNat_ofNat, BitVec.toNat_ofNat, Nat.mod_eq_of_lt (by omega), Nat.mod_eq_of_lt (by omega), wrap_nat (by omega)]
/-- an element of an array of structs -/
theorem part_ag {P : Program} {t : TypeId} {ds : TypeDesc} {xs ys : Array Value} {off n : Nat} (hu : P.underlying t = some ds) (ha : aggB ds = true) (hz : ∀ w, (sizeOf t).run P w = .ok n w) (hx : xs.extract off (off + n) = ys) (w : World) : (part t xs off).run P w = .ok (.agg ys) w := by
  subst hx
  cases ds <;> first | (cases ha; done) | simp [part, isAgg, run_underlying hu, hz]
theorem T_ixva [HasTab P] {s e : TypeId} {m q sz : Nat} {z : Int} {kk : IntKind} {i ei : Ti} {cs ds : List Value} (hx : oget T x = some (.agg cs.toArray)) (hy : oget T y = some (.int kk z)) [hz : NatOf z q] (hs : ty P s = some i) (hi : i.desc = .array m e) (he : ty P e = some ei) (ha : aggB ei.desc = true) (h1 : ei.size = sz) (hq : q < m) (hv : (cs.drop (q * sz)).take sz = ds) :
    Tk P n w0 M T H ⟨dd, .index s x y, tt, pos, af, g⟩ (.agg ds.toArray) := .mk fun a w hT hS => by
  subst h1
  rw [hz.is] at hy
  have hu := run_underlying (hi ▸ ty_ok hs) w
  have hp := part_ag (P := P) (t := e) (ty_ok he) ha (xs := cs.toArray) (off := q * ei.size) (n := ei.size) (ys := ds.toArray) (fun w => ty_size he w) (by subst hv; simp) w
  have hr : (Instr.index s (.agg cs.toArray) (.int kk (q : Int))).run P w = .ok (.agg ds.toArray) w := by
    simp [Instr.index, hu, asIntOf, ty_size he w, hq, hp]
  simp only [execOp, hT.eval hx, hT.eval hy, Sem.run_bind, hr, Result.andThen_ok, Sem.run_pure]
theorem T_build7 {s : TypeId} {j1 j2 j3 j4 j5 j6 j7 : Nat} {x1 x2 x3 x4 x5 x6 x7 : Operand} {u1 u2 u3 u4 u5 u6 u7 : Value} {cs : List Value} (h1 : oget T x1 = some u1) (h2 : oget T x2 = some u2) (h3 : oget T x3 = some u3) (h4 : oget T x4 = some u4) (h5 : oget T x5 = some u5) (h6 : oget T x6 = some u6) (h7 : oget T x7 = some u7) (hb : P.built s [(j1, u1), (j2, u2), (j3, u3), (j4, u4), (j5, u5), (j6, u6), (j7, u7)] = some cs.toArray) :
    Tk P n w0 M T H ⟨dd, .build s #[(j1, x1), (j2, x2), (j3, x3), (j4, x4), (j5, x5), (j6, x6), (j7, x7)], tt, pos, af, g⟩ (.agg cs.toArray) := .mk fun a w ha hS => by
  have hr := run_build (P := P) w s #[(j1, u1), (j2, u2), (j3, u3), (j4, u4), (j5, u5), (j6, u6), (j7, u7)] cs.toArray (by simpa using hb)
  simp only [execOp, List.map_toArray, List.map_cons, List.map_nil, ha.eval h1, ha.eval h2, ha.eval h3, ha.eval h4, ha.eval h5, ha.eval h6, ha.eval h7, Sem.run_bind, hr, Result.andThen_ok, Sem.run_pure]
end
set_option maxRecDepth 100000 in
set_option maxHeartbeats 4000000 in
theorem set_any (w : World) (x : Ms) (p : Mp) (h : MsR w x p) :
    Gives Tryd.prog 25 [.agg (mgc x p).toArray] [] w (X := Unit) (fun _ => .int .i64 (setN x : Int)) (fun _ => True) (fun _ => []) := by
  refine gives_S Tryd.func25 rfl Tryd.ntmps25 Tryd.results25 (by simp) (St.enter w) (fun B hB => ?_)
  obtain ⟨s, hs⟩ : ∃ s, setL x = s := ⟨_, rfl⟩
  have hs7 : ∀ z ∈ s, z.2 < 128 := hs ▸ setL_lt x
  have hsl : s.length = 7 := by rw [← hs]; rfl
  have hr : setN x = bitsN s 0 := by unfold setN; rw [hs]
  rw [hr] at hB
  have hln := h.ln
  have hdn := h.dn
  have hcn := h.hc
  have e3 : decide ((0 : Int) < (p.n : Int)) = decide (0 < x.es.length) := decide_eq_decide.2 (by omega)
  have e4 : decide ((0 : Int) < (x.cm : Int)) = decide (0 < x.cm) := decide_eq_decide.2 (by omega)
  have e5 : decide ((0 : Int) < (x.ix : Int)) = decide (0 < x.ix) := decide_eq_decide.2 (by omega)
  have e6 : decide ((0 : Int) < (p.cn : Int)) = decide (0 < x.cf.length) := decide_eq_decide.2 (by omega)
  have e7 : decide ((0 : Int) < (p.dn : Int)) = decide (0 < x.dt.length) := decide_eq_decide.2 (by omega)
  focus (refine S_seq rfl ?_; refine S_region rfl rfl ?_; (refine R_eff (E_boxa (cs := mgc x p) rfl) ?_ rfl rfl; rintro _ _ ⟨b1, rfl, rfl⟩); refine R_p rfl ?_ rfl rfl; refine R_nil (S_seq rfl (S_region rfl rfl ?_)); refine R_p rfl ?_ rfl rfl; refine R_nil ?_; refine S_seq rfl ?_; refine S_seq rfl ?_; (refine S_draw _ (fun _ h => h) (by kernel_rfl) rfl (by kernel_rfl) (rfl : _ = 34) ?_; (refine D_take 0 rfl (pev_ok rfl) ?_ rfl rfl (by kernel_rfl) (by kernel_rfl)); (refine D_take 1 rfl (T_loads (ds := atc x.pl) rfl rfl rfl rfl rfl) ?_ rfl rfl (by kernel_rfl) (by kernel_rfl)); (refine D_take 2 rfl (T_build0 at_built0) ?_ rfl rfl (by kernel_rfl) (by kernel_rfl)); (refine D_take 3 rfl (T_neAt (a := x.pl) (b := (0, 0)) rfl rfl rfl) ?_ rfl rfl (by kernel_rfl) (by kernel_rfl)); (refine D_take 4 rfl (T_build2 rfl rfl (sf_built _ _)) ?_ rfl rfl (by kernel_rfl) (by kernel_rfl)); (refine D_take 5 rfl (pev_ok rfl) ?_ rfl rfl (by kernel_rfl) (by kernel_rfl)); (refine D_take 6 rfl (T_load rfl rfl rfl rfl) ?_ rfl rfl (by kernel_rfl) (by kernel_rfl)); (refine D_take 7 rfl (T_build2 rfl rfl (sf_built _ _)) ?_ rfl rfl (by kernel_rfl) (by kernel_rfl)); (refine D_take 8 rfl (pev_ok rfl) ?_ rfl rfl (by kernel_rfl) (by kernel_rfl)); (refine D_take 9 rfl (T_load rfl rfl rfl rfl) ?_ rfl rfl (by kernel_rfl) (by kernel_rfl)); (refine D_take 10 rfl (pev_ok rfl) ?_ rfl rfl (by kernel_rfl) (by kernel_rfl)); (refine D_take 11 rfl (pev_ok rfl) ?_ rfl rfl (by kernel_rfl) (by kernel_rfl)); (refine D_take 12 rfl (T_build2 rfl rfl (sf_built _ _)) ?_ rfl rfl (by kernel_rfl) (by kernel_rfl)); (refine D_take 13 rfl (pev_ok rfl) ?_ rfl rfl (by kernel_rfl) (by kernel_rfl)); (refine D_take 14 rfl (T_load rfl rfl rfl rfl) ?_ rfl rfl (by kernel_rfl) (by kernel_rfl)); (refine D_take 15 rfl (pev_ok rfl) ?_ rfl rfl (by kernel_rfl) (by kernel_rfl)); (refine D_take 16 rfl (T_build2 rfl rfl (sf_built _ _)) ?_ rfl rfl (by kernel_rfl) (by kernel_rfl)); (refine D_take 17 rfl (pev_ok rfl) ?_ rfl rfl (by kernel_rfl) (by kernel_rfl)); (refine D_take 18 rfl (T_load rfl rfl rfl rfl) ?_ rfl rfl (by kernel_rfl) (by kernel_rfl)); (refine D_take 19 rfl (pev_ok rfl) ?_ rfl rfl (by kernel_rfl) (by kernel_rfl)); (refine D_take 20 rfl (T_build2 rfl rfl (sf_built _ _)) ?_ rfl rfl (by kernel_rfl) (by kernel_rfl)); (refine D_take 21 rfl (pev_ok rfl) ?_ rfl rfl (by kernel_rfl) (by kernel_rfl)); (refine D_take 22 rfl (pev_ok rfl) ?_ rfl rfl (by kernel_rfl) (by kernel_rfl)); (refine D_take 23 rfl (T_load rfl rfl rfl rfl) ?_ rfl rfl (by kernel_rfl) (by kernel_rfl)); (refine D_take 24 rfl (pev_ok rfl) ?_ rfl rfl (by kernel_rfl) (by kernel_rfl)); (refine D_take 25 rfl (pev_ok rfl) ?_ rfl rfl (by kernel_rfl) (by kernel_rfl)); (refine D_take 26 rfl (T_build2 rfl rfl (sf_built _ _)) ?_ rfl rfl (by kernel_rfl) (by kernel_rfl)); (refine D_take 27 rfl (pev_ok rfl) ?_ rfl rfl (by kernel_rfl) (by kernel_rfl)); (refine D_take 28 rfl (T_load rfl rfl rfl rfl) ?_ rfl rfl (by kernel_rfl) (by kernel_rfl)); (refine D_take 29 rfl (pev_ok rfl) ?_ rfl rfl (by kernel_rfl) (by kernel_rfl)); (refine D_take 30 rfl (pev_ok rfl) ?_ rfl rfl (by kernel_rfl) (by kernel_rfl)); (refine D_take 31 rfl (T_build2 rfl rfl (sf_built _ _)) ?_ rfl rfl (by kernel_rfl) (by kernel_rfl)); (refine D_take 32 rfl (T_build7 rfl rfl rfl rfl rfl rfl rfl (s7_built _ _ _ _ _ _ _)) ?_ rfl rfl (by kernel_rfl) (by kernel_rfl)); (refine D_take 33 rfl (pev_ok rfl) ?_ rfl rfl (by kernel_rfl) (by kernel_rfl)); refine D_done ?_ (by kernel_rfl)); refine S_block rfl ?_)
  rw [e3, e4, e5, e6, e7]
  have hs' : [(!decide (x.pl = (0, 0)), 1), (x.ok, 2), (decide (0 < x.es.length), 4), (decide (0 < x.cm), 8), (decide (0 < x.ix), 16), (decide (0 < x.cf.length), 32), (decide (0 < x.dt.length), 64)] = s := hs
  rw [hs']
  refine S_loop (X := Nat × Nat) (fun z => [(38, .agg (cellsL sfc s).toArray), (39, .int .i64 (z.1 : Int)), (3, .int .i64 (z.2 : Int))]) (fun _ => []) (fun z => z.1 ≤ 7 ∧ z.2 = bitsN (s.take z.1) 0 ∧ z.2 < 128) (fun z => 7 - z.1) rfl (0, 0) ⟨by decide, rfl, by decide⟩ (Sub.cons rfl (Sub.cons rfl (Sub.cons rfl Sub.nil))) sub_st ?_
  rintro ⟨j, v⟩ ⟨hj, hv, hv7⟩ J hJ
  dsimp only at hj hv hv7 ⊢
  rcases Nat.lt_or_ge j 7 with hjl | hjl
  · have htk : s.take (j + 1) = s.take j ++ [s.getD j default] := by rw [List.take_succ_eq_append_getElem (by omega)]; simp [List.getD, show j < s.length by omega]
    have hm : s.getD j default ∈ s := by simp [List.getD, show j < s.length by omega]
    have hdr : ((cellsL sfc s).drop (j * 2)).take 2 = sfc (s.getD j default) := cells_cut sfc_len s default j (by omega)
    have hb7 := hs7 _ hm
    generalize s.getD j default = z at htk hdr hb7
    obtain ⟨b, f⟩ := z
    have hb7 : f < 128 := hb7
    have hnx : bitsN (s.take (j + 1)) 0 = if b then v ||| f else v := by rw [htk, bits_snoc, ← hv]
    cases b
    · skip
      focus (refine S_seq rfl ?_; refine S_region rfl rfl ?_; refine R_take (T_decT rfl (by omega)) ?_ rfl rfl; refine R_nil ?_; refine S_seq rfl ?_; refine S_true rfl rfl ?_; refine S_skip rfl ?_; refine S_seq rfl ?_; refine S_block rfl ?_; refine S_seq rfl (S_region rfl rfl ?_); refine R_take (T_ixva (q := j) (sz := 2) (ds := sfc (false, f)) rfl rfl rfl rfl rfl rfl rfl (by omega) hdr) ?_ rfl rfl; (refine R_eff (E_alloca rfl sf_zero) ?_ rfl rfl; rintro _ _ ⟨b5, rfl, rfl⟩); (refine R_eff0 (E_storew (cs := sfc (false, 0)) (ds := sfc (false, f)) rfl rfl rfl rfl (sfc_one _) rfl) ?_ rfl; rintro _ _ rfl); refine R_nil (S_seq rfl (S_region rfl rfl ?_)); refine R_p rfl ?_ rfl rfl; refine R_take (T_load rfl rfl rfl rfl) ?_ rfl rfl; refine R_nil ?_; refine S_false rfl rfl ?_; refine S_skip rfl ?_; refine RS_blk ?_; refine S_region rfl rfl ?_; refine R_take (T_addN rfl rfl (by unfold fits; omega)) ?_ rfl rfl; refine R_p rfl ?_ rfl rfl; refine R_nil ?_)
      exact hJ (j + 1, v) _ _ ⟨by show j + 1 ≤ 7; omega, hnx.symm, hv7⟩ (Sub.cons rfl (Sub.cons rfl (Sub.cons rfl Sub.nil))) sub_st (by show 7 - (j + 1) < _; omega)
    · skip
      focus (refine S_seq rfl ?_; refine S_region rfl rfl ?_; refine R_take (T_decT rfl (by omega)) ?_ rfl rfl; refine R_nil ?_; refine S_seq rfl ?_; refine S_true rfl rfl ?_; refine S_skip rfl ?_; refine S_seq rfl ?_; refine S_block rfl ?_; refine S_seq rfl (S_region rfl rfl ?_); refine R_take (T_ixva (q := j) (sz := 2) (ds := sfc (true, f)) rfl rfl rfl rfl rfl rfl rfl (by omega) hdr) ?_ rfl rfl; (refine R_eff (E_alloca rfl sf_zero) ?_ rfl rfl; rintro _ _ ⟨b5, rfl, rfl⟩); (refine R_eff0 (E_storew (cs := sfc (false, 0)) (ds := sfc (true, f)) rfl rfl rfl rfl (sfc_one _) rfl) ?_ rfl; rintro _ _ rfl); refine R_nil (S_seq rfl (S_region rfl rfl ?_)); refine R_p rfl ?_ rfl rfl; refine R_take (T_load rfl rfl rfl rfl) ?_ rfl rfl; refine R_nil ?_; refine S_true rfl rfl ?_; refine S_region rfl rfl ?_; (iterate 2 refine R_p rfl ?_ rfl rfl); refine R_take (T_load rfl rfl rfl rfl) ?_ rfl rfl; refine R_take (T_orN (p := v) (q := f) (r := v ||| f) rfl rfl rfl hv7 hb7) ?_ rfl rfl; refine R_p rfl ?_ rfl rfl; refine R_nil ?_; refine RS_blk ?_; refine S_region rfl rfl ?_; refine R_take (T_addN rfl rfl (by unfold fits; omega)) ?_ rfl rfl; refine R_p rfl ?_ rfl rfl; refine R_nil ?_)
      exact hJ (j + 1, v ||| f) _ _ ⟨by show j + 1 ≤ 7; omega, hnx.symm, Nat.or_lt_two_pow (n := 7) hv7 hb7⟩ (Sub.cons rfl (Sub.cons rfl (Sub.cons rfl Sub.nil))) sub_st (by show 7 - (j + 1) < _; omega)
  obtain rfl : j = 7 := by omega
  rw [List.take_of_length_le (by omega)] at hv
  subst hv
  focus (refine S_seq rfl ?_; refine S_region rfl rfl ?_; refine R_take (T_decF rfl (by omega)) ?_ rfl rfl; refine R_nil ?_; refine S_seq rfl ?_; refine S_false rfl rfl ?_; refine S_exit rfl rfl ?_; refine S_seq rfl (S_region rfl rfl ?_); (iterate 2 refine R_p rfl ?_ rfl rfl); refine R_nil ?_)
  exact hB _ _ _ _ _ rfl rfl fun w' hS => ⟨(), rfl, trivial, hS.sublist (List.nil_sublist _)⟩
/-- may a place be, for a kind and a term? -/
def sndB (K : Int) (tm a t n : Nat) : Bool := (decide (a = 0) == decide (t = 0)) && decide (t ≤ tm) && decide (a ≤ 18446744073709551614 - n) && (if K = 1 then decide (t < tm) else if K = 7 then decide (0 < t) else true)
set_option maxRecDepth 100000 in
set_option maxHeartbeats 4000000 in
theorem sound_k (w : World) (x : Ms) (p : Mp) (h : MsR w x p) (r : Bool) (hr : sndB x.K x.tm x.pl.1 x.pl.2 p.n = r) :
    Gives Tryd.prog 27 [.agg (mgc x p).toArray] [] w (X := Unit) (fun _ => .bool r) (fun _ => True) (fun _ => []) := by
  refine gives_S Tryd.func27 rfl Tryd.ntmps27 Tryd.results27 (by simp) (St.enter w) (fun B hB => ?_)
  have hm := h.hm
  unfold maxLen at hm
  clear h
  rcases (by omega : (x.pl.1 = 0 ∧ x.pl.2 ≠ 0) ∨ (x.pl.1 ≠ 0 ∧ x.pl.2 = 0) ∨ (x.pl.1 = 0 ∧ x.pl.2 = 0) ∨ (x.pl.1 ≠ 0 ∧ x.pl.2 ≠ 0)) with ⟨ha, ht⟩ | ⟨ha, ht⟩ | ⟨ha, ht⟩ | ⟨ha, ht⟩
  · obtain rfl : r = false := by rw [← hr]; simp [sndB]; omega
    focus (refine S_seq rfl ?_; refine S_region rfl rfl ?_; (refine R_eff (E_boxa (cs := mgc x p) rfl) ?_ rfl rfl; rintro _ _ ⟨b1, rfl, rfl⟩); refine R_p rfl ?_ rfl rfl; refine R_nil (S_seq rfl (S_region rfl rfl ?_)); refine R_p rfl ?_ rfl rfl; refine R_take (T_loads (ds := atc x.pl) rfl rfl rfl rfl rfl) ?_ rfl rfl; (refine R_eff (E_alloca rfl at_zero) ?_ rfl rfl; rintro _ _ ⟨b3, rfl, rfl⟩); (refine R_eff0 (E_storew (cs := atc (0, 0)) (ds := atc x.pl) rfl rfl rfl rfl (atc_one _) rfl) ?_ rfl; rintro _ _ rfl); refine R_nil ?_; refine S_seq rfl ?_; refine S_block rfl ?_; refine S_seq rfl ?_; refine S_seq rfl (S_region rfl rfl ?_); refine R_p rfl ?_ rfl rfl; refine R_take (T_load rfl rfl rfl rfl) ?_ rfl rfl; refine R_take (T_decT rfl (by omega)) ?_ rfl rfl; refine R_p rfl ?_ rfl rfl; refine R_take (T_load rfl rfl rfl rfl) ?_ rfl rfl; refine R_take (T_decF rfl (by omega)) ?_ rfl rfl; refine R_take (T_bnq rfl rfl rfl rfl rfl) ?_ rfl rfl; refine R_p rfl ?_ rfl rfl; refine R_nil ?_; refine S_true rfl rfl ?_; refine S_skip rfl ?_; refine S_true rfl rfl ?_; refine S_seq rfl (S_region rfl rfl ?_); refine R_p rfl ?_ rfl rfl; refine R_nil ?_)
    exact hB _ _ _ _ _ rfl rfl fun w' hS => ⟨(), rfl, trivial, hS.sublist (List.nil_sublist _)⟩
  · obtain rfl : r = false := by rw [← hr]; simp [sndB]; omega
    focus (refine S_seq rfl ?_; refine S_region rfl rfl ?_; (refine R_eff (E_boxa (cs := mgc x p) rfl) ?_ rfl rfl; rintro _ _ ⟨b1, rfl, rfl⟩); refine R_p rfl ?_ rfl rfl; refine R_nil (S_seq rfl (S_region rfl rfl ?_)); refine R_p rfl ?_ rfl rfl; refine R_take (T_loads (ds := atc x.pl) rfl rfl rfl rfl rfl) ?_ rfl rfl; (refine R_eff (E_alloca rfl at_zero) ?_ rfl rfl; rintro _ _ ⟨b3, rfl, rfl⟩); (refine R_eff0 (E_storew (cs := atc (0, 0)) (ds := atc x.pl) rfl rfl rfl rfl (atc_one _) rfl) ?_ rfl; rintro _ _ rfl); refine R_nil ?_; refine S_seq rfl ?_; refine S_block rfl ?_; refine S_seq rfl ?_; refine S_seq rfl (S_region rfl rfl ?_); refine R_p rfl ?_ rfl rfl; refine R_take (T_load rfl rfl rfl rfl) ?_ rfl rfl; refine R_take (T_decF rfl (by omega)) ?_ rfl rfl; refine R_p rfl ?_ rfl rfl; refine R_take (T_load rfl rfl rfl rfl) ?_ rfl rfl; refine R_take (T_decT rfl (by omega)) ?_ rfl rfl; refine R_take (T_bnq rfl rfl rfl rfl rfl) ?_ rfl rfl; refine R_p rfl ?_ rfl rfl; refine R_nil ?_; refine S_true rfl rfl ?_; refine S_skip rfl ?_; refine S_true rfl rfl ?_; refine S_seq rfl (S_region rfl rfl ?_); refine R_p rfl ?_ rfl rfl; refine R_nil ?_)
    exact hB _ _ _ _ _ rfl rfl fun w' hS => ⟨(), rfl, trivial, hS.sublist (List.nil_sublist _)⟩
  · by_cases h1 : x.pl.2 ≤ x.tm
    · by_cases h2 : x.pl.1 ≤ 18446744073709551614 - p.n
      · by_cases hK : x.K = 1
        · by_cases h3 : x.pl.2 < x.tm
          · obtain rfl : r = true := by rw [← hr]; simp [sndB, hK]; omega
            focus (refine S_seq rfl ?_; refine S_region rfl rfl ?_; (refine R_eff (E_boxa (cs := mgc x p) rfl) ?_ rfl rfl; rintro _ _ ⟨b1, rfl, rfl⟩); refine R_p rfl ?_ rfl rfl; refine R_nil (S_seq rfl (S_region rfl rfl ?_)); refine R_p rfl ?_ rfl rfl; refine R_take (T_loads (ds := atc x.pl) rfl rfl rfl rfl rfl) ?_ rfl rfl; (refine R_eff (E_alloca rfl at_zero) ?_ rfl rfl; rintro _ _ ⟨b3, rfl, rfl⟩); (refine R_eff0 (E_storew (cs := atc (0, 0)) (ds := atc x.pl) rfl rfl rfl rfl (atc_one _) rfl) ?_ rfl; rintro _ _ rfl); refine R_nil ?_; refine S_seq rfl ?_; refine S_block rfl ?_; refine S_seq rfl ?_; refine S_seq rfl (S_region rfl rfl ?_); refine R_p rfl ?_ rfl rfl; refine R_take (T_load rfl rfl rfl rfl) ?_ rfl rfl; refine R_take (T_decT rfl (by omega)) ?_ rfl rfl; refine R_p rfl ?_ rfl rfl; refine R_take (T_load rfl rfl rfl rfl) ?_ rfl rfl; refine R_take (T_decT rfl (by omega)) ?_ rfl rfl; refine R_take (T_bnq rfl rfl rfl rfl rfl) ?_ rfl rfl; refine R_p rfl ?_ rfl rfl; refine R_nil ?_; refine S_false rfl rfl ?_; refine S_seq rfl (S_region rfl rfl ?_); refine R_p rfl ?_ rfl rfl; refine R_take (T_load rfl rfl rfl rfl) ?_ rfl rfl; refine R_p rfl ?_ rfl rfl; refine R_take (T_load rfl rfl rfl rfl) ?_ rfl rfl; refine R_take (T_decF rfl (by omega)) ?_ rfl rfl; refine R_p rfl ?_ rfl rfl; refine R_nil ?_; refine S_false rfl rfl ?_; refine S_region rfl rfl ?_; refine R_p rfl ?_ rfl rfl; refine R_take (T_load rfl rfl rfl rfl) ?_ rfl rfl; refine R_p rfl ?_ rfl rfl; refine R_take (T_load rfl rfl rfl rfl) ?_ rfl rfl; refine R_p rfl ?_ rfl rfl; refine R_take (T_convf rfl rfl rfl rfl (by unfold fits; omega)) ?_ rfl rfl; refine R_take (T_subN (p := 18446744073709551614) (q := p.n) rfl rfl (by omega) (by unfold fits; omega)) ?_ rfl rfl; refine R_take (T_decF rfl (by omega)) ?_ rfl rfl; refine R_p rfl ?_ rfl rfl; refine R_nil ?_; refine S_false rfl rfl ?_; refine S_seq rfl (S_region rfl rfl ?_); refine R_p rfl ?_ rfl rfl; refine R_take (T_load rfl rfl rfl rfl) ?_ rfl rfl; refine R_take (T_decT rfl (by omega)) ?_ rfl rfl; refine R_p rfl ?_ rfl rfl; refine R_nil ?_; refine S_true rfl rfl ?_; refine S_seq rfl (S_region rfl rfl ?_); refine R_p rfl ?_ rfl rfl; refine R_take (T_load rfl rfl rfl rfl) ?_ rfl rfl; refine R_p rfl ?_ rfl rfl; refine R_take (T_load rfl rfl rfl rfl) ?_ rfl rfl; refine R_take (T_decT rfl (by omega)) ?_ rfl rfl; refine R_p rfl ?_ rfl rfl; refine R_nil ?_)
            exact hB _ _ _ _ _ rfl rfl fun w' hS => ⟨(), rfl, trivial, hS.sublist (List.nil_sublist _)⟩
          · obtain rfl : r = false := by rw [← hr]; simp [sndB, hK]; omega
            focus (refine S_seq rfl ?_; refine S_region rfl rfl ?_; (refine R_eff (E_boxa (cs := mgc x p) rfl) ?_ rfl rfl; rintro _ _ ⟨b1, rfl, rfl⟩); refine R_p rfl ?_ rfl rfl; refine R_nil (S_seq rfl (S_region rfl rfl ?_)); refine R_p rfl ?_ rfl rfl; refine R_take (T_loads (ds := atc x.pl) rfl rfl rfl rfl rfl) ?_ rfl rfl; (refine R_eff (E_alloca rfl at_zero) ?_ rfl rfl; rintro _ _ ⟨b3, rfl, rfl⟩); (refine R_eff0 (E_storew (cs := atc (0, 0)) (ds := atc x.pl) rfl rfl rfl rfl (atc_one _) rfl) ?_ rfl; rintro _ _ rfl); refine R_nil ?_; refine S_seq rfl ?_; refine S_block rfl ?_; refine S_seq rfl ?_; refine S_seq rfl (S_region rfl rfl ?_); refine R_p rfl ?_ rfl rfl; refine R_take (T_load rfl rfl rfl rfl) ?_ rfl rfl; refine R_take (T_decT rfl (by omega)) ?_ rfl rfl; refine R_p rfl ?_ rfl rfl; refine R_take (T_load rfl rfl rfl rfl) ?_ rfl rfl; refine R_take (T_decT rfl (by omega)) ?_ rfl rfl; refine R_take (T_bnq rfl rfl rfl rfl rfl) ?_ rfl rfl; refine R_p rfl ?_ rfl rfl; refine R_nil ?_; refine S_false rfl rfl ?_; refine S_seq rfl (S_region rfl rfl ?_); refine R_p rfl ?_ rfl rfl; refine R_take (T_load rfl rfl rfl rfl) ?_ rfl rfl; refine R_p rfl ?_ rfl rfl; refine R_take (T_load rfl rfl rfl rfl) ?_ rfl rfl; refine R_take (T_decF rfl (by omega)) ?_ rfl rfl; refine R_p rfl ?_ rfl rfl; refine R_nil ?_; refine S_false rfl rfl ?_; refine S_region rfl rfl ?_; refine R_p rfl ?_ rfl rfl; refine R_take (T_load rfl rfl rfl rfl) ?_ rfl rfl; refine R_p rfl ?_ rfl rfl; refine R_take (T_load rfl rfl rfl rfl) ?_ rfl rfl; refine R_p rfl ?_ rfl rfl; refine R_take (T_convf rfl rfl rfl rfl (by unfold fits; omega)) ?_ rfl rfl; refine R_take (T_subN (p := 18446744073709551614) (q := p.n) rfl rfl (by omega) (by unfold fits; omega)) ?_ rfl rfl; refine R_take (T_decF rfl (by omega)) ?_ rfl rfl; refine R_p rfl ?_ rfl rfl; refine R_nil ?_; refine S_false rfl rfl ?_; refine S_seq rfl (S_region rfl rfl ?_); refine R_p rfl ?_ rfl rfl; refine R_take (T_load rfl rfl rfl rfl) ?_ rfl rfl; refine R_take (T_decT rfl (by omega)) ?_ rfl rfl; refine R_p rfl ?_ rfl rfl; refine R_nil ?_; refine S_true rfl rfl ?_; refine S_seq rfl (S_region rfl rfl ?_); refine R_p rfl ?_ rfl rfl; refine R_take (T_load rfl rfl rfl rfl) ?_ rfl rfl; refine R_p rfl ?_ rfl rfl; refine R_take (T_load rfl rfl rfl rfl) ?_ rfl rfl; refine R_take (T_decF rfl (by omega)) ?_ rfl rfl; refine R_p rfl ?_ rfl rfl; refine R_nil ?_)
            exact hB _ _ _ _ _ rfl rfl fun w' hS => ⟨(), rfl, trivial, hS.sublist (List.nil_sublist _)⟩
        · by_cases hK7 : x.K = 7
          · obtain rfl : r = false := by rw [← hr]; simp [sndB, hK7]; omega
            focus (refine S_seq rfl ?_; refine S_region rfl rfl ?_; (refine R_eff (E_boxa (cs := mgc x p) rfl) ?_ rfl rfl; rintro _ _ ⟨b1, rfl, rfl⟩); refine R_p rfl ?_ rfl rfl; refine R_nil (S_seq rfl (S_region rfl rfl ?_)); refine R_p rfl ?_ rfl rfl; refine R_take (T_loads (ds := atc x.pl) rfl rfl rfl rfl rfl) ?_ rfl rfl; (refine R_eff (E_alloca rfl at_zero) ?_ rfl rfl; rintro _ _ ⟨b3, rfl, rfl⟩); (refine R_eff0 (E_storew (cs := atc (0, 0)) (ds := atc x.pl) rfl rfl rfl rfl (atc_one _) rfl) ?_ rfl; rintro _ _ rfl); refine R_nil ?_; refine S_seq rfl ?_; refine S_block rfl ?_; refine S_seq rfl ?_; refine S_seq rfl (S_region rfl rfl ?_); refine R_p rfl ?_ rfl rfl; refine R_take (T_load rfl rfl rfl rfl) ?_ rfl rfl; refine R_take (T_decT rfl (by omega)) ?_ rfl rfl; refine R_p rfl ?_ rfl rfl; refine R_take (T_load rfl rfl rfl rfl) ?_ rfl rfl; refine R_take (T_decT rfl (by omega)) ?_ rfl rfl; refine R_take (T_bnq rfl rfl rfl rfl rfl) ?_ rfl rfl; refine R_p rfl ?_ rfl rfl; refine R_nil ?_; refine S_false rfl rfl ?_; refine S_seq rfl (S_region rfl rfl ?_); refine R_p rfl ?_ rfl rfl; refine R_take (T_load rfl rfl rfl rfl) ?_ rfl rfl; refine R_p rfl ?_ rfl rfl; refine R_take (T_load rfl rfl rfl rfl) ?_ rfl rfl; refine R_take (T_decF rfl (by omega)) ?_ rfl rfl; refine R_p rfl ?_ rfl rfl; refine R_nil ?_; refine S_false rfl rfl ?_; refine S_region rfl rfl ?_; refine R_p rfl ?_ rfl rfl; refine R_take (T_load rfl rfl rfl rfl) ?_ rfl rfl; refine R_p rfl ?_ rfl rfl; refine R_take (T_load rfl rfl rfl rfl) ?_ rfl rfl; refine R_p rfl ?_ rfl rfl; refine R_take (T_convf rfl rfl rfl rfl (by unfold fits; omega)) ?_ rfl rfl; refine R_take (T_subN (p := 18446744073709551614) (q := p.n) rfl rfl (by omega) (by unfold fits; omega)) ?_ rfl rfl; refine R_take (T_decF rfl (by omega)) ?_ rfl rfl; refine R_p rfl ?_ rfl rfl; refine R_nil ?_; refine S_false rfl rfl ?_; refine S_seq rfl (S_region rfl rfl ?_); refine R_p rfl ?_ rfl rfl; refine R_take (T_load rfl rfl rfl rfl) ?_ rfl rfl; refine R_take (T_decF rfl (by omega)) ?_ rfl rfl; refine R_p rfl ?_ rfl rfl; refine R_nil ?_; refine S_false rfl rfl ?_; refine S_seq rfl (S_region rfl rfl ?_); refine R_p rfl ?_ rfl rfl; refine R_take (T_load rfl rfl rfl rfl) ?_ rfl rfl; refine R_take (T_decT rfl (by omega)) ?_ rfl rfl; refine R_p rfl ?_ rfl rfl; refine R_nil ?_; refine S_true rfl rfl ?_; refine S_seq rfl (S_region rfl rfl ?_); refine R_p rfl ?_ rfl rfl; refine R_take (T_load rfl rfl rfl rfl) ?_ rfl rfl; refine R_take (T_decF rfl (by omega)) ?_ rfl rfl; refine R_p rfl ?_ rfl rfl; refine R_nil ?_)
            exact hB _ _ _ _ _ rfl rfl fun w' hS => ⟨(), rfl, trivial, hS.sublist (List.nil_sublist _)⟩
          · obtain rfl : r = true := by rw [← hr]; simp [sndB, hK, hK7]; omega
            focus (refine S_seq rfl ?_; refine S_region rfl rfl ?_; (refine R_eff (E_boxa (cs := mgc x p) rfl) ?_ rfl rfl; rintro _ _ ⟨b1, rfl, rfl⟩); refine R_p rfl ?_ rfl rfl; refine R_nil (S_seq rfl (S_region rfl rfl ?_)); refine R_p rfl ?_ rfl rfl; refine R_take (T_loads (ds := atc x.pl) rfl rfl rfl rfl rfl) ?_ rfl rfl; (refine R_eff (E_alloca rfl at_zero) ?_ rfl rfl; rintro _ _ ⟨b3, rfl, rfl⟩); (refine R_eff0 (E_storew (cs := atc (0, 0)) (ds := atc x.pl) rfl rfl rfl rfl (atc_one _) rfl) ?_ rfl; rintro _ _ rfl); refine R_nil ?_; refine S_seq rfl ?_; refine S_block rfl ?_; refine S_seq rfl ?_; refine S_seq rfl (S_region rfl rfl ?_); refine R_p rfl ?_ rfl rfl; refine R_take (T_load rfl rfl rfl rfl) ?_ rfl rfl; refine R_take (T_decT rfl (by omega)) ?_ rfl rfl; refine R_p rfl ?_ rfl rfl; refine R_take (T_load rfl rfl rfl rfl) ?_ rfl rfl; refine R_take (T_decT rfl (by omega)) ?_ rfl rfl; refine R_take (T_bnq rfl rfl rfl rfl rfl) ?_ rfl rfl; refine R_p rfl ?_ rfl rfl; refine R_nil ?_; refine S_false rfl rfl ?_; refine S_seq rfl (S_region rfl rfl ?_); refine R_p rfl ?_ rfl rfl; refine R_take (T_load rfl rfl rfl rfl) ?_ rfl rfl; refine R_p rfl ?_ rfl rfl; refine R_take (T_load rfl rfl rfl rfl) ?_ rfl rfl; refine R_take (T_decF rfl (by omega)) ?_ rfl rfl; refine R_p rfl ?_ rfl rfl; refine R_nil ?_; refine S_false rfl rfl ?_; refine S_region rfl rfl ?_; refine R_p rfl ?_ rfl rfl; refine R_take (T_load rfl rfl rfl rfl) ?_ rfl rfl; refine R_p rfl ?_ rfl rfl; refine R_take (T_load rfl rfl rfl rfl) ?_ rfl rfl; refine R_p rfl ?_ rfl rfl; refine R_take (T_convf rfl rfl rfl rfl (by unfold fits; omega)) ?_ rfl rfl; refine R_take (T_subN (p := 18446744073709551614) (q := p.n) rfl rfl (by omega) (by unfold fits; omega)) ?_ rfl rfl; refine R_take (T_decF rfl (by omega)) ?_ rfl rfl; refine R_p rfl ?_ rfl rfl; refine R_nil ?_; refine S_false rfl rfl ?_; refine S_seq rfl (S_region rfl rfl ?_); refine R_p rfl ?_ rfl rfl; refine R_take (T_load rfl rfl rfl rfl) ?_ rfl rfl; refine R_take (T_decF rfl (by omega)) ?_ rfl rfl; refine R_p rfl ?_ rfl rfl; refine R_nil ?_; refine S_false rfl rfl ?_; refine S_seq rfl (S_region rfl rfl ?_); refine R_p rfl ?_ rfl rfl; refine R_take (T_load rfl rfl rfl rfl) ?_ rfl rfl; refine R_take (T_decF rfl (by omega)) ?_ rfl rfl; refine R_p rfl ?_ rfl rfl; refine R_nil ?_; refine S_false rfl rfl ?_; refine S_skip rfl ?_; refine RS_blk ?_; refine S_seq rfl (S_region rfl rfl ?_); refine R_p rfl ?_ rfl rfl; refine R_nil ?_)
            exact hB _ _ _ _ _ rfl rfl fun w' hS => ⟨(), rfl, trivial, hS.sublist (List.nil_sublist _)⟩
      · obtain rfl : r = false := by rw [← hr]; simp [sndB]; omega
        focus (refine S_seq rfl ?_; refine S_region rfl rfl ?_; (refine R_eff (E_boxa (cs := mgc x p) rfl) ?_ rfl rfl; rintro _ _ ⟨b1, rfl, rfl⟩); refine R_p rfl ?_ rfl rfl; refine R_nil (S_seq rfl (S_region rfl rfl ?_)); refine R_p rfl ?_ rfl rfl; refine R_take (T_loads (ds := atc x.pl) rfl rfl rfl rfl rfl) ?_ rfl rfl; (refine R_eff (E_alloca rfl at_zero) ?_ rfl rfl; rintro _ _ ⟨b3, rfl, rfl⟩); (refine R_eff0 (E_storew (cs := atc (0, 0)) (ds := atc x.pl) rfl rfl rfl rfl (atc_one _) rfl) ?_ rfl; rintro _ _ rfl); refine R_nil ?_; refine S_seq rfl ?_; refine S_block rfl ?_; refine S_seq rfl ?_; refine S_seq rfl (S_region rfl rfl ?_); refine R_p rfl ?_ rfl rfl; refine R_take (T_load rfl rfl rfl rfl) ?_ rfl rfl; refine R_take (T_decT rfl (by omega)) ?_ rfl rfl; refine R_p rfl ?_ rfl rfl; refine R_take (T_load rfl rfl rfl rfl) ?_ rfl rfl; refine R_take (T_decT rfl (by omega)) ?_ rfl rfl; refine R_take (T_bnq rfl rfl rfl rfl rfl) ?_ rfl rfl; refine R_p rfl ?_ rfl rfl; refine R_nil ?_; refine S_false rfl rfl ?_; refine S_seq rfl (S_region rfl rfl ?_); refine R_p rfl ?_ rfl rfl; refine R_take (T_load rfl rfl rfl rfl) ?_ rfl rfl; refine R_p rfl ?_ rfl rfl; refine R_take (T_load rfl rfl rfl rfl) ?_ rfl rfl; refine R_take (T_decT rfl (by omega)) ?_ rfl rfl; refine R_p rfl ?_ rfl rfl; refine R_nil ?_; refine S_true rfl rfl ?_; refine S_skip rfl ?_; refine S_true rfl rfl ?_; refine S_seq rfl (S_region rfl rfl ?_); refine R_p rfl ?_ rfl rfl; refine R_nil ?_)
        exact hB _ _ _ _ _ rfl rfl fun w' hS => ⟨(), rfl, trivial, hS.sublist (List.nil_sublist _)⟩
    · obtain rfl : r = false := by rw [← hr]; simp [sndB]; omega
      focus (refine S_seq rfl ?_; refine S_region rfl rfl ?_; (refine R_eff (E_boxa (cs := mgc x p) rfl) ?_ rfl rfl; rintro _ _ ⟨b1, rfl, rfl⟩); refine R_p rfl ?_ rfl rfl; refine R_nil (S_seq rfl (S_region rfl rfl ?_)); refine R_p rfl ?_ rfl rfl; refine R_take (T_loads (ds := atc x.pl) rfl rfl rfl rfl rfl) ?_ rfl rfl; (refine R_eff (E_alloca rfl at_zero) ?_ rfl rfl; rintro _ _ ⟨b3, rfl, rfl⟩); (refine R_eff0 (E_storew (cs := atc (0, 0)) (ds := atc x.pl) rfl rfl rfl rfl (atc_one _) rfl) ?_ rfl; rintro _ _ rfl); refine R_nil ?_; refine S_seq rfl ?_; refine S_block rfl ?_; refine S_seq rfl ?_; refine S_seq rfl (S_region rfl rfl ?_); refine R_p rfl ?_ rfl rfl; refine R_take (T_load rfl rfl rfl rfl) ?_ rfl rfl; refine R_take (T_decT rfl (by omega)) ?_ rfl rfl; refine R_p rfl ?_ rfl rfl; refine R_take (T_load rfl rfl rfl rfl) ?_ rfl rfl; refine R_take (T_decT rfl (by omega)) ?_ rfl rfl; refine R_take (T_bnq rfl rfl rfl rfl rfl) ?_ rfl rfl; refine R_p rfl ?_ rfl rfl; refine R_nil ?_; refine S_false rfl rfl ?_; refine S_seq rfl (S_region rfl rfl ?_); refine R_p rfl ?_ rfl rfl; refine R_take (T_load rfl rfl rfl rfl) ?_ rfl rfl; refine R_p rfl ?_ rfl rfl; refine R_take (T_load rfl rfl rfl rfl) ?_ rfl rfl; refine R_take (T_decT rfl (by omega)) ?_ rfl rfl; refine R_p rfl ?_ rfl rfl; refine R_nil ?_; refine S_true rfl rfl ?_; refine S_skip rfl ?_; refine S_true rfl rfl ?_; refine S_seq rfl (S_region rfl rfl ?_); refine R_p rfl ?_ rfl rfl; refine R_nil ?_)
      exact hB _ _ _ _ _ rfl rfl fun w' hS => ⟨(), rfl, trivial, hS.sublist (List.nil_sublist _)⟩
  · by_cases h1 : x.pl.2 ≤ x.tm
    · by_cases h2 : x.pl.1 ≤ 18446744073709551614 - p.n
      · by_cases hK : x.K = 1
        · by_cases h3 : x.pl.2 < x.tm
          · obtain rfl : r = true := by rw [← hr]; simp [sndB, hK]; omega
            focus (refine S_seq rfl ?_; refine S_region rfl rfl ?_; (refine R_eff (E_boxa (cs := mgc x p) rfl) ?_ rfl rfl; rintro _ _ ⟨b1, rfl, rfl⟩); refine R_p rfl ?_ rfl rfl; refine R_nil (S_seq rfl (S_region rfl rfl ?_)); refine R_p rfl ?_ rfl rfl; refine R_take (T_loads (ds := atc x.pl) rfl rfl rfl rfl rfl) ?_ rfl rfl; (refine R_eff (E_alloca rfl at_zero) ?_ rfl rfl; rintro _ _ ⟨b3, rfl, rfl⟩); (refine R_eff0 (E_storew (cs := atc (0, 0)) (ds := atc x.pl) rfl rfl rfl rfl (atc_one _) rfl) ?_ rfl; rintro _ _ rfl); refine R_nil ?_; refine S_seq rfl ?_; refine S_block rfl ?_; refine S_seq rfl ?_; refine S_seq rfl (S_region rfl rfl ?_); refine R_p rfl ?_ rfl rfl; refine R_take (T_load rfl rfl rfl rfl) ?_ rfl rfl; refine R_take (T_decF rfl (by omega)) ?_ rfl rfl; refine R_p rfl ?_ rfl rfl; refine R_take (T_load rfl rfl rfl rfl) ?_ rfl rfl; refine R_take (T_decF rfl (by omega)) ?_ rfl rfl; refine R_take (T_bnq rfl rfl rfl rfl rfl) ?_ rfl rfl; refine R_p rfl ?_ rfl rfl; refine R_nil ?_; refine S_false rfl rfl ?_; refine S_seq rfl (S_region rfl rfl ?_); refine R_p rfl ?_ rfl rfl; refine R_take (T_load rfl rfl rfl rfl) ?_ rfl rfl; refine R_p rfl ?_ rfl rfl; refine R_take (T_load rfl rfl rfl rfl) ?_ rfl rfl; refine R_take (T_decF rfl (by omega)) ?_ rfl rfl; refine R_p rfl ?_ rfl rfl; refine R_nil ?_; refine S_false rfl rfl ?_; refine S_region rfl rfl ?_; refine R_p rfl ?_ rfl rfl; refine R_take (T_load rfl rfl rfl rfl) ?_ rfl rfl; refine R_p rfl ?_ rfl rfl; refine R_take (T_load rfl rfl rfl rfl) ?_ rfl rfl; refine R_p rfl ?_ rfl rfl; refine R_take (T_convf rfl rfl rfl rfl (by unfold fits; omega)) ?_ rfl rfl; refine R_take (T_subN (p := 18446744073709551614) (q := p.n) rfl rfl (by omega) (by unfold fits; omega)) ?_ rfl rfl; refine R_take (T_decF rfl (by omega)) ?_ rfl rfl; refine R_p rfl ?_ rfl rfl; refine R_nil ?_; refine S_false rfl rfl ?_; refine S_seq rfl (S_region rfl rfl ?_); refine R_p rfl ?_ rfl rfl; refine R_take (T_load rfl rfl rfl rfl) ?_ rfl rfl; refine R_take (T_decT rfl (by omega)) ?_ rfl rfl; refine R_p rfl ?_ rfl rfl; refine R_nil ?_; refine S_true rfl rfl ?_; refine S_seq rfl (S_region rfl rfl ?_); refine R_p rfl ?_ rfl rfl; refine R_take (T_load rfl rfl rfl rfl) ?_ rfl rfl; refine R_p rfl ?_ rfl rfl; refine R_take (T_load rfl rfl rfl rfl) ?_ rfl rfl; refine R_take (T_decT rfl (by omega)) ?_ rfl rfl; refine R_p rfl ?_ rfl rfl; refine R_nil ?_)
            exact hB _ _ _ _ _ rfl rfl fun w' hS => ⟨(), rfl, trivial, hS.sublist (List.nil_sublist _)⟩
          · obtain rfl : r = false := by rw [← hr]; simp [sndB, hK]; omega
            focus (refine S_seq rfl ?_; refine S_region rfl rfl ?_; (refine R_eff (E_boxa (cs := mgc x p) rfl) ?_ rfl rfl; rintro _ _ ⟨b1, rfl, rfl⟩); refine R_p rfl ?_ rfl rfl; refine R_nil (S_seq rfl (S_region rfl rfl ?_)); refine R_p rfl ?_ rfl rfl; refine R_take (T_loads (ds := atc x.pl) rfl rfl rfl rfl rfl) ?_ rfl rfl; (refine R_eff (E_alloca rfl at_zero) ?_ rfl rfl; rintro _ _ ⟨b3, rfl, rfl⟩); (refine R_eff0 (E_storew (cs := atc (0, 0)) (ds := atc x.pl) rfl rfl rfl rfl (atc_one _) rfl) ?_ rfl; rintro _ _ rfl); refine R_nil ?_; refine S_seq rfl ?_; refine S_block rfl ?_; refine S_seq rfl ?_; refine S_seq rfl (S_region rfl rfl ?_); refine R_p rfl ?_ rfl rfl; refine R_take (T_load rfl rfl rfl rfl) ?_ rfl rfl; refine R_take (T_decF rfl (by omega)) ?_ rfl rfl; refine R_p rfl ?_ rfl rfl; refine R_take (T_load rfl rfl rfl rfl) ?_ rfl rfl; refine R_take (T_decF rfl (by omega)) ?_ rfl rfl; refine R_take (T_bnq rfl rfl rfl rfl rfl) ?_ rfl rfl; refine R_p rfl ?_ rfl rfl; refine R_nil ?_; refine S_false rfl rfl ?_; refine S_seq rfl (S_region rfl rfl ?_); refine R_p rfl ?_ rfl rfl; refine R_take (T_load rfl rfl rfl rfl) ?_ rfl rfl; refine R_p rfl ?_ rfl rfl; refine R_take (T_load rfl rfl rfl rfl) ?_ rfl rfl; refine R_take (T_decF rfl (by omega)) ?_ rfl rfl; refine R_p rfl ?_ rfl rfl; refine R_nil ?_; refine S_false rfl rfl ?_; refine S_region rfl rfl ?_; refine R_p rfl ?_ rfl rfl; refine R_take (T_load rfl rfl rfl rfl) ?_ rfl rfl; refine R_p rfl ?_ rfl rfl; refine R_take (T_load rfl rfl rfl rfl) ?_ rfl rfl; refine R_p rfl ?_ rfl rfl; refine R_take (T_convf rfl rfl rfl rfl (by unfold fits; omega)) ?_ rfl rfl; refine R_take (T_subN (p := 18446744073709551614) (q := p.n) rfl rfl (by omega) (by unfold fits; omega)) ?_ rfl rfl; refine R_take (T_decF rfl (by omega)) ?_ rfl rfl; refine R_p rfl ?_ rfl rfl; refine R_nil ?_; refine S_false rfl rfl ?_; refine S_seq rfl (S_region rfl rfl ?_); refine R_p rfl ?_ rfl rfl; refine R_take (T_load rfl rfl rfl rfl) ?_ rfl rfl; refine R_take (T_decT rfl (by omega)) ?_ rfl rfl; refine R_p rfl ?_ rfl rfl; refine R_nil ?_; refine S_true rfl rfl ?_; refine S_seq rfl (S_region rfl rfl ?_); refine R_p rfl ?_ rfl rfl; refine R_take (T_load rfl rfl rfl rfl) ?_ rfl rfl; refine R_p rfl ?_ rfl rfl; refine R_take (T_load rfl rfl rfl rfl) ?_ rfl rfl; refine R_take (T_decF rfl (by omega)) ?_ rfl rfl; refine R_p rfl ?_ rfl rfl; refine R_nil ?_)
            exact hB _ _ _ _ _ rfl rfl fun w' hS => ⟨(), rfl, trivial, hS.sublist (List.nil_sublist _)⟩
        · by_cases hK7 : x.K = 7
          · obtain rfl : r = true := by rw [← hr]; simp [sndB, hK7]; omega
            focus (refine S_seq rfl ?_; refine S_region rfl rfl ?_; (refine R_eff (E_boxa (cs := mgc x p) rfl) ?_ rfl rfl; rintro _ _ ⟨b1, rfl, rfl⟩); refine R_p rfl ?_ rfl rfl; refine R_nil (S_seq rfl (S_region rfl rfl ?_)); refine R_p rfl ?_ rfl rfl; refine R_take (T_loads (ds := atc x.pl) rfl rfl rfl rfl rfl) ?_ rfl rfl; (refine R_eff (E_alloca rfl at_zero) ?_ rfl rfl; rintro _ _ ⟨b3, rfl, rfl⟩); (refine R_eff0 (E_storew (cs := atc (0, 0)) (ds := atc x.pl) rfl rfl rfl rfl (atc_one _) rfl) ?_ rfl; rintro _ _ rfl); refine R_nil ?_; refine S_seq rfl ?_; refine S_block rfl ?_; refine S_seq rfl ?_; refine S_seq rfl (S_region rfl rfl ?_); refine R_p rfl ?_ rfl rfl; refine R_take (T_load rfl rfl rfl rfl) ?_ rfl rfl; refine R_take (T_decF rfl (by omega)) ?_ rfl rfl; refine R_p rfl ?_ rfl rfl; refine R_take (T_load rfl rfl rfl rfl) ?_ rfl rfl; refine R_take (T_decF rfl (by omega)) ?_ rfl rfl; refine R_take (T_bnq rfl rfl rfl rfl rfl) ?_ rfl rfl; refine R_p rfl ?_ rfl rfl; refine R_nil ?_; refine S_false rfl rfl ?_; refine S_seq rfl (S_region rfl rfl ?_); refine R_p rfl ?_ rfl rfl; refine R_take (T_load rfl rfl rfl rfl) ?_ rfl rfl; refine R_p rfl ?_ rfl rfl; refine R_take (T_load rfl rfl rfl rfl) ?_ rfl rfl; refine R_take (T_decF rfl (by omega)) ?_ rfl rfl; refine R_p rfl ?_ rfl rfl; refine R_nil ?_; refine S_false rfl rfl ?_; refine S_region rfl rfl ?_; refine R_p rfl ?_ rfl rfl; refine R_take (T_load rfl rfl rfl rfl) ?_ rfl rfl; refine R_p rfl ?_ rfl rfl; refine R_take (T_load rfl rfl rfl rfl) ?_ rfl rfl; refine R_p rfl ?_ rfl rfl; refine R_take (T_convf rfl rfl rfl rfl (by unfold fits; omega)) ?_ rfl rfl; refine R_take (T_subN (p := 18446744073709551614) (q := p.n) rfl rfl (by omega) (by unfold fits; omega)) ?_ rfl rfl; refine R_take (T_decF rfl (by omega)) ?_ rfl rfl; refine R_p rfl ?_ rfl rfl; refine R_nil ?_; refine S_false rfl rfl ?_; refine S_seq rfl (S_region rfl rfl ?_); refine R_p rfl ?_ rfl rfl; refine R_take (T_load rfl rfl rfl rfl) ?_ rfl rfl; refine R_take (T_decF rfl (by omega)) ?_ rfl rfl; refine R_p rfl ?_ rfl rfl; refine R_nil ?_; refine S_false rfl rfl ?_; refine S_seq rfl (S_region rfl rfl ?_); refine R_p rfl ?_ rfl rfl; refine R_take (T_load rfl rfl rfl rfl) ?_ rfl rfl; refine R_take (T_decT rfl (by omega)) ?_ rfl rfl; refine R_p rfl ?_ rfl rfl; refine R_nil ?_; refine S_true rfl rfl ?_; refine S_seq rfl (S_region rfl rfl ?_); refine R_p rfl ?_ rfl rfl; refine R_take (T_load rfl rfl rfl rfl) ?_ rfl rfl; refine R_take (T_decT rfl (by omega)) ?_ rfl rfl; refine R_p rfl ?_ rfl rfl; refine R_nil ?_)
            exact hB _ _ _ _ _ rfl rfl fun w' hS => ⟨(), rfl, trivial, hS.sublist (List.nil_sublist _)⟩
          · obtain rfl : r = true := by rw [← hr]; simp [sndB, hK, hK7]; omega
            focus (refine S_seq rfl ?_; refine S_region rfl rfl ?_; (refine R_eff (E_boxa (cs := mgc x p) rfl) ?_ rfl rfl; rintro _ _ ⟨b1, rfl, rfl⟩); refine R_p rfl ?_ rfl rfl; refine R_nil (S_seq rfl (S_region rfl rfl ?_)); refine R_p rfl ?_ rfl rfl; refine R_take (T_loads (ds := atc x.pl) rfl rfl rfl rfl rfl) ?_ rfl rfl; (refine R_eff (E_alloca rfl at_zero) ?_ rfl rfl; rintro _ _ ⟨b3, rfl, rfl⟩); (refine R_eff0 (E_storew (cs := atc (0, 0)) (ds := atc x.pl) rfl rfl rfl rfl (atc_one _) rfl) ?_ rfl; rintro _ _ rfl); refine R_nil ?_; refine S_seq rfl ?_; refine S_block rfl ?_; refine S_seq rfl ?_; refine S_seq rfl (S_region rfl rfl ?_); refine R_p rfl ?_ rfl rfl; refine R_take (T_load rfl rfl rfl rfl) ?_ rfl rfl; refine R_take (T_decF rfl (by omega)) ?_ rfl rfl; refine R_p rfl ?_ rfl rfl; refine R_take (T_load rfl rfl rfl rfl) ?_ rfl rfl; refine R_take (T_decF rfl (by omega)) ?_ rfl rfl; refine R_take (T_bnq rfl rfl rfl rfl rfl) ?_ rfl rfl; refine R_p rfl ?_ rfl rfl; refine R_nil ?_; refine S_false rfl rfl ?_; refine S_seq rfl (S_region rfl rfl ?_); refine R_p rfl ?_ rfl rfl; refine R_take (T_load rfl rfl rfl rfl) ?_ rfl rfl; refine R_p rfl ?_ rfl rfl; refine R_take (T_load rfl rfl rfl rfl) ?_ rfl rfl; refine R_take (T_decF rfl (by omega)) ?_ rfl rfl; refine R_p rfl ?_ rfl rfl; refine R_nil ?_; refine S_false rfl rfl ?_; refine S_region rfl rfl ?_; refine R_p rfl ?_ rfl rfl; refine R_take (T_load rfl rfl rfl rfl) ?_ rfl rfl; refine R_p rfl ?_ rfl rfl; refine R_take (T_load rfl rfl rfl rfl) ?_ rfl rfl; refine R_p rfl ?_ rfl rfl; refine R_take (T_convf rfl rfl rfl rfl (by unfold fits; omega)) ?_ rfl rfl; refine R_take (T_subN (p := 18446744073709551614) (q := p.n) rfl rfl (by omega) (by unfold fits; omega)) ?_ rfl rfl; refine R_take (T_decF rfl (by omega)) ?_ rfl rfl; refine R_p rfl ?_ rfl rfl; refine R_nil ?_; refine S_false rfl rfl ?_; refine S_seq rfl (S_region rfl rfl ?_); refine R_p rfl ?_ rfl rfl; refine R_take (T_load rfl rfl rfl rfl) ?_ rfl rfl; refine R_take (T_decF rfl (by omega)) ?_ rfl rfl; refine R_p rfl ?_ rfl rfl; refine R_nil ?_; refine S_false rfl rfl ?_; refine S_seq rfl (S_region rfl rfl ?_); refine R_p rfl ?_ rfl rfl; refine R_take (T_load rfl rfl rfl rfl) ?_ rfl rfl; refine R_take (T_decF rfl (by omega)) ?_ rfl rfl; refine R_p rfl ?_ rfl rfl; refine R_nil ?_; refine S_false rfl rfl ?_; refine S_skip rfl ?_; refine RS_blk ?_; refine S_seq rfl (S_region rfl rfl ?_); refine R_p rfl ?_ rfl rfl; refine R_nil ?_)
            exact hB _ _ _ _ _ rfl rfl fun w' hS => ⟨(), rfl, trivial, hS.sublist (List.nil_sublist _)⟩
      · obtain rfl : r = false := by rw [← hr]; simp [sndB]; omega
        focus (refine S_seq rfl ?_; refine S_region rfl rfl ?_; (refine R_eff (E_boxa (cs := mgc x p) rfl) ?_ rfl rfl; rintro _ _ ⟨b1, rfl, rfl⟩); refine R_p rfl ?_ rfl rfl; refine R_nil (S_seq rfl (S_region rfl rfl ?_)); refine R_p rfl ?_ rfl rfl; refine R_take (T_loads (ds := atc x.pl) rfl rfl rfl rfl rfl) ?_ rfl rfl; (refine R_eff (E_alloca rfl at_zero) ?_ rfl rfl; rintro _ _ ⟨b3, rfl, rfl⟩); (refine R_eff0 (E_storew (cs := atc (0, 0)) (ds := atc x.pl) rfl rfl rfl rfl (atc_one _) rfl) ?_ rfl; rintro _ _ rfl); refine R_nil ?_; refine S_seq rfl ?_; refine S_block rfl ?_; refine S_seq rfl ?_; refine S_seq rfl (S_region rfl rfl ?_); refine R_p rfl ?_ rfl rfl; refine R_take (T_load rfl rfl rfl rfl) ?_ rfl rfl; refine R_take (T_decF rfl (by omega)) ?_ rfl rfl; refine R_p rfl ?_ rfl rfl; refine R_take (T_load rfl rfl rfl rfl) ?_ rfl rfl; refine R_take (T_decF rfl (by omega)) ?_ rfl rfl; refine R_take (T_bnq rfl rfl rfl rfl rfl) ?_ rfl rfl; refine R_p rfl ?_ rfl rfl; refine R_nil ?_; refine S_false rfl rfl ?_; refine S_seq rfl (S_region rfl rfl ?_); refine R_p rfl ?_ rfl rfl; refine R_take (T_load rfl rfl rfl rfl) ?_ rfl rfl; refine R_p rfl ?_ rfl rfl; refine R_take (T_load rfl rfl rfl rfl) ?_ rfl rfl; refine R_take (T_decF rfl (by omega)) ?_ rfl rfl; refine R_p rfl ?_ rfl rfl; refine R_nil ?_; refine S_false rfl rfl ?_; refine S_region rfl rfl ?_; refine R_p rfl ?_ rfl rfl; refine R_take (T_load rfl rfl rfl rfl) ?_ rfl rfl; refine R_p rfl ?_ rfl rfl; refine R_take (T_load rfl rfl rfl rfl) ?_ rfl rfl; refine R_p rfl ?_ rfl rfl; refine R_take (T_convf rfl rfl rfl rfl (by unfold fits; omega)) ?_ rfl rfl; refine R_take (T_subN (p := 18446744073709551614) (q := p.n) rfl rfl (by omega) (by unfold fits; omega)) ?_ rfl rfl; refine R_take (T_decT rfl (by omega)) ?_ rfl rfl; refine R_p rfl ?_ rfl rfl; refine R_nil ?_; refine S_true rfl rfl ?_; refine S_seq rfl (S_region rfl rfl ?_); refine R_p rfl ?_ rfl rfl; refine R_nil ?_)
        exact hB _ _ _ _ _ rfl rfl fun w' hS => ⟨(), rfl, trivial, hS.sublist (List.nil_sublist _)⟩
    · obtain rfl : r = false := by rw [← hr]; simp [sndB]; omega
      focus (refine S_seq rfl ?_; refine S_region rfl rfl ?_; (refine R_eff (E_boxa (cs := mgc x p) rfl) ?_ rfl rfl; rintro _ _ ⟨b1, rfl, rfl⟩); refine R_p rfl ?_ rfl rfl; refine R_nil (S_seq rfl (S_region rfl rfl ?_)); refine R_p rfl ?_ rfl rfl; refine R_take (T_loads (ds := atc x.pl) rfl rfl rfl rfl rfl) ?_ rfl rfl; (refine R_eff (E_alloca rfl at_zero) ?_ rfl rfl; rintro _ _ ⟨b3, rfl, rfl⟩); (refine R_eff0 (E_storew (cs := atc (0, 0)) (ds := atc x.pl) rfl rfl rfl rfl (atc_one _) rfl) ?_ rfl; rintro _ _ rfl); refine R_nil ?_; refine S_seq rfl ?_; refine S_block rfl ?_; refine S_seq rfl ?_; refine S_seq rfl (S_region rfl rfl ?_); refine R_p rfl ?_ rfl rfl; refine R_take (T_load rfl rfl rfl rfl) ?_ rfl rfl; refine R_take (T_decF rfl (by omega)) ?_ rfl rfl; refine R_p rfl ?_ rfl rfl; refine R_take (T_load rfl rfl rfl rfl) ?_ rfl rfl; refine R_take (T_decF rfl (by omega)) ?_ rfl rfl; refine R_take (T_bnq rfl rfl rfl rfl rfl) ?_ rfl rfl; refine R_p rfl ?_ rfl rfl; refine R_nil ?_; refine S_false rfl rfl ?_; refine S_seq rfl (S_region rfl rfl ?_); refine R_p rfl ?_ rfl rfl; refine R_take (T_load rfl rfl rfl rfl) ?_ rfl rfl; refine R_p rfl ?_ rfl rfl; refine R_take (T_load rfl rfl rfl rfl) ?_ rfl rfl; refine R_take (T_decT rfl (by omega)) ?_ rfl rfl; refine R_p rfl ?_ rfl rfl; refine R_nil ?_; refine S_true rfl rfl ?_; refine S_skip rfl ?_; refine S_true rfl rfl ?_; refine S_seq rfl (S_region rfl rfl ?_); refine R_p rfl ?_ rfl rfl; refine R_nil ?_)
      exact hB _ _ _ _ _ rfl rfl fun w' hS => ⟨(), rfl, trivial, hS.sublist (List.nil_sublist _)⟩
end Go.Proofs.YtdbehejbeioboaaDoor
