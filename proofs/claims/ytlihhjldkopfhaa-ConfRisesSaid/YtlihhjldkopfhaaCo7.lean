/- Members: Majority, Step, Same. -/
import Derived.Test.YtlihhjldkopfhaaCo6
import Derived.Test.YtlihhjldkopfhaaRkB
namespace Go.Proofs.Ytlihhjldkopfhaa
open Go.RowKit
open Asn (pt row rb)
set_option linter.unusedVariables false
set_option linter.unusedSimpArgs false
--@use N

def majB (ms set : List Int) : Bool := right ms && decide (ms.length < 2 * ms.countP (fun m => decide (m ∈ set)))
set_option maxRecDepth 100000 in
set_option maxHeartbeats 4000000 in
theorem maj1_any (w : World) (b : Nat) (A : Option Addr) (n c : Nat) (set : List Int) (m : Int) (hb : Rd w All 1 (some ⟨b, 0, none⟩) 1 [.slice A n c]) (h : Rd w All 1 A n (set.map zv)) (hn : n ≤ 1000) :
    Gives Try.prog 45 [zv m, .pointer (some ⟨b, 0, none⟩)] [] w (X := Unit) (fun _ => .bool (decide (m ∈ set))) (fun _ => True) (fun _ => []) := by
  refine gives_S Try.func45 rfl Try.ntmps45 Try.results45 (by simp) (St.enter w) (fun B hB => ?_)
  focus (refine S_seq rfl ?_; refine S_region rfl rfl ?_; refine R_p rfl ?_ rfl rfl; refine R_nil ?_; refine S_seq rfl ?_; refine S_region rfl rfl ?_; refine R_take (T_loadg rfl rfl rfl hb (fun k _ => noOwns k) rfl) ?_ rfl rfl; refine R_p rfl ?_ rfl rfl; (refine R_eff (E_gv0 (f := 46) ⟨_, Try.func46, rfl, by kernel_rfl⟩ rfl (fun w hS => contains_any w A _ c set m ((Srd.old h (fun k _ => noOwns k)).rd w hS) hn) (fun _ => rfl)) ?_ rfl rfl; rintro _ _ ⟨_, rfl, _, rfl⟩); refine R_p rfl ?_ rfl rfl; refine R_nil ?_)
  refine hB _ _ _ _ _ rfl rfl fun w' hS => ⟨(), rfl, trivial, hS.sublist (List.nil_sublist _)⟩
set_option maxRecDepth 100000 in
set_option maxHeartbeats 4000000 in
theorem maj_any (w : World) (A A2 : Option Addr) (n c n2 c2 : Nat) (ms set : List Int) (h : Rd w All 1 A n (ms.map zv)) (h2 : Rd w All 1 A2 n2 (set.map zv)) (hn : n ≤ 1000) (hn2 : n2 ≤ 1000) :
    Gives Try.prog 30 [cfv A n c, .slice A2 n2 c2] [] w (X := Unit) (fun _ => .bool (majB ms set)) (fun _ => True) (fun _ => []) := by
  refine gives_S Try.func30 rfl Try.ntmps30 Try.results30 (by simp) (St.enter w) (fun B hB => ?_)
  have hl : ms.length = n := by have := h.1; simpa using this
  subst hl
  have hcl : ms.countP (fun m => decide (m ∈ set)) ≤ ms.length := List.countP_le_length
  focus (refine S_seq rfl ?_; refine S_region rfl rfl ?_; (refine R_eff (E_boxa rfl) ?_ rfl rfl; rintro _ _ ⟨b, rfl, rfl⟩); (refine R_eff (E_box1 rfl rfl) ?_ rfl rfl; rintro _ _ ⟨b, rfl, rfl⟩); refine R_p rfl ?_ rfl rfl; refine R_nil ?_; refine S_seq rfl ?_; refine S_region rfl rfl ?_; refine R_take (T_func rfl rfl) ?_ rfl rfl; refine R_p rfl ?_ rfl rfl; refine R_nil ?_; refine S_seq rfl ?_)
  rename_i b1
  cases hr : right ms
  · skip
    refine S_draw (_) (fun _ h => h) (by kernel_rfl) rfl (by kernel_rfl) (by kernel_rfl : _ = 14) ?_
    refine D_take 0 rfl (T_loada (ds := [.slice A ms.length c]) rfl rfl rfl rfl (fun j v h => by simpa using h)) ?_ rfl rfl (by kernel_rfl) (by kernel_rfl)
    refine D_one 1 rfl (E_checkF rfl (Srd.old h (fun k _ => noOwns k)) hn hr) ?_ rfl rfl (by kernel_rfl)
    rintro _ _ ⟨rfl, rfl⟩
    refine Nx_same sub_st ?_
    refine D_take 2 rfl (pev_ok rfl) ?_ rfl rfl (by kernel_rfl) (by kernel_rfl)
    refine D_take 3 rfl (pev_ok rfl) ?_ rfl rfl (by kernel_rfl) (by kernel_rfl)
    refine D_skip 4 rfl ?_ rfl rfl (by kernel_rfl) (by kernel_rfl)
    refine D_skip 5 rfl ?_ rfl rfl (by kernel_rfl) (by kernel_rfl)
    refine D_skip 6 rfl ?_ rfl rfl (by kernel_rfl) (by kernel_rfl)
    refine D_skip 7 rfl ?_ rfl rfl (by kernel_rfl) (by kernel_rfl)
    refine D_skip 8 rfl ?_ rfl rfl (by kernel_rfl) (by kernel_rfl)
    refine D_skip 9 rfl ?_ rfl rfl (by kernel_rfl) (by kernel_rfl)
    refine D_skip 10 rfl ?_ rfl rfl (by kernel_rfl) (by kernel_rfl)
    refine D_skip 11 rfl ?_ rfl rfl (by kernel_rfl) (by kernel_rfl)
    refine D_take 12 rfl (pev_ok rfl) ?_ rfl rfl (by kernel_rfl) (by kernel_rfl)
    refine D_take 13 rfl (pev_ok rfl) ?_ rfl rfl (by kernel_rfl) (by kernel_rfl)
    refine D_done ?_ (by kernel_rfl)
    skip
    skip
    refine hB _ _ _ _ _ rfl rfl fun w' hS => ⟨(), ?_, trivial, hS.sublist (List.nil_sublist _)⟩
    rw [majB, hr]
    rfl
  · skip
    refine S_draw (_) (fun _ h => h) (by kernel_rfl) rfl (by kernel_rfl) (by kernel_rfl : _ = 14) ?_
    refine D_take 0 rfl (T_loada (ds := [.slice A ms.length c]) rfl rfl rfl rfl (fun j v h => by simpa using h)) ?_ rfl rfl (by kernel_rfl) (by kernel_rfl)
    refine D_one 1 rfl (E_checkT rfl (Srd.old h (fun k _ => noOwns k)) hn hr) ?_ rfl rfl (by kernel_rfl)
    rintro _ _ ⟨rfl, rfl⟩
    refine Nx_same sub_st ?_
    refine D_take 2 rfl (pev_ok rfl) ?_ rfl rfl (by kernel_rfl) (by kernel_rfl)
    refine D_take 3 rfl (pev_ok rfl) ?_ rfl rfl (by kernel_rfl) (by kernel_rfl)
    refine D_take 4 rfl (T_loada (ds := [.slice A ms.length c]) rfl rfl rfl rfl (fun j v h => by simpa using h)) ?_ rfl rfl (by kernel_rfl) (by kernel_rfl)
    refine D_take 5 rfl (pev_ok rfl) ?_ rfl rfl (by kernel_rfl) (by kernel_rfl)
    refine D_take 8 rfl (pev_ok rfl) ?_ rfl rfl (by kernel_rfl) (by kernel_rfl)
    refine D_take 9 rfl (T_load rfl rfl rfl (by first | rfl | assumption)) ?_ rfl rfl (by kernel_rfl) (by kernel_rfl)
    refine D_take 10 rfl (pev_ok rfl) ?_ rfl rfl (by kernel_rfl) (by kernel_rfl)
    refine D_one 6 rfl (E_gv0 (f := 43) ⟨_, Try.func43, rfl, by kernel_rfl⟩ rfl (fun w hS => counted_any w A _ c 45 [.pointer (some ⟨b, 0, none⟩)] ms (fun m => decide (m ∈ set)) ((Srd.old h (fun k _ => noOwns k)).rd w hS) hn ⟨_, Try.func45, rfl, by kernel_rfl⟩ (fun w' hk m => maj1_any w' b A2 n2 c2 set m (((Srd.pt (g := b) (n := 1) (size := 1) (ds := [.slice A2 n2 c2]) rfl (fun j v hj => by rw [Nat.zero_add]; exact hj)).rd w hS).keep hk) (((Srd.old h2 (fun k _ => noOwns k)).rd w hS).keep hk) hn2)) (fun _ => rfl)) ?_ rfl rfl (by kernel_rfl)
    rintro _ _ ⟨_, rfl, _, rfl⟩
    refine Nx_same sub_st ?_
    (refine D_take 7 rfl (T_mulN rfl rfl (by unfold fits; omega)) ?_ rfl rfl (by kernel_rfl) (by kernel_rfl))
    refine D_take 11 rfl (pev_ok rfl) ?_ rfl rfl (by kernel_rfl) (by kernel_rfl)
    refine D_take 12 rfl (pev_ok rfl) ?_ rfl rfl (by kernel_rfl) (by kernel_rfl)
    refine D_take 13 rfl (pev_ok rfl) ?_ rfl rfl (by kernel_rfl) (by kernel_rfl)
    refine D_done ?_ (by kernel_rfl)
    skip
    skip
    refine hB _ _ _ _ _ rfl rfl fun w' hS => ⟨(), ?_, trivial, hS.sublist (List.nil_sublist _)⟩
    rw [majB, hr, Bool.true_and]
    show Value.bool _ = _
    congr 1
    exact decide_eq_decide.2 (by omega)
set_option maxRecDepth 100000 in
set_option maxHeartbeats 4000000 in
theorem stp1_any (w : World) (A : Option Addr) (n c : Nat) :
    Gives Try.prog 41 [cfv A n c] [] w (X := Nat) (fun b => .func (.func 42) #[] #[.pointer (some ⟨b, 0, none⟩)]) (fun _ => True) (fun b => [pt b 24 [.slice A n c]]) := by
  refine gives_S Try.func41 rfl Try.ntmps41 Try.results41 (by simp) (St.enter w) (fun B hB => ?_)
  focus (refine S_seq rfl ?_; refine S_region rfl rfl ?_; (refine R_eff (E_boxa rfl) ?_ rfl rfl; rintro _ _ ⟨b, rfl, rfl⟩); refine R_p rfl ?_ rfl rfl; refine R_nil ?_; refine S_seq rfl ?_; refine S_region rfl rfl ?_; refine R_take (T_func rfl rfl) ?_ rfl rfl; refine R_p rfl ?_ rfl rfl; refine R_nil ?_)
  refine hB _ _ _ _ _ rfl rfl fun w' hS => ⟨b, rfl, trivial, hS⟩
set_option maxRecDepth 100000 in
set_option maxHeartbeats 4000000 in
theorem stp2_any (w : World) (b : Nat) (A : Option Addr) (n c : Nat) (ms : List Int) (m : Int) (hb : Rd w All 1 (some ⟨b, 0, none⟩) 1 [.slice A n c]) (h : Rd w All 1 A n (ms.map zv)) (hn : n ≤ 1000) :
    Gives Try.prog 42 [zv m, .pointer (some ⟨b, 0, none⟩)] [] w (X := Unit) (fun _ => .bool (!(right ms && decide (m ∈ ms)))) (fun _ => True) (fun _ => []) := by
  refine gives_S Try.func42 rfl Try.ntmps42 Try.results42 (by simp) (St.enter w) (fun B hB => ?_)
  focus (refine S_seq rfl ?_; refine S_region rfl rfl ?_; refine R_p rfl ?_ rfl rfl; refine R_nil ?_; refine S_seq rfl ?_; refine S_region rfl rfl ?_; refine R_take (T_loadga (ds := [.slice A n c]) rfl rfl rfl hb (fun k _ => noOwns k) rfl (by decide) (fun j v h => by rw [Nat.zero_add]; exact h)) ?_ rfl rfl; refine R_p rfl ?_ rfl rfl; (refine R_eff (E_gv0 (f := 15) ⟨_, Try.func15, rfl, by kernel_rfl⟩ rfl (fun w hS => has_any w A _ c ms m ((Srd.old h (fun k _ => noOwns k)).rd w hS) hn) (fun _ => rfl)) ?_ rfl rfl; rintro _ _ ⟨_, rfl, _, rfl⟩); refine R_take (T_not rfl) ?_ rfl rfl; refine R_p rfl ?_ rfl rfl; refine R_nil ?_)
  refine hB _ _ _ _ _ rfl rfl fun w' hS => ⟨(), rfl, trivial, hS.sublist (List.nil_sublist _)⟩
/-- how many of ms are not of ks -/
def lackN (ms ks : List Int) : Nat := ms.countP (fun m => !(right ks && decide (m ∈ ks)))
def stpE (a b : List Int) : Int := if right a && right b then (if lackN a b + lackN b a > 1 then 241 else 0) else 240
set_option maxRecDepth 100000 in
set_option maxHeartbeats 4000000 in
theorem step_any (w : World) (A A2 : Option Addr) (n c n2 c2 : Nat) (ms ks : List Int) (h : Rd w All 1 A n (ms.map zv)) (h2 : Rd w All 1 A2 n2 (ks.map zv)) (hn : n ≤ 1000) (hn2 : n2 ≤ 1000) :
    Gives Try.prog 27 [cfv A n c, cfv A2 n2 c2] [] w (X := Unit) (fun _ => .int .i64 (stpE ms ks)) (fun _ => True) (fun _ => []) := by
  refine gives_S Try.func27 rfl Try.ntmps27 Try.results27 (by simp) (St.enter w) (fun B hB => ?_)
  have hl : ms.length = n := by have := h.1; simpa using this
  have hl2 : ks.length = n2 := by have := h2.1; simpa using this
  subst hl hl2
  have hc1 : ms.countP (fun m => !(right ks && decide (m ∈ ks))) ≤ ms.length := List.countP_le_length
  have hc2 : ks.countP (fun m => !(right ms && decide (m ∈ ms))) ≤ ks.length := List.countP_le_length
  cases hr : right ms
  · skip
    focus (refine S_seq rfl ?_; refine S_region rfl rfl ?_; (refine R_eff (E_boxa rfl) ?_ rfl rfl; rintro _ _ ⟨b, rfl, rfl⟩); (refine R_eff (E_boxa rfl) ?_ rfl rfl; rintro _ _ ⟨b, rfl, rfl⟩); refine R_p rfl ?_ rfl rfl; refine R_nil ?_; refine S_seq rfl ?_; refine S_seq rfl ?_; refine S_region rfl rfl ?_; refine R_take (T_loada (ds := [.slice A ms.length c]) rfl rfl rfl rfl (fun j v h => by simpa using h)) ?_ rfl rfl; (refine R_eff (E_checkF rfl (Srd.old h (fun k _ => noOwns k)) hn hr) ?_ rfl rfl; rintro _ _ ⟨rfl, rfl⟩); refine R_p rfl ?_ rfl rfl; refine R_p rfl ?_ rfl rfl; refine R_skip ?_ rfl rfl; refine R_skip ?_ rfl rfl; refine R_skip ?_ rfl rfl; refine R_p rfl ?_ rfl rfl; refine R_nil ?_; refine S_true rfl rfl ?_; refine S_seq rfl ?_; refine S_region rfl rfl ?_; refine R_p rfl ?_ rfl rfl; refine R_nil ?_)
    all_goals (try (exfalso; simp_all; done))
    refine hB _ _ _ _ _ rfl rfl fun w' hS => ⟨(), ?_, trivial, hS.sublist (List.nil_sublist _)⟩
    rw [stpE, hr]
    rfl
  cases hr2 : right ks
  · skip
    focus (refine S_seq rfl ?_; refine S_region rfl rfl ?_; (refine R_eff (E_boxa rfl) ?_ rfl rfl; rintro _ _ ⟨b, rfl, rfl⟩); (refine R_eff (E_boxa rfl) ?_ rfl rfl; rintro _ _ ⟨b, rfl, rfl⟩); refine R_p rfl ?_ rfl rfl; refine R_nil ?_; refine S_seq rfl ?_; refine S_seq rfl ?_; refine S_region rfl rfl ?_; refine R_take (T_loada (ds := [.slice A ms.length c]) rfl rfl rfl rfl (fun j v h => by simpa using h)) ?_ rfl rfl; (refine R_eff (E_checkT rfl (Srd.old h (fun k _ => noOwns k)) hn hr) ?_ rfl rfl; rintro _ _ ⟨rfl, rfl⟩); refine R_p rfl ?_ rfl rfl; refine R_p rfl ?_ rfl rfl; refine R_take (T_loada (ds := [.slice A2 ks.length c2]) rfl rfl rfl rfl (fun j v h => by simpa using h)) ?_ rfl rfl; (refine R_eff (E_checkF rfl (Srd.old h2 (fun k _ => noOwns k)) hn2 hr2) ?_ rfl rfl; rintro _ _ ⟨rfl, rfl⟩); refine R_p rfl ?_ rfl rfl; refine R_p rfl ?_ rfl rfl; refine R_nil ?_; refine S_true rfl rfl ?_; refine S_seq rfl ?_; refine S_region rfl rfl ?_; refine R_p rfl ?_ rfl rfl; refine R_nil ?_)
    all_goals (try (exfalso; simp_all; done))
    refine hB _ _ _ _ _ rfl rfl fun w' hS => ⟨(), ?_, trivial, hS.sublist (List.nil_sublist _)⟩
    rw [stpE, hr, hr2]
    rfl
  focus (refine S_seq rfl ?_; refine S_region rfl rfl ?_; (refine R_eff (E_boxa rfl) ?_ rfl rfl; rintro _ _ ⟨b, rfl, rfl⟩); (refine R_eff (E_boxa rfl) ?_ rfl rfl; rintro _ _ ⟨b, rfl, rfl⟩); refine R_p rfl ?_ rfl rfl; refine R_nil ?_; refine S_seq rfl ?_; refine S_seq rfl ?_; refine S_region rfl rfl ?_; refine R_take (T_loada (ds := [.slice A ms.length c]) rfl rfl rfl rfl (fun j v h => by simpa using h)) ?_ rfl rfl; (refine R_eff (E_checkT rfl (Srd.old h (fun k _ => noOwns k)) hn hr) ?_ rfl rfl; rintro _ _ ⟨rfl, rfl⟩); refine R_p rfl ?_ rfl rfl; refine R_p rfl ?_ rfl rfl; refine R_take (T_loada (ds := [.slice A2 ks.length c2]) rfl rfl rfl rfl (fun j v h => by simpa using h)) ?_ rfl rfl; (refine R_eff (E_checkT rfl (Srd.old h2 (fun k _ => noOwns k)) hn2 hr2) ?_ rfl rfl; rintro _ _ ⟨rfl, rfl⟩); refine R_p rfl ?_ rfl rfl; refine R_p rfl ?_ rfl rfl; refine R_nil ?_; refine S_false rfl rfl ?_; refine S_skip rfl ?_; refine S_seq rfl ?_; refine S_region rfl rfl ?_; refine R_p rfl ?_ rfl rfl; refine R_nil ?_; refine S_seq rfl ?_; refine S_seq rfl ?_)
  all_goals (try (exfalso; simp_all; done))
  refine S_cut (X := Unit) (fun _ => [(25, .bool (decide ((1 : Int) < ((lackN ms ks + lackN ks ms : Nat) : Int))))]) (fun _ => []) (fun _ => True) (fun J hJ => ?_) (fun x _ => ?_)
  · skip
    refine S_draw (_) (fun _ h => h) (by kernel_rfl) rfl (by kernel_rfl) (by kernel_rfl : _ = 12) ?_
    refine D_take 0 rfl (T_loada (ds := [.slice A ms.length c]) rfl rfl rfl rfl (fun j v h => by simpa using h)) ?_ rfl rfl (by kernel_rfl) (by kernel_rfl)
    refine D_take 1 rfl (pev_ok rfl) ?_ rfl rfl (by kernel_rfl) (by kernel_rfl)
    refine D_take 2 rfl (T_loada (ds := [.slice A2 ks.length c2]) rfl rfl rfl rfl (fun j v h => by simpa using h)) ?_ rfl rfl (by kernel_rfl) (by kernel_rfl)
    refine D_take 5 rfl (T_loada (ds := [.slice A2 ks.length c2]) rfl rfl rfl rfl (fun j v h => by simpa using h)) ?_ rfl rfl (by kernel_rfl) (by kernel_rfl)
    refine D_take 6 rfl (pev_ok rfl) ?_ rfl rfl (by kernel_rfl) (by kernel_rfl)
    refine D_take 7 rfl (T_loada (ds := [.slice A ms.length c]) rfl rfl rfl rfl (fun j v h => by simpa using h)) ?_ rfl rfl (by kernel_rfl) (by kernel_rfl)
    refine D_one 3 rfl (E_cloA (cap := []) rfl (E_gv1 (f := 41) ⟨_, Try.func41, rfl, by kernel_rfl⟩ rfl (fun w hS => stp1_any w A2 ks.length c2) (fun _ => rfl))) ?_ rfl rfl (by kernel_rfl)
    rintro _ _ ⟨bx, rfl, _, rfl⟩
    refine Nx_same sub_st ?_
    refine D_one 4 rfl (E_gv0 (f := 43) ⟨_, Try.func43, rfl, by kernel_rfl⟩ rfl (fun w hS => counted_any w A _ c 42 [.pointer (some ⟨bx, 0, none⟩)] ms (fun m => !(right ks && decide (m ∈ ks))) ((Srd.old h (fun k _ => noOwns k)).rd w hS) hn ⟨_, Try.func42, rfl, by kernel_rfl⟩ (fun w' hk m => stp2_any w' bx A2 _ c2 ks m (((Srd.pt (g := bx) (n := 1) (size := 1) (ds := [.slice A2 ks.length c2]) rfl (fun j v hj => by rw [Nat.zero_add]; exact hj)).rd w hS).keep hk) (((Srd.old h2 (fun k _ => noOwns k)).rd w hS).keep hk) hn2)) (fun _ => rfl)) ?_ rfl rfl (by kernel_rfl)
    rintro _ _ ⟨_, rfl, _, rfl⟩
    refine Nx_same sub_st ?_
    refine D_one 8 rfl (E_cloA (cap := []) rfl (E_gv1 (f := 41) ⟨_, Try.func41, rfl, by kernel_rfl⟩ rfl (fun w hS => stp1_any w A ms.length c) (fun _ => rfl))) ?_ rfl rfl (by kernel_rfl)
    rintro _ _ ⟨cx, rfl, _, rfl⟩
    refine Nx_same sub_st ?_
    refine D_one 9 rfl (E_gv0 (f := 43) ⟨_, Try.func43, rfl, by kernel_rfl⟩ rfl (fun w hS => counted_any w A2 _ c2 42 [.pointer (some ⟨cx, 0, none⟩)] ks (fun m => !(right ms && decide (m ∈ ms))) ((Srd.old h2 (fun k _ => noOwns k)).rd w hS) hn2 ⟨_, Try.func42, rfl, by kernel_rfl⟩ (fun w' hk m => stp2_any w' cx A _ c ms m (((Srd.pt (g := cx) (n := 1) (size := 1) (ds := [.slice A ms.length c]) rfl (fun j v hj => by rw [Nat.zero_add]; exact hj)).rd w hS).keep hk) (((Srd.old h (fun k _ => noOwns k)).rd w hS).keep hk) hn)) (fun _ => rfl)) ?_ rfl rfl (by kernel_rfl)
    rintro _ _ ⟨_, rfl, _, rfl⟩
    refine Nx_same sub_st ?_
    (refine D_take 10 rfl (T_addN rfl rfl (by unfold fits; omega)) ?_ rfl rfl (by kernel_rfl) (by kernel_rfl))
    refine D_take 11 rfl (pev_ok rfl) ?_ rfl rfl (by kernel_rfl) (by kernel_rfl)
    refine D_done ?_ (by kernel_rfl)
    exact hJ () _ _ trivial (Sub.cons rfl Sub.nil) (fun w hS => hS.sublist (List.nil_sublist _))
  focus ((refine S_if rfl rfl (fun hs => ?_) (fun hs => ?_)); refine S_seq rfl ?_; refine S_region rfl rfl ?_; refine R_p rfl ?_ rfl rfl; refine R_nil ?_; rotate_left; refine S_skip rfl ?_; refine S_seq rfl ?_; refine S_region rfl rfl ?_; refine R_p rfl ?_ rfl rfl; refine R_nil ?_; rotate_left)
  all_goals
    refine hB _ _ _ _ _ rfl rfl fun w' hS => ⟨(), ?_, trivial, hS.sublist (List.nil_sublist _)⟩
    rw [stpE, hr, hr2]
    simp only [Bool.and_self, if_true]
    first
    | rw [if_pos (by omega)]; rfl
    | rw [if_neg (by omega)]; rfl
set_option maxRecDepth 100000 in
set_option maxHeartbeats 4000000 in
theorem cosame_any (w : World) (A A2 : Option Addr) (n c n2 c2 : Nat) (ms ks : List Int) (h : Rd w All 1 A n (ms.map zv)) (h2 : Rd w All 1 A2 n2 (ks.map zv)) (hn : n ≤ 1000) (hn2 : n2 ≤ 1000) :
    Gives Try.prog 29 [cfv A n c, cfv A2 n2 c2] [] w (X := Unit) (fun _ => .bool (decide (ms = ks))) (fun _ => True) (fun _ => []) := by
  refine gives_S Try.func29 rfl Try.ntmps29 Try.results29 (by simp) (St.enter w) (fun B hB => ?_)
  focus (refine S_seq rfl ?_; refine S_region rfl rfl ?_; (refine R_eff (E_boxa rfl) ?_ rfl rfl; rintro _ _ ⟨b, rfl, rfl⟩); (refine R_eff (E_boxa rfl) ?_ rfl rfl; rintro _ _ ⟨b, rfl, rfl⟩); refine R_p rfl ?_ rfl rfl; refine R_nil ?_; refine S_seq rfl ?_; refine S_region rfl rfl ?_; refine R_p rfl ?_ rfl rfl; refine R_take (T_load rfl rfl rfl (by first | rfl | assumption)) ?_ rfl rfl; refine R_p rfl ?_ rfl rfl; refine R_take (T_load rfl rfl rfl (by first | rfl | assumption)) ?_ rfl rfl; (refine R_eff (E_gv0 (f := 44) ⟨_, Try.func44, rfl, by kernel_rfl⟩ rfl (fun w hS => eql_any w A A2 _ c _ c2 ms ks ((Srd.old h (fun k _ => noOwns k)).rd w hS) ((Srd.old h2 (fun k _ => noOwns k)).rd w hS) hn hn2) (fun _ => rfl)) ?_ rfl rfl; rintro _ _ ⟨_, rfl, _, rfl⟩); refine R_p rfl ?_ rfl rfl; refine R_nil ?_)
  refine hB _ _ _ _ _ rfl rfl fun w' hS => ⟨(), rfl, trivial, hS.sublist (List.nil_sublist _)⟩
end Go.Proofs.Ytlihhjldkopfhaa
