/- Messages: the plain bytes. -/
import Derived.Test.YtdbehejbeioboaaDoorFr8
namespace Go.Proofs.YtdbehejbeioboaaDoor
open Go.RowKit
open Asn (pt row rb)
set_option linter.unusedVariables false
set_option linter.unusedSimpArgs false
--@use N

/-- what a message that may be is like -/
structure MsOk (x : Ms) : Prop where
  K1 : 1 ≤ x.K
  K7 : x.K ≤ 7
  zer : (zerL x x.es.length x.cf.length x.dt.length).all id = true
  F1 : 1 ≤ x.F
  F5 : x.F ≤ 5
  T1 : 1 ≤ x.T
  T5 : x.T ≤ 5
  FT : x.F ≠ x.T
  t0 : 0 < x.tm
  t62 : x.tm ≤ 4611686018427387904
  bn : (!(decide ((x.pl.1 : Int) = 0) != decide ((x.pl.2 : Int) = 0))) = true
  tt : x.pl.2 ≤ x.tm
  k1 : ¬ (x.K = 1 ∧ x.pl.2 = x.tm)
  k7 : ¬ (x.K = 7 ∧ x.pl.2 = 0)
  n8 : x.es.length ≤ 8
  c5 : x.cf.length ≤ 5
  d6 : x.dt.length ≤ 65536
  ris : risT x.es x.pl.2 x.tm = true
  la : x.pl.1 ≤ 18446744073709551614 - x.es.length
  all : (x.cf.all fun n => decide (1 ≤ n) && decide (n ≤ 255)) = true
theorem right_ok {x : Ms} : rightM x = true ↔ MsOk x := by
  unfold rightM mgL
  simp only [List.all_cons, List.all_nil, id, Bool.and_eq_true, decide_eq_true_eq, and_true]
  constructor
  · rintro ⟨a1, a2, a3, a4, a5, a6, a7, a8, a9, a10, a11, a12, a13, a14, a15, a16, a17, a18, a19, a20⟩
    exact ⟨a1, a2, a3, a4, a5, a6, a7, a8, a9, a10, a11, a12, a13, a14, a15, a16, a17, a18, a19, a20⟩
  · intro h
    exact ⟨h.K1, h.K7, h.zer, h.F1, h.F5, h.T1, h.T5, h.FT, h.t0, h.t62, h.bn, h.tt, h.k1, h.k7, h.n8, h.c5, h.d6, h.ris, h.la, h.all⟩
theorem ris_placed : ∀ (l : List En) (t : Nat), risingB l t = true → ∀ e ∈ l, placedB e = true
  | [], _, _, e, he => absurd he (by simp)
  | f :: l, t, h, e, he => by
    unfold risingB at h
    simp only [Bool.and_eq_true] at h
    rcases List.mem_cons.1 he with rfl | he
    · exact h.1.1
    · exact ris_placed l f.1 h.2 e he
theorem placed_kind {e : En} (h : placedB e = true) : e.2.1 = 1 ∨ e.2.1 = 2 ∨ e.2.1 = 3 := by
  unfold placedB at h
  split at h
  · omega
  split at h
  · omega
  · cases h
theorem placed_len {e : En} (h : placedB e = true) : e.2.2.length ≤ 1024 := by
  unfold placedB at h
  split at h
  · simp at h; have := h.2; simp [this]
  split at h
  · simp at h; omega
  · cases h
theorem MsOk.pl_ {x : Ms} (h : MsOk x) : ∀ e ∈ x.es, placedB e = true := by
  have := h.ris
  unfold risT at this
  rw [Bool.and_eq_true] at this
  exact ris_placed _ _ this.1
theorem MsOk.ed {x : Ms} (h : MsOk x) : ∀ e ∈ x.es, e.2.2.length ≤ 1024 := fun e he => placed_len (h.pl_ e he)
/-- its numbers have 64 bits -/
structure MsU (x : Ms) : Prop where
  tm : x.tm < 18446744073709551616
  p1 : x.pl.1 < 18446744073709551616
  p2 : x.pl.2 < 18446744073709551616
  cm : x.cm < 18446744073709551616
  ix : x.ix < 18446744073709551616
  es : ∀ e ∈ x.es, e.1 < 18446744073709551616
def okb (b : Bool) : UInt8 := if b then 1 else 0
/-- a message's bytes, but for the sum -/
def plainB (x : Ms) : List UInt8 :=
  if x.K = 1 ∨ x.K = 3 then [kb x.K, kb x.F, kb x.T] ++ be 8 x.tm ++ be 8 x.pl.1 ++ be 8 x.pl.2
  else if x.K = 2 ∨ x.K = 4 then [kb x.K, kb x.F, kb x.T] ++ be 8 x.tm ++ [okb x.ok]
  else if x.K = 5 then [kb x.K, kb x.F, kb x.T] ++ be 8 x.tm ++ be 8 x.pl.1 ++ be 8 x.pl.2 ++ [kb (x.es.length : Int)] ++ x.es.flatMap entB ++ be 8 x.cm
  else if x.K = 6 then [kb x.K, kb x.F, kb x.T] ++ be 8 x.tm ++ [okb x.ok] ++ be 8 x.ix
  else [kb x.K, kb x.F, kb x.T] ++ be 8 x.tm ++ be 8 x.pl.1 ++ be 8 x.pl.2 ++ [kb (x.cf.length : Int)] ++ x.cf.map kb ++ be 4 x.dt.length ++ x.dt
theorem plainB_1 (x : Ms) (h : x.K = 1) : plainB x = [kb x.K, kb x.F, kb x.T] ++ be 8 x.tm ++ be 8 x.pl.1 ++ be 8 x.pl.2 := by unfold plainB; rw [if_pos (by omega)]
theorem plainB_3 (x : Ms) (h : x.K = 3) : plainB x = [kb x.K, kb x.F, kb x.T] ++ be 8 x.tm ++ be 8 x.pl.1 ++ be 8 x.pl.2 := by unfold plainB; rw [if_pos (by omega)]
theorem plainB_2 (x : Ms) (h : x.K = 2) : plainB x = [kb x.K, kb x.F, kb x.T] ++ be 8 x.tm ++ [okb x.ok] := by unfold plainB; rw [if_neg (by omega), if_pos (by omega)]
theorem plainB_4 (x : Ms) (h : x.K = 4) : plainB x = [kb x.K, kb x.F, kb x.T] ++ be 8 x.tm ++ [okb x.ok] := by unfold plainB; rw [if_neg (by omega), if_pos (by omega)]
theorem plainB_5 (x : Ms) (h : x.K = 5) : plainB x = [kb x.K, kb x.F, kb x.T] ++ be 8 x.tm ++ be 8 x.pl.1 ++ be 8 x.pl.2 ++ [kb (x.es.length : Int)] ++ x.es.flatMap entB ++ be 8 x.cm := by unfold plainB; rw [if_neg (by omega), if_neg (by omega), if_pos (by omega)]
theorem plainB_6 (x : Ms) (h : x.K = 6) : plainB x = [kb x.K, kb x.F, kb x.T] ++ be 8 x.tm ++ [okb x.ok] ++ be 8 x.ix := by unfold plainB; rw [if_neg (by omega), if_neg (by omega), if_neg (by omega), if_pos (by omega)]
theorem plainB_7 (x : Ms) (h : x.K = 7) : plainB x = [kb x.K, kb x.F, kb x.T] ++ be 8 x.tm ++ be 8 x.pl.1 ++ be 8 x.pl.2 ++ [kb (x.cf.length : Int)] ++ x.cf.map kb ++ be 4 x.dt.length ++ x.dt := by unfold plainB; rw [if_neg (by omega), if_neg (by omega), if_neg (by omega), if_neg (by omega)]
theorem T_ok {P : Program} [HasTab P] {n : Nat} {w0 : World} {M : Nat → Prop} {T : Slots} {H : List Asn} {dd : Option Tmp} {tt : TypeId} {pos : String} {af : Array Edge} {g : Option (Nat × Bool)} {x : Operand} {s : TypeId} {b : Nat} {y : Ms} {r : Bool} {i : Ti} {off t : Nat} {cs : List Value} (h : y.ok = r) (hx : oget T x = some (.pointer (some ⟨b, off, none⟩))) (hs : ty P s = some i) (hi : aggB i.desc = false) [hm : Hat H b t cs] (hv : cs[off]? = some (.bool y.ok)) :
    Tk P n w0 M T H ⟨dd, .load s x, tt, pos, af, g⟩ (.bool r) := by
  subst h
  exact T_load hx hs hi hv
set_option maxRecDepth 100000 in
set_option maxHeartbeats 4000000 in
theorem has_k (w : World) (f g : Nat) (r : Bool) (hf : f < 128) (hg : g < 128) (hr : decide ((f &&& g) ≠ 0) = r) :
    Gives Tryd.prog 39 [.int .i64 (f : Int), .int .i64 (g : Int)] [] w (X := Unit) (fun _ => .bool r) (fun _ => True) (fun _ => []) := by
  refine gives_S Tryd.func39 rfl Tryd.ntmps39 Tryd.results39 (by simp) (St.enter w) (fun B hB => ?_)
  subst hr
  by_cases h0 : f &&& g = 0
  · skip
    rw [decide_eq_false (by omega)] at hB
    focus (refine S_seq rfl ?_; refine S_region rfl rfl ?_; refine R_p rfl ?_ rfl rfl; refine R_nil (S_seq rfl (S_region rfl rfl ?_)); (iterate 2 refine R_p rfl ?_ rfl rfl); refine R_take (T_andN (p := f) (q := g) (r := f &&& g) rfl rfl rfl hf hg) ?_ rfl rfl; refine R_take (T_decF rfl (by omega)) ?_ rfl rfl; refine R_p rfl ?_ rfl rfl; refine R_nil ?_)
    exact hB _ _ _ _ _ rfl rfl fun w' hS => ⟨(), rfl, trivial, hS.sublist (List.nil_sublist _)⟩
  · skip
    rw [decide_eq_true (by omega)] at hB
    focus (refine S_seq rfl ?_; refine S_region rfl rfl ?_; refine R_p rfl ?_ rfl rfl; refine R_nil (S_seq rfl (S_region rfl rfl ?_)); (iterate 2 refine R_p rfl ?_ rfl rfl); refine R_take (T_andN (p := f) (q := g) (r := f &&& g) rfl rfl rfl hf hg) ?_ rfl rfl; refine R_take (T_decT rfl (by omega)) ?_ rfl rfl; refine R_p rfl ?_ rfl rfl; refine R_nil ?_)
    exact hB _ _ _ _ _ rfl rfl fun w' hS => ⟨(), rfl, trivial, hS.sublist (List.nil_sublist _)⟩
theorem pute_k (w : World) (A : Option Addr) (n c : Nat) (l : List UInt8) (hl : l.length = n) (hn : n ≤ 900000) (hS0 : St w (owns [row 5 1 A n c (l.map bv)]) [row 5 1 A n c (l.map bv)] w) (eA : Option Addr) (k ec : Nat) (Q : List Em) (hk : Q.length = k) (hk8 : k ≤ 8) (es : List En) (he : Q.map emv = es) (E : List UInt8) (N : Nat) (hE : es.flatMap entB = E) (hN : E.length = N) (hq : ∀ m ∈ Q, m.1 < 18446744073709551616 ∧ m.2.2.2.2.length ≤ 2000 ∧ Bs w (fun b => ¬ owns [row 5 1 A n c (l.map bv)] b) m.2.2.1 m.2.2.2.2.length m.2.2.2.1 m.2.2.2.2) (hr : Rd w (fun b => ¬ owns [row 5 1 A n c (l.map bv)] b) 3 eA k (cellsL emc Q)) :
    Gives Tryd.prog 51 [.slice A n c, .slice eA k ec, .func (.func 52) #[] #[]] [row 5 1 A n c (l.map bv)] w (X := Option Addr × Nat) (fun y => .slice y.1 (n + N) y.2) (fun _ => True) (fun y => [row 5 1 y.1 (n + N) y.2 ((l ++ E).map bv)]) := by
  subst he hE hN
  exact pute_any w A n c l hl hn hS0 eA k ec Q hk hk8 hq hr
theorem flat_le : ∀ (l : List En), (∀ e ∈ l, e.2.2.length ≤ 1024) → (l.flatMap entB).length ≤ l.length * 1035
  | [], _ => Nat.zero_le _
  | e :: l, h => by
    have h1 := h e (List.mem_cons_self ..)
    have h2 := flat_le l fun x hx => h x (List.mem_cons_of_mem _ hx)
    rw [List.flatMap_cons, List.length_append, entB_len, List.length_cons]
    omega
set_option maxRecDepth 100000 in
set_option maxHeartbeats 4000000 in
theorem plain_k (w : World) (x : Ms) (p : Mp) (h : MsR w x p) (hu : MsU x) (hok : MsOk x) (l : List UInt8) (n : Nat) (hpl : plainB x = l) (hln : l.length = n) :
    Gives Tryd.prog 22 [.agg (mgc x p).toArray] [] w (X := Option Addr × Nat) (fun y => .slice y.1 n y.2) (fun _ => True) (fun y => [row 5 1 y.1 n y.2 (l.map bv)]) := by
  refine gives_S Tryd.func22 rfl Tryd.ntmps22 Tryd.results22 (by simp) (St.enter w) (fun B hB => ?_)
  have hk1 := hok.K1
  have hk7 := hok.K7
  have hn8 := hok.n8
  have hc5 := hok.c5
  have hd6 := hok.d6
  have hln' := h.ln
  have hcn' := h.hc
  have hdn' := h.dn
  obtain ⟨E, hE⟩ : ∃ E, x.es.flatMap entB = E := ⟨_, rfl⟩
  obtain ⟨N, hN⟩ : ∃ N, E.length = N := ⟨_, rfl⟩
  have hNb : N ≤ 8300 := by have := flat_le x.es hok.ed; rw [hE, hN] at this; omega
  rcases (by omega : x.K = 1 ∨ x.K = 2 ∨ x.K = 3 ∨ x.K = 4 ∨ x.K = 5 ∨ x.K = 6 ∨ x.K = 7) with hK | hK | hK | hK | hK | hK | hK
  · skip
    have hf : fldN x.K = 1 := by rw [hK]; rfl
    have hp := plainB_1 x hK
    rw [hp] at hpl
    focus (refine S_seq rfl ?_; refine S_region rfl rfl ?_; (refine R_eff (E_boxa (cs := mgc x p) rfl) ?_ rfl rfl; rintro _ _ ⟨b1, rfl, rfl⟩); refine R_p rfl ?_ rfl rfl; refine R_nil (S_seq rfl (S_region rfl rfl ?_)); refine R_p rfl ?_ rfl rfl; refine R_take (T_load rfl rfl rfl rfl) ?_ rfl rfl; ((refine R_eff (E_hv0 (f := 24) ⟨_, Tryd.func24, rfl, by kernel_rfl⟩ (fun w hS => fields_any w x.K) rfl rfl (fun _ => rfl)) ?_ rfl rfl; rintro _ _ ⟨_, rfl, _, rfl⟩); rw [hf]); refine R_p rfl ?_ rfl rfl; refine R_nil (S_seq rfl (S_region rfl rfl ?_)); refine R_p rfl ?_ rfl rfl; refine R_take (T_load rfl rfl rfl rfl) ?_ rfl rfl; refine R_take (T_cvb rfl rfl rfl rfl) ?_ rfl rfl; refine R_p rfl ?_ rfl rfl; refine R_take (T_load rfl rfl rfl rfl) ?_ rfl rfl; refine R_take (T_cvb rfl rfl rfl rfl) ?_ rfl rfl; refine R_p rfl ?_ rfl rfl; refine R_take (T_load rfl rfl rfl rfl) ?_ rfl rfl; refine R_take (T_cvb rfl rfl rfl rfl) ?_ rfl rfl; (refine R_eff (E_litB (l := [kb x.K, kb x.F, kb x.T]) rfl rfl rfl rfl rfl rfl (by decide)) ?_ rfl rfl; rintro _ _ ⟨A1, c1, rfl, rfl⟩); refine R_p rfl ?_ rfl rfl; refine R_take (T_load rfl rfl rfl rfl) ?_ rfl rfl; (refine R_eff (E_put64 (A := A1) (m := 3) (c := c1) (l := [kb x.K, kb x.F, kb x.T]) (X := x.tm) rfl rfl Src.row (by omega) hu.tm) ?_ rfl rfl; rintro _ _ ⟨A2, c2, rfl, rfl⟩); refine R_p rfl ?_ rfl rfl; refine R_nil ?_; refine S_seq rfl ?_; refine S_seq rfl (S_region rfl rfl ?_); refine R_p rfl ?_ rfl rfl; (refine R_eff (E_hv0 (f := 39) ⟨_, Tryd.func39, rfl, by kernel_rfl⟩ (fun w hS => has_k w 1 1 true (by decide) (by decide) (by decide)) rfl rfl (fun _ => rfl)) ?_ rfl rfl; rintro _ _ ⟨_, rfl, _, rfl⟩); refine R_nil ?_; refine S_true rfl rfl ?_)
    refine S_draw ([pt b1 31 (mgc x p)]) sub_st (by kernel_rfl) rfl (by kernel_rfl) (by kernel_rfl : _ = 10) ?_
    refine D_take 0 rfl (pev_ok rfl) ?_ rfl rfl (by kernel_rfl) (by kernel_rfl)
    refine D_take 1 rfl (pev_ok rfl) ?_ rfl rfl (by kernel_rfl) (by kernel_rfl)
    refine D_take 2 rfl (pev_ok rfl) ?_ rfl rfl (by kernel_rfl) (by kernel_rfl)
    refine D_take 3 rfl (T_load rfl rfl rfl rfl) ?_ rfl rfl (by kernel_rfl) (by kernel_rfl)
    refine D_take 5 rfl (pev_ok rfl) ?_ rfl rfl (by kernel_rfl) (by kernel_rfl)
    refine D_take 6 rfl (pev_ok rfl) ?_ rfl rfl (by kernel_rfl) (by kernel_rfl)
    refine D_take 7 rfl (T_load rfl rfl rfl rfl) ?_ rfl rfl (by kernel_rfl) (by kernel_rfl)
    refine D_one 4 rfl (E_put64 (A := A2) (m := 3 + 8) (c := c2) (l := [kb x.K, kb x.F, kb x.T] ++ be 8 x.tm) (X := x.pl.1) rfl rfl Src.row (by omega) hu.p1) ?_ rfl rfl (by kernel_rfl)
    rintro _ _ ⟨A3, c3, rfl, rfl⟩
    refine Nx_same sub_st ?_
    refine D_one 8 rfl (E_put64 (A := A3) (m := 3 + 8 + 8) (c := c3) (l := [kb x.K, kb x.F, kb x.T] ++ be 8 x.tm ++ be 8 x.pl.1) (X := x.pl.2) rfl rfl Src.row (by omega) hu.p2) ?_ rfl rfl (by kernel_rfl)
    rintro _ _ ⟨A4, c4, rfl, rfl⟩
    refine Nx_same sub_st ?_
    refine D_take 9 rfl (pev_ok rfl) ?_ rfl rfl (by kernel_rfl) (by kernel_rfl)
    refine D_done ?_ (by kernel_rfl)
    skip
    focus (refine S_seq rfl ?_; refine S_seq rfl (S_region rfl rfl ?_); refine R_p rfl ?_ rfl rfl; (refine R_eff (E_hv0 (f := 39) ⟨_, Tryd.func39, rfl, by kernel_rfl⟩ (fun w hS => has_k w 1 2 false (by decide) (by decide) (by decide)) rfl rfl (fun _ => rfl)) ?_ rfl rfl; rintro _ _ ⟨_, rfl, _, rfl⟩); refine R_nil ?_; refine S_false rfl rfl ?_; refine S_skip rfl ?_; refine S_seq rfl ?_; refine S_seq rfl (S_region rfl rfl ?_); refine R_p rfl ?_ rfl rfl; (refine R_eff (E_hv0 (f := 39) ⟨_, Tryd.func39, rfl, by kernel_rfl⟩ (fun w hS => has_k w 1 4 false (by decide) (by decide) (by decide)) rfl rfl (fun _ => rfl)) ?_ rfl rfl; rintro _ _ ⟨_, rfl, _, rfl⟩); refine R_nil ?_; refine S_false rfl rfl ?_; refine S_skip rfl ?_; refine S_seq rfl ?_; refine S_seq rfl (S_region rfl rfl ?_); refine R_p rfl ?_ rfl rfl; (refine R_eff (E_hv0 (f := 39) ⟨_, Tryd.func39, rfl, by kernel_rfl⟩ (fun w hS => has_k w 1 8 false (by decide) (by decide) (by decide)) rfl rfl (fun _ => rfl)) ?_ rfl rfl; rintro _ _ ⟨_, rfl, _, rfl⟩); refine R_nil ?_; refine S_false rfl rfl ?_; refine S_skip rfl ?_; refine S_seq rfl ?_; refine S_seq rfl (S_region rfl rfl ?_); refine R_p rfl ?_ rfl rfl; (refine R_eff (E_hv0 (f := 39) ⟨_, Tryd.func39, rfl, by kernel_rfl⟩ (fun w hS => has_k w 1 16 false (by decide) (by decide) (by decide)) rfl rfl (fun _ => rfl)) ?_ rfl rfl; rintro _ _ ⟨_, rfl, _, rfl⟩); refine R_nil ?_; refine S_false rfl rfl ?_; refine S_skip rfl ?_; refine S_seq rfl ?_; refine S_seq rfl (S_region rfl rfl ?_); refine R_p rfl ?_ rfl rfl; (refine R_eff (E_hv0 (f := 39) ⟨_, Tryd.func39, rfl, by kernel_rfl⟩ (fun w hS => has_k w 1 32 false (by decide) (by decide) (by decide)) rfl rfl (fun _ => rfl)) ?_ rfl rfl; rintro _ _ ⟨_, rfl, _, rfl⟩); refine R_nil ?_; refine S_false rfl rfl ?_; refine S_skip rfl ?_; refine S_seq rfl ?_; refine S_seq rfl (S_region rfl rfl ?_); refine R_p rfl ?_ rfl rfl; (refine R_eff (E_hv0 (f := 39) ⟨_, Tryd.func39, rfl, by kernel_rfl⟩ (fun w hS => has_k w 1 64 false (by decide) (by decide) (by decide)) rfl rfl (fun _ => rfl)) ?_ rfl rfl; rintro _ _ ⟨_, rfl, _, rfl⟩); refine R_nil ?_; refine S_false rfl rfl ?_; refine S_skip rfl ?_; refine S_seq rfl (S_region rfl rfl ?_); (iterate 2 refine R_p rfl ?_ rfl rfl); refine R_nil ?_)
    obtain rfl : l = [kb x.K, kb x.F, kb x.T] ++ be 8 x.tm ++ be 8 x.pl.1 ++ be 8 x.pl.2 := by rw [← hpl]; (try simp [okb])
    obtain rfl : n = 3 + 8 + 8 + 8 := by rw [← hln]; (try simp [be_len]); (try omega)
    exact hB _ _ _ _ _ rfl rfl fun w' hS => ⟨(A4, c4), rfl, trivial, sub_st w' hS⟩
  · skip
    have hf : fldN x.K = 2 := by rw [hK]; rfl
    have hp := plainB_2 x hK
    rw [hp] at hpl
    focus (refine S_seq rfl ?_; refine S_region rfl rfl ?_; (refine R_eff (E_boxa (cs := mgc x p) rfl) ?_ rfl rfl; rintro _ _ ⟨b1, rfl, rfl⟩); refine R_p rfl ?_ rfl rfl; refine R_nil (S_seq rfl (S_region rfl rfl ?_)); refine R_p rfl ?_ rfl rfl; refine R_take (T_load rfl rfl rfl rfl) ?_ rfl rfl; ((refine R_eff (E_hv0 (f := 24) ⟨_, Tryd.func24, rfl, by kernel_rfl⟩ (fun w hS => fields_any w x.K) rfl rfl (fun _ => rfl)) ?_ rfl rfl; rintro _ _ ⟨_, rfl, _, rfl⟩); rw [hf]); refine R_p rfl ?_ rfl rfl; refine R_nil (S_seq rfl (S_region rfl rfl ?_)); refine R_p rfl ?_ rfl rfl; refine R_take (T_load rfl rfl rfl rfl) ?_ rfl rfl; refine R_take (T_cvb rfl rfl rfl rfl) ?_ rfl rfl; refine R_p rfl ?_ rfl rfl; refine R_take (T_load rfl rfl rfl rfl) ?_ rfl rfl; refine R_take (T_cvb rfl rfl rfl rfl) ?_ rfl rfl; refine R_p rfl ?_ rfl rfl; refine R_take (T_load rfl rfl rfl rfl) ?_ rfl rfl; refine R_take (T_cvb rfl rfl rfl rfl) ?_ rfl rfl; (refine R_eff (E_litB (l := [kb x.K, kb x.F, kb x.T]) rfl rfl rfl rfl rfl rfl (by decide)) ?_ rfl rfl; rintro _ _ ⟨A1, c1, rfl, rfl⟩); refine R_p rfl ?_ rfl rfl; refine R_take (T_load rfl rfl rfl rfl) ?_ rfl rfl; (refine R_eff (E_put64 (A := A1) (m := 3) (c := c1) (l := [kb x.K, kb x.F, kb x.T]) (X := x.tm) rfl rfl Src.row (by omega) hu.tm) ?_ rfl rfl; rintro _ _ ⟨A2, c2, rfl, rfl⟩); refine R_p rfl ?_ rfl rfl; refine R_nil ?_; refine S_seq rfl ?_; refine S_seq rfl (S_region rfl rfl ?_); refine R_p rfl ?_ rfl rfl; (refine R_eff (E_hv0 (f := 39) ⟨_, Tryd.func39, rfl, by kernel_rfl⟩ (fun w hS => has_k w 2 1 false (by decide) (by decide) (by decide)) rfl rfl (fun _ => rfl)) ?_ rfl rfl; rintro _ _ ⟨_, rfl, _, rfl⟩); refine R_nil ?_; refine S_false rfl rfl ?_; refine S_skip rfl ?_; refine S_seq rfl ?_; refine S_seq rfl (S_region rfl rfl ?_); refine R_p rfl ?_ rfl rfl; (refine R_eff (E_hv0 (f := 39) ⟨_, Tryd.func39, rfl, by kernel_rfl⟩ (fun w hS => has_k w 2 2 true (by decide) (by decide) (by decide)) rfl rfl (fun _ => rfl)) ?_ rfl rfl; rintro _ _ ⟨_, rfl, _, rfl⟩); refine R_nil ?_; refine S_true rfl rfl ?_; refine S_seq rfl (S_region rfl rfl ?_); refine R_p rfl ?_ rfl rfl; refine R_nil ?_; refine S_seq rfl ?_; refine S_seq rfl (S_region rfl rfl ?_); refine R_p rfl ?_ rfl rfl; refine R_take (T_load rfl rfl rfl rfl) ?_ rfl rfl; refine R_nil ?_)
    cases hok : x.ok
    · skip
      rw [hok] at hpl
      focus (refine S_false rfl rfl ?_; refine S_skip rfl ?_; refine S_region rfl rfl ?_; (iterate 2 refine R_p rfl ?_ rfl rfl); (refine R_eff (E_litB (l := [0]) rfl rfl rfl rfl rfl rfl (by decide)) ?_ rfl rfl; rintro _ _ ⟨A5, c5, rfl, rfl⟩); (refine R_eff (E_appB (A := A2) (m := 3 + 8) (c := c2) (bs := [kb x.K, kb x.F, kb x.T] ++ be 8 x.tm) (nb := [0]) rfl rfl rfl rfl rfl rfl Src.row (by omega)) ?_ rfl rfl; rintro _ _ ⟨A6, c6, rfl, rfl⟩); refine R_p rfl ?_ rfl rfl; refine R_nil ?_; refine S_seq rfl ?_; refine S_seq rfl (S_region rfl rfl ?_); refine R_p rfl ?_ rfl rfl; (refine R_eff (E_hv0 (f := 39) ⟨_, Tryd.func39, rfl, by kernel_rfl⟩ (fun w hS => has_k w 2 4 false (by decide) (by decide) (by decide)) rfl rfl (fun _ => rfl)) ?_ rfl rfl; rintro _ _ ⟨_, rfl, _, rfl⟩); refine R_nil ?_; refine S_false rfl rfl ?_; refine S_skip rfl ?_; refine S_seq rfl ?_; refine S_seq rfl (S_region rfl rfl ?_); refine R_p rfl ?_ rfl rfl; (refine R_eff (E_hv0 (f := 39) ⟨_, Tryd.func39, rfl, by kernel_rfl⟩ (fun w hS => has_k w 2 8 false (by decide) (by decide) (by decide)) rfl rfl (fun _ => rfl)) ?_ rfl rfl; rintro _ _ ⟨_, rfl, _, rfl⟩); refine R_nil ?_; refine S_false rfl rfl ?_; refine S_skip rfl ?_; refine S_seq rfl ?_; refine S_seq rfl (S_region rfl rfl ?_); refine R_p rfl ?_ rfl rfl; (refine R_eff (E_hv0 (f := 39) ⟨_, Tryd.func39, rfl, by kernel_rfl⟩ (fun w hS => has_k w 2 16 false (by decide) (by decide) (by decide)) rfl rfl (fun _ => rfl)) ?_ rfl rfl; rintro _ _ ⟨_, rfl, _, rfl⟩); refine R_nil ?_; refine S_false rfl rfl ?_; refine S_skip rfl ?_; refine S_seq rfl ?_; refine S_seq rfl (S_region rfl rfl ?_); refine R_p rfl ?_ rfl rfl; (refine R_eff (E_hv0 (f := 39) ⟨_, Tryd.func39, rfl, by kernel_rfl⟩ (fun w hS => has_k w 2 32 false (by decide) (by decide) (by decide)) rfl rfl (fun _ => rfl)) ?_ rfl rfl; rintro _ _ ⟨_, rfl, _, rfl⟩); refine R_nil ?_; refine S_false rfl rfl ?_; refine S_skip rfl ?_; refine S_seq rfl ?_; refine S_seq rfl (S_region rfl rfl ?_); refine R_p rfl ?_ rfl rfl; (refine R_eff (E_hv0 (f := 39) ⟨_, Tryd.func39, rfl, by kernel_rfl⟩ (fun w hS => has_k w 2 64 false (by decide) (by decide) (by decide)) rfl rfl (fun _ => rfl)) ?_ rfl rfl; rintro _ _ ⟨_, rfl, _, rfl⟩); refine R_nil ?_; refine S_false rfl rfl ?_; refine S_skip rfl ?_; refine S_seq rfl (S_region rfl rfl ?_); (iterate 2 refine R_p rfl ?_ rfl rfl); refine R_nil ?_)
      obtain rfl : l = [kb x.K, kb x.F, kb x.T] ++ be 8 x.tm ++ [0] := by rw [← hpl]; (try simp [okb])
      obtain rfl : n = 3 + 8 + 1 := by rw [← hln]; (try simp [be_len]); (try omega)
      exact hB _ _ _ _ _ rfl rfl fun w' hS => ⟨(A6, c6), rfl, trivial, sub_st w' hS⟩
    · skip
      rw [hok] at hpl
      focus (refine S_true rfl rfl ?_; refine S_region rfl rfl ?_; refine R_p rfl ?_ rfl rfl; refine R_nil ?_; refine S_region rfl rfl ?_; (iterate 2 refine R_p rfl ?_ rfl rfl); (refine R_eff (E_litB (l := [1]) rfl rfl rfl rfl rfl rfl (by decide)) ?_ rfl rfl; rintro _ _ ⟨A5, c5, rfl, rfl⟩); (refine R_eff (E_appB (A := A2) (m := 3 + 8) (c := c2) (bs := [kb x.K, kb x.F, kb x.T] ++ be 8 x.tm) (nb := [1]) rfl rfl rfl rfl rfl rfl Src.row (by omega)) ?_ rfl rfl; rintro _ _ ⟨A6, c6, rfl, rfl⟩); refine R_p rfl ?_ rfl rfl; refine R_nil ?_; refine S_seq rfl ?_; refine S_seq rfl (S_region rfl rfl ?_); refine R_p rfl ?_ rfl rfl; (refine R_eff (E_hv0 (f := 39) ⟨_, Tryd.func39, rfl, by kernel_rfl⟩ (fun w hS => has_k w 2 4 false (by decide) (by decide) (by decide)) rfl rfl (fun _ => rfl)) ?_ rfl rfl; rintro _ _ ⟨_, rfl, _, rfl⟩); refine R_nil ?_; refine S_false rfl rfl ?_; refine S_skip rfl ?_; refine S_seq rfl ?_; refine S_seq rfl (S_region rfl rfl ?_); refine R_p rfl ?_ rfl rfl; (refine R_eff (E_hv0 (f := 39) ⟨_, Tryd.func39, rfl, by kernel_rfl⟩ (fun w hS => has_k w 2 8 false (by decide) (by decide) (by decide)) rfl rfl (fun _ => rfl)) ?_ rfl rfl; rintro _ _ ⟨_, rfl, _, rfl⟩); refine R_nil ?_; refine S_false rfl rfl ?_; refine S_skip rfl ?_; refine S_seq rfl ?_; refine S_seq rfl (S_region rfl rfl ?_); refine R_p rfl ?_ rfl rfl; (refine R_eff (E_hv0 (f := 39) ⟨_, Tryd.func39, rfl, by kernel_rfl⟩ (fun w hS => has_k w 2 16 false (by decide) (by decide) (by decide)) rfl rfl (fun _ => rfl)) ?_ rfl rfl; rintro _ _ ⟨_, rfl, _, rfl⟩); refine R_nil ?_; refine S_false rfl rfl ?_; refine S_skip rfl ?_; refine S_seq rfl ?_; refine S_seq rfl (S_region rfl rfl ?_); refine R_p rfl ?_ rfl rfl; (refine R_eff (E_hv0 (f := 39) ⟨_, Tryd.func39, rfl, by kernel_rfl⟩ (fun w hS => has_k w 2 32 false (by decide) (by decide) (by decide)) rfl rfl (fun _ => rfl)) ?_ rfl rfl; rintro _ _ ⟨_, rfl, _, rfl⟩); refine R_nil ?_; refine S_false rfl rfl ?_; refine S_skip rfl ?_; refine S_seq rfl ?_; refine S_seq rfl (S_region rfl rfl ?_); refine R_p rfl ?_ rfl rfl; (refine R_eff (E_hv0 (f := 39) ⟨_, Tryd.func39, rfl, by kernel_rfl⟩ (fun w hS => has_k w 2 64 false (by decide) (by decide) (by decide)) rfl rfl (fun _ => rfl)) ?_ rfl rfl; rintro _ _ ⟨_, rfl, _, rfl⟩); refine R_nil ?_; refine S_false rfl rfl ?_; refine S_skip rfl ?_; refine S_seq rfl (S_region rfl rfl ?_); (iterate 2 refine R_p rfl ?_ rfl rfl); refine R_nil ?_)
      obtain rfl : l = [kb x.K, kb x.F, kb x.T] ++ be 8 x.tm ++ [1] := by rw [← hpl]; (try simp [okb])
      obtain rfl : n = 3 + 8 + 1 := by rw [← hln]; (try simp [be_len]); (try omega)
      exact hB _ _ _ _ _ rfl rfl fun w' hS => ⟨(A6, c6), rfl, trivial, sub_st w' hS⟩
  · skip
    have hf : fldN x.K = 1 := by rw [hK]; rfl
    have hp := plainB_3 x hK
    rw [hp] at hpl
    focus (refine S_seq rfl ?_; refine S_region rfl rfl ?_; (refine R_eff (E_boxa (cs := mgc x p) rfl) ?_ rfl rfl; rintro _ _ ⟨b1, rfl, rfl⟩); refine R_p rfl ?_ rfl rfl; refine R_nil (S_seq rfl (S_region rfl rfl ?_)); refine R_p rfl ?_ rfl rfl; refine R_take (T_load rfl rfl rfl rfl) ?_ rfl rfl; ((refine R_eff (E_hv0 (f := 24) ⟨_, Tryd.func24, rfl, by kernel_rfl⟩ (fun w hS => fields_any w x.K) rfl rfl (fun _ => rfl)) ?_ rfl rfl; rintro _ _ ⟨_, rfl, _, rfl⟩); rw [hf]); refine R_p rfl ?_ rfl rfl; refine R_nil (S_seq rfl (S_region rfl rfl ?_)); refine R_p rfl ?_ rfl rfl; refine R_take (T_load rfl rfl rfl rfl) ?_ rfl rfl; refine R_take (T_cvb rfl rfl rfl rfl) ?_ rfl rfl; refine R_p rfl ?_ rfl rfl; refine R_take (T_load rfl rfl rfl rfl) ?_ rfl rfl; refine R_take (T_cvb rfl rfl rfl rfl) ?_ rfl rfl; refine R_p rfl ?_ rfl rfl; refine R_take (T_load rfl rfl rfl rfl) ?_ rfl rfl; refine R_take (T_cvb rfl rfl rfl rfl) ?_ rfl rfl; (refine R_eff (E_litB (l := [kb x.K, kb x.F, kb x.T]) rfl rfl rfl rfl rfl rfl (by decide)) ?_ rfl rfl; rintro _ _ ⟨A1, c1, rfl, rfl⟩); refine R_p rfl ?_ rfl rfl; refine R_take (T_load rfl rfl rfl rfl) ?_ rfl rfl; (refine R_eff (E_put64 (A := A1) (m := 3) (c := c1) (l := [kb x.K, kb x.F, kb x.T]) (X := x.tm) rfl rfl Src.row (by omega) hu.tm) ?_ rfl rfl; rintro _ _ ⟨A2, c2, rfl, rfl⟩); refine R_p rfl ?_ rfl rfl; refine R_nil ?_; refine S_seq rfl ?_; refine S_seq rfl (S_region rfl rfl ?_); refine R_p rfl ?_ rfl rfl; (refine R_eff (E_hv0 (f := 39) ⟨_, Tryd.func39, rfl, by kernel_rfl⟩ (fun w hS => has_k w 1 1 true (by decide) (by decide) (by decide)) rfl rfl (fun _ => rfl)) ?_ rfl rfl; rintro _ _ ⟨_, rfl, _, rfl⟩); refine R_nil ?_; refine S_true rfl rfl ?_)
    refine S_draw ([pt b1 31 (mgc x p)]) sub_st (by kernel_rfl) rfl (by kernel_rfl) (by kernel_rfl : _ = 10) ?_
    refine D_take 0 rfl (pev_ok rfl) ?_ rfl rfl (by kernel_rfl) (by kernel_rfl)
    refine D_take 1 rfl (pev_ok rfl) ?_ rfl rfl (by kernel_rfl) (by kernel_rfl)
    refine D_take 2 rfl (pev_ok rfl) ?_ rfl rfl (by kernel_rfl) (by kernel_rfl)
    refine D_take 3 rfl (T_load rfl rfl rfl rfl) ?_ rfl rfl (by kernel_rfl) (by kernel_rfl)
    refine D_take 5 rfl (pev_ok rfl) ?_ rfl rfl (by kernel_rfl) (by kernel_rfl)
    refine D_take 6 rfl (pev_ok rfl) ?_ rfl rfl (by kernel_rfl) (by kernel_rfl)
    refine D_take 7 rfl (T_load rfl rfl rfl rfl) ?_ rfl rfl (by kernel_rfl) (by kernel_rfl)
    refine D_one 4 rfl (E_put64 (A := A2) (m := 3 + 8) (c := c2) (l := [kb x.K, kb x.F, kb x.T] ++ be 8 x.tm) (X := x.pl.1) rfl rfl Src.row (by omega) hu.p1) ?_ rfl rfl (by kernel_rfl)
    rintro _ _ ⟨A3, c3, rfl, rfl⟩
    refine Nx_same sub_st ?_
    refine D_one 8 rfl (E_put64 (A := A3) (m := 3 + 8 + 8) (c := c3) (l := [kb x.K, kb x.F, kb x.T] ++ be 8 x.tm ++ be 8 x.pl.1) (X := x.pl.2) rfl rfl Src.row (by omega) hu.p2) ?_ rfl rfl (by kernel_rfl)
    rintro _ _ ⟨A4, c4, rfl, rfl⟩
    refine Nx_same sub_st ?_
    refine D_take 9 rfl (pev_ok rfl) ?_ rfl rfl (by kernel_rfl) (by kernel_rfl)
    refine D_done ?_ (by kernel_rfl)
    skip
    focus (refine S_seq rfl ?_; refine S_seq rfl (S_region rfl rfl ?_); refine R_p rfl ?_ rfl rfl; (refine R_eff (E_hv0 (f := 39) ⟨_, Tryd.func39, rfl, by kernel_rfl⟩ (fun w hS => has_k w 1 2 false (by decide) (by decide) (by decide)) rfl rfl (fun _ => rfl)) ?_ rfl rfl; rintro _ _ ⟨_, rfl, _, rfl⟩); refine R_nil ?_; refine S_false rfl rfl ?_; refine S_skip rfl ?_; refine S_seq rfl ?_; refine S_seq rfl (S_region rfl rfl ?_); refine R_p rfl ?_ rfl rfl; (refine R_eff (E_hv0 (f := 39) ⟨_, Tryd.func39, rfl, by kernel_rfl⟩ (fun w hS => has_k w 1 4 false (by decide) (by decide) (by decide)) rfl rfl (fun _ => rfl)) ?_ rfl rfl; rintro _ _ ⟨_, rfl, _, rfl⟩); refine R_nil ?_; refine S_false rfl rfl ?_; refine S_skip rfl ?_; refine S_seq rfl ?_; refine S_seq rfl (S_region rfl rfl ?_); refine R_p rfl ?_ rfl rfl; (refine R_eff (E_hv0 (f := 39) ⟨_, Tryd.func39, rfl, by kernel_rfl⟩ (fun w hS => has_k w 1 8 false (by decide) (by decide) (by decide)) rfl rfl (fun _ => rfl)) ?_ rfl rfl; rintro _ _ ⟨_, rfl, _, rfl⟩); refine R_nil ?_; refine S_false rfl rfl ?_; refine S_skip rfl ?_; refine S_seq rfl ?_; refine S_seq rfl (S_region rfl rfl ?_); refine R_p rfl ?_ rfl rfl; (refine R_eff (E_hv0 (f := 39) ⟨_, Tryd.func39, rfl, by kernel_rfl⟩ (fun w hS => has_k w 1 16 false (by decide) (by decide) (by decide)) rfl rfl (fun _ => rfl)) ?_ rfl rfl; rintro _ _ ⟨_, rfl, _, rfl⟩); refine R_nil ?_; refine S_false rfl rfl ?_; refine S_skip rfl ?_; refine S_seq rfl ?_; refine S_seq rfl (S_region rfl rfl ?_); refine R_p rfl ?_ rfl rfl; (refine R_eff (E_hv0 (f := 39) ⟨_, Tryd.func39, rfl, by kernel_rfl⟩ (fun w hS => has_k w 1 32 false (by decide) (by decide) (by decide)) rfl rfl (fun _ => rfl)) ?_ rfl rfl; rintro _ _ ⟨_, rfl, _, rfl⟩); refine R_nil ?_; refine S_false rfl rfl ?_; refine S_skip rfl ?_; refine S_seq rfl ?_; refine S_seq rfl (S_region rfl rfl ?_); refine R_p rfl ?_ rfl rfl; (refine R_eff (E_hv0 (f := 39) ⟨_, Tryd.func39, rfl, by kernel_rfl⟩ (fun w hS => has_k w 1 64 false (by decide) (by decide) (by decide)) rfl rfl (fun _ => rfl)) ?_ rfl rfl; rintro _ _ ⟨_, rfl, _, rfl⟩); refine R_nil ?_; refine S_false rfl rfl ?_; refine S_skip rfl ?_; refine S_seq rfl (S_region rfl rfl ?_); (iterate 2 refine R_p rfl ?_ rfl rfl); refine R_nil ?_)
    obtain rfl : l = [kb x.K, kb x.F, kb x.T] ++ be 8 x.tm ++ be 8 x.pl.1 ++ be 8 x.pl.2 := by rw [← hpl]; (try simp [okb])
    obtain rfl : n = 3 + 8 + 8 + 8 := by rw [← hln]; (try simp [be_len]); (try omega)
    exact hB _ _ _ _ _ rfl rfl fun w' hS => ⟨(A4, c4), rfl, trivial, sub_st w' hS⟩
  · skip
    have hf : fldN x.K = 2 := by rw [hK]; rfl
    have hp := plainB_4 x hK
    rw [hp] at hpl
    focus (refine S_seq rfl ?_; refine S_region rfl rfl ?_; (refine R_eff (E_boxa (cs := mgc x p) rfl) ?_ rfl rfl; rintro _ _ ⟨b1, rfl, rfl⟩); refine R_p rfl ?_ rfl rfl; refine R_nil (S_seq rfl (S_region rfl rfl ?_)); refine R_p rfl ?_ rfl rfl; refine R_take (T_load rfl rfl rfl rfl) ?_ rfl rfl; ((refine R_eff (E_hv0 (f := 24) ⟨_, Tryd.func24, rfl, by kernel_rfl⟩ (fun w hS => fields_any w x.K) rfl rfl (fun _ => rfl)) ?_ rfl rfl; rintro _ _ ⟨_, rfl, _, rfl⟩); rw [hf]); refine R_p rfl ?_ rfl rfl; refine R_nil (S_seq rfl (S_region rfl rfl ?_)); refine R_p rfl ?_ rfl rfl; refine R_take (T_load rfl rfl rfl rfl) ?_ rfl rfl; refine R_take (T_cvb rfl rfl rfl rfl) ?_ rfl rfl; refine R_p rfl ?_ rfl rfl; refine R_take (T_load rfl rfl rfl rfl) ?_ rfl rfl; refine R_take (T_cvb rfl rfl rfl rfl) ?_ rfl rfl; refine R_p rfl ?_ rfl rfl; refine R_take (T_load rfl rfl rfl rfl) ?_ rfl rfl; refine R_take (T_cvb rfl rfl rfl rfl) ?_ rfl rfl; (refine R_eff (E_litB (l := [kb x.K, kb x.F, kb x.T]) rfl rfl rfl rfl rfl rfl (by decide)) ?_ rfl rfl; rintro _ _ ⟨A1, c1, rfl, rfl⟩); refine R_p rfl ?_ rfl rfl; refine R_take (T_load rfl rfl rfl rfl) ?_ rfl rfl; (refine R_eff (E_put64 (A := A1) (m := 3) (c := c1) (l := [kb x.K, kb x.F, kb x.T]) (X := x.tm) rfl rfl Src.row (by omega) hu.tm) ?_ rfl rfl; rintro _ _ ⟨A2, c2, rfl, rfl⟩); refine R_p rfl ?_ rfl rfl; refine R_nil ?_; refine S_seq rfl ?_; refine S_seq rfl (S_region rfl rfl ?_); refine R_p rfl ?_ rfl rfl; (refine R_eff (E_hv0 (f := 39) ⟨_, Tryd.func39, rfl, by kernel_rfl⟩ (fun w hS => has_k w 2 1 false (by decide) (by decide) (by decide)) rfl rfl (fun _ => rfl)) ?_ rfl rfl; rintro _ _ ⟨_, rfl, _, rfl⟩); refine R_nil ?_; refine S_false rfl rfl ?_; refine S_skip rfl ?_; refine S_seq rfl ?_; refine S_seq rfl (S_region rfl rfl ?_); refine R_p rfl ?_ rfl rfl; (refine R_eff (E_hv0 (f := 39) ⟨_, Tryd.func39, rfl, by kernel_rfl⟩ (fun w hS => has_k w 2 2 true (by decide) (by decide) (by decide)) rfl rfl (fun _ => rfl)) ?_ rfl rfl; rintro _ _ ⟨_, rfl, _, rfl⟩); refine R_nil ?_; refine S_true rfl rfl ?_; refine S_seq rfl (S_region rfl rfl ?_); refine R_p rfl ?_ rfl rfl; refine R_nil ?_; refine S_seq rfl ?_; refine S_seq rfl (S_region rfl rfl ?_); refine R_p rfl ?_ rfl rfl; refine R_take (T_load rfl rfl rfl rfl) ?_ rfl rfl; refine R_nil ?_)
    cases hok : x.ok
    · skip
      rw [hok] at hpl
      focus (refine S_false rfl rfl ?_; refine S_skip rfl ?_; refine S_region rfl rfl ?_; (iterate 2 refine R_p rfl ?_ rfl rfl); (refine R_eff (E_litB (l := [0]) rfl rfl rfl rfl rfl rfl (by decide)) ?_ rfl rfl; rintro _ _ ⟨A5, c5, rfl, rfl⟩); (refine R_eff (E_appB (A := A2) (m := 3 + 8) (c := c2) (bs := [kb x.K, kb x.F, kb x.T] ++ be 8 x.tm) (nb := [0]) rfl rfl rfl rfl rfl rfl Src.row (by omega)) ?_ rfl rfl; rintro _ _ ⟨A6, c6, rfl, rfl⟩); refine R_p rfl ?_ rfl rfl; refine R_nil ?_; refine S_seq rfl ?_; refine S_seq rfl (S_region rfl rfl ?_); refine R_p rfl ?_ rfl rfl; (refine R_eff (E_hv0 (f := 39) ⟨_, Tryd.func39, rfl, by kernel_rfl⟩ (fun w hS => has_k w 2 4 false (by decide) (by decide) (by decide)) rfl rfl (fun _ => rfl)) ?_ rfl rfl; rintro _ _ ⟨_, rfl, _, rfl⟩); refine R_nil ?_; refine S_false rfl rfl ?_; refine S_skip rfl ?_; refine S_seq rfl ?_; refine S_seq rfl (S_region rfl rfl ?_); refine R_p rfl ?_ rfl rfl; (refine R_eff (E_hv0 (f := 39) ⟨_, Tryd.func39, rfl, by kernel_rfl⟩ (fun w hS => has_k w 2 8 false (by decide) (by decide) (by decide)) rfl rfl (fun _ => rfl)) ?_ rfl rfl; rintro _ _ ⟨_, rfl, _, rfl⟩); refine R_nil ?_; refine S_false rfl rfl ?_; refine S_skip rfl ?_; refine S_seq rfl ?_; refine S_seq rfl (S_region rfl rfl ?_); refine R_p rfl ?_ rfl rfl; (refine R_eff (E_hv0 (f := 39) ⟨_, Tryd.func39, rfl, by kernel_rfl⟩ (fun w hS => has_k w 2 16 false (by decide) (by decide) (by decide)) rfl rfl (fun _ => rfl)) ?_ rfl rfl; rintro _ _ ⟨_, rfl, _, rfl⟩); refine R_nil ?_; refine S_false rfl rfl ?_; refine S_skip rfl ?_; refine S_seq rfl ?_; refine S_seq rfl (S_region rfl rfl ?_); refine R_p rfl ?_ rfl rfl; (refine R_eff (E_hv0 (f := 39) ⟨_, Tryd.func39, rfl, by kernel_rfl⟩ (fun w hS => has_k w 2 32 false (by decide) (by decide) (by decide)) rfl rfl (fun _ => rfl)) ?_ rfl rfl; rintro _ _ ⟨_, rfl, _, rfl⟩); refine R_nil ?_; refine S_false rfl rfl ?_; refine S_skip rfl ?_; refine S_seq rfl ?_; refine S_seq rfl (S_region rfl rfl ?_); refine R_p rfl ?_ rfl rfl; (refine R_eff (E_hv0 (f := 39) ⟨_, Tryd.func39, rfl, by kernel_rfl⟩ (fun w hS => has_k w 2 64 false (by decide) (by decide) (by decide)) rfl rfl (fun _ => rfl)) ?_ rfl rfl; rintro _ _ ⟨_, rfl, _, rfl⟩); refine R_nil ?_; refine S_false rfl rfl ?_; refine S_skip rfl ?_; refine S_seq rfl (S_region rfl rfl ?_); (iterate 2 refine R_p rfl ?_ rfl rfl); refine R_nil ?_)
      obtain rfl : l = [kb x.K, kb x.F, kb x.T] ++ be 8 x.tm ++ [0] := by rw [← hpl]; (try simp [okb])
      obtain rfl : n = 3 + 8 + 1 := by rw [← hln]; (try simp [be_len]); (try omega)
      exact hB _ _ _ _ _ rfl rfl fun w' hS => ⟨(A6, c6), rfl, trivial, sub_st w' hS⟩
    · skip
      rw [hok] at hpl
      focus (refine S_true rfl rfl ?_; refine S_region rfl rfl ?_; refine R_p rfl ?_ rfl rfl; refine R_nil ?_; refine S_region rfl rfl ?_; (iterate 2 refine R_p rfl ?_ rfl rfl); (refine R_eff (E_litB (l := [1]) rfl rfl rfl rfl rfl rfl (by decide)) ?_ rfl rfl; rintro _ _ ⟨A5, c5, rfl, rfl⟩); (refine R_eff (E_appB (A := A2) (m := 3 + 8) (c := c2) (bs := [kb x.K, kb x.F, kb x.T] ++ be 8 x.tm) (nb := [1]) rfl rfl rfl rfl rfl rfl Src.row (by omega)) ?_ rfl rfl; rintro _ _ ⟨A6, c6, rfl, rfl⟩); refine R_p rfl ?_ rfl rfl; refine R_nil ?_; refine S_seq rfl ?_; refine S_seq rfl (S_region rfl rfl ?_); refine R_p rfl ?_ rfl rfl; (refine R_eff (E_hv0 (f := 39) ⟨_, Tryd.func39, rfl, by kernel_rfl⟩ (fun w hS => has_k w 2 4 false (by decide) (by decide) (by decide)) rfl rfl (fun _ => rfl)) ?_ rfl rfl; rintro _ _ ⟨_, rfl, _, rfl⟩); refine R_nil ?_; refine S_false rfl rfl ?_; refine S_skip rfl ?_; refine S_seq rfl ?_; refine S_seq rfl (S_region rfl rfl ?_); refine R_p rfl ?_ rfl rfl; (refine R_eff (E_hv0 (f := 39) ⟨_, Tryd.func39, rfl, by kernel_rfl⟩ (fun w hS => has_k w 2 8 false (by decide) (by decide) (by decide)) rfl rfl (fun _ => rfl)) ?_ rfl rfl; rintro _ _ ⟨_, rfl, _, rfl⟩); refine R_nil ?_; refine S_false rfl rfl ?_; refine S_skip rfl ?_; refine S_seq rfl ?_; refine S_seq rfl (S_region rfl rfl ?_); refine R_p rfl ?_ rfl rfl; (refine R_eff (E_hv0 (f := 39) ⟨_, Tryd.func39, rfl, by kernel_rfl⟩ (fun w hS => has_k w 2 16 false (by decide) (by decide) (by decide)) rfl rfl (fun _ => rfl)) ?_ rfl rfl; rintro _ _ ⟨_, rfl, _, rfl⟩); refine R_nil ?_; refine S_false rfl rfl ?_; refine S_skip rfl ?_; refine S_seq rfl ?_; refine S_seq rfl (S_region rfl rfl ?_); refine R_p rfl ?_ rfl rfl; (refine R_eff (E_hv0 (f := 39) ⟨_, Tryd.func39, rfl, by kernel_rfl⟩ (fun w hS => has_k w 2 32 false (by decide) (by decide) (by decide)) rfl rfl (fun _ => rfl)) ?_ rfl rfl; rintro _ _ ⟨_, rfl, _, rfl⟩); refine R_nil ?_; refine S_false rfl rfl ?_; refine S_skip rfl ?_; refine S_seq rfl ?_; refine S_seq rfl (S_region rfl rfl ?_); refine R_p rfl ?_ rfl rfl; (refine R_eff (E_hv0 (f := 39) ⟨_, Tryd.func39, rfl, by kernel_rfl⟩ (fun w hS => has_k w 2 64 false (by decide) (by decide) (by decide)) rfl rfl (fun _ => rfl)) ?_ rfl rfl; rintro _ _ ⟨_, rfl, _, rfl⟩); refine R_nil ?_; refine S_false rfl rfl ?_; refine S_skip rfl ?_; refine S_seq rfl (S_region rfl rfl ?_); (iterate 2 refine R_p rfl ?_ rfl rfl); refine R_nil ?_)
      obtain rfl : l = [kb x.K, kb x.F, kb x.T] ++ be 8 x.tm ++ [1] := by rw [← hpl]; (try simp [okb])
      obtain rfl : n = 3 + 8 + 1 := by rw [← hln]; (try simp [be_len]); (try omega)
      exact hB _ _ _ _ _ rfl rfl fun w' hS => ⟨(A6, c6), rfl, trivial, sub_st w' hS⟩
  · skip
    have hf : fldN x.K = 13 := by rw [hK]; rfl
    have hp := plainB_5 x hK
    rw [hp] at hpl
    focus (refine S_seq rfl ?_; refine S_region rfl rfl ?_; (refine R_eff (E_boxa (cs := mgc x p) rfl) ?_ rfl rfl; rintro _ _ ⟨b1, rfl, rfl⟩); refine R_p rfl ?_ rfl rfl; refine R_nil (S_seq rfl (S_region rfl rfl ?_)); refine R_p rfl ?_ rfl rfl; refine R_take (T_load rfl rfl rfl rfl) ?_ rfl rfl; ((refine R_eff (E_hv0 (f := 24) ⟨_, Tryd.func24, rfl, by kernel_rfl⟩ (fun w hS => fields_any w x.K) rfl rfl (fun _ => rfl)) ?_ rfl rfl; rintro _ _ ⟨_, rfl, _, rfl⟩); rw [hf]); refine R_p rfl ?_ rfl rfl; refine R_nil (S_seq rfl (S_region rfl rfl ?_)); refine R_p rfl ?_ rfl rfl; refine R_take (T_load rfl rfl rfl rfl) ?_ rfl rfl; refine R_take (T_cvb rfl rfl rfl rfl) ?_ rfl rfl; refine R_p rfl ?_ rfl rfl; refine R_take (T_load rfl rfl rfl rfl) ?_ rfl rfl; refine R_take (T_cvb rfl rfl rfl rfl) ?_ rfl rfl; refine R_p rfl ?_ rfl rfl; refine R_take (T_load rfl rfl rfl rfl) ?_ rfl rfl; refine R_take (T_cvb rfl rfl rfl rfl) ?_ rfl rfl; (refine R_eff (E_litB (l := [kb x.K, kb x.F, kb x.T]) rfl rfl rfl rfl rfl rfl (by decide)) ?_ rfl rfl; rintro _ _ ⟨A1, c1, rfl, rfl⟩); refine R_p rfl ?_ rfl rfl; refine R_take (T_load rfl rfl rfl rfl) ?_ rfl rfl; (refine R_eff (E_put64 (A := A1) (m := 3) (c := c1) (l := [kb x.K, kb x.F, kb x.T]) (X := x.tm) rfl rfl Src.row (by omega) hu.tm) ?_ rfl rfl; rintro _ _ ⟨A2, c2, rfl, rfl⟩); refine R_p rfl ?_ rfl rfl; refine R_nil ?_; refine S_seq rfl ?_; refine S_seq rfl (S_region rfl rfl ?_); refine R_p rfl ?_ rfl rfl; (refine R_eff (E_hv0 (f := 39) ⟨_, Tryd.func39, rfl, by kernel_rfl⟩ (fun w hS => has_k w 13 1 true (by decide) (by decide) (by decide)) rfl rfl (fun _ => rfl)) ?_ rfl rfl; rintro _ _ ⟨_, rfl, _, rfl⟩); refine R_nil ?_; refine S_true rfl rfl ?_)
    refine S_draw ([pt b1 31 (mgc x p)]) sub_st (by kernel_rfl) rfl (by kernel_rfl) (by kernel_rfl : _ = 10) ?_
    refine D_take 0 rfl (pev_ok rfl) ?_ rfl rfl (by kernel_rfl) (by kernel_rfl)
    refine D_take 1 rfl (pev_ok rfl) ?_ rfl rfl (by kernel_rfl) (by kernel_rfl)
    refine D_take 2 rfl (pev_ok rfl) ?_ rfl rfl (by kernel_rfl) (by kernel_rfl)
    refine D_take 3 rfl (T_load rfl rfl rfl rfl) ?_ rfl rfl (by kernel_rfl) (by kernel_rfl)
    refine D_take 5 rfl (pev_ok rfl) ?_ rfl rfl (by kernel_rfl) (by kernel_rfl)
    refine D_take 6 rfl (pev_ok rfl) ?_ rfl rfl (by kernel_rfl) (by kernel_rfl)
    refine D_take 7 rfl (T_load rfl rfl rfl rfl) ?_ rfl rfl (by kernel_rfl) (by kernel_rfl)
    refine D_one 4 rfl (E_put64 (A := A2) (m := 3 + 8) (c := c2) (l := [kb x.K, kb x.F, kb x.T] ++ be 8 x.tm) (X := x.pl.1) rfl rfl Src.row (by omega) hu.p1) ?_ rfl rfl (by kernel_rfl)
    rintro _ _ ⟨A3, c3, rfl, rfl⟩
    refine Nx_same sub_st ?_
    refine D_one 8 rfl (E_put64 (A := A3) (m := 3 + 8 + 8) (c := c3) (l := [kb x.K, kb x.F, kb x.T] ++ be 8 x.tm ++ be 8 x.pl.1) (X := x.pl.2) rfl rfl Src.row (by omega) hu.p2) ?_ rfl rfl (by kernel_rfl)
    rintro _ _ ⟨A4, c4, rfl, rfl⟩
    refine Nx_same sub_st ?_
    refine D_take 9 rfl (pev_ok rfl) ?_ rfl rfl (by kernel_rfl) (by kernel_rfl)
    refine D_done ?_ (by kernel_rfl)
    skip
    focus (refine S_seq rfl ?_; refine S_seq rfl (S_region rfl rfl ?_); refine R_p rfl ?_ rfl rfl; (refine R_eff (E_hv0 (f := 39) ⟨_, Tryd.func39, rfl, by kernel_rfl⟩ (fun w hS => has_k w 13 2 false (by decide) (by decide) (by decide)) rfl rfl (fun _ => rfl)) ?_ rfl rfl; rintro _ _ ⟨_, rfl, _, rfl⟩); refine R_nil ?_; refine S_false rfl rfl ?_; refine S_skip rfl ?_; refine S_seq rfl ?_; refine S_seq rfl (S_region rfl rfl ?_); refine R_p rfl ?_ rfl rfl; (refine R_eff (E_hv0 (f := 39) ⟨_, Tryd.func39, rfl, by kernel_rfl⟩ (fun w hS => has_k w 13 4 true (by decide) (by decide) (by decide)) rfl rfl (fun _ => rfl)) ?_ rfl rfl; rintro _ _ ⟨_, rfl, _, rfl⟩); refine R_nil ?_; refine S_true rfl rfl ?_)
    have hes := h.ln
    refine S_draw ([pt b1 31 (mgc x p)]) sub_st (by kernel_rfl) rfl (by kernel_rfl) (by kernel_rfl : _ = 11) ?_
    refine D_take 0 rfl (pev_ok rfl) ?_ rfl rfl (by kernel_rfl) (by kernel_rfl)
    refine D_take 1 rfl (pev_ok rfl) ?_ rfl rfl (by kernel_rfl) (by kernel_rfl)
    refine D_take 2 rfl (T_load rfl rfl rfl rfl) ?_ rfl rfl (by kernel_rfl) (by kernel_rfl)
    refine D_take 3 rfl (pev_ok rfl) ?_ rfl rfl (by kernel_rfl) (by kernel_rfl)
    refine D_take 4 rfl (T_cvb rfl rfl rfl rfl) ?_ rfl rfl (by kernel_rfl) (by kernel_rfl)
    refine D_take 7 rfl (pev_ok rfl) ?_ rfl rfl (by kernel_rfl) (by kernel_rfl)
    refine D_take 8 rfl (T_load rfl rfl rfl rfl) ?_ rfl rfl (by kernel_rfl) (by kernel_rfl)
    refine D_one 5 rfl (E_litB (l := [kb (p.n : Int)]) rfl rfl rfl rfl rfl rfl (by decide)) ?_ rfl rfl (by kernel_rfl)
    rintro _ _ ⟨A5, c5, rfl, rfl⟩
    refine Nx_same sub_st ?_
    refine D_one 6 rfl (E_appB (A := A4) (m := 3 + 8 + 8 + 8) (c := c4) (bs := [kb x.K, kb x.F, kb x.T] ++ be 8 x.tm ++ be 8 x.pl.1 ++ be 8 x.pl.2) (nb := [kb (p.n : Int)]) rfl rfl rfl rfl rfl rfl Src.row (by omega)) ?_ rfl rfl (by kernel_rfl)
    rintro _ _ ⟨A6, c6, rfl, rfl⟩
    refine Nx_same sub_st ?_
    refine D_one 9 rfl (E_ht1 (f := 51) (A1 := row 5 1 A6 (3 + 8 + 8 + 8 + 1) c6 (([kb x.K, kb x.F, kb x.T] ++ be 8 x.tm ++ be 8 x.pl.1 ++ be 8 x.pl.2 ++ [kb (p.n : Int)]).map bv)) ⟨_, Tryd.func51, rfl, by kernel_rfl⟩ (fun w hS hS2 => pute_k w A6 (3 + 8 + 8 + 8 + 1) c6 ([kb x.K, kb x.F, kb x.T] ++ be 8 x.tm ++ be 8 x.pl.1 ++ be 8 x.pl.2 ++ [kb (p.n : Int)]) (by simp [be_len]) (by omega) hS2 p.A p.n p.c p.Q h.hn (by omega) x.es h.hQ E N hE hN (fun m hm => ⟨hu.es (emv m) (by rw [← h.hQ]; exact List.mem_map.2 ⟨m, hm, rfl⟩), Nat.le_trans (hok.ed (emv m) (by rw [← h.hQ]; exact List.mem_map.2 ⟨m, hm, rfl⟩)) (by omega), (bs_in (h.bq m hm) hS (fun k _ => noOwns k)).more fun k hk ho => hk (owns_cons ho)⟩) ((rd_in h.rq (by decide) hS (fun k _ => noOwns k)).more fun k hk ho => hk (owns_cons ho))) rfl rfl (fun _ => rfl)) ?_ rfl rfl (by kernel_rfl)
    rintro _ _ ⟨⟨A7, c7⟩, rfl, _, rfl⟩
    refine Nx_same sub_st ?_
    refine D_take 10 rfl (pev_ok rfl) ?_ rfl rfl (by kernel_rfl) (by kernel_rfl)
    refine D_done ?_ (by kernel_rfl)
    skip
    focus (refine S_seq rfl ?_; refine S_seq rfl (S_region rfl rfl ?_); refine R_p rfl ?_ rfl rfl; (refine R_eff (E_hv0 (f := 39) ⟨_, Tryd.func39, rfl, by kernel_rfl⟩ (fun w hS => has_k w 13 8 true (by decide) (by decide) (by decide)) rfl rfl (fun _ => rfl)) ?_ rfl rfl; rintro _ _ ⟨_, rfl, _, rfl⟩); refine R_nil ?_; refine S_true rfl rfl ?_; refine S_region rfl rfl ?_; (iterate 2 refine R_p rfl ?_ rfl rfl); refine R_take (T_load rfl rfl rfl rfl) ?_ rfl rfl; (refine R_eff (E_put64 (A := A7) (m := 3 + 8 + 8 + 8 + 1 + N) (c := c7) (l := [kb x.K, kb x.F, kb x.T] ++ be 8 x.tm ++ be 8 x.pl.1 ++ be 8 x.pl.2 ++ [kb (p.n : Int)] ++ E) (X := x.cm) rfl rfl Src.row (by omega) hu.cm) ?_ rfl rfl; rintro _ _ ⟨A8, c8, rfl, rfl⟩); refine R_p rfl ?_ rfl rfl; refine R_nil ?_; refine S_seq rfl ?_; refine S_seq rfl (S_region rfl rfl ?_); refine R_p rfl ?_ rfl rfl; (refine R_eff (E_hv0 (f := 39) ⟨_, Tryd.func39, rfl, by kernel_rfl⟩ (fun w hS => has_k w 13 16 false (by decide) (by decide) (by decide)) rfl rfl (fun _ => rfl)) ?_ rfl rfl; rintro _ _ ⟨_, rfl, _, rfl⟩); refine R_nil ?_; refine S_false rfl rfl ?_; refine S_skip rfl ?_; refine S_seq rfl ?_; refine S_seq rfl (S_region rfl rfl ?_); refine R_p rfl ?_ rfl rfl; (refine R_eff (E_hv0 (f := 39) ⟨_, Tryd.func39, rfl, by kernel_rfl⟩ (fun w hS => has_k w 13 32 false (by decide) (by decide) (by decide)) rfl rfl (fun _ => rfl)) ?_ rfl rfl; rintro _ _ ⟨_, rfl, _, rfl⟩); refine R_nil ?_; refine S_false rfl rfl ?_; refine S_skip rfl ?_; refine S_seq rfl ?_; refine S_seq rfl (S_region rfl rfl ?_); refine R_p rfl ?_ rfl rfl; (refine R_eff (E_hv0 (f := 39) ⟨_, Tryd.func39, rfl, by kernel_rfl⟩ (fun w hS => has_k w 13 64 false (by decide) (by decide) (by decide)) rfl rfl (fun _ => rfl)) ?_ rfl rfl; rintro _ _ ⟨_, rfl, _, rfl⟩); refine R_nil ?_; refine S_false rfl rfl ?_; refine S_skip rfl ?_; refine S_seq rfl (S_region rfl rfl ?_); (iterate 2 refine R_p rfl ?_ rfl rfl); refine R_nil ?_)
    rw [hes, hE] at hpl
    obtain rfl : l = [kb x.K, kb x.F, kb x.T] ++ be 8 x.tm ++ be 8 x.pl.1 ++ be 8 x.pl.2 ++ [kb (p.n : Int)] ++ E ++ be 8 x.cm := by rw [← hpl]; (try simp [okb])
    obtain rfl : n = 3 + 8 + 8 + 8 + 1 + N + 8 := by rw [← hln]; (try simp [be_len]); (try omega)
    exact hB _ _ _ _ _ rfl rfl fun w' hS => ⟨(A8, c8), rfl, trivial, sub_st w' hS⟩
  · skip
    have hf : fldN x.K = 18 := by rw [hK]; rfl
    have hp := plainB_6 x hK
    rw [hp] at hpl
    focus (refine S_seq rfl ?_; refine S_region rfl rfl ?_; (refine R_eff (E_boxa (cs := mgc x p) rfl) ?_ rfl rfl; rintro _ _ ⟨b1, rfl, rfl⟩); refine R_p rfl ?_ rfl rfl; refine R_nil (S_seq rfl (S_region rfl rfl ?_)); refine R_p rfl ?_ rfl rfl; refine R_take (T_load rfl rfl rfl rfl) ?_ rfl rfl; ((refine R_eff (E_hv0 (f := 24) ⟨_, Tryd.func24, rfl, by kernel_rfl⟩ (fun w hS => fields_any w x.K) rfl rfl (fun _ => rfl)) ?_ rfl rfl; rintro _ _ ⟨_, rfl, _, rfl⟩); rw [hf]); refine R_p rfl ?_ rfl rfl; refine R_nil (S_seq rfl (S_region rfl rfl ?_)); refine R_p rfl ?_ rfl rfl; refine R_take (T_load rfl rfl rfl rfl) ?_ rfl rfl; refine R_take (T_cvb rfl rfl rfl rfl) ?_ rfl rfl; refine R_p rfl ?_ rfl rfl; refine R_take (T_load rfl rfl rfl rfl) ?_ rfl rfl; refine R_take (T_cvb rfl rfl rfl rfl) ?_ rfl rfl; refine R_p rfl ?_ rfl rfl; refine R_take (T_load rfl rfl rfl rfl) ?_ rfl rfl; refine R_take (T_cvb rfl rfl rfl rfl) ?_ rfl rfl; (refine R_eff (E_litB (l := [kb x.K, kb x.F, kb x.T]) rfl rfl rfl rfl rfl rfl (by decide)) ?_ rfl rfl; rintro _ _ ⟨A1, c1, rfl, rfl⟩); refine R_p rfl ?_ rfl rfl; refine R_take (T_load rfl rfl rfl rfl) ?_ rfl rfl; (refine R_eff (E_put64 (A := A1) (m := 3) (c := c1) (l := [kb x.K, kb x.F, kb x.T]) (X := x.tm) rfl rfl Src.row (by omega) hu.tm) ?_ rfl rfl; rintro _ _ ⟨A2, c2, rfl, rfl⟩); refine R_p rfl ?_ rfl rfl; refine R_nil ?_; refine S_seq rfl ?_; refine S_seq rfl (S_region rfl rfl ?_); refine R_p rfl ?_ rfl rfl; (refine R_eff (E_hv0 (f := 39) ⟨_, Tryd.func39, rfl, by kernel_rfl⟩ (fun w hS => has_k w 18 1 false (by decide) (by decide) (by decide)) rfl rfl (fun _ => rfl)) ?_ rfl rfl; rintro _ _ ⟨_, rfl, _, rfl⟩); refine R_nil ?_; refine S_false rfl rfl ?_; refine S_skip rfl ?_; refine S_seq rfl ?_; refine S_seq rfl (S_region rfl rfl ?_); refine R_p rfl ?_ rfl rfl; (refine R_eff (E_hv0 (f := 39) ⟨_, Tryd.func39, rfl, by kernel_rfl⟩ (fun w hS => has_k w 18 2 true (by decide) (by decide) (by decide)) rfl rfl (fun _ => rfl)) ?_ rfl rfl; rintro _ _ ⟨_, rfl, _, rfl⟩); refine R_nil ?_; refine S_true rfl rfl ?_; refine S_seq rfl (S_region rfl rfl ?_); refine R_p rfl ?_ rfl rfl; refine R_nil ?_; refine S_seq rfl ?_; refine S_seq rfl (S_region rfl rfl ?_); refine R_p rfl ?_ rfl rfl; refine R_take (T_load rfl rfl rfl rfl) ?_ rfl rfl; refine R_nil ?_)
    cases hok : x.ok
    · skip
      rw [hok] at hpl
      focus (refine S_false rfl rfl ?_; refine S_skip rfl ?_; refine S_region rfl rfl ?_; (iterate 2 refine R_p rfl ?_ rfl rfl); (refine R_eff (E_litB (l := [0]) rfl rfl rfl rfl rfl rfl (by decide)) ?_ rfl rfl; rintro _ _ ⟨A5, c5, rfl, rfl⟩); (refine R_eff (E_appB (A := A2) (m := 3 + 8) (c := c2) (bs := [kb x.K, kb x.F, kb x.T] ++ be 8 x.tm) (nb := [0]) rfl rfl rfl rfl rfl rfl Src.row (by omega)) ?_ rfl rfl; rintro _ _ ⟨A6, c6, rfl, rfl⟩); refine R_p rfl ?_ rfl rfl; refine R_nil ?_; refine S_seq rfl ?_; refine S_seq rfl (S_region rfl rfl ?_); refine R_p rfl ?_ rfl rfl; (refine R_eff (E_hv0 (f := 39) ⟨_, Tryd.func39, rfl, by kernel_rfl⟩ (fun w hS => has_k w 18 4 false (by decide) (by decide) (by decide)) rfl rfl (fun _ => rfl)) ?_ rfl rfl; rintro _ _ ⟨_, rfl, _, rfl⟩); refine R_nil ?_; refine S_false rfl rfl ?_; refine S_skip rfl ?_; refine S_seq rfl ?_; refine S_seq rfl (S_region rfl rfl ?_); refine R_p rfl ?_ rfl rfl; (refine R_eff (E_hv0 (f := 39) ⟨_, Tryd.func39, rfl, by kernel_rfl⟩ (fun w hS => has_k w 18 8 false (by decide) (by decide) (by decide)) rfl rfl (fun _ => rfl)) ?_ rfl rfl; rintro _ _ ⟨_, rfl, _, rfl⟩); refine R_nil ?_; refine S_false rfl rfl ?_; refine S_skip rfl ?_; refine S_seq rfl ?_; refine S_seq rfl (S_region rfl rfl ?_); refine R_p rfl ?_ rfl rfl; (refine R_eff (E_hv0 (f := 39) ⟨_, Tryd.func39, rfl, by kernel_rfl⟩ (fun w hS => has_k w 18 16 true (by decide) (by decide) (by decide)) rfl rfl (fun _ => rfl)) ?_ rfl rfl; rintro _ _ ⟨_, rfl, _, rfl⟩); refine R_nil ?_; refine S_true rfl rfl ?_; refine S_region rfl rfl ?_; (iterate 2 refine R_p rfl ?_ rfl rfl); refine R_take (T_load rfl rfl rfl rfl) ?_ rfl rfl; (refine R_eff (E_put64 (A := A6) (m := 3 + 8 + 1) (c := c6) (l := [kb x.K, kb x.F, kb x.T] ++ be 8 x.tm ++ [0]) (X := x.ix) rfl rfl Src.row (by omega) hu.ix) ?_ rfl rfl; rintro _ _ ⟨A7, c7, rfl, rfl⟩); refine R_p rfl ?_ rfl rfl; refine R_nil ?_; refine S_seq rfl ?_; refine S_seq rfl (S_region rfl rfl ?_); refine R_p rfl ?_ rfl rfl; (refine R_eff (E_hv0 (f := 39) ⟨_, Tryd.func39, rfl, by kernel_rfl⟩ (fun w hS => has_k w 18 32 false (by decide) (by decide) (by decide)) rfl rfl (fun _ => rfl)) ?_ rfl rfl; rintro _ _ ⟨_, rfl, _, rfl⟩); refine R_nil ?_; refine S_false rfl rfl ?_; refine S_skip rfl ?_; refine S_seq rfl ?_; refine S_seq rfl (S_region rfl rfl ?_); refine R_p rfl ?_ rfl rfl; (refine R_eff (E_hv0 (f := 39) ⟨_, Tryd.func39, rfl, by kernel_rfl⟩ (fun w hS => has_k w 18 64 false (by decide) (by decide) (by decide)) rfl rfl (fun _ => rfl)) ?_ rfl rfl; rintro _ _ ⟨_, rfl, _, rfl⟩); refine R_nil ?_; refine S_false rfl rfl ?_; refine S_skip rfl ?_; refine S_seq rfl (S_region rfl rfl ?_); (iterate 2 refine R_p rfl ?_ rfl rfl); refine R_nil ?_)
      obtain rfl : l = [kb x.K, kb x.F, kb x.T] ++ be 8 x.tm ++ [0] ++ be 8 x.ix := by rw [← hpl]; (try simp [okb])
      obtain rfl : n = 3 + 8 + 1 + 8 := by rw [← hln]; (try simp [be_len]); (try omega)
      exact hB _ _ _ _ _ rfl rfl fun w' hS => ⟨(A7, c7), rfl, trivial, sub_st w' hS⟩
    · skip
      rw [hok] at hpl
      focus (refine S_true rfl rfl ?_; refine S_region rfl rfl ?_; refine R_p rfl ?_ rfl rfl; refine R_nil ?_; refine S_region rfl rfl ?_; (iterate 2 refine R_p rfl ?_ rfl rfl); (refine R_eff (E_litB (l := [1]) rfl rfl rfl rfl rfl rfl (by decide)) ?_ rfl rfl; rintro _ _ ⟨A5, c5, rfl, rfl⟩); (refine R_eff (E_appB (A := A2) (m := 3 + 8) (c := c2) (bs := [kb x.K, kb x.F, kb x.T] ++ be 8 x.tm) (nb := [1]) rfl rfl rfl rfl rfl rfl Src.row (by omega)) ?_ rfl rfl; rintro _ _ ⟨A6, c6, rfl, rfl⟩); refine R_p rfl ?_ rfl rfl; refine R_nil ?_; refine S_seq rfl ?_; refine S_seq rfl (S_region rfl rfl ?_); refine R_p rfl ?_ rfl rfl; (refine R_eff (E_hv0 (f := 39) ⟨_, Tryd.func39, rfl, by kernel_rfl⟩ (fun w hS => has_k w 18 4 false (by decide) (by decide) (by decide)) rfl rfl (fun _ => rfl)) ?_ rfl rfl; rintro _ _ ⟨_, rfl, _, rfl⟩); refine R_nil ?_; refine S_false rfl rfl ?_; refine S_skip rfl ?_; refine S_seq rfl ?_; refine S_seq rfl (S_region rfl rfl ?_); refine R_p rfl ?_ rfl rfl; (refine R_eff (E_hv0 (f := 39) ⟨_, Tryd.func39, rfl, by kernel_rfl⟩ (fun w hS => has_k w 18 8 false (by decide) (by decide) (by decide)) rfl rfl (fun _ => rfl)) ?_ rfl rfl; rintro _ _ ⟨_, rfl, _, rfl⟩); refine R_nil ?_; refine S_false rfl rfl ?_; refine S_skip rfl ?_; refine S_seq rfl ?_; refine S_seq rfl (S_region rfl rfl ?_); refine R_p rfl ?_ rfl rfl; (refine R_eff (E_hv0 (f := 39) ⟨_, Tryd.func39, rfl, by kernel_rfl⟩ (fun w hS => has_k w 18 16 true (by decide) (by decide) (by decide)) rfl rfl (fun _ => rfl)) ?_ rfl rfl; rintro _ _ ⟨_, rfl, _, rfl⟩); refine R_nil ?_; refine S_true rfl rfl ?_; refine S_region rfl rfl ?_; (iterate 2 refine R_p rfl ?_ rfl rfl); refine R_take (T_load rfl rfl rfl rfl) ?_ rfl rfl; (refine R_eff (E_put64 (A := A6) (m := 3 + 8 + 1) (c := c6) (l := [kb x.K, kb x.F, kb x.T] ++ be 8 x.tm ++ [1]) (X := x.ix) rfl rfl Src.row (by omega) hu.ix) ?_ rfl rfl; rintro _ _ ⟨A7, c7, rfl, rfl⟩); refine R_p rfl ?_ rfl rfl; refine R_nil ?_; refine S_seq rfl ?_; refine S_seq rfl (S_region rfl rfl ?_); refine R_p rfl ?_ rfl rfl; (refine R_eff (E_hv0 (f := 39) ⟨_, Tryd.func39, rfl, by kernel_rfl⟩ (fun w hS => has_k w 18 32 false (by decide) (by decide) (by decide)) rfl rfl (fun _ => rfl)) ?_ rfl rfl; rintro _ _ ⟨_, rfl, _, rfl⟩); refine R_nil ?_; refine S_false rfl rfl ?_; refine S_skip rfl ?_; refine S_seq rfl ?_; refine S_seq rfl (S_region rfl rfl ?_); refine R_p rfl ?_ rfl rfl; (refine R_eff (E_hv0 (f := 39) ⟨_, Tryd.func39, rfl, by kernel_rfl⟩ (fun w hS => has_k w 18 64 false (by decide) (by decide) (by decide)) rfl rfl (fun _ => rfl)) ?_ rfl rfl; rintro _ _ ⟨_, rfl, _, rfl⟩); refine R_nil ?_; refine S_false rfl rfl ?_; refine S_skip rfl ?_; refine S_seq rfl (S_region rfl rfl ?_); (iterate 2 refine R_p rfl ?_ rfl rfl); refine R_nil ?_)
      obtain rfl : l = [kb x.K, kb x.F, kb x.T] ++ be 8 x.tm ++ [1] ++ be 8 x.ix := by rw [← hpl]; (try simp [okb])
      obtain rfl : n = 3 + 8 + 1 + 8 := by rw [← hln]; (try simp [be_len]); (try omega)
      exact hB _ _ _ _ _ rfl rfl fun w' hS => ⟨(A7, c7), rfl, trivial, sub_st w' hS⟩
  · skip
    have hf : fldN x.K = 97 := by rw [hK]; rfl
    have hp := plainB_7 x hK
    rw [hp] at hpl
    focus (refine S_seq rfl ?_; refine S_region rfl rfl ?_; (refine R_eff (E_boxa (cs := mgc x p) rfl) ?_ rfl rfl; rintro _ _ ⟨b1, rfl, rfl⟩); refine R_p rfl ?_ rfl rfl; refine R_nil (S_seq rfl (S_region rfl rfl ?_)); refine R_p rfl ?_ rfl rfl; refine R_take (T_load rfl rfl rfl rfl) ?_ rfl rfl; ((refine R_eff (E_hv0 (f := 24) ⟨_, Tryd.func24, rfl, by kernel_rfl⟩ (fun w hS => fields_any w x.K) rfl rfl (fun _ => rfl)) ?_ rfl rfl; rintro _ _ ⟨_, rfl, _, rfl⟩); rw [hf]); refine R_p rfl ?_ rfl rfl; refine R_nil (S_seq rfl (S_region rfl rfl ?_)); refine R_p rfl ?_ rfl rfl; refine R_take (T_load rfl rfl rfl rfl) ?_ rfl rfl; refine R_take (T_cvb rfl rfl rfl rfl) ?_ rfl rfl; refine R_p rfl ?_ rfl rfl; refine R_take (T_load rfl rfl rfl rfl) ?_ rfl rfl; refine R_take (T_cvb rfl rfl rfl rfl) ?_ rfl rfl; refine R_p rfl ?_ rfl rfl; refine R_take (T_load rfl rfl rfl rfl) ?_ rfl rfl; refine R_take (T_cvb rfl rfl rfl rfl) ?_ rfl rfl; (refine R_eff (E_litB (l := [kb x.K, kb x.F, kb x.T]) rfl rfl rfl rfl rfl rfl (by decide)) ?_ rfl rfl; rintro _ _ ⟨A1, c1, rfl, rfl⟩); refine R_p rfl ?_ rfl rfl; refine R_take (T_load rfl rfl rfl rfl) ?_ rfl rfl; (refine R_eff (E_put64 (A := A1) (m := 3) (c := c1) (l := [kb x.K, kb x.F, kb x.T]) (X := x.tm) rfl rfl Src.row (by omega) hu.tm) ?_ rfl rfl; rintro _ _ ⟨A2, c2, rfl, rfl⟩); refine R_p rfl ?_ rfl rfl; refine R_nil ?_; refine S_seq rfl ?_; refine S_seq rfl (S_region rfl rfl ?_); refine R_p rfl ?_ rfl rfl; (refine R_eff (E_hv0 (f := 39) ⟨_, Tryd.func39, rfl, by kernel_rfl⟩ (fun w hS => has_k w 97 1 true (by decide) (by decide) (by decide)) rfl rfl (fun _ => rfl)) ?_ rfl rfl; rintro _ _ ⟨_, rfl, _, rfl⟩); refine R_nil ?_; refine S_true rfl rfl ?_)
    refine S_draw ([pt b1 31 (mgc x p)]) sub_st (by kernel_rfl) rfl (by kernel_rfl) (by kernel_rfl : _ = 10) ?_
    refine D_take 0 rfl (pev_ok rfl) ?_ rfl rfl (by kernel_rfl) (by kernel_rfl)
    refine D_take 1 rfl (pev_ok rfl) ?_ rfl rfl (by kernel_rfl) (by kernel_rfl)
    refine D_take 2 rfl (pev_ok rfl) ?_ rfl rfl (by kernel_rfl) (by kernel_rfl)
    refine D_take 3 rfl (T_load rfl rfl rfl rfl) ?_ rfl rfl (by kernel_rfl) (by kernel_rfl)
    refine D_take 5 rfl (pev_ok rfl) ?_ rfl rfl (by kernel_rfl) (by kernel_rfl)
    refine D_take 6 rfl (pev_ok rfl) ?_ rfl rfl (by kernel_rfl) (by kernel_rfl)
    refine D_take 7 rfl (T_load rfl rfl rfl rfl) ?_ rfl rfl (by kernel_rfl) (by kernel_rfl)
    refine D_one 4 rfl (E_put64 (A := A2) (m := 3 + 8) (c := c2) (l := [kb x.K, kb x.F, kb x.T] ++ be 8 x.tm) (X := x.pl.1) rfl rfl Src.row (by omega) hu.p1) ?_ rfl rfl (by kernel_rfl)
    rintro _ _ ⟨A3, c3, rfl, rfl⟩
    refine Nx_same sub_st ?_
    refine D_one 8 rfl (E_put64 (A := A3) (m := 3 + 8 + 8) (c := c3) (l := [kb x.K, kb x.F, kb x.T] ++ be 8 x.tm ++ be 8 x.pl.1) (X := x.pl.2) rfl rfl Src.row (by omega) hu.p2) ?_ rfl rfl (by kernel_rfl)
    rintro _ _ ⟨A4, c4, rfl, rfl⟩
    refine Nx_same sub_st ?_
    refine D_take 9 rfl (pev_ok rfl) ?_ rfl rfl (by kernel_rfl) (by kernel_rfl)
    refine D_done ?_ (by kernel_rfl)
    skip
    focus (refine S_seq rfl ?_; refine S_seq rfl (S_region rfl rfl ?_); refine R_p rfl ?_ rfl rfl; (refine R_eff (E_hv0 (f := 39) ⟨_, Tryd.func39, rfl, by kernel_rfl⟩ (fun w hS => has_k w 97 2 false (by decide) (by decide) (by decide)) rfl rfl (fun _ => rfl)) ?_ rfl rfl; rintro _ _ ⟨_, rfl, _, rfl⟩); refine R_nil ?_; refine S_false rfl rfl ?_; refine S_skip rfl ?_; refine S_seq rfl ?_; refine S_seq rfl (S_region rfl rfl ?_); refine R_p rfl ?_ rfl rfl; (refine R_eff (E_hv0 (f := 39) ⟨_, Tryd.func39, rfl, by kernel_rfl⟩ (fun w hS => has_k w 97 4 false (by decide) (by decide) (by decide)) rfl rfl (fun _ => rfl)) ?_ rfl rfl; rintro _ _ ⟨_, rfl, _, rfl⟩); refine R_nil ?_; refine S_false rfl rfl ?_; refine S_skip rfl ?_; refine S_seq rfl ?_; refine S_seq rfl (S_region rfl rfl ?_); refine R_p rfl ?_ rfl rfl; (refine R_eff (E_hv0 (f := 39) ⟨_, Tryd.func39, rfl, by kernel_rfl⟩ (fun w hS => has_k w 97 8 false (by decide) (by decide) (by decide)) rfl rfl (fun _ => rfl)) ?_ rfl rfl; rintro _ _ ⟨_, rfl, _, rfl⟩); refine R_nil ?_; refine S_false rfl rfl ?_; refine S_skip rfl ?_; refine S_seq rfl ?_; refine S_seq rfl (S_region rfl rfl ?_); refine R_p rfl ?_ rfl rfl; (refine R_eff (E_hv0 (f := 39) ⟨_, Tryd.func39, rfl, by kernel_rfl⟩ (fun w hS => has_k w 97 16 false (by decide) (by decide) (by decide)) rfl rfl (fun _ => rfl)) ?_ rfl rfl; rintro _ _ ⟨_, rfl, _, rfl⟩); refine R_nil ?_; refine S_false rfl rfl ?_; refine S_skip rfl ?_; refine S_seq rfl ?_; refine S_seq rfl (S_region rfl rfl ?_); refine R_p rfl ?_ rfl rfl; (refine R_eff (E_hv0 (f := 39) ⟨_, Tryd.func39, rfl, by kernel_rfl⟩ (fun w hS => has_k w 97 32 true (by decide) (by decide) (by decide)) rfl rfl (fun _ => rfl)) ?_ rfl rfl; rintro _ _ ⟨_, rfl, _, rfl⟩); refine R_nil ?_; refine S_true rfl rfl ?_)
    have hcl := h.hc
    have hdl := h.dn
    refine S_draw ([pt b1 31 (mgc x p)]) sub_st (by kernel_rfl) rfl (by kernel_rfl) (by kernel_rfl : _ = 13) ?_
    refine D_take 0 rfl (pev_ok rfl) ?_ rfl rfl (by kernel_rfl) (by kernel_rfl)
    refine D_take 1 rfl (pev_ok rfl) ?_ rfl rfl (by kernel_rfl) (by kernel_rfl)
    refine D_take 2 rfl (pev_ok rfl) ?_ rfl rfl (by kernel_rfl) (by kernel_rfl)
    refine D_take 3 rfl (T_load rfl rfl rfl rfl) ?_ rfl rfl (by kernel_rfl) (by kernel_rfl)
    refine D_take 4 rfl (pev_ok rfl) ?_ rfl rfl (by kernel_rfl) (by kernel_rfl)
    refine D_take 5 rfl (T_cvb rfl rfl rfl rfl) ?_ rfl rfl (by kernel_rfl) (by kernel_rfl)
    refine D_take 8 rfl (pev_ok rfl) ?_ rfl rfl (by kernel_rfl) (by kernel_rfl)
    refine D_take 9 rfl (pev_ok rfl) ?_ rfl rfl (by kernel_rfl) (by kernel_rfl)
    refine D_take 10 rfl (T_load rfl rfl rfl rfl) ?_ rfl rfl (by kernel_rfl) (by kernel_rfl)
    refine D_one 6 rfl (E_litB (l := [kb (p.cn : Int)]) rfl rfl rfl rfl rfl rfl (by decide)) ?_ rfl rfl (by kernel_rfl)
    rintro _ _ ⟨A5, c5, rfl, rfl⟩
    refine Nx_same sub_st ?_
    refine D_one 7 rfl (E_appB (A := A4) (m := 3 + 8 + 8 + 8) (c := c4) (bs := [kb x.K, kb x.F, kb x.T] ++ be 8 x.tm ++ be 8 x.pl.1 ++ be 8 x.pl.2) (nb := [kb (p.cn : Int)]) rfl rfl rfl rfl rfl rfl Src.row (by omega)) ?_ rfl rfl (by kernel_rfl)
    rintro _ _ ⟨A6, c6, rfl, rfl⟩
    refine Nx_same sub_st ?_
    refine D_one 11 rfl (E_ht1 (f := 53) (A1 := row 5 1 A6 (3 + 8 + 8 + 8 + 1) c6 (([kb x.K, kb x.F, kb x.T] ++ be 8 x.tm ++ be 8 x.pl.1 ++ be 8 x.pl.2 ++ [kb (p.cn : Int)]).map bv)) ⟨_, Tryd.func53, rfl, by kernel_rfl⟩ (fun w hS hS2 => puti_any w A6 (3 + 8 + 8 + 8 + 1) c6 ([kb x.K, kb x.F, kb x.T] ++ be 8 x.tm ++ be 8 x.pl.1 ++ be 8 x.pl.2 ++ [kb (p.cn : Int)]) (by simp [be_len]) (by omega) hS2 p.cA p.cn p.cc x.cf h.hc (by omega) ((rd_in h.rc (by decide) hS (fun k _ => noOwns k)).more fun k hk ho => hk (owns_cons ho))) rfl rfl (fun _ => rfl)) ?_ rfl rfl (by kernel_rfl)
    rintro _ _ ⟨⟨A7, c7⟩, rfl, _, rfl⟩
    refine Nx_same sub_st ?_
    refine D_take 12 rfl (pev_ok rfl) ?_ rfl rfl (by kernel_rfl) (by kernel_rfl)
    refine D_done ?_ (by kernel_rfl)
    skip
    focus (refine S_seq rfl ?_; refine S_seq rfl (S_region rfl rfl ?_); refine R_p rfl ?_ rfl rfl; (refine R_eff (E_hv0 (f := 39) ⟨_, Tryd.func39, rfl, by kernel_rfl⟩ (fun w hS => has_k w 97 64 true (by decide) (by decide) (by decide)) rfl rfl (fun _ => rfl)) ?_ rfl rfl; rintro _ _ ⟨_, rfl, _, rfl⟩); refine R_nil ?_; refine S_true rfl rfl ?_)
    refine S_draw ([pt b1 31 (mgc x p)]) sub_st (by kernel_rfl) rfl (by kernel_rfl) (by kernel_rfl : _ = 10) ?_
    refine D_take 0 rfl (pev_ok rfl) ?_ rfl rfl (by kernel_rfl) (by kernel_rfl)
    refine D_take 1 rfl (pev_ok rfl) ?_ rfl rfl (by kernel_rfl) (by kernel_rfl)
    refine D_take 2 rfl (T_load rfl rfl rfl rfl) ?_ rfl rfl (by kernel_rfl) (by kernel_rfl)
    refine D_take 3 rfl (pev_ok rfl) ?_ rfl rfl (by kernel_rfl) (by kernel_rfl)
    (refine D_take 4 rfl (T_cvE (kd := .u32) (r := p.dn) (by rw [IntKind.wrap_u32']; omega) rfl rfl rfl rfl) ?_ rfl rfl (by kernel_rfl) (by kernel_rfl))
    refine D_take 6 rfl (pev_ok rfl) ?_ rfl rfl (by kernel_rfl) (by kernel_rfl)
    refine D_take 7 rfl (T_load rfl rfl rfl rfl) ?_ rfl rfl (by kernel_rfl) (by kernel_rfl)
    refine D_one 5 rfl (E_put32 (A := A7) (m := 3 + 8 + 8 + 8 + 1 + p.cn) (c := c7) (l := [kb x.K, kb x.F, kb x.T] ++ be 8 x.tm ++ be 8 x.pl.1 ++ be 8 x.pl.2 ++ [kb (p.cn : Int)] ++ x.cf.map kb) (X := p.dn) rfl rfl Src.row (by omega) (by omega)) ?_ rfl rfl (by kernel_rfl)
    rintro _ _ ⟨A8, c8, rfl, rfl⟩
    refine Nx_same sub_st ?_
    refine D_one 8 rfl (E_appB (A := A8) (m := 3 + 8 + 8 + 8 + 1 + p.cn + 4) (c := c8) (bs := [kb x.K, kb x.F, kb x.T] ++ be 8 x.tm ++ be 8 x.pl.1 ++ be 8 x.pl.2 ++ [kb (p.cn : Int)] ++ x.cf.map kb ++ be 4 p.dn) (nb := x.dt) rfl rfl rfl rfl rfl rfl (Src.old h.bd (fun k _ => noOwns k)) (by omega)) ?_ rfl rfl (by kernel_rfl)
    rintro _ _ ⟨A9, c9, rfl, rfl⟩
    refine Nx_same sub_st ?_
    refine D_take 9 rfl (pev_ok rfl) ?_ rfl rfl (by kernel_rfl) (by kernel_rfl)
    refine D_done ?_ (by kernel_rfl)
    skip
    focus (refine S_seq rfl ?_; refine S_region rfl rfl ?_; (iterate 2 refine R_p rfl ?_ rfl rfl); refine R_nil ?_)
    rw [hcl, ← hdl] at hpl
    obtain rfl : l = [kb x.K, kb x.F, kb x.T] ++ be 8 x.tm ++ be 8 x.pl.1 ++ be 8 x.pl.2 ++ [kb (p.cn : Int)] ++ x.cf.map kb ++ be 4 p.dn ++ x.dt := by rw [← hpl]; (try simp [okb])
    obtain rfl : n = 3 + 8 + 8 + 8 + 1 + p.cn + 4 + p.dn := by rw [← hln]; (try simp [be_len]); (try omega)
    exact hB _ _ _ _ _ rfl rfl fun w' hS => ⟨(A9, c9), rfl, trivial, sub_st w' hS⟩
end Go.Proofs.YtdbehejbeioboaaDoor
