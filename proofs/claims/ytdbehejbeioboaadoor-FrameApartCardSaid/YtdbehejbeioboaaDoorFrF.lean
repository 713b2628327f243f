/- Messages: the document's number; plain laws of its Decode. -/
import Derived.Test.YtdbehejbeioboaaDoorFrE
namespace Go.Proofs.YtdbehejbeioboaaDoor
open Go.RowKit
open Asn (pt row rb)
set_option linter.unusedVariables false
set_option linter.unusedSimpArgs false
--@use N

theorem part_at {w : World} {F : Nat → Prop} {A : Option Addr} {n c : Nat} {l : List UInt8} (hb : Bs w F A n c l) {q k : Nat} (h : q + k ≤ n) : Bs w F (cutP A c q 1) k (c - q) ((l.drop q).take k) := by
  have h1 := hb.part (q := q) (r := q + k) (by omega) h
  rw [Nat.add_sub_cancel_left] at h1
  exact h1
/-- the number of some bytes from a place on -/
def numR (l : List UInt8) (at_ k : Nat) : Nat × Bool := if at_ + k ≤ l.length then (num ((l.drop at_).take k), true) else (0, false)
set_option maxRecDepth 100000 in
set_option maxHeartbeats 4000000 in
theorem number_k (w : World) (A : Option Addr) (n c : Nat) (l : List UInt8) (hb : Bs w All A n c l) (at_ k : Nat) (ha : at_ ≤ 200000) (hk : k ≤ 8) (hn : n ≤ 100000) (r : Nat × Bool) (hr : numR l at_ k = r) :
    Gives Tryd.prog 47 [.slice A n c, .int .i64 (at_ : Int), .int .i64 (k : Int)] [] w (X := Unit) (fun _ => .tuple #[.int .u64 (r.1 : Int), .bool r.2]) (fun _ => True) (fun _ => []) := by
  refine gives_S Tryd.func47 rfl Tryd.ntmps47 Tryd.results47 (by simp) (St.enter w) (fun B hB => ?_)
  have hl := hb.len
  have hcap := hb.cap
  unfold numR at hr
  by_cases h1 : at_ + k ≤ l.length
  · rw [if_pos h1] at hr
    subst hr
    have hnum : num64 ((l.drop at_).take k) = num ((l.drop at_).take k) := Nat.mod_eq_of_lt (Nat.lt_of_lt_of_le (num_le _ k (by rw [List.length_take]; omega)) (Nat.pow_le_pow_right (n := 256) (by decide) hk))
    focus (refine S_seq rfl ?_; refine S_region rfl rfl ?_; (iterate 2 refine R_p rfl ?_ rfl rfl); refine R_nil ?_; refine S_seq rfl ?_; refine S_seq rfl (S_region rfl rfl ?_); refine R_p rfl ?_ rfl rfl; refine R_take (T_decF rfl (by omega)) ?_ rfl rfl; (iterate 4 refine R_p rfl ?_ rfl rfl); refine R_take (T_sum (op := .sub) rfl rfl rfl (by unfold fits; omega)) ?_ rfl rfl; refine R_p rfl ?_ rfl rfl; refine R_take (T_decF rfl (by omega)) ?_ rfl rfl; refine R_p rfl ?_ rfl rfl; refine R_nil ?_; refine S_false rfl rfl ?_; refine S_skip rfl ?_; refine S_seq rfl (S_region rfl rfl ?_); (iterate 4 refine R_p rfl ?_ rfl rfl); refine R_take (T_addN (p := at_) (q := k) rfl rfl (by unfold fits; omega)) ?_ rfl rfl; refine R_take (T_slbE (u := k) (q := at_) (r := at_ + k) (by omega) rfl rfl rfl rfl rfl rfl rfl (by omega) (by omega)) ?_ rfl rfl; (refine R_eff (E_number (A := cutP A c at_ 1) (m := k) (c := c - at_) (l := (l.drop at_).take k) rfl (Src.old (part_at hb (by omega)) (fun k _ => noOwns k))) ?_ rfl rfl; rintro _ _ ⟨rfl, rfl⟩); (iterate 2 refine R_p rfl ?_ rfl rfl); refine R_nil ?_)
    rw [hnum]
    exact hB _ _ _ _ _ rfl rfl fun w' hS => ⟨(), rfl, trivial, hS.sublist (List.nil_sublist _)⟩
  · rw [if_neg h1] at hr
    subst hr
    focus (refine S_seq rfl ?_; refine S_region rfl rfl ?_; (iterate 2 refine R_p rfl ?_ rfl rfl); refine R_nil ?_; refine S_seq rfl ?_; refine S_seq rfl (S_region rfl rfl ?_); refine R_p rfl ?_ rfl rfl; refine R_take (T_decF rfl (by omega)) ?_ rfl rfl; (iterate 4 refine R_p rfl ?_ rfl rfl); refine R_take (T_sum (op := .sub) rfl rfl rfl (by unfold fits; omega)) ?_ rfl rfl; refine R_p rfl ?_ rfl rfl; refine R_take (T_decT rfl (by omega)) ?_ rfl rfl; refine R_p rfl ?_ rfl rfl; refine R_nil ?_; refine S_true rfl rfl ?_; refine S_seq rfl (S_region rfl rfl ?_); (iterate 2 refine R_p rfl ?_ rfl rfl); refine R_nil ?_)
    exact hB _ _ _ _ _ rfl rfl fun w' hS => ⟨(), rfl, trivial, hS.sublist (List.nil_sublist _)⟩
theorem numR_at {l a b : List UInt8} {at_ k : Nat} (hd : l.drop at_ = a ++ b) (ha : a.length = k) (hle : at_ ≤ l.length) : numR l at_ k = (num a, true) ∧ at_ + k ≤ l.length ∧ l.drop (at_ + k) = b := by
  have h1 : at_ + k ≤ l.length := by have := congrArg List.length hd; simp at this; omega
  refine ⟨?_, h1, ?_⟩
  · unfold numR
    rw [if_pos h1, hd, ← ha, List.take_left']
    rfl
  · rw [← List.drop_drop, hd, ← ha, List.drop_left']
    rfl
theorem numR_lt {l : List UInt8} {at_ k v : Nat} {a : Bool} (h : numR l at_ k = (v, a)) : v < 256 ^ k := by
  unfold numR at h
  split at h
  · rename_i h1
    obtain ⟨rfl, _⟩ := Prod.mk.inj h
    exact num_le _ k (by rw [List.length_take]; omega)
  · obtain ⟨rfl, _⟩ := Prod.mk.inj h
    exact Nat.pow_pos (by decide)
theorem numR_in {l : List UInt8} {at_ k v : Nat} (h : numR l at_ k = (v, true)) : at_ + k ≤ l.length := by
  unfold numR at h
  split at h
  · assumption
  · exact absurd (Prod.mk.inj h).2 (by decide)
theorem hb1 (K : Int) : hasB K 1 = decide (K = 1 ∨ K = 3 ∨ K = 5 ∨ K = 7) := by
  unfold hasB fldN
  by_cases h1 : K = 1
  · subst h1; decide
  by_cases h2 : K = 2
  · subst h2; decide
  by_cases h3 : K = 3
  · subst h3; decide
  by_cases h4 : K = 4
  · subst h4; decide
  by_cases h5 : K = 5
  · subst h5; decide
  by_cases h6 : K = 6
  · subst h6; decide
  by_cases h7 : K = 7
  · subst h7; decide
  simp [h1, h2, h3, h4, h5, h6, h7]
theorem hb2 (K : Int) : hasB K 2 = decide (K = 2 ∨ K = 4 ∨ K = 6) := by
  unfold hasB fldN
  by_cases h1 : K = 1
  · subst h1; decide
  by_cases h2 : K = 2
  · subst h2; decide
  by_cases h3 : K = 3
  · subst h3; decide
  by_cases h4 : K = 4
  · subst h4; decide
  by_cases h5 : K = 5
  · subst h5; decide
  by_cases h6 : K = 6
  · subst h6; decide
  by_cases h7 : K = 7
  · subst h7; decide
  simp [h1, h2, h3, h4, h5, h6, h7]
theorem hb4 (K : Int) : hasB K 4 = decide (K = 5) := by
  unfold hasB fldN
  by_cases h1 : K = 1
  · subst h1; decide
  by_cases h2 : K = 2
  · subst h2; decide
  by_cases h3 : K = 3
  · subst h3; decide
  by_cases h4 : K = 4
  · subst h4; decide
  by_cases h5 : K = 5
  · subst h5; decide
  by_cases h6 : K = 6
  · subst h6; decide
  by_cases h7 : K = 7
  · subst h7; decide
  simp [h1, h2, h3, h4, h5, h6, h7]
theorem hb8 (K : Int) : hasB K 8 = decide (K = 5) := by
  unfold hasB fldN
  by_cases h1 : K = 1
  · subst h1; decide
  by_cases h2 : K = 2
  · subst h2; decide
  by_cases h3 : K = 3
  · subst h3; decide
  by_cases h4 : K = 4
  · subst h4; decide
  by_cases h5 : K = 5
  · subst h5; decide
  by_cases h6 : K = 6
  · subst h6; decide
  by_cases h7 : K = 7
  · subst h7; decide
  simp [h1, h2, h3, h4, h5, h6, h7]
theorem hb16 (K : Int) : hasB K 16 = decide (K = 6) := by
  unfold hasB fldN
  by_cases h1 : K = 1
  · subst h1; decide
  by_cases h2 : K = 2
  · subst h2; decide
  by_cases h3 : K = 3
  · subst h3; decide
  by_cases h4 : K = 4
  · subst h4; decide
  by_cases h5 : K = 5
  · subst h5; decide
  by_cases h6 : K = 6
  · subst h6; decide
  by_cases h7 : K = 7
  · subst h7; decide
  simp [h1, h2, h3, h4, h5, h6, h7]
theorem hb32 (K : Int) : hasB K 32 = decide (K = 7) := by
  unfold hasB fldN
  by_cases h1 : K = 1
  · subst h1; decide
  by_cases h2 : K = 2
  · subst h2; decide
  by_cases h3 : K = 3
  · subst h3; decide
  by_cases h4 : K = 4
  · subst h4; decide
  by_cases h5 : K = 5
  · subst h5; decide
  by_cases h6 : K = 6
  · subst h6; decide
  by_cases h7 : K = 7
  · subst h7; decide
  simp [h1, h2, h3, h4, h5, h6, h7]
theorem hb64 (K : Int) : hasB K 64 = decide (K = 7) := by
  unfold hasB fldN
  by_cases h1 : K = 1
  · subst h1; decide
  by_cases h2 : K = 2
  · subst h2; decide
  by_cases h3 : K = 3
  · subst h3; decide
  by_cases h4 : K = 4
  · subst h4; decide
  by_cases h5 : K = 5
  · subst h5; decide
  by_cases h6 : K = 6
  · subst h6; decide
  by_cases h7 : K = 7
  · subst h7; decide
  simp [h1, h2, h3, h4, h5, h6, h7]
/-- if these are a message's bytes: so much of it is read, up to this place, all well -/
def AgR (f : List UInt8) (tr : Ms → Ms) (r : Ms → List UInt8) (m : Ms) (at_ : Nat) (g : Bool) : Prop := ∀ x, MsOk x → MsU x → plainB x = f → g = true ∧ at_ ≤ f.length ∧ f.drop at_ = r x ∧ m = tr x
theorem AgR.no {f : List UInt8} {tr : Ms → Ms} {r : Ms → List UInt8} {m : Ms} {at_ : Nat} {g : Bool} (h : ∀ x, MsOk x → MsU x → plainB x = f → False) : AgR f tr r m at_ g := fun x hx hu hp => (h x hx hu hp).elim
theorem AgR.any {f : List UInt8} {tr tr' : Ms → Ms} {r r' : Ms → List UInt8} {m m' : Ms} {at_ at' : Nat} {g g' : Bool} (h : AgR f tr r m at_ g) (hg : g = false) : AgR f tr' r' m' at' g' := AgR.no fun x hx hu hp => by have := (h x hx hu hp).1; rw [hg] at this; cases this
theorem ar_pl0 {f : List UInt8} {m : Ms} {at_ : Nat} {g : Bool} (h : AgR f tr0 r0 m at_ g) (hb : (g && hasB m.K 1) = false) : AgR f tr1 r1 m at_ g := fun x hx hu hp => by
  obtain ⟨h1, h4, h2, h3⟩ := h x hx hu hp
  have hK : m.K = x.K := by rw [h3]; rfl
  rw [hK, h1, Bool.true_and] at hb
  refine ⟨h1, h4, ?_, ?_⟩
  · rw [h2, r0, if_neg (by rw [hb]; decide)]; rfl
  · rw [h3]; unfold tr0 tr1; rw [zer_pl hx hb]
theorem ar_ok0 {f : List UInt8} {m : Ms} {at_ : Nat} {g : Bool} (h : AgR f tr1 r1 m at_ g) (hb : (g && hasB m.K 2) = false) : AgR f tr2 r2 m at_ g := fun x hx hu hp => by
  obtain ⟨h1, h4, h2, h3⟩ := h x hx hu hp
  have hK : m.K = x.K := by rw [h3]; rfl
  rw [hK, h1, Bool.true_and] at hb
  refine ⟨h1, h4, ?_, ?_⟩
  · rw [h2, r1, if_neg (by rw [hb]; decide)]; rfl
  · rw [h3]; unfold tr1 tr2; rw [zer_ok hx hb]
theorem ar_es0 {f : List UInt8} {m : Ms} {at_ : Nat} {g : Bool} (h : AgR f tr2 r2 m at_ g) (hb : (g && hasB m.K 4) = false) : AgR f tr3 r3 m at_ g := fun x hx hu hp => by
  obtain ⟨h1, h4, h2, h3⟩ := h x hx hu hp
  have hK : m.K = x.K := by rw [h3]; rfl
  rw [hK, h1, Bool.true_and] at hb
  refine ⟨h1, h4, ?_, ?_⟩
  · rw [h2, r2, if_neg (by rw [hb]; decide)]; rfl
  · rw [h3]; unfold tr2 tr3; rw [zer_es hx hb]
theorem ar_cm0 {f : List UInt8} {m : Ms} {at_ : Nat} {g : Bool} (h : AgR f tr3 r3 m at_ g) (hb : (g && hasB m.K 8) = false) : AgR f tr4 r4 m at_ g := fun x hx hu hp => by
  obtain ⟨h1, h4, h2, h3⟩ := h x hx hu hp
  have hK : m.K = x.K := by rw [h3]; rfl
  rw [hK, h1, Bool.true_and] at hb
  refine ⟨h1, h4, ?_, ?_⟩
  · rw [h2, r3, if_neg (by rw [hb]; decide)]; rfl
  · rw [h3]; unfold tr3 tr4; rw [zer_cm hx hb]
theorem ar_ix0 {f : List UInt8} {m : Ms} {at_ : Nat} {g : Bool} (h : AgR f tr4 r4 m at_ g) (hb : (g && hasB m.K 16) = false) : AgR f tr5 r5 m at_ g := fun x hx hu hp => by
  obtain ⟨h1, h4, h2, h3⟩ := h x hx hu hp
  have hK : m.K = x.K := by rw [h3]; rfl
  rw [hK, h1, Bool.true_and] at hb
  refine ⟨h1, h4, ?_, ?_⟩
  · rw [h2, r4, if_neg (by rw [hb]; decide)]; rfl
  · rw [h3]; unfold tr4 tr5; rw [zer_ix hx hb]
theorem ar_cf0 {f : List UInt8} {m : Ms} {at_ : Nat} {g : Bool} (h : AgR f tr5 r5 m at_ g) (hb : (g && hasB m.K 32) = false) : AgR f tr6 r6 m at_ g := fun x hx hu hp => by
  obtain ⟨h1, h4, h2, h3⟩ := h x hx hu hp
  have hK : m.K = x.K := by rw [h3]; rfl
  rw [hK, h1, Bool.true_and] at hb
  refine ⟨h1, h4, ?_, ?_⟩
  · rw [h2, r5, if_neg (by rw [hb]; decide)]; rfl
  · rw [h3]; unfold tr5 tr6; rw [zer_cf hx hb]
theorem ar_dt0 {f : List UInt8} {m : Ms} {at_ : Nat} {g : Bool} (h : AgR f tr6 r6 m at_ g) (hb : (g && hasB m.K 64) = false) : AgR f tr7 r7 m at_ g := fun x hx hu hp => by
  obtain ⟨h1, h4, h2, h3⟩ := h x hx hu hp
  have hK : m.K = x.K := by rw [h3]; rfl
  rw [hK, h1, Bool.true_and] at hb
  refine ⟨h1, h4, ?_, ?_⟩
  · rw [h2, r6, if_neg (by rw [hb]; decide)]; rfl
  · rw [h3]; unfold tr6 tr7; rw [zer_dt hx hb]
theorem ar_K {f : List UInt8} {tr : Ms → Ms} {r : Ms → List UInt8} {m : Ms} {at_ : Nat} {g : Bool} (h : AgR f tr r m at_ g) (htr : ∀ x, (tr x).K = x.K) {x : Ms} (hx : MsOk x) (hu : MsU x) (hp : plainB x = f) : m.K = x.K := by
  rw [(h x hx hu hp).2.2.2, htr]
theorem plain_short {x : Ms} (hx : MsOk x) : 11 ≤ (plainB x).length := by rw [plain_r hx]; simp [be_len]
theorem ar_head (f : List UInt8) : AgR f tr0 r0 ⟨((f.getD 0 0).toNat : Nat), ((f.getD 1 0).toNat : Nat), ((f.getD 2 0).toNat : Nat), num ((f.drop 3).take 8), (0, 0), [], 0, false, 0, [], []⟩ 11 true := fun x hx hu hp => by
  have a1 := hx.K1
  have a2 := hx.K7
  have a3 := hx.F1
  have a4 := hx.F5
  have a5 := hx.T1
  have a6 := hx.T5
  have hl := plain_short hx
  rw [hp] at hl
  have hf := plain_r hx
  rw [hp] at hf
  have kn : ∀ k : Int, 0 ≤ k → k < 256 → (((kb k).toNat : Nat) : Int) = k := fun k h1 h2 => by have := kb_nat h1 h2; unfold num at this; simpa using this
  refine ⟨rfl, hl, ?_, ?_⟩
  · rw [hf]
    have e : [kb x.K] ++ ([kb x.F] ++ ([kb x.T] ++ (be 8 x.tm ++ r0 x))) = ([kb x.K] ++ [kb x.F] ++ [kb x.T] ++ be 8 x.tm) ++ r0 x := by simp
    rw [e, List.drop_left']
    simp [be_len]
  · have e0 : f.getD 0 0 = kb x.K := by rw [hf]; rfl
    have e1 : f.getD 1 0 = kb x.F := by rw [hf]; rfl
    have e2 : f.getD 2 0 = kb x.T := by rw [hf]; rfl
    have e3 : (f.drop 3).take 8 = be 8 x.tm := by
      rw [hf]
      show (be 8 x.tm ++ r0 x).take 8 = _
      rw [List.take_left']
      exact be_len _ _
    rw [e0, e1, e2, e3, kn _ (by omega) (by omega), kn _ (by omega) (by omega), kn _ (by omega) (by omega), num8 hu.tm]
    rfl
theorem ar_pl {f : List UInt8} {m : Ms} {at_ v1 v2 : Nat} {g a1 a2 : Bool} (h : AgR f tr0 r0 m at_ g) (hb : hasB m.K 1 = true) (h1 : numR f at_ 8 = (v1, a1)) (h2 : numR f (at_ + 8) 8 = (v2, a2)) : AgR f tr1 r1 ⟨m.K, m.F, m.T, m.tm, (v1, v2), m.es, m.cm, m.ok, m.ix, m.cf, m.dt⟩ (at_ + 16) (a1 && a2) := fun x hx hu hp => by
  obtain ⟨g0, l0, f0, e0⟩ := h x hx hu hp
  rw [ar_K h (fun _ => rfl) hx hu hp] at hb
  rw [r0, if_pos hb, List.append_assoc] at f0
  obtain ⟨e1, l1, f1⟩ := numR_at (k := 8) f0 (be_len _ _) l0
  obtain ⟨e2, l2, f2⟩ := numR_at (k := 8) f1 (be_len _ _) l1
  obtain ⟨rfl, rfl⟩ := Prod.mk.inj (h1.symm.trans e1)
  obtain ⟨rfl, rfl⟩ := Prod.mk.inj (h2.symm.trans e2)
  refine ⟨rfl, l2, f2, ?_⟩
  rw [num8 hu.p1, num8 hu.p2, e0]
  rfl
theorem ar_ok {f : List UInt8} {m : Ms} {at_ v : Nat} {g a : Bool} (h : AgR f tr1 r1 m at_ g) (hb : hasB m.K 2 = true) (h1 : numR f at_ 1 = (v, a)) : AgR f tr2 r2 ⟨m.K, m.F, m.T, m.tm, m.pl, m.es, m.cm, decide (v = 1), m.ix, m.cf, m.dt⟩ (at_ + 1) a := fun x hx hu hp => by
  obtain ⟨g0, l0, f0, e0⟩ := h x hx hu hp
  rw [ar_K h (fun _ => rfl) hx hu hp] at hb
  rw [r1, if_pos hb] at f0
  obtain ⟨e1, l1, f1⟩ := numR_at (k := 1) f0 rfl l0
  obtain ⟨rfl, rfl⟩ := Prod.mk.inj (h1.symm.trans e1)
  refine ⟨rfl, l1, f1, ?_⟩
  have e2 : decide (num [okb x.ok] = 1) = x.ok := by cases x.ok <;> rfl
  rw [e2, e0]
  rfl
theorem ar_cm {f : List UInt8} {m : Ms} {at_ v : Nat} {g a : Bool} (h : AgR f tr3 r3 m at_ g) (hb : hasB m.K 8 = true) (h1 : numR f at_ 8 = (v, a)) : AgR f tr4 r4 ⟨m.K, m.F, m.T, m.tm, m.pl, m.es, v, m.ok, m.ix, m.cf, m.dt⟩ (at_ + 8) a := fun x hx hu hp => by
  obtain ⟨g0, l0, f0, e0⟩ := h x hx hu hp
  rw [ar_K h (fun _ => rfl) hx hu hp] at hb
  rw [r3, if_pos hb] at f0
  obtain ⟨e1, l1, f1⟩ := numR_at (k := 8) f0 (be_len _ _) l0
  obtain ⟨rfl, rfl⟩ := Prod.mk.inj (h1.symm.trans e1)
  refine ⟨rfl, l1, f1, ?_⟩
  rw [num8 hu.cm, e0]
  rfl
theorem ar_ix {f : List UInt8} {m : Ms} {at_ v : Nat} {g a : Bool} (h : AgR f tr4 r4 m at_ g) (hb : hasB m.K 16 = true) (h1 : numR f at_ 8 = (v, a)) : AgR f tr5 r5 ⟨m.K, m.F, m.T, m.tm, m.pl, m.es, m.cm, m.ok, v, m.cf, m.dt⟩ (at_ + 8) a := fun x hx hu hp => by
  obtain ⟨g0, l0, f0, e0⟩ := h x hx hu hp
  rw [ar_K h (fun _ => rfl) hx hu hp] at hb
  rw [r4, if_pos hb] at f0
  obtain ⟨e1, l1, f1⟩ := numR_at (k := 8) f0 (be_len _ _) l0
  obtain ⟨rfl, rfl⟩ := Prod.mk.inj (h1.symm.trans e1)
  refine ⟨rfl, l1, f1, ?_⟩
  rw [num8 hu.ix, e0]
  rfl
/-- so many entries are read -/
def AgRE (f : List UInt8) (m : Ms) (k j : Nat) (es : List En) (at_ : Nat) (g : Bool) : Prop := ∀ x, MsOk x → MsU x → plainB x = f → g = true ∧ at_ ≤ f.length ∧ m = tr2 x ∧ k = x.es.length ∧ es = x.es.take j ∧ f.drop at_ = (x.es.drop j).flatMap entB ++ r3 x
theorem AgRE.any {f : List UInt8} {m m' : Ms} {k j k' j' : Nat} {es es' : List En} {at_ at' : Nat} {g g' : Bool} (h : AgRE f m k j es at_ g) (hg : g = false) : AgRE f m' k' j' es' at' g' := fun x hx hu hp => by have := (h x hx hu hp).1; rw [hg] at this; cases this
theorem ar_es1 {f : List UInt8} {m : Ms} {at_ v : Nat} {g a : Bool} (h : AgR f tr2 r2 m at_ g) (hb : hasB m.K 4 = true) (h1 : numR f at_ 1 = (v, a)) : AgRE f m v 0 [] (at_ + 1) a := fun x hx hu hp => by
  obtain ⟨g0, l0, f0, e0⟩ := h x hx hu hp
  rw [ar_K h (fun _ => rfl) hx hu hp] at hb
  have hn := hx.n8
  rw [r2, if_pos hb, List.append_assoc] at f0
  obtain ⟨e1, l1, f1⟩ := numR_at (k := 1) f0 rfl l0
  obtain ⟨rfl, rfl⟩ := Prod.mk.inj (h1.symm.trans e1)
  refine ⟨rfl, l1, e0, ?_, rfl, f1⟩
  have := kb_nat (k := (x.es.length : Int)) (by omega) (by omega)
  omega
theorem ar_es2 {f : List UInt8} {m : Ms} {k j at_ t ki sz : Nat} {es : List En} {c d e : Bool} (h : AgRE f m k j es at_ true) (hj : j < k) (h1 : numR f at_ 8 = (t, c)) (h2 : numR f (at_ + 8) 1 = (ki, d)) (h3 : numR f (at_ + 9) 2 = (sz, e)) :
    AgRE f m k (j + 1) (es ++ [(t, (ki : Int), (f.drop (at_ + 11)).take sz)]) (at_ + 11 + sz) (c && d && e && decide (at_ + 11 + sz ≤ f.length)) := fun x hx hu hp => by
  obtain ⟨g0, l0, e0, hk, he, f0⟩ := h x hx hu hp
  have hjl : j < x.es.length := by omega
  have hdr : x.es.drop j = x.es[j] :: x.es.drop (j + 1) := List.drop_eq_getElem_cons hjl
  have hm : x.es[j] ∈ x.es := List.getElem_mem hjl
  have hpl := hx.pl_ _ hm
  have hlen := placed_len hpl
  have hkd := placed_kind hpl
  have hut := hu.es _ hm
  rw [hdr, List.flatMap_cons, List.append_assoc] at f0
  have htk : x.es.take (j + 1) = x.es.take j ++ [x.es[j]] := List.take_succ_eq_append_getElem hjl
  generalize x.es[j] = en at f0 hlen hkd hut htk
  obtain ⟨t', ki', d'⟩ := en
  dsimp only at hlen hkd hut
  unfold entB at f0
  simp only [List.append_assoc] at f0
  obtain ⟨e1, l1, f1⟩ := numR_at (k := 8) f0 (be_len _ _) l0
  obtain ⟨e2, l2, f2⟩ := numR_at (k := 1) f1 rfl l1
  obtain ⟨e3, l3, f3⟩ := numR_at (k := 2) f2 (be_len _ _) l2
  obtain ⟨rfl, rfl⟩ := Prod.mk.inj (h1.symm.trans e1)
  obtain ⟨rfl, rfl⟩ := Prod.mk.inj (h2.symm.trans e2)
  obtain ⟨rfl, rfl⟩ := Prod.mk.inj ((show numR f (at_ + 8 + 1) 2 = (sz, e) from h3).symm.trans e3)
  obtain ⟨_, l4, f4⟩ := numR_at (k := d'.length) f3 rfl l3
  rw [num2 (by omega), num8 hut, kb_nat (by omega) (by omega)]
  have f3' : f.drop (at_ + 11) = d' ++ ((x.es.drop (j + 1)).flatMap entB ++ r3 x) := f3
  have l4' : at_ + 11 + d'.length ≤ f.length := l4
  refine ⟨by simp [l4'], l4', e0, hk, ?_, f4⟩
  rw [f3', List.take_left' rfl, htk, he]
theorem ar_es3 {f : List UInt8} {m : Ms} {k j at_ : Nat} {es : List En} {g : Bool} (h : AgRE f m k j es at_ g) (hj : g = true → j = k) : AgR f tr3 r3 ⟨m.K, m.F, m.T, m.tm, m.pl, es, m.cm, m.ok, m.ix, m.cf, m.dt⟩ at_ g := fun x hx hu hp => by
  obtain ⟨g0, l0, e0, hk, he, f0⟩ := h x hx hu hp
  rw [hj g0, hk, List.drop_length] at f0
  rw [hj g0, hk, List.take_length] at he
  refine ⟨g0, l0, f0, ?_⟩
  rw [he, e0]
  rfl
/-- so many members are read -/
def AgRC (f : List UInt8) (m : Ms) (k j : Nat) (cf : List Int) (at_ : Nat) : Prop := ∀ x, MsOk x → MsU x → plainB x = f → at_ ≤ f.length ∧ m = tr5 x ∧ k = x.cf.length ∧ cf = x.cf.take j ∧ f.drop at_ = x.cf.map kb ++ r6 x
theorem ar_cf1 {f : List UInt8} {m : Ms} {at_ v : Nat} {g a : Bool} (h : AgR f tr5 r5 m at_ g) (hb : hasB m.K 32 = true) (h1 : numR f at_ 1 = (v, a)) : (∀ x, MsOk x → MsU x → plainB x = f → a = true ∧ at_ + 1 + v ≤ f.length) ∧ AgRC f m v 0 [] (at_ + 1) := by
  have key : ∀ x, MsOk x → MsU x → plainB x = f → a = true ∧ at_ + 1 + v ≤ f.length ∧ m = tr5 x ∧ v = x.cf.length ∧ f.drop (at_ + 1) = x.cf.map kb ++ r6 x := fun x hx hu hp => by
    obtain ⟨g0, l0, f0, e0⟩ := h x hx hu hp
    rw [ar_K h (fun _ => rfl) hx hu hp] at hb
    have hn := hx.c5
    rw [r5, if_pos hb, List.append_assoc] at f0
    obtain ⟨e1, l1, f1⟩ := numR_at (k := 1) f0 rfl l0
    obtain ⟨rfl, rfl⟩ := Prod.mk.inj (h1.symm.trans e1)
    have hv := kb_nat (k := (x.cf.length : Int)) (by omega) (by omega)
    have hv' : num [kb (x.cf.length : Int)] = x.cf.length := by omega
    obtain ⟨_, l2, _⟩ := numR_at (k := x.cf.length) f1 (by simp) l1
    exact ⟨rfl, by rw [hv']; exact l2, e0, hv', f1⟩
  refine ⟨fun x hx hu hp => ⟨(key x hx hu hp).1, (key x hx hu hp).2.1⟩, fun x hx hu hp => ?_⟩
  obtain ⟨_, k2, k3, k4, k5⟩ := key x hx hu hp
  exact ⟨by omega, k3, k4, rfl, k5⟩
theorem ar_cf2 {f : List UInt8} {m : Ms} {k j at_ : Nat} {cf : List Int} (h : AgRC f m k j cf at_) (hj : j < k) : AgRC f m k (j + 1) (cf ++ [((f.getD (at_ + j) 0).toNat : Int)]) at_ := fun x hx hu hp => by
  obtain ⟨l0, e0, hk, he, f0⟩ := h x hx hu hp
  have hjl : j < x.cf.length := by omega
  have hm : x.cf[j] ∈ x.cf := List.getElem_mem hjl
  have hal := List.all_eq_true.1 hx.all _ hm
  simp only [Bool.and_eq_true, decide_eq_true_eq] at hal
  refine ⟨l0, e0, hk, ?_, f0⟩
  have e1 : f.getD (at_ + j) 0 = kb x.cf[j] := by
    have h2 : (f.drop at_).getD j 0 = kb x.cf[j] := by rw [f0]; simp [List.getD, List.getElem?_append, hjl]
    rw [← h2]
    simp [List.getD]
  have e2 : (((kb x.cf[j]).toNat : Nat) : Int) = x.cf[j] := by have := kb_nat (k := x.cf[j]) (by omega) (by omega); unfold num at this; simpa using this
  rw [List.take_succ_eq_append_getElem hjl, he, e1, e2]
theorem ar_cf3 {f : List UInt8} {m : Ms} {k at_ : Nat} {cf : List Int} (h : AgRC f m k k cf at_) : AgR f tr6 r6 ⟨m.K, m.F, m.T, m.tm, m.pl, m.es, m.cm, m.ok, m.ix, cf, m.dt⟩ (at_ + k) true := fun x hx hu hp => by
  obtain ⟨l0, e0, hk, he, f0⟩ := h x hx hu hp
  subst hk
  rw [List.take_length] at he
  obtain ⟨_, l1, f1⟩ := numR_at (k := x.cf.length) f0 (by simp) l0
  refine ⟨rfl, l1, f1, ?_⟩
  rw [he, e0]
  rfl
theorem ar_dt {f : List UInt8} {m : Ms} {at_ sz : Nat} {g c : Bool} (h : AgR f tr6 r6 m at_ g) (hb : hasB m.K 64 = true) (h1 : numR f at_ 4 = (sz, c)) : AgR f tr7 r7 ⟨m.K, m.F, m.T, m.tm, m.pl, m.es, m.cm, m.ok, m.ix, m.cf, (f.drop (at_ + 4)).take sz⟩ (at_ + 4 + sz) (c && decide (at_ + 4 + sz ≤ f.length)) := fun x hx hu hp => by
  obtain ⟨g0, l0, f0, e0⟩ := h x hx hu hp
  rw [ar_K h (fun _ => rfl) hx hu hp] at hb
  have hd := hx.d6
  rw [r6, if_pos hb, List.append_assoc] at f0
  obtain ⟨e1, l1, f1⟩ := numR_at (k := 4) f0 (be_len _ _) l0
  obtain ⟨rfl, rfl⟩ := Prod.mk.inj (h1.symm.trans e1)
  obtain ⟨_, l2, f2⟩ := numR_at (k := x.dt.length) f1 rfl l1
  rw [num4 (by omega)]
  refine ⟨by simp [l2], l2, f2, ?_⟩
  rw [f1, List.take_left' rfl, e0]
  rfl
end Go.Proofs.YtdbehejbeioboaaDoor
