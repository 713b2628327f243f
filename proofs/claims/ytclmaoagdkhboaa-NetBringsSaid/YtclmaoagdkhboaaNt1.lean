/- Nets: packets, cuts; node, pair, order, packet; the document's Pair and RightPacket. -/
import Derived.Test.YtclmaoagdkhboaaRkL
import Derived.Test.YtclmaoagdkhboaaOpR
import Derived.Test.YtclmaoagdkhboaaTab
namespace Go.Proofs.Ytclmaoagdkhboaa
open Go.RowKit
open Asn (pt row rb)
set_option linter.unusedVariables false
set_option linter.unusedSimpArgs false
--@use N

/-- a packet: from, to, its bytes and where they lie -/
abbrev Pk := Int × Int × Dt
/-- what a packet says -/
abbrev Pn := Int × Int × List UInt8
abbrev Ct := Int × Int
def pkc (m : Pk) : List Value := [.int .i64 m.1, .int .i64 m.2.1, .slice m.2.2.1 m.2.2.2.2.length m.2.2.2.1]
def pkv (m : Pk) : Pn := (m.1, m.2.1, m.2.2.2.2)
abbrev pkd (m : Pk) : Dt := m.2.2
def ctc (a : Ct) : List Value := [.int .i64 a.1, .int .i64 a.2]
def ntc (A : Option Addr) (n c : Nat) (A2 : Option Addr) (n2 c2 : Nat) : List Value := [.slice A n c, .slice A2 n2 c2]
theorem pkc_len (m : Pk) : (pkc m).length = 3 := rfl
theorem ctc_len (m : Ct) : (ctc m).length = 2 := rfl
theorem pkc_one (m : Pk) : ∀ u ∈ pkc m, u.oneCell' = true := by simp [pkc, Value.oneCell']
theorem ctc_one (a : Ct) : ∀ u ∈ ctc a, u.oneCell' = true := by simp [ctc, Value.oneCell']
theorem ntc_one (A : Option Addr) (n c : Nat) (A2 : Option Addr) (n2 c2 : Nat) : ∀ u ∈ ntc A n c A2 n2 c2, u.oneCell' = true := by simp [ntc, Value.oneCell']
theorem pk_zero : ti30.zero = .agg (pkc (0, 0, none, 0, [])).toArray := by kernel_rfl
theorem ct_zero : ti73.zero = .agg (ctc (0, 0)).toArray := by kernel_rfl
theorem nt_zero : ti25.zero = .agg (ntc none 0 0 none 0 0).toArray := by kernel_rfl
theorem ct_built2 (a b : Int) : Try.prog.built 73 [(0, .int .i64 a), (1, .int .i64 b)] = some (ctc (a, b)).toArray := by kernel_rfl
theorem nt_built0 : Try.prog.built 25 [] = some (ntc none 0 0 none 0 0).toArray := by kernel_rfl
theorem nt_builtC (A : Option Addr) (n c : Nat) : Try.prog.built 25 [(1, .slice A n c)] = some (ntc none 0 0 A n c).toArray := by kernel_rfl
theorem nt_builtW (A : Option Addr) (n c : Nat) : Try.prog.built 25 [(0, .slice A n c)] = some (ntc A n c none 0 0).toArray := by kernel_rfl
theorem pk_built3 (a b : Int) (A : Option Addr) (n c : Nat) : Try.prog.built 30 [(0, .int .i64 a), (1, .int .i64 b), (2, .slice A n c)] = some [Value.int .i64 a, .int .i64 b, .slice A n c].toArray := by kernel_rfl
section
variable {n : Nat} {w0 : World} {M : Nat → Prop} {T : Slots} {H : List Asn} {dd : Option Tmp} {tt : TypeId} {pos : String} {af : Array Edge} {g : Option (Nat × Bool)} {x y : Operand}
theorem T_eqCt {u : TypeId} {a b : Ct} {r : Bool} (hx : oget T x = some (.agg (ctc a).toArray)) (hy : oget T y = some (.agg (ctc b).toArray)) (hr : decide (a = b) = r) :
    Tk Try.prog n w0 M T H ⟨dd, .binOp .eql 73 x y u, tt, pos, af, g⟩ (.bool (r)) := by
  refine T_eqS (r := r) hx hy (s := 73) (i := ti73) rfl rfl (by kernel_rfl) (by kernel_rfl) rfl ?_
  subst hr
  obtain ⟨a1, a2⟩ := a
  obtain ⟨b1, b2⟩ := b
  show (a1 == b1 && (a2 == b2 && true)) = _
  rw [Bool.and_true, Bool.eq_iff_iff]
  simp
theorem T_neCt {u : TypeId} {a b : Ct} {r : Bool} (hx : oget T x = some (.agg (ctc a).toArray)) (hy : oget T y = some (.agg (ctc b).toArray)) (hr : decide (a = b) = r) :
    Tk Try.prog n w0 M T H ⟨dd, .binOp .neq 73 x y u, tt, pos, af, g⟩ (.bool (!r)) := by
  refine T_neS (r := r) hx hy (s := 73) (i := ti73) rfl rfl (by kernel_rfl) (by kernel_rfl) rfl ?_
  subst hr
  obtain ⟨a1, a2⟩ := a
  obtain ⟨b1, b2⟩ := b
  show (a1 == b1 && (a2 == b2 && true)) = _
  rw [Bool.and_true, Bool.eq_iff_iff]
  simp
end
def nodeB (a : Int) : Bool := decide (1 ≤ a) && decide (a ≤ 8)
/-- are two numbers unlike nodes? -/
def pairB (a b : Int) : Bool := nodeB a && nodeB b && decide (a ≠ b)
def minI (a b : Int) : Int := if b < a then b else a
def maxI (a b : Int) : Int := if a < b then b else a
def pkB (p : Pn) : Bool := pairB p.1 p.2.1 && decide (p.2.2.length ≤ 70000)
def cmpI (a b : Int) : Int := if a < b then -1 else if b < a then 1 else 0
def orI (l : List Int) : Int := (l.find? fun z => decide (z ≠ 0)).getD 0
def ordI (x y : Ct) : Int := orI [cmpI x.1 y.1, cmpI x.2 y.2]
set_option maxRecDepth 100000 in
set_option maxHeartbeats 4000000 in
theorem node_k (w : World) (a : Int) (r : Bool) (hr : nodeB a = r) :
    Gives Try.prog 43 [.int .i64 a] [] w (X := Unit) (fun _ => .bool r) (fun _ => True) (fun _ => []) := by
  refine gives_S Try.func43 rfl Try.ntmps43 Try.results43 (by simp) (St.enter w) (fun B hB => ?_)
  rw [← hr, nodeB] at hB
  by_cases h1 : 1 ≤ a
  · by_cases h2 : a ≤ 8
    · rw [decide_eq_true h1, decide_eq_true h2] at hB
      focus (refine S_seq rfl ?_; refine S_region rfl rfl ?_; refine R_p rfl ?_ rfl rfl; refine R_nil ?_; refine S_seq rfl ?_; refine S_region rfl rfl ?_; refine R_p rfl ?_ rfl rfl; refine R_take (T_decT rfl (by omega)) ?_ rfl rfl; refine R_p rfl ?_ rfl rfl; refine R_p rfl ?_ rfl rfl; refine R_take (T_decT rfl (by omega)) ?_ rfl rfl; refine R_p rfl ?_ rfl rfl; refine R_p rfl ?_ rfl rfl; refine R_nil ?_)
      exact hB _ _ _ _ _ rfl rfl fun w' hS => ⟨(), rfl, trivial, hS.sublist (List.nil_sublist _)⟩
    · rw [decide_eq_true h1, decide_eq_false h2] at hB
      focus (refine S_seq rfl ?_; refine S_region rfl rfl ?_; refine R_p rfl ?_ rfl rfl; refine R_nil ?_; refine S_seq rfl ?_; refine S_region rfl rfl ?_; refine R_p rfl ?_ rfl rfl; refine R_take (T_decT rfl (by omega)) ?_ rfl rfl; refine R_p rfl ?_ rfl rfl; refine R_p rfl ?_ rfl rfl; refine R_take (T_decF rfl (by omega)) ?_ rfl rfl; refine R_p rfl ?_ rfl rfl; refine R_p rfl ?_ rfl rfl; refine R_nil ?_)
      exact hB _ _ _ _ _ rfl rfl fun w' hS => ⟨(), rfl, trivial, hS.sublist (List.nil_sublist _)⟩
  · rw [decide_eq_false h1, Bool.false_and] at hB
    focus (refine S_seq rfl ?_; refine S_region rfl rfl ?_; refine R_p rfl ?_ rfl rfl; refine R_nil ?_; refine S_seq rfl ?_; refine S_region rfl rfl ?_; refine R_p rfl ?_ rfl rfl; refine R_take (T_decF rfl (by omega)) ?_ rfl rfl; refine R_p rfl ?_ rfl rfl; refine R_skip ?_ rfl rfl; refine R_skip ?_ rfl rfl; refine R_p rfl ?_ rfl rfl; refine R_p rfl ?_ rfl rfl; refine R_nil ?_)
    exact hB _ _ _ _ _ rfl rfl fun w' hS => ⟨(), rfl, trivial, hS.sublist (List.nil_sublist _)⟩
set_option maxRecDepth 100000 in
set_option maxHeartbeats 4000000 in
theorem pair_k (w : World) (a b : Int) (r : Bool) (hr : pairB a b = r) :
    Gives Try.prog 52 [.int .i64 a, .int .i64 b] [] w (X := Unit) (fun _ => .tuple #[.agg (ctc (minI a b, maxI a b)).toArray, .bool r]) (fun _ => True) (fun _ => []) := by
  refine gives_C Try.func52 rfl Try.ntmps52 Try.results52 (by simp) (St.enter w) (fun B hB => ?_)
  obtain ⟨p, hp⟩ : ∃ p, nodeB a = p := ⟨_, rfl⟩
  obtain ⟨q, hq⟩ : ∃ q, nodeB b = q := ⟨_, rfl⟩
  rw [← hr, pairB, hp, hq] at hB
  cases p
  · rw [Bool.false_and, Bool.false_and] at hB
    focus (refine S_seq rfl ?_; refine S_region rfl rfl ?_; (refine R_eff (E_alloca rfl ct_zero) ?_ rfl rfl; rintro _ _ ⟨b4, rfl, rfl⟩); refine R_p rfl ?_ rfl rfl; refine R_nil ?_; refine S_seq rfl ?_; refine S_region rfl rfl ?_; refine R_p rfl ?_ rfl rfl; refine R_p rfl ?_ rfl rfl; refine R_take (T_min rfl rfl) ?_ rfl rfl; refine R_p rfl ?_ rfl rfl; refine R_p rfl ?_ rfl rfl; refine R_take (T_max rfl rfl) ?_ rfl rfl; refine R_take (T_build2 rfl rfl (ct_built2 _ _)) ?_ rfl rfl; refine R_p rfl ?_ rfl rfl; (refine R_eff (E_hv0 (f := 43) ⟨_, Try.func43, rfl, by kernel_rfl⟩ (fun w hS => node_k w a _ hp) rfl rfl (fun _ => rfl)) ?_ rfl rfl; rintro _ _ ⟨_, rfl, _, rfl⟩); refine R_p rfl ?_ rfl rfl; refine R_skip ?_ rfl rfl; refine R_skip ?_ rfl rfl; refine R_p rfl ?_ rfl rfl; refine R_p rfl ?_ rfl rfl; refine R_skip ?_ rfl rfl; refine R_skip ?_ rfl rfl; refine R_skip ?_ rfl rfl; refine R_p rfl ?_ rfl rfl; (refine R_eff0 (E_storew (cs := ctc (0, 0)) (ds := ctc (minI a b, maxI a b)) rfl rfl rfl rfl (ctc_one _) rfl) ?_ rfl; rintro _ _ rfl); refine R_p rfl ?_ rfl rfl; refine R_nil ?_)
    exact hB _ _ _ _ _ rfl (.cell rfl rfl rfl inferInstance rfl (.tmp rfl .nil)) fun w' hS => ⟨(), rfl, trivial, hS.sublist (List.nil_sublist _)⟩
  cases q
  · rw [Bool.and_false, Bool.false_and] at hB
    focus (refine S_seq rfl ?_; refine S_region rfl rfl ?_; (refine R_eff (E_alloca rfl ct_zero) ?_ rfl rfl; rintro _ _ ⟨b4, rfl, rfl⟩); refine R_p rfl ?_ rfl rfl; refine R_nil ?_; refine S_seq rfl ?_; refine S_region rfl rfl ?_; refine R_p rfl ?_ rfl rfl; refine R_p rfl ?_ rfl rfl; refine R_take (T_min rfl rfl) ?_ rfl rfl; refine R_p rfl ?_ rfl rfl; refine R_p rfl ?_ rfl rfl; refine R_take (T_max rfl rfl) ?_ rfl rfl; refine R_take (T_build2 rfl rfl (ct_built2 _ _)) ?_ rfl rfl; refine R_p rfl ?_ rfl rfl; (refine R_eff (E_hv0 (f := 43) ⟨_, Try.func43, rfl, by kernel_rfl⟩ (fun w hS => node_k w a _ hp) rfl rfl (fun _ => rfl)) ?_ rfl rfl; rintro _ _ ⟨_, rfl, _, rfl⟩); refine R_take (T_decT rfl (by omega)) ?_ rfl rfl; refine R_p rfl ?_ rfl rfl; (refine R_eff (E_hv0 (f := 43) ⟨_, Try.func43, rfl, by kernel_rfl⟩ (fun w hS => node_k w b _ hq) rfl rfl (fun _ => rfl)) ?_ rfl rfl; rintro _ _ ⟨_, rfl, _, rfl⟩); refine R_p rfl ?_ rfl rfl; refine R_p rfl ?_ rfl rfl; refine R_skip ?_ rfl rfl; refine R_skip ?_ rfl rfl; refine R_skip ?_ rfl rfl; refine R_p rfl ?_ rfl rfl; (refine R_eff0 (E_storew (cs := ctc (0, 0)) (ds := ctc (minI a b, maxI a b)) rfl rfl rfl rfl (ctc_one _) rfl) ?_ rfl; rintro _ _ rfl); refine R_p rfl ?_ rfl rfl; refine R_nil ?_)
    exact hB _ _ _ _ _ rfl (.cell rfl rfl rfl inferInstance rfl (.tmp rfl .nil)) fun w' hS => ⟨(), rfl, trivial, hS.sublist (List.nil_sublist _)⟩
  rw [Bool.true_and, Bool.true_and] at hB
  by_cases hab : a = b
  · rw [decide_eq_false (fun h => h hab)] at hB
    focus (refine S_seq rfl ?_; refine S_region rfl rfl ?_; (refine R_eff (E_alloca rfl ct_zero) ?_ rfl rfl; rintro _ _ ⟨b4, rfl, rfl⟩); refine R_p rfl ?_ rfl rfl; refine R_nil ?_; refine S_seq rfl ?_; refine S_region rfl rfl ?_; refine R_p rfl ?_ rfl rfl; refine R_p rfl ?_ rfl rfl; refine R_take (T_min rfl rfl) ?_ rfl rfl; refine R_p rfl ?_ rfl rfl; refine R_p rfl ?_ rfl rfl; refine R_take (T_max rfl rfl) ?_ rfl rfl; refine R_take (T_build2 rfl rfl (ct_built2 _ _)) ?_ rfl rfl; refine R_p rfl ?_ rfl rfl; (refine R_eff (E_hv0 (f := 43) ⟨_, Try.func43, rfl, by kernel_rfl⟩ (fun w hS => node_k w a _ hp) rfl rfl (fun _ => rfl)) ?_ rfl rfl; rintro _ _ ⟨_, rfl, _, rfl⟩); refine R_take (T_decT rfl (by omega)) ?_ rfl rfl; refine R_p rfl ?_ rfl rfl; (refine R_eff (E_hv0 (f := 43) ⟨_, Try.func43, rfl, by kernel_rfl⟩ (fun w hS => node_k w b _ hq) rfl rfl (fun _ => rfl)) ?_ rfl rfl; rintro _ _ ⟨_, rfl, _, rfl⟩); refine R_take (T_decT rfl (by omega)) ?_ rfl rfl; refine R_take (T_decT rfl (by omega)) ?_ rfl rfl; refine R_p rfl ?_ rfl rfl; refine R_p rfl ?_ rfl rfl; refine R_take (T_decF rfl (by omega)) ?_ rfl rfl; refine R_p rfl ?_ rfl rfl; (refine R_eff0 (E_storew (cs := ctc (0, 0)) (ds := ctc (minI a b, maxI a b)) rfl rfl rfl rfl (ctc_one _) rfl) ?_ rfl; rintro _ _ rfl); refine R_p rfl ?_ rfl rfl; refine R_nil ?_)
    exact hB _ _ _ _ _ rfl (.cell rfl rfl rfl inferInstance rfl (.tmp rfl .nil)) fun w' hS => ⟨(), rfl, trivial, hS.sublist (List.nil_sublist _)⟩
  · rw [decide_eq_true hab] at hB
    focus (refine S_seq rfl ?_; refine S_region rfl rfl ?_; (refine R_eff (E_alloca rfl ct_zero) ?_ rfl rfl; rintro _ _ ⟨b4, rfl, rfl⟩); refine R_p rfl ?_ rfl rfl; refine R_nil ?_; refine S_seq rfl ?_; refine S_region rfl rfl ?_; refine R_p rfl ?_ rfl rfl; refine R_p rfl ?_ rfl rfl; refine R_take (T_min rfl rfl) ?_ rfl rfl; refine R_p rfl ?_ rfl rfl; refine R_p rfl ?_ rfl rfl; refine R_take (T_max rfl rfl) ?_ rfl rfl; refine R_take (T_build2 rfl rfl (ct_built2 _ _)) ?_ rfl rfl; refine R_p rfl ?_ rfl rfl; (refine R_eff (E_hv0 (f := 43) ⟨_, Try.func43, rfl, by kernel_rfl⟩ (fun w hS => node_k w a _ hp) rfl rfl (fun _ => rfl)) ?_ rfl rfl; rintro _ _ ⟨_, rfl, _, rfl⟩); refine R_take (T_decT rfl (by omega)) ?_ rfl rfl; refine R_p rfl ?_ rfl rfl; (refine R_eff (E_hv0 (f := 43) ⟨_, Try.func43, rfl, by kernel_rfl⟩ (fun w hS => node_k w b _ hq) rfl rfl (fun _ => rfl)) ?_ rfl rfl; rintro _ _ ⟨_, rfl, _, rfl⟩); refine R_take (T_decT rfl (by omega)) ?_ rfl rfl; refine R_take (T_decT rfl (by omega)) ?_ rfl rfl; refine R_p rfl ?_ rfl rfl; refine R_p rfl ?_ rfl rfl; refine R_take (T_decT rfl (by omega)) ?_ rfl rfl; refine R_take (T_decT rfl (by omega)) ?_ rfl rfl; (refine R_eff0 (E_storew (cs := ctc (0, 0)) (ds := ctc (minI a b, maxI a b)) rfl rfl rfl rfl (ctc_one _) rfl) ?_ rfl; rintro _ _ rfl); refine R_take (T_decT rfl (by omega)) ?_ rfl rfl; refine R_nil ?_)
    exact hB _ _ _ _ _ rfl (.cell rfl rfl rfl inferInstance rfl (.tmp rfl .nil)) fun w' hS => ⟨(), rfl, trivial, hS.sublist (List.nil_sublist _)⟩
set_option maxRecDepth 100000 in
set_option maxHeartbeats 4000000 in
theorem pairD_k (w : World) (a b : Int) (r : Bool) (hr : pairB a b = r) :
    Gives Try.prog 26 [.int .i64 a, .int .i64 b] [] w (X := Unit) (fun _ => .bool r) (fun _ => True) (fun _ => []) := by
  refine gives_S Try.func26 rfl Try.ntmps26 Try.results26 (by simp) (St.enter w) (fun B hB => ?_)
  rw [← hr] at hB
  have hno : ¬ (1 ≤ a ∧ a ≤ 8 ∧ 1 ≤ b ∧ b ≤ 8 ∧ a ≠ b) → pairB a b = false := fun h => by
    cases h2 : pairB a b
    · rfl
    · exfalso
      unfold pairB nodeB at h2
      simp only [Bool.and_eq_true, decide_eq_true_eq] at h2
      exact h ⟨h2.1.1.1, h2.1.1.2, h2.1.2.1, h2.1.2.2, h2.2⟩
  by_cases h1 : 1 ≤ a
  · by_cases h2 : a ≤ 8
    · by_cases h3 : 1 ≤ b
      · by_cases h4 : b ≤ 8
        · by_cases h5 : a = b
          · rw [hno fun h => h.2.2.2.2 h5] at hB
            focus (refine S_seq rfl ?_; refine S_region rfl rfl ?_; refine R_p rfl ?_ rfl rfl; refine R_nil ?_; refine S_seq rfl ?_; refine S_region rfl rfl ?_; refine R_p rfl ?_ rfl rfl; refine R_take (T_decT rfl (by omega)) ?_ rfl rfl; refine R_p rfl ?_ rfl rfl; refine R_p rfl ?_ rfl rfl; refine R_take (T_decT rfl (by omega)) ?_ rfl rfl; refine R_p rfl ?_ rfl rfl; refine R_p rfl ?_ rfl rfl; refine R_p rfl ?_ rfl rfl; refine R_take (T_decT rfl (by omega)) ?_ rfl rfl; refine R_p rfl ?_ rfl rfl; refine R_p rfl ?_ rfl rfl; refine R_p rfl ?_ rfl rfl; refine R_take (T_decT rfl (by omega)) ?_ rfl rfl; refine R_p rfl ?_ rfl rfl; refine R_p rfl ?_ rfl rfl; refine R_p rfl ?_ rfl rfl; refine R_p rfl ?_ rfl rfl; refine R_take (T_decF rfl (by omega)) ?_ rfl rfl; refine R_p rfl ?_ rfl rfl; refine R_p rfl ?_ rfl rfl; refine R_nil ?_)
            exact hB _ _ _ _ _ rfl rfl fun w' hS => ⟨(), rfl, trivial, hS.sublist (List.nil_sublist _)⟩
          · have e : pairB a b = true := by
              unfold pairB nodeB
              rw [decide_eq_true h1, decide_eq_true h2, decide_eq_true h3, decide_eq_true h4, decide_eq_true h5]
              rfl
            rw [e] at hB
            focus (refine S_seq rfl ?_; refine S_region rfl rfl ?_; refine R_p rfl ?_ rfl rfl; refine R_nil ?_; refine S_seq rfl ?_; refine S_region rfl rfl ?_; refine R_p rfl ?_ rfl rfl; refine R_take (T_decT rfl (by omega)) ?_ rfl rfl; refine R_p rfl ?_ rfl rfl; refine R_p rfl ?_ rfl rfl; refine R_take (T_decT rfl (by omega)) ?_ rfl rfl; refine R_p rfl ?_ rfl rfl; refine R_p rfl ?_ rfl rfl; refine R_p rfl ?_ rfl rfl; refine R_take (T_decT rfl (by omega)) ?_ rfl rfl; refine R_p rfl ?_ rfl rfl; refine R_p rfl ?_ rfl rfl; refine R_p rfl ?_ rfl rfl; refine R_take (T_decT rfl (by omega)) ?_ rfl rfl; refine R_p rfl ?_ rfl rfl; refine R_p rfl ?_ rfl rfl; refine R_p rfl ?_ rfl rfl; refine R_p rfl ?_ rfl rfl; refine R_take (T_decT rfl (by omega)) ?_ rfl rfl; refine R_p rfl ?_ rfl rfl; refine R_p rfl ?_ rfl rfl; refine R_nil ?_)
            exact hB _ _ _ _ _ rfl rfl fun w' hS => ⟨(), rfl, trivial, hS.sublist (List.nil_sublist _)⟩
        · rw [hno fun h => h4 h.2.2.2.1] at hB
          focus (refine S_seq rfl ?_; refine S_region rfl rfl ?_; refine R_p rfl ?_ rfl rfl; refine R_nil ?_; refine S_seq rfl ?_; refine S_region rfl rfl ?_; refine R_p rfl ?_ rfl rfl; refine R_take (T_decT rfl (by omega)) ?_ rfl rfl; refine R_p rfl ?_ rfl rfl; refine R_p rfl ?_ rfl rfl; refine R_take (T_decT rfl (by omega)) ?_ rfl rfl; refine R_p rfl ?_ rfl rfl; refine R_p rfl ?_ rfl rfl; refine R_p rfl ?_ rfl rfl; refine R_take (T_decT rfl (by omega)) ?_ rfl rfl; refine R_p rfl ?_ rfl rfl; refine R_p rfl ?_ rfl rfl; refine R_p rfl ?_ rfl rfl; refine R_take (T_decF rfl (by omega)) ?_ rfl rfl; refine R_p rfl ?_ rfl rfl; refine R_p rfl ?_ rfl rfl; refine R_skip ?_ rfl rfl; refine R_skip ?_ rfl rfl; refine R_skip ?_ rfl rfl; refine R_p rfl ?_ rfl rfl; refine R_p rfl ?_ rfl rfl; refine R_nil ?_)
          exact hB _ _ _ _ _ rfl rfl fun w' hS => ⟨(), rfl, trivial, hS.sublist (List.nil_sublist _)⟩
      · rw [hno fun h => h3 h.2.2.1] at hB
        focus (refine S_seq rfl ?_; refine S_region rfl rfl ?_; refine R_p rfl ?_ rfl rfl; refine R_nil ?_; refine S_seq rfl ?_; refine S_region rfl rfl ?_; refine R_p rfl ?_ rfl rfl; refine R_take (T_decT rfl (by omega)) ?_ rfl rfl; refine R_p rfl ?_ rfl rfl; refine R_p rfl ?_ rfl rfl; refine R_take (T_decT rfl (by omega)) ?_ rfl rfl; refine R_p rfl ?_ rfl rfl; refine R_p rfl ?_ rfl rfl; refine R_p rfl ?_ rfl rfl; refine R_take (T_decF rfl (by omega)) ?_ rfl rfl; refine R_p rfl ?_ rfl rfl; refine R_p rfl ?_ rfl rfl; refine R_skip ?_ rfl rfl; refine R_skip ?_ rfl rfl; refine R_p rfl ?_ rfl rfl; refine R_p rfl ?_ rfl rfl; refine R_skip ?_ rfl rfl; refine R_skip ?_ rfl rfl; refine R_skip ?_ rfl rfl; refine R_p rfl ?_ rfl rfl; refine R_p rfl ?_ rfl rfl; refine R_nil ?_)
        exact hB _ _ _ _ _ rfl rfl fun w' hS => ⟨(), rfl, trivial, hS.sublist (List.nil_sublist _)⟩
    · rw [hno fun h => h2 h.2.1] at hB
      focus (refine S_seq rfl ?_; refine S_region rfl rfl ?_; refine R_p rfl ?_ rfl rfl; refine R_nil ?_; refine S_seq rfl ?_; refine S_region rfl rfl ?_; refine R_p rfl ?_ rfl rfl; refine R_take (T_decT rfl (by omega)) ?_ rfl rfl; refine R_p rfl ?_ rfl rfl; refine R_p rfl ?_ rfl rfl; refine R_take (T_decF rfl (by omega)) ?_ rfl rfl; refine R_p rfl ?_ rfl rfl; refine R_p rfl ?_ rfl rfl; refine R_skip ?_ rfl rfl; refine R_skip ?_ rfl rfl; refine R_p rfl ?_ rfl rfl; refine R_p rfl ?_ rfl rfl; refine R_skip ?_ rfl rfl; refine R_skip ?_ rfl rfl; refine R_p rfl ?_ rfl rfl; refine R_p rfl ?_ rfl rfl; refine R_skip ?_ rfl rfl; refine R_skip ?_ rfl rfl; refine R_skip ?_ rfl rfl; refine R_p rfl ?_ rfl rfl; refine R_p rfl ?_ rfl rfl; refine R_nil ?_)
      exact hB _ _ _ _ _ rfl rfl fun w' hS => ⟨(), rfl, trivial, hS.sublist (List.nil_sublist _)⟩
  · rw [hno fun h => h1 h.1] at hB
    focus (refine S_seq rfl ?_; refine S_region rfl rfl ?_; refine R_p rfl ?_ rfl rfl; refine R_nil ?_; refine S_seq rfl ?_; refine S_region rfl rfl ?_; refine R_p rfl ?_ rfl rfl; refine R_take (T_decF rfl (by omega)) ?_ rfl rfl; refine R_p rfl ?_ rfl rfl; refine R_skip ?_ rfl rfl; refine R_skip ?_ rfl rfl; refine R_p rfl ?_ rfl rfl; refine R_p rfl ?_ rfl rfl; refine R_skip ?_ rfl rfl; refine R_skip ?_ rfl rfl; refine R_p rfl ?_ rfl rfl; refine R_p rfl ?_ rfl rfl; refine R_skip ?_ rfl rfl; refine R_skip ?_ rfl rfl; refine R_p rfl ?_ rfl rfl; refine R_p rfl ?_ rfl rfl; refine R_skip ?_ rfl rfl; refine R_skip ?_ rfl rfl; refine R_skip ?_ rfl rfl; refine R_p rfl ?_ rfl rfl; refine R_p rfl ?_ rfl rfl; refine R_nil ?_)
    exact hB _ _ _ _ _ rfl rfl fun w' hS => ⟨(), rfl, trivial, hS.sublist (List.nil_sublist _)⟩
set_option maxRecDepth 100000 in
set_option maxHeartbeats 4000000 in
theorem packet_k (w : World) (m : Pk) (r : Bool) (hr : pkB (pkv m) = r) :
    Gives Try.prog 45 [.agg (pkc m).toArray] [] w (X := Unit) (fun _ => .bool r) (fun _ => True) (fun _ => []) := by
  refine gives_S Try.func45 rfl Try.ntmps45 Try.results45 (by simp) (St.enter w) (fun B hB => ?_)
  obtain ⟨f, t, A, c, l⟩ := m
  obtain ⟨p, hp⟩ : ∃ p, pairB f t = p := ⟨_, rfl⟩
  have hr : (p && decide (l.length ≤ 70000)) = r := by rw [← hr, ← hp]; rfl
  rw [← hr] at hB
  cases p
  · rw [Bool.false_and] at hB
    focus (refine S_seq rfl ?_; refine S_region rfl rfl ?_; (refine R_eff (E_boxa (cs := pkc (f, t, A, c, l)) rfl) ?_ rfl rfl; rintro _ _ ⟨b1, rfl, rfl⟩); refine R_p rfl ?_ rfl rfl; refine R_nil ?_; refine S_seq rfl ?_; refine S_region rfl rfl ?_; refine R_p rfl ?_ rfl rfl; refine R_take (T_load rfl rfl rfl rfl) ?_ rfl rfl; refine R_p rfl ?_ rfl rfl; refine R_take (T_load rfl rfl rfl rfl) ?_ rfl rfl; (refine R_eff (E_hv0 (f := 52) ⟨_, Try.func52, rfl, by kernel_rfl⟩ (fun w hS => pair_k w f t _ hp) rfl rfl (fun _ => rfl)) ?_ rfl rfl; rintro _ _ ⟨_, rfl, _, rfl⟩); refine R_p rfl ?_ rfl rfl; refine R_p rfl ?_ rfl rfl; refine R_p rfl ?_ rfl rfl; (refine R_eff (E_alloca rfl ct_zero) ?_ rfl rfl; rintro _ _ ⟨b3, rfl, rfl⟩); (refine R_eff0 (E_storew (cs := ctc (0, 0)) (ds := ctc (minI f t, maxI f t)) rfl rfl rfl rfl (ctc_one _) rfl) ?_ rfl; rintro _ _ rfl); refine R_p rfl ?_ rfl rfl; refine R_nil ?_; refine S_seq rfl ?_; refine S_region rfl rfl ?_; refine R_p rfl ?_ rfl rfl; refine R_p rfl ?_ rfl rfl; refine R_skip ?_ rfl rfl; refine R_skip ?_ rfl rfl; refine R_skip ?_ rfl rfl; refine R_skip ?_ rfl rfl; refine R_p rfl ?_ rfl rfl; refine R_p rfl ?_ rfl rfl; refine R_nil ?_)
    exact hB _ _ _ _ _ rfl rfl fun w' hS => ⟨(), rfl, trivial, hS.sublist (List.nil_sublist _)⟩
  rw [Bool.true_and] at hB
  by_cases h : l.length ≤ 70000
  · rw [decide_eq_true h] at hB
    focus (refine S_seq rfl ?_; refine S_region rfl rfl ?_; (refine R_eff (E_boxa (cs := pkc (f, t, A, c, l)) rfl) ?_ rfl rfl; rintro _ _ ⟨b1, rfl, rfl⟩); refine R_p rfl ?_ rfl rfl; refine R_nil ?_; refine S_seq rfl ?_; refine S_region rfl rfl ?_; refine R_p rfl ?_ rfl rfl; refine R_take (T_load rfl rfl rfl rfl) ?_ rfl rfl; refine R_p rfl ?_ rfl rfl; refine R_take (T_load rfl rfl rfl rfl) ?_ rfl rfl; (refine R_eff (E_hv0 (f := 52) ⟨_, Try.func52, rfl, by kernel_rfl⟩ (fun w hS => pair_k w f t _ hp) rfl rfl (fun _ => rfl)) ?_ rfl rfl; rintro _ _ ⟨_, rfl, _, rfl⟩); refine R_p rfl ?_ rfl rfl; refine R_p rfl ?_ rfl rfl; refine R_take (T_decT rfl (by omega)) ?_ rfl rfl; (refine R_eff (E_alloca rfl ct_zero) ?_ rfl rfl; rintro _ _ ⟨b3, rfl, rfl⟩); (refine R_eff0 (E_storew (cs := ctc (0, 0)) (ds := ctc (minI f t, maxI f t)) rfl rfl rfl rfl (ctc_one _) rfl) ?_ rfl; rintro _ _ rfl); refine R_take (T_decT rfl (by omega)) ?_ rfl rfl; refine R_nil ?_; refine S_seq rfl ?_; refine S_region rfl rfl ?_; refine R_take (T_decT rfl (by omega)) ?_ rfl rfl; refine R_take (T_decT rfl (by omega)) ?_ rfl rfl; refine R_p rfl ?_ rfl rfl; refine R_take (T_load (v := .slice A l.length c) rfl rfl rfl rfl) ?_ rfl rfl; refine R_p rfl ?_ rfl rfl; refine R_take (T_decT rfl (by omega)) ?_ rfl rfl; refine R_take (T_decT rfl (by omega)) ?_ rfl rfl; refine R_take (T_decT rfl (by omega)) ?_ rfl rfl; refine R_nil ?_)
    exact hB _ _ _ _ _ rfl rfl fun w' hS => ⟨(), rfl, trivial, hS.sublist (List.nil_sublist _)⟩
  · rw [decide_eq_false h] at hB
    focus (refine S_seq rfl ?_; refine S_region rfl rfl ?_; (refine R_eff (E_boxa (cs := pkc (f, t, A, c, l)) rfl) ?_ rfl rfl; rintro _ _ ⟨b1, rfl, rfl⟩); refine R_p rfl ?_ rfl rfl; refine R_nil ?_; refine S_seq rfl ?_; refine S_region rfl rfl ?_; refine R_p rfl ?_ rfl rfl; refine R_take (T_load rfl rfl rfl rfl) ?_ rfl rfl; refine R_p rfl ?_ rfl rfl; refine R_take (T_load rfl rfl rfl rfl) ?_ rfl rfl; (refine R_eff (E_hv0 (f := 52) ⟨_, Try.func52, rfl, by kernel_rfl⟩ (fun w hS => pair_k w f t _ hp) rfl rfl (fun _ => rfl)) ?_ rfl rfl; rintro _ _ ⟨_, rfl, _, rfl⟩); refine R_p rfl ?_ rfl rfl; refine R_p rfl ?_ rfl rfl; refine R_take (T_decT rfl (by omega)) ?_ rfl rfl; (refine R_eff (E_alloca rfl ct_zero) ?_ rfl rfl; rintro _ _ ⟨b3, rfl, rfl⟩); (refine R_eff0 (E_storew (cs := ctc (0, 0)) (ds := ctc (minI f t, maxI f t)) rfl rfl rfl rfl (ctc_one _) rfl) ?_ rfl; rintro _ _ rfl); refine R_take (T_decT rfl (by omega)) ?_ rfl rfl; refine R_nil ?_; refine S_seq rfl ?_; refine S_region rfl rfl ?_; refine R_take (T_decT rfl (by omega)) ?_ rfl rfl; refine R_take (T_decT rfl (by omega)) ?_ rfl rfl; refine R_p rfl ?_ rfl rfl; refine R_take (T_load (v := .slice A l.length c) rfl rfl rfl rfl) ?_ rfl rfl; refine R_p rfl ?_ rfl rfl; refine R_take (T_decF rfl (by omega)) ?_ rfl rfl; refine R_p rfl ?_ rfl rfl; refine R_p rfl ?_ rfl rfl; refine R_nil ?_)
    exact hB _ _ _ _ _ rfl rfl fun w' hS => ⟨(), rfl, trivial, hS.sublist (List.nil_sublist _)⟩
set_option maxRecDepth 100000 in
set_option maxHeartbeats 4000000 in
theorem rightP_k (w : World) (m : Pk) (r : Bool) (hr : pkB (pkv m) = r) :
    Gives Try.prog 40 [.agg (pkc m).toArray] [] w (X := Unit) (fun _ => .bool r) (fun _ => True) (fun _ => []) := by
  refine gives_S Try.func40 rfl Try.ntmps40 Try.results40 (by simp) (St.enter w) (fun B hB => ?_)
  obtain ⟨f, t, A, c, l⟩ := m
  obtain ⟨p, hp⟩ : ∃ p, pairB f t = p := ⟨_, rfl⟩
  have hr : (p && decide (l.length ≤ 70000)) = r := by rw [← hr, ← hp]; rfl
  rw [← hr] at hB
  cases p
  · rw [Bool.false_and] at hB
    focus (refine S_seq rfl ?_; refine S_region rfl rfl ?_; (refine R_eff (E_boxa (cs := pkc (f, t, A, c, l)) rfl) ?_ rfl rfl; rintro _ _ ⟨b1, rfl, rfl⟩); refine R_p rfl ?_ rfl rfl; refine R_nil ?_; refine S_seq rfl ?_; refine S_region rfl rfl ?_; refine R_p rfl ?_ rfl rfl; refine R_take (T_load rfl rfl rfl rfl) ?_ rfl rfl; refine R_p rfl ?_ rfl rfl; refine R_take (T_load rfl rfl rfl rfl) ?_ rfl rfl; (refine R_eff (E_hv0 (f := 26) ⟨_, Try.func26, rfl, by kernel_rfl⟩ (fun w hS => pairD_k w f t _ hp) rfl rfl (fun _ => rfl)) ?_ rfl rfl; rintro _ _ ⟨_, rfl, _, rfl⟩); refine R_p rfl ?_ rfl rfl; refine R_skip ?_ rfl rfl; refine R_skip ?_ rfl rfl; refine R_skip ?_ rfl rfl; refine R_skip ?_ rfl rfl; refine R_p rfl ?_ rfl rfl; refine R_p rfl ?_ rfl rfl; refine R_nil ?_)
    exact hB _ _ _ _ _ rfl rfl fun w' hS => ⟨(), rfl, trivial, hS.sublist (List.nil_sublist _)⟩
  rw [Bool.true_and] at hB
  by_cases h : l.length ≤ 70000
  · rw [decide_eq_true h] at hB
    focus (refine S_seq rfl ?_; refine S_region rfl rfl ?_; (refine R_eff (E_boxa (cs := pkc (f, t, A, c, l)) rfl) ?_ rfl rfl; rintro _ _ ⟨b1, rfl, rfl⟩); refine R_p rfl ?_ rfl rfl; refine R_nil ?_; refine S_seq rfl ?_; refine S_region rfl rfl ?_; refine R_p rfl ?_ rfl rfl; refine R_take (T_load rfl rfl rfl rfl) ?_ rfl rfl; refine R_p rfl ?_ rfl rfl; refine R_take (T_load rfl rfl rfl rfl) ?_ rfl rfl; (refine R_eff (E_hv0 (f := 26) ⟨_, Try.func26, rfl, by kernel_rfl⟩ (fun w hS => pairD_k w f t _ hp) rfl rfl (fun _ => rfl)) ?_ rfl rfl; rintro _ _ ⟨_, rfl, _, rfl⟩); refine R_take (T_decT rfl (by omega)) ?_ rfl rfl; refine R_p rfl ?_ rfl rfl; refine R_take (T_load (v := .slice A l.length c) rfl rfl rfl rfl) ?_ rfl rfl; refine R_p rfl ?_ rfl rfl; refine R_take (T_decT rfl (by omega)) ?_ rfl rfl; refine R_take (T_decT rfl (by omega)) ?_ rfl rfl; refine R_take (T_decT rfl (by omega)) ?_ rfl rfl; refine R_nil ?_)
    exact hB _ _ _ _ _ rfl rfl fun w' hS => ⟨(), rfl, trivial, hS.sublist (List.nil_sublist _)⟩
  · rw [decide_eq_false h] at hB
    focus (refine S_seq rfl ?_; refine S_region rfl rfl ?_; (refine R_eff (E_boxa (cs := pkc (f, t, A, c, l)) rfl) ?_ rfl rfl; rintro _ _ ⟨b1, rfl, rfl⟩); refine R_p rfl ?_ rfl rfl; refine R_nil ?_; refine S_seq rfl ?_; refine S_region rfl rfl ?_; refine R_p rfl ?_ rfl rfl; refine R_take (T_load rfl rfl rfl rfl) ?_ rfl rfl; refine R_p rfl ?_ rfl rfl; refine R_take (T_load rfl rfl rfl rfl) ?_ rfl rfl; (refine R_eff (E_hv0 (f := 26) ⟨_, Try.func26, rfl, by kernel_rfl⟩ (fun w hS => pairD_k w f t _ hp) rfl rfl (fun _ => rfl)) ?_ rfl rfl; rintro _ _ ⟨_, rfl, _, rfl⟩); refine R_take (T_decT rfl (by omega)) ?_ rfl rfl; refine R_p rfl ?_ rfl rfl; refine R_take (T_load (v := .slice A l.length c) rfl rfl rfl rfl) ?_ rfl rfl; refine R_p rfl ?_ rfl rfl; refine R_take (T_decF rfl (by omega)) ?_ rfl rfl; refine R_p rfl ?_ rfl rfl; refine R_p rfl ?_ rfl rfl; refine R_nil ?_)
    exact hB _ _ _ _ _ rfl rfl fun w' hS => ⟨(), rfl, trivial, hS.sublist (List.nil_sublist _)⟩
set_option maxRecDepth 100000 in
set_option maxHeartbeats 4000000 in
theorem isNaNi_any (w : World) (a : Int) :
    Gives Try.prog 69 [.int .i64 a] [] w (X := Unit) (fun _ => .bool false) (fun _ => True) (fun _ => []) := by
  refine gives_S Try.func69 rfl Try.ntmps69 Try.results69 (by simp) (St.enter w) (fun B hB => ?_)
  focus (refine S_seq rfl ?_; refine S_region rfl rfl ?_; refine R_p rfl ?_ rfl rfl; refine R_nil ?_; refine S_seq rfl ?_; refine S_region rfl rfl ?_; refine R_p rfl ?_ rfl rfl; refine R_p rfl ?_ rfl rfl; refine R_take (T_decF rfl (by omega)) ?_ rfl rfl; refine R_p rfl ?_ rfl rfl; refine R_nil ?_)
  exact hB _ _ _ _ _ rfl rfl fun w' hS => ⟨(), rfl, trivial, hS.sublist (List.nil_sublist _)⟩
set_option maxRecDepth 100000 in
set_option maxHeartbeats 4000000 in
theorem compareI_any (w : World) (a b : Int) :
    Gives Try.prog 61 [.int .i64 a, .int .i64 b] [] w (X := Unit) (fun _ => .int .i64 (cmpI a b)) (fun _ => True) (fun _ => []) := by
  refine gives_S Try.func61 rfl Try.ntmps61 Try.results61 (by simp) (St.enter w) (fun B hB => ?_)
  by_cases h1 : a < b
  · rw [cmpI, if_pos h1] at hB
    focus (refine S_seq rfl ?_; refine S_region rfl rfl ?_; refine R_p rfl ?_ rfl rfl; refine R_nil ?_; refine S_seq rfl ?_; refine S_region rfl rfl ?_; refine R_p rfl ?_ rfl rfl; (refine R_eff (E_hv0 (f := 69) ⟨_, Try.func69, rfl, by kernel_rfl⟩ (fun w hS => isNaNi_any w a) rfl rfl (fun _ => rfl)) ?_ rfl rfl; rintro _ _ ⟨_, rfl, _, rfl⟩); refine R_p rfl ?_ rfl rfl; refine R_nil ?_; refine S_seq rfl ?_; refine S_region rfl rfl ?_; refine R_p rfl ?_ rfl rfl; (refine R_eff (E_hv0 (f := 69) ⟨_, Try.func69, rfl, by kernel_rfl⟩ (fun w hS => isNaNi_any w b) rfl rfl (fun _ => rfl)) ?_ rfl rfl; rintro _ _ ⟨_, rfl, _, rfl⟩); refine R_p rfl ?_ rfl rfl; refine R_nil ?_; refine S_seq rfl ?_; refine S_seq rfl ?_; refine S_region rfl rfl ?_; refine R_p rfl ?_ rfl rfl; refine R_nil ?_; refine S_false rfl rfl ?_; refine S_skip rfl ?_; refine S_seq rfl ?_; refine S_seq rfl ?_; refine S_region rfl rfl ?_; refine R_p rfl ?_ rfl rfl; refine R_nil ?_; refine S_false rfl rfl ?_; refine S_skip rfl ?_; refine S_seq rfl ?_; refine S_seq rfl ?_; refine S_region rfl rfl ?_; refine R_p rfl ?_ rfl rfl; refine R_p rfl ?_ rfl rfl; refine R_take (T_decT rfl (by omega)) ?_ rfl rfl; refine R_nil ?_; refine S_true rfl rfl ?_; refine S_seq rfl ?_; refine S_region rfl rfl ?_; refine R_p rfl ?_ rfl rfl; refine R_nil ?_)
    exact hB _ _ _ _ _ rfl rfl fun w' hS => ⟨(), rfl, trivial, hS.sublist (List.nil_sublist _)⟩
  · by_cases h2 : b < a
    · rw [cmpI, if_neg h1, if_pos h2] at hB
      focus (refine S_seq rfl ?_; refine S_region rfl rfl ?_; refine R_p rfl ?_ rfl rfl; refine R_nil ?_; refine S_seq rfl ?_; refine S_region rfl rfl ?_; refine R_p rfl ?_ rfl rfl; (refine R_eff (E_hv0 (f := 69) ⟨_, Try.func69, rfl, by kernel_rfl⟩ (fun w hS => isNaNi_any w a) rfl rfl (fun _ => rfl)) ?_ rfl rfl; rintro _ _ ⟨_, rfl, _, rfl⟩); refine R_p rfl ?_ rfl rfl; refine R_nil ?_; refine S_seq rfl ?_; refine S_region rfl rfl ?_; refine R_p rfl ?_ rfl rfl; (refine R_eff (E_hv0 (f := 69) ⟨_, Try.func69, rfl, by kernel_rfl⟩ (fun w hS => isNaNi_any w b) rfl rfl (fun _ => rfl)) ?_ rfl rfl; rintro _ _ ⟨_, rfl, _, rfl⟩); refine R_p rfl ?_ rfl rfl; refine R_nil ?_; refine S_seq rfl ?_; refine S_seq rfl ?_; refine S_region rfl rfl ?_; refine R_p rfl ?_ rfl rfl; refine R_nil ?_; refine S_false rfl rfl ?_; refine S_skip rfl ?_; refine S_seq rfl ?_; refine S_seq rfl ?_; refine S_region rfl rfl ?_; refine R_p rfl ?_ rfl rfl; refine R_nil ?_; refine S_false rfl rfl ?_; refine S_skip rfl ?_; refine S_seq rfl ?_; refine S_seq rfl ?_; refine S_region rfl rfl ?_; refine R_p rfl ?_ rfl rfl; refine R_p rfl ?_ rfl rfl; refine R_take (T_decF rfl (by omega)) ?_ rfl rfl; refine R_nil ?_; refine S_false rfl rfl ?_; refine S_skip rfl ?_; refine S_seq rfl ?_; refine S_seq rfl ?_; refine S_region rfl rfl ?_; refine R_p rfl ?_ rfl rfl; refine R_p rfl ?_ rfl rfl; refine R_take (T_decT rfl (by omega)) ?_ rfl rfl; refine R_nil ?_; refine S_true rfl rfl ?_; refine S_seq rfl ?_; refine S_region rfl rfl ?_; refine R_p rfl ?_ rfl rfl; refine R_nil ?_)
      exact hB _ _ _ _ _ rfl rfl fun w' hS => ⟨(), rfl, trivial, hS.sublist (List.nil_sublist _)⟩
    · rw [cmpI, if_neg h1, if_neg h2] at hB
      focus (refine S_seq rfl ?_; refine S_region rfl rfl ?_; refine R_p rfl ?_ rfl rfl; refine R_nil ?_; refine S_seq rfl ?_; refine S_region rfl rfl ?_; refine R_p rfl ?_ rfl rfl; (refine R_eff (E_hv0 (f := 69) ⟨_, Try.func69, rfl, by kernel_rfl⟩ (fun w hS => isNaNi_any w a) rfl rfl (fun _ => rfl)) ?_ rfl rfl; rintro _ _ ⟨_, rfl, _, rfl⟩); refine R_p rfl ?_ rfl rfl; refine R_nil ?_; refine S_seq rfl ?_; refine S_region rfl rfl ?_; refine R_p rfl ?_ rfl rfl; (refine R_eff (E_hv0 (f := 69) ⟨_, Try.func69, rfl, by kernel_rfl⟩ (fun w hS => isNaNi_any w b) rfl rfl (fun _ => rfl)) ?_ rfl rfl; rintro _ _ ⟨_, rfl, _, rfl⟩); refine R_p rfl ?_ rfl rfl; refine R_nil ?_; refine S_seq rfl ?_; refine S_seq rfl ?_; refine S_region rfl rfl ?_; refine R_p rfl ?_ rfl rfl; refine R_nil ?_; refine S_false rfl rfl ?_; refine S_skip rfl ?_; refine S_seq rfl ?_; refine S_seq rfl ?_; refine S_region rfl rfl ?_; refine R_p rfl ?_ rfl rfl; refine R_nil ?_; refine S_false rfl rfl ?_; refine S_skip rfl ?_; refine S_seq rfl ?_; refine S_seq rfl ?_; refine S_region rfl rfl ?_; refine R_p rfl ?_ rfl rfl; refine R_p rfl ?_ rfl rfl; refine R_take (T_decF rfl (by omega)) ?_ rfl rfl; refine R_nil ?_; refine S_false rfl rfl ?_; refine S_skip rfl ?_; refine S_seq rfl ?_; refine S_seq rfl ?_; refine S_region rfl rfl ?_; refine R_p rfl ?_ rfl rfl; refine R_p rfl ?_ rfl rfl; refine R_take (T_decF rfl (by omega)) ?_ rfl rfl; refine R_nil ?_; refine S_false rfl rfl ?_; refine S_skip rfl ?_; refine S_seq rfl ?_; refine S_region rfl rfl ?_; refine R_p rfl ?_ rfl rfl; refine R_nil ?_)
      exact hB _ _ _ _ _ rfl rfl fun w' hS => ⟨(), rfl, trivial, hS.sublist (List.nil_sublist _)⟩
set_option maxRecDepth 100000 in
set_option maxHeartbeats 4000000 in
theorem orI_any (w : World) (A : Option Addr) (c : Nat) (zs : List Int) (h : Rd w All 1 A zs.length (zs.map (Value.int .i64))) (hn : zs.length ≤ 1000) :
    Gives Try.prog 60 [.slice A zs.length c] [] w (X := Unit) (fun _ => .int .i64 (orI zs)) (fun _ => True) (fun _ => []) := by
  refine gives_S Try.func60 rfl Try.ntmps60 Try.results60 (by simp) (St.enter w) (fun B hB => ?_)
  have hne : 0 < zs.length → A ≠ none := fun h0 => by obtain ⟨ad, rfl, _⟩ := h.2 (by omega); simp
  focus (refine S_seq rfl ?_; refine S_region rfl rfl ?_; refine R_p rfl ?_ rfl rfl; refine R_nil ?_; refine S_seq rfl ?_; refine S_region rfl rfl ?_; refine R_p rfl ?_ rfl rfl; refine R_nil ?_; refine S_seq rfl ?_; refine S_seq rfl ?_; refine S_region rfl rfl ?_; refine R_p rfl ?_ rfl rfl; refine R_p rfl ?_ rfl rfl; refine R_p rfl ?_ rfl rfl; refine R_nil ?_; refine S_block rfl ?_)
  refine S_loop (X := Nat) (fun j => [(0, .slice A zs.length c), (3, .int .i64 0), (6, .slice A zs.length c), (7, .int .i64 (zs.length : Int)), (8, .int .i64 (j : Int))]) (fun _ => []) (fun j => j ≤ zs.length ∧ ∀ i, i < j → zs.getD i 0 = 0) (fun j => zs.length - j) rfl 0 ⟨Nat.zero_le _, fun i hi => absurd hi (Nat.not_lt_zero _)⟩ (Sub.cons rfl (Sub.cons rfl (Sub.cons rfl (Sub.cons rfl (Sub.cons rfl Sub.nil))))) (fun _ h => h) ?_
  rintro j ⟨hj, hno⟩ J hJ
  rcases Nat.lt_or_ge j zs.length with hjl | hjl
  · have hne := hne (by omega)
    have hat : (zs.map (Value.int .i64))[j]? = some (.int .i64 (zs.getD j 0)) := by simp [List.getD, hjl]
    by_cases hz : zs.getD j 0 = 0
    · focus (refine S_seq rfl ?_; refine S_region rfl rfl ?_; refine R_take (T_decT rfl (by omega)) ?_ rfl rfl; refine R_nil ?_; refine S_seq rfl ?_; refine S_true rfl rfl ?_; refine S_skip rfl ?_; refine S_seq rfl ?_; refine S_block rfl ?_; refine S_seq rfl ?_; refine S_region rfl rfl ?_; refine R_take (T_ixN rfl rfl rfl rfl rfl rfl hne hjl) ?_ rfl rfl; refine R_take (T_ldr rfl rfl rfl (Srd.old h (fun k _ => noOwns k)) (by omega) hat) ?_ rfl rfl; refine R_p rfl ?_ rfl rfl; refine R_nil ?_; refine S_seq rfl ?_; refine S_region rfl rfl ?_; refine R_p rfl ?_ rfl rfl; refine R_p rfl ?_ rfl rfl; refine R_take (T_decF rfl (by omega)) ?_ rfl rfl; refine R_nil ?_; refine S_false rfl rfl ?_; refine S_skip rfl ?_; refine RS_blk ?_; refine S_region rfl rfl ?_; refine R_take (T_addN rfl rfl (by unfold fits; omega)) ?_ rfl rfl; refine R_p rfl ?_ rfl rfl; refine R_nil ?_)
      refine hJ (j + 1) _ _ ⟨by omega, fun i hi => ?_⟩ (Sub.cons rfl (Sub.cons rfl (Sub.cons rfl (Sub.cons rfl (Sub.cons rfl Sub.nil))))) (fun _ h => h) (by omega)
      rcases Nat.lt_or_ge i j with h3 | h3
      · exact hno i h3
      · rw [show i = j by omega]; exact hz
    · have e : orI zs = zs.getD j 0 := by
        unfold orI
        rw [List.find?_eq_some_iff_getElem.2 ⟨by simpa using hz, j, hjl, by simp [List.getD, hjl], fun i hi => ?_⟩]
        · rfl
        · have := hno i hi
          simpa [List.getD, show i < zs.length by omega] using this
      rw [e] at hB
      focus (refine S_seq rfl ?_; refine S_region rfl rfl ?_; refine R_take (T_decT rfl (by omega)) ?_ rfl rfl; refine R_nil ?_; refine S_seq rfl ?_; refine S_true rfl rfl ?_; refine S_skip rfl ?_; refine S_seq rfl ?_; refine S_block rfl ?_; refine S_seq rfl ?_; refine S_region rfl rfl ?_; refine R_take (T_ixN rfl rfl rfl rfl rfl rfl hne hjl) ?_ rfl rfl; refine R_take (T_ldr rfl rfl rfl (Srd.old h (fun k _ => noOwns k)) (by omega) hat) ?_ rfl rfl; refine R_p rfl ?_ rfl rfl; refine R_nil ?_; refine S_seq rfl ?_; refine S_region rfl rfl ?_; refine R_p rfl ?_ rfl rfl; refine R_p rfl ?_ rfl rfl; refine R_take (T_decT rfl (by omega)) ?_ rfl rfl; refine R_nil ?_; refine S_true rfl rfl ?_; refine S_seq rfl ?_; refine S_region rfl rfl ?_; refine R_p rfl ?_ rfl rfl; refine R_p rfl ?_ rfl rfl; refine R_nil ?_)
      exact hB _ _ _ _ _ rfl rfl fun w' hS => ⟨(), rfl, trivial, hS.sublist (List.nil_sublist _)⟩
  · have e : orI zs = 0 := by
      unfold orI
      rw [List.find?_eq_none.2 fun z hz => ?_]
      · rfl
      · obtain ⟨i, hi, rfl⟩ := List.getElem_of_mem hz
        have := hno i (by omega)
        simpa [List.getD, hi] using this
    rw [e] at hB
    focus (refine S_seq rfl ?_; refine S_region rfl rfl ?_; refine R_take (T_decF rfl (by omega)) ?_ rfl rfl; refine R_nil ?_; refine S_seq rfl ?_; refine S_false rfl rfl ?_; refine S_exit rfl rfl ?_; refine S_seq rfl ?_; refine S_region rfl rfl ?_; refine R_p rfl ?_ rfl rfl; refine R_p rfl ?_ rfl rfl; refine R_nil ?_)
    exact hB _ _ _ _ _ rfl rfl fun w' hS => ⟨(), rfl, trivial, hS.sublist (List.nil_sublist _)⟩
set_option maxRecDepth 100000 in
set_option maxHeartbeats 4000000 in
theorem order_any (w : World) (x y : Ct) :
    Gives Try.prog 53 [.agg (ctc x).toArray, .agg (ctc y).toArray] [] w (X := Unit) (fun _ => .int .i64 (ordI x y)) (fun _ => True) (fun _ => []) := by
  refine gives_S Try.func53 rfl Try.ntmps53 Try.results53 (by simp) (St.enter w) (fun B hB => ?_)
  focus (refine S_seq rfl ?_; refine S_region rfl rfl ?_; (refine R_eff (E_boxa (cs := ctc x) rfl) ?_ rfl rfl; rintro _ _ ⟨b2, rfl, rfl⟩); (refine R_eff (E_boxa (cs := ctc y) rfl) ?_ rfl rfl; rintro _ _ ⟨b3, rfl, rfl⟩); refine R_p rfl ?_ rfl rfl; refine R_nil ?_; refine S_seq rfl ?_)
  refine S_draw ([pt b2 73 (ctc x), pt b3 73 (ctc y)]) sub_st (by kernel_rfl) rfl (by kernel_rfl) (by kernel_rfl : _ = 13) ?_
  refine D_take 0 rfl (pev_ok rfl) ?_ rfl rfl (by kernel_rfl) (by kernel_rfl)
  refine D_take 1 rfl (T_load rfl rfl rfl rfl) ?_ rfl rfl (by kernel_rfl) (by kernel_rfl)
  refine D_take 2 rfl (pev_ok rfl) ?_ rfl rfl (by kernel_rfl) (by kernel_rfl)
  refine D_take 3 rfl (T_load rfl rfl rfl rfl) ?_ rfl rfl (by kernel_rfl) (by kernel_rfl)
  refine D_take 5 rfl (pev_ok rfl) ?_ rfl rfl (by kernel_rfl) (by kernel_rfl)
  refine D_take 6 rfl (T_load rfl rfl rfl rfl) ?_ rfl rfl (by kernel_rfl) (by kernel_rfl)
  refine D_take 7 rfl (pev_ok rfl) ?_ rfl rfl (by kernel_rfl) (by kernel_rfl)
  refine D_take 8 rfl (T_load rfl rfl rfl rfl) ?_ rfl rfl (by kernel_rfl) (by kernel_rfl)
  refine D_one 4 rfl (E_hv0 (f := 61) ⟨_, Try.func61, rfl, by kernel_rfl⟩ (fun w hS => compareI_any w x.1 y.1) rfl rfl (fun _ => rfl)) ?_ rfl rfl (by kernel_rfl)
  rintro _ _ ⟨_, rfl, _, rfl⟩
  refine Nx_same sub_st ?_
  refine D_one 9 rfl (E_hv0 (f := 61) ⟨_, Try.func61, rfl, by kernel_rfl⟩ (fun w hS => compareI_any w x.2 y.2) rfl rfl (fun _ => rfl)) ?_ rfl rfl (by kernel_rfl)
  rintro _ _ ⟨_, rfl, _, rfl⟩
  refine Nx_same sub_st ?_
  refine D_one 10 rfl (E_lit1 (m := 2) (vs := [.int .i64 (cmpI x.1 y.1), .int .i64 (cmpI x.2 y.2)]) rfl rfl rfl rfl rfl rfl rfl (by simp [Value.oneCell']) (by decide)) ?_ rfl rfl (by kernel_rfl)
  rintro _ _ ⟨bl, rfl, rfl⟩
  refine Nx_same sub_st ?_
  refine D_one 11 rfl (E_hv0 (f := 60) ⟨_, Try.func60, rfl, by kernel_rfl⟩ (fun w hS => orI_any w (some ⟨bl, 0, none⟩) 2 [cmpI x.1 y.1, cmpI x.2 y.2] ((Srd.pt (n := 2) (g := bl) (ds := [.int .i64 (cmpI x.1 y.1), .int .i64 (cmpI x.2 y.2)]) rfl (fun j u hj => by rw [Nat.zero_add]; exact hj)).rd w hS) (by simp)) rfl rfl (fun _ => rfl)) ?_ rfl rfl (by kernel_rfl)
  rintro _ _ ⟨_, rfl, _, rfl⟩
  refine Nx_same sub_st ?_
  refine D_take 12 rfl (pev_ok rfl) ?_ rfl rfl (by kernel_rfl) (by kernel_rfl)
  refine D_done ?_ (by kernel_rfl)
  skip
  skip
  exact hB _ _ _ _ _ rfl rfl fun w' hS => ⟨(), rfl, trivial, hS.sublist (List.nil_sublist _)⟩
theorem ordI_eq (x y : Ct) : ordI x y = if x.1 < y.1 then -1 else if y.1 < x.1 then 1 else if x.2 < y.2 then -1 else if y.2 < x.2 then 1 else 0 := by
  unfold ordI orI cmpI
  by_cases h1 : x.1 < y.1
  · rw [if_pos h1, if_pos h1]; rfl
  · by_cases h2 : y.1 < x.1
    · rw [if_neg h1, if_neg h1, if_pos h2, if_pos h2]; rfl
    · rw [if_neg h1, if_neg h1, if_neg h2, if_neg h2]
      by_cases h3 : x.2 < y.2
      · rw [if_pos h3]; rfl
      · by_cases h4 : y.2 < x.2
        · rw [if_neg h3, if_pos h4]; rfl
        · rw [if_neg h3, if_neg h4]; rfl
end Go.Proofs.Ytclmaoagdkhboaa
