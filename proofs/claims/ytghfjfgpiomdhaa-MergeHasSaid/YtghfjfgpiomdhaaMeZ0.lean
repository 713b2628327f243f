/- Merges: sides, conflicts; the iterator over all paths. Merges: what is settled; the iterator. Merges: all, conflicts. Merges: ready, Conflicts, a side, rows compared. Merges: rows compared; Take. Merges: Take. Merges: Merge. Merges: Rebase. -/
import Derived.Test.YtghfjfgpiomdhaaPmS
import Derived.Test.YtghfjfgpiomdhaaPmK
import Derived.Test.YtghfjfgpiomdhaaRkH
import Derived.Test.YtghfjfgpiomdhaaPmM
namespace Go.Proofs.Ytghfjfgpiomdhaa
open Go.RowKit
open Asn (pt row rb)
set_option linter.unusedVariables false
set_option linter.unusedSimpArgs false
--@use N

abbrev Sd := Bool × Str
abbrev Cn := Str × Sd × Sd × Sd
def sdc (s : Sd) : List Value := [.bool s.1, sv s.2]
def cnc (c : Cn) : List Value := [sv c.1, .bool c.2.1.1, sv c.2.1.2, .bool c.2.2.1.1, sv c.2.2.1.2, .bool c.2.2.2.1, sv c.2.2.2.2]
theorem sdc_len (s : Sd) : (sdc s).length = 2 := rfl
theorem cnc_len (c : Cn) : (cnc c).length = 7 := rfl
theorem sdc_one (s : Sd) : ∀ u ∈ sdc s, u.oneCell' = true := by simp [sdc, sv, Value.oneCell']
theorem cnc_one (c : Cn) : ∀ u ∈ cnc c, u.oneCell' = true := by simp [cnc, sv, Value.oneCell']
theorem sd_zero : ti50.zero = .agg (sdc default).toArray := by kernel_rfl
theorem cn_zero : ti52.zero = .agg (cnc default).toArray := by kernel_rfl
theorem sd_built0 : Try.prog.built 50 [] = some (sdc default).toArray := by kernel_rfl
theorem sd_built2 (b : Bool) (s : Str) : Try.prog.built 50 [(0, .bool b), (1, sv s)] = some (sdc (b, s)).toArray := by kernel_rfl
theorem cn_built4 (p : Str) (a b c : Sd) : Try.prog.built 52 [(0, sv p), (1, .agg (sdc a).toArray), (2, .agg (sdc b).toArray), (3, .agg (sdc c).toArray)] = some (cnc (p, a, b, c)).toArray := by kernel_rfl
theorem th_built3 (A A2 A3 : Option Addr) (n c n2 c2 n3 c3 : Nat) : Try.prog.built 76 [(0, .agg #[.slice A n c]), (1, .agg #[.slice A2 n2 c2]), (2, .agg #[.slice A3 n3 c3])] = some [Value.slice A n c, Value.slice A2 n2 c2, Value.slice A3 n3 c3].toArray := by kernel_rfl
theorem th_zero : ti76.zero = .agg [Value.slice none 0 0, Value.slice none 0 0, Value.slice none 0 0].toArray := by kernel_rfl
section
variable {P : Program} {n : Nat} {w0 : World} {M : Nat → Prop} {T : Slots} {H : List Asn} {dd : Option Tmp} {tt : TypeId} {pos : String} {af : Array Edge} {g : Option (Nat × Bool)} {x y z z4 : Operand}
theorem T_build4 {s : TypeId} {j k l m : Nat} {u v v3 v4 : Value} {cs : List Value} (hx : oget T x = some u) (hy : oget T y = some v) (hz : oget T z = some v3) (h4 : oget T z4 = some v4) (hb : P.built s [(j, u), (k, v), (l, v3), (m, v4)] = some cs.toArray) :
    Tk P n w0 M T H ⟨dd, .build s #[(j, x), (k, y), (l, z), (m, z4)], tt, pos, af, g⟩ (.agg cs.toArray) := .mk fun a w ha hS => by
  have hr := run_build (P := P) w s #[(j, u), (k, v), (l, v3), (m, v4)] cs.toArray (by simpa using hb)
  simp only [execOp, List.map_toArray, List.map_cons, List.map_nil, ha.eval hx, ha.eval hy, ha.eval hz, ha.eval h4, Sem.run_bind, hr, Result.andThen_ok, Sem.run_pure]
theorem T_eqSd {u : TypeId} {a b : Sd} {r : Bool} (hx : oget T x = some (.agg (sdc a).toArray)) (hy : oget T y = some (.agg (sdc b).toArray)) (hr : decide (a = b) = r) :
    Tk Try.prog n w0 M T H ⟨dd, .binOp .eql 50 x y u, tt, pos, af, g⟩ (.bool (r)) := by
  refine T_eqS (r := r) hx hy (s := 50) (i := ti50) rfl rfl (by kernel_rfl) (by kernel_rfl) rfl ?_
  subst hr
  obtain ⟨a1, a2⟩ := a
  obtain ⟨b1, b2⟩ := b
  show ((a1 == b1) && (eqVal (sv a2) (sv b2) && true)) = _
  rw [eqv_sv, Bool.and_true, Bool.eq_iff_iff]
  simp
theorem T_neSd {u : TypeId} {a b : Sd} {r : Bool} (hx : oget T x = some (.agg (sdc a).toArray)) (hy : oget T y = some (.agg (sdc b).toArray)) (hr : decide (a = b) = r) :
    Tk Try.prog n w0 M T H ⟨dd, .binOp .neq 50 x y u, tt, pos, af, g⟩ (.bool (!r)) := by
  refine T_neS (r := r) hx hy (s := 50) (i := ti50) rfl rfl (by kernel_rfl) (by kernel_rfl) rfl ?_
  subst hr
  obtain ⟨a1, a2⟩ := a
  obtain ⟨b1, b2⟩ := b
  show ((a1 == b1) && (eqVal (sv a2) (sv b2) && true)) = _
  rw [eqv_sv, Bool.and_true, Bool.eq_iff_iff]
  simp
end
/-- what a map has at a path -/
def sideOf (L : List Rw) (p : Str) : Sd := ((fstK (·.1) L p).isSome, gt (fstK (·.1) L p))
set_option maxRecDepth 100000 in
set_option maxHeartbeats 4000000 in
theorem has_any (w : World) (A : Option Addr) (n c : Nat) (L : List Rw) (p : Str) (h : Rd w All 2 A n (cellsL rwc L)) (hn : n ≤ 100000) :
    Gives Try.prog 74 [.agg #[.slice A n c], sv p] [] w (X := Unit) (fun _ => .agg (sdc (sideOf L p)).toArray) (fun _ => True) (fun _ => []) := by
  refine gives_C Try.func74 rfl Try.ntmps74 Try.results74 (by simp) (St.enter w) (fun B hB => ?_)
  obtain ⟨o, ho⟩ : ∃ o, fstK (·.1) L p = o := ⟨_, rfl⟩
  have hs : sideOf L p = (o.isSome, gt o) := by rw [sideOf, ho]
  rw [hs] at hB
  focus (refine S_seq rfl ?_; refine S_region rfl rfl ?_; (refine R_eff (E_boxa (cs := [.slice A n c]) rfl) ?_ rfl rfl; rintro _ _ ⟨b2, rfl, rfl⟩); (refine R_eff (E_alloca rfl sd_zero) ?_ rfl rfl; rintro _ _ ⟨b4, rfl, rfl⟩); refine R_nil ?_; refine S_seq rfl ?_; refine S_region rfl rfl ?_; refine R_take (T_loada (ds := [.slice A n c]) rfl rfl rfl rfl (fun j v h => by simpa using h)) ?_ rfl rfl; refine R_p rfl ?_ rfl rfl; (refine R_eff (E_getW (L := L) (p := p) (m := n) (c := c) (A := A) rfl rfl (Srd.old h (fun k _ => noOwns k)) hn ho) ?_ rfl rfl; rintro _ _ ⟨rfl, rfl⟩); refine R_p rfl ?_ rfl rfl; refine R_p rfl ?_ rfl rfl; refine R_p rfl ?_ rfl rfl; refine R_p rfl ?_ rfl rfl; refine R_p rfl ?_ rfl rfl; refine R_nil ?_; refine S_seq rfl ?_; refine S_region rfl rfl ?_; refine R_p rfl ?_ rfl rfl; refine R_p rfl ?_ rfl rfl; refine R_take (T_build2 rfl rfl (sd_built2 _ _)) ?_ rfl rfl; (refine R_eff0 (E_storew (cs := sdc default) (ds := sdc (o.isSome, gt o)) rfl rfl rfl rfl (sdc_one _) rfl) ?_ rfl; rintro _ _ rfl); refine R_nil ?_)
  refine hB _ _ _ _ _ rfl (.cell rfl rfl rfl inferInstance rfl .nil) fun w' hS => ⟨(), rfl, trivial, hS.sublist (List.nil_sublist _)⟩
end Go.Proofs.Ytghfjfgpiomdhaa

namespace Go.Proofs.Ytghfjfgpiomdhaa
open Go.RowKit
open Asn (pt row rb)
set_option linter.unusedVariables false
set_option linter.unusedSimpArgs false
--@use N

/-- a conflict's settlement -/
def settle_ (c : Cn) : Sd × Bool := if c.2.2.1 = c.2.2.2 ∨ c.2.1 = c.2.2.2 then (c.2.2.1, true) else if c.2.1 = c.2.2.1 then (c.2.2.2, true) else (default, false)
set_option maxRecDepth 100000 in
set_option maxHeartbeats 4000000 in
theorem settled_any (w : World) (c : Cn) :
    Gives Try.prog 43 [.agg (cnc c).toArray] [] w (X := Unit) (fun _ => .tuple #[.agg (sdc (settle_ c).1).toArray, .bool (settle_ c).2]) (fun _ => True) (fun _ => []) := by
  refine gives_C Try.func43 rfl Try.ntmps43 Try.results43 (by simp) (St.enter w) (fun B hB => ?_)
  obtain ⟨p, b, o, t⟩ := c
  obtain ⟨r1, h1⟩ : ∃ r, decide (o = t) = r := ⟨_, rfl⟩
  obtain ⟨r2, h2⟩ : ∃ r, decide (b = t) = r := ⟨_, rfl⟩
  obtain ⟨r3, h3⟩ : ∃ r, decide (b = o) = r := ⟨_, rfl⟩
  have hst : settle_ (p, b, o, t) = if r1 || r2 then (o, true) else if r3 then (t, true) else (default, false) := by
    subst h1 h2 h3
    simp [settle_]
  cases r1
  · cases r2
    · cases r3
      · rw [show settle_ (p, b, o, t) = (default, false) from hst] at hB
        focus (refine S_seq rfl ?_; refine S_region rfl rfl ?_; (refine R_eff (E_boxa (cs := cnc (p, b, o, t)) rfl) ?_ rfl rfl; rintro _ _ ⟨b1, rfl, rfl⟩); (refine R_eff (E_alloca rfl sd_zero) ?_ rfl rfl; rintro _ _ ⟨b2, rfl, rfl⟩); refine R_p rfl ?_ rfl rfl; refine R_nil ?_; refine S_seq rfl ?_; refine S_block rfl ?_; refine S_seq rfl ?_; refine S_seq rfl ?_; refine S_region rfl rfl ?_; refine R_p rfl ?_ rfl rfl; refine R_take (T_loads (ds := sdc o) rfl rfl rfl rfl rfl) ?_ rfl rfl; refine R_p rfl ?_ rfl rfl; refine R_take (T_loads (ds := sdc t) rfl rfl rfl rfl rfl) ?_ rfl rfl; refine R_take (T_eqSd (a := o) (b := t) rfl rfl h1) ?_ rfl rfl; refine R_p rfl ?_ rfl rfl; refine R_nil ?_; refine S_false rfl rfl ?_; refine S_region rfl rfl ?_; refine R_p rfl ?_ rfl rfl; refine R_take (T_loads (ds := sdc b) rfl rfl rfl rfl rfl) ?_ rfl rfl; refine R_p rfl ?_ rfl rfl; refine R_take (T_loads (ds := sdc t) rfl rfl rfl rfl rfl) ?_ rfl rfl; refine R_take (T_eqSd (a := b) (b := t) rfl rfl h2) ?_ rfl rfl; refine R_p rfl ?_ rfl rfl; refine R_nil ?_; refine S_false rfl rfl ?_; refine S_seq rfl ?_; refine S_region rfl rfl ?_; refine R_p rfl ?_ rfl rfl; refine R_take (T_loads (ds := sdc b) rfl rfl rfl rfl rfl) ?_ rfl rfl; refine R_p rfl ?_ rfl rfl; refine R_take (T_loads (ds := sdc o) rfl rfl rfl rfl rfl) ?_ rfl rfl; refine R_take (T_eqSd (a := b) (b := o) rfl rfl h3) ?_ rfl rfl; refine R_p rfl ?_ rfl rfl; refine R_nil ?_; refine S_false rfl rfl ?_; refine S_skip rfl ?_; refine RS_blk ?_; refine S_seq rfl ?_; refine S_region rfl rfl ?_; refine R_take (T_build0 sd_built0) ?_ rfl rfl; (refine R_eff0 (E_storew (cs := sdc default) (ds := sdc default) rfl rfl rfl rfl (sdc_one _) rfl) ?_ rfl; rintro _ _ rfl); refine R_p rfl ?_ rfl rfl; refine R_nil ?_)
        refine hB _ _ _ _ _ rfl (.cell rfl rfl rfl inferInstance rfl (.tmp rfl .nil)) fun w' hS => ⟨(), rfl, trivial, hS.sublist (List.nil_sublist _)⟩
      · rw [show settle_ (p, b, o, t) = (t, true) from hst] at hB
        focus (refine S_seq rfl ?_; refine S_region rfl rfl ?_; (refine R_eff (E_boxa (cs := cnc (p, b, o, t)) rfl) ?_ rfl rfl; rintro _ _ ⟨b1, rfl, rfl⟩); (refine R_eff (E_alloca rfl sd_zero) ?_ rfl rfl; rintro _ _ ⟨b2, rfl, rfl⟩); refine R_p rfl ?_ rfl rfl; refine R_nil ?_; refine S_seq rfl ?_; refine S_block rfl ?_; refine S_seq rfl ?_; refine S_seq rfl ?_; refine S_region rfl rfl ?_; refine R_p rfl ?_ rfl rfl; refine R_take (T_loads (ds := sdc o) rfl rfl rfl rfl rfl) ?_ rfl rfl; refine R_p rfl ?_ rfl rfl; refine R_take (T_loads (ds := sdc t) rfl rfl rfl rfl rfl) ?_ rfl rfl; refine R_take (T_eqSd (a := o) (b := t) rfl rfl h1) ?_ rfl rfl; refine R_p rfl ?_ rfl rfl; refine R_nil ?_; refine S_false rfl rfl ?_; refine S_region rfl rfl ?_; refine R_p rfl ?_ rfl rfl; refine R_take (T_loads (ds := sdc b) rfl rfl rfl rfl rfl) ?_ rfl rfl; refine R_p rfl ?_ rfl rfl; refine R_take (T_loads (ds := sdc t) rfl rfl rfl rfl rfl) ?_ rfl rfl; refine R_take (T_eqSd (a := b) (b := t) rfl rfl h2) ?_ rfl rfl; refine R_p rfl ?_ rfl rfl; refine R_nil ?_; refine S_false rfl rfl ?_; refine S_seq rfl ?_; refine S_region rfl rfl ?_; refine R_p rfl ?_ rfl rfl; refine R_take (T_loads (ds := sdc b) rfl rfl rfl rfl rfl) ?_ rfl rfl; refine R_p rfl ?_ rfl rfl; refine R_take (T_loads (ds := sdc o) rfl rfl rfl rfl rfl) ?_ rfl rfl; refine R_take (T_eqSd (a := b) (b := o) rfl rfl h3) ?_ rfl rfl; refine R_p rfl ?_ rfl rfl; refine R_nil ?_; refine S_true rfl rfl ?_; refine S_seq rfl ?_; refine S_region rfl rfl ?_; refine R_p rfl ?_ rfl rfl; refine R_take (T_loads (ds := sdc t) rfl rfl rfl rfl rfl) ?_ rfl rfl; (refine R_eff0 (E_storew (cs := sdc default) (ds := sdc t) rfl rfl rfl rfl (sdc_one _) rfl) ?_ rfl; rintro _ _ rfl); refine R_p rfl ?_ rfl rfl; refine R_nil ?_)
        refine hB _ _ _ _ _ rfl (.cell rfl rfl rfl inferInstance rfl (.tmp rfl .nil)) fun w' hS => ⟨(), rfl, trivial, hS.sublist (List.nil_sublist _)⟩
    · rw [show settle_ (p, b, o, t) = (o, true) from hst] at hB
      focus (refine S_seq rfl ?_; refine S_region rfl rfl ?_; (refine R_eff (E_boxa (cs := cnc (p, b, o, t)) rfl) ?_ rfl rfl; rintro _ _ ⟨b1, rfl, rfl⟩); (refine R_eff (E_alloca rfl sd_zero) ?_ rfl rfl; rintro _ _ ⟨b2, rfl, rfl⟩); refine R_p rfl ?_ rfl rfl; refine R_nil ?_; refine S_seq rfl ?_; refine S_block rfl ?_; refine S_seq rfl ?_; refine S_seq rfl ?_; refine S_region rfl rfl ?_; refine R_p rfl ?_ rfl rfl; refine R_take (T_loads (ds := sdc o) rfl rfl rfl rfl rfl) ?_ rfl rfl; refine R_p rfl ?_ rfl rfl; refine R_take (T_loads (ds := sdc t) rfl rfl rfl rfl rfl) ?_ rfl rfl; refine R_take (T_eqSd (a := o) (b := t) rfl rfl h1) ?_ rfl rfl; refine R_p rfl ?_ rfl rfl; refine R_nil ?_; refine S_false rfl rfl ?_; refine S_region rfl rfl ?_; refine R_p rfl ?_ rfl rfl; refine R_take (T_loads (ds := sdc b) rfl rfl rfl rfl rfl) ?_ rfl rfl; refine R_p rfl ?_ rfl rfl; refine R_take (T_loads (ds := sdc t) rfl rfl rfl rfl rfl) ?_ rfl rfl; refine R_take (T_eqSd (a := b) (b := t) rfl rfl h2) ?_ rfl rfl; refine R_p rfl ?_ rfl rfl; refine R_nil ?_; refine S_true rfl rfl ?_; refine S_seq rfl ?_; refine S_region rfl rfl ?_; refine R_p rfl ?_ rfl rfl; refine R_take (T_loads (ds := sdc o) rfl rfl rfl rfl rfl) ?_ rfl rfl; (refine R_eff0 (E_storew (cs := sdc default) (ds := sdc o) rfl rfl rfl rfl (sdc_one _) rfl) ?_ rfl; rintro _ _ rfl); refine R_p rfl ?_ rfl rfl; refine R_nil ?_)
      refine hB _ _ _ _ _ rfl (.cell rfl rfl rfl inferInstance rfl (.tmp rfl .nil)) fun w' hS => ⟨(), rfl, trivial, hS.sublist (List.nil_sublist _)⟩
  · rw [show settle_ (p, b, o, t) = (o, true) from hst] at hB
    focus (refine S_seq rfl ?_; refine S_region rfl rfl ?_; (refine R_eff (E_boxa (cs := cnc (p, b, o, t)) rfl) ?_ rfl rfl; rintro _ _ ⟨b1, rfl, rfl⟩); (refine R_eff (E_alloca rfl sd_zero) ?_ rfl rfl; rintro _ _ ⟨b2, rfl, rfl⟩); refine R_p rfl ?_ rfl rfl; refine R_nil ?_; refine S_seq rfl ?_; refine S_block rfl ?_; refine S_seq rfl ?_; refine S_seq rfl ?_; refine S_region rfl rfl ?_; refine R_p rfl ?_ rfl rfl; refine R_take (T_loads (ds := sdc o) rfl rfl rfl rfl rfl) ?_ rfl rfl; refine R_p rfl ?_ rfl rfl; refine R_take (T_loads (ds := sdc t) rfl rfl rfl rfl rfl) ?_ rfl rfl; refine R_take (T_eqSd (a := o) (b := t) rfl rfl h1) ?_ rfl rfl; refine R_p rfl ?_ rfl rfl; refine R_nil ?_; refine S_true rfl rfl ?_; refine S_skip rfl ?_; refine S_true rfl rfl ?_; refine S_seq rfl ?_; refine S_region rfl rfl ?_; refine R_p rfl ?_ rfl rfl; refine R_take (T_loads (ds := sdc o) rfl rfl rfl rfl rfl) ?_ rfl rfl; (refine R_eff0 (E_storew (cs := sdc default) (ds := sdc o) rfl rfl rfl rfl (sdc_one _) rfl) ?_ rfl; rintro _ _ rfl); refine R_p rfl ?_ rfl rfl; refine R_nil ?_)
    refine hB _ _ _ _ _ rfl (.cell rfl rfl rfl inferInstance rfl (.tmp rfl .nil)) fun w' hS => ⟨(), rfl, trivial, hS.sublist (List.nil_sublist _)⟩
/-- a function without results, left by a return or at its text's end -/
theorem gives_N2 {P : Program} {f : FuncId} {fn : Func} {vs : List Value} {w : World} {n : Nat} {As : List Asn} {X : Type} {I : X → Prop} {A : X → List Asn} (hf : P.funcs[f]? = some fn) (hb : fn.body.isSome = true) (hn : fn.ntmps = n) (hr : fn.results = #[])
    (hv : vs.length ≤ n) (hS : St w (owns As) As w) (h : ∀ B : Bk none [], (∀ (T : Slots) (H : List Asn), (∀ w', St w (owns As) H w' → ∃ x, I x ∧ St w (owns As) (A x) w') → RS P B n w (owns As) [] T H) →
      (∀ (c : Code) (k : List It) (T : Slots) (H : List Asn), kind c = .ret → (∀ w', St w (owns As) H w' → ∃ x, I x ∧ St w (owns As) (A x) w') → RS P B n w (owns As) (.code c :: k) T H) → RS P B n w (owns As) [.code (cbody fn)] (targs 0 vs) As) :
    Gives P f vs As w (fun _ => .tuple #[]) I A := by
  obtain ⟨c, hc⟩ := Option.isSome_iff_exists.1 hb
  refine calls_RS hf hc hn (rs := []) (by simpa using hr) hv hS fun B hB => ?_
  have h2 := h B (fun T H hw' => RS_end hB (rs := []) (vs := []) rfl fun w' hS' => by
    obtain ⟨x, hI, hA⟩ := hw' w' hS'
    exact ⟨x, rfl, hI, hA⟩) (fun c k T H hk hw' => S_ret hB hk (rs := []) (vs := []) rfl fun w' hS' => by
    obtain ⟨x, hI, hA⟩ := hw' w' hS'
    exact ⟨x, rfl, hI, hA⟩)
  have e : cbody fn = c := by unfold cbody; rw [hc]
  rwa [e] at h2
/-- what is at a path in three maps -/
def cnOf (L1 L2 L3 : List Rw) (p : Str) : Cn := (p, sideOf L1 p, sideOf L2 p, sideOf L3 p)
def pathsT (L1 L2 L3 : List Rw) : List Str := pathsP [(none, 0, L1), (none, 0, L2), (none, 0, L3)]
def allT (L1 L2 L3 : List Rw) : List Cn := (pathsT L1 L2 L3).map (cnOf L1 L2 L3)
theorem pathsP_len (ms : List Mp) : (pathsP ms).length ≤ (keysM ms).length := by
  have := Lib.compact_length_le (srtS (keysM ms))
  rw [srtS_len] at this
  exact this
theorem pathsT_len (L1 L2 L3 : List Rw) : (pathsT L1 L2 L3).length ≤ L1.length + L2.length + L3.length := by
  have := pathsP_len [(none, 0, L1), (none, 0, L2), (none, 0, L3)]
  simp [keysM] at this
  unfold pathsT
  omega
theorem pathsT_eq (A1 A2 A3 : Option Addr) (c1 c2 c3 : Nat) (L1 L2 L3 : List Rw) : pathsP [(A1, c1, L1), (A2, c2, L2), (A3, c3, L3)] = pathsT L1 L2 L3 := rfl
set_option maxRecDepth 100000 in
set_option maxHeartbeats 4000000 in
theorem alls_iter (w : World) (F : Nat → Prop) (b : Nat) (A1 A2 A3 : Option Addr) (c1 c2 c3 : Nat) (L1 L2 L3 : List Rw) (hb : Rd w F 1 (some ⟨b, 0, none⟩) 3 [.slice A1 L1.length c1, .slice A2 L2.length c2, .slice A3 L3.length c3])
    (h1 : Rd w F 2 A1 L1.length (cellsL rwc L1)) (h2 : Rd w F 2 A2 L2.length (cellsL rwc L2)) (h3 : Rd w F 2 A3 L3.length (cellsL rwc L3)) (hn1 : L1.length ≤ 1000) (hn2 : L2.length ≤ 1000) (hn3 : L3.length ≤ 1000) :
    Iter Try.prog 73 [.pointer (some ⟨b, 0, none⟩)] F ((allT L1 L2 L3).map fun c => [.agg (cnc c).toArray]) w := by
  intro l X Z I S x0 h0 hS hFM hy
  refine gives_N2 Try.func73 rfl Try.ntmps73 Try.results73 (by simp) hS (fun B hE hB => ?_)
  have hlen : ((allT L1 L2 L3).map fun c => [Value.agg (cnc c).toArray]).length = (pathsT L1 L2 L3).length := by simp [allT]
  have hget : ∀ j p, (pathsT L1 L2 L3).getD j [] = p → j < (pathsT L1 L2 L3).length → ((allT L1 L2 L3).map fun c => [Value.agg (cnc c).toArray]).getD j [] = [.agg (cnc (cnOf L1 L2 L3 p)).toArray] := fun j p hp hj => by
    subst hp
    simp [allT, List.getD, hj]
  rw [hlen] at hE hB hy
  obtain ⟨ps, hps⟩ : ∃ ps, pathsT L1 L2 L3 = ps := ⟨_, rfl⟩
  rw [hps] at hE hB hy hget
  have hpl := pathsT_len L1 L2 L3
  rw [hps] at hpl
  have hPe := pathsT_eq A1 A2 A3 c1 c2 c3 L1 L2 L3
  rw [hps] at hPe
  focus (refine S_seq rfl ?_; refine S_region rfl rfl ?_; refine R_p rfl ?_ rfl rfl; refine R_take (T_loadgs (F := F) (m := 3) (sz := 1) (xs := [.slice A1 L1.length c1, .slice A2 L2.length c2, .slice A3 L3.length c3]) (ds := [.slice A1 L1.length c1]) rfl rfl rfl hb hFM rfl (by decide) rfl) ?_ rfl rfl; refine R_p rfl ?_ rfl rfl; refine R_take (T_loadgs (F := F) (m := 3) (sz := 1) (xs := [.slice A1 L1.length c1, .slice A2 L2.length c2, .slice A3 L3.length c3]) (ds := [.slice A2 L2.length c2]) rfl rfl rfl hb hFM rfl (by decide) rfl) ?_ rfl rfl; refine R_p rfl ?_ rfl rfl; refine R_take (T_loadgs (F := F) (m := 3) (sz := 1) (xs := [.slice A1 L1.length c1, .slice A2 L2.length c2, .slice A3 L3.length c3]) (ds := [.slice A3 L3.length c3]) rfl rfl rfl hb hFM rfl (by decide) rfl) ?_ rfl rfl; (refine R_eff (E_litS (vs := [.agg #[.slice A1 L1.length c1], .agg #[.slice A2 L2.length c2], .agg #[.slice A3 L3.length c3]]) (size := 1) (ds := [.slice A1 L1.length c1, .slice A2 L2.length c2, .slice A3 L3.length c3]) rfl rfl rfl rfl rfl rfl (by simp [vcells]) rfl (by omega)) ?_ rfl rfl; rintro _ _ ⟨vb, rfl, rfl⟩); (refine R_eff (E_hv1 ⟨_, Try.func29, rfl, by kernel_rfl⟩ (fun w hS => paths_any w (some ⟨vb, 0, none⟩) 3 3 [(A1, c1, L1), (A2, c2, L2), (A3, c3, L3)] ((Srd.pt (g := vb) (n := 3) (size := 1) (off := 0) (ds := [.slice A1 L1.length c1, .slice A2 L2.length c2, .slice A3 L3.length c3]) rfl (fun j u hj => by rw [Nat.zero_add]; exact hj)).rd w hS) (fun m hm => by rcases List.mem_cons.1 hm with rfl | hm; exact (Srd.old h1 hFM).rd w hS; rcases List.mem_cons.1 hm with rfl | hm; exact (Srd.old h2 hFM).rd w hS; rcases List.mem_cons.1 hm with rfl | hm; exact (Srd.old h3 hFM).rd w hS; cases hm) (by omega) (by simp [keysM]; omega)) rfl rfl (fun _ => rfl)) ?_ rfl rfl; rintro _ _ ⟨⟨A11, c11⟩, rfl, _, rfl⟩; rw [hPe]); refine R_p rfl ?_ rfl rfl; refine R_p rfl ?_ rfl rfl; refine R_nil ?_; refine S_block rfl ?_)
  refine RS_row A11 ps.length c11 fun _ _ hne11 _ => ?_
  refine S_loop (X := Nat × X) (fun x => [(0, .func (.yield l) #[] #[]), (1, .pointer (some ⟨b, 0, none⟩)), (12, .slice A11 ps.length c11), (13, .int .i64 (ps.length : Int)), (14, .int .i64 (x.1 : Int))]) (fun x => [row 9 1 A11 ps.length c11 (ps.map sv), Z x.2]) (fun x => x.1 ≤ ps.length ∧ I x.1 x.2) (fun x => ps.length - x.1) rfl (0, x0) ⟨Nat.zero_le _, h0⟩ (Sub.cons rfl (Sub.cons rfl (Sub.cons rfl (Sub.cons rfl (Sub.cons rfl Sub.nil))))) sub_st ?_
  rintro ⟨j, x⟩ ⟨hj, hI⟩ J hJ
  dsimp only at hj hI ⊢
  rcases Nat.lt_or_ge j ps.length with hjl | hjl
  · have hne11 := hne11 (by omega)
    obtain ⟨p, hp⟩ : ∃ p, ps.getD j [] = p := ⟨_, rfl⟩
    have hat := sv_at hjl hp
    have hyj := hy j x
    rw [hget j p hp hjl] at hyj
    focus (refine S_seq rfl ?_; refine S_region rfl rfl ?_; refine R_take (T_decT rfl (by omega)) ?_ rfl rfl; refine R_nil ?_; refine S_seq rfl ?_; refine S_true rfl rfl ?_; refine S_skip rfl ?_; refine S_seq rfl ?_; refine S_block rfl ?_; refine S_seq rfl ?_; refine S_region rfl rfl ?_; refine R_take (T_ixN rfl rfl rfl rfl rfl rfl hne11 hjl) ?_ rfl rfl; refine R_take (T_ldr rfl rfl rfl (Srd.row (A := A11) (n := ps.length) (c := c11)) (by omega) hat) ?_ rfl rfl; refine R_p rfl ?_ rfl rfl; refine R_nil ?_; refine S_seq rfl ?_)
    refine S_draw (_) (fun _ h => h) (by kernel_rfl) rfl (by kernel_rfl) (by kernel_rfl : _ = 17) ?_
    refine D_take 0 rfl (pev_ok rfl) ?_ rfl rfl (by kernel_rfl) (by kernel_rfl)
    refine D_take 1 rfl (pev_ok rfl) ?_ rfl rfl (by kernel_rfl) (by kernel_rfl)
    refine D_take 2 rfl (pev_ok rfl) ?_ rfl rfl (by kernel_rfl) (by kernel_rfl)
    refine D_take 3 rfl (T_loadgs (F := F) (m := 3) (sz := 1) (xs := [.slice A1 L1.length c1, .slice A2 L2.length c2, .slice A3 L3.length c3]) (ds := [.slice A1 L1.length c1]) rfl rfl rfl hb hFM rfl (by decide) rfl) ?_ rfl rfl (by kernel_rfl) (by kernel_rfl)
    refine D_take 4 rfl (pev_ok rfl) ?_ rfl rfl (by kernel_rfl) (by kernel_rfl)
    refine D_take 6 rfl (pev_ok rfl) ?_ rfl rfl (by kernel_rfl) (by kernel_rfl)
    refine D_take 7 rfl (T_loadgs (F := F) (m := 3) (sz := 1) (xs := [.slice A1 L1.length c1, .slice A2 L2.length c2, .slice A3 L3.length c3]) (ds := [.slice A2 L2.length c2]) rfl rfl rfl hb hFM rfl (by decide) rfl) ?_ rfl rfl (by kernel_rfl) (by kernel_rfl)
    refine D_take 8 rfl (pev_ok rfl) ?_ rfl rfl (by kernel_rfl) (by kernel_rfl)
    refine D_take 10 rfl (pev_ok rfl) ?_ rfl rfl (by kernel_rfl) (by kernel_rfl)
    refine D_take 11 rfl (T_loadgs (F := F) (m := 3) (sz := 1) (xs := [.slice A1 L1.length c1, .slice A2 L2.length c2, .slice A3 L3.length c3]) (ds := [.slice A3 L3.length c3]) rfl rfl rfl hb hFM rfl (by decide) rfl) ?_ rfl rfl (by kernel_rfl) (by kernel_rfl)
    refine D_take 12 rfl (pev_ok rfl) ?_ rfl rfl (by kernel_rfl) (by kernel_rfl)
    refine D_one 5 rfl (E_hv0 ⟨_, Try.func74, rfl, by kernel_rfl⟩ (fun w hS => has_any w A1 L1.length c1 L1 p ((Srd.old h1 hFM).rd w hS) (by omega)) rfl rfl (fun _ => rfl)) ?_ rfl rfl (by kernel_rfl)
    rintro _ _ ⟨_, rfl, _, rfl⟩
    refine Nx_same sub_st ?_
    refine D_one 9 rfl (E_hv0 ⟨_, Try.func74, rfl, by kernel_rfl⟩ (fun w hS => has_any w A2 L2.length c2 L2 p ((Srd.old h2 hFM).rd w hS) (by omega)) rfl rfl (fun _ => rfl)) ?_ rfl rfl (by kernel_rfl)
    rintro _ _ ⟨_, rfl, _, rfl⟩
    refine Nx_same sub_st ?_
    refine D_one 13 rfl (E_hv0 ⟨_, Try.func74, rfl, by kernel_rfl⟩ (fun w hS => has_any w A3 L3.length c3 L3 p ((Srd.old h3 hFM).rd w hS) (by omega)) rfl rfl (fun _ => rfl)) ?_ rfl rfl (by kernel_rfl)
    rintro _ _ ⟨_, rfl, _, rfl⟩
    refine Nx_same sub_st ?_
    refine D_take 14 rfl (T_build4 rfl rfl rfl rfl (cn_built4 p (sideOf L1 p) (sideOf L2 p) (sideOf L3 p))) ?_ rfl rfl (by kernel_rfl) (by kernel_rfl)
    refine D_one 15 rfl (E_yield (A := Z x) (Z := Z) (I1 := I (j + 1)) (S1 := S j) (fun w' hS => hyj w' hI hjl (hS.sublist (by simp))) rfl rfl rfl) ?_ rfl rfl (by kernel_rfl)
    rintro _ _ ⟨y, bb, rfl, hy1, hy2, rfl⟩
    refine Nx_pivot (by kernel_rfl) ?_
    refine D_take 16 rfl (T_not rfl) ?_ rfl rfl (by kernel_rfl) (by kernel_rfl)
    refine D_done ?_ (by kernel_rfl)
    skip
    cases bb
    · focus (refine S_true rfl rfl ?_)
      exact hB _ _ _ _ rfl fun w' hS => ⟨(y, some j), ⟨hjl, hy2 rfl⟩, sub_st _ hS⟩
    · focus (refine S_false rfl rfl ?_; refine S_skip rfl ?_; refine RS_blk ?_; refine S_region rfl rfl ?_; refine R_take (T_addN rfl rfl (by unfold fits; omega)) ?_ rfl rfl; refine R_p rfl ?_ rfl rfl; refine R_nil ?_)
      exact hJ (j + 1, y) _ _ ⟨by show j + 1 ≤ _; omega, hy1 rfl⟩ (Sub.cons rfl (Sub.cons rfl (Sub.cons rfl (Sub.cons rfl (Sub.cons rfl Sub.nil))))) sub_st (by dsimp only; omega)
  have hjn : j = ps.length := by omega
  subst hjn
  focus (refine S_seq rfl ?_; refine S_region rfl rfl ?_; refine R_take (T_decF rfl (by omega)) ?_ rfl rfl; refine R_nil ?_; refine S_seq rfl ?_; refine S_false rfl rfl ?_; refine S_exit rfl rfl ?_)
  first
    | exact hE _ _ fun w' hS => ⟨(x, none), hI, sub_st _ hS⟩
    | exact hB _ _ _ _ rfl fun w' hS => ⟨(x, none), hI, sub_st _ hS⟩
end Go.Proofs.Ytghfjfgpiomdhaa

namespace Go.Proofs.Ytghfjfgpiomdhaa
open Go.RowKit
open Asn (pt row rb)
set_option linter.unusedVariables false
set_option linter.unusedSimpArgs false
--@use N

/-- what was there, told by where it lies -/
theorem rd_old {w0 w : World} {M : Nat → Prop} {H : List Asn} {sz n : Nat} {A : Option Addr} {xs : List Value} (h : Rd w0 All sz A n xs) (hz : 0 < sz) (hM : ∀ k, ¬ M k) (hS : St w0 M H w) {F : Nat → Prop} (hF : ∀ k, k < w0.heap.size → F k) : Rd w F sz A n xs :=
  ⟨h.1, fun hn => by
    obtain ⟨ad, e, _, hc⟩ := h.2 hn
    have hl : 0 < xs.length := by rw [h.1]; exact Nat.mul_pos hn hz
    have hb := World.block_lt_of_cell? w0 _ (hc 0 xs[0] (List.getElem?_eq_getElem hl))
    rw [block_of_add] at hb
    exact ⟨ad, e, hF _ hb, fun j u hu => hS.kp.cell (by rw [block_of_add]; exact hM _) (hc j u hu)⟩⟩
theorem rd_blk {w0 w : World} {M : Nat → Prop} {L H : List Asn} {b t m : Nat} {cs : List Value} [hm : Hat H b t cs] (hS : St w0 M (L ++ H) w) (hl : cs.length = m) {F : Nat → Prop} (hF : F b) : Rd w F 1 (some ⟨b, 0, none⟩) m cs :=
  ⟨by omega, fun _ => ⟨_, rfl, hF, fun j v hj => by rw [add_plain]; exact hS.cell (List.mem_append_right _ hm.mem) (by simpa using hj)⟩⟩
/-- what an iterator may read lies apart from what the rounds turn -/
theorem reads_ok {w0 w : World} {L Hk : List Asn} {b t : Nat} {cs : List Value} [hm : Hat Hk b t cs] (hS : St w0 (owns []) (L ++ Hk) w) : ∀ q, (q < w0.heap.size ∨ q = b) → ¬ owns L q ∧ q < w.heap.size := fun q hq => by
  have hb := hS.all (pt b t cs) (by simp [hm.mem])
  rcases hq with hq | rfl
  · refine ⟨fun ⟨A, hA, hk⟩ => ?_, Nat.lt_of_lt_of_le hq hS.kp.size⟩
    rcases ((hS.all A (by simp [hA])).2 q hk).1 with h | h
    · exact noOwns _ h
    · omega
  · exact ⟨fun ⟨A, hA, hk⟩ => (List.pairwise_append.1 hS.apart).2.2 A hA (pt q t cs) hm.mem q hk rfl, (hb.2 q rfl).2⟩
set_option maxRecDepth 100000 in
set_option maxHeartbeats 4000000 in
theorem alls_any (w : World) (cs : List Value) (hc : cs.length = 3) :
    Gives Try.prog 42 [.agg cs.toArray] [] w (X := Nat) (fun b => .func (.func 73) #[] [Value.pointer (some ⟨b, 0, none⟩)].toArray) (fun _ => True) (fun b => [pt b 76 cs]) := by
  refine gives_S Try.func42 rfl Try.ntmps42 Try.results42 (by simp) (St.enter w) (fun B hB => ?_)
  focus (refine S_seq rfl ?_; refine S_region rfl rfl ?_; (refine R_eff (E_boxa (cs := cs) rfl) ?_ rfl rfl; rintro _ _ ⟨b, rfl, rfl⟩); refine R_p rfl ?_ rfl rfl; refine R_nil ?_; refine S_seq rfl ?_; refine S_region rfl rfl ?_; refine R_take (T_func rfl rfl) ?_ rfl rfl; refine R_p rfl ?_ rfl rfl; refine R_nil ?_)
  exact hB _ _ _ _ _ rfl rfl fun w' hS => ⟨b, rfl, trivial, hS⟩
/-- what is not settled -/
def cnfs (L1 L2 L3 : List Rw) : List Cn := (allT L1 L2 L3).filter fun c => !(settle_ c).2
theorem allT_len (L1 L2 L3 : List Rw) : (allT L1 L2 L3).length ≤ L1.length + L2.length + L3.length := by
  rw [allT, List.length_map]; exact pathsT_len L1 L2 L3
theorem cnc_ones (L : List Cn) : ∀ v ∈ cellsL cnc L, v.oneCell' = true := fun v hv => by
  obtain ⟨x, _, hx⟩ := List.mem_flatMap.1 hv
  exact cnc_one x v hx
theorem filt_next {α : Type} [Inhabited α] (p : α → Bool) (L : List α) (i : Nat) (hi : i < L.length) : (L.take (i + 1)).filter p = (L.take i).filter p ++ (if p (L.getD i default) then [L.getD i default] else []) := by
  rw [List.take_succ_eq_append_getElem hi, List.filter_append]
  simp only [List.getD, List.getElem?_eq_getElem hi, Option.getD_some, List.filter_cons, List.filter_nil]
theorem es_at (L : List Cn) (i : Nat) (hi : i < L.length) : (L.map fun c => [Value.agg (cnc c).toArray]).getD i [] = [.agg (cnc (L.getD i default)).toArray] := by
  simp [List.getD, hi]
set_option maxRecDepth 100000 in
set_option maxHeartbeats 4000000 in
theorem conflicts_any (w : World) (A1 A2 A3 : Option Addr) (c1' c2' c3' : Nat) (L1 L2 L3 : List Rw) (h1 : Rd w All 2 A1 L1.length (cellsL rwc L1)) (h2 : Rd w All 2 A2 L2.length (cellsL rwc L2)) (h3 : Rd w All 2 A3 L3.length (cellsL rwc L3)) (hn1 : L1.length ≤ 1000) (hn2 : L2.length ≤ 1000) (hn3 : L3.length ≤ 1000) :
    Gives Try.prog 40 [.agg #[.slice A1 L1.length c1', .slice A2 L2.length c2', .slice A3 L3.length c3']] [] w (X := Option Addr × Nat) (fun x => .slice x.1 (cnfs L1 L2 L3).length x.2) (fun _ => True) (fun x => [row 52 7 x.1 (cnfs L1 L2 L3).length x.2 (cellsL cnc (cnfs L1 L2 L3))]) := by
  refine gives_M Try.func40 rfl Try.ntmps40 Try.results40 (by simp) (St.enter w) (fun B _ hB => ?_)
  obtain ⟨Q, hQ⟩ : ∃ Q, allT L1 L2 L3 = Q := ⟨_, rfl⟩
  have hQl := allT_len L1 L2 L3
  have hcn : cnfs L1 L2 L3 = Q.filter fun c => !(settle_ c).2 := by rw [cnfs, hQ]
  rw [hQ] at hQl
  rw [hcn] at hB
  focus (refine S_seq rfl ?_; refine S_region rfl rfl ?_; (refine R_eff (E_boxa (cs := [.slice A1 L1.length c1', .slice A2 L2.length c2', .slice A3 L3.length c3']) rfl) ?_ rfl rfl; rintro _ _ ⟨b1, rfl, rfl⟩); refine R_p rfl ?_ rfl rfl; refine R_nil ?_; refine S_seq rfl ?_; refine S_region rfl rfl ?_; (refine R_eff (E_alloc1 rfl rfl rfl) ?_ rfl rfl; rintro _ _ ⟨b3, rfl, rfl⟩; rw [show ti39.zero = Value.slice none 0 0 from rfl]); refine R_nil ?_; refine S_seq rfl ?_; refine S_seq rfl ?_; refine S_region rfl rfl ?_; refine R_take (T_loada (ds := [.slice A1 L1.length c1', .slice A2 L2.length c2', .slice A3 L3.length c3']) rfl rfl rfl rfl (fun j v h => by simpa using h)) ?_ rfl rfl; (refine R_eff (E_hv1 (f := 42) ⟨_, Try.func42, rfl, by kernel_rfl⟩ (fun w hS => alls_any w [.slice A1 L1.length c1', .slice A2 L2.length c2', .slice A3 L3.length c3'] rfl) rfl rfl (fun _ => rfl)) ?_ rfl rfl; rintro _ _ ⟨bI, rfl, _, rfl⟩); refine R_nil ?_; refine S_block rfl ?_)
  obtain ⟨es, hes⟩ : ∃ es, (Q.map fun c => [Value.agg (cnc c).toArray]) = es := ⟨_, rfl⟩
  have hel : es.length = Q.length := by rw [← hes]; simp
  refine S_range (F := fun k => k < w.heap.size ∨ k = bI) (es := es) (ps := [9]) (X := List Cn × Option Addr × Nat) (fun x => [row 52 7 x.2.1 x.1.length x.2.2 (cellsL cnc x.1), pt b3 39 [.slice x.2.1 x.1.length x.2.2]]) (fun i x => x.1 = (Q.take i).filter fun c => !(settle_ c).2) (fun _ _ => False) ([], none, 0) [pt bI 76 [.slice A1 L1.length c1', .slice A2 L2.length c2', .slice A3 L3.length c3'], pt b1 76 [.slice A1 L1.length c1', .slice A2 L2.length c2', .slice A3 L3.length c3']] rfl rfl ⟨_, Try.func73, rfl, by kernel_rfl⟩ (by kernel_rfl) (fun e he => ?_) (by simp) (fun w' hS => sub_st (H' := [row 52 7 none 0 0 [], pt b3 39 [.slice none 0 0], pt bI 76 [.slice A1 L1.length c1', .slice A2 L2.length c2', .slice A3 L3.length c3'], pt b1 76 [.slice A1 L1.length c1', .slice A2 L2.length c2', .slice A3 L3.length c3']]) w' (hS.nilrow 52 7)) (fun w' hS => ?_) (fun w' hS => reads_ok (b := bI) (Hk := [pt bI 76 [.slice A1 L1.length c1', .slice A2 L2.length c2', .slice A3 L3.length c3'], pt b1 76 [.slice A1 L1.length c1', .slice A2 L2.length c2', .slice A3 L3.length c3']]) hS) (fun i x w' hx hi hS => ?_) (fun y D hy => ?_) (fun y D i _ h => h.elim)
  · rw [← hes] at he
    obtain ⟨c, _, rfl⟩ := List.mem_map.1 he
    rfl
  · rw [← hes, ← hQ]
    exact alls_iter w' _ bI A1 A2 A3 c1' c2' c3' L1 L2 L3 (rd_blk (b := bI) hS rfl (.inr rfl)) (rd_old h1 (by decide) (fun k => noOwns k) hS (fun k hk => .inl hk)) (rd_old h2 (by decide) (fun k => noOwns k) hS (fun k hk => .inl hk)) (rd_old h3 (by decide) (fun k => noOwns k) hS (fun k hk => .inl hk)) hn1 hn2 hn3
  · obtain ⟨O, A4, c4⟩ := x
    dsimp only at hx
    have hi2 : i < Q.length := by omega
    have hei : es.getD i [] = [.agg (cnc (Q.getD i default)).toArray] := by rw [← hes]; exact es_at Q i hi2
    have hnx := filt_next (fun c => !(settle_ c).2) Q i hi2
    have hOl : O.length ≤ Q.length := by
      rw [hx]
      refine Nat.le_trans (List.length_filter_le _ _) ?_
      rw [List.length_take]
      omega
    rw [hei]
    rw [← hx] at hnx
    obtain ⟨c, hc⟩ : ∃ c, Q.getD i default = c := ⟨_, rfl⟩
    rw [hc] at hnx ⊢
    intro l rA rB B0 B1 J hfull hbeg hend hret
    focus (refine S_region rfl rfl ?_; (refine R_eff (E_alloca rfl cn_zero) ?_ rfl rfl; rintro _ _ ⟨b4, rfl, rfl⟩); (refine R_eff0 (E_storew (cs := cnc default) (ds := cnc c) rfl rfl rfl rfl (cnc_one _) rfl) ?_ rfl; rintro _ _ rfl); refine R_nil ?_)
    refine hbeg _ [pt b4 52 (cnc c), row 52 7 A4 O.length c4 (cellsL cnc O), pt b3 39 [.slice A4 O.length c4]] _ ?_ sub_st
    obtain ⟨st, hst⟩ : ∃ st, settle_ c = st := ⟨_, rfl⟩
    rw [hst] at hnx
    obtain ⟨sd, ok⟩ := st
    cases ok
    · have hnx : (Q.take (i + 1)).filter (fun c => !(settle_ c).2) = O ++ [c] := hnx
      focus (refine S_block rfl ?_; refine S_seq rfl ?_; refine S_region rfl rfl ?_; refine R_take (T_loads (ds := cnc c) rfl rfl rfl rfl rfl) ?_ rfl rfl; ((refine R_eff (E_hv0 (f := 43) ⟨_, Try.func43, rfl, by kernel_rfl⟩ (fun w hS => settled_any w c) rfl rfl (fun _ => rfl)) ?_ rfl rfl; rintro _ _ ⟨_, rfl, _, rfl⟩); rw [hst]); refine R_p rfl ?_ rfl rfl; refine R_p rfl ?_ rfl rfl; refine R_p rfl ?_ rfl rfl; (refine R_eff (E_alloca rfl sd_zero) ?_ rfl rfl; rintro _ _ ⟨b5, rfl, rfl⟩); (refine R_eff0 (E_storew (cs := sdc default) (ds := sdc sd) rfl rfl rfl rfl (sdc_one _) rfl) ?_ rfl; rintro _ _ rfl); refine R_p rfl ?_ rfl rfl; refine R_nil ?_; refine S_seq rfl ?_; refine S_region rfl rfl ?_; refine R_p rfl ?_ rfl rfl; refine R_take (T_not rfl) ?_ rfl rfl; refine R_nil ?_; refine S_true rfl rfl ?_; refine S_region rfl rfl ?_; refine R_take (T_load rfl rfl rfl rfl) ?_ rfl rfl; refine R_take (T_loads (ds := cnc c) rfl rfl rfl rfl rfl) ?_ rfl rfl; (refine R_eff (E_litS (vs := [.agg (cnc c).toArray]) (size := 7) (ds := cnc c) rfl rfl rfl rfl rfl rfl (by simp [vcells, cnc]) rfl (by omega)) ?_ rfl rfl; rintro _ _ ⟨vb, rfl, rfl⟩); (refine R_eff (E_appS (sz := 7) (m := O.length) (c := c4) (A := A4) rfl rfl rfl rfl rfl rfl rfl (by decide) (Srd.pt (n := 1) (g := vb) (ds := cnc c) rfl (fun j u hj => by rw [Nat.zero_add]; exact hj)) (cnc_one _) (by show (O.length + 1) * 88 ≤ _; omega) (by unfold maxLen; omega)) ?_ rfl rfl; rintro _ _ ⟨A9, c9, rfl, rfl⟩); (refine R_eff0 (E_store1 rfl rfl rfl rfl rfl rfl (by first | decide | (simp; done) | (simp; omega) | assumption)) ?_ rfl; rintro _ _ rfl); refine R_nil ?_; refine RS_blk ?_)
      have e1 : (O ++ [c]).length = O.length + 1 := by simp
      refine hend (O ++ [c], A9, c9) _ _ hnx.symm fun w' hS => ?_
      dsimp only
      rw [e1, cellsL_app, cellsL_one]
      simp only [List.set_cons_zero] at hS
      exact sub_st w' hS
    · have hnx : (Q.take (i + 1)).filter (fun c => !(settle_ c).2) = O := by rw [hnx]; simp
      focus (refine S_block rfl ?_; refine S_seq rfl ?_; refine S_region rfl rfl ?_; refine R_take (T_loads (ds := cnc c) rfl rfl rfl rfl rfl) ?_ rfl rfl; ((refine R_eff (E_hv0 (f := 43) ⟨_, Try.func43, rfl, by kernel_rfl⟩ (fun w hS => settled_any w c) rfl rfl (fun _ => rfl)) ?_ rfl rfl; rintro _ _ ⟨_, rfl, _, rfl⟩); rw [hst]); refine R_p rfl ?_ rfl rfl; refine R_p rfl ?_ rfl rfl; refine R_p rfl ?_ rfl rfl; (refine R_eff (E_alloca rfl sd_zero) ?_ rfl rfl; rintro _ _ ⟨b5, rfl, rfl⟩); (refine R_eff0 (E_storew (cs := sdc default) (ds := sdc sd) rfl rfl rfl rfl (sdc_one _) rfl) ?_ rfl; rintro _ _ rfl); refine R_p rfl ?_ rfl rfl; refine R_nil ?_; refine S_seq rfl ?_; refine S_region rfl rfl ?_; refine R_p rfl ?_ rfl rfl; refine R_take (T_not rfl) ?_ rfl rfl; refine R_nil ?_; refine S_false rfl rfl ?_; refine S_skip rfl ?_; refine RS_blk ?_)
      refine hend (O, A4, c4) _ _ ?_ sub_st
      exact hnx.symm
  · obtain ⟨O, A4, c4⟩ := y
    dsimp only at hy ⊢
    simp only [List.cons_append, List.nil_append]
    rw [hel, List.take_length] at hy
    rw [← hy] at hB
    focus (refine RS_blk ?_; refine S_seq rfl ?_; refine S_region rfl rfl ?_; refine R_take (T_load rfl rfl rfl (by first | rfl | assumption)) ?_ rfl rfl; refine R_p rfl ?_ rfl rfl; refine R_nil ?_)
    refine hB _ _ _ _ _ [row 52 7 A4 O.length c4 (cellsL cnc O), pt b3 39 [.slice A4 O.length c4], pt bI 76 [.slice A1 L1.length c1', .slice A2 L2.length c2', .slice A3 L3.length c3'], pt b1 76 [.slice A1 L1.length c1', .slice A2 L2.length c2', .slice A3 L3.length c3']] _ rfl inferInstance (.tmp rfl .nil) fun w' hS => ⟨(A4, c4), rfl, trivial, sub_st _ hS⟩
end Go.Proofs.Ytghfjfgpiomdhaa

namespace Go.Proofs.Ytghfjfgpiomdhaa
open Go.RowKit
open Asn (pt row rb)
set_option linter.unusedVariables false
set_option linter.unusedSimpArgs false
--@use N

def rdy (L1 L2 L3 : List Rw) : Bool := chkR L1 && (chkR L2 && chkR L3)
set_option maxRecDepth 100000 in
set_option maxHeartbeats 4000000 in
theorem ready_any (w : World) (A1 A2 A3 : Option Addr) (c1' c2' c3' : Nat) (L1 L2 L3 : List Rw) (h1 : Rd w All 2 A1 L1.length (cellsL rwc L1)) (h2 : Rd w All 2 A2 L2.length (cellsL rwc L2)) (h3 : Rd w All 2 A3 L3.length (cellsL rwc L3)) (hn1 : L1.length ≤ 1000) (hn2 : L2.length ≤ 1000) (hn3 : L3.length ≤ 1000) (hp1 : ∀ x ∈ L1, x.1.length ≤ 100000) (hp2 : ∀ x ∈ L2, x.1.length ≤ 100000) (hp3 : ∀ x ∈ L3, x.1.length ≤ 100000) :
    Gives Try.prog 37 [.agg #[.slice A1 L1.length c1', .slice A2 L2.length c2', .slice A3 L3.length c3']] [] w (X := Unit) (fun _ => .bool (rdy L1 L2 L3)) (fun _ => True) (fun _ => []) := by
  refine gives_S Try.func37 rfl Try.ntmps37 Try.results37 (by simp) (St.enter w) (fun B hB => ?_)
  obtain ⟨r1, q1⟩ : ∃ r, chkR L1 = r := ⟨_, rfl⟩
  obtain ⟨r2, q2⟩ : ∃ r, chkR L2 = r := ⟨_, rfl⟩
  obtain ⟨r3, q3⟩ : ∃ r, chkR L3 = r := ⟨_, rfl⟩
  have hr : rdy L1 L2 L3 = (r1 && (r2 && r3)) := by rw [rdy, q1, q2, q3]
  rw [hr] at hB
  cases r1 <;> cases r2 <;> cases r3
  · --
    focus (refine S_seq rfl ?_; refine S_region rfl rfl ?_; (refine R_eff (E_boxa (cs := [.slice A1 L1.length c1', .slice A2 L2.length c2', .slice A3 L3.length c3']) rfl) ?_ rfl rfl; rintro _ _ ⟨b1, rfl, rfl⟩); refine R_p rfl ?_ rfl rfl; refine R_nil ?_; refine S_seq rfl ?_; refine S_region rfl rfl ?_; refine R_p rfl ?_ rfl rfl; refine R_take (T_loads (ds := [.slice A1 L1.length c1']) rfl rfl rfl rfl rfl) ?_ rfl rfl; (refine R_eff (E_chkRW (L := L1) (A := A1) (m := L1.length) (c := c1') (r := false) rfl (Srd.old h1 (fun k _ => noOwns k)) (by omega) hp1 q1) ?_ rfl rfl; rintro _ _ ⟨rfl, rfl⟩); refine R_take (T_decF rfl (by decide)) ?_ rfl rfl; refine R_p rfl ?_ rfl rfl; refine R_skip ?_ rfl rfl; refine R_skip ?_ rfl rfl; refine R_skip ?_ rfl rfl; refine R_skip ?_ rfl rfl; refine R_p rfl ?_ rfl rfl; refine R_p rfl ?_ rfl rfl; refine R_skip ?_ rfl rfl; refine R_skip ?_ rfl rfl; refine R_skip ?_ rfl rfl; refine R_skip ?_ rfl rfl; refine R_p rfl ?_ rfl rfl; refine R_p rfl ?_ rfl rfl; refine R_nil ?_)
    exact hB _ _ _ _ _ rfl rfl fun w' hS => ⟨(), rfl, trivial, hS.sublist (List.nil_sublist _)⟩
  · --
    focus (refine S_seq rfl ?_; refine S_region rfl rfl ?_; (refine R_eff (E_boxa (cs := [.slice A1 L1.length c1', .slice A2 L2.length c2', .slice A3 L3.length c3']) rfl) ?_ rfl rfl; rintro _ _ ⟨b1, rfl, rfl⟩); refine R_p rfl ?_ rfl rfl; refine R_nil ?_; refine S_seq rfl ?_; refine S_region rfl rfl ?_; refine R_p rfl ?_ rfl rfl; refine R_take (T_loads (ds := [.slice A1 L1.length c1']) rfl rfl rfl rfl rfl) ?_ rfl rfl; (refine R_eff (E_chkRW (L := L1) (A := A1) (m := L1.length) (c := c1') (r := false) rfl (Srd.old h1 (fun k _ => noOwns k)) (by omega) hp1 q1) ?_ rfl rfl; rintro _ _ ⟨rfl, rfl⟩); refine R_take (T_decF rfl (by decide)) ?_ rfl rfl; refine R_p rfl ?_ rfl rfl; refine R_skip ?_ rfl rfl; refine R_skip ?_ rfl rfl; refine R_skip ?_ rfl rfl; refine R_skip ?_ rfl rfl; refine R_p rfl ?_ rfl rfl; refine R_p rfl ?_ rfl rfl; refine R_skip ?_ rfl rfl; refine R_skip ?_ rfl rfl; refine R_skip ?_ rfl rfl; refine R_skip ?_ rfl rfl; refine R_p rfl ?_ rfl rfl; refine R_p rfl ?_ rfl rfl; refine R_nil ?_)
    exact hB _ _ _ _ _ rfl rfl fun w' hS => ⟨(), rfl, trivial, hS.sublist (List.nil_sublist _)⟩
  · --
    focus (refine S_seq rfl ?_; refine S_region rfl rfl ?_; (refine R_eff (E_boxa (cs := [.slice A1 L1.length c1', .slice A2 L2.length c2', .slice A3 L3.length c3']) rfl) ?_ rfl rfl; rintro _ _ ⟨b1, rfl, rfl⟩); refine R_p rfl ?_ rfl rfl; refine R_nil ?_; refine S_seq rfl ?_; refine S_region rfl rfl ?_; refine R_p rfl ?_ rfl rfl; refine R_take (T_loads (ds := [.slice A1 L1.length c1']) rfl rfl rfl rfl rfl) ?_ rfl rfl; (refine R_eff (E_chkRW (L := L1) (A := A1) (m := L1.length) (c := c1') (r := false) rfl (Srd.old h1 (fun k _ => noOwns k)) (by omega) hp1 q1) ?_ rfl rfl; rintro _ _ ⟨rfl, rfl⟩); refine R_take (T_decF rfl (by decide)) ?_ rfl rfl; refine R_p rfl ?_ rfl rfl; refine R_skip ?_ rfl rfl; refine R_skip ?_ rfl rfl; refine R_skip ?_ rfl rfl; refine R_skip ?_ rfl rfl; refine R_p rfl ?_ rfl rfl; refine R_p rfl ?_ rfl rfl; refine R_skip ?_ rfl rfl; refine R_skip ?_ rfl rfl; refine R_skip ?_ rfl rfl; refine R_skip ?_ rfl rfl; refine R_p rfl ?_ rfl rfl; refine R_p rfl ?_ rfl rfl; refine R_nil ?_)
    exact hB _ _ _ _ _ rfl rfl fun w' hS => ⟨(), rfl, trivial, hS.sublist (List.nil_sublist _)⟩
  · --
    focus (refine S_seq rfl ?_; refine S_region rfl rfl ?_; (refine R_eff (E_boxa (cs := [.slice A1 L1.length c1', .slice A2 L2.length c2', .slice A3 L3.length c3']) rfl) ?_ rfl rfl; rintro _ _ ⟨b1, rfl, rfl⟩); refine R_p rfl ?_ rfl rfl; refine R_nil ?_; refine S_seq rfl ?_; refine S_region rfl rfl ?_; refine R_p rfl ?_ rfl rfl; refine R_take (T_loads (ds := [.slice A1 L1.length c1']) rfl rfl rfl rfl rfl) ?_ rfl rfl; (refine R_eff (E_chkRW (L := L1) (A := A1) (m := L1.length) (c := c1') (r := false) rfl (Srd.old h1 (fun k _ => noOwns k)) (by omega) hp1 q1) ?_ rfl rfl; rintro _ _ ⟨rfl, rfl⟩); refine R_take (T_decF rfl (by decide)) ?_ rfl rfl; refine R_p rfl ?_ rfl rfl; refine R_skip ?_ rfl rfl; refine R_skip ?_ rfl rfl; refine R_skip ?_ rfl rfl; refine R_skip ?_ rfl rfl; refine R_p rfl ?_ rfl rfl; refine R_p rfl ?_ rfl rfl; refine R_skip ?_ rfl rfl; refine R_skip ?_ rfl rfl; refine R_skip ?_ rfl rfl; refine R_skip ?_ rfl rfl; refine R_p rfl ?_ rfl rfl; refine R_p rfl ?_ rfl rfl; refine R_nil ?_)
    exact hB _ _ _ _ _ rfl rfl fun w' hS => ⟨(), rfl, trivial, hS.sublist (List.nil_sublist _)⟩
  · --
    focus (refine S_seq rfl ?_; refine S_region rfl rfl ?_; (refine R_eff (E_boxa (cs := [.slice A1 L1.length c1', .slice A2 L2.length c2', .slice A3 L3.length c3']) rfl) ?_ rfl rfl; rintro _ _ ⟨b1, rfl, rfl⟩); refine R_p rfl ?_ rfl rfl; refine R_nil ?_; refine S_seq rfl ?_; refine S_region rfl rfl ?_; refine R_p rfl ?_ rfl rfl; refine R_take (T_loads (ds := [.slice A1 L1.length c1']) rfl rfl rfl rfl rfl) ?_ rfl rfl; (refine R_eff (E_chkRW (L := L1) (A := A1) (m := L1.length) (c := c1') (r := true) rfl (Srd.old h1 (fun k _ => noOwns k)) (by omega) hp1 q1) ?_ rfl rfl; rintro _ _ ⟨rfl, rfl⟩); refine R_take (T_decT rfl (by decide)) ?_ rfl rfl; refine R_p rfl ?_ rfl rfl; refine R_p rfl ?_ rfl rfl; refine R_take (T_loads (ds := [.slice A2 L2.length c2']) rfl rfl rfl rfl rfl) ?_ rfl rfl; (refine R_eff (E_chkRW (L := L2) (A := A2) (m := L2.length) (c := c2') (r := false) rfl (Srd.old h2 (fun k _ => noOwns k)) (by omega) hp2 q2) ?_ rfl rfl; rintro _ _ ⟨rfl, rfl⟩); refine R_take (T_decF rfl (by decide)) ?_ rfl rfl; refine R_p rfl ?_ rfl rfl; refine R_p rfl ?_ rfl rfl; refine R_skip ?_ rfl rfl; refine R_skip ?_ rfl rfl; refine R_skip ?_ rfl rfl; refine R_skip ?_ rfl rfl; refine R_p rfl ?_ rfl rfl; refine R_p rfl ?_ rfl rfl; refine R_nil ?_)
    exact hB _ _ _ _ _ rfl rfl fun w' hS => ⟨(), rfl, trivial, hS.sublist (List.nil_sublist _)⟩
  · --
    focus (refine S_seq rfl ?_; refine S_region rfl rfl ?_; (refine R_eff (E_boxa (cs := [.slice A1 L1.length c1', .slice A2 L2.length c2', .slice A3 L3.length c3']) rfl) ?_ rfl rfl; rintro _ _ ⟨b1, rfl, rfl⟩); refine R_p rfl ?_ rfl rfl; refine R_nil ?_; refine S_seq rfl ?_; refine S_region rfl rfl ?_; refine R_p rfl ?_ rfl rfl; refine R_take (T_loads (ds := [.slice A1 L1.length c1']) rfl rfl rfl rfl rfl) ?_ rfl rfl; (refine R_eff (E_chkRW (L := L1) (A := A1) (m := L1.length) (c := c1') (r := true) rfl (Srd.old h1 (fun k _ => noOwns k)) (by omega) hp1 q1) ?_ rfl rfl; rintro _ _ ⟨rfl, rfl⟩); refine R_take (T_decT rfl (by decide)) ?_ rfl rfl; refine R_p rfl ?_ rfl rfl; refine R_p rfl ?_ rfl rfl; refine R_take (T_loads (ds := [.slice A2 L2.length c2']) rfl rfl rfl rfl rfl) ?_ rfl rfl; (refine R_eff (E_chkRW (L := L2) (A := A2) (m := L2.length) (c := c2') (r := false) rfl (Srd.old h2 (fun k _ => noOwns k)) (by omega) hp2 q2) ?_ rfl rfl; rintro _ _ ⟨rfl, rfl⟩); refine R_take (T_decF rfl (by decide)) ?_ rfl rfl; refine R_p rfl ?_ rfl rfl; refine R_p rfl ?_ rfl rfl; refine R_skip ?_ rfl rfl; refine R_skip ?_ rfl rfl; refine R_skip ?_ rfl rfl; refine R_skip ?_ rfl rfl; refine R_p rfl ?_ rfl rfl; refine R_p rfl ?_ rfl rfl; refine R_nil ?_)
    exact hB _ _ _ _ _ rfl rfl fun w' hS => ⟨(), rfl, trivial, hS.sublist (List.nil_sublist _)⟩
  · --
    focus (refine S_seq rfl ?_; refine S_region rfl rfl ?_; (refine R_eff (E_boxa (cs := [.slice A1 L1.length c1', .slice A2 L2.length c2', .slice A3 L3.length c3']) rfl) ?_ rfl rfl; rintro _ _ ⟨b1, rfl, rfl⟩); refine R_p rfl ?_ rfl rfl; refine R_nil ?_; refine S_seq rfl ?_; refine S_region rfl rfl ?_; refine R_p rfl ?_ rfl rfl; refine R_take (T_loads (ds := [.slice A1 L1.length c1']) rfl rfl rfl rfl rfl) ?_ rfl rfl; (refine R_eff (E_chkRW (L := L1) (A := A1) (m := L1.length) (c := c1') (r := true) rfl (Srd.old h1 (fun k _ => noOwns k)) (by omega) hp1 q1) ?_ rfl rfl; rintro _ _ ⟨rfl, rfl⟩); refine R_take (T_decT rfl (by decide)) ?_ rfl rfl; refine R_p rfl ?_ rfl rfl; refine R_p rfl ?_ rfl rfl; refine R_take (T_loads (ds := [.slice A2 L2.length c2']) rfl rfl rfl rfl rfl) ?_ rfl rfl; (refine R_eff (E_chkRW (L := L2) (A := A2) (m := L2.length) (c := c2') (r := true) rfl (Srd.old h2 (fun k _ => noOwns k)) (by omega) hp2 q2) ?_ rfl rfl; rintro _ _ ⟨rfl, rfl⟩); refine R_take (T_decT rfl (by decide)) ?_ rfl rfl; refine R_p rfl ?_ rfl rfl; refine R_p rfl ?_ rfl rfl; refine R_p rfl ?_ rfl rfl; refine R_take (T_loads (ds := [.slice A3 L3.length c3']) rfl rfl rfl rfl rfl) ?_ rfl rfl; (refine R_eff (E_chkRW (L := L3) (A := A3) (m := L3.length) (c := c3') (r := false) rfl (Srd.old h3 (fun k _ => noOwns k)) (by omega) hp3 q3) ?_ rfl rfl; rintro _ _ ⟨rfl, rfl⟩); refine R_take (T_decF rfl (by decide)) ?_ rfl rfl; refine R_p rfl ?_ rfl rfl; refine R_p rfl ?_ rfl rfl; refine R_nil ?_)
    exact hB _ _ _ _ _ rfl rfl fun w' hS => ⟨(), rfl, trivial, hS.sublist (List.nil_sublist _)⟩
  · --
    focus (refine S_seq rfl ?_; refine S_region rfl rfl ?_; (refine R_eff (E_boxa (cs := [.slice A1 L1.length c1', .slice A2 L2.length c2', .slice A3 L3.length c3']) rfl) ?_ rfl rfl; rintro _ _ ⟨b1, rfl, rfl⟩); refine R_p rfl ?_ rfl rfl; refine R_nil ?_; refine S_seq rfl ?_; refine S_region rfl rfl ?_; refine R_p rfl ?_ rfl rfl; refine R_take (T_loads (ds := [.slice A1 L1.length c1']) rfl rfl rfl rfl rfl) ?_ rfl rfl; (refine R_eff (E_chkRW (L := L1) (A := A1) (m := L1.length) (c := c1') (r := true) rfl (Srd.old h1 (fun k _ => noOwns k)) (by omega) hp1 q1) ?_ rfl rfl; rintro _ _ ⟨rfl, rfl⟩); refine R_take (T_decT rfl (by decide)) ?_ rfl rfl; refine R_p rfl ?_ rfl rfl; refine R_p rfl ?_ rfl rfl; refine R_take (T_loads (ds := [.slice A2 L2.length c2']) rfl rfl rfl rfl rfl) ?_ rfl rfl; (refine R_eff (E_chkRW (L := L2) (A := A2) (m := L2.length) (c := c2') (r := true) rfl (Srd.old h2 (fun k _ => noOwns k)) (by omega) hp2 q2) ?_ rfl rfl; rintro _ _ ⟨rfl, rfl⟩); refine R_take (T_decT rfl (by decide)) ?_ rfl rfl; refine R_p rfl ?_ rfl rfl; refine R_p rfl ?_ rfl rfl; refine R_p rfl ?_ rfl rfl; refine R_take (T_loads (ds := [.slice A3 L3.length c3']) rfl rfl rfl rfl rfl) ?_ rfl rfl; (refine R_eff (E_chkRW (L := L3) (A := A3) (m := L3.length) (c := c3') (r := true) rfl (Srd.old h3 (fun k _ => noOwns k)) (by omega) hp3 q3) ?_ rfl rfl; rintro _ _ ⟨rfl, rfl⟩); refine R_take (T_decT rfl (by decide)) ?_ rfl rfl; refine R_p rfl ?_ rfl rfl; refine R_p rfl ?_ rfl rfl; refine R_nil ?_)
    exact hB _ _ _ _ _ rfl rfl fun w' hS => ⟨(), rfl, trivial, hS.sublist (List.nil_sublist _)⟩
def cfE (L1 L2 L3 : List Rw) : Int := if rdy L1 L2 L3 then 0 else 150
def cfR (L1 L2 L3 : List Rw) : List Cn := if rdy L1 L2 L3 then cnfs L1 L2 L3 else []
set_option maxRecDepth 100000 in
set_option maxHeartbeats 4000000 in
theorem conflictsF_any (w : World) (A1 A2 A3 : Option Addr) (c1' c2' c3' : Nat) (L1 L2 L3 : List Rw) (h1 : Rd w All 2 A1 L1.length (cellsL rwc L1)) (h2 : Rd w All 2 A2 L2.length (cellsL rwc L2)) (h3 : Rd w All 2 A3 L3.length (cellsL rwc L3)) (hn1 : L1.length ≤ 1000) (hn2 : L2.length ≤ 1000) (hn3 : L3.length ≤ 1000) (hp1 : ∀ x ∈ L1, x.1.length ≤ 100000) (hp2 : ∀ x ∈ L2, x.1.length ≤ 100000) (hp3 : ∀ x ∈ L3, x.1.length ≤ 100000) :
    Gives Try.prog 22 [.agg #[.slice A1 L1.length c1'], .agg #[.slice A2 L2.length c2'], .agg #[.slice A3 L3.length c3']] [] w (X := Option Addr × Nat) (fun x => .tuple #[.slice x.1 (cfR L1 L2 L3).length x.2, zi (cfE L1 L2 L3)]) (fun _ => True) (fun x => [row 52 7 x.1 (cfR L1 L2 L3).length x.2 (cellsL cnc (cfR L1 L2 L3))]) := by
  refine gives_S Try.func22 rfl Try.ntmps22 Try.results22 (by simp) (St.enter w) (fun B hB => ?_)
  obtain ⟨r, hr⟩ : ∃ r, rdy L1 L2 L3 = r := ⟨_, rfl⟩
  cases r
  · have e1 : cfE L1 L2 L3 = 150 := by rw [cfE, hr]; rfl
    have e2 : cfR L1 L2 L3 = [] := by rw [cfR, hr]; rfl
    rw [e1, e2] at hB
    focus (refine S_seq rfl ?_; refine S_region rfl rfl ?_; (refine R_eff (E_boxa (cs := [.slice A1 L1.length c1']) rfl) ?_ rfl rfl; rintro _ _ ⟨b1, rfl, rfl⟩); (refine R_eff (E_boxa (cs := [.slice A2 L2.length c2']) rfl) ?_ rfl rfl; rintro _ _ ⟨b2, rfl, rfl⟩); (refine R_eff (E_boxa (cs := [.slice A3 L3.length c3']) rfl) ?_ rfl rfl; rintro _ _ ⟨b3, rfl, rfl⟩); refine R_p rfl ?_ rfl rfl; refine R_p rfl ?_ rfl rfl; refine R_nil ?_; refine S_seq rfl ?_; refine S_region rfl rfl ?_; refine R_take (T_loada (ds := [.slice A1 L1.length c1']) rfl rfl rfl rfl (fun j v h => by simpa using h)) ?_ rfl rfl; refine R_take (T_loada (ds := [.slice A2 L2.length c2']) rfl rfl rfl rfl (fun j v h => by simpa using h)) ?_ rfl rfl; refine R_take (T_loada (ds := [.slice A3 L3.length c3']) rfl rfl rfl rfl (fun j v h => by simpa using h)) ?_ rfl rfl; refine R_take (T_build3 rfl rfl rfl (th_built3 _ _ _ _ _ _ _ _ _)) ?_ rfl rfl; (refine R_eff (E_alloca rfl th_zero) ?_ rfl rfl; rintro _ _ ⟨b8, rfl, rfl⟩); (refine R_eff0 (E_storew (cs := [.slice none 0 0, .slice none 0 0, .slice none 0 0]) (ds := [.slice A1 L1.length c1', .slice A2 L2.length c2', .slice A3 L3.length c3']) rfl rfl rfl rfl (by simp [Value.oneCell']) rfl) ?_ rfl; rintro _ _ rfl); refine R_nil ?_; refine S_seq rfl ?_; refine S_seq rfl ?_; refine S_region rfl rfl ?_; refine R_take (T_loada (ds := [.slice A1 L1.length c1', .slice A2 L2.length c2', .slice A3 L3.length c3']) rfl rfl rfl rfl (fun j v h => by simpa using h)) ?_ rfl rfl; ((refine R_eff (E_hv0 (f := 37) ⟨_, Try.func37, rfl, by kernel_rfl⟩ (fun w hS => ready_any w A1 A2 A3 c1' c2' c3' L1 L2 L3 ((Srd.old h1 (fun k _ => noOwns k)).rd w hS) ((Srd.old h2 (fun k _ => noOwns k)).rd w hS) ((Srd.old h3 (fun k _ => noOwns k)).rd w hS) hn1 hn2 hn3 hp1 hp2 hp3) rfl rfl (fun _ => rfl)) ?_ rfl rfl; rintro _ _ ⟨_, rfl, _, rfl⟩); rw [hr]); refine R_take (T_not rfl) ?_ rfl rfl; refine R_nil ?_; refine S_true rfl rfl ?_; refine S_seq rfl ?_; refine S_region rfl rfl ?_; refine R_p rfl ?_ rfl rfl; refine R_p rfl ?_ rfl rfl; refine R_nil ?_)
    exact hB _ _ _ _ _ rfl rfl fun w' hS => ⟨(none, 0), rfl, trivial, (hS.sublist (List.nil_sublist _)).nilrow _ _⟩
  · have e1 : cfE L1 L2 L3 = 0 := by rw [cfE, hr]; rfl
    have e2 : cfR L1 L2 L3 = cnfs L1 L2 L3 := by rw [cfR, hr]; rfl
    rw [e1, e2] at hB
    focus (refine S_seq rfl ?_; refine S_region rfl rfl ?_; (refine R_eff (E_boxa (cs := [.slice A1 L1.length c1']) rfl) ?_ rfl rfl; rintro _ _ ⟨b1, rfl, rfl⟩); (refine R_eff (E_boxa (cs := [.slice A2 L2.length c2']) rfl) ?_ rfl rfl; rintro _ _ ⟨b2, rfl, rfl⟩); (refine R_eff (E_boxa (cs := [.slice A3 L3.length c3']) rfl) ?_ rfl rfl; rintro _ _ ⟨b3, rfl, rfl⟩); refine R_p rfl ?_ rfl rfl; refine R_p rfl ?_ rfl rfl; refine R_nil ?_; refine S_seq rfl ?_; refine S_region rfl rfl ?_; refine R_take (T_loada (ds := [.slice A1 L1.length c1']) rfl rfl rfl rfl (fun j v h => by simpa using h)) ?_ rfl rfl; refine R_take (T_loada (ds := [.slice A2 L2.length c2']) rfl rfl rfl rfl (fun j v h => by simpa using h)) ?_ rfl rfl; refine R_take (T_loada (ds := [.slice A3 L3.length c3']) rfl rfl rfl rfl (fun j v h => by simpa using h)) ?_ rfl rfl; refine R_take (T_build3 rfl rfl rfl (th_built3 _ _ _ _ _ _ _ _ _)) ?_ rfl rfl; (refine R_eff (E_alloca rfl th_zero) ?_ rfl rfl; rintro _ _ ⟨b8, rfl, rfl⟩); (refine R_eff0 (E_storew (cs := [.slice none 0 0, .slice none 0 0, .slice none 0 0]) (ds := [.slice A1 L1.length c1', .slice A2 L2.length c2', .slice A3 L3.length c3']) rfl rfl rfl rfl (by simp [Value.oneCell']) rfl) ?_ rfl; rintro _ _ rfl); refine R_nil ?_; refine S_seq rfl ?_; refine S_seq rfl ?_; refine S_region rfl rfl ?_; refine R_take (T_loada (ds := [.slice A1 L1.length c1', .slice A2 L2.length c2', .slice A3 L3.length c3']) rfl rfl rfl rfl (fun j v h => by simpa using h)) ?_ rfl rfl; ((refine R_eff (E_hv0 (f := 37) ⟨_, Try.func37, rfl, by kernel_rfl⟩ (fun w hS => ready_any w A1 A2 A3 c1' c2' c3' L1 L2 L3 ((Srd.old h1 (fun k _ => noOwns k)).rd w hS) ((Srd.old h2 (fun k _ => noOwns k)).rd w hS) ((Srd.old h3 (fun k _ => noOwns k)).rd w hS) hn1 hn2 hn3 hp1 hp2 hp3) rfl rfl (fun _ => rfl)) ?_ rfl rfl; rintro _ _ ⟨_, rfl, _, rfl⟩); rw [hr]); refine R_take (T_not rfl) ?_ rfl rfl; refine R_nil ?_; refine S_false rfl rfl ?_; refine S_skip rfl ?_; refine S_seq rfl ?_; refine S_region rfl rfl ?_; refine R_take (T_loada (ds := [.slice A1 L1.length c1', .slice A2 L2.length c2', .slice A3 L3.length c3']) rfl rfl rfl rfl (fun j v h => by simpa using h)) ?_ rfl rfl; (refine R_eff (E_hv1 (f := 40) ⟨_, Try.func40, rfl, by kernel_rfl⟩ (fun w hS => conflicts_any w A1 A2 A3 c1' c2' c3' L1 L2 L3 ((Srd.old h1 (fun k _ => noOwns k)).rd w hS) ((Srd.old h2 (fun k _ => noOwns k)).rd w hS) ((Srd.old h3 (fun k _ => noOwns k)).rd w hS) hn1 hn2 hn3) rfl rfl (fun _ => rfl)) ?_ rfl rfl; rintro _ _ ⟨⟨A9, c9⟩, rfl, _, rfl⟩); refine R_p rfl ?_ rfl rfl; refine R_p rfl ?_ rfl rfl; refine R_nil ?_)
    exact hB _ _ _ _ _ rfl rfl fun w' hS => ⟨(A9, c9), rfl, trivial, sub_st _ hS⟩
/-- one of the three -/
def sideI (k : Int) (c : Cn) : Sd := if k = 0 then c.2.1 else if k = 2 then c.2.2.2 else c.2.2.1
set_option maxRecDepth 100000 in
set_option maxHeartbeats 4000000 in
theorem of_any (w : World) (k : Int) (c : Cn) :
    Gives Try.prog 51 [zi k, .agg (cnc c).toArray] [] w (X := Unit) (fun _ => .agg (sdc (sideI k c)).toArray) (fun _ => True) (fun _ => []) := by
  refine gives_C Try.func51 rfl Try.ntmps51 Try.results51 (by simp) (St.enter w) (fun B hB => ?_)
  obtain ⟨p, b, o, t⟩ := c
  by_cases k0 : k = 0
  · rw [show sideI k (p, b, o, t) = b by rw [sideI, if_pos k0]] at hB
    focus (refine S_seq rfl ?_; refine S_region rfl rfl ?_; (refine R_eff (E_boxa (cs := cnc (p, b, o, t)) rfl) ?_ rfl rfl; rintro _ _ ⟨b1, rfl, rfl⟩); (refine R_eff (E_alloca rfl sd_zero) ?_ rfl rfl; rintro _ _ ⟨b2, rfl, rfl⟩); refine R_nil ?_; refine S_seq rfl ?_; refine S_seq rfl ?_; refine S_region rfl rfl ?_; refine R_p rfl ?_ rfl rfl; refine R_nil ?_; refine S_block rfl ?_; refine S_seq rfl ?_; refine S_region rfl rfl ?_; refine R_take (T_decT rfl (by assumption)) ?_ rfl rfl; refine R_p rfl ?_ rfl rfl; refine R_nil ?_; refine S_true rfl rfl ?_; refine S_seq rfl ?_; refine S_region rfl rfl ?_; refine R_p rfl ?_ rfl rfl; refine R_take (T_loads (ds := sdc b) rfl rfl rfl rfl rfl) ?_ rfl rfl; (refine R_eff0 (E_storew (cs := sdc default) (ds := sdc b) rfl rfl rfl rfl (sdc_one _) rfl) ?_ rfl; rintro _ _ rfl); refine R_nil ?_)
    refine hB _ _ _ _ _ rfl (.cell rfl rfl rfl inferInstance rfl .nil) fun w' hS => ⟨(), rfl, trivial, hS.sublist (List.nil_sublist _)⟩
  by_cases k2 : k = 2
  · rw [show sideI k (p, b, o, t) = t by rw [sideI, if_neg k0, if_pos k2]] at hB
    focus (refine S_seq rfl ?_; refine S_region rfl rfl ?_; (refine R_eff (E_boxa (cs := cnc (p, b, o, t)) rfl) ?_ rfl rfl; rintro _ _ ⟨b1, rfl, rfl⟩); (refine R_eff (E_alloca rfl sd_zero) ?_ rfl rfl; rintro _ _ ⟨b2, rfl, rfl⟩); refine R_nil ?_; refine S_seq rfl ?_; refine S_seq rfl ?_; refine S_region rfl rfl ?_; refine R_p rfl ?_ rfl rfl; refine R_nil ?_; refine S_block rfl ?_; refine S_seq rfl ?_; refine S_region rfl rfl ?_; refine R_take (T_decF rfl (by assumption)) ?_ rfl rfl; refine R_p rfl ?_ rfl rfl; refine R_nil ?_; refine S_false rfl rfl ?_; refine S_seq rfl ?_; refine S_region rfl rfl ?_; refine R_take (T_decT rfl (by assumption)) ?_ rfl rfl; refine R_p rfl ?_ rfl rfl; refine R_nil ?_; refine S_true rfl rfl ?_; refine S_seq rfl ?_; refine S_region rfl rfl ?_; refine R_p rfl ?_ rfl rfl; refine R_take (T_loads (ds := sdc t) rfl rfl rfl rfl rfl) ?_ rfl rfl; (refine R_eff0 (E_storew (cs := sdc default) (ds := sdc t) rfl rfl rfl rfl (sdc_one _) rfl) ?_ rfl; rintro _ _ rfl); refine R_nil ?_)
    refine hB _ _ _ _ _ rfl (.cell rfl rfl rfl inferInstance rfl .nil) fun w' hS => ⟨(), rfl, trivial, hS.sublist (List.nil_sublist _)⟩
  · rw [show sideI k (p, b, o, t) = o by rw [sideI, if_neg k0, if_neg k2]] at hB
    focus (refine S_seq rfl ?_; refine S_region rfl rfl ?_; (refine R_eff (E_boxa (cs := cnc (p, b, o, t)) rfl) ?_ rfl rfl; rintro _ _ ⟨b1, rfl, rfl⟩); (refine R_eff (E_alloca rfl sd_zero) ?_ rfl rfl; rintro _ _ ⟨b2, rfl, rfl⟩); refine R_nil ?_; refine S_seq rfl ?_; refine S_seq rfl ?_; refine S_region rfl rfl ?_; refine R_p rfl ?_ rfl rfl; refine R_nil ?_; refine S_block rfl ?_; refine S_seq rfl ?_; refine S_region rfl rfl ?_; refine R_take (T_decF rfl (by assumption)) ?_ rfl rfl; refine R_p rfl ?_ rfl rfl; refine R_nil ?_; refine S_false rfl rfl ?_; refine S_seq rfl ?_; refine S_region rfl rfl ?_; refine R_take (T_decF rfl (by assumption)) ?_ rfl rfl; refine R_p rfl ?_ rfl rfl; refine R_nil ?_; refine S_false rfl rfl ?_; refine S_skip rfl ?_; refine RS_blk ?_; refine S_seq rfl ?_; refine S_region rfl rfl ?_; refine R_p rfl ?_ rfl rfl; refine R_take (T_loads (ds := sdc o) rfl rfl rfl rfl rfl) ?_ rfl rfl; (refine R_eff0 (E_storew (cs := sdc default) (ds := sdc o) rfl rfl rfl rfl (sdc_one _) rfl) ?_ rfl; rintro _ _ rfl); refine R_nil ?_)
    refine hB _ _ _ _ _ rfl (.cell rfl rfl rfl inferInstance rfl .nil) fun w' hS => ⟨(), rfl, trivial, hS.sublist (List.nil_sublist _)⟩
end Go.Proofs.Ytghfjfgpiomdhaa

namespace Go.Proofs.Ytghfjfgpiomdhaa
open Go.RowKit
open Asn (pt row rb)
set_option linter.unusedVariables false
set_option linter.unusedSimpArgs false
--@use N

set_option maxRecDepth 100000 in
set_option maxHeartbeats 4000000 in
theorem m1_any (w : World) (c : Cn) (x : Ch) :
    Gives Try.prog 41 [.agg (cnc c).toArray, .agg (chc x).toArray] [] w (X := Unit) (fun _ => .bool (decide (c.1 = x.1))) (fun _ => True) (fun _ => []) := by
  refine gives_S Try.func41 rfl Try.ntmps41 Try.results41 (by simp) (St.enter w) (fun B hB => ?_)
  obtain ⟨p, b, o, t⟩ := c
  obtain ⟨s, is, tx⟩ := x
  obtain ⟨r, hr⟩ : ∃ r, decide (p = s) = r := ⟨_, rfl⟩
  have hcm : scmp .eql p s = some r := by
    have : scmp .eql p s = some (decide (p = s)) := rfl
    rw [this, hr]
  focus (refine S_seq rfl ?_; refine S_region rfl rfl ?_; (refine R_eff (E_boxa (cs := cnc (p, b, o, t)) rfl) ?_ rfl rfl; rintro _ _ ⟨b1, rfl, rfl⟩); (refine R_eff (E_boxa (cs := chc (s, is, tx)) rfl) ?_ rfl rfl; rintro _ _ ⟨b2, rfl, rfl⟩); refine R_p rfl ?_ rfl rfl; refine R_nil ?_; refine S_seq rfl ?_; refine S_region rfl rfl ?_; refine R_p rfl ?_ rfl rfl; refine R_take (T_load rfl rfl rfl rfl) ?_ rfl rfl; refine R_p rfl ?_ rfl rfl; refine R_take (T_load rfl rfl rfl rfl) ?_ rfl rfl; refine R_take (T_scm (a := p) (b := s) rfl rfl hcm) ?_ rfl rfl; refine R_p rfl ?_ rfl rfl; refine R_nil ?_)
  refine hB _ _ _ _ _ rfl rfl fun w' hS => ⟨(), ?_, trivial, hS.sublist (List.nil_sublist _)⟩
  show Value.bool r = Value.bool (decide (p = s))
  rw [hr]
set_option maxRecDepth 100000 in
set_option maxHeartbeats 4000000 in
theorem m2_any (w : World) (bc : Nat) (c : Cn) (x : Ch) (h : Rd w All 1 (some ⟨bc, 0, none⟩) 7 (cnc c)) :
    Gives Try.prog 45 [.agg (chc x).toArray, .pointer (some ⟨bc, 0, none⟩)] [] w (X := Unit) (fun _ => .bool (decide (x.1 = c.1))) (fun _ => True) (fun _ => []) := by
  refine gives_S Try.func45 rfl Try.ntmps45 Try.results45 (by simp) (St.enter w) (fun B hB => ?_)
  obtain ⟨p, b, o, t⟩ := c
  obtain ⟨s, is, tx⟩ := x
  obtain ⟨r, hr⟩ : ∃ r, decide (s = p) = r := ⟨_, rfl⟩
  have hcm : scmp .eql s p = some r := by
    have : scmp .eql s p = some (decide (s = p)) := rfl
    rw [this, hr]
  focus (refine S_seq rfl ?_; refine S_region rfl rfl ?_; (refine R_eff (E_boxa (cs := chc (s, is, tx)) rfl) ?_ rfl rfl; rintro _ _ ⟨b2, rfl, rfl⟩); refine R_p rfl ?_ rfl rfl; refine R_nil ?_; refine S_seq rfl ?_; refine S_region rfl rfl ?_; refine R_p rfl ?_ rfl rfl; refine R_take (T_load rfl rfl rfl rfl) ?_ rfl rfl; refine R_p rfl ?_ rfl rfl; refine R_take (T_loadg (v := sv p) rfl rfl rfl h (fun k _ => noOwns k) rfl) ?_ rfl rfl; refine R_take (T_scm (a := s) (b := p) rfl rfl hcm) ?_ rfl rfl; refine R_p rfl ?_ rfl rfl; refine R_nil ?_)
  refine hB _ _ _ _ _ rfl rfl fun w' hS => ⟨(), ?_, trivial, hS.sublist (List.nil_sublist _)⟩
  show Value.bool r = Value.bool (decide (s = p))
  rw [hr]
/-- do resolutions fit? -/
def fitsB (Q : List Cn) (C : List Ch) : Bool := decide (Q.map (·.1) = C.map (·.1))
theorem fits_len {Q : List Cn} {C : List Ch} (h : fitsB Q C = true) : Q.length = C.length := by
  have := congrArg List.length (of_decide_eq_true h)
  simpa using this
theorem fits_upto {Q : List Cn} {C : List Ch} (hl : Q.length = C.length) (h : ∀ i, i < Q.length → (Q.getD i default).1 = (C.getD i default).1) : fitsB Q C = true := by
  refine decide_eq_true (List.ext_getElem (by simpa using hl) fun i h1 h2 => ?_)
  have h1 : i < Q.length := by simpa using h1
  have h2 : i < C.length := by simpa using h2
  have := h i h1
  simpa [List.getD, h1, h2] using this
theorem fits_not {Q : List Cn} {C : List Ch} {i : Nat} (h1 : i < Q.length) (h2 : i < C.length) (h : (Q.getD i default).1 ≠ (C.getD i default).1) : fitsB Q C = false := by
  refine decide_eq_false fun e => h ?_
  have := congrArg (fun l => l[i]?) e
  simpa [List.getD, h1, h2] using this
set_option maxRecDepth 100000 in
set_option maxHeartbeats 4000000 in
theorem eqf_any (w : World) (A A2 : Option Addr) (n c' n2 c2' : Nat) (Q : List Cn) (C : List Ch) (h : Rd w All 7 A n (cellsL cnc Q)) (h2 : Rd w All 3 A2 n2 (cellsL chc C)) (hn : n ≤ 100000) (hn2 : n2 ≤ 100000) :
    Gives Try.prog 39 [.slice A n c', .slice A2 n2 c2', .func (.func 41) #[] #[]] [] w (X := Unit) (fun _ => .bool (fitsB Q C)) (fun _ => True) (fun _ => []) := by
  refine gives_S Try.func39 rfl Try.ntmps39 Try.results39 (by simp) (St.enter w) (fun B hB => ?_)
  have hl : Q.length = n := by have := h.1; rw [cellsL_len cnc_len] at this; omega
  have hl2 : C.length = n2 := by have := h2.1; rw [cellsL_len chc_len] at this; omega
  subst hl
  subst hl2
  have hne : 0 < Q.length → A ≠ none := fun h0 => by obtain ⟨ad, rfl, _⟩ := h.2 (by omega); simp
  have hne2 : 0 < C.length → A2 ≠ none := fun h0 => by obtain ⟨ad, rfl, _⟩ := h2.2 (by omega); simp
  by_cases hlm : Q.length = C.length
  rotate_left
  · rw [show fitsB Q C = false by rw [Bool.eq_false_iff]; exact fun e => hlm (fits_len e)] at hB
    focus (refine S_seq rfl ?_; refine S_region rfl rfl ?_; refine R_p rfl ?_ rfl rfl; refine R_nil ?_; refine S_seq rfl ?_; refine S_seq rfl ?_; refine S_region rfl rfl ?_; refine R_p rfl ?_ rfl rfl; refine R_p rfl ?_ rfl rfl; refine R_p rfl ?_ rfl rfl; refine R_p rfl ?_ rfl rfl; refine R_take (T_decT rfl (by omega)) ?_ rfl rfl; refine R_nil ?_; refine S_true rfl rfl ?_; refine S_seq rfl ?_; refine S_region rfl rfl ?_; refine R_p rfl ?_ rfl rfl; refine R_nil ?_)
    exact hB _ _ _ _ _ rfl rfl fun w' hS => ⟨(), rfl, trivial, hS.sublist (List.nil_sublist _)⟩
  focus (refine S_seq rfl ?_; refine S_region rfl rfl ?_; refine R_p rfl ?_ rfl rfl; refine R_nil ?_; refine S_seq rfl ?_; refine S_seq rfl ?_; refine S_region rfl rfl ?_; refine R_p rfl ?_ rfl rfl; refine R_p rfl ?_ rfl rfl; refine R_p rfl ?_ rfl rfl; refine R_p rfl ?_ rfl rfl; refine R_take (T_decF rfl (by omega)) ?_ rfl rfl; refine R_nil ?_; refine S_false rfl rfl ?_; refine S_skip rfl ?_; refine S_seq rfl ?_; refine S_seq rfl ?_; refine S_region rfl rfl ?_; refine R_p rfl ?_ rfl rfl; refine R_p rfl ?_ rfl rfl; refine R_p rfl ?_ rfl rfl; refine R_nil ?_; refine S_block rfl ?_)
  refine S_loop (X := Nat) (fun j => [(1, .slice A2 C.length c2'), (2, .func (.func 41) #[] #[]), (15, .slice A Q.length c'), (16, .int .i64 (Q.length : Int)), (17, .int .i64 (j : Int))]) (fun _ => []) (fun j => j ≤ Q.length ∧ ∀ i, i < j → (Q.getD i default).1 = (C.getD i default).1) (fun j => Q.length - j) rfl 0 ⟨Nat.zero_le _, fun i hi => by omega⟩ (Sub.cons rfl (Sub.cons rfl (Sub.cons rfl (Sub.cons rfl (Sub.cons rfl Sub.nil))))) (fun _ h => h) ?_
  rintro j ⟨hj, hok⟩ J hJ
  rcases Nat.lt_or_ge j Q.length with hjl | hjl
  · have hne := hne (by omega)
    have hne2 := hne2 (by omega)
    have hjm : j < C.length := by omega
    have hat := cellsL_at (f := cnc) cnc_len Q default j hjl
    have hat2 := cellsL_at (f := chc) chc_len C default j hjm
    have hno := fun (e : (Q.getD j default).1 ≠ (C.getD j default).1) => fits_not hjl hjm e
    have hnx : (Q.getD j default).1 = (C.getD j default).1 → ∀ i, i < j + 1 → (Q.getD i default).1 = (C.getD i default).1 := fun e i hi => by
      rcases Nat.lt_or_ge i j with h3 | h3
      · exact hok i h3
      · rw [show i = j by omega]; exact e
    obtain ⟨c, hc⟩ : ∃ c, Q.getD j default = c := ⟨_, rfl⟩
    obtain ⟨x, hx⟩ : ∃ x, C.getD j default = x := ⟨_, rfl⟩
    rw [hc] at hat hno hnx
    rw [hx] at hat2 hno hnx
    obtain ⟨r, hr⟩ : ∃ r, decide (c.1 = x.1) = r := ⟨_, rfl⟩
    cases r
    · rw [hno (of_decide_eq_false hr)] at hB
      focus (refine S_seq rfl ?_; refine S_region rfl rfl ?_; refine R_take (T_decT rfl (by omega)) ?_ rfl rfl; refine R_nil ?_; refine S_seq rfl ?_; refine S_true rfl rfl ?_; refine S_skip rfl ?_; refine S_seq rfl ?_; refine S_block rfl ?_; refine S_seq rfl ?_; refine S_region rfl rfl ?_; refine R_p rfl ?_ rfl rfl; refine R_take (T_ixM (sz := 7) rfl rfl rfl rfl rfl rfl hne hjl) ?_ rfl rfl; refine R_take (T_lda (ds := cnc c) rfl rfl rfl (Srd.old h (fun k _ => noOwns k)) rfl (by omega) hat) ?_ rfl rfl; (refine R_eff (E_alloca rfl cn_zero) ?_ rfl rfl; rintro _ _ ⟨b8, rfl, rfl⟩); refine R_p rfl ?_ rfl rfl; (refine R_eff0 (E_storew (cs := cnc default) (ds := cnc c) rfl rfl rfl rfl (cnc_one _) rfl) ?_ rfl; rintro _ _ rfl); refine R_nil ?_; refine S_seq rfl ?_; refine S_region rfl rfl ?_; refine R_p rfl ?_ rfl rfl; refine R_p rfl ?_ rfl rfl; refine R_take (T_ixM (sz := 3) rfl rfl rfl rfl rfl rfl hne2 hjm) ?_ rfl rfl; refine R_take (T_lda (ds := chc x) rfl rfl rfl (Srd.old h2 (fun k _ => noOwns k)) rfl (by omega) hat2) ?_ rfl rfl; (refine R_eff (E_alloca rfl chc_zero) ?_ rfl rfl; rintro _ _ ⟨b9, rfl, rfl⟩); (refine R_eff0 (E_storew (cs := chc default) (ds := chc x) rfl rfl rfl rfl (chc_one _) rfl) ?_ rfl; rintro _ _ rfl); refine R_nil ?_; refine S_seq rfl ?_; refine S_region rfl rfl ?_; refine R_p rfl ?_ rfl rfl; refine R_take (T_loads (ds := cnc c) rfl rfl rfl rfl rfl) ?_ rfl rfl; refine R_take (T_loads (ds := chc x) rfl rfl rfl rfl rfl) ?_ rfl rfl; (refine R_eff (E_cloA (cap := []) rfl (E_hv0 ⟨_, Try.func41, rfl, by kernel_rfl⟩ (fun w hS => m1_any w c x) rfl rfl (fun _ => rfl))) ?_ rfl rfl; rintro _ _ ⟨_, rfl, _, rfl⟩; rw [hr]); refine R_take (T_not rfl) ?_ rfl rfl; refine R_nil ?_; refine S_true rfl rfl ?_; refine S_seq rfl ?_; refine S_region rfl rfl ?_; refine R_p rfl ?_ rfl rfl; refine R_nil ?_)
      exact hB _ _ _ _ _ rfl rfl fun w' hS => ⟨(), rfl, trivial, hS.sublist (List.nil_sublist _)⟩
    · focus (refine S_seq rfl ?_; refine S_region rfl rfl ?_; refine R_take (T_decT rfl (by omega)) ?_ rfl rfl; refine R_nil ?_; refine S_seq rfl ?_; refine S_true rfl rfl ?_; refine S_skip rfl ?_; refine S_seq rfl ?_; refine S_block rfl ?_; refine S_seq rfl ?_; refine S_region rfl rfl ?_; refine R_p rfl ?_ rfl rfl; refine R_take (T_ixM (sz := 7) rfl rfl rfl rfl rfl rfl hne hjl) ?_ rfl rfl; refine R_take (T_lda (ds := cnc c) rfl rfl rfl (Srd.old h (fun k _ => noOwns k)) rfl (by omega) hat) ?_ rfl rfl; (refine R_eff (E_alloca rfl cn_zero) ?_ rfl rfl; rintro _ _ ⟨b8, rfl, rfl⟩); refine R_p rfl ?_ rfl rfl; (refine R_eff0 (E_storew (cs := cnc default) (ds := cnc c) rfl rfl rfl rfl (cnc_one _) rfl) ?_ rfl; rintro _ _ rfl); refine R_nil ?_; refine S_seq rfl ?_; refine S_region rfl rfl ?_; refine R_p rfl ?_ rfl rfl; refine R_p rfl ?_ rfl rfl; refine R_take (T_ixM (sz := 3) rfl rfl rfl rfl rfl rfl hne2 hjm) ?_ rfl rfl; refine R_take (T_lda (ds := chc x) rfl rfl rfl (Srd.old h2 (fun k _ => noOwns k)) rfl (by omega) hat2) ?_ rfl rfl; (refine R_eff (E_alloca rfl chc_zero) ?_ rfl rfl; rintro _ _ ⟨b9, rfl, rfl⟩); (refine R_eff0 (E_storew (cs := chc default) (ds := chc x) rfl rfl rfl rfl (chc_one _) rfl) ?_ rfl; rintro _ _ rfl); refine R_nil ?_; refine S_seq rfl ?_; refine S_region rfl rfl ?_; refine R_p rfl ?_ rfl rfl; refine R_take (T_loads (ds := cnc c) rfl rfl rfl rfl rfl) ?_ rfl rfl; refine R_take (T_loads (ds := chc x) rfl rfl rfl rfl rfl) ?_ rfl rfl; (refine R_eff (E_cloA (cap := []) rfl (E_hv0 ⟨_, Try.func41, rfl, by kernel_rfl⟩ (fun w hS => m1_any w c x) rfl rfl (fun _ => rfl))) ?_ rfl rfl; rintro _ _ ⟨_, rfl, _, rfl⟩; rw [hr]); refine R_take (T_not rfl) ?_ rfl rfl; refine R_nil ?_; refine S_false rfl rfl ?_; refine S_skip rfl ?_; refine RS_blk ?_; refine S_region rfl rfl ?_; refine R_take (T_addN rfl rfl (by unfold fits; omega)) ?_ rfl rfl; refine R_p rfl ?_ rfl rfl; refine R_nil ?_)
      exact hJ (j + 1) _ _ ⟨by omega, hnx (of_decide_eq_true hr)⟩ (Sub.cons rfl (Sub.cons rfl (Sub.cons rfl (Sub.cons rfl (Sub.cons rfl Sub.nil))))) (fun w' hS => hS.sublist (List.nil_sublist _)) (by omega)
  have hjn : j = Q.length := by omega
  subst hjn
  rw [fits_upto hlm hok] at hB
  focus (refine S_seq rfl ?_; refine S_region rfl rfl ?_; refine R_take (T_decF rfl (by omega)) ?_ rfl rfl; refine R_nil ?_; refine S_seq rfl ?_; refine S_false rfl rfl ?_; refine S_exit rfl rfl ?_; refine S_seq rfl ?_; refine S_region rfl rfl ?_; refine R_p rfl ?_ rfl rfl; refine R_nil ?_)
  exact hB _ _ _ _ _ rfl rfl fun w' hS => ⟨(), rfl, trivial, hS.sublist (List.nil_sublist _)⟩
end Go.Proofs.Ytghfjfgpiomdhaa

namespace Go.Proofs.Ytghfjfgpiomdhaa
open Go.RowKit
open Asn (pt row rb)
set_option linter.unusedVariables false
set_option linter.unusedSimpArgs false
--@use N

def takeC (k : Int) (Q : List Cn) : List Ch := Q.map fun c => (c.1, (sideI k c).1, (sideI k c).2)
theorem takeC_len (k : Int) (Q : List Cn) : (takeC k Q).length = Q.length := by simp [takeC]
theorem takeC_next (k : Int) (Q : List Cn) (j : Nat) (hj : j < Q.length) {c : Cn} (hc : Q.getD j default = c) : takeC k (Q.take (j + 1)) = takeC k (Q.take j) ++ [(c.1, (sideI k c).1, (sideI k c).2)] := by
  subst hc
  rw [takeC, List.take_succ_eq_append_getElem hj, List.map_append]
  simp [takeC, List.getD, hj]
def tkE (k : Int) (L1 L2 L3 : List Rw) : Int := if rdy L1 L2 L3 then (if (cnfs L1 L2 L3).length ≤ 32 then 0 else 151) else 150
def tkR (k : Int) (L1 L2 L3 : List Rw) : List Ch := if rdy L1 L2 L3 then (if (cnfs L1 L2 L3).length ≤ 32 then takeC k (cnfs L1 L2 L3) else []) else []
theorem cnfs_len (L1 L2 L3 : List Rw) : (cnfs L1 L2 L3).length ≤ L1.length + L2.length + L3.length := Nat.le_trans (List.length_filter_le _ _) (allT_len L1 L2 L3)
theorem ed_one0 : ti29.zero = .agg [Value.slice none 0 0].toArray := ed_alloc
set_option maxRecDepth 100000 in
set_option maxHeartbeats 4000000 in
theorem take_any (w : World) (A1 A2 A3 : Option Addr) (c1' c2' c3' : Nat) (L1 L2 L3 : List Rw) (h1 : Rd w All 2 A1 L1.length (cellsL rwc L1)) (h2 : Rd w All 2 A2 L2.length (cellsL rwc L2)) (h3 : Rd w All 2 A3 L3.length (cellsL rwc L3)) (hn1 : L1.length ≤ 1000) (hn2 : L2.length ≤ 1000) (hn3 : L3.length ≤ 1000) (hp1 : ∀ x ∈ L1, x.1.length ≤ 100000) (hp2 : ∀ x ∈ L2, x.1.length ≤ 100000) (hp3 : ∀ x ∈ L3, x.1.length ≤ 100000) (k : Int) :
    Gives Try.prog 23 [.agg #[.slice A1 L1.length c1'], .agg #[.slice A2 L2.length c2'], .agg #[.slice A3 L3.length c3'], zi k] [] w (X := Option Addr × Nat) (fun x => .tuple #[.agg #[.slice x.1 (tkR k L1 L2 L3).length x.2], zi (tkE k L1 L2 L3)]) (fun _ => True) (fun x => [row 73 3 x.1 (tkR k L1 L2 L3).length x.2 (cellsL chc (tkR k L1 L2 L3))]) := by
  refine gives_C Try.func23 rfl Try.ntmps23 Try.results23 (by simp) (St.enter w) (fun B hB => ?_)
  obtain ⟨r, hr⟩ : ∃ r, rdy L1 L2 L3 = r := ⟨_, rfl⟩
  have hQl := cnfs_len L1 L2 L3
  cases r
  · have e1 : tkE k L1 L2 L3 = 150 := by rw [tkE, hr]; rfl
    have e2 : tkR k L1 L2 L3 = [] := by rw [tkR, hr]; rfl
    rw [e1, e2] at hB
    focus (refine S_seq rfl ?_; refine S_region rfl rfl ?_; (refine R_eff (E_boxa (cs := [.slice A1 L1.length c1']) rfl) ?_ rfl rfl; rintro _ _ ⟨b1, rfl, rfl⟩); (refine R_eff (E_boxa (cs := [.slice A2 L2.length c2']) rfl) ?_ rfl rfl; rintro _ _ ⟨b2, rfl, rfl⟩); (refine R_eff (E_boxa (cs := [.slice A3 L3.length c3']) rfl) ?_ rfl rfl; rintro _ _ ⟨b3, rfl, rfl⟩); (refine R_eff (E_alloca (H := [pt b3 24 [.slice A3 L3.length c3'], pt b2 24 [.slice A2 L2.length c2'], pt b1 24 [.slice A1 L1.length c1']]) rfl ed_alloc) ?_ rfl rfl; rintro _ _ ⟨b8, rfl, rfl⟩); refine R_p rfl ?_ rfl rfl; refine R_nil ?_; refine S_seq rfl ?_; refine S_region rfl rfl ?_; refine R_take (T_loada (ds := [.slice A1 L1.length c1']) rfl rfl rfl rfl (fun j v h => by simpa using h)) ?_ rfl rfl; refine R_take (T_loada (ds := [.slice A2 L2.length c2']) rfl rfl rfl rfl (fun j v h => by simpa using h)) ?_ rfl rfl; refine R_take (T_loada (ds := [.slice A3 L3.length c3']) rfl rfl rfl rfl (fun j v h => by simpa using h)) ?_ rfl rfl; refine R_take (T_build3 rfl rfl rfl (th_built3 _ _ _ _ _ _ _ _ _)) ?_ rfl rfl; (refine R_eff (E_alloca rfl th_zero) ?_ rfl rfl; rintro _ _ ⟨b10, rfl, rfl⟩); (refine R_eff0 (E_storew (cs := [.slice none 0 0, .slice none 0 0, .slice none 0 0]) (ds := [.slice A1 L1.length c1', .slice A2 L2.length c2', .slice A3 L3.length c3']) rfl rfl rfl rfl (by simp [Value.oneCell']) rfl) ?_ rfl; rintro _ _ rfl); refine R_nil ?_; refine S_seq rfl ?_; refine S_seq rfl ?_; refine S_region rfl rfl ?_; refine R_take (T_loada (ds := [.slice A1 L1.length c1', .slice A2 L2.length c2', .slice A3 L3.length c3']) rfl rfl rfl rfl (fun j v h => by simpa using h)) ?_ rfl rfl; ((refine R_eff (E_hv0 (f := 37) ⟨_, Try.func37, rfl, by kernel_rfl⟩ (fun w hS => ready_any w A1 A2 A3 c1' c2' c3' L1 L2 L3 ((Srd.old h1 (fun k _ => noOwns k)).rd w hS) ((Srd.old h2 (fun k _ => noOwns k)).rd w hS) ((Srd.old h3 (fun k _ => noOwns k)).rd w hS) hn1 hn2 hn3 hp1 hp2 hp3) rfl rfl (fun _ => rfl)) ?_ rfl rfl; rintro _ _ ⟨_, rfl, _, rfl⟩); rw [hr]); refine R_take (T_not rfl) ?_ rfl rfl; refine R_nil ?_; refine S_true rfl rfl ?_; refine S_seq rfl ?_; refine S_region rfl rfl ?_; refine R_take (T_build0 ed_built0) ?_ rfl rfl; (refine R_eff0 (E_storew (ds := [.slice none 0 0]) (cs := [.slice none 0 0]) rfl rfl rfl rfl (sl_one _ _ _) rfl) ?_ rfl; rintro _ _ rfl); refine R_p rfl ?_ rfl rfl; refine R_nil ?_)
    refine hB _ _ _ _ _ rfl (.cell rfl rfl rfl inferInstance rfl (.tmp rfl .nil)) fun w' hS => ⟨(none, 0), rfl, trivial, (hS.sublist (List.nil_sublist _)).nilrow _ _⟩
  focus (refine S_seq rfl ?_; refine S_region rfl rfl ?_; (refine R_eff (E_boxa (cs := [.slice A1 L1.length c1']) rfl) ?_ rfl rfl; rintro _ _ ⟨b1, rfl, rfl⟩); (refine R_eff (E_boxa (cs := [.slice A2 L2.length c2']) rfl) ?_ rfl rfl; rintro _ _ ⟨b2, rfl, rfl⟩); (refine R_eff (E_boxa (cs := [.slice A3 L3.length c3']) rfl) ?_ rfl rfl; rintro _ _ ⟨b3, rfl, rfl⟩); (refine R_eff (E_alloca (H := [pt b3 24 [.slice A3 L3.length c3'], pt b2 24 [.slice A2 L2.length c2'], pt b1 24 [.slice A1 L1.length c1']]) rfl ed_alloc) ?_ rfl rfl; rintro _ _ ⟨b8, rfl, rfl⟩); refine R_p rfl ?_ rfl rfl; refine R_nil ?_; refine S_seq rfl ?_; refine S_region rfl rfl ?_; refine R_take (T_loada (ds := [.slice A1 L1.length c1']) rfl rfl rfl rfl (fun j v h => by simpa using h)) ?_ rfl rfl; refine R_take (T_loada (ds := [.slice A2 L2.length c2']) rfl rfl rfl rfl (fun j v h => by simpa using h)) ?_ rfl rfl; refine R_take (T_loada (ds := [.slice A3 L3.length c3']) rfl rfl rfl rfl (fun j v h => by simpa using h)) ?_ rfl rfl; refine R_take (T_build3 rfl rfl rfl (th_built3 _ _ _ _ _ _ _ _ _)) ?_ rfl rfl; (refine R_eff (E_alloca rfl th_zero) ?_ rfl rfl; rintro _ _ ⟨b10, rfl, rfl⟩); (refine R_eff0 (E_storew (cs := [.slice none 0 0, .slice none 0 0, .slice none 0 0]) (ds := [.slice A1 L1.length c1', .slice A2 L2.length c2', .slice A3 L3.length c3']) rfl rfl rfl rfl (by simp [Value.oneCell']) rfl) ?_ rfl; rintro _ _ rfl); refine R_nil ?_; refine S_seq rfl ?_; refine S_seq rfl ?_; refine S_region rfl rfl ?_; refine R_take (T_loada (ds := [.slice A1 L1.length c1', .slice A2 L2.length c2', .slice A3 L3.length c3']) rfl rfl rfl rfl (fun j v h => by simpa using h)) ?_ rfl rfl; ((refine R_eff (E_hv0 (f := 37) ⟨_, Try.func37, rfl, by kernel_rfl⟩ (fun w hS => ready_any w A1 A2 A3 c1' c2' c3' L1 L2 L3 ((Srd.old h1 (fun k _ => noOwns k)).rd w hS) ((Srd.old h2 (fun k _ => noOwns k)).rd w hS) ((Srd.old h3 (fun k _ => noOwns k)).rd w hS) hn1 hn2 hn3 hp1 hp2 hp3) rfl rfl (fun _ => rfl)) ?_ rfl rfl; rintro _ _ ⟨_, rfl, _, rfl⟩); rw [hr]); refine R_take (T_not rfl) ?_ rfl rfl; refine R_nil ?_; refine S_false rfl rfl ?_; refine S_skip rfl ?_; refine S_seq rfl ?_; refine S_region rfl rfl ?_; refine R_p rfl ?_ rfl rfl; refine R_nil ?_; refine S_seq rfl ?_; refine S_region rfl rfl ?_; (refine R_eff (E_alloca rfl ed_alloc) ?_ rfl rfl; rintro _ _ ⟨b12, rfl, rfl⟩); refine R_nil ?_; refine S_seq rfl ?_; refine S_seq rfl ?_; refine S_region rfl rfl ?_; refine R_take (T_loada (ds := [.slice A1 L1.length c1', .slice A2 L2.length c2', .slice A3 L3.length c3']) rfl rfl rfl rfl (fun j v h => by simpa using h)) ?_ rfl rfl; (refine R_eff (E_hv1 (f := 40) ⟨_, Try.func40, rfl, by kernel_rfl⟩ (fun w hS => conflicts_any w A1 A2 A3 c1' c2' c3' L1 L2 L3 ((Srd.old h1 (fun k _ => noOwns k)).rd w hS) ((Srd.old h2 (fun k _ => noOwns k)).rd w hS) ((Srd.old h3 (fun k _ => noOwns k)).rd w hS) hn1 hn2 hn3) rfl rfl (fun _ => rfl)) ?_ rfl rfl; rintro _ _ ⟨⟨A9, c9⟩, rfl, _, rfl⟩); refine R_p rfl ?_ rfl rfl; refine R_p rfl ?_ rfl rfl; refine R_nil ?_; refine S_block rfl ?_)
  obtain ⟨Q, hQ⟩ : ∃ Q, cnfs L1 L2 L3 = Q := ⟨_, rfl⟩
  rw [hQ] at hQl ⊢
  refine RS_row A9 Q.length c9 fun _ _ hne9 _ => ?_
  refine S_loop (X := Nat × Option Addr × Nat) (fun x => [(3, zi k), (8, .pointer (some ⟨b8, 0, none⟩)), (11, .func (.func 51) #[] #[]), (12, .pointer (some ⟨b12, 0, none⟩)), (25, .slice A9 Q.length c9), (26, .int .i64 (Q.length : Int)), (27, .int .i64 (x.1 : Int))]) (fun x => [row 52 7 A9 Q.length c9 (cellsL cnc Q), row 73 3 x.2.1 x.1 x.2.2 (cellsL chc (takeC k (Q.take x.1))), pt b12 29 [.slice x.2.1 x.1 x.2.2], pt b8 29 [.slice none 0 0]]) (fun x => x.1 ≤ Q.length) (fun x => Q.length - x.1) rfl (0, none, 0) (Nat.zero_le _) (Sub.cons rfl (Sub.cons rfl (Sub.cons rfl (Sub.cons rfl (Sub.cons rfl (Sub.cons rfl (Sub.cons rfl Sub.nil))))))) (fun w hS => sub_st (H' := [row 52 7 A9 Q.length c9 (cellsL cnc Q), row 73 3 none 0 0 [], pt b12 29 [.slice none 0 0], pt b8 29 [.slice none 0 0]]) w (hS.nilrow 73 3)) ?_
  rintro ⟨j, A8, c8⟩ hj J hJ
  dsimp only at hj ⊢
  rcases Nat.lt_or_ge j Q.length with hjl | hjl
  · have hne9 := hne9 (by omega)
    have hat := cellsL_at (f := cnc) cnc_len Q default j hjl
    have hnx := fun c hc => takeC_next k Q j hjl (c := c) hc
    obtain ⟨c, hc⟩ : ∃ c, Q.getD j default = c := ⟨_, rfl⟩
    have hnx := hnx c hc
    rw [hc] at hat
    obtain ⟨p, b, o, t⟩ := c
    obtain ⟨⟨is, tx⟩, hs⟩ : ∃ s, sideI k (p, b, o, t) = s := ⟨_, rfl⟩
    rw [hs] at hnx
    obtain ⟨O, hO⟩ : ∃ O, takeC k (Q.take j) = O := ⟨_, rfl⟩
    have hOl : O.length = j := by rw [← hO, takeC_len, List.length_take]; omega
    rw [hO] at hnx ⊢
    focus (refine S_seq rfl ?_; refine S_region rfl rfl ?_; refine R_take (T_decT rfl (by omega)) ?_ rfl rfl; refine R_nil ?_; refine S_seq rfl ?_; refine S_true rfl rfl ?_; refine S_skip rfl ?_; refine S_seq rfl ?_; refine S_block rfl ?_; refine S_seq rfl ?_; refine S_region rfl rfl ?_; refine R_take (T_ixM (sz := 7) rfl rfl rfl rfl rfl rfl hne9 hjl) ?_ rfl rfl; refine R_take (T_lda (ds := cnc (p, b, o, t)) rfl rfl rfl (Srd.row (n := Q.length) (c := c9)) rfl (by omega) hat) ?_ rfl rfl; (refine R_eff (E_alloca rfl cn_zero) ?_ rfl rfl; rintro _ _ ⟨b14, rfl, rfl⟩); (refine R_eff0 (E_storew (cs := cnc default) (ds := cnc (p, b, o, t)) rfl rfl rfl rfl (cnc_one _) rfl) ?_ rfl; rintro _ _ rfl); refine R_nil ?_; refine S_seq rfl ?_; refine S_region rfl rfl ?_; refine R_p rfl ?_ rfl rfl; refine R_p rfl ?_ rfl rfl; refine R_take (T_loads (ds := cnc (p, b, o, t)) rfl rfl rfl rfl rfl) ?_ rfl rfl; (refine R_eff (E_cloA (cap := []) rfl (E_hv0 ⟨_, Try.func51, rfl, by kernel_rfl⟩ (fun w hS => of_any w k (p, b, o, t)) rfl rfl (fun _ => rfl))) ?_ rfl rfl; rintro _ _ ⟨_, rfl, _, rfl⟩; rw [hs]); (refine R_eff (E_alloca rfl sd_zero) ?_ rfl rfl; rintro _ _ ⟨b15, rfl, rfl⟩); (refine R_eff0 (E_storew (cs := sdc default) (ds := sdc (is, tx)) rfl rfl rfl rfl (sdc_one _) rfl) ?_ rfl; rintro _ _ rfl); refine R_nil ?_; refine S_region rfl rfl ?_; refine R_p rfl ?_ rfl rfl; refine R_take (T_load rfl rfl rfl rfl) ?_ rfl rfl; refine R_p rfl ?_ rfl rfl; refine R_take (T_load rfl rfl rfl rfl) ?_ rfl rfl; refine R_p rfl ?_ rfl rfl; refine R_take (T_load rfl rfl rfl rfl) ?_ rfl rfl; refine R_p rfl ?_ rfl rfl; refine R_take (T_load rfl rfl rfl rfl) ?_ rfl rfl; refine R_take (T_build3 rfl rfl rfl (ch_built3 p tx is)) ?_ rfl rfl; (refine R_eff (E_litS (vs := [.agg (chc (p, is, tx)).toArray]) (size := 3) (ds := chc (p, is, tx)) rfl rfl rfl rfl rfl rfl (by simp [vcells, chc]) rfl (by omega)) ?_ rfl rfl; rintro _ _ ⟨vb, rfl, rfl⟩); (refine R_eff (E_appS (sz := 3) (m := j) (c := c8) (A := A8) rfl rfl rfl rfl rfl rfl rfl (by decide) (Srd.pt (n := 1) (g := vb) (ds := chc (p, is, tx)) rfl (fun j u hj => by rw [Nat.zero_add]; exact hj)) (chc_one _) (by show (j + 1) * 40 ≤ _; omega) (by unfold maxLen; omega)) ?_ rfl rfl; rintro _ _ ⟨A7, c7, rfl, rfl⟩); refine R_p rfl ?_ rfl rfl; (refine R_eff0 (E_store1 rfl rfl rfl rfl rfl rfl (by first | decide | (simp; done) | (simp; omega) | assumption)) ?_ rfl; rintro _ _ rfl); refine R_nil ?_; refine RS_blk ?_; refine S_region rfl rfl ?_; refine R_take (T_addN rfl rfl (by unfold fits; omega)) ?_ rfl rfl; refine R_p rfl ?_ rfl rfl; refine R_nil ?_)
    refine hJ (j + 1, A7, c7) _ _ (by show j + 1 ≤ _; omega) (Sub.cons rfl (Sub.cons rfl (Sub.cons rfl (Sub.cons rfl (Sub.cons rfl (Sub.cons rfl (Sub.cons rfl Sub.nil))))))) (fun w' hS => ?_) (by dsimp only; omega)
    dsimp only
    have hnx : takeC k (Q.take (j + 1)) = O ++ [(p, is, tx)] := hnx
    rw [hnx, cellsL_app, cellsL_one]
    simp only [Nat.add_zero, List.set_cons_zero] at hS
    exact sub_st w' hS
  have hjn : j = Q.length := by omega
  subst hjn
  rw [List.take_length]
  by_cases hfl : Q.length ≤ 32
  · have e1 : tkE k L1 L2 L3 = 0 := by rw [tkE, hr, hQ, if_pos rfl, if_pos hfl]
    have e2 : tkR k L1 L2 L3 = takeC k Q := by rw [tkR, hr, hQ, if_pos rfl, if_pos hfl]
    rw [e1, e2, takeC_len] at hB
    focus (refine S_seq rfl ?_; refine S_region rfl rfl ?_; refine R_take (T_decF rfl (by omega)) ?_ rfl rfl; refine R_nil ?_; refine S_seq rfl ?_; refine S_false rfl rfl ?_; refine S_exit rfl rfl ?_; refine S_seq rfl ?_; refine S_seq rfl ?_; refine S_region rfl rfl ?_; refine R_p rfl ?_ rfl rfl; refine R_take (T_load rfl rfl rfl (by first | rfl | assumption)) ?_ rfl rfl; refine R_p rfl ?_ rfl rfl; refine R_take (T_decF rfl (by omega)) ?_ rfl rfl; refine R_nil ?_; refine S_false rfl rfl ?_; refine S_skip rfl ?_; refine S_seq rfl ?_; refine S_region rfl rfl ?_; refine R_take (T_loads (ds := [.slice A8 Q.length c8]) rfl rfl rfl rfl rfl) ?_ rfl rfl; (refine R_eff0 (E_storew (ds := [.slice A8 Q.length c8]) (cs := [.slice none 0 0]) rfl rfl rfl rfl (sl_one _ _ _) rfl) ?_ rfl; rintro _ _ rfl); refine R_p rfl ?_ rfl rfl; refine R_nil ?_)
    refine hB _ _ _ _ _ rfl (.cell rfl rfl rfl inferInstance rfl (.tmp rfl .nil)) fun w' hS => ⟨(A8, c8), rfl, trivial, sub_st _ hS⟩
  · have e1 : tkE k L1 L2 L3 = 151 := by rw [tkE, hr, hQ, if_pos rfl, if_neg hfl]
    have e2 : tkR k L1 L2 L3 = [] := by rw [tkR, hr, hQ, if_pos rfl, if_neg hfl]
    rw [e1, e2] at hB
    focus (refine S_seq rfl ?_; refine S_region rfl rfl ?_; refine R_take (T_decF rfl (by omega)) ?_ rfl rfl; refine R_nil ?_; refine S_seq rfl ?_; refine S_false rfl rfl ?_; refine S_exit rfl rfl ?_; refine S_seq rfl ?_; refine S_seq rfl ?_; refine S_region rfl rfl ?_; refine R_p rfl ?_ rfl rfl; refine R_take (T_load rfl rfl rfl (by first | rfl | assumption)) ?_ rfl rfl; refine R_p rfl ?_ rfl rfl; refine R_take (T_decT rfl (by omega)) ?_ rfl rfl; refine R_nil ?_; refine S_true rfl rfl ?_; refine S_seq rfl ?_; refine S_region rfl rfl ?_; refine R_take (T_build0 ed_built0) ?_ rfl rfl; (refine R_eff0 (E_storew (ds := [.slice none 0 0]) (cs := [.slice none 0 0]) rfl rfl rfl rfl (sl_one _ _ _) rfl) ?_ rfl; rintro _ _ rfl); refine R_p rfl ?_ rfl rfl; refine R_nil ?_)
    refine hB _ _ _ _ _ rfl (.cell rfl rfl rfl inferInstance rfl (.tmp rfl .nil)) fun w' hS => ⟨(none, 0), rfl, trivial, (hS.sublist (List.nil_sublist _)).nilrow _ _⟩
end Go.Proofs.Ytghfjfgpiomdhaa

namespace Go.Proofs.Ytghfjfgpiomdhaa
open Go.RowKit
open Asn (pt row rb)
set_option linter.unusedVariables false
set_option linter.unusedSimpArgs false
--@use N

/-- what is at a path behind a merge -/
def resC (C : List Ch) (c : Cn) : Sd := if (settle_ c).2 then (settle_ c).1 else match fstK (·.1) C c.1 with
  | some x => (x.2.1, x.2.2)
  | none => default
def mgF (C : List Ch) (c : Cn) : Option Rw := if (resC C c).1 then some (c.1, (resC C c).2) else none
def mgU (L1 L2 L3 : List Rw) (C : List Ch) : List Rw := (allT L1 L2 L3).filterMap (mgF C)
def mgE (L1 L2 L3 : List Rw) (C : List Ch) : Int := if rdy L1 L2 L3 then (if chkC C then (if fitsB (cnfs L1 L2 L3) C then (if (mgU L1 L2 L3 C).length ≤ 32 then 0 else 6) else 170) else 151) else 150
def mgR (L1 L2 L3 : List Rw) (C : List Ch) : List Rw := if rdy L1 L2 L3 then (if chkC C then (if fitsB (cnfs L1 L2 L3) C then (if (mgU L1 L2 L3 C).length ≤ 32 then mgU L1 L2 L3 C else []) else []) else []) else []
theorem idxC_fst (L : List Ch) (p : Str) : (idxC (fun x => decide (x.1 = p)) L = -1 ∧ fstK (·.1) L p = none) ∨ ∃ i : Nat, idxC (fun x => decide (x.1 = p)) L = (i : Int) ∧ i < L.length ∧ fstK (·.1) L p = some (L.getD i default) := by
  by_cases h : L.all (fun x => !decide (x.1 = p)) = true
  · refine .inl ⟨by rw [idxC, if_pos h], List.find?_eq_none.2 fun x hx => ?_⟩
    have := List.all_eq_true.1 h x hx
    simpa using this
  · have hex : ∃ x ∈ L, decide (x.1 = p) = true := by
      refine Classical.byContradiction fun hn => h (List.all_eq_true.2 fun x hx => ?_)
      cases hd : decide (x.1 = p)
      · rfl
      · exact absurd ⟨x, hx, hd⟩ hn
    refine .inr ⟨L.findIdx (fun x => decide (x.1 = p)), by rw [idxC, if_neg h], ?_, ?_⟩
    · rw [List.findIdx_lt_length]
      exact hex
    · have hlt : L.findIdx (fun x => decide (x.1 = p)) < L.length := by
        rw [List.findIdx_lt_length]
        exact hex
      refine fst_hit (k := (·.1)) hlt (fun x hx => ?_) ?_
      · obtain ⟨j, hj, rfl⟩ := List.getElem_of_mem hx
        simp only [List.length_take] at hj
        rw [List.getElem_take]
        have := List.not_of_lt_findIdx (p := fun x : Ch => decide (x.1 = p)) (xs := L) (i := j) (by omega)
        simpa using this
      · have := List.findIdx_getElem (p := fun x : Ch => decide (x.1 = p)) (xs := L) (w := hlt)
        simpa [List.getD, hlt] using this
theorem fits_in {L1 L2 L3 : List Rw} {C : List Ch} (h : fitsB (cnfs L1 L2 L3) C = true) {c : Cn} (hc : c ∈ allT L1 L2 L3) (hs : (settle_ c).2 = false) : fstK (·.1) C c.1 ≠ none := fun hn => by
  have h1 := of_decide_eq_true h
  have h2 : c.1 ∈ (cnfs L1 L2 L3).map (·.1) := List.mem_map.2 ⟨c, List.mem_filter.2 ⟨hc, by rw [hs]; rfl⟩, rfl⟩
  rw [h1] at h2
  obtain ⟨x, hx, he⟩ := List.mem_map.1 h2
  have := List.find?_eq_none.1 hn x hx
  simp [he] at this
theorem fm_nextC {α β : Type} [Inhabited α] (f : α → Option β) (l : List α) (j : Nat) (hj : j < l.length) {p : α} (hp : l.getD j default = p) {o : Option β} (ho : f p = o) : (l.take (j + 1)).filterMap f = (l.take j).filterMap f ++ o.toList := by
  subst hp
  subst ho
  rw [List.take_succ_eq_append_getElem hj, List.filterMap_append]
  simp only [List.getD, List.getElem?_eq_getElem hj, Option.getD_some, List.filterMap_cons, List.filterMap_nil]
  cases f l[j] <;> rfl
set_option maxRecDepth 100000 in
set_option maxHeartbeats 4000000 in
theorem merge_any (w : World) (A1 A2 A3 : Option Addr) (c1' c2' c3' : Nat) (L1 L2 L3 : List Rw) (h1 : Rd w All 2 A1 L1.length (cellsL rwc L1)) (h2 : Rd w All 2 A2 L2.length (cellsL rwc L2)) (h3 : Rd w All 2 A3 L3.length (cellsL rwc L3)) (hn1 : L1.length ≤ 1000) (hn2 : L2.length ≤ 1000) (hn3 : L3.length ≤ 1000) (hp1 : ∀ x ∈ L1, x.1.length ≤ 100000) (hp2 : ∀ x ∈ L2, x.1.length ≤ 100000) (hp3 : ∀ x ∈ L3, x.1.length ≤ 100000) (A4 : Option Addr) (c4 : Nat) (C : List Ch) (h4 : Rd w All 3 A4 C.length (cellsL chc C)) (hn4 : C.length ≤ 1000) (hp4 : ∀ x ∈ C, x.1.length ≤ 100000) :
    Gives Try.prog 13 [.agg #[.slice A1 L1.length c1'], .agg #[.slice A2 L2.length c2'], .agg #[.slice A3 L3.length c3'], .agg #[.slice A4 C.length c4]] [] w (X := Option Addr × Nat) (fun x => .tuple #[.agg #[.slice x.1 (mgR L1 L2 L3 C).length x.2], zi (mgE L1 L2 L3 C)]) (fun _ => True) (fun x => [row 70 2 x.1 (mgR L1 L2 L3 C).length x.2 (cellsL rwc (mgR L1 L2 L3 C))]) := by
  refine gives_M Try.func13 rfl Try.ntmps13 Try.results13 (by simp) (St.enter w) (fun B hB0 hB => ?_)
  obtain ⟨r, hr⟩ : ∃ r, rdy L1 L2 L3 = r := ⟨_, rfl⟩
  cases r
  · have e1 : mgE L1 L2 L3 C = 150 := by rw [mgE, hr]; rfl
    have e2 : mgR L1 L2 L3 C = [] := by rw [mgR, hr]; rfl
    rw [e1, e2] at hB0
    focus (refine S_seq rfl ?_; refine S_region rfl rfl ?_; (refine R_eff (E_boxa (cs := [.slice A1 L1.length c1']) rfl) ?_ rfl rfl; rintro _ _ ⟨b1, rfl, rfl⟩); (refine R_eff (E_boxa (cs := [.slice A2 L2.length c2']) rfl) ?_ rfl rfl; rintro _ _ ⟨b2, rfl, rfl⟩); (refine R_eff (E_boxa (cs := [.slice A3 L3.length c3']) rfl) ?_ rfl rfl; rintro _ _ ⟨b3, rfl, rfl⟩); (refine R_eff (E_boxa (cs := [.slice A4 C.length c4]) rfl) ?_ rfl rfl; rintro _ _ ⟨b7, rfl, rfl⟩); (refine R_eff (E_alloca (H := [pt b7 29 [.slice A4 C.length c4], pt b3 24 [.slice A3 L3.length c3'], pt b2 24 [.slice A2 L2.length c2'], pt b1 24 [.slice A1 L1.length c1']]) rfl mp_alloc) ?_ rfl rfl; rintro _ _ ⟨b8, rfl, rfl⟩); refine R_p rfl ?_ rfl rfl; refine R_nil ?_; refine S_seq rfl ?_; refine S_region rfl rfl ?_; refine R_take (T_loada (ds := [.slice A1 L1.length c1']) rfl rfl rfl rfl (fun j v h => by simpa using h)) ?_ rfl rfl; refine R_take (T_loada (ds := [.slice A2 L2.length c2']) rfl rfl rfl rfl (fun j v h => by simpa using h)) ?_ rfl rfl; refine R_take (T_loada (ds := [.slice A3 L3.length c3']) rfl rfl rfl rfl (fun j v h => by simpa using h)) ?_ rfl rfl; refine R_take (T_build3 rfl rfl rfl (th_built3 _ _ _ _ _ _ _ _ _)) ?_ rfl rfl; (refine R_eff (E_alloca rfl th_zero) ?_ rfl rfl; rintro _ _ ⟨b10, rfl, rfl⟩); (refine R_eff0 (E_storew (cs := [.slice none 0 0, .slice none 0 0, .slice none 0 0]) (ds := [.slice A1 L1.length c1', .slice A2 L2.length c2', .slice A3 L3.length c3']) rfl rfl rfl rfl (by simp [Value.oneCell']) rfl) ?_ rfl; rintro _ _ rfl); refine R_nil ?_; refine S_seq rfl ?_; refine S_block rfl ?_; refine S_seq rfl ?_; refine S_region rfl rfl ?_; refine R_take (T_loada (ds := [.slice A1 L1.length c1', .slice A2 L2.length c2', .slice A3 L3.length c3']) rfl rfl rfl rfl (fun j v h => by simpa using h)) ?_ rfl rfl; ((refine R_eff (E_hv0 (f := 37) ⟨_, Try.func37, rfl, by kernel_rfl⟩ (fun w hS => ready_any w A1 A2 A3 c1' c2' c3' L1 L2 L3 ((Srd.old h1 (fun k _ => noOwns k)).rd w hS) ((Srd.old h2 (fun k _ => noOwns k)).rd w hS) ((Srd.old h3 (fun k _ => noOwns k)).rd w hS) hn1 hn2 hn3 hp1 hp2 hp3) rfl rfl (fun _ => rfl)) ?_ rfl rfl; rintro _ _ ⟨_, rfl, _, rfl⟩); rw [hr]); refine R_take (T_not rfl) ?_ rfl rfl; refine R_p rfl ?_ rfl rfl; refine R_nil ?_; refine S_true rfl rfl ?_; refine S_seq rfl ?_; refine S_region rfl rfl ?_; refine R_take (T_build0 mp_built0) ?_ rfl rfl; (refine R_eff0 (E_storew (ds := [.slice none 0 0]) (cs := [.slice none 0 0]) rfl rfl rfl rfl (sl_one _ _ _) rfl) ?_ rfl; rintro _ _ rfl); refine R_p rfl ?_ rfl rfl; refine R_nil ?_)
    exact hB0 _ _ _ _ _ rfl (.cell rfl rfl rfl inferInstance rfl (.tmp rfl .nil)) fun w' hS => ⟨(none, 0), rfl, trivial, (hS.sublist (List.nil_sublist _)).nilrow _ _⟩
  cases hck : chkC C
  · have e1 : mgE L1 L2 L3 C = 151 := by rw [mgE, hr, hck]; rfl
    have e2 : mgR L1 L2 L3 C = [] := by rw [mgR, hr, hck]; rfl
    rw [e1, e2] at hB0
    focus (refine S_seq rfl ?_; refine S_region rfl rfl ?_; (refine R_eff (E_boxa (cs := [.slice A1 L1.length c1']) rfl) ?_ rfl rfl; rintro _ _ ⟨b1, rfl, rfl⟩); (refine R_eff (E_boxa (cs := [.slice A2 L2.length c2']) rfl) ?_ rfl rfl; rintro _ _ ⟨b2, rfl, rfl⟩); (refine R_eff (E_boxa (cs := [.slice A3 L3.length c3']) rfl) ?_ rfl rfl; rintro _ _ ⟨b3, rfl, rfl⟩); (refine R_eff (E_boxa (cs := [.slice A4 C.length c4]) rfl) ?_ rfl rfl; rintro _ _ ⟨b7, rfl, rfl⟩); (refine R_eff (E_alloca (H := [pt b7 29 [.slice A4 C.length c4], pt b3 24 [.slice A3 L3.length c3'], pt b2 24 [.slice A2 L2.length c2'], pt b1 24 [.slice A1 L1.length c1']]) rfl mp_alloc) ?_ rfl rfl; rintro _ _ ⟨b8, rfl, rfl⟩); refine R_p rfl ?_ rfl rfl; refine R_nil ?_; refine S_seq rfl ?_; refine S_region rfl rfl ?_; refine R_take (T_loada (ds := [.slice A1 L1.length c1']) rfl rfl rfl rfl (fun j v h => by simpa using h)) ?_ rfl rfl; refine R_take (T_loada (ds := [.slice A2 L2.length c2']) rfl rfl rfl rfl (fun j v h => by simpa using h)) ?_ rfl rfl; refine R_take (T_loada (ds := [.slice A3 L3.length c3']) rfl rfl rfl rfl (fun j v h => by simpa using h)) ?_ rfl rfl; refine R_take (T_build3 rfl rfl rfl (th_built3 _ _ _ _ _ _ _ _ _)) ?_ rfl rfl; (refine R_eff (E_alloca rfl th_zero) ?_ rfl rfl; rintro _ _ ⟨b10, rfl, rfl⟩); (refine R_eff0 (E_storew (cs := [.slice none 0 0, .slice none 0 0, .slice none 0 0]) (ds := [.slice A1 L1.length c1', .slice A2 L2.length c2', .slice A3 L3.length c3']) rfl rfl rfl rfl (by simp [Value.oneCell']) rfl) ?_ rfl; rintro _ _ rfl); refine R_nil ?_; refine S_seq rfl ?_; refine S_block rfl ?_; refine S_seq rfl ?_; refine S_region rfl rfl ?_; refine R_take (T_loada (ds := [.slice A1 L1.length c1', .slice A2 L2.length c2', .slice A3 L3.length c3']) rfl rfl rfl rfl (fun j v h => by simpa using h)) ?_ rfl rfl; ((refine R_eff (E_hv0 (f := 37) ⟨_, Try.func37, rfl, by kernel_rfl⟩ (fun w hS => ready_any w A1 A2 A3 c1' c2' c3' L1 L2 L3 ((Srd.old h1 (fun k _ => noOwns k)).rd w hS) ((Srd.old h2 (fun k _ => noOwns k)).rd w hS) ((Srd.old h3 (fun k _ => noOwns k)).rd w hS) hn1 hn2 hn3 hp1 hp2 hp3) rfl rfl (fun _ => rfl)) ?_ rfl rfl; rintro _ _ ⟨_, rfl, _, rfl⟩); rw [hr]); refine R_take (T_not rfl) ?_ rfl rfl; refine R_p rfl ?_ rfl rfl; refine R_nil ?_; refine S_false rfl rfl ?_; refine S_seq rfl ?_; refine S_region rfl rfl ?_; refine R_take (T_loada (ds := [.slice A4 C.length c4]) rfl rfl rfl rfl (fun j v h => by simpa using h)) ?_ rfl rfl; (refine R_eff (E_chkCW (L := C) (A := A4) (m := C.length) (c := c4) (r := false) rfl (Srd.old h4 (fun k _ => noOwns k)) (by omega) hp4 hck) ?_ rfl rfl; rintro _ _ ⟨rfl, rfl⟩); refine R_take (T_decT rfl (by decide)) ?_ rfl rfl; refine R_p rfl ?_ rfl rfl; refine R_nil ?_; refine S_true rfl rfl ?_; refine S_seq rfl ?_; refine S_region rfl rfl ?_; refine R_take (T_build0 mp_built0) ?_ rfl rfl; (refine R_eff0 (E_storew (ds := [.slice none 0 0]) (cs := [.slice none 0 0]) rfl rfl rfl rfl (sl_one _ _ _) rfl) ?_ rfl; rintro _ _ rfl); refine R_p rfl ?_ rfl rfl; refine R_nil ?_)
    exact hB0 _ _ _ _ _ rfl (.cell rfl rfl rfl inferInstance rfl (.tmp rfl .nil)) fun w' hS => ⟨(none, 0), rfl, trivial, (hS.sublist (List.nil_sublist _)).nilrow _ _⟩
  focus (refine S_seq rfl ?_; refine S_region rfl rfl ?_; (refine R_eff (E_boxa (cs := [.slice A1 L1.length c1']) rfl) ?_ rfl rfl; rintro _ _ ⟨b1, rfl, rfl⟩); (refine R_eff (E_boxa (cs := [.slice A2 L2.length c2']) rfl) ?_ rfl rfl; rintro _ _ ⟨b2, rfl, rfl⟩); (refine R_eff (E_boxa (cs := [.slice A3 L3.length c3']) rfl) ?_ rfl rfl; rintro _ _ ⟨b3, rfl, rfl⟩); (refine R_eff (E_boxa (cs := [.slice A4 C.length c4]) rfl) ?_ rfl rfl; rintro _ _ ⟨b7, rfl, rfl⟩); (refine R_eff (E_alloca (H := [pt b7 29 [.slice A4 C.length c4], pt b3 24 [.slice A3 L3.length c3'], pt b2 24 [.slice A2 L2.length c2'], pt b1 24 [.slice A1 L1.length c1']]) rfl mp_alloc) ?_ rfl rfl; rintro _ _ ⟨b8, rfl, rfl⟩); refine R_p rfl ?_ rfl rfl; refine R_nil ?_; refine S_seq rfl ?_; refine S_region rfl rfl ?_; refine R_take (T_loada (ds := [.slice A1 L1.length c1']) rfl rfl rfl rfl (fun j v h => by simpa using h)) ?_ rfl rfl; refine R_take (T_loada (ds := [.slice A2 L2.length c2']) rfl rfl rfl rfl (fun j v h => by simpa using h)) ?_ rfl rfl; refine R_take (T_loada (ds := [.slice A3 L3.length c3']) rfl rfl rfl rfl (fun j v h => by simpa using h)) ?_ rfl rfl; refine R_take (T_build3 rfl rfl rfl (th_built3 _ _ _ _ _ _ _ _ _)) ?_ rfl rfl; (refine R_eff (E_alloca rfl th_zero) ?_ rfl rfl; rintro _ _ ⟨b10, rfl, rfl⟩); (refine R_eff0 (E_storew (cs := [.slice none 0 0, .slice none 0 0, .slice none 0 0]) (ds := [.slice A1 L1.length c1', .slice A2 L2.length c2', .slice A3 L3.length c3']) rfl rfl rfl rfl (by simp [Value.oneCell']) rfl) ?_ rfl; rintro _ _ rfl); refine R_nil ?_; refine S_seq rfl ?_; refine S_block rfl ?_; refine S_seq rfl ?_; refine S_region rfl rfl ?_; refine R_take (T_loada (ds := [.slice A1 L1.length c1', .slice A2 L2.length c2', .slice A3 L3.length c3']) rfl rfl rfl rfl (fun j v h => by simpa using h)) ?_ rfl rfl; ((refine R_eff (E_hv0 (f := 37) ⟨_, Try.func37, rfl, by kernel_rfl⟩ (fun w hS => ready_any w A1 A2 A3 c1' c2' c3' L1 L2 L3 ((Srd.old h1 (fun k _ => noOwns k)).rd w hS) ((Srd.old h2 (fun k _ => noOwns k)).rd w hS) ((Srd.old h3 (fun k _ => noOwns k)).rd w hS) hn1 hn2 hn3 hp1 hp2 hp3) rfl rfl (fun _ => rfl)) ?_ rfl rfl; rintro _ _ ⟨_, rfl, _, rfl⟩); rw [hr]); refine R_take (T_not rfl) ?_ rfl rfl; refine R_p rfl ?_ rfl rfl; refine R_nil ?_; refine S_false rfl rfl ?_; refine S_seq rfl ?_; refine S_region rfl rfl ?_; refine R_take (T_loada (ds := [.slice A4 C.length c4]) rfl rfl rfl rfl (fun j v h => by simpa using h)) ?_ rfl rfl; (refine R_eff (E_chkCW (L := C) (A := A4) (m := C.length) (c := c4) (r := true) rfl (Srd.old h4 (fun k _ => noOwns k)) (by omega) hp4 hck) ?_ rfl rfl; rintro _ _ ⟨rfl, rfl⟩); refine R_take (T_decF rfl (by decide)) ?_ rfl rfl; refine R_p rfl ?_ rfl rfl; refine R_nil ?_; refine S_false rfl rfl ?_; refine S_seq rfl ?_)
  obtain ⟨ft, hft⟩ : ∃ ft, fitsB (cnfs L1 L2 L3) C = ft := ⟨_, rfl⟩
  have hQl := cnfs_len L1 L2 L3
  refine S_draw ([pt b10 76 [.slice A1 L1.length c1', .slice A2 L2.length c2', .slice A3 L3.length c3'], pt b7 29 [.slice A4 C.length c4]]) sub_st (by kernel_rfl) rfl (by kernel_rfl) (by kernel_rfl : _ = 7) ?_
  refine D_take 0 rfl (T_loada (ds := [.slice A1 L1.length c1', .slice A2 L2.length c2', .slice A3 L3.length c3']) rfl rfl rfl rfl (fun j v h => by simpa using h)) ?_ rfl rfl (by kernel_rfl) (by kernel_rfl)
  refine D_take 2 rfl (pev_ok rfl) ?_ rfl rfl (by kernel_rfl) (by kernel_rfl)
  refine D_take 3 rfl (T_load rfl rfl rfl (by first | rfl | assumption)) ?_ rfl rfl (by kernel_rfl) (by kernel_rfl)
  refine D_one 1 rfl (E_hv1 ⟨_, Try.func40, rfl, by kernel_rfl⟩ (fun w hS => conflicts_any w A1 A2 A3 c1' c2' c3' L1 L2 L3 ((Srd.old h1 (fun k _ => noOwns k)).rd w hS) ((Srd.old h2 (fun k _ => noOwns k)).rd w hS) ((Srd.old h3 (fun k _ => noOwns k)).rd w hS) hn1 hn2 hn3) rfl rfl (fun _ => rfl)) ?_ rfl rfl (by kernel_rfl)
  rintro _ _ ⟨⟨A9, c9⟩, rfl, _, rfl⟩
  refine Nx_same sub_st ?_
  refine D_one 4 rfl (E_hv0 ⟨_, Try.func39, rfl, by kernel_rfl⟩ (fun w hS => eqf_any w A9 A4 (cnfs L1 L2 L3).length c9 C.length c4 (cnfs L1 L2 L3) C ((Srd.row (A := A9) (n := (cnfs L1 L2 L3).length) (c := c9)).rd w hS) ((Srd.old h4 (fun k _ => noOwns k)).rd w hS) (by omega) (by omega)) rfl rfl (fun _ => rfl)) ?_ rfl rfl (by kernel_rfl)
  rintro _ _ ⟨_, rfl, _, rfl⟩; rw [hft]
  refine Nx_same sub_st ?_
  refine D_take 5 rfl (T_not rfl) ?_ rfl rfl (by kernel_rfl) (by kernel_rfl)
  refine D_take 6 rfl (pev_ok rfl) ?_ rfl rfl (by kernel_rfl) (by kernel_rfl)
  refine D_done ?_ (by kernel_rfl)
  skip
  cases ft
  · have e1 : mgE L1 L2 L3 C = 170 := by rw [mgE, hr, hck, hft]; rfl
    have e2 : mgR L1 L2 L3 C = [] := by rw [mgR, hr, hck, hft]; rfl
    rw [e1, e2] at hB0
    focus (refine S_true rfl rfl ?_; refine S_seq rfl ?_; refine S_region rfl rfl ?_; refine R_take (T_build0 mp_built0) ?_ rfl rfl; (refine R_eff0 (E_storew (ds := [.slice none 0 0]) (cs := [.slice none 0 0]) rfl rfl rfl rfl (sl_one _ _ _) rfl) ?_ rfl; rintro _ _ rfl); refine R_p rfl ?_ rfl rfl; refine R_nil ?_)
    exact hB0 _ _ _ _ _ rfl (.cell rfl rfl rfl inferInstance rfl (.tmp rfl .nil)) fun w' hS => ⟨(none, 0), rfl, trivial, (hS.sublist (List.nil_sublist _)).nilrow _ _⟩
  focus (refine S_false rfl rfl ?_; refine S_skip rfl ?_; refine RS_blk ?_; refine S_seq rfl ?_; refine S_region rfl rfl ?_; (refine R_eff (E_alloca rfl mp_alloc) ?_ rfl rfl; rintro _ _ ⟨b11, rfl, rfl⟩); refine R_nil ?_; refine S_seq rfl ?_; refine S_seq rfl ?_; refine S_region rfl rfl ?_; refine R_take (T_loada (ds := [.slice A1 L1.length c1', .slice A2 L2.length c2', .slice A3 L3.length c3']) rfl rfl rfl rfl (fun j v h => by simpa using h)) ?_ rfl rfl; (refine R_eff (E_hv1 (f := 42) ⟨_, Try.func42, rfl, by kernel_rfl⟩ (fun w hS => alls_any w [.slice A1 L1.length c1', .slice A2 L2.length c2', .slice A3 L3.length c3'] rfl) rfl rfl (fun _ => rfl)) ?_ rfl rfl; rintro _ _ ⟨bI, rfl, _, rfl⟩); refine R_nil ?_; refine S_block rfl ?_)
  obtain ⟨Q, hQ⟩ : ∃ Q, allT L1 L2 L3 = Q := ⟨_, rfl⟩
  have hQ3 := allT_len L1 L2 L3
  have hin := fun c hc hs => fits_in hft (c := c) hc hs
  have hU : mgU L1 L2 L3 C = Q.filterMap (mgF C) := by rw [mgU, hQ]
  rw [hQ] at hQ3 hin
  obtain ⟨es, hes⟩ : ∃ es, (Q.map fun c => [Value.agg (cnc c).toArray]) = es := ⟨_, rfl⟩
  have hel : es.length = Q.length := by rw [← hes]; simp
  refine S_range (F := fun k => k < w.heap.size ∨ k = bI) (es := es) (ps := [40]) (X := List Rw × Option Addr × Nat) (fun x => [row 70 2 x.2.1 x.1.length x.2.2 (cellsL rwc x.1), pt b11 24 [.slice x.2.1 x.1.length x.2.2]]) (fun i x => x.1 = (Q.take i).filterMap (mgF C)) (fun _ _ => False) ([], none, 0) [pt bI 76 [.slice A1 L1.length c1', .slice A2 L2.length c2', .slice A3 L3.length c3'], pt b8 24 [.slice none 0 0], pt b7 29 [.slice A4 C.length c4]] rfl rfl ⟨_, Try.func73, rfl, by kernel_rfl⟩ (by kernel_rfl) (fun e he => ?_) (by simp) (fun w' hS => sub_st (H' := [row 70 2 none 0 0 [], pt b11 24 [.slice none 0 0], pt bI 76 [.slice A1 L1.length c1', .slice A2 L2.length c2', .slice A3 L3.length c3'], pt b8 24 [.slice none 0 0], pt b7 29 [.slice A4 C.length c4]]) w' (hS.nilrow 70 2)) (fun w' hS => ?_) (fun w' hS => reads_ok (b := bI) (Hk := [pt bI 76 [.slice A1 L1.length c1', .slice A2 L2.length c2', .slice A3 L3.length c3'], pt b8 24 [.slice none 0 0], pt b7 29 [.slice A4 C.length c4]]) hS) (fun i x w' hx hi hS => ?_) (fun y D hy => ?_) (fun y D i _ h => h.elim)
  · rw [← hes] at he
    obtain ⟨c, _, rfl⟩ := List.mem_map.1 he
    rfl
  · rw [← hes, ← hQ]
    exact alls_iter w' _ bI A1 A2 A3 c1' c2' c3' L1 L2 L3 (rd_blk (b := bI) hS rfl (.inr rfl)) (rd_old h1 (by decide) (fun k => noOwns k) hS (fun k hk => .inl hk)) (rd_old h2 (by decide) (fun k => noOwns k) hS (fun k hk => .inl hk)) (rd_old h3 (by decide) (fun k => noOwns k) hS (fun k hk => .inl hk)) hn1 hn2 hn3
  · obtain ⟨O, A8, c8⟩ := x
    dsimp only at hx
    have hi2 : i < Q.length := by omega
    have hei : es.getD i [] = [.agg (cnc (Q.getD i default)).toArray] := by rw [← hes]; exact es_at Q i hi2
    have hnx := fun c hc o ho => fm_nextC (mgF C) Q i hi2 (p := c) hc (o := o) ho
    have hOl : O.length ≤ Q.length := by
      rw [hx]
      refine Nat.le_trans (List.length_filterMap_le _ _) ?_
      rw [List.length_take]
      omega
    rw [hei]
    rw [← hx] at hnx
    have hmem : Q.getD i default ∈ Q := by simp [List.getD, hi2]
    obtain ⟨c, hc⟩ : ∃ c, Q.getD i default = c := ⟨_, rfl⟩
    have hnx := hnx c hc
    rw [hc] at hmem ⊢
    have hin := hin c hmem
    intro l rA rB B0 B1 J hfull hbeg hend hret
    have hC7 := rd_kept (b := b7) hfull rfl
    have hC4 := rd_rest h4 (by decide) (fun k => noOwns k) hfull
    have hne4 : 0 < C.length → A4 ≠ none := fun h0 => by obtain ⟨ad, rfl, _⟩ := h4.2 (by omega); simp
    focus (refine S_region rfl rfl ?_; (refine R_eff (E_alloca rfl cn_zero) ?_ rfl rfl; rintro _ _ ⟨b12, rfl, rfl⟩); (refine R_eff0 (E_storew (cs := cnc default) (ds := cnc c) rfl rfl rfl rfl (cnc_one _) rfl) ?_ rfl; rintro _ _ rfl); refine R_nil ?_)
    refine hbeg _ [pt b12 52 (cnc c), row 70 2 A8 O.length c8 (cellsL rwc O), pt b11 24 [.slice A8 O.length c8]] _ ?_ sub_st
    obtain ⟨sd, ok, hst⟩ : ∃ sd ok, settle_ c = (sd, ok) := ⟨_, _, rfl⟩
    focus (refine S_block rfl ?_; refine S_seq rfl ?_; refine S_region rfl rfl ?_; refine R_take (T_loads (ds := cnc c) rfl rfl rfl rfl rfl) ?_ rfl rfl; ((refine R_eff (E_hv0 (f := 43) ⟨_, Try.func43, rfl, by kernel_rfl⟩ (fun w hS => settled_any w c) rfl rfl (fun _ => rfl)) ?_ rfl rfl; rintro _ _ ⟨_, rfl, _, rfl⟩); rw [hst]); refine R_p rfl ?_ rfl rfl; refine R_p rfl ?_ rfl rfl; refine R_p rfl ?_ rfl rfl; (refine R_eff (E_alloca rfl sd_zero) ?_ rfl rfl; rintro _ _ ⟨b13, rfl, rfl⟩); (refine R_eff0 (E_storew (cs := sdc default) (ds := sdc sd) rfl rfl rfl rfl (sdc_one _) rfl) ?_ rfl; rintro _ _ rfl); refine R_p rfl ?_ rfl rfl; refine R_nil ?_; refine S_seq rfl ?_; refine S_seq rfl ?_; refine S_region rfl rfl ?_; refine R_p rfl ?_ rfl rfl; refine R_take (T_not rfl) ?_ rfl rfl; refine R_nil ?_)
    refine S_cut (X := Unit) (fun _ => [(11, .pointer (some ⟨b11, 0, none⟩)), (12, .pointer (some ⟨b12, 0, none⟩)), (13, .pointer (some ⟨b13, 0, none⟩))]) (fun _ => [rB, pt b13 50 (sdc (resC C c)), pt b12 52 (cnc c), row 70 2 A8 O.length c8 (cellsL rwc O), pt b11 24 [.slice A8 O.length c8]]) (fun _ => True) (fun J2 hJ2 => ?_) (fun _ _ => ?_)
    · cases ok
      · rcases idxC_fst C c.1 with ⟨h5, h6⟩ | ⟨q, h5, hq, h6⟩
        · exact absurd h6 (hin (by rw [hst]))
        have hne4 := hne4 (by omega)
        have hat := fun e v => cellsL_at (f := chc) chc_len C default q hq e v
        obtain ⟨⟨s, is, tx⟩, hx⟩ : ∃ x, C.getD q default = x := ⟨_, rfl⟩
        rw [hx] at hat h6
        have hat1 : (cellsL chc C)[q * 3 + 1]? = some (.bool is) := hat 1 _ rfl
        have hat2 : (cellsL chc C)[q * 3 + 2]? = some (sv tx) := hat 2 _ rfl
        have hres : resC C c = (is, tx) := by rw [resC, hst, h6]; rfl
        rw [hres] at hJ2
        focus (refine S_true rfl rfl ?_; refine S_seq rfl ?_; refine S_region rfl rfl ?_; refine R_p rfl ?_ rfl rfl; refine R_take (T_loadg (v := .slice A4 C.length c4) rfl rfl rfl hC7 (fun k hk => hk) rfl) ?_ rfl rfl; refine R_take (T_func rfl rfl) ?_ rfl rfl; ((refine R_eff (E_hv0 (f := 44) ⟨_, Try.func44, rfl, by kernel_rfl⟩ (fun w hS => idxfC_any w A4 C.length c4 45 [.pointer (some ⟨b12, 0, none⟩)] C (fun x => decide (x.1 = c.1)) ((Srd.old hC4 (fun k hk => hk)).rd w hS) (by omega) ⟨_, Try.func45, rfl, by kernel_rfl⟩ (fun w' hk x hx => m2_any w' b12 c x (((Srd.pt (g := b12) (n := 7) (size := 1) (off := 0) (ds := cnc c) rfl (fun j u hj => by rw [Nat.zero_add]; exact hj)).rd w hS).keep hk))) rfl rfl (fun _ => rfl)) ?_ rfl rfl; rintro _ _ ⟨_, rfl, _, rfl⟩); rw [h5]); refine R_p rfl ?_ rfl rfl; refine R_nil ?_)
        refine S_drawR (_) (fun _ h => h) (by kernel_rfl) rfl (by kernel_rfl) (by kernel_rfl) (by kernel_rfl : _ = 14) ?_
        refine D_take 0 rfl (pev_ok rfl) ?_ rfl rfl (by kernel_rfl) (by kernel_rfl)
        refine D_take 1 rfl (T_loadg (v := .slice A4 C.length c4) rfl rfl rfl hC7 (fun k hk => hk) rfl) ?_ rfl rfl (by kernel_rfl) (by kernel_rfl)
        refine D_take 2 rfl (pev_ok rfl) ?_ rfl rfl (by kernel_rfl) (by kernel_rfl)
        refine D_take 3 rfl (T_ixM (sz := 3) (q := q) rfl rfl rfl rfl rfl rfl hne4 hq) ?_ rfl rfl (by kernel_rfl) (by kernel_rfl)
        refine D_take 4 rfl (T_fap rfl rfl rfl rfl rfl hne4) ?_ rfl rfl (by kernel_rfl) (by kernel_rfl)
        refine D_take 5 rfl (T_ldr rfl rfl rfl (Srd.old hC4 (fun k hk => hk)) (by omega) hat1) ?_ rfl rfl (by kernel_rfl) (by kernel_rfl)
        refine D_take 6 rfl (pev_ok rfl) ?_ rfl rfl (by kernel_rfl) (by kernel_rfl)
        refine D_take 7 rfl (T_loadg (v := .slice A4 C.length c4) rfl rfl rfl hC7 (fun k hk => hk) rfl) ?_ rfl rfl (by kernel_rfl) (by kernel_rfl)
        refine D_take 8 rfl (pev_ok rfl) ?_ rfl rfl (by kernel_rfl) (by kernel_rfl)
        refine D_take 9 rfl (T_ixM (sz := 3) (q := q) rfl rfl rfl rfl rfl rfl hne4 hq) ?_ rfl rfl (by kernel_rfl) (by kernel_rfl)
        refine D_take 10 rfl (T_fap rfl rfl rfl rfl rfl hne4) ?_ rfl rfl (by kernel_rfl) (by kernel_rfl)
        refine D_take 11 rfl (T_ldr rfl rfl rfl (Srd.old hC4 (fun k hk => hk)) (by omega) hat2) ?_ rfl rfl (by kernel_rfl) (by kernel_rfl)
        refine D_take 12 rfl (T_build2 rfl rfl (sd_built2 is tx)) ?_ rfl rfl (by kernel_rfl) (by kernel_rfl)
        refine D_one 13 rfl (E_storew (cs := sdc sd) (ds := sdc (is, tx)) rfl rfl rfl rfl (sdc_one _) rfl) ?_ rfl rfl (by kernel_rfl)
        rintro _ _ rfl
        refine Nx_pivot (by kernel_rfl) ?_
        refine D_done ?_ (by kernel_rfl)
        skip
        skip
        exact hJ2 () _ _ trivial (Sub.cons rfl (Sub.cons rfl (Sub.cons rfl Sub.nil))) sub_st
      · have hres : resC C c = sd := by rw [resC, hst]; rfl
        rw [hres] at hJ2
        focus (refine S_false rfl rfl ?_; refine S_skip rfl ?_)
        exact hJ2 () _ _ trivial (Sub.cons rfl (Sub.cons rfl (Sub.cons rfl Sub.nil))) sub_st
    obtain ⟨⟨is, tx⟩, hres⟩ : ∃ s, resC C c = s := ⟨_, rfl⟩
    rw [hres]
    cases is
    · have hnx := hnx none (by rw [mgF, hres]; rfl)
      rw [show O ++ (none : Option Rw).toList = O by simp] at hnx
      focus (refine S_seq rfl ?_; refine S_region rfl rfl ?_; refine R_p rfl ?_ rfl rfl; refine R_take (T_load rfl rfl rfl (by first | rfl | assumption)) ?_ rfl rfl; refine R_nil ?_; refine S_false rfl rfl ?_; refine S_skip rfl ?_; refine RS_blk ?_)
      exact hend (O, A8, c8) _ _ hnx.symm sub_st
    · have hnx := hnx (some (c.1, tx)) (by rw [mgF, hres]; rfl)
      rw [show O ++ (some ((c.1, tx) : Rw)).toList = O ++ [(c.1, tx)] from rfl] at hnx
      focus (refine S_seq rfl ?_; refine S_region rfl rfl ?_; refine R_p rfl ?_ rfl rfl; refine R_take (T_load rfl rfl rfl rfl) ?_ rfl rfl; refine R_nil ?_; refine S_true rfl rfl ?_; refine S_region rfl rfl ?_; refine R_p rfl ?_ rfl rfl; refine R_take (T_load rfl rfl rfl rfl) ?_ rfl rfl; refine R_p rfl ?_ rfl rfl; refine R_take (T_load (v := sv c.1) rfl rfl rfl rfl) ?_ rfl rfl; refine R_p rfl ?_ rfl rfl; refine R_take (T_load rfl rfl rfl rfl) ?_ rfl rfl; refine R_take (T_build2 rfl rfl (rw_built2 c.1 tx)) ?_ rfl rfl; (refine R_eff (E_litS (vs := [.agg (rwc (c.1, tx)).toArray]) (size := 2) (ds := rwc (c.1, tx)) rfl rfl rfl rfl rfl rfl (by simp [vcells, rwc]) rfl (by omega)) ?_ rfl rfl; rintro _ _ ⟨vb, rfl, rfl⟩); (refine R_eff (E_appS (sz := 2) (m := O.length) (c := c8) (A := A8) rfl rfl rfl rfl rfl rfl rfl (by decide) (Srd.pt (n := 1) (g := vb) (ds := rwc (c.1, tx)) rfl (fun j u hj => by rw [Nat.zero_add]; exact hj)) (rwc_one _) (by show (O.length + 1) * 32 ≤ _; omega) (by unfold maxLen; omega)) ?_ rfl rfl; rintro _ _ ⟨A7, c7, rfl, rfl⟩); refine R_p rfl ?_ rfl rfl; (refine R_eff0 (E_store1 rfl rfl rfl rfl rfl rfl (by first | (simp; done) | (simp; omega) | decide)) ?_ rfl; rintro _ _ rfl); refine R_nil ?_; refine RS_blk ?_)
      have e1 : (O ++ [(c.1, tx)]).length = O.length + 1 := by simp
      refine hend (O ++ [(c.1, tx)], A7, c7) _ _ hnx.symm fun w' hS => ?_
      dsimp only
      rw [e1, cellsL_app, cellsL_one]
      simp only [Nat.add_zero, List.set_cons_zero] at hS
      exact sub_st w' hS
  · obtain ⟨O, A8, c8⟩ := y
    dsimp only at hy ⊢
    simp only [List.cons_append, List.nil_append]
    rw [hel, List.take_length, ← hU] at hy
    subst hy
    by_cases hfl : (mgU L1 L2 L3 C).length ≤ 32
    · have e1 : mgE L1 L2 L3 C = 0 := by rw [mgE, hr, hck, hft, if_pos rfl, if_pos rfl, if_pos rfl, if_pos hfl]
      have e2 : mgR L1 L2 L3 C = mgU L1 L2 L3 C := by rw [mgR, hr, hck, hft, if_pos rfl, if_pos rfl, if_pos rfl, if_pos hfl]
      rw [e1, e2] at hB
      focus (refine RS_blk ?_; refine S_seq rfl ?_; refine S_seq rfl ?_; refine S_region rfl rfl ?_; refine R_p rfl ?_ rfl rfl; refine R_take (T_load rfl rfl rfl (by first | rfl | assumption)) ?_ rfl rfl; refine R_p rfl ?_ rfl rfl; refine R_take (T_decF rfl (by omega)) ?_ rfl rfl; refine R_nil ?_; refine S_false rfl rfl ?_; refine S_skip rfl ?_; refine S_seq rfl ?_; refine S_region rfl rfl ?_; refine R_take (T_loads (ds := [.slice A8 (mgU L1 L2 L3 C).length c8]) rfl rfl rfl rfl rfl) ?_ rfl rfl; (refine R_eff0 (E_storew (ds := [.slice A8 (mgU L1 L2 L3 C).length c8]) (cs := [.slice none 0 0]) rfl rfl rfl rfl (sl_one _ _ _) rfl) ?_ rfl; rintro _ _ rfl); refine R_p rfl ?_ rfl rfl; refine R_nil ?_)
      refine hB _ _ _ _ _ _ _ rfl inferInstance (.cell rfl rfl rfl inferInstance rfl (.tmp rfl .nil)) fun w' hS => ⟨(A8, c8), rfl, trivial, sub_st _ hS⟩
    · have e1 : mgE L1 L2 L3 C = 6 := by rw [mgE, hr, hck, hft, if_pos rfl, if_pos rfl, if_pos rfl, if_neg hfl]
      have e2 : mgR L1 L2 L3 C = [] := by rw [mgR, hr, hck, hft, if_pos rfl, if_pos rfl, if_pos rfl, if_neg hfl]
      rw [e1, e2] at hB
      focus (refine RS_blk ?_; refine S_seq rfl ?_; refine S_seq rfl ?_; refine S_region rfl rfl ?_; refine R_p rfl ?_ rfl rfl; refine R_take (T_load rfl rfl rfl (by first | rfl | assumption)) ?_ rfl rfl; refine R_p rfl ?_ rfl rfl; refine R_take (T_decT rfl (by omega)) ?_ rfl rfl; refine R_nil ?_; refine S_true rfl rfl ?_; refine S_seq rfl ?_; refine S_region rfl rfl ?_; refine R_take (T_build0 mp_built0) ?_ rfl rfl; (refine R_eff0 (E_storew (ds := [.slice none 0 0]) (cs := [.slice none 0 0]) rfl rfl rfl rfl (sl_one _ _ _) rfl) ?_ rfl; rintro _ _ rfl); refine R_p rfl ?_ rfl rfl; refine R_nil ?_)
      refine hB _ _ _ _ _ _ _ rfl inferInstance (.cell rfl rfl rfl inferInstance rfl (.tmp rfl .nil)) fun w' hS => ⟨(none, 0), rfl, trivial, (hS.sublist (List.nil_sublist _)).nilrow _ _⟩
end Go.Proofs.Ytghfjfgpiomdhaa

namespace Go.Proofs.Ytghfjfgpiomdhaa
open Go.RowKit
open Asn (pt row rb)
set_option linter.unusedVariables false
set_option linter.unusedSimpArgs false
--@use N

def rbE (L1 L2 : List Rw) (C : List Ch) : Int := if appE L1 C = 0 then mgE L1 L2 (appR L1 C) [] else appE L1 C
def rbR (L1 L2 : List Rw) (C : List Ch) : List Rw := if appE L1 C = 0 then mgR L1 L2 (appR L1 C) [] else []
theorem appR_len (L : List Rw) (C : List Ch) : (appR L C).length ≤ 32 := by
  unfold appR
  split
  · split
    · split
      · assumption
      · simp
    · simp
  · simp
theorem appR_pth {N : Nat} (L : List Rw) (C : List Ch) (h : ∀ x ∈ L, x.1.length ≤ N) (hc : ∀ x ∈ C, x.1.length ≤ N) : ∀ x ∈ appR L C, x.1.length ≤ N := by
  unfold appR
  split
  · rename_i hL
    split
    · rename_i hC
      split
      · intro x hx
        rcases (appU_mem (chkC_srt hC).2.1 L x).1 hx with ⟨c, h1, h2, h3, h4⟩ | ⟨h1, _⟩
        · rw [← h2]; exact hc c h1
        · exact h x h1
      · simp
    · simp
  · simp
set_option maxRecDepth 100000 in
set_option maxHeartbeats 4000000 in
theorem rebase_any (w : World) (A1 A2 A4 : Option Addr) (c1' c2' c4 : Nat) (L1 L2 : List Rw) (C : List Ch) (h1 : Rd w All 2 A1 L1.length (cellsL rwc L1)) (h2 : Rd w All 2 A2 L2.length (cellsL rwc L2)) (h4 : Rd w All 3 A4 C.length (cellsL chc C)) (hn1 : L1.length ≤ 1000) (hn2 : L2.length ≤ 1000) (hn4 : C.length ≤ 1000) (hp1 : ∀ x ∈ L1, x.1.length ≤ 100000) (hp2 : ∀ x ∈ L2, x.1.length ≤ 100000) (hp4 : ∀ x ∈ C, x.1.length ≤ 100000) :
    Gives Try.prog 30 [.agg #[.slice A1 L1.length c1'], .agg #[.slice A2 L2.length c2'], .agg #[.slice A4 C.length c4]] [] w (X := Option Addr × Nat) (fun x => .tuple #[.agg #[.slice x.1 (rbR L1 L2 C).length x.2], zi (rbE L1 L2 C)]) (fun _ => True) (fun x => [row 70 2 x.1 (rbR L1 L2 C).length x.2 (cellsL rwc (rbR L1 L2 C))]) := by
  refine gives_C Try.func30 rfl Try.ntmps30 Try.results30 (by simp) (St.enter w) (fun B hB => ?_)
  obtain ⟨R, hR⟩ : ∃ R, appR L1 C = R := ⟨_, rfl⟩
  obtain ⟨e, he⟩ : ∃ e, appE L1 C = e := ⟨_, rfl⟩
  have hRl : R.length ≤ 1000 := by have := appR_len L1 C; rw [hR] at this; omega
  have hRp : ∀ x ∈ R, x.1.length ≤ 100000 := by rw [← hR]; exact appR_pth L1 C hp1 hp4
  by_cases h0 : e = 0
  · subst h0
    have e1 : rbE L1 L2 C = mgE L1 L2 R [] := by rw [rbE, he, if_pos rfl, hR]
    have e2 : rbR L1 L2 C = mgR L1 L2 R [] := by rw [rbR, he, if_pos rfl, hR]
    rw [e1, e2] at hB
    focus (refine S_seq rfl ?_; refine S_region rfl rfl ?_; (refine R_eff (E_boxa (cs := [.slice A1 L1.length c1']) rfl) ?_ rfl rfl; rintro _ _ ⟨b1, rfl, rfl⟩); (refine R_eff (E_boxa (cs := [.slice A2 L2.length c2']) rfl) ?_ rfl rfl; rintro _ _ ⟨b2, rfl, rfl⟩); (refine R_eff (E_boxa (cs := [.slice A4 C.length c4]) rfl) ?_ rfl rfl; rintro _ _ ⟨b4, rfl, rfl⟩); (refine R_eff (E_alloca (H := [pt b4 29 [.slice A4 C.length c4], pt b2 24 [.slice A2 L2.length c2'], pt b1 24 [.slice A1 L1.length c1']]) rfl mp_alloc) ?_ rfl rfl; rintro _ _ ⟨b6, rfl, rfl⟩); refine R_p rfl ?_ rfl rfl; refine R_nil ?_; refine S_seq rfl ?_; refine S_region rfl rfl ?_; refine R_take (T_loada (ds := [.slice A1 L1.length c1']) rfl rfl rfl rfl (fun j v h => by simpa using h)) ?_ rfl rfl; refine R_take (T_loada (ds := [.slice A4 C.length c4]) rfl rfl rfl rfl (fun j v h => by simpa using h)) ?_ rfl rfl; (refine R_eff (E_applyW (L := L1) (C := C) (R := R) (k := R.length) (m := L1.length) (c := c1') (m2 := C.length) (c2 := c4) (A := A1) (A2 := A4) rfl rfl (Srd.old h1 (fun k _ => noOwns k)) (Srd.old h4 (fun k _ => noOwns k)) (by omega) (by omega) hp1 hp4 hR he rfl) ?_ rfl rfl; rintro _ _ ⟨A5, c5, rfl, hne5, rfl⟩); refine R_p rfl ?_ rfl rfl; refine R_p rfl ?_ rfl rfl; refine R_p rfl ?_ rfl rfl; (refine R_eff (E_alloca rfl mp_alloc) ?_ rfl rfl; rintro _ _ ⟨b8, rfl, rfl⟩); (refine R_eff0 (E_storew (ds := [.slice A5 R.length c5]) (cs := [.slice none 0 0]) rfl rfl rfl rfl (sl_one _ _ _) rfl) ?_ rfl; rintro _ _ rfl); refine R_p rfl ?_ rfl rfl; refine R_nil ?_; refine S_seq rfl ?_; refine S_seq rfl ?_; refine S_region rfl rfl ?_; refine R_p rfl ?_ rfl rfl; refine R_take (T_decF rfl (by decide)) ?_ rfl rfl; refine R_nil ?_; refine S_false rfl rfl ?_; refine S_skip rfl ?_; refine S_seq rfl ?_; refine S_region rfl rfl ?_; refine R_take (T_loada (ds := [.slice A1 L1.length c1']) rfl rfl rfl rfl (fun j v h => by simpa using h)) ?_ rfl rfl; refine R_take (T_loada (ds := [.slice A2 L2.length c2']) rfl rfl rfl rfl (fun j v h => by simpa using h)) ?_ rfl rfl; refine R_take (T_loada (ds := [.slice A5 R.length c5]) rfl rfl rfl rfl (fun j v h => by simpa using h)) ?_ rfl rfl; refine R_take (T_build0 mp_built0) ?_ rfl rfl; (refine R_eff (E_hv1 (f := 13) ⟨_, Try.func13, rfl, by kernel_rfl⟩ (fun w hS => merge_any w A1 A2 A5 c1' c2' c5 L1 L2 R ((Srd.old h1 (fun k _ => noOwns k)).rd w hS) ((Srd.old h2 (fun k _ => noOwns k)).rd w hS) ((Srd.row (A := A5) (n := R.length) (c := c5)).rd w hS) (by omega) (by omega) hRl hp1 hp2 hRp none 0 [] (Rd.none_) (by simp) (by simp)) rfl rfl (fun _ => rfl)) ?_ rfl rfl; rintro _ _ ⟨⟨A9, c9⟩, rfl, _, rfl⟩); refine R_p rfl ?_ rfl rfl; refine R_p rfl ?_ rfl rfl; (refine R_eff0 (E_storew (ds := [.slice A9 (mgR L1 L2 R []).length c9]) (cs := [.slice none 0 0]) rfl rfl rfl rfl (sl_one _ _ _) rfl) ?_ rfl; rintro _ _ rfl); refine R_p rfl ?_ rfl rfl; refine R_nil ?_)
    exact hB _ _ _ _ _ rfl (.cell rfl rfl rfl inferInstance rfl (.tmp rfl .nil)) fun w' hS => ⟨(A9, c9), rfl, trivial, sub_st _ hS⟩
  · have e1 : rbE L1 L2 C = e := by rw [rbE, he, if_neg h0]
    have e2 : rbR L1 L2 C = [] := by rw [rbR, he, if_neg h0]
    rw [e1, e2] at hB
    have hne : ∃ k, appE L1 C = k ∧ (k = 150 ∨ k = 151 ∨ k = 6) := ⟨_, rfl, by rw [he]; rw [← he] at h0 ⊢; unfold appE at h0 ⊢; repeat' split at h0; all_goals simp_all⟩
    have hne : e = 150 ∨ e = 151 ∨ e = 6 := by obtain ⟨k, h5, h6⟩ := hne; rw [← he, h5]; exact h6
    rcases hne with rfl | rfl | rfl
    · focus (refine S_seq rfl ?_; refine S_region rfl rfl ?_; (refine R_eff (E_boxa (cs := [.slice A1 L1.length c1']) rfl) ?_ rfl rfl; rintro _ _ ⟨b1, rfl, rfl⟩); (refine R_eff (E_boxa (cs := [.slice A2 L2.length c2']) rfl) ?_ rfl rfl; rintro _ _ ⟨b2, rfl, rfl⟩); (refine R_eff (E_boxa (cs := [.slice A4 C.length c4]) rfl) ?_ rfl rfl; rintro _ _ ⟨b4, rfl, rfl⟩); (refine R_eff (E_alloca (H := [pt b4 29 [.slice A4 C.length c4], pt b2 24 [.slice A2 L2.length c2'], pt b1 24 [.slice A1 L1.length c1']]) rfl mp_alloc) ?_ rfl rfl; rintro _ _ ⟨b6, rfl, rfl⟩); refine R_p rfl ?_ rfl rfl; refine R_nil ?_; refine S_seq rfl ?_; refine S_region rfl rfl ?_; refine R_take (T_loada (ds := [.slice A1 L1.length c1']) rfl rfl rfl rfl (fun j v h => by simpa using h)) ?_ rfl rfl; refine R_take (T_loada (ds := [.slice A4 C.length c4]) rfl rfl rfl rfl (fun j v h => by simpa using h)) ?_ rfl rfl; (refine R_eff (E_applyW (L := L1) (C := C) (R := R) (k := R.length) (m := L1.length) (c := c1') (m2 := C.length) (c2 := c4) (A := A1) (A2 := A4) rfl rfl (Srd.old h1 (fun k _ => noOwns k)) (Srd.old h4 (fun k _ => noOwns k)) (by omega) (by omega) hp1 hp4 hR he rfl) ?_ rfl rfl; rintro _ _ ⟨A5, c5, rfl, hne5, rfl⟩); refine R_p rfl ?_ rfl rfl; refine R_p rfl ?_ rfl rfl; refine R_p rfl ?_ rfl rfl; (refine R_eff (E_alloca rfl mp_alloc) ?_ rfl rfl; rintro _ _ ⟨b8, rfl, rfl⟩); (refine R_eff0 (E_storew (ds := [.slice A5 R.length c5]) (cs := [.slice none 0 0]) rfl rfl rfl rfl (sl_one _ _ _) rfl) ?_ rfl; rintro _ _ rfl); refine R_p rfl ?_ rfl rfl; refine R_nil ?_; refine S_seq rfl ?_; refine S_seq rfl ?_; refine S_region rfl rfl ?_; refine R_p rfl ?_ rfl rfl; refine R_take (T_decT rfl (by decide)) ?_ rfl rfl; refine R_nil ?_; refine S_true rfl rfl ?_; refine S_seq rfl ?_; refine S_region rfl rfl ?_; refine R_take (T_build0 mp_built0) ?_ rfl rfl; refine R_p rfl ?_ rfl rfl; (refine R_eff0 (E_storew (ds := [.slice none 0 0]) (cs := [.slice none 0 0]) rfl rfl rfl rfl (sl_one _ _ _) rfl) ?_ rfl; rintro _ _ rfl); refine R_p rfl ?_ rfl rfl; refine R_nil ?_)
      exact hB _ _ _ _ _ rfl (.cell rfl rfl rfl inferInstance rfl (.tmp rfl .nil)) fun w' hS => ⟨(none, 0), rfl, trivial, (hS.sublist (List.nil_sublist _)).nilrow _ _⟩
    · focus (refine S_seq rfl ?_; refine S_region rfl rfl ?_; (refine R_eff (E_boxa (cs := [.slice A1 L1.length c1']) rfl) ?_ rfl rfl; rintro _ _ ⟨b1, rfl, rfl⟩); (refine R_eff (E_boxa (cs := [.slice A2 L2.length c2']) rfl) ?_ rfl rfl; rintro _ _ ⟨b2, rfl, rfl⟩); (refine R_eff (E_boxa (cs := [.slice A4 C.length c4]) rfl) ?_ rfl rfl; rintro _ _ ⟨b4, rfl, rfl⟩); (refine R_eff (E_alloca (H := [pt b4 29 [.slice A4 C.length c4], pt b2 24 [.slice A2 L2.length c2'], pt b1 24 [.slice A1 L1.length c1']]) rfl mp_alloc) ?_ rfl rfl; rintro _ _ ⟨b6, rfl, rfl⟩); refine R_p rfl ?_ rfl rfl; refine R_nil ?_; refine S_seq rfl ?_; refine S_region rfl rfl ?_; refine R_take (T_loada (ds := [.slice A1 L1.length c1']) rfl rfl rfl rfl (fun j v h => by simpa using h)) ?_ rfl rfl; refine R_take (T_loada (ds := [.slice A4 C.length c4]) rfl rfl rfl rfl (fun j v h => by simpa using h)) ?_ rfl rfl; (refine R_eff (E_applyW (L := L1) (C := C) (R := R) (k := R.length) (m := L1.length) (c := c1') (m2 := C.length) (c2 := c4) (A := A1) (A2 := A4) rfl rfl (Srd.old h1 (fun k _ => noOwns k)) (Srd.old h4 (fun k _ => noOwns k)) (by omega) (by omega) hp1 hp4 hR he rfl) ?_ rfl rfl; rintro _ _ ⟨A5, c5, rfl, hne5, rfl⟩); refine R_p rfl ?_ rfl rfl; refine R_p rfl ?_ rfl rfl; refine R_p rfl ?_ rfl rfl; (refine R_eff (E_alloca rfl mp_alloc) ?_ rfl rfl; rintro _ _ ⟨b8, rfl, rfl⟩); (refine R_eff0 (E_storew (ds := [.slice A5 R.length c5]) (cs := [.slice none 0 0]) rfl rfl rfl rfl (sl_one _ _ _) rfl) ?_ rfl; rintro _ _ rfl); refine R_p rfl ?_ rfl rfl; refine R_nil ?_; refine S_seq rfl ?_; refine S_seq rfl ?_; refine S_region rfl rfl ?_; refine R_p rfl ?_ rfl rfl; refine R_take (T_decT rfl (by decide)) ?_ rfl rfl; refine R_nil ?_; refine S_true rfl rfl ?_; refine S_seq rfl ?_; refine S_region rfl rfl ?_; refine R_take (T_build0 mp_built0) ?_ rfl rfl; refine R_p rfl ?_ rfl rfl; (refine R_eff0 (E_storew (ds := [.slice none 0 0]) (cs := [.slice none 0 0]) rfl rfl rfl rfl (sl_one _ _ _) rfl) ?_ rfl; rintro _ _ rfl); refine R_p rfl ?_ rfl rfl; refine R_nil ?_)
      exact hB _ _ _ _ _ rfl (.cell rfl rfl rfl inferInstance rfl (.tmp rfl .nil)) fun w' hS => ⟨(none, 0), rfl, trivial, (hS.sublist (List.nil_sublist _)).nilrow _ _⟩
    · focus (refine S_seq rfl ?_; refine S_region rfl rfl ?_; (refine R_eff (E_boxa (cs := [.slice A1 L1.length c1']) rfl) ?_ rfl rfl; rintro _ _ ⟨b1, rfl, rfl⟩); (refine R_eff (E_boxa (cs := [.slice A2 L2.length c2']) rfl) ?_ rfl rfl; rintro _ _ ⟨b2, rfl, rfl⟩); (refine R_eff (E_boxa (cs := [.slice A4 C.length c4]) rfl) ?_ rfl rfl; rintro _ _ ⟨b4, rfl, rfl⟩); (refine R_eff (E_alloca (H := [pt b4 29 [.slice A4 C.length c4], pt b2 24 [.slice A2 L2.length c2'], pt b1 24 [.slice A1 L1.length c1']]) rfl mp_alloc) ?_ rfl rfl; rintro _ _ ⟨b6, rfl, rfl⟩); refine R_p rfl ?_ rfl rfl; refine R_nil ?_; refine S_seq rfl ?_; refine S_region rfl rfl ?_; refine R_take (T_loada (ds := [.slice A1 L1.length c1']) rfl rfl rfl rfl (fun j v h => by simpa using h)) ?_ rfl rfl; refine R_take (T_loada (ds := [.slice A4 C.length c4]) rfl rfl rfl rfl (fun j v h => by simpa using h)) ?_ rfl rfl; (refine R_eff (E_applyW (L := L1) (C := C) (R := R) (k := R.length) (m := L1.length) (c := c1') (m2 := C.length) (c2 := c4) (A := A1) (A2 := A4) rfl rfl (Srd.old h1 (fun k _ => noOwns k)) (Srd.old h4 (fun k _ => noOwns k)) (by omega) (by omega) hp1 hp4 hR he rfl) ?_ rfl rfl; rintro _ _ ⟨A5, c5, rfl, hne5, rfl⟩); refine R_p rfl ?_ rfl rfl; refine R_p rfl ?_ rfl rfl; refine R_p rfl ?_ rfl rfl; (refine R_eff (E_alloca rfl mp_alloc) ?_ rfl rfl; rintro _ _ ⟨b8, rfl, rfl⟩); (refine R_eff0 (E_storew (ds := [.slice A5 R.length c5]) (cs := [.slice none 0 0]) rfl rfl rfl rfl (sl_one _ _ _) rfl) ?_ rfl; rintro _ _ rfl); refine R_p rfl ?_ rfl rfl; refine R_nil ?_; refine S_seq rfl ?_; refine S_seq rfl ?_; refine S_region rfl rfl ?_; refine R_p rfl ?_ rfl rfl; refine R_take (T_decT rfl (by decide)) ?_ rfl rfl; refine R_nil ?_; refine S_true rfl rfl ?_; refine S_seq rfl ?_; refine S_region rfl rfl ?_; refine R_take (T_build0 mp_built0) ?_ rfl rfl; refine R_p rfl ?_ rfl rfl; (refine R_eff0 (E_storew (ds := [.slice none 0 0]) (cs := [.slice none 0 0]) rfl rfl rfl rfl (sl_one _ _ _) rfl) ?_ rfl; rintro _ _ rfl); refine R_p rfl ?_ rfl rfl; refine R_nil ?_)
      exact hB _ _ _ _ _ rfl (.cell rfl rfl rfl inferInstance rfl (.tmp rfl .nil)) fun w' hS => ⟨(none, 0), rfl, trivial, (hS.sublist (List.nil_sublist _)).nilrow _ _⟩
end Go.Proofs.Ytghfjfgpiomdhaa
