/- Digests: the laws of blocks and of texts. -/
import Derived.Test.YtemgfoakffappaaDoorShE
import Derived.Test.YtemgfoakffappaaDoorShF
namespace Go.Proofs.YtemgfoakffappaaDoor
open Go.RowKit Go.ChangeShapes Go.WideShapes Go.ChangeAt
open Go.ChangeMaps (open_string shut_string)
open Asn (pt row rb)
set_option linter.unusedVariables false
set_option linter.unusedSimpArgs false
--@use N
section
variable {P : Program} {n : Nat} {w0 : World} {M : Nat → Prop} {T : Slots} {H Hr : List Asn} {dd : Option Tmp} {tt : TypeId} {pos : String} {af : Array Edge} {g : Option (Nat × Bool)} {x y z : Operand} {ts : Array TypeId}
/-- a text is what it is -/
theorem T_streq {t u : TypeId} {r : ByteArray} (hx : oget T x = some (.string r)) (hy : oget T y = some (.string r)) :
    Tk P n w0 M T H ⟨dd, .binOp .eql t x y u, tt, pos, af, g⟩ (.bool true) := by
  have h := T_scmp (P := P) (n := n) (w0 := w0) (M := M) (H := H) (dd := dd) (tt := tt) (pos := pos) (af := af) (g := g) (t := t) (u := u) (op := .eql) hx hy rfl
  rwa [decide_eq_true rfl] at h
theorem T_minN {s t : TypeId} {kk : IntKind} {i j : Int} {p q : Nat} (hx : oget T x = some (.int kk i)) (hy : oget T y = some (.int kk j)) [hi : NatOf i p] [hj : NatOf j q] : Tk P n w0 M T H ⟨dd, .call ⟨.builtin .min, #[x, y], #[s, t]⟩, tt, pos, af, g⟩ (.int kk ((min p q : Nat) : Int)) := by
  rw [hi.is] at hx
  rw [hj.is] at hy
  have h := T_min (P := P) (n := n) (w0 := w0) (M := M) (H := H) (dd := dd) (tt := tt) (pos := pos) (af := af) (g := g) (s := s) (t := t) hx hy
  have e : (if (q : Int) < p then (q : Int) else p) = ((min p q : Nat) : Int) := by
    split <;> omega
  rwa [e] at h
theorem T_eqbsS [HasTab P] {s e u : TypeId} {m : Nat} {l1 : List UInt8} {i ei : Ti} (hx : oget T x = some (.agg (l1.map bv).toArray)) (hy : oget T y = some (.agg (l1.map bv).toArray)) (hs : ty P s = some i) (hi : i.desc = .array m e) (he : ty P e = some ei) (hei : ei.desc = .int .u8) (hz : ei.size = 1) (hg : P.eqGuardType P.depth s = false) (h1 : l1.length = m) :
    Tk P n w0 M T H ⟨dd, .binOp .eql s x y u, tt, pos, af, g⟩ (.bool true) := by
  have h := T_eqbs (n := n) (w0 := w0) (M := M) (H := H) (dd := dd) (tt := tt) (pos := pos) (af := af) (g := g) (u := u) hx hy hs hi he hei hz hg h1 h1
  rwa [decide_eq_true rfl] at h
/-- text[:hi] -/
theorem T_slstr [HasTab P] {s : TypeId} {r : ByteArray} {q : Nat} {i : Int} {kk : IntKind} {ti : Ti} (hx : oget T x = some (.string r)) (hy : oget T y = some (.int kk i)) [hi : NatOf i q] (hs : ty P s = some ti) (hd : ti.desc = .string) (hq : q ≤ r.size) :
    Tk P n w0 M T H ⟨dd, .slice s x none (some y) none, tt, pos, af, g⟩ (.string (r.extract 0 q)) := .mk fun a w ha hS => by
  rw [hi.is] at hy
  have hu := run_underlying (hd ▸ ty_ok hs) w
  simp [execOp, ha.eval hx, ha.eval hy, Instr.sliceAt, Instr.slice, hu, Instr.sliceBounds, Instr.sliceBound, asIntOf, hq]
end
theorem bl_ofList (l : List UInt8) : bl ⟨l.toArray⟩ = l := by simp [bl]
theorem idl (l : List UInt8) (h : l.length = 32) : (l.map bv).length = 32 := by simpa using h
theorem Gives.pure {P : Program} {f : FuncId} {vs : List Value} {w : World} {v : Value} (h : Gives P f vs [] w (X := Unit) (fun _ => v) (fun _ => True) (fun _ => [])) : Calls P f vs.toArray w fun e w' => e = .returned v ∧ Kp All w w' :=
  h.mono fun e w' ⟨_, he, _, hS⟩ => ⟨he, hS.kpO⟩
theorem E_wakes {n : Nat} {w0 : World} {M : Nat → Prop} {T : Slots} {H : List Asn} {dd : Option Tmp} {tt : TypeId} {pos : String} {af : Array Edge} {g : Option (Nat × Bool)} {ts : Array TypeId} (hr : Roots w0) (hM : ¬ M 0) : Ef Tryd.prog n w0 M T H ⟨dd, .call ⟨.value (.func 10), #[], ts⟩, tt, pos, af, g⟩ (fun u H' => u = .bool true ∧ H' = H) := by
  refine (E_gv ⟨_, Tryd.func10, rfl, by kernel_rfl⟩ (vs := []) (by simp [ogets]) fun w hS => wakes03 w (hr.kp hS.kp hM)).mono ?_
  rintro v H' ⟨_, rfl, _, rfl⟩ w hS
  exact ⟨_, _, rfl, ⟨rfl, rfl⟩, hS⟩

set_option maxRecDepth 100000 in
set_option maxHeartbeats 4000000 in
theorem blocks_walk (w : World) (hr : Roots w) (h : List UInt32) (lh : h.length = 8) (l : List UInt8) (hl : l.length = 64) :
    Gives Tryd.prog 3 [.agg (h.map w32).toArray, .agg (l.map bv).toArray] [] w (X := Unit) (fun _ => .bool true) (fun _ => True) (fun _ => []) := by
  refine gives_S Tryd.func3 rfl Tryd.ntmps3 Tryd.results3 (by simp) (St.enter w) (fun B hB => ?_)
  have lh2 : (h.map w32).length = 8 := by simpa using lh
  have ll2 : (l.map bv).length = 64 := by simpa using hl
  focus (refine S_seq rfl ?_; refine S_region rfl rfl ?_; (refine R_eff (E_boxa (cs := h.map w32) rfl) ?_ rfl rfl; rintro _ _ ⟨b2, rfl, rfl⟩); (refine R_eff (E_boxa (cs := l.map bv) rfl) ?_ rfl rfl; rintro _ _ ⟨b3, rfl, rfl⟩); refine R_p rfl ?_ rfl rfl; refine R_nil ?_; refine S_seq rfl ?_; refine S_seq rfl ?_; refine S_region rfl rfl ?_; (refine R_eff (E_wakes hr (noOwns 0)) ?_ rfl rfl; rintro _ _ ⟨rfl, rfl⟩); refine R_take (T_not rfl) ?_ rfl rfl; refine R_nil ?_; refine S_false rfl rfl ?_; refine S_skip rfl ?_; refine S_seq rfl ?_)
  refine S_draw ([pt b2 23 (h.map w32), pt b3 24 (l.map bv)]) sub_st (by kernel_rfl) rfl (by kernel_rfl) (by kernel_rfl : _ = 9) ?_
  (refine D_take 0 rfl (T_loada (ds := h.map w32) rfl rfl rfl lh2 (fun q v hq => by rw [Nat.zero_add]; exact hq)) ?_ rfl rfl (by kernel_rfl) (by kernel_rfl))
  (refine D_take 1 rfl (T_loada (ds := l.map bv) rfl rfl rfl ll2 (fun q v hq => by rw [Nat.zero_add]; exact hq)) ?_ rfl rfl (by kernel_rfl) (by kernel_rfl))
  (refine D_take 3 rfl (T_loada (ds := h.map w32) rfl rfl rfl lh2 (fun q v hq => by rw [Nat.zero_add]; exact hq)) ?_ rfl rfl (by kernel_rfl) (by kernel_rfl))
  refine D_take 4 rfl (T_slarr rfl rfl rfl rfl) ?_ rfl rfl (by kernel_rfl) (by kernel_rfl)
  refine D_one 2 rfl (E_block rfl rfl lh hl hr (noOwns 0)) ?_ rfl rfl (by kernel_rfl)
  rintro _ _ ⟨rfl, rfl⟩
  refine Nx_same sub_st ?_
  refine D_one 5 rfl (E_known) ?_ rfl rfl (by kernel_rfl)
  rintro _ _ ⟨gk, rfl, rfl⟩
  refine Nx_same sub_st ?_
  refine D_one 6 rfl (E_refinto (l := l) rfl rfl rfl lh (Src.pt hl (by decide) (by decide) (fun q v hq => by rw [Nat.zero_add]; exact hq)) hl (Srd.pt rfl (fun q v hq => by rw [Nat.zero_add]; exact hq))) ?_ rfl rfl (by kernel_rfl)
  rintro _ _ ⟨rfl, rfl⟩
  refine Nx_same sub_st ?_
  refine D_take 7 rfl (T_eqw32 rfl rfl rfl rfl rfl rfl rfl (by kernel_rfl) (blockW_len _ _) (blockW_len _ _)) ?_ rfl rfl (by kernel_rfl) (by kernel_rfl)
  refine D_take 8 rfl (pev_ok rfl) ?_ rfl rfl (by kernel_rfl) (by kernel_rfl)
  refine D_done ?_ (by kernel_rfl)
  skip
  skip
  refine hB _ _ _ _ _ rfl rfl fun w' hS => ⟨(), ?_, trivial, hS.sublist (List.nil_sublist _)⟩
  simp [retv]
theorem ShaBlocks_open {H : Type} {enc : TypeId × Value → H} (W : World) {r : Reach} (base : Nat) (v0 v1 : Value) {d0 d1 : DataW H} {p0 p1 : List MemPlace}
    (hv0 : Value.okWide Tryd.prog W r base 23 v0) (hv1 : Value.okWide Tryd.prog W r base 24 v1)
    (h0 : DataW.Trod enc Tryd.prog W 0 (fun _ => true) true 23 v0 d0 p0) (h1 : DataW.Trod enc Tryd.prog W 0 (fun _ => true) true 24 v1 d1 p1) (hL : laidMetH Tryd.prog [("confluence/sha.roots", Rows.laid_confluence_sha_roots)] W) :
    Calls Tryd.prog 3 #[v0, v1] W fun e w' => e = .returned (.bool true) ∧ Kp All W w' := by
  obtain ⟨h, lh, rfl⟩ := open_arr32 Tryd.underlying23 (by kernel_rfl) hv0 h0
  obtain ⟨l, hl, rfl⟩ := open_arr8 Tryd.underlying24 (by kernel_rfl) hv1 h1
  exact (blocks_walk W (laid_roots hL) h lh l hl).pure

set_option maxRecDepth 100000 in
set_option maxHeartbeats 4000000 in
theorem texts_walk (w : World) (hr : Roots w) (l : List UInt8) (hl : l.length = 32) (s : ByteArray) :
    Gives Tryd.prog 4 [.agg (l.map bv).toArray, .string s] [] w (X := Unit) (fun _ => .bool true) (fun _ => True) (fun _ => []) := by
  refine gives_S Tryd.func4 rfl Tryd.ntmps4 Tryd.results4 (by simp) (St.enter w) (fun B hB => ?_)
  have ll2 : (l.map bv).length = 32 := by simpa using hl
  focus (refine S_seq rfl ?_; refine S_region rfl rfl ?_; (refine R_eff (E_boxa (cs := l.map bv) rfl) ?_ rfl rfl; rintro _ _ ⟨b2, rfl, rfl⟩); refine R_p rfl ?_ rfl rfl; refine R_nil ?_; refine S_seq rfl ?_; refine S_seq rfl ?_; refine S_region rfl rfl ?_; (refine R_eff (E_wakes hr (noOwns 0)) ?_ rfl rfl; rintro _ _ ⟨rfl, rfl⟩); refine R_take (T_not rfl) ?_ rfl rfl; refine R_nil ?_; refine S_false rfl rfl ?_; refine S_skip rfl ?_; refine S_seq rfl ?_; refine S_region rfl rfl ?_; refine R_p rfl ?_ rfl rfl; refine R_p rfl ?_ rfl rfl; refine R_p rfl ?_ rfl rfl; refine R_take (T_minN rfl rfl) ?_ rfl rfl; refine R_take (T_slstr rfl rfl rfl rfl (Nat.min_le_left _ _)) ?_ rfl rfl; refine R_p rfl ?_ rfl rfl; refine R_nil ?_; refine S_seq rfl ?_; refine S_region rfl rfl ?_; refine R_p rfl ?_ rfl rfl)
  obtain ⟨s2, hs2⟩ : ∃ s2, s.extract 0 (min s.size 200) = s2 := ⟨_, rfl⟩
  have hsz : s2.size ≤ 200 := by rw [← hs2, ByteArray.size_extract]; omega
  rw [hs2]
  have hp2 : (((parseL (bl s2)).getD noId).map bv).length = 32 := by rw [List.length_map, parse_len]
  cases hok : okL (bl s2)
  all_goals
    focus ((refine R_eff (E_parse (s := s2) rfl (by omega)) ?_ rfl rfl; rintro _ _ ⟨rfl, rfl⟩; rw [hok]); refine R_p rfl ?_ rfl rfl; refine R_p rfl ?_ rfl rfl; refine R_p rfl ?_ rfl rfl; (refine R_eff (E_alloca rfl noId_alloc) ?_ rfl rfl; rintro _ _ ⟨_, rfl, rfl⟩); (refine R_eff0 (E_storew (ds := ((parseL (bl s2)).getD noId).map bv) (cs := noId.map bv) rfl rfl rfl hp2 (bv_one _) hp2.symm) ?_ rfl; rintro _ _ rfl); refine R_p rfl ?_ rfl rfl; refine R_nil ?_; refine S_seq rfl ?_; refine S_region rfl rfl ?_; refine R_p rfl ?_ rfl rfl; (refine R_eff (E_refparse (s := s2) rfl (by omega)) ?_ rfl rfl; rintro _ _ ⟨rfl, rfl⟩; rw [hok]); refine R_p rfl ?_ rfl rfl; refine R_p rfl ?_ rfl rfl; refine R_p rfl ?_ rfl rfl; (refine R_eff (E_alloca rfl noId_alloc) ?_ rfl rfl; rintro _ _ ⟨_, rfl, rfl⟩); (refine R_eff0 (E_storew (ds := ((parseL (bl s2)).getD noId).map bv) (cs := noId.map bv) rfl rfl rfl hp2 (bv_one _) hp2.symm) ?_ rfl; rintro _ _ rfl); refine R_p rfl ?_ rfl rfl; refine R_nil ?_; refine S_seq rfl ?_)
    rename_i b5 _ b7 _
    refine S_draw ([pt b2 33 (l.map bv), pt b5 33 (((parseL (bl s2)).getD noId).map bv), pt b7 33 (((parseL (bl s2)).getD noId).map bv)]) sub_st (by kernel_rfl) rfl (by kernel_rfl) (by kernel_rfl : _ = 24) ?_
    (refine D_take 0 rfl (T_loada (ds := l.map bv) rfl rfl rfl ll2 (fun q v hq => by rw [Nat.zero_add]; exact hq)) ?_ rfl rfl (by kernel_rfl) (by kernel_rfl))
    (refine D_take 2 rfl (T_loada (ds := l.map bv) rfl rfl rfl ll2 (fun q v hq => by rw [Nat.zero_add]; exact hq)) ?_ rfl rfl (by kernel_rfl) (by kernel_rfl))
    refine D_one 1 rfl (E_text rfl hl) ?_ rfl rfl (by kernel_rfl)
    rintro _ _ ⟨rfl, rfl⟩
    refine Nx_same sub_st ?_
    refine D_one 3 rfl (E_reftext rfl hl) ?_ rfl rfl (by kernel_rfl)
    rintro _ _ ⟨rfl, rfl⟩
    refine Nx_same sub_st ?_
    refine D_take 4 rfl (T_streq rfl rfl) ?_ rfl rfl (by kernel_rfl) (by kernel_rfl)
    refine D_take 5 rfl (pev_ok rfl) ?_ rfl rfl (by kernel_rfl) (by kernel_rfl)
    (refine D_take 6 rfl (T_loada (ds := ((parseL (bl s2)).getD noId).map bv) rfl rfl rfl hp2 (fun q v hq => by rw [Nat.zero_add]; exact hq)) ?_ rfl rfl (by kernel_rfl) (by kernel_rfl))
    (refine D_take 7 rfl (T_loada (ds := ((parseL (bl s2)).getD noId).map bv) rfl rfl rfl hp2 (fun q v hq => by rw [Nat.zero_add]; exact hq)) ?_ rfl rfl (by kernel_rfl) (by kernel_rfl))
    refine D_take 8 rfl (T_eqbsS rfl rfl rfl rfl rfl rfl rfl (by kernel_rfl) (parse_len _)) ?_ rfl rfl (by kernel_rfl) (by kernel_rfl)
    refine D_take 9 rfl (pev_ok rfl) ?_ rfl rfl (by kernel_rfl) (by kernel_rfl)
    refine D_take 10 rfl (pev_ok rfl) ?_ rfl rfl (by kernel_rfl) (by kernel_rfl)
    refine D_take 11 rfl (pev_ok rfl) ?_ rfl rfl (by kernel_rfl) (by kernel_rfl)
    refine D_take 12 rfl (pev_ok rfl) ?_ rfl rfl (by kernel_rfl) (by kernel_rfl)
    refine D_take 13 rfl (pev_ok rfl) ?_ rfl rfl (by kernel_rfl) (by kernel_rfl)
    refine D_take 14 rfl (T_beq rfl rfl rfl rfl) ?_ rfl rfl (by kernel_rfl) (by kernel_rfl)
    refine D_take 15 rfl (pev_ok rfl) ?_ rfl rfl (by kernel_rfl) (by kernel_rfl)
    refine D_take 16 rfl (pev_ok rfl) ?_ rfl rfl (by kernel_rfl) (by kernel_rfl)
    refine D_take 17 rfl (pev_ok rfl) ?_ rfl rfl (by kernel_rfl) (by kernel_rfl)
    refine D_take 18 rfl (pev_ok rfl) ?_ rfl rfl (by kernel_rfl) (by kernel_rfl)
    first | refine D_take 19 rfl (pev_ok rfl) ?_ rfl rfl (by kernel_rfl) (by kernel_rfl) | refine D_skip 19 rfl ?_ rfl rfl (by kernel_rfl) (by kernel_rfl)
    first | refine D_take 20 rfl (pev_ok rfl) ?_ rfl rfl (by kernel_rfl) (by kernel_rfl) | refine D_skip 20 rfl ?_ rfl rfl (by kernel_rfl) (by kernel_rfl)
    refine D_take 21 rfl (pev_ok rfl) ?_ rfl rfl (by kernel_rfl) (by kernel_rfl)
    refine D_take 22 rfl (pev_ok rfl) ?_ rfl rfl (by kernel_rfl) (by kernel_rfl)
    refine D_take 23 rfl (pev_ok rfl) ?_ rfl rfl (by kernel_rfl) (by kernel_rfl)
    refine D_done ?_ (by kernel_rfl)
    skip
    skip
    refine hB _ _ _ _ _ rfl rfl fun w' hS => ⟨(), ?_, trivial, hS.sublist (List.nil_sublist _)⟩
    first | rfl | (simp [retv]; done)
theorem ShaTexts_open {H : Type} {enc : TypeId × Value → H} (W : World) {r : Reach} (base : Nat) (v0 v1 : Value) {d0 d1 : DataW H} {p0 p1 : List MemPlace}
    (hv0 : Value.okWide Tryd.prog W r base 33 v0) (hv1 : Value.okWide Tryd.prog W r base 9 v1)
    (h0 : DataW.Trod enc Tryd.prog W 0 (fun _ => true) true 33 v0 d0 p0) (h1 : DataW.Trod enc Tryd.prog W 0 (fun _ => true) true 9 v1 d1 p1) (hL : laidMetH Tryd.prog [("confluence/sha.roots", Rows.laid_confluence_sha_roots)] W) :
    Calls Tryd.prog 4 #[v0, v1] W fun e w' => e = .returned (.bool true) ∧ Kp All W w' := by
  obtain ⟨l, hl, rfl⟩ := open_idv hv0 h0
  obtain ⟨s, rfl⟩ := okWide_string Tryd.underlying9 hv1
  exact (texts_walk W (laid_roots hL) l hl s).pure
end Go.Proofs.YtemgfoakffappaaDoor
