/- Digests: the laws of there and back, and of the order. -/
import Derived.Test.YtemgfoakffappaaDoorShG
namespace Go.Proofs.YtemgfoakffappaaDoor
open Go.RowKit Go.ChangeShapes Go.WideShapes Go.ChangeAt
open Go.ChangeMaps (open_string shut_string)
open Asn (pt row rb)
set_option linter.unusedVariables false
set_option linter.unusedSimpArgs false
--@use N
section
variable {P : Program} {n : Nat} {w0 : World} {M : Nat → Prop} {T : Slots} {H Hr : List Asn} {dd : Option Tmp} {tt : TypeId} {pos : String} {af : Array Edge} {g : Option (Nat × Bool)} {x y z : Operand} {ts : Array TypeId}
theorem T_nebsS [HasTab P] {s e u : TypeId} {m : Nat} {l1 : List UInt8} {i ei : Ti} (hx : oget T x = some (.agg (l1.map bv).toArray)) (hy : oget T y = some (.agg (l1.map bv).toArray)) (hs : ty P s = some i) (hi : i.desc = .array m e) (he : ty P e = some ei) (hei : ei.desc = .int .u8) (hz : ei.size = 1) (hg : P.eqGuardType P.depth s = false) (h1 : l1.length = m) :
    Tk P n w0 M T H ⟨dd, .binOp .neq s x y u, tt, pos, af, g⟩ (.bool false) := by
  have h := T_nebs (n := n) (w0 := w0) (M := M) (H := H) (dd := dd) (tt := tt) (pos := pos) (af := af) (g := g) (u := u) hx hy hs hi he hei hz hg h1 h1
  rwa [decide_eq_false (fun h => h rfl)] at h
end
theorem T_cast {P : Program} {n : Nat} {w0 : World} {M : Nat → Prop} {T : Slots} {H : List Asn} {o : Oper} {v v' : Value} (h : Tk P n w0 M T H o v) (e : v = v') : Tk P n w0 M T H o v' := e ▸ h
theorem ofList_size (l : List UInt8) : (⟨l.toArray⟩ : ByteArray).size = l.length := by simp [ByteArray.size]
theorem bl_inj {r s : ByteArray} (h : bl r = bl s) : r = s := by
  cases r; cases s
  simp only [bl] at h
  congr 1
  exact Array.toList_inj.1 h

set_option maxRecDepth 100000 in
set_option maxHeartbeats 4000000 in
theorem back_walk (w : World) (hr : Roots w) (l : List UInt8) (hl : l.length = 32) (s : ByteArray) :
    Gives Tryd.prog 5 [.agg (l.map bv).toArray, .string s] [] w (X := Unit) (fun _ => .bool true) (fun _ => True) (fun _ => []) := by
  refine gives_S Tryd.func5 rfl Tryd.ntmps5 Tryd.results5 (by simp) (St.enter w) (fun B hB => ?_)
  have ll2 : (l.map bv).length = 32 := by simpa using hl
  have htl : ((⟨(textL l).toArray⟩ : ByteArray).size : Int) = 64 := by rw [ofList_size, textL_len, hl]; rfl
  focus (refine S_seq rfl ?_; refine S_region rfl rfl ?_; (refine R_eff (E_boxa (cs := l.map bv) rfl) ?_ rfl rfl; rintro _ _ ⟨b2, rfl, rfl⟩); refine R_p rfl ?_ rfl rfl; refine R_nil ?_; refine S_seq rfl ?_; refine S_seq rfl ?_; refine S_region rfl rfl ?_; (refine R_eff (E_wakes hr (noOwns 0)) ?_ rfl rfl; rintro _ _ ⟨rfl, rfl⟩); refine R_take (T_not rfl) ?_ rfl rfl; refine R_nil ?_; refine S_false rfl rfl ?_; refine S_skip rfl ?_; refine S_seq rfl ?_; refine S_region rfl rfl ?_; refine R_p rfl ?_ rfl rfl; refine R_p rfl ?_ rfl rfl; refine R_p rfl ?_ rfl rfl; refine R_take (T_minN rfl rfl) ?_ rfl rfl; refine R_take (T_slstr rfl rfl rfl rfl (Nat.min_le_left _ _)) ?_ rfl rfl; refine R_p rfl ?_ rfl rfl; refine R_nil ?_; refine S_seq rfl ?_; refine S_region rfl rfl ?_; refine R_take (T_loada (ds := l.map bv) rfl rfl rfl ll2 (fun q v hq => by rw [Nat.zero_add]; exact hq)) ?_ rfl rfl; (refine R_eff (E_text rfl hl) ?_ rfl rfl; rintro _ _ ⟨rfl, rfl⟩); (refine R_eff (E_parse (s := ⟨(textL l).toArray⟩) rfl (by rw [ofList_size, textL_len]; omega)) ?_ rfl rfl; rintro _ _ ⟨rfl, rfl⟩; rw [bl_ofList, text_ok hl, text_parse hl]); refine R_p rfl ?_ rfl rfl; refine R_p rfl ?_ rfl rfl; refine R_p rfl ?_ rfl rfl; (refine R_eff (E_alloca rfl noId_alloc) ?_ rfl rfl; rintro _ _ ⟨_, rfl, rfl⟩); (refine R_eff0 (E_storew (ds := l.map bv) (cs := noId.map bv) rfl rfl rfl ll2 (bv_one _) ll2.symm) ?_ rfl; rintro _ _ rfl); refine R_p rfl ?_ rfl rfl; refine R_nil ?_; refine S_seq rfl ?_; refine S_seq rfl ?_; refine S_region rfl rfl ?_; refine R_p rfl ?_ rfl rfl; refine R_p rfl ?_ rfl rfl; refine R_p rfl ?_ rfl rfl; refine R_take (T_loada (ds := l.map bv) rfl rfl rfl ll2 (fun q v hq => by rw [Nat.zero_add]; exact hq)) ?_ rfl rfl; refine R_take (T_loada (ds := l.map bv) rfl rfl rfl ll2 (fun q v hq => by rw [Nat.zero_add]; exact hq)) ?_ rfl rfl; refine R_take (T_nebsS rfl rfl rfl rfl rfl rfl rfl (by kernel_rfl) hl) ?_ rfl rfl; refine R_p rfl ?_ rfl rfl; refine R_p rfl ?_ rfl rfl; refine R_take (T_loada (ds := l.map bv) rfl rfl rfl ll2 (fun q v hq => by rw [Nat.zero_add]; exact hq)) ?_ rfl rfl; (refine R_eff (E_text rfl hl) ?_ rfl rfl; rintro _ _ ⟨rfl, rfl⟩); refine R_p rfl ?_ rfl rfl; refine R_p rfl ?_ rfl rfl; refine R_p rfl ?_ rfl rfl; refine R_nil ?_; (refine S_if rfl rfl (fun hs => ?_) (fun hs => ?_)); refine S_seq rfl ?_; refine S_region rfl rfl ?_; refine R_p rfl ?_ rfl rfl; refine R_nil ?_; rotate_left; refine S_skip rfl ?_; refine S_seq rfl ?_; refine S_region rfl rfl ?_; refine R_p rfl ?_ rfl rfl; rotate_left)
  any_goals (exfalso; omega)
  obtain ⟨s2, hs2⟩ : ∃ s2, s.extract 0 (min s.size 200) = s2 := ⟨_, rfl⟩
  have hsz : s2.size ≤ 200 := by rw [← hs2, ByteArray.size_extract]; omega
  rw [hs2]
  have hp2 : (((parseL (bl s2)).getD noId).map bv).length = 32 := by rw [List.length_map, parse_len]
  cases hok : okL (bl s2)
  · have hpn : (parseL (bl s2)).getD noId = noId := by rw [parseL, hok]; rfl
    focus ((refine R_eff (E_parse (s := s2) rfl (by omega)) ?_ rfl rfl; rintro _ _ ⟨rfl, rfl⟩; rw [hok, hpn]); refine R_p rfl ?_ rfl rfl; refine R_p rfl ?_ rfl rfl; refine R_p rfl ?_ rfl rfl; (refine R_eff (E_alloca rfl noId_alloc) ?_ rfl rfl; rintro _ _ ⟨_, rfl, rfl⟩); (refine R_eff0 (E_storew (ds := noId.map bv) (cs := noId.map bv) rfl rfl rfl rfl (bv_one _) rfl) ?_ rfl; rintro _ _ rfl); refine R_p rfl ?_ rfl rfl; refine R_nil ?_; refine S_seq rfl ?_; refine S_seq rfl ?_; refine S_region rfl rfl ?_; refine R_p rfl ?_ rfl rfl; refine R_p rfl ?_ rfl rfl; refine R_nil ?_; refine S_true rfl rfl ?_; refine S_seq rfl ?_; refine S_region rfl rfl ?_; refine R_p rfl ?_ rfl rfl; refine R_p rfl ?_ rfl rfl; refine R_p rfl ?_ rfl rfl; refine R_take (T_loada (ds := noId.map bv) rfl rfl rfl rfl (fun q v hq => by rw [Nat.zero_add]; exact hq)) ?_ rfl rfl; refine R_take (T_build0 noId_built) ?_ rfl rfl; refine R_take (T_eqbsS rfl rfl rfl rfl rfl rfl rfl (by kernel_rfl) rfl) ?_ rfl rfl; refine R_p rfl ?_ rfl rfl; refine R_p rfl ?_ rfl rfl; refine R_nil ?_)
    refine hB _ _ _ _ _ rfl rfl fun w' hS => ⟨(), ?_, trivial, hS.sublist (List.nil_sublist _)⟩
    first | rfl | (simp [retv]; done)
  · have hback := parse_text hok
    have hst : (⟨(textL ((parseL (bl s2)).getD noId)).toArray⟩ : ByteArray) = s2 := bl_inj (by rw [bl_ofList, hback])
    focus ((refine R_eff (E_parse (s := s2) rfl (by omega)) ?_ rfl rfl; rintro _ _ ⟨rfl, rfl⟩; rw [hok]); refine R_p rfl ?_ rfl rfl; refine R_p rfl ?_ rfl rfl; refine R_p rfl ?_ rfl rfl; (refine R_eff (E_alloca rfl noId_alloc) ?_ rfl rfl; rintro _ _ ⟨_, rfl, rfl⟩); (refine R_eff0 (E_storew (ds := ((parseL (bl s2)).getD noId).map bv) (cs := noId.map bv) rfl rfl rfl hp2 (bv_one _) hp2.symm) ?_ rfl; rintro _ _ rfl); refine R_p rfl ?_ rfl rfl; refine R_nil ?_; refine S_seq rfl ?_; refine S_seq rfl ?_; refine S_region rfl rfl ?_; refine R_p rfl ?_ rfl rfl; refine R_p rfl ?_ rfl rfl; refine R_nil ?_; refine S_false rfl rfl ?_; refine S_skip rfl ?_; refine S_seq rfl ?_; refine S_region rfl rfl ?_; refine R_take (T_loada (ds := ((parseL (bl s2)).getD noId).map bv) rfl rfl rfl hp2 (fun q v hq => by rw [Nat.zero_add]; exact hq)) ?_ rfl rfl; (refine R_eff (E_text (l := (parseL (bl s2)).getD noId) rfl (parse_len _)) ?_ rfl rfl; rintro _ _ ⟨rfl, rfl⟩; rw [hst]); refine R_p rfl ?_ rfl rfl; refine R_take (T_streq rfl rfl) ?_ rfl rfl; refine R_p rfl ?_ rfl rfl; refine R_nil ?_)
    refine hB _ _ _ _ _ rfl rfl fun w' hS => ⟨(), ?_, trivial, hS.sublist (List.nil_sublist _)⟩
    first | rfl | (simp [retv]; done)
theorem ShaBack_open {H : Type} {enc : TypeId × Value → H} (W : World) {r : Reach} (base : Nat) (v0 v1 : Value) {d0 d1 : DataW H} {p0 p1 : List MemPlace}
    (hv0 : Value.okWide Tryd.prog W r base 33 v0) (hv1 : Value.okWide Tryd.prog W r base 9 v1)
    (h0 : DataW.Trod enc Tryd.prog W 0 (fun _ => true) true 33 v0 d0 p0) (h1 : DataW.Trod enc Tryd.prog W 0 (fun _ => true) true 9 v1 d1 p1) (hL : laidMetH Tryd.prog [("confluence/sha.roots", Rows.laid_confluence_sha_roots)] W) :
    Calls Tryd.prog 5 #[v0, v1] W fun e w' => e = .returned (.bool true) ∧ Kp All W w' := by
  obtain ⟨l, hl, rfl⟩ := open_idv hv0 h0
  obtain ⟨s, rfl⟩ := okWide_string Tryd.underlying9 hv1
  exact (back_walk W (laid_roots hL) l hl s).pure

set_option maxRecDepth 100000 in
set_option maxHeartbeats 4000000 in
theorem order_walk (w : World) (hr : Roots w) (a b c : List UInt8) (la : a.length = 32) (lb : b.length = 32) (lc : c.length = 32) :
    Gives Tryd.prog 6 [.agg (a.map bv).toArray, .agg (b.map bv).toArray, .agg (c.map bv).toArray] [] w (X := Unit) (fun _ => .bool true) (fun _ => True) (fun _ => []) := by
  refine gives_S Tryd.func6 rfl Tryd.ntmps6 Tryd.results6 (by simp) (St.enter w) (fun B hB => ?_)
  focus (refine S_seq rfl ?_; refine S_region rfl rfl ?_; (refine R_eff (E_boxa rfl) ?_ rfl rfl; rintro _ _ ⟨_, rfl, rfl⟩); (refine R_eff (E_boxa rfl) ?_ rfl rfl; rintro _ _ ⟨_, rfl, rfl⟩); (refine R_eff (E_boxa rfl) ?_ rfl rfl; rintro _ _ ⟨_, rfl, rfl⟩); refine R_p rfl ?_ rfl rfl; refine R_nil ?_; refine S_seq rfl ?_; refine S_seq rfl ?_; refine S_region rfl rfl ?_; (refine R_eff (E_wakes hr (noOwns 0)) ?_ rfl rfl; rintro _ _ ⟨rfl, rfl⟩); refine R_take (T_not rfl) ?_ rfl rfl; refine R_nil ?_; refine S_false rfl rfl ?_; refine S_skip rfl ?_; refine S_seq rfl ?_)
  rename_i b3 b4 b5
  refine S_draw ([pt b3 33 (a.map bv), pt b4 33 (b.map bv), pt b5 33 (c.map bv)]) sub_st (by kernel_rfl) rfl (by kernel_rfl) (by kernel_rfl : _ = 16) ?_
  (refine D_take 0 rfl (T_loada (ds := a.map bv) rfl rfl rfl (idl a la) (fun q v hq => by rw [Nat.zero_add]; exact hq)) ?_ rfl rfl (by kernel_rfl) (by kernel_rfl))
  (refine D_take 1 rfl (T_loada (ds := b.map bv) rfl rfl rfl (idl b lb) (fun q v hq => by rw [Nat.zero_add]; exact hq)) ?_ rfl rfl (by kernel_rfl) (by kernel_rfl))
  (refine D_take 3 rfl (T_loada (ds := b.map bv) rfl rfl rfl (idl b lb) (fun q v hq => by rw [Nat.zero_add]; exact hq)) ?_ rfl rfl (by kernel_rfl) (by kernel_rfl))
  (refine D_take 4 rfl (T_loada (ds := a.map bv) rfl rfl rfl (idl a la) (fun q v hq => by rw [Nat.zero_add]; exact hq)) ?_ rfl rfl (by kernel_rfl) (by kernel_rfl))
  (refine D_take 6 rfl (T_loada (ds := b.map bv) rfl rfl rfl (idl b lb) (fun q v hq => by rw [Nat.zero_add]; exact hq)) ?_ rfl rfl (by kernel_rfl) (by kernel_rfl))
  (refine D_take 7 rfl (T_loada (ds := c.map bv) rfl rfl rfl (idl c lc) (fun q v hq => by rw [Nat.zero_add]; exact hq)) ?_ rfl rfl (by kernel_rfl) (by kernel_rfl))
  (refine D_take 9 rfl (T_loada (ds := a.map bv) rfl rfl rfl (idl a la) (fun q v hq => by rw [Nat.zero_add]; exact hq)) ?_ rfl rfl (by kernel_rfl) (by kernel_rfl))
  (refine D_take 10 rfl (T_loada (ds := c.map bv) rfl rfl rfl (idl c lc) (fun q v hq => by rw [Nat.zero_add]; exact hq)) ?_ rfl rfl (by kernel_rfl) (by kernel_rfl))
  refine D_one 2 rfl (E_less rfl rfl la lb) ?_ rfl rfl (by kernel_rfl)
  rintro _ _ ⟨rfl, rfl⟩
  refine Nx_same sub_st ?_
  refine D_one 5 rfl (E_less rfl rfl lb la) ?_ rfl rfl (by kernel_rfl)
  rintro _ _ ⟨rfl, rfl⟩
  refine Nx_same sub_st ?_
  refine D_one 8 rfl (E_less rfl rfl lb lc) ?_ rfl rfl (by kernel_rfl)
  rintro _ _ ⟨rfl, rfl⟩
  refine Nx_same sub_st ?_
  refine D_one 11 rfl (E_less rfl rfl la lc) ?_ rfl rfl (by kernel_rfl)
  rintro _ _ ⟨rfl, rfl⟩
  refine Nx_same sub_st ?_
  refine D_take 12 rfl (pev_ok rfl) ?_ rfl rfl (by kernel_rfl) (by kernel_rfl)
  refine D_take 13 rfl (pev_ok rfl) ?_ rfl rfl (by kernel_rfl) (by kernel_rfl)
  refine D_take 14 rfl (pev_ok rfl) ?_ rfl rfl (by kernel_rfl) (by kernel_rfl)
  refine D_take 15 rfl (pev_ok rfl) ?_ rfl rfl (by kernel_rfl) (by kernel_rfl)
  refine D_done ?_ (by kernel_rfl)
  skip
  obtain ⟨ab, hab⟩ : ∃ x, Op.bytesLess a b = x := ⟨_, rfl⟩
  obtain ⟨ba, hba⟩ : ∃ x, Op.bytesLess b a = x := ⟨_, rfl⟩
  obtain ⟨bc, hbc⟩ : ∃ x, Op.bytesLess b c = x := ⟨_, rfl⟩
  obtain ⟨ac, hac⟩ : ∃ x, Op.bytesLess a c = x := ⟨_, rfl⟩
  have g1 : ¬ (ab = true ∧ ba = true) := fun ⟨h1, h2⟩ => less_asymm a b (hab.trans h1) (hba.trans h2)
  have g2 : a ≠ b → (ab = true ∨ ba = true) := fun h => by rw [← hab, ← hba]; exact less_total a b h
  have g3 : ab = true → bc = true → ac = true := fun h1 h2 => by rw [← hac]; exact less_trans a b c (hab.trans h1) (hbc.trans h2)
  have g4 : a = b → ab = false ∧ ba = false := fun h => by subst h; rw [← hab, ← hba, bytesLess_refl]; exact ⟨rfl, rfl⟩
  rw [hab, hba, hbc, hac]
  have hd : decide (¬ a = b) = (ab || ba) := by
    by_cases h : a = b
    · rw [(g4 h).1, (g4 h).2, decide_eq_false (fun h2 => h2 h)]; rfl
    · rw [decide_eq_true h]
      rcases g2 h with h | h <;> rw [h] <;> simp
  have hlt : Op.bytesLess (bl ⟨(textL a).toArray⟩) (bl ⟨(textL b).toArray⟩) = ab := by rw [bl_ofList, bl_ofList, less_text a b (by omega), hab]
  clear hab hba hbc hac g2 g4
  cases ab <;> cases ba <;> cases bc <;> cases ac
  all_goals first | (exfalso; exact g1 ⟨rfl, rfl⟩) | (exfalso; cases g3 rfl rfl; done) | skip
  all_goals
    repeat' (first | refine R_take (T_cast (T_nebs rfl rfl rfl rfl rfl rfl rfl (by kernel_rfl) la lb) (congrArg Value.bool hd)) ?_ rfl rfl | refine R_p rfl ?_ rfl rfl | refine R_nil ?_ | refine R_skip ?_ rfl rfl | refine R_take (T_loada (ds := a.map bv) rfl rfl rfl (idl a la) (fun q v hq => by rw [Nat.zero_add]; exact hq)) ?_ rfl rfl | refine R_take (T_loada (ds := b.map bv) rfl rfl rfl (idl b lb) (fun q v hq => by rw [Nat.zero_add]; exact hq)) ?_ rfl rfl | refine R_take (T_bne rfl rfl rfl rfl) ?_ rfl rfl | refine R_take (T_not rfl) ?_ rfl rfl | refine S_seq rfl ?_ | refine S_region rfl rfl ?_ | refine S_false rfl rfl ?_ | refine S_skip rfl ?_)
    refine S_draw ([pt b3 33 (a.map bv), pt b4 33 (b.map bv)]) sub_st (by kernel_rfl) rfl (by kernel_rfl) (by kernel_rfl : _ = 8) ?_
    refine D_take 0 rfl (pev_ok rfl) ?_ rfl rfl (by kernel_rfl) (by kernel_rfl)
    (refine D_take 1 rfl (T_loada (ds := a.map bv) rfl rfl rfl (idl a la) (fun q v hq => by rw [Nat.zero_add]; exact hq)) ?_ rfl rfl (by kernel_rfl) (by kernel_rfl))
    (refine D_take 3 rfl (T_loada (ds := b.map bv) rfl rfl rfl (idl b lb) (fun q v hq => by rw [Nat.zero_add]; exact hq)) ?_ rfl rfl (by kernel_rfl) (by kernel_rfl))
    refine D_one 2 rfl (E_text rfl la) ?_ rfl rfl (by kernel_rfl)
    rintro _ _ ⟨rfl, rfl⟩
    refine Nx_same sub_st ?_
    refine D_one 4 rfl (E_text rfl lb) ?_ rfl rfl (by kernel_rfl)
    rintro _ _ ⟨rfl, rfl⟩
    refine Nx_same sub_st ?_
    refine D_take 5 rfl (pev_ok rfl) ?_ rfl rfl (by kernel_rfl) (by kernel_rfl)
    refine D_take 6 rfl (T_beq rfl rfl rfl rfl) ?_ rfl rfl (by kernel_rfl) (by kernel_rfl)
    refine D_take 7 rfl (pev_ok rfl) ?_ rfl rfl (by kernel_rfl) (by kernel_rfl)
    refine D_done ?_ (by kernel_rfl)
    skip
    skip
    refine hB _ _ _ _ _ rfl rfl fun w' hS => ⟨(), ?_, trivial, hS.sublist (List.nil_sublist _)⟩
    rw [hlt]
    rfl
theorem ShaOrder_open {H : Type} {enc : TypeId × Value → H} (W : World) {r : Reach} (base : Nat) (v0 v1 v2 : Value) {d0 d1 d2 : DataW H} {p0 p1 p2 : List MemPlace}
    (hv0 : Value.okWide Tryd.prog W r base 33 v0) (hv1 : Value.okWide Tryd.prog W r base 33 v1) (hv2 : Value.okWide Tryd.prog W r base 33 v2)
    (h0 : DataW.Trod enc Tryd.prog W 0 (fun _ => true) true 33 v0 d0 p0) (h1 : DataW.Trod enc Tryd.prog W 0 (fun _ => true) true 33 v1 d1 p1) (h2 : DataW.Trod enc Tryd.prog W 0 (fun _ => true) true 33 v2 d2 p2) (hL : laidMetH Tryd.prog [("confluence/sha.roots", Rows.laid_confluence_sha_roots)] W) :
    Calls Tryd.prog 6 #[v0, v1, v2] W fun e w' => e = .returned (.bool true) ∧ Kp All W w' := by
  obtain ⟨a, la, rfl⟩ := open_idv hv0 h0
  obtain ⟨b, lb, rfl⟩ := open_idv hv1 h1
  obtain ⟨c, lc, rfl⟩ := open_idv hv2 h2
  exact (order_walk W (laid_roots hL) a b c la lb lc).pure
end Go.Proofs.YtemgfoakffappaaDoor
