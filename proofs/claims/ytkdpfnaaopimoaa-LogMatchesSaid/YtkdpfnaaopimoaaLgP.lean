/- The statement LogAppends. -/
import Derived.Test.YtkdpfnaaopimoaaLgO
namespace Go.Proofs.Ytkdpfnaaopimoaa
open Go.RowKit Go.ChangeShapes Go.WideShapes Go.ChangeAt
open Asn (pt row rb)
set_option linter.unusedVariables false
set_option linter.unusedSimpArgs false
--@use N

theorem T_addM {P : Program} {n : Nat} {w0 : World} {M : Nat → Prop} {T : Slots} {H : List Asn} {dd : Option Tmp} {tt : TypeId} {pos : String} {af : Array Edge} {g : Option (Nat × Bool)} {x y : Operand} {t u : TypeId} {i j : Int} {p q : Nat} (hx : oget T x = some (.int .u64 i)) (hy : oget T y = some (.int .u64 j)) [hi : NatOf i p] [hj : NatOf j q] :
    Tk P n w0 M T H ⟨dd, .binOp .add t x y u, tt, pos, af, g⟩ (.int .u64 (((p + q) % 18446744073709551616 : Nat) : Int)) := by
  rw [hi.is] at hx
  rw [hj.is] at hy
  refine T_arith (op := .add) hx hy ?_
  simp only [arith, IntKind.wrap_u64]
  congr 1
set_option maxRecDepth 100000 in
set_option maxHeartbeats 4000000 in
theorem placeD_w (w : World) (a : At) (A : Option Addr) (c k : Nat) (Q : List Em) (hk : Q.length = k) (h : Rd w All 3 A k (cellsL emc Q)) (hn : k ≤ 100000) (j : Nat) (hj : j ≤ k) :
    Gives Try.prog 46 [.agg (lgc a A k c).toArray, .int .i64 (j : Int)] [] w (X := At) (fun x => .agg (atc x).toArray) (fun _ => True) (fun _ => []) := by
  refine gives_C Try.func46 rfl Try.ntmps46 Try.results46 (by simp) (St.enter w) (fun B hB => ?_)
  obtain ⟨i, t⟩ := a
  by_cases h0 : j = 0
  · focus (refine S_seq rfl ?_; refine S_region rfl rfl ?_; (refine R_eff (E_boxa (cs := lgc (i, t) A k c) rfl) ?_ rfl rfl; rintro _ _ ⟨b1, rfl, rfl⟩); (refine R_eff (E_alloca rfl at_zero) ?_ rfl rfl; rintro _ _ ⟨b2, rfl, rfl⟩); refine R_nil ?_; refine S_seq rfl ?_; refine S_seq rfl ?_; refine S_region rfl rfl ?_; refine R_p rfl ?_ rfl rfl; refine R_take (T_decT rfl (by omega)) ?_ rfl rfl; refine R_nil ?_; refine S_true rfl rfl ?_; refine S_seq rfl ?_; refine S_region rfl rfl ?_; refine R_p rfl ?_ rfl rfl; refine R_take (T_loads (ds := atc (i, t)) rfl rfl rfl rfl rfl) ?_ rfl rfl; (refine R_eff0 (E_storew (cs := atc (0, 0)) (ds := atc (i, t)) rfl rfl rfl rfl (atc_one _) rfl) ?_ rfl; rintro _ _ rfl); refine R_nil ?_)
    refine hB _ _ _ _ _ rfl (.cell rfl rfl rfl inferInstance rfl .nil) fun w' hS => ⟨(i, t), rfl, trivial, hS.sublist (List.nil_sublist _)⟩
  · have hne : A ≠ none := by obtain ⟨ad, rfl, _⟩ := h.2 (by omega); simp
    have hat := cellsL_at (f := emc) emc_len Q default (j - 1) (by omega)
    have hlt : j - 1 < k := by omega
    obtain ⟨m, hm⟩ : ∃ m, Q.getD (j - 1) default = m := ⟨_, rfl⟩
    rw [hm] at hat
    have hat0 : (cellsL emc Q)[(j - 1) * 3 + 0]? = some (.int .u64 (m.1 : Int)) := hat 0 _ rfl
    focus (refine S_seq rfl ?_; refine S_region rfl rfl ?_; (refine R_eff (E_boxa (cs := lgc (i, t) A k c) rfl) ?_ rfl rfl; rintro _ _ ⟨b1, rfl, rfl⟩); (refine R_eff (E_alloca rfl at_zero) ?_ rfl rfl; rintro _ _ ⟨b2, rfl, rfl⟩); refine R_nil ?_; refine S_seq rfl ?_; refine S_seq rfl ?_; refine S_region rfl rfl ?_; refine R_p rfl ?_ rfl rfl; refine R_take (T_decF rfl (by omega)) ?_ rfl rfl; refine R_nil ?_; refine S_false rfl rfl ?_; refine S_skip rfl ?_; refine S_seq rfl ?_)
    refine S_draw ([pt b1 27 (lgc (i, t) A k c)]) sub_st (by kernel_rfl) rfl (by kernel_rfl) (by kernel_rfl : _ = 15) ?_
    refine D_take 0 rfl (pev_ok rfl) ?_ rfl rfl (by kernel_rfl) (by kernel_rfl)
    refine D_take 1 rfl (pev_ok rfl) ?_ rfl rfl (by kernel_rfl) (by kernel_rfl)
    refine D_take 2 rfl (T_load rfl rfl rfl rfl) ?_ rfl rfl (by kernel_rfl) (by kernel_rfl)
    refine D_take 3 rfl (pev_ok rfl) ?_ rfl rfl (by kernel_rfl) (by kernel_rfl)
    (refine D_take 4 rfl (T_convf rfl rfl rfl rfl (by unfold fits; omega)) ?_ rfl rfl (by kernel_rfl) (by kernel_rfl))
    refine D_take 5 rfl (T_addM rfl rfl) ?_ rfl rfl (by kernel_rfl) (by kernel_rfl)
    refine D_take 6 rfl (pev_ok rfl) ?_ rfl rfl (by kernel_rfl) (by kernel_rfl)
    refine D_take 7 rfl (T_load rfl rfl rfl rfl) ?_ rfl rfl (by kernel_rfl) (by kernel_rfl)
    refine D_take 8 rfl (pev_ok rfl) ?_ rfl rfl (by kernel_rfl) (by kernel_rfl)
    (refine D_take 9 rfl (T_subN rfl rfl (by omega) (by unfold fits; omega)) ?_ rfl rfl (by kernel_rfl) (by kernel_rfl))
    refine D_take 10 rfl (T_ixM (sz := 3) (q := j - 1) rfl rfl rfl rfl rfl rfl hne hlt) ?_ rfl rfl (by kernel_rfl) (by kernel_rfl)
    refine D_take 11 rfl (T_fap rfl rfl rfl rfl rfl hne) ?_ rfl rfl (by kernel_rfl) (by kernel_rfl)
    refine D_take 12 rfl (T_ldr rfl rfl rfl (Srd.old h (fun k _ => noOwns k)) (by omega) hat0) ?_ rfl rfl (by kernel_rfl) (by kernel_rfl)
    refine D_take 13 rfl (T_build2 rfl rfl (at_built2 ((i + j) % 18446744073709551616) m.1)) ?_ rfl rfl (by kernel_rfl) (by kernel_rfl)
    refine D_one 14 rfl (E_storew (cs := atc (0, 0)) (ds := atc ((i + j) % 18446744073709551616, m.1)) rfl rfl rfl rfl (atc_one _) rfl) ?_ rfl rfl (by kernel_rfl)
    rintro _ _ rfl
    refine Nx_same sub_st ?_
    refine D_done ?_ (by kernel_rfl)
    skip
    skip
    refine hB _ _ _ _ _ rfl (.cell rfl rfl rfl inferInstance rfl .nil) fun w' hS => ⟨((i + j) % 18446744073709551616, m.1), rfl, trivial, hS.sublist (List.nil_sublist _)⟩
set_option maxRecDepth 100000 in
set_option maxHeartbeats 4000000 in
theorem cmpD_w (w : World) (a : At) (A : Option Addr) (c k : Nat) (Q : List Em) (hk : Q.length = k) (h : Rd w All 3 A k (cellsL emc Q)) (hd : RDt w All (Q.map emd)) (hc : k ≤ c) (hn : k ≤ 1000) (hkk : ∀ m ∈ Q, m.2.2.2.2.length ≤ 100000) (idx : Nat) :
    Gives Try.prog 22 [.agg (lgc a A k c).toArray, .int .u64 (idx : Int)] [] w (X := At × Option Addr × Nat × Nat × Bool) (fun x => .tuple #[.agg (lgc x.1 x.2.1 x.2.2.1 x.2.2.2.1).toArray, .bool x.2.2.2.2]) (fun _ => True) (fun x => []) := by
  refine gives_C Try.func22 rfl Try.ntmps22 Try.results22 (by simp) (St.enter w) (fun B hB => ?_)
  obtain ⟨i, t⟩ := a
  focus (refine S_seq rfl ?_; refine S_region rfl rfl ?_; (refine R_eff (E_boxa (cs := lgc (i, t) A k c) rfl) ?_ rfl rfl; rintro _ _ ⟨b2, rfl, rfl⟩); (refine R_eff (E_alloca rfl lg_zero) ?_ rfl rfl; rintro _ _ ⟨b4, rfl, rfl⟩); refine R_p rfl ?_ rfl rfl; refine R_nil ?_; refine S_seq rfl ?_; refine S_seq rfl ?_; refine S_region rfl rfl ?_; refine R_p rfl ?_ rfl rfl; refine R_take (T_load rfl rfl rfl rfl) ?_ rfl rfl; refine R_p rfl ?_ rfl rfl; refine R_take (T_addN rfl rfl (by unfold fits; omega)) ?_ rfl rfl; refine R_p rfl ?_ rfl rfl; refine R_nil ?_; refine S_block rfl ?_)
  refine S_loop (X := Nat) (fun j => [(1, .int .u64 (idx : Int)), (2, .pointer (some ⟨b2, 0, none⟩)), (4, .pointer (some ⟨b4, 0, none⟩)), (11, .int .i64 ((k + 1 : Nat) : Int)), (12, .int .i64 (j : Int))]) (fun _ => [pt b4 27 (lgc (0, 0) none 0 0), pt b2 27 (lgc (i, t) A k c)]) (fun j => j ≤ k + 1) (fun j => k + 1 - j) rfl 0 (Nat.zero_le _) (Sub.cons rfl (Sub.cons rfl (Sub.cons rfl (Sub.cons rfl (Sub.cons rfl Sub.nil))))) sub_st ?_
  rintro j hj J hJ
  rcases Nat.lt_or_ge j (k + 1) with hjl | hjl
  · have hjk : j ≤ k := by omega
    focus (refine S_seq rfl ?_; refine S_region rfl rfl ?_; refine R_take (T_decT rfl (by omega)) ?_ rfl rfl; refine R_nil ?_; refine S_seq rfl ?_; refine S_true rfl rfl ?_; refine S_skip rfl ?_; refine S_seq rfl ?_; refine S_block rfl ?_; refine S_seq rfl ?_; refine S_region rfl rfl ?_; refine R_p rfl ?_ rfl rfl; refine R_p rfl ?_ rfl rfl; refine R_nil ?_; refine S_seq rfl ?_; refine S_region rfl rfl ?_; refine R_take (T_loads (ds := lgc (i, t) A k c) rfl rfl rfl rfl rfl) ?_ rfl rfl; refine R_p rfl ?_ rfl rfl; (refine R_eff (E_hv0 (f := 46) ⟨_, Try.func46, rfl, by kernel_rfl⟩ (fun w hS => placeD_w w (i, t) A c k Q hk ((Srd.old h (fun k _ => noOwns k)).rd w hS) (by omega) j hjk) rfl rfl (fun _ => rfl)) ?_ rfl rfl; rintro _ _ ⟨⟨p, u⟩, rfl, _, rfl⟩); (refine R_eff (E_alloca rfl at_zero) ?_ rfl rfl; rintro _ _ ⟨b7, rfl, rfl⟩); (refine R_eff0 (E_storew (cs := atc (0, 0)) (ds := atc (p, u)) rfl rfl rfl rfl (atc_one _) rfl) ?_ rfl; rintro _ _ rfl); refine R_nil ?_; refine S_seq rfl ?_; refine S_region rfl rfl ?_; refine R_p rfl ?_ rfl rfl; refine R_take (T_load rfl rfl rfl rfl) ?_ rfl rfl; refine R_p rfl ?_ rfl rfl; refine R_p rfl ?_ rfl rfl; refine R_nil ?_)
    refine S_if rfl rfl (fun hs => ?_) (fun hs => ?_)
    · have h' : Rd w All 3 A Q.length (cellsL emc Q) := by rw [hk]; exact h
      have hcutr : Rd w All 3 (cutP A c j 3) (k - j) (cellsL emc (Q.drop j)) := by
        have := rd_cutE (q := j) (c := c) h' (by omega) (by omega)
        rwa [hk] at this
      have hcutd := rdt_drop hd j
      have hkd : ∀ m ∈ Q.drop j, m.2.2.2.2.length ≤ 100000 := fun m hm => hkk m (List.mem_of_mem_drop hm)
      have hdl : (Q.drop j).length = k - j := by rw [List.length_drop, hk]
      focus (refine S_seq rfl ?_)
      refine S_draw ([pt b7 24 (atc (p, u)), pt b2 27 (lgc (i, t) A k c)]) sub_st (by kernel_rfl) rfl (by kernel_rfl) (by kernel_rfl : _ = 9) ?_
      refine D_take 0 rfl (T_loads (ds := atc (p, u)) rfl rfl rfl rfl rfl) ?_ rfl rfl (by kernel_rfl) (by kernel_rfl)
      refine D_take 1 rfl (pev_ok rfl) ?_ rfl rfl (by kernel_rfl) (by kernel_rfl)
      refine D_take 2 rfl (T_load rfl rfl rfl rfl) ?_ rfl rfl (by kernel_rfl) (by kernel_rfl)
      refine D_take 3 rfl (pev_ok rfl) ?_ rfl rfl (by kernel_rfl) (by kernel_rfl)
      refine D_take 4 rfl (T_slN (sz := 3) (q := j) rfl rfl rfl rfl rfl rfl hjk hc) ?_ rfl rfl (by kernel_rfl) (by kernel_rfl)
      refine D_take 5 rfl (T_build2 rfl rfl (lg_built2 (p, u) _ _ _)) ?_ rfl rfl (by kernel_rfl) (by kernel_rfl)
      refine D_one 6 rfl (E_hvG (f := 47) ⟨_, Try.func47, rfl, by kernel_rfl⟩ (fun w hS => copyD_any w (p, u) (cutP A c j 3) (c - j) (k - j) (Q.drop j) ((Q.drop j).map emv) hdl rfl ((Srd.old hcutr (fun k _ => noOwns k)).rd w hS) ((SDt.old hcutd (fun k _ => noOwns k)).rd w hS) (by omega) hkd) rfl rfl) ?_ rfl rfl (by kernel_rfl)
      rintro _ _ ⟨⟨⟨A5, c5⟩, P5⟩, rfl, _, rfl⟩; dsimp only [List.cons_append, List.nil_append]
      refine Nx_same sub_st ?_
      refine D_one 7 rfl (E_storew (cs := lgc (0, 0) none 0 0) (ds := lgc (p, u) A5 (k - j) c5) rfl rfl rfl rfl (lgc_one _ _ _ _) rfl) ?_ rfl rfl (by kernel_rfl)
      rintro _ _ rfl
      refine Nx_same sub_st ?_
      refine D_take 8 rfl (pev_ok rfl) ?_ rfl rfl (by kernel_rfl) (by kernel_rfl)
      refine D_done ?_ (by kernel_rfl)
      skip
      skip
      refine hB _ _ _ _ _ rfl (.cell rfl rfl rfl inferInstance rfl (.tmp rfl .nil)) fun w' hS => ⟨((p, u), A5, k - j, c5, true), rfl, trivial, hS.sublist (List.nil_sublist _)⟩
    · focus (refine S_skip rfl ?_; refine RS_blk ?_; refine S_region rfl rfl ?_; refine R_take (T_addN rfl rfl (by unfold fits; omega)) ?_ rfl rfl; refine R_p rfl ?_ rfl rfl; refine R_nil ?_)
      exact hJ (j + 1) _ _ (by omega) (Sub.cons rfl (Sub.cons rfl (Sub.cons rfl (Sub.cons rfl (Sub.cons rfl Sub.nil))))) sub_st (by omega)
  · skip
    focus (refine S_seq rfl ?_; refine S_region rfl rfl ?_; refine R_take (T_decF rfl (by omega)) ?_ rfl rfl; refine R_nil ?_; refine S_seq rfl ?_; refine S_false rfl rfl ?_; refine S_exit rfl rfl ?_; refine S_seq rfl ?_; refine S_region rfl rfl ?_; refine R_take (T_build0 lg_built0) ?_ rfl rfl; (refine R_eff0 (E_storew (cs := lgc (0, 0) none 0 0) (ds := lgc (0, 0) none 0 0) rfl rfl rfl rfl (lgc_one _ _ _ _) rfl) ?_ rfl; rintro _ _ rfl); refine R_p rfl ?_ rfl rfl; refine R_nil ?_)
    refine hB _ _ _ _ _ rfl (.cell rfl rfl rfl inferInstance rfl (.tmp rfl .nil)) fun w' hS => ⟨((0, 0), none, 0, 0, false), rfl, trivial, hS.sublist (List.nil_sublist _)⟩
theorem compact_S (w : World) (a : At) (A : Option Addr) (c k : Nat) (Q : List Em) (l : List En) (hk : Q.length = k) (hl : Q.map emv = l) (h : Rd w All 3 A k (cellsL emc Q)) (hd : RDt w All (Q.map emd)) (hc : k ≤ c) (hn : k ≤ 1000) (hkk : ∀ m ∈ Q, m.2.2.2.2.length ≤ 100000) (idx : Nat) (e : Int) (b : At) (r : List En) (K : Nat) (hK : r.length = K) (hr : cmp a l idx = (e, b, r)) :
    Gives Try.prog 21 [.agg (lgc a A k c).toArray, .int .u64 (idx : Int)] [] w (X := (Option Addr × Nat) × Sh r) (fun x => .tuple #[.agg (lgc b x.1.1 K x.1.2).toArray, zi e]) (fun _ => True) (fun x => [row 44 3 x.1.1 K x.1.2 (cellsL emc x.2.1), dtB 5 (x.2.1.map emd)]) := by
  subst hK
  exact (compact_k w a A c k Q l hk hl h hd hc hn hkk idx e b r hr).mono fun u w' ⟨⟨⟨A5, c5⟩, P⟩, he, ⟨h1, _⟩, hS⟩ => ⟨((A5, c5), ⟨P, h1, fun m hm => dtB_caps (e := 5) (D := P.map emd) hS (by simp) (emd m) (List.mem_map.2 ⟨m, hm, rfl⟩)⟩), he, trivial, hS⟩
theorem entries_T (w : World) (A : Option Addr) (c : Nat) (Q : List Em) (k : Nat) (hk : Q.length = k) (h : Rd w All 3 A k (cellsL emc Q)) (hd : RDt w All (Q.map emd)) (hcap : ∀ m ∈ Q, m.2.2.2.2.length ≤ m.2.2.2.1) (n : Nat) (hn : n ≤ 100) (L : List En) (hL : cutE (Q.map emv) n = L) (K : Nat) (hK : L.length = K) :
    Gives Try.prog 12 [.slice A k c, zi n] [] w (X := (Option Addr × Nat) × Sh L) (fun x => .slice x.1.1 K x.1.2) (fun x => 0 < K → x.1.1 ≠ none) (fun x => [row 44 3 x.1.1 K x.1.2 (cellsL emc x.2.1), dtB 5 (x.2.1.map emd)]) :=
  (entries_S w A c Q k hk h hd hcap n hn L hL K hK).mono fun e w' ⟨⟨⟨A5, c5⟩, P⟩, he, h2, hS⟩ => ⟨((A5, c5), P), he, (row_facts (hS.at_ (A := row 44 3 A5 K c5 (cellsL emc P.1)) (by simp))).2.2.1, hS⟩
theorem cmp_out {a : At} {l : List En} {idx : Nat} {e : Int} {b : At} {r : List En} (hr : rightB a l = true) (h : cmp a l idx = (e, b, r)) : (e = 0 ∨ e = 4) ∧ r.length ≤ l.length ∧ ∀ x ∈ r, x ∈ l := by
  unfold cmp at h
  rw [if_pos hr] at h
  split at h
  · injection h with e1 e2
    injection e2 with e2 e3
    subst e1 e3
    exact ⟨.inr rfl, Nat.zero_le _, fun x hx => absurd hx (by simp)⟩
  · injection h with e1 e2
    injection e2 with e2 e3
    subst e1 e3
    exact ⟨.inl rfl, by rw [List.length_drop]; omega, fun x hx => List.mem_of_mem_drop hx⟩
theorem app_out {a : At} {l : List En} {x : En} {e : Int} {p b : At} {r : List En} (h : app a l x = (e, p, b, r)) : r.length ≤ l.length + 1 ∧ ∀ y ∈ r, y ∈ l ∨ y = x := by
  have : r = [] ∨ r = l ++ [x] := by
    unfold app at h
    split at h
    · split at h
      · split at h
        · injection h with _ e2
          injection e2 with _ e3
          injection e3 with _ e4
          exact .inl e4.symm
        · injection h with _ e2
          injection e2 with _ e3
          injection e3 with _ e4
          exact .inr e4.symm
      · injection h with _ e2
        injection e2 with _ e3
        injection e3 with _ e4
        exact .inl e4.symm
    · injection h with _ e2
      injection e2 with _ e3
      injection e3 with _ e4
      exact .inl e4.symm
  rcases this with rfl | rfl
  · exact ⟨Nat.zero_le _, fun y hy => absurd hy (by simp)⟩
  · exact ⟨by rw [List.length_append]; exact Nat.le_refl _, fun y hy => (List.mem_append.1 hy).imp id fun h => List.mem_singleton.1 h⟩
theorem em_drop_mem {Q : List Em} {j : Nat} {m : Em} (hj : j < Q.length) (hm : Q.getD j default = m) : emd m ∈ (Q.drop j).map emd := by
  rw [em_split Q j hj hm]
  exact List.mem_cons_self ..
set_option maxRecDepth 100000 in
set_option maxHeartbeats 4000000 in
theorem appends_any (w : World) (a : At) (A : Option Addr) (c : Nat) (Q : List Em) (h : Rd w All 3 A Q.length (cellsL emc Q)) (hd : RDt w All (Q.map emd)) (hcap : ∀ m ∈ Q, m.2.2.2.2.length ≤ m.2.2.2.1) (A1 : Option Addr) (c1' : Nat) (E : List Em) (h1 : Rd w All 3 A1 E.length (cellsL emc E)) (hd1 : RDt w All (E.map emd)) (hcap1 : ∀ m ∈ E, m.2.2.2.2.length ≤ m.2.2.2.1) (idx : Nat) :
    Gives Try.prog 4 [.agg (lgc a A Q.length c).toArray, .slice A1 E.length c1', .int .u64 (idx : Int)] [] w (X := Unit) (fun _ => .bool true) (fun _ => True) (fun _ => []) := by
  refine gives_S Try.func4 rfl Try.ntmps4 Try.results4 (by simp) (St.enter w) (fun B hB => ?_)
  have hLl := cutE_len (Q.map emv) 17
  have hLt := cutE_txt (Q.map emv) 17
  obtain ⟨L, hL⟩ : ∃ L, cutE (Q.map emv) 17 = L := ⟨_, rfl⟩
  rw [hL] at hLl hLt
  have hcut := cutE_id L 17 hLl hLt
  have hLtx : ∀ e ∈ L, e.2.2.length ≤ 100000 := fun e he => Nat.le_trans (hLt e he) (by omega)
  obtain ⟨K, hK⟩ : ∃ K, L.length = K := ⟨_, rfl⟩
  have hesl := cutE_len (E.map emv) 6
  have hest := cutE_txt (E.map emv) 6
  obtain ⟨es, hes⟩ : ∃ l, cutE (E.map emv) 6 = l := ⟨_, rfl⟩
  rw [hes] at hesl hest
  obtain ⟨k2, hk2⟩ : ∃ k, es.length = k := ⟨_, rfl⟩
  obtain ⟨r0, hr⟩ : ∃ q, rightB a L = q := ⟨_, rfl⟩
  focus (refine S_seq rfl ?_; refine S_region rfl rfl ?_; (refine R_eff (E_boxa (cs := lgc a A Q.length c) rfl) ?_ rfl rfl; rintro _ _ ⟨b3, rfl, rfl⟩); refine R_p rfl ?_ rfl rfl; refine R_nil ?_; refine S_seq rfl ?_; refine S_seq rfl ?_; refine S_region rfl rfl ?_; (refine R_eff (E_hv0 (f := 10) ⟨_, Try.func10, rfl, by kernel_rfl⟩ (fun w hS => wakes12_any w) rfl rfl (fun _ => rfl)) ?_ rfl rfl; rintro _ _ ⟨_, rfl, _, rfl⟩); refine R_take (T_not rfl) ?_ rfl rfl; refine R_nil ?_; refine S_false rfl rfl ?_; refine S_skip rfl ?_; refine S_seq rfl ?_; refine S_region rfl rfl ?_; refine R_take (T_loads (ds := lgc a A Q.length c) rfl rfl rfl rfl rfl) ?_ rfl rfl; (refine R_eff (E_hvG (f := 11) ⟨_, Try.func11, rfl, by kernel_rfl⟩ (fun w hS => short_S w a A c Q Q.length rfl ((Srd.old h (fun k _ => noOwns k)).rd w hS) ((SDt.old hd (fun k _ => noOwns k)).rd w hS) hcap L hL K hK) rfl rfl) ?_ rfl rfl; rintro _ _ ⟨⟨⟨A5, c5⟩, P5⟩, rfl, hc5, rfl⟩; dsimp only [List.cons_append, List.nil_append]; have hl5 : P5.1.length = K := (em_len P5.2.1).trans hK); (refine R_eff0 (E_storew (cs := lgc a A Q.length c) (ds := lgc a A5 K c5) rfl rfl rfl rfl (lgc_one _ _ _ _) rfl) ?_ rfl; rintro _ _ rfl); refine R_nil ?_; refine S_seq rfl ?_; refine S_region rfl rfl ?_; refine R_take (T_loads (ds := lgc a A5 K c5) rfl rfl rfl rfl rfl) ?_ rfl rfl; (refine R_eff (E_hvG (f := 11) ⟨_, Try.func11, rfl, by kernel_rfl⟩ (fun w hS => short_S w a A5 c5 P5.1 K hl5 ((Srd.row (A := A5) (n := K) (c := c5)).rd w hS) ((SDt.own (e := 5) (D := P5.1.map emd) (by simp)).rd w hS) P5.2.2 L (by rw [P5.2.1]; exact hcut) K hK) rfl rfl) ?_ rfl rfl; rintro _ _ ⟨⟨⟨A6, c6⟩, P6⟩, rfl, hc6, rfl⟩; dsimp only [List.cons_append, List.nil_append]; have hl6 : P6.1.length = K := (em_len P6.2.1).trans hK); (refine R_eff (E_alloca rfl lg_zero) ?_ rfl rfl; rintro _ _ ⟨b7, rfl, rfl⟩); (refine R_eff0 (E_storew (cs := lgc (0, 0) none 0 0) (ds := lgc a A6 K c6) rfl rfl rfl rfl (lgc_one _ _ _ _) rfl) ?_ rfl; rintro _ _ rfl); refine R_nil ?_; refine S_seq rfl ?_; refine S_region rfl rfl ?_; refine R_take (T_loads (ds := lgc a A6 K c6) rfl rfl rfl rfl rfl) ?_ rfl rfl; (refine R_eff (E_hv0 (f := 16) ⟨_, Try.func16, rfl, by kernel_rfl⟩ (fun w hS => rightD_k w a A6 c6 K P6.1 L hl6 P6.2.1 ((Srd.row (A := A6) (n := K) (c := c6)).rd w hS) (by omega) r0 hr) rfl rfl (fun _ => rfl)) ?_ rfl rfl; rintro _ _ ⟨_, rfl, _, rfl⟩); refine R_p rfl ?_ rfl rfl; refine R_nil ?_; refine S_seq rfl ?_; refine S_seq rfl ?_; refine S_region rfl rfl ?_; refine R_p rfl ?_ rfl rfl; (refine R_eff (E_hvG (f := 12) ⟨_, Try.func12, rfl, by kernel_rfl⟩ (fun w hS => entries_S w A1 c1' E E.length rfl ((Srd.old h1 (fun k _ => noOwns k)).rd w hS) ((SDt.old hd1 (fun k _ => noOwns k)).rd w hS) hcap1 6 (by omega) es hes k2 hk2) rfl rfl) ?_ rfl rfl; rintro _ _ ⟨⟨⟨A8, c8⟩, P8⟩, rfl, hc8, rfl⟩; dsimp only [List.cons_append, List.nil_append]; have hl8 : P8.1.length = k2 := (em_len P8.2.1).trans hk2); refine R_p rfl ?_ rfl rfl; refine R_p rfl ?_ rfl rfl; refine R_nil ?_; refine S_block rfl ?_)
  have hPk5 := em_txt (N := 100000) P5.2.1 hLtx
  have hPk6 := em_txt (N := 100000) P6.2.1 hLtx
  refine RS_row A8 k2 c8 fun _ _ hne8 _ => ?_
  refine S_loop (X := Nat) (fun j => [(2, .int .u64 (idx : Int)), (3, .pointer (some ⟨b3, 0, none⟩)), (7, .pointer (some ⟨b7, 0, none⟩)), (8, .bool r0), (32, .slice A8 k2 c8), (33, .int .i64 (k2 : Int)), (34, .int .i64 (j : Int))]) (fun j => [pt b3 27 (lgc a A5 K c5), row 44 3 A5 K c5 (cellsL emc P5.1), dtB 5 (P5.1.map emd), pt b7 27 (lgc a A6 K c6), row 44 3 A6 K c6 (cellsL emc P6.1), dtB 5 (P6.1.map emd), row 44 3 A8 k2 c8 (cellsL emc P8.1), dtB 5 ((P8.1.drop j).map emd)]) (fun j => j ≤ k2) (fun j => k2 - j) rfl 0 (Nat.zero_le _) (Sub.cons rfl (Sub.cons rfl (Sub.cons rfl (Sub.cons rfl (Sub.cons rfl (Sub.cons rfl (Sub.cons rfl Sub.nil))))))) (fun w' hS => sub_st (H' := [pt b3 27 (lgc a A5 K c5), row 44 3 A5 K c5 (cellsL emc P5.1), dtB 5 (P5.1.map emd), pt b7 27 (lgc a A6 K c6), row 44 3 A6 K c6 (cellsL emc P6.1), dtB 5 (P6.1.map emd), row 44 3 A8 k2 c8 (cellsL emc P8.1), dtB 5 (P8.1.map emd)]) w' hS) ?_
  rintro j hj J hJ
  rcases Nat.lt_or_ge j k2 with hjl | hjl
  · have hne8 := hne8 (by omega)
    have hat := cellsL_at (f := emc) emc_len P8.1 default j (by omega)
    obtain ⟨m, hm⟩ : ∃ m, P8.1.getD j default = m := ⟨_, rfl⟩
    have hmi : m ∈ P8.1 := by rw [← hm]; simp [List.getD, show j < P8.1.length by omega]
    have hmem := em_drop_mem (by omega) hm
    have hdr := emd_drop P8.1 j (by omega) hm
    have hbk := em_txt (N := 1025) P8.2.1 hest m hmi
    have hcp := P8.2.2 m hmi
    rw [hm] at hat
    obtain ⟨t, kd, D, cd, bs⟩ := m
    have hmem : (D, cd, bs) ∈ (P8.1.drop j).map emd := hmem
    have hbt : bs.length ≤ 1025 := hbk
    have hbk : bs.length ≤ 100000 := by omega
    have hcap2 : ∀ m' ∈ [((t, kd, D, cd, bs) : Em)], m'.2.2.2.2.length ≤ m'.2.2.2.1 := fun m' h' => by rw [List.mem_singleton.1 h']; exact hcp
    have hx1 : cutE ([((t, kd, D, cd, bs) : Em)].map emv) 1 = [(t, kd, bs)] := cutE_id [(t, kd, bs)] 1 (Nat.le_refl _) fun e he => by rw [List.mem_singleton.1 he]; exact hbt
    have hc1 : cellsL emc [((t, kd, D, cd, bs) : Em)] = emc (t, kd, D, cd, bs) := cellsL_one _
    focus (refine S_seq rfl ?_; refine S_region rfl rfl ?_; refine R_take (T_decT rfl (by omega)) ?_ rfl rfl; refine R_nil ?_; refine S_seq rfl ?_; refine S_true rfl rfl ?_; refine S_skip rfl ?_; refine S_seq rfl ?_; refine S_block rfl ?_; refine S_seq rfl ?_; refine S_region rfl rfl ?_; refine R_take (T_ixM (sz := 3) (q := j) rfl rfl rfl rfl rfl rfl hne8 hjl) ?_ rfl rfl; refine R_take (T_lda (ds := emc (t, kd, D, cd, bs)) rfl rfl rfl (Srd.row (A := A8) (n := k2) (c := c8)) rfl (by omega) hat) ?_ rfl rfl; (refine R_eff (E_alloca rfl em_zero) ?_ rfl rfl; rintro _ _ ⟨b10, rfl, rfl⟩); (refine R_eff0 (E_storew (cs := emc (0, 0, none, 0, [])) (ds := emc (t, kd, D, cd, bs)) rfl rfl rfl rfl (emc_one _) rfl) ?_ rfl; rintro _ _ rfl); refine R_nil ?_; refine S_seq rfl ?_; refine S_region rfl rfl ?_; refine R_take (T_loads (ds := emc (t, kd, D, cd, bs)) rfl rfl rfl rfl rfl) ?_ rfl rfl; (refine R_eff (E_litS (vs := [.agg (emc (t, kd, D, cd, bs)).toArray]) (size := 3) (ds := emc (t, kd, D, cd, bs)) rfl rfl rfl rfl rfl rfl (by simp [vcells, emc_len]) (by simp [vcells]) (by omega)) ?_ rfl rfl; rintro _ _ ⟨vb, rfl, rfl⟩); (refine R_eff (E_hvG (f := 12) ⟨_, Try.func12, rfl, by kernel_rfl⟩ (fun w hS => entries_T w (some ⟨vb, 0, none⟩) 1 [(t, kd, D, cd, bs)] 1 rfl (by rw [hc1]; exact (Srd.pt (n := 1) (g := vb) (ds := emc (t, kd, D, cd, bs)) rfl (fun j u hj => by rw [Nat.zero_add]; exact hj)).rd w hS) (fun d hd' => by rw [List.mem_singleton.1 hd']; exact ((SDt.own (e := 5) (D := (P8.1.drop j).map emd) (by simp)).rd w hS (D, cd, bs) hmem)) hcap2 1 (by omega) [(t, kd, bs)] hx1 1 rfl) rfl rfl) ?_ rfl rfl; rintro _ _ ⟨⟨⟨A9, c9⟩, P9⟩, rfl, hne9, rfl⟩; dsimp only [List.cons_append, List.nil_append]; have hl9 : P9.1.length = 1 := em_len P9.2.1))
    have hne9 := hne9 Nat.one_pos
    have hat9 := cellsL_at (f := emc) emc_len P9.1 default 0 (by omega)
    obtain ⟨m9, hm9⟩ : ∃ m, P9.1.getD 0 default = m := ⟨_, rfl⟩
    have hmi9 : m9 ∈ P9.1 := by rw [← hm9]; simp [List.getD, show 0 < P9.1.length by omega]
    have hmem9 : emd m9 ∈ P9.1.map emd := List.mem_map.2 ⟨m9, hmi9, rfl⟩
    have hev9 : emv m9 = (t, kd, bs) := List.mem_singleton.1 (by rw [← P9.2.1]; exact List.mem_map.2 ⟨m9, hmi9, rfl⟩)
    have hbk9 : m9.2.2.2.2.length ≤ 100000 := by
      have : m9.2.2.2.2 = bs := congrArg (fun e : En => e.2.2) hev9
      rw [this]
      exact hbk
    rw [hm9] at hat9
    obtain ⟨⟨e, p, b, r⟩, hs⟩ : ∃ x, app a L (emv (t, kd, D, cd, bs)) = x := ⟨_, rfl⟩
    have hs9 : app a L (emv m9) = (e, p, b, r) := by rw [hev9]; exact hs
    obtain ⟨hrl, hrm⟩ := app_out hs
    have hrt : ∀ y ∈ r, y.2.2.length ≤ 100000 := fun y hy => by
      rcases hrm y hy with h3 | h3
      · exact hLtx y h3
      · rw [h3]; exact hbk
    obtain ⟨K7, hK7⟩ : ∃ k, r.length = k := ⟨_, rfl⟩
    cases r0
    · have hs0 : app a L (emv (t, kd, D, cd, bs)) = (220, (0, 0), (0, 0), []) := by rw [app, hr, if_neg Bool.false_ne_true]
      have h00 : decide (((0, 0) : At) = (0, 0)) = true := decide_eq_true rfl
      focus (refine R_take (T_ixM (sz := 3) (q := 0) rfl rfl rfl rfl rfl rfl hne9 (by decide)) ?_ rfl rfl; refine R_take (T_lda (ds := emc m9) rfl rfl rfl (Srd.row (A := A9) (n := 1) (c := c9)) rfl (by omega) hat9) ?_ rfl rfl; (refine R_eff (E_alloca rfl em_zero) ?_ rfl rfl; rintro _ _ ⟨b11, rfl, rfl⟩); (refine R_eff0 (E_storew (cs := emc (0, 0, none, 0, [])) (ds := emc m9) rfl rfl rfl rfl (emc_one _) rfl) ?_ rfl; rintro _ _ rfl); refine R_nil ?_; refine S_seq rfl ?_; refine S_region rfl rfl ?_; refine R_take (T_loads (ds := lgc a A5 K c5) rfl rfl rfl rfl rfl) ?_ rfl rfl; refine R_take (T_loads (ds := emc (t, kd, D, cd, bs)) rfl rfl rfl rfl rfl) ?_ rfl rfl; (refine R_eff (E_hvG (f := 19) ⟨_, Try.func19, rfl, by kernel_rfl⟩ (fun w hS => apA_any w a A5 c5 K P5.1 L hl5 P5.2.1 ((Srd.row (A := A5) (n := K) (c := c5)).rd w hS) ((SDt.own (e := 5) (D := P5.1.map emd) (by simp)).rd w hS) (by omega) hPk5 (t, kd, D, cd, bs) ((SDt.own (e := 5) (D := (P8.1.drop j).map emd) (by simp)).rd w hS (D, cd, bs) hmem) hbk 220 (0, 0) (0, 0) [] 0 rfl hs0) rfl rfl) ?_ rfl rfl; rintro _ _ ⟨⟨⟨A12, c12⟩, P12⟩, rfl, _, rfl⟩; dsimp only [List.cons_append, List.nil_append]; have hl12 : P12.1.length = 0 := (em_len P12.2.1).trans rfl); refine R_p rfl ?_ rfl rfl; refine R_p rfl ?_ rfl rfl; refine R_p rfl ?_ rfl rfl; refine R_p rfl ?_ rfl rfl; (refine R_eff (E_alloca rfl lg_zero) ?_ rfl rfl; rintro _ _ ⟨b12, rfl, rfl⟩); (refine R_eff (E_alloca rfl at_zero) ?_ rfl rfl; rintro _ _ ⟨b13, rfl, rfl⟩); (refine R_eff0 (E_storew (cs := lgc (0, 0) none 0 0) (ds := lgc (0, 0) A12 0 c12) rfl rfl rfl rfl (lgc_one _ _ _ _) rfl) ?_ rfl; rintro _ _ rfl); (refine R_eff0 (E_storew (cs := atc (0, 0)) (ds := atc (0, 0)) rfl rfl rfl rfl (atc_one _) rfl) ?_ rfl; rintro _ _ rfl); refine R_p rfl ?_ rfl rfl; refine R_nil ?_; refine S_seq rfl ?_; refine S_seq rfl ?_; refine S_region rfl rfl ?_; refine R_p rfl ?_ rfl rfl; refine R_take (T_not rfl) ?_ rfl rfl; refine R_nil ?_; refine S_true rfl rfl ?_; refine S_seq rfl ?_; refine S_seq rfl ?_; refine S_region rfl rfl ?_; refine R_p rfl ?_ rfl rfl; refine R_take (T_decF rfl (by omega)) ?_ rfl rfl; refine R_p rfl ?_ rfl rfl; refine R_take (T_loads (ds := atc (0, 0)) rfl rfl rfl rfl rfl) ?_ rfl rfl; refine R_take (T_build0 at_built0) ?_ rfl rfl; refine R_take (T_neAt (a := (0, 0)) (b := (0, 0)) rfl rfl h00) ?_ rfl rfl; refine R_p rfl ?_ rfl rfl; refine R_p rfl ?_ rfl rfl; refine R_take (T_loads (ds := lgc (0, 0) A12 0 c12) rfl rfl rfl rfl rfl) ?_ rfl rfl; refine R_take (T_build0 lg_built0) ?_ rfl rfl; (refine R_eff (E_hv0 (f := 14) ⟨_, Try.func14, rfl, by kernel_rfl⟩ (fun w hS => sameD_kr w (0, 0) (0, 0) A12 none c12 0 0 0 P12.1 [] [] [] hl12 rfl P12.2.1 rfl ((Srd.row (A := A12) (n := 0) (c := c12)).rd w hS) rd_none3 (fun m hm => dtB_bs (e := 5) (D := P12.1.map emd) hS (by simp) (emd m) (List.mem_map.2 ⟨m, hm, rfl⟩)) (fun m hm => absurd hm (by simp)) (by omega) (by omega) true (same_tt (0, 0) [])) rfl rfl (fun _ => rfl)) ?_ rfl rfl; rintro _ _ ⟨_, rfl, _, rfl⟩); refine R_take (T_not rfl) ?_ rfl rfl; refine R_p rfl ?_ rfl rfl; refine R_nil ?_; refine S_false rfl rfl ?_; refine S_skip rfl ?_; refine S_exit rfl rfl ?_; refine S_region rfl rfl ?_; refine R_take (T_addN rfl rfl (by unfold fits; omega)) ?_ rfl rfl; refine R_p rfl ?_ rfl rfl; refine R_nil ?_)
      refine hJ (j + 1) _ _ (by omega) (Sub.cons rfl (Sub.cons rfl (Sub.cons rfl (Sub.cons rfl (Sub.cons rfl (Sub.cons rfl (Sub.cons rfl Sub.nil))))))) (fun w' hS => ?_) (by omega)
      have hS := sub_st (H' := [dtB 5 ((P8.1.drop j).map emd), pt b3 27 (lgc a A5 K c5), row 44 3 A5 K c5 (cellsL emc P5.1), dtB 5 (P5.1.map emd), pt b7 27 (lgc a A6 K c6), row 44 3 A6 K c6 (cellsL emc P6.1), dtB 5 (P6.1.map emd), row 44 3 A8 k2 c8 (cellsL emc P8.1)]) w' hS
      rw [hdr] at hS
      have h3 := dtB_sub (D' := (P8.1.drop (j + 1)).map emd) (List.sublist_cons_self _ _) hS
      exact sub_st w' h3
    have hpp : decide (p = p) = true := decide_eq_true rfl
    focus (refine R_take (T_ixM (sz := 3) (q := 0) rfl rfl rfl rfl rfl rfl hne9 (by decide)) ?_ rfl rfl; refine R_take (T_lda (ds := emc m9) rfl rfl rfl (Srd.row (A := A9) (n := 1) (c := c9)) rfl (by omega) hat9) ?_ rfl rfl; (refine R_eff (E_alloca rfl em_zero) ?_ rfl rfl; rintro _ _ ⟨b11, rfl, rfl⟩); (refine R_eff0 (E_storew (cs := emc (0, 0, none, 0, [])) (ds := emc m9) rfl rfl rfl rfl (emc_one _) rfl) ?_ rfl; rintro _ _ rfl); refine R_nil ?_; refine S_seq rfl ?_; refine S_region rfl rfl ?_; refine R_take (T_loads (ds := lgc a A5 K c5) rfl rfl rfl rfl rfl) ?_ rfl rfl; refine R_take (T_loads (ds := emc (t, kd, D, cd, bs)) rfl rfl rfl rfl rfl) ?_ rfl rfl; (refine R_eff (E_hvG (f := 19) ⟨_, Try.func19, rfl, by kernel_rfl⟩ (fun w hS => apA_any w a A5 c5 K P5.1 L hl5 P5.2.1 ((Srd.row (A := A5) (n := K) (c := c5)).rd w hS) ((SDt.own (e := 5) (D := P5.1.map emd) (by simp)).rd w hS) (by omega) hPk5 (t, kd, D, cd, bs) ((SDt.own (e := 5) (D := (P8.1.drop j).map emd) (by simp)).rd w hS (D, cd, bs) hmem) hbk e p b r K7 hK7 hs) rfl rfl) ?_ rfl rfl; rintro _ _ ⟨⟨⟨A12, c12⟩, P12⟩, rfl, _, rfl⟩; dsimp only [List.cons_append, List.nil_append]; have hl12 : P12.1.length = K7 := (em_len P12.2.1).trans hK7); refine R_p rfl ?_ rfl rfl; refine R_p rfl ?_ rfl rfl; refine R_p rfl ?_ rfl rfl; refine R_p rfl ?_ rfl rfl; (refine R_eff (E_alloca rfl lg_zero) ?_ rfl rfl; rintro _ _ ⟨b12, rfl, rfl⟩); (refine R_eff (E_alloca rfl at_zero) ?_ rfl rfl; rintro _ _ ⟨b13, rfl, rfl⟩); (refine R_eff0 (E_storew (cs := lgc (0, 0) none 0 0) (ds := lgc b A12 K7 c12) rfl rfl rfl rfl (lgc_one _ _ _ _) rfl) ?_ rfl; rintro _ _ rfl); (refine R_eff0 (E_storew (cs := atc (0, 0)) (ds := atc p) rfl rfl rfl rfl (atc_one _) rfl) ?_ rfl; rintro _ _ rfl); refine R_p rfl ?_ rfl rfl; refine R_nil ?_; refine S_seq rfl ?_; refine S_seq rfl ?_; refine S_region rfl rfl ?_; refine R_p rfl ?_ rfl rfl; refine R_take (T_not rfl) ?_ rfl rfl; refine R_nil ?_; refine S_false rfl rfl ?_; refine S_skip rfl ?_; refine S_seq rfl ?_; refine S_region rfl rfl ?_; refine R_take (T_loads (ds := lgc a A6 K c6) rfl rfl rfl rfl rfl) ?_ rfl rfl; refine R_take (T_loads (ds := emc m9) rfl rfl rfl rfl rfl) ?_ rfl rfl; (refine R_eff (E_hvG (f := 20) ⟨_, Try.func20, rfl, by kernel_rfl⟩ (fun w hS => apD_any w a A6 c6 K P6.1 L hl6 P6.2.1 ((Srd.row (A := A6) (n := K) (c := c6)).rd w hS) ((SDt.own (e := 5) (D := P6.1.map emd) (by simp)).rd w hS) (by omega) hPk6 m9 ((SDt.own (e := 5) (D := P9.1.map emd) (by simp)).rd w hS (emd m9) hmem9) hbk9 hr e p b r K7 hK7 hs9) rfl rfl) ?_ rfl rfl; rintro _ _ ⟨⟨⟨A15, c15⟩, P15⟩, rfl, _, rfl⟩; dsimp only [List.cons_append, List.nil_append]; have hl15 : P15.1.length = K7 := (em_len P15.2.1).trans hK7); refine R_p rfl ?_ rfl rfl; refine R_p rfl ?_ rfl rfl; refine R_p rfl ?_ rfl rfl; refine R_p rfl ?_ rfl rfl; (refine R_eff (E_alloca rfl lg_zero) ?_ rfl rfl; rintro _ _ ⟨b12, rfl, rfl⟩); (refine R_eff (E_alloca rfl at_zero) ?_ rfl rfl; rintro _ _ ⟨b13, rfl, rfl⟩); (refine R_eff0 (E_storew (cs := lgc (0, 0) none 0 0) (ds := lgc b A15 K7 c15) rfl rfl rfl rfl (lgc_one _ _ _ _) rfl) ?_ rfl; rintro _ _ rfl); (refine R_eff0 (E_storew (cs := atc (0, 0)) (ds := atc p) rfl rfl rfl rfl (atc_one _) rfl) ?_ rfl; rintro _ _ rfl); refine R_p rfl ?_ rfl rfl; refine R_nil ?_; refine S_seq rfl ?_; refine S_seq rfl ?_; refine S_region rfl rfl ?_; refine R_p rfl ?_ rfl rfl; refine R_p rfl ?_ rfl rfl; refine R_take (T_decF rfl (by omega)) ?_ rfl rfl; refine R_p rfl ?_ rfl rfl; refine R_take (T_loads (ds := atc p) rfl rfl rfl rfl rfl) ?_ rfl rfl; refine R_take (T_loads (ds := atc p) rfl rfl rfl rfl rfl) ?_ rfl rfl; refine R_take (T_neAt (a := p) (b := p) rfl rfl hpp) ?_ rfl rfl; refine R_p rfl ?_ rfl rfl; refine R_p rfl ?_ rfl rfl; refine R_take (T_loads (ds := lgc b A12 K7 c12) rfl rfl rfl rfl rfl) ?_ rfl rfl; refine R_take (T_loads (ds := lgc b A15 K7 c15) rfl rfl rfl rfl rfl) ?_ rfl rfl; (refine R_eff (E_hv0 (f := 14) ⟨_, Try.func14, rfl, by kernel_rfl⟩ (fun w hS => sameD_kr w b b A12 A15 c12 c15 K7 K7 P12.1 P15.1 r r hl12 hl15 P12.2.1 P15.2.1 ((Srd.row (A := A12) (n := K7) (c := c12)).rd w hS) ((Srd.row (A := A15) (n := K7) (c := c15)).rd w hS) (fun m hm => dtB_bs (e := 5) (D := P12.1.map emd) hS (by simp) (emd m) (List.mem_map.2 ⟨m, hm, rfl⟩)) (fun m hm => dtB_bs (e := 5) (D := P15.1.map emd) hS (by simp) (emd m) (List.mem_map.2 ⟨m, hm, rfl⟩)) (by omega) (by omega) true (same_tt b r)) rfl rfl (fun _ => rfl)) ?_ rfl rfl; rintro _ _ ⟨_, rfl, _, rfl⟩); refine R_take (T_not rfl) ?_ rfl rfl; refine R_p rfl ?_ rfl rfl; refine R_nil ?_; refine S_false rfl rfl ?_; refine S_skip rfl ?_; refine S_seq rfl ?_; refine S_region rfl rfl ?_; refine R_take (T_loads (ds := lgc b A12 K7 c12) rfl rfl rfl rfl rfl) ?_ rfl rfl; (refine R_eff (E_dr2 (f := 18) (A1 := row 44 3 A12 K7 c12 (cellsL emc P12.1)) (A2 := dtB 5 (P12.1.map emd)) ⟨_, Try.func18, rfl, by kernel_rfl⟩ (fun w _ hS => spoil_any w b A12 c12 K7 P12.1 hl12 (by omega) (em_txt P12.2.1 hrt) hS) rfl rfl) ?_ rfl rfl; rintro _ _ ⟨_, rfl, _, rfl⟩); refine R_nil ?_; refine S_seq rfl ?_; refine S_seq rfl ?_; refine S_region rfl rfl ?_; refine R_p rfl ?_ rfl rfl; refine R_take (T_load rfl rfl rfl rfl) ?_ rfl rfl; refine R_p rfl ?_ rfl rfl; refine R_p rfl ?_ rfl rfl; refine R_nil ?_; refine S_block rfl ?_)
    obtain ⟨zs, hzs, hzl⟩ := bv_zs bs
    refine S_loop (X := Nat × List Int) (fun x => [(10, .pointer (some ⟨b10, 0, none⟩)), (90, .int .i64 (bs.length : Int)), (91, .int .i64 (x.1 : Int)), (2, .int .u64 (idx : Int)), (3, .pointer (some ⟨b3, 0, none⟩)), (7, .pointer (some ⟨b7, 0, none⟩)), (8, .bool true), (32, .slice A8 k2 c8), (33, .int .i64 (k2 : Int)), (34, .int .i64 (j : Int))]) (fun x => [row 5 1 D bs.length cd (x.2.map (Value.int .u8)), dtB 5 ((P8.1.drop (j + 1)).map emd), pt b10 44 (emc (t, kd, D, cd, bs)), pt b3 27 (lgc a A5 K c5), row 44 3 A5 K c5 (cellsL emc P5.1), dtB 5 (P5.1.map emd), pt b7 27 (lgc a A6 K c6), row 44 3 A6 K c6 (cellsL emc P6.1), dtB 5 (P6.1.map emd), row 44 3 A8 k2 c8 (cellsL emc P8.1)]) (fun x => x.1 ≤ bs.length ∧ x.2.length = bs.length) (fun x => bs.length - x.1) rfl (0, zs) ⟨Nat.zero_le _, hzl⟩ (Sub.cons rfl (Sub.cons rfl (Sub.cons rfl (Sub.cons rfl (Sub.cons rfl (Sub.cons rfl (Sub.cons rfl (Sub.cons rfl (Sub.cons rfl (Sub.cons rfl Sub.nil)))))))))) (fun w' hS => ?_) ?_
    · have h3 := sub_st (H' := [dtB 5 ((P8.1.drop j).map emd), pt b10 44 (emc (t, kd, D, cd, bs)), pt b3 27 (lgc a A5 K c5), row 44 3 A5 K c5 (cellsL emc P5.1), dtB 5 (P5.1.map emd), pt b7 27 (lgc a A6 K c6), row 44 3 A6 K c6 (cellsL emc P6.1), dtB 5 (P6.1.map emd), row 44 3 A8 k2 c8 (cellsL emc P8.1)]) w' hS
      rw [hdr] at h3
      have h4 := dtB_take h3
      unfold dtA at h4
      rw [show (emd (t, kd, D, cd, bs)) = (D, cd, bs) from rfl] at h4
      dsimp only at h4
      rw [hzs] at h4
      exact h4
    rintro ⟨i, us⟩ ⟨hi, hul⟩ J2 hJ2
    dsimp only at hi hul ⊢
    refine RS_row D bs.length cd fun _ _ hneD _ => ?_
    rcases Nat.lt_or_ge i bs.length with hil | hil
    · have hneD := hneD (by omega)
      focus (refine S_seq rfl ?_; refine S_region rfl rfl ?_; refine R_take (T_decT rfl (by omega)) ?_ rfl rfl; refine R_nil ?_; refine S_seq rfl ?_; refine S_true rfl rfl ?_; refine S_skip rfl ?_; refine S_seq rfl ?_; refine S_block rfl ?_; refine S_seq rfl ?_; refine S_region rfl rfl ?_; refine R_p rfl ?_ rfl rfl; refine R_p rfl ?_ rfl rfl; refine R_nil ?_; refine S_region rfl rfl ?_; refine R_p rfl ?_ rfl rfl; refine R_take (T_load rfl rfl rfl rfl) ?_ rfl rfl; refine R_p rfl ?_ rfl rfl; refine R_take (T_ixN rfl rfl rfl rfl rfl rfl hneD hil) ?_ rfl rfl; refine R_take (T_ldr (sz := 1) (v := .int .u8 (us.getD i 0)) rfl rfl rfl (Srd.row (A := D) (n := bs.length) (c := cd)) (by omega) (int_at (by omega))) ?_ rfl rfl; refine R_take (T_arith (op := .xor) rfl rfl rfl) ?_ rfl rfl; refine R_take (T_ixN rfl rfl rfl rfl rfl rfl hneD hil) ?_ rfl rfl; (refine R_eff0 (E_storeR1 (A := D) (m := bs.length) (c := cd) (xs := us.map (Value.int .u8)) rfl rfl rfl rfl rfl (by rw [List.length_map]; omega)) ?_ rfl; rintro _ _ rfl); refine R_nil ?_; refine RS_blk ?_; refine S_region rfl rfl ?_; refine R_take (T_addN rfl rfl (by unfold fits; omega)) ?_ rfl rfl; refine R_p rfl ?_ rfl rfl; refine R_nil ?_)
      rw [← List.map_set]
      exact hJ2 (i + 1, us.set i _) _ _ ⟨by show i + 1 ≤ _; omega, by dsimp only; rw [List.length_set]; exact hul⟩ (Sub.cons rfl (Sub.cons rfl (Sub.cons rfl (Sub.cons rfl (Sub.cons rfl (Sub.cons rfl (Sub.cons rfl (Sub.cons rfl (Sub.cons rfl (Sub.cons rfl Sub.nil)))))))))) (fun _ h => h) (by show bs.length - (i + 1) < _; omega)
    · skip
      focus (refine S_seq rfl ?_; refine S_region rfl rfl ?_; refine R_take (T_decF rfl (by omega)) ?_ rfl rfl; refine R_nil ?_; refine S_seq rfl ?_; refine S_false rfl rfl ?_; refine S_exit rfl rfl ?_; refine S_seq rfl ?_; refine S_region rfl rfl ?_; refine R_take (T_loads (ds := lgc a A5 K c5) rfl rfl rfl rfl rfl) ?_ rfl rfl; refine R_take (T_loads (ds := lgc a A6 K c6) rfl rfl rfl rfl rfl) ?_ rfl rfl; (refine R_eff (E_hv0 (f := 14) ⟨_, Try.func14, rfl, by kernel_rfl⟩ (fun w hS => sameD_kr w a a A5 A6 c5 c6 K K P5.1 P6.1 L L hl5 hl6 P5.2.1 P6.2.1 ((Srd.row (A := A5) (n := K) (c := c5)).rd w hS) ((Srd.row (A := A6) (n := K) (c := c6)).rd w hS) (fun m hm => dtB_bs (e := 5) (D := P5.1.map emd) hS (by simp) (emd m) (List.mem_map.2 ⟨m, hm, rfl⟩)) (fun m hm => dtB_bs (e := 5) (D := P6.1.map emd) hS (by simp) (emd m) (List.mem_map.2 ⟨m, hm, rfl⟩)) (by omega) (by omega) true (same_tt a L)) rfl rfl (fun _ => rfl)) ?_ rfl rfl; rintro _ _ ⟨_, rfl, _, rfl⟩); refine R_take (T_not rfl) ?_ rfl rfl; refine R_nil ?_; refine S_false rfl rfl ?_; refine S_skip rfl ?_; refine RS_blk ?_; refine S_region rfl rfl ?_; refine R_take (T_addN rfl rfl (by unfold fits; omega)) ?_ rfl rfl; refine R_p rfl ?_ rfl rfl; refine R_nil ?_)
      exact hJ (j + 1) _ _ (by omega) (Sub.cons rfl (Sub.cons rfl (Sub.cons rfl (Sub.cons rfl (Sub.cons rfl (Sub.cons rfl (Sub.cons rfl Sub.nil))))))) sub_st (by omega)
  · obtain ⟨⟨e, b, r⟩, hs⟩ : ∃ x, cmp a L idx = x := ⟨_, rfl⟩
    obtain ⟨K7, hK7⟩ : ∃ k, r.length = k := ⟨_, rfl⟩
    cases r0
    · have hs0 : cmp a L idx = (220, (0, 0), []) := by rw [cmp, hr, if_neg Bool.false_ne_true]
      focus (refine S_seq rfl ?_; refine S_region rfl rfl ?_; refine R_take (T_decF rfl (by omega)) ?_ rfl rfl; refine R_nil ?_; refine S_seq rfl ?_; refine S_false rfl rfl ?_; refine S_exit rfl rfl ?_; refine S_seq rfl ?_; refine S_region rfl rfl ?_; refine R_take (T_loads (ds := lgc a A5 K c5) rfl rfl rfl rfl rfl) ?_ rfl rfl; refine R_p rfl ?_ rfl rfl; (refine R_eff (E_hvG (f := 21) ⟨_, Try.func21, rfl, by kernel_rfl⟩ (fun w hS => compact_S w a A5 c5 K P5.1 L hl5 P5.2.1 ((Srd.row (A := A5) (n := K) (c := c5)).rd w hS) ((SDt.own (e := 5) (D := P5.1.map emd) (by simp)).rd w hS) hc5 (by omega) hPk5 idx 220 (0, 0) [] 0 rfl hs0) rfl rfl) ?_ rfl rfl; rintro _ _ ⟨⟨⟨A19, c19⟩, P19⟩, rfl, _, rfl⟩; dsimp only [List.cons_append, List.nil_append]; have hl19 : P19.1.length = 0 := (em_len P19.2.1).trans rfl); refine R_p rfl ?_ rfl rfl; refine R_p rfl ?_ rfl rfl; refine R_p rfl ?_ rfl rfl; (refine R_eff (E_alloca rfl lg_zero) ?_ rfl rfl; rintro _ _ ⟨b19, rfl, rfl⟩); (refine R_eff0 (E_storew (cs := lgc (0, 0) none 0 0) (ds := lgc (0, 0) A19 0 c19) rfl rfl rfl rfl (lgc_one _ _ _ _) rfl) ?_ rfl; rintro _ _ rfl); refine R_p rfl ?_ rfl rfl; refine R_nil ?_; refine S_seq rfl ?_; refine S_region rfl rfl ?_; refine R_take (T_loads (ds := lgc a A6 K c6) rfl rfl rfl rfl rfl) ?_ rfl rfl; refine R_p rfl ?_ rfl rfl; (refine R_eff (E_hvG (f := 22) ⟨_, Try.func22, rfl, by kernel_rfl⟩ (fun w hS => cmpD_w w a A6 c6 K P6.1 hl6 ((Srd.row (A := A6) (n := K) (c := c6)).rd w hS) ((SDt.own (e := 5) (D := P6.1.map emd) (by simp)).rd w hS) hc6 (by omega) hPk6 idx) rfl rfl) ?_ rfl rfl; rintro _ _ ⟨⟨b21', A21, n21, c21, q21⟩, rfl, _, rfl⟩; dsimp only [List.cons_append, List.nil_append]); refine R_p rfl ?_ rfl rfl; refine R_p rfl ?_ rfl rfl; refine R_p rfl ?_ rfl rfl; (refine R_eff (E_alloca rfl lg_zero) ?_ rfl rfl; rintro _ _ ⟨b19, rfl, rfl⟩); (refine R_eff0 (E_storew (cs := lgc (0, 0) none 0 0) (ds := lgc b21' A21 n21 c21) rfl rfl rfl rfl (lgc_one _ _ _ _) rfl) ?_ rfl; rintro _ _ rfl); refine R_p rfl ?_ rfl rfl; refine R_nil ?_; refine S_seq rfl ?_; refine S_seq rfl ?_; refine S_region rfl rfl ?_; refine R_p rfl ?_ rfl rfl; refine R_take (T_not rfl) ?_ rfl rfl; refine R_nil ?_; refine S_true rfl rfl ?_; refine S_seq rfl ?_; refine S_region rfl rfl ?_; refine R_p rfl ?_ rfl rfl; refine R_take (T_decT rfl (by omega)) ?_ rfl rfl; refine R_take (T_decT rfl (by omega)) ?_ rfl rfl; refine R_take (T_loads (ds := lgc (0, 0) A19 0 c19) rfl rfl rfl rfl rfl) ?_ rfl rfl; refine R_take (T_build0 lg_built0) ?_ rfl rfl; (refine R_eff (E_hv0 (f := 14) ⟨_, Try.func14, rfl, by kernel_rfl⟩ (fun w hS => sameD_kr w (0, 0) (0, 0) A19 none c19 0 0 0 P19.1 [] [] [] hl19 rfl P19.2.1 rfl ((Srd.row (A := A19) (n := 0) (c := c19)).rd w hS) rd_none3 (fun m hm => dtB_bs (e := 5) (D := P19.1.map emd) hS (by simp) (emd m) (List.mem_map.2 ⟨m, hm, rfl⟩)) (fun m hm => absurd hm (by simp)) (by omega) (by omega) true (same_tt (0, 0) [])) rfl rfl (fun _ => rfl)) ?_ rfl rfl; rintro _ _ ⟨_, rfl, _, rfl⟩); refine R_take (T_decT rfl (by omega)) ?_ rfl rfl; refine R_take (T_decT rfl (by omega)) ?_ rfl rfl; refine R_nil ?_)
      exact hB _ _ _ _ _ rfl rfl fun w' hS => ⟨(), rfl, trivial, hS.sublist (List.nil_sublist _)⟩
    obtain ⟨hee, hrl, hrm⟩ := cmp_out hr hs
    have hrt : ∀ y ∈ r, y.2.2.length ≤ 100000 := fun y hy => hLtx y (hrm y hy)
    rcases hee with he | he
    · have hq : decide (e = 0) = true := decide_eq_true he
      focus (refine S_seq rfl ?_; refine S_region rfl rfl ?_; refine R_take (T_decF rfl (by omega)) ?_ rfl rfl; refine R_nil ?_; refine S_seq rfl ?_; refine S_false rfl rfl ?_; refine S_exit rfl rfl ?_; refine S_seq rfl ?_; refine S_region rfl rfl ?_; refine R_take (T_loads (ds := lgc a A5 K c5) rfl rfl rfl rfl rfl) ?_ rfl rfl; refine R_p rfl ?_ rfl rfl; (refine R_eff (E_hvG (f := 21) ⟨_, Try.func21, rfl, by kernel_rfl⟩ (fun w hS => compact_S w a A5 c5 K P5.1 L hl5 P5.2.1 ((Srd.row (A := A5) (n := K) (c := c5)).rd w hS) ((SDt.own (e := 5) (D := P5.1.map emd) (by simp)).rd w hS) hc5 (by omega) hPk5 idx e b r K7 hK7 hs) rfl rfl) ?_ rfl rfl; rintro _ _ ⟨⟨⟨A19, c19⟩, P19⟩, rfl, _, rfl⟩; dsimp only [List.cons_append, List.nil_append]; have hl19 : P19.1.length = K7 := (em_len P19.2.1).trans hK7); refine R_p rfl ?_ rfl rfl; refine R_p rfl ?_ rfl rfl; refine R_p rfl ?_ rfl rfl; (refine R_eff (E_alloca rfl lg_zero) ?_ rfl rfl; rintro _ _ ⟨b19, rfl, rfl⟩); (refine R_eff0 (E_storew (cs := lgc (0, 0) none 0 0) (ds := lgc b A19 K7 c19) rfl rfl rfl rfl (lgc_one _ _ _ _) rfl) ?_ rfl; rintro _ _ rfl); refine R_p rfl ?_ rfl rfl; refine R_nil ?_; refine S_seq rfl ?_; refine S_region rfl rfl ?_; refine R_take (T_loads (ds := lgc a A6 K c6) rfl rfl rfl rfl rfl) ?_ rfl rfl; refine R_p rfl ?_ rfl rfl; (refine R_eff (E_hvG (f := 22) ⟨_, Try.func22, rfl, by kernel_rfl⟩ (fun w hS => cmpD_any w a A6 c6 K P6.1 L hl6 P6.2.1 ((Srd.row (A := A6) (n := K) (c := c6)).rd w hS) ((SDt.own (e := 5) (D := P6.1.map emd) (by simp)).rd w hS) hc6 (by omega) hPk6 hr idx e b r K7 hK7 hs true hq) rfl rfl) ?_ rfl rfl; rintro _ _ ⟨⟨⟨A21, c21⟩, P21⟩, rfl, _, rfl⟩; dsimp only [List.cons_append, List.nil_append]; have hl21 : P21.1.length = K7 := (em_len P21.2.1).trans hK7); refine R_p rfl ?_ rfl rfl; refine R_p rfl ?_ rfl rfl; refine R_p rfl ?_ rfl rfl; (refine R_eff (E_alloca rfl lg_zero) ?_ rfl rfl; rintro _ _ ⟨b19, rfl, rfl⟩); (refine R_eff0 (E_storew (cs := lgc (0, 0) none 0 0) (ds := lgc b A21 K7 c21) rfl rfl rfl rfl (lgc_one _ _ _ _) rfl) ?_ rfl; rintro _ _ rfl); refine R_p rfl ?_ rfl rfl; refine R_nil ?_; refine S_seq rfl ?_; refine S_seq rfl ?_; refine S_region rfl rfl ?_; refine R_p rfl ?_ rfl rfl; refine R_take (T_not rfl) ?_ rfl rfl; refine R_nil ?_; refine S_false rfl rfl ?_; refine S_skip rfl ?_; refine S_seq rfl ?_; refine S_seq rfl ?_; refine S_region rfl rfl ?_; refine R_p rfl ?_ rfl rfl; refine R_p rfl ?_ rfl rfl; refine R_take (T_decT rfl (by omega)) ?_ rfl rfl; refine R_take (T_bnq (b := true) (c := true) (r := false) rfl rfl rfl rfl rfl) ?_ rfl rfl; refine R_p rfl ?_ rfl rfl; refine R_p rfl ?_ rfl rfl; refine R_take (T_not rfl) ?_ rfl rfl; refine R_p rfl ?_ rfl rfl; refine R_skip ?_ rfl rfl; refine R_skip ?_ rfl rfl; refine R_p rfl ?_ rfl rfl; refine R_p rfl ?_ rfl rfl; refine R_p rfl ?_ rfl rfl; refine R_take (T_loads (ds := lgc b A19 K7 c19) rfl rfl rfl rfl rfl) ?_ rfl rfl; refine R_take (T_loads (ds := lgc b A21 K7 c21) rfl rfl rfl rfl rfl) ?_ rfl rfl; (refine R_eff (E_hv0 (f := 14) ⟨_, Try.func14, rfl, by kernel_rfl⟩ (fun w hS => sameD_kr w b b A19 A21 c19 c21 K7 K7 P19.1 P21.1 r r hl19 hl21 P19.2.1 P21.2.1 ((Srd.row (A := A19) (n := K7) (c := c19)).rd w hS) ((Srd.row (A := A21) (n := K7) (c := c21)).rd w hS) (fun m hm => dtB_bs (e := 5) (D := P19.1.map emd) hS (by simp) (emd m) (List.mem_map.2 ⟨m, hm, rfl⟩)) (fun m hm => dtB_bs (e := 5) (D := P21.1.map emd) hS (by simp) (emd m) (List.mem_map.2 ⟨m, hm, rfl⟩)) (by omega) (by omega) true (same_tt b r)) rfl rfl (fun _ => rfl)) ?_ rfl rfl; rintro _ _ ⟨_, rfl, _, rfl⟩); refine R_take (T_not rfl) ?_ rfl rfl; refine R_p rfl ?_ rfl rfl; refine R_nil ?_; refine S_false rfl rfl ?_; refine S_skip rfl ?_; refine S_seq rfl ?_; refine S_region rfl rfl ?_; refine R_take (T_loads (ds := lgc b A19 K7 c19) rfl rfl rfl rfl rfl) ?_ rfl rfl; (refine R_eff (E_dr2 (f := 18) (A1 := row 44 3 A19 K7 c19 (cellsL emc P19.1)) (A2 := dtB 5 (P19.1.map emd)) ⟨_, Try.func18, rfl, by kernel_rfl⟩ (fun w _ hS => spoil_any w b A19 c19 K7 P19.1 hl19 (by omega) (em_txt P19.2.1 hrt) hS) rfl rfl) ?_ rfl rfl; rintro _ _ ⟨_, rfl, _, rfl⟩); refine R_nil ?_; refine S_seq rfl ?_; refine S_region rfl rfl ?_; refine R_take (T_loads (ds := lgc a A5 K c5) rfl rfl rfl rfl rfl) ?_ rfl rfl; refine R_take (T_loads (ds := lgc a A6 K c6) rfl rfl rfl rfl rfl) ?_ rfl rfl; (refine R_eff (E_hv0 (f := 14) ⟨_, Try.func14, rfl, by kernel_rfl⟩ (fun w hS => sameD_kr w a a A5 A6 c5 c6 K K P5.1 P6.1 L L hl5 hl6 P5.2.1 P6.2.1 ((Srd.row (A := A5) (n := K) (c := c5)).rd w hS) ((Srd.row (A := A6) (n := K) (c := c6)).rd w hS) (fun m hm => dtB_bs (e := 5) (D := P5.1.map emd) hS (by simp) (emd m) (List.mem_map.2 ⟨m, hm, rfl⟩)) (fun m hm => dtB_bs (e := 5) (D := P6.1.map emd) hS (by simp) (emd m) (List.mem_map.2 ⟨m, hm, rfl⟩)) (by omega) (by omega) true (same_tt a L)) rfl rfl (fun _ => rfl)) ?_ rfl rfl; rintro _ _ ⟨_, rfl, _, rfl⟩); refine R_take (T_decT rfl (by omega)) ?_ rfl rfl; refine R_nil ?_)
      exact hB _ _ _ _ _ rfl rfl fun w' hS => ⟨(), rfl, trivial, hS.sublist (List.nil_sublist _)⟩
    · have hq : decide (e = 0) = false := decide_eq_false (by omega)
      focus (refine S_seq rfl ?_; refine S_region rfl rfl ?_; refine R_take (T_decF rfl (by omega)) ?_ rfl rfl; refine R_nil ?_; refine S_seq rfl ?_; refine S_false rfl rfl ?_; refine S_exit rfl rfl ?_; refine S_seq rfl ?_; refine S_region rfl rfl ?_; refine R_take (T_loads (ds := lgc a A5 K c5) rfl rfl rfl rfl rfl) ?_ rfl rfl; refine R_p rfl ?_ rfl rfl; (refine R_eff (E_hvG (f := 21) ⟨_, Try.func21, rfl, by kernel_rfl⟩ (fun w hS => compact_S w a A5 c5 K P5.1 L hl5 P5.2.1 ((Srd.row (A := A5) (n := K) (c := c5)).rd w hS) ((SDt.own (e := 5) (D := P5.1.map emd) (by simp)).rd w hS) hc5 (by omega) hPk5 idx e b r K7 hK7 hs) rfl rfl) ?_ rfl rfl; rintro _ _ ⟨⟨⟨A19, c19⟩, P19⟩, rfl, _, rfl⟩; dsimp only [List.cons_append, List.nil_append]; have hl19 : P19.1.length = K7 := (em_len P19.2.1).trans hK7); refine R_p rfl ?_ rfl rfl; refine R_p rfl ?_ rfl rfl; refine R_p rfl ?_ rfl rfl; (refine R_eff (E_alloca rfl lg_zero) ?_ rfl rfl; rintro _ _ ⟨b19, rfl, rfl⟩); (refine R_eff0 (E_storew (cs := lgc (0, 0) none 0 0) (ds := lgc b A19 K7 c19) rfl rfl rfl rfl (lgc_one _ _ _ _) rfl) ?_ rfl; rintro _ _ rfl); refine R_p rfl ?_ rfl rfl; refine R_nil ?_; refine S_seq rfl ?_; refine S_region rfl rfl ?_; refine R_take (T_loads (ds := lgc a A6 K c6) rfl rfl rfl rfl rfl) ?_ rfl rfl; refine R_p rfl ?_ rfl rfl; (refine R_eff (E_hvG (f := 22) ⟨_, Try.func22, rfl, by kernel_rfl⟩ (fun w hS => cmpD_any w a A6 c6 K P6.1 L hl6 P6.2.1 ((Srd.row (A := A6) (n := K) (c := c6)).rd w hS) ((SDt.own (e := 5) (D := P6.1.map emd) (by simp)).rd w hS) hc6 (by omega) hPk6 hr idx e b r K7 hK7 hs false hq) rfl rfl) ?_ rfl rfl; rintro _ _ ⟨⟨⟨A21, c21⟩, P21⟩, rfl, _, rfl⟩; dsimp only [List.cons_append, List.nil_append]; have hl21 : P21.1.length = K7 := (em_len P21.2.1).trans hK7); refine R_p rfl ?_ rfl rfl; refine R_p rfl ?_ rfl rfl; refine R_p rfl ?_ rfl rfl; (refine R_eff (E_alloca rfl lg_zero) ?_ rfl rfl; rintro _ _ ⟨b19, rfl, rfl⟩); (refine R_eff0 (E_storew (cs := lgc (0, 0) none 0 0) (ds := lgc b A21 K7 c21) rfl rfl rfl rfl (lgc_one _ _ _ _) rfl) ?_ rfl; rintro _ _ rfl); refine R_p rfl ?_ rfl rfl; refine R_nil ?_; refine S_seq rfl ?_; refine S_seq rfl ?_; refine S_region rfl rfl ?_; refine R_p rfl ?_ rfl rfl; refine R_take (T_not rfl) ?_ rfl rfl; refine R_nil ?_; refine S_false rfl rfl ?_; refine S_skip rfl ?_; refine S_seq rfl ?_; refine S_seq rfl ?_; refine S_region rfl rfl ?_; refine R_p rfl ?_ rfl rfl; refine R_p rfl ?_ rfl rfl; refine R_take (T_decF rfl (by omega)) ?_ rfl rfl; refine R_take (T_bnq (b := false) (c := false) (r := false) rfl rfl rfl rfl rfl) ?_ rfl rfl; refine R_p rfl ?_ rfl rfl; refine R_p rfl ?_ rfl rfl; refine R_take (T_not rfl) ?_ rfl rfl; refine R_p rfl ?_ rfl rfl; refine R_p rfl ?_ rfl rfl; refine R_take (T_decF rfl (by omega)) ?_ rfl rfl; refine R_p rfl ?_ rfl rfl; refine R_p rfl ?_ rfl rfl; refine R_p rfl ?_ rfl rfl; refine R_take (T_loads (ds := lgc b A19 K7 c19) rfl rfl rfl rfl rfl) ?_ rfl rfl; refine R_take (T_loads (ds := lgc b A21 K7 c21) rfl rfl rfl rfl rfl) ?_ rfl rfl; (refine R_eff (E_hv0 (f := 14) ⟨_, Try.func14, rfl, by kernel_rfl⟩ (fun w hS => sameD_kr w b b A19 A21 c19 c21 K7 K7 P19.1 P21.1 r r hl19 hl21 P19.2.1 P21.2.1 ((Srd.row (A := A19) (n := K7) (c := c19)).rd w hS) ((Srd.row (A := A21) (n := K7) (c := c21)).rd w hS) (fun m hm => dtB_bs (e := 5) (D := P19.1.map emd) hS (by simp) (emd m) (List.mem_map.2 ⟨m, hm, rfl⟩)) (fun m hm => dtB_bs (e := 5) (D := P21.1.map emd) hS (by simp) (emd m) (List.mem_map.2 ⟨m, hm, rfl⟩)) (by omega) (by omega) true (same_tt b r)) rfl rfl (fun _ => rfl)) ?_ rfl rfl; rintro _ _ ⟨_, rfl, _, rfl⟩); refine R_take (T_not rfl) ?_ rfl rfl; refine R_p rfl ?_ rfl rfl; refine R_nil ?_; refine S_false rfl rfl ?_; refine S_skip rfl ?_; refine S_seq rfl ?_; refine S_region rfl rfl ?_; refine R_take (T_loads (ds := lgc b A19 K7 c19) rfl rfl rfl rfl rfl) ?_ rfl rfl; (refine R_eff (E_dr2 (f := 18) (A1 := row 44 3 A19 K7 c19 (cellsL emc P19.1)) (A2 := dtB 5 (P19.1.map emd)) ⟨_, Try.func18, rfl, by kernel_rfl⟩ (fun w _ hS => spoil_any w b A19 c19 K7 P19.1 hl19 (by omega) (em_txt P19.2.1 hrt) hS) rfl rfl) ?_ rfl rfl; rintro _ _ ⟨_, rfl, _, rfl⟩); refine R_nil ?_; refine S_seq rfl ?_; refine S_region rfl rfl ?_; refine R_take (T_loads (ds := lgc a A5 K c5) rfl rfl rfl rfl rfl) ?_ rfl rfl; refine R_take (T_loads (ds := lgc a A6 K c6) rfl rfl rfl rfl rfl) ?_ rfl rfl; (refine R_eff (E_hv0 (f := 14) ⟨_, Try.func14, rfl, by kernel_rfl⟩ (fun w hS => sameD_kr w a a A5 A6 c5 c6 K K P5.1 P6.1 L L hl5 hl6 P5.2.1 P6.2.1 ((Srd.row (A := A5) (n := K) (c := c5)).rd w hS) ((Srd.row (A := A6) (n := K) (c := c6)).rd w hS) (fun m hm => dtB_bs (e := 5) (D := P5.1.map emd) hS (by simp) (emd m) (List.mem_map.2 ⟨m, hm, rfl⟩)) (fun m hm => dtB_bs (e := 5) (D := P6.1.map emd) hS (by simp) (emd m) (List.mem_map.2 ⟨m, hm, rfl⟩)) (by omega) (by omega) true (same_tt a L)) rfl rfl (fun _ => rfl)) ?_ rfl rfl; rintro _ _ ⟨_, rfl, _, rfl⟩); refine R_take (T_decT rfl (by omega)) ?_ rfl rfl; refine R_nil ?_)
      exact hB _ _ _ _ _ rfl rfl fun w' hS => ⟨(), rfl, trivial, hS.sublist (List.nil_sublist _)⟩
set_option maxRecDepth 100000 in
theorem open_ents {H : Type} {enc : TypeId × Value → H} {W : World} {r : Reach} {base : Nat} {v : Value} {d : DataW H} {p : List MemPlace} (hv : Value.okWide Try.prog W r base 25 v) (h : DataW.Trod enc Try.prog W 0 (fun _ => true) true 25 v d p) :
    ∃ (A : Option Addr) (c : Nat) (Q : List Em), v = .slice A Q.length c ∧ Rd W All 3 A Q.length (cellsL emc Q) ∧ RDt W All (Q.map emd) ∧ ∀ m ∈ Q, m.2.2.2.2.length ≤ m.2.2.2.1 := by
  obtain ⟨a0, len0, cap0, rfl⟩ := okWide_slice Try.underlying25 hv
  obtain ⟨A, n, c, xs, hcs, h1, h2, h3, h4⟩ := (Op_.of_trod h).slice Try.underlying25 (size := 3) (by kernel_rfl)
  simp [Value.cells] at hcs
  obtain ⟨rfl, rfl, rfl⟩ := hcs
  obtain ⟨Q, hQ, rfl, hall⟩ := rows_of (n := 0) (size := 3) (f := emc) emc_len (fun m : Em => Rd W All 1 m.2.2.1 m.2.2.2.2.length (m.2.2.2.2.map bv) ∧ m.2.2.2.2.length ≤ m.2.2.2.1 ∧ m.1 < 18446744073709551616) _ _ h3.1 fun i hi => op_entry (h4 i hi)
  subst hQ
  refine ⟨_, _, Q, rfl, h3, fun d hd => ?_, fun m hm => (hall m hm).2.1⟩
  obtain ⟨m, hm, rfl⟩ := List.mem_map.1 hd
  exact (hall m hm).1
set_option maxRecDepth 100000 in
theorem LogAppends_open {H : Type} {enc : TypeId × Value → H} (W : World) {r : Reach} (base : Nat) (v0 v1 v2 : Value) {d0 d1 d2 : DataW H} {p0 p1 p2 : List MemPlace}
    (hv0 : Value.okWide Try.prog W r base 27 v0) (hv1 : Value.okWide Try.prog W r base 25 v1) (hv2 : Value.okWide Try.prog W r base 22 v2)
    (h0 : DataW.Trod enc Try.prog W 0 (fun _ => true) true 27 v0 d0 p0) (h1 : DataW.Trod enc Try.prog W 0 (fun _ => true) true 25 v1 d1 p1) (h2 : DataW.Trod enc Try.prog W 0 (fun _ => true) true 22 v2 d2 p2) :
    Calls Try.prog 4 #[v0, v1, v2] W fun e w' => e = .returned (.bool true) ∧ Kp All W w' := by
  obtain ⟨a, A, c, Q, rfl, g1, g2, _, g3, _, g4⟩ := open_log hv0 h0
  obtain ⟨A1, c1', E, rfl, k1, k2, k3⟩ := open_ents hv1 h1
  obtain ⟨z, rfl⟩ := okWide_int Try.underlying22 hv2
  obtain ⟨k, hk, hk2⟩ := open_u64 h2
  obtain rfl : z = (k : Int) := hk
  exact (appends_any W a A c Q g1 g2 (fun m hm => (g3 m hm).1) A1 c1' E k1 k2 k3 k).pure12
end Go.Proofs.Ytkdpfnaaopimoaa
