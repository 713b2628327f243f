/- spoil; the document's Entries, Copy, Term, Has, Newer. -/
import Derived.Test.YtkdpfnaaopimoaaLgK
namespace Go.Proofs.Ytkdpfnaaopimoaa
open Go.RowKit
open Asn (pt row rb)
set_option linter.unusedVariables false
set_option linter.unusedSimpArgs false
--@use N

/-- a call that takes two parts and leaves nothing of them -/
theorem E_dr2 {P : Program} {n : Nat} {w0 : World} {M : Nat → Prop} {T : Slots} {H H1 Hr : List Asn} {dd : Option Tmp} {tt : TypeId} {pos : String} {af : Array Edge} {g : Option (Nat × Bool)} {ts : Array TypeId} {f : FuncId} {xs : Array Operand} {vs vs' : List Value} {X : Type} {V : X → Value} {I : X → Prop} {A1 A2 : Asn} [h1 : RemC H A1 H1] [h2 : RemC H1 A2 Hr] (hf : Fn_ P f) (hc : ∀ w, St w0 M (A1 :: A2 :: Hr) w → St w (owns [A1, A2]) [A1, A2] w → Gives P f vs' [A1, A2] w V I (fun _ => [])) (hx : ogets T xs.toList = some vs) (hv : vs = vs') :
    Ef P n w0 M T H ⟨dd, .call ⟨.value (.func f), xs, ts⟩, tt, pos, af, g⟩ (fun u H' => ∃ x, u = V x ∧ I x ∧ H' = Hr) := by
  subst hv
  refine (E_call [A1, A2] Hr V I (fun _ => []) hx hf (fun w hS => hS.perm (h1.perm.trans (List.Perm.cons _ h2.perm))) fun w hS => hc w hS (St.again (As := [A1, A2]) hS)).mono ?_
  rintro v H' ⟨x, hI, rfl, rfl⟩ w hS
  exact ⟨_, _, rfl, ⟨x, rfl, hI, rfl⟩, hS⟩
theorem emd_drop (Q : List Em) (j : Nat) (hj : j < Q.length) {m : Em} (hm : Q.getD j default = m) : (Q.drop j).map emd = [] ++ emd m :: (Q.drop (j + 1)).map emd := by
  rw [em_split Q j hj hm]
  rfl
theorem int_at {us : List Int} {j : Nat} (h : j < us.length) : (us.map (Value.int .u8))[j]? = some (.int .u8 (us.getD j 0)) := by simp [List.getD, h]
theorem bv_zs (l : List UInt8) : ∃ zs : List Int, l.map bv = zs.map (Value.int .u8) ∧ zs.length = l.length := ⟨l.map fun x => (x.toNat : Int), by rw [List.map_map]; rfl, by simp⟩
set_option maxRecDepth 100000 in
set_option maxHeartbeats 4000000 in
theorem spoil_any (w : World) (a : At) (A : Option Addr) (c k : Nat) (Q : List Em) (hk : Q.length = k) (hn : k ≤ 1000) (hkk : ∀ m ∈ Q, m.2.2.2.2.length ≤ 100000) (hS0 : St w (owns [row 44 3 A k c (cellsL emc Q), dtB 5 (Q.map emd)]) [row 44 3 A k c (cellsL emc Q), dtB 5 (Q.map emd)] w) :
    Gives Try.prog 18 [.agg (lgc a A k c).toArray] [row 44 3 A k c (cellsL emc Q), dtB 5 (Q.map emd)] w (X := Unit) (fun _ => .tuple #[]) (fun _ => True) (fun _ => []) := by
  refine gives_N2 Try.func18 rfl Try.ntmps18 Try.results18 (by simp) hS0 (fun B hB hB2 => ?_)
  have hf0 := row_facts (hS0.at_ (A := row 44 3 A k c (cellsL emc Q)) (by simp))
  have hne : 0 < k → A ≠ none := hf0.2.2.1
  focus (refine S_seq rfl ?_; refine S_region rfl rfl ?_; (refine R_eff (E_boxa (cs := lgc a A k c) rfl) ?_ rfl rfl; rintro _ _ ⟨b1, rfl, rfl⟩); refine R_nil ?_; refine S_seq rfl ?_; refine S_region rfl rfl ?_; refine R_p rfl ?_ rfl rfl; refine R_take (T_load rfl rfl rfl (by first | rfl | assumption)) ?_ rfl rfl; refine R_p rfl ?_ rfl rfl; refine R_p rfl ?_ rfl rfl; refine R_nil ?_; refine S_block rfl ?_)
  refine S_loop (X := Nat × List Value) (fun x => [(1, .pointer (some ⟨b1, 0, none⟩)), (6, .int .i64 (k : Int)), (7, .int .i64 (x.1 : Int))]) (fun x => [pt b1 27 (lgc a A k c), row 44 3 A k c x.2, dtB 5 ((Q.drop x.1).map emd)]) (fun x => x.1 ≤ k ∧ x.2.length = k * 3 ∧ ∀ i, i < k → x.2[i * 3 + 2]? = (cellsL emc Q)[i * 3 + 2]?) (fun x => k - x.1) rfl (0, cellsL emc Q) ⟨Nat.zero_le _, by rw [cellsL_len emc_len, hk], fun _ _ => rfl⟩ (Sub.cons rfl (Sub.cons rfl (Sub.cons rfl Sub.nil))) (fun _ h => h) ?_
  rintro ⟨j, ys⟩ ⟨hj, hyl, hys⟩ J hJ
  dsimp only at hj hyl hys ⊢
  rcases Nat.lt_or_ge j k with hjl | hjl
  · have hne := hne (by omega)
    have hat := cellsL_at (f := emc) emc_len Q default j (by omega)
    obtain ⟨m, hm⟩ : ∃ m, Q.getD j default = m := ⟨_, rfl⟩
    have hmem : m ∈ Q := by rw [← hm]; simp [List.getD, show j < Q.length by omega]
    rw [hm] at hat
    have hdr := emd_drop Q j (by omega) hm
    have hkm := hkk m hmem
    obtain ⟨t, kd, D, cd, l⟩ := m
    have hkm : l.length ≤ 100000 := hkm
    have hat2 : ys[j * 3 + 2]? = some (.slice D l.length cd) := by rw [hys j hjl]; exact hat 2 _ rfl
    obtain ⟨zs, hzs, hzl⟩ := bv_zs l
    obtain ⟨N, hN⟩ : ∃ N, l.length = N := ⟨_, rfl⟩
    rw [hN] at hat2 hzl hkm
    have htake : ∀ w', St w (owns [row 44 3 A k c (cellsL emc Q), dtB 5 (Q.map emd)]) [pt b1 27 (lgc a A k c), row 44 3 A k c ys, dtB 5 ((Q.drop j).map emd)] w' → St w (owns [row 44 3 A k c (cellsL emc Q), dtB 5 (Q.map emd)]) [row 5 1 D N cd (zs.map (Value.int .u8)), dtB 5 ((Q.drop (j + 1)).map emd), pt b1 27 (lgc a A k c), row 44 3 A k c ys] w' := fun w' hS => by
      have h1 := sub_st (H' := [dtB 5 ((Q.drop j).map emd), pt b1 27 (lgc a A k c), row 44 3 A k c ys]) w' hS
      rw [hdr] at h1
      have h2 := dtB_take h1
      unfold dtA at h2
      rw [show (emd (t, kd, D, cd, l)) = (D, cd, l) from rfl] at h2
      dsimp only at h2
      rw [hzs, hN] at h2
      exact h2
    refine RS_mem htake ?_
    refine RS_row D N cd fun _ _ hneD _ => ?_
    focus (refine S_seq rfl ?_; refine S_region rfl rfl ?_; refine R_take (T_decT rfl (by omega)) ?_ rfl rfl; refine R_nil ?_; refine S_seq rfl ?_; refine S_true rfl rfl ?_; refine S_skip rfl ?_; refine S_seq rfl ?_; refine S_block rfl ?_; refine S_seq rfl ?_; refine S_region rfl rfl ?_; refine R_p rfl ?_ rfl rfl; refine R_p rfl ?_ rfl rfl; refine R_nil ?_; refine S_seq rfl ?_; refine S_seq rfl ?_; refine S_region rfl rfl ?_; refine R_p rfl ?_ rfl rfl; refine R_take (T_load rfl rfl rfl rfl) ?_ rfl rfl; refine R_p rfl ?_ rfl rfl; refine R_take (T_ixM (sz := 3) (q := j) rfl rfl rfl rfl rfl rfl hne hjl) ?_ rfl rfl; refine R_take (T_fap rfl rfl rfl rfl rfl hne) ?_ rfl rfl; refine R_take (T_ldr rfl rfl rfl (Srd.row (A := A) (n := k) (c := c)) (by omega) hat2) ?_ rfl rfl; refine R_p rfl ?_ rfl rfl; refine R_p rfl ?_ rfl rfl; refine R_nil ?_; refine S_block rfl ?_)
    refine S_loop (X := Nat × List Int) (fun x => [(1, .pointer (some ⟨b1, 0, none⟩)), (2, .int .i64 (j : Int)), (6, .int .i64 (k : Int)), (7, .int .i64 (j : Int)), (16, .int .i64 (N : Int)), (17, .int .i64 (x.1 : Int))]) (fun x => [row 5 1 D N cd (x.2.map (Value.int .u8)), dtB 5 ((Q.drop (j + 1)).map emd), pt b1 27 (lgc a A k c), row 44 3 A k c ys]) (fun x => x.1 ≤ N ∧ x.2.length = N) (fun x => N - x.1) rfl (0, zs) ⟨Nat.zero_le _, hzl⟩ (Sub.cons rfl (Sub.cons rfl (Sub.cons rfl (Sub.cons rfl (Sub.cons rfl (Sub.cons rfl Sub.nil)))))) sub_st ?_
    rintro ⟨i, us⟩ ⟨hi, hul⟩ J2 hJ2
    dsimp only at hi hul ⊢
    rcases Nat.lt_or_ge i N with hil | hil
    · have hneD := hneD (by omega)
      focus (refine S_seq rfl ?_; refine S_region rfl rfl ?_; refine R_take (T_decT rfl (by omega)) ?_ rfl rfl; refine R_nil ?_; refine S_seq rfl ?_; refine S_true rfl rfl ?_; refine S_skip rfl ?_; refine S_seq rfl ?_; refine S_block rfl ?_; refine S_seq rfl ?_; refine S_region rfl rfl ?_; refine R_p rfl ?_ rfl rfl; refine R_p rfl ?_ rfl rfl; refine R_nil ?_; refine S_region rfl rfl ?_; refine R_p rfl ?_ rfl rfl; refine R_take (T_load rfl rfl rfl rfl) ?_ rfl rfl; refine R_p rfl ?_ rfl rfl; refine R_take (T_ixM (sz := 3) (q := j) rfl rfl rfl rfl rfl rfl hne hjl) ?_ rfl rfl; refine R_take (T_fap rfl rfl rfl rfl rfl hne) ?_ rfl rfl; refine R_take (T_ldr rfl rfl rfl (Srd.row (A := A) (n := k) (c := c)) (by omega) hat2) ?_ rfl rfl; refine R_p rfl ?_ rfl rfl; refine R_take (T_ixN rfl rfl rfl rfl rfl rfl hneD hil) ?_ rfl rfl; refine R_take (T_ldr (sz := 1) (v := .int .u8 (us.getD i 0)) rfl rfl rfl (Srd.row (A := D) (n := N) (c := cd)) (by omega) (int_at (by omega))) ?_ rfl rfl; refine R_take (T_arith (op := .xor) rfl rfl rfl) ?_ rfl rfl; refine R_take (T_ixN rfl rfl rfl rfl rfl rfl hneD hil) ?_ rfl rfl; (refine R_eff0 (E_storeR1 (A := D) (m := N) (c := cd) (xs := us.map (Value.int .u8)) rfl rfl rfl rfl rfl (by rw [List.length_map]; omega)) ?_ rfl; rintro _ _ rfl); refine R_nil ?_; refine RS_blk ?_; refine S_region rfl rfl ?_; refine R_take (T_addN rfl rfl (by unfold fits; omega)) ?_ rfl rfl; refine R_p rfl ?_ rfl rfl; refine R_nil ?_)
      rw [← List.map_set]
      exact hJ2 (i + 1, us.set i _) _ _ ⟨by show i + 1 ≤ _; omega, by dsimp only; rw [List.length_set]; exact hul⟩ (Sub.cons rfl (Sub.cons rfl (Sub.cons rfl (Sub.cons rfl (Sub.cons rfl (Sub.cons rfl Sub.nil)))))) (fun _ h => h) (by show N - (i + 1) < _; omega)
    · have hfit : j * 3 + 0 < ys.length := by omega
      focus (refine S_seq rfl ?_; refine S_region rfl rfl ?_; refine R_take (T_decF rfl (by omega)) ?_ rfl rfl; refine R_nil ?_; refine S_seq rfl ?_; refine S_false rfl rfl ?_; refine S_exit rfl rfl ?_; refine S_region rfl rfl ?_; refine R_p rfl ?_ rfl rfl; refine R_take (T_load rfl rfl rfl rfl) ?_ rfl rfl; refine R_p rfl ?_ rfl rfl; refine R_take (T_ixM (sz := 3) (q := j) rfl rfl rfl rfl rfl rfl hne hjl) ?_ rfl rfl; refine R_take (T_fap rfl rfl rfl rfl rfl hne) ?_ rfl rfl; (refine R_eff0 (E_storeRS (A := A) (m := k) (c := c) (xs := ys) rfl rfl rfl rfl rfl hfit) ?_ rfl; rintro _ _ rfl); refine R_nil ?_; refine RS_blk ?_; refine S_region rfl rfl ?_; refine R_take (T_addN rfl rfl (by unfold fits; omega)) ?_ rfl rfl; refine R_p rfl ?_ rfl rfl; refine R_nil ?_)
      refine hJ (j + 1, ys.set (j * 3 + 0) (.int .u64 99)) _ _ ⟨by show j + 1 ≤ _; omega, by dsimp only; rw [List.length_set]; exact hyl, fun i hi => ?_⟩ (Sub.cons rfl (Sub.cons rfl (Sub.cons rfl Sub.nil))) sub_st (by show k - (j + 1) < _; omega)
      dsimp only
      rw [List.getElem?_set_ne (by omega)]
      exact hys i hi
  focus (refine S_seq rfl ?_; refine S_region rfl rfl ?_; refine R_take (T_decF rfl (by omega)) ?_ rfl rfl; refine R_nil ?_; refine S_seq rfl ?_; refine S_false rfl rfl ?_; refine S_exit rfl rfl ?_)
  exact hB _ _ fun w' hS => ⟨(), trivial, hS.sublist (List.nil_sublist _)⟩
set_option maxRecDepth 100000 in
set_option maxHeartbeats 4000000 in
theorem entD_any (w : World) (A : Option Addr) (c k : Nat) (Q : List Em) (l : List En) (hk : Q.length = k) (hl : Q.map emv = l) (h : Rd w All 3 A k (cellsL emc Q)) (hd : RDt w All (Q.map emd)) (hn : k ≤ 1000) (hkk : ∀ m ∈ Q, m.2.2.2.2.length ≤ 100000) :
    Gives Try.prog 48 [.slice A k c] [] w (X := (Option Addr × Nat) × Sh l) (fun x => .slice x.1.1 k x.1.2) (fun x => k ≤ x.1.2) (fun x => [row 44 3 x.1.1 k x.1.2 (cellsL emc x.2.1), dtB 5 (x.2.1.map emd)]) := by
  refine gives_S Try.func48 rfl Try.ntmps48 Try.results48 (by simp) (St.enter w) (fun B hB => ?_)
  have hne : 0 < k → A ≠ none := fun h0 => by obtain ⟨ad, rfl, _⟩ := h.2 (by omega); simp
  focus (refine S_seq rfl ?_; refine S_region rfl rfl ?_; refine R_p rfl ?_ rfl rfl; refine R_nil ?_; refine S_seq rfl ?_; refine S_region rfl rfl ?_; refine R_p rfl ?_ rfl rfl; refine R_nil ?_; refine S_seq rfl ?_; refine S_seq rfl ?_; refine S_region rfl rfl ?_; refine R_p rfl ?_ rfl rfl; refine R_p rfl ?_ rfl rfl; refine R_p rfl ?_ rfl rfl; refine R_nil ?_; refine S_block rfl ?_)
  refine S_loop (X := Nat × (Option Addr × Nat) × List Em) (fun x => [(3, .slice x.2.1.1 x.1 x.2.1.2), (6, .slice A k c), (7, .int .i64 (k : Int)), (8, .int .i64 (x.1 : Int))]) (fun x => [row 44 3 x.2.1.1 x.1 x.2.1.2 (cellsL emc x.2.2), dtB 5 (x.2.2.map emd)]) (fun x => x.1 ≤ k ∧ x.2.2.map emv = (Q.take x.1).map emv) (fun x => k - x.1) rfl (0, (none, 0), []) ⟨Nat.zero_le _, rfl⟩ (Sub.cons rfl (Sub.cons rfl (Sub.cons rfl (Sub.cons rfl Sub.nil)))) (fun w hS => (dtB_nil (e := 5) (hS.sublist (List.nil_sublist _))).nilrow 44 3) ?_
  rintro ⟨j, ⟨A5, c5⟩, P⟩ ⟨hj, hP⟩ J hJ
  dsimp only at hj hP ⊢
  rcases Nat.lt_or_ge j k with hjl | hjl
  · have hne := hne (by omega)
    have hat := cellsL_at (f := emc) emc_len Q default j (by omega)
    obtain ⟨m, hm⟩ : ∃ m, Q.getD j default = m := ⟨_, rfl⟩
    have hmem : m ∈ Q := by rw [← hm]; simp [List.getD, show j < Q.length by omega]
    rw [hm] at hat
    have hnx := emv_take Q j (by omega) hm
    have hkm := hkk m hmem
    have hd1 := hd (emd m) (List.mem_map.2 ⟨m, hmem, rfl⟩)
    obtain ⟨t, kd, D, cd, bs⟩ := m
    obtain ⟨q, hql⟩ : ∃ q, bs.length = q := ⟨_, rfl⟩
    have hkm : bs.length ≤ 100000 := hkm
    have hd1 : Rd w All 1 D bs.length (bs.map bv) := hd1
    have hat : ∀ e v, ([Value.int .u64 (t : Int), .int .i64 kd, .slice D bs.length cd] : List Value)[e]? = some v → (cellsL emc Q)[j * 3 + e]? = some v := hat
    rw [hql] at hkm hd1 hat
    focus (refine S_seq rfl ?_; refine S_region rfl rfl ?_; refine R_take (T_decT rfl (by omega)) ?_ rfl rfl; refine R_nil ?_; refine S_seq rfl ?_; refine S_true rfl rfl ?_; refine S_skip rfl ?_; refine S_seq rfl ?_; refine S_block rfl ?_; refine S_seq rfl ?_; refine S_region rfl rfl ?_; refine R_take (T_ixM (sz := 3) rfl rfl rfl rfl rfl rfl hne hjl) ?_ rfl rfl; refine R_take (T_lda (ds := [.int .u64 (t : Int), .int .i64 kd, .slice D q cd]) rfl rfl rfl (Srd.old h (fun k _ => noOwns k)) rfl (by omega) hat) ?_ rfl rfl; (refine R_eff (E_alloca rfl em_zero) ?_ rfl rfl; rintro _ _ ⟨b7, rfl, rfl⟩); (refine R_eff0 (E_storew (cs := emc (0, 0, none, 0, [])) (ds := [.int .u64 (t : Int), .int .i64 kd, .slice D q cd]) rfl rfl rfl rfl (by simp [Value.oneCell']) rfl) ?_ rfl; rintro _ _ rfl); refine R_nil ?_; refine S_seq rfl ?_; refine S_region rfl rfl ?_; (refine R_eff (E_lit1 (m := 0) (vs := []) rfl rfl rfl rfl rfl rfl rfl (by simp) (by decide)) ?_ rfl rfl; rintro _ _ ⟨bl, rfl, rfl⟩); refine R_p rfl ?_ rfl rfl; refine R_take (T_load rfl rfl rfl rfl) ?_ rfl rfl; (refine R_eff (E_apple (sz := 1) (news := bs.map bv) rfl rfl rfl rfl rfl rfl rfl (by decide) .here (Srd.old hd1 (fun k _ => noOwns k)) (bv_ones _) (by show q * 1 ≤ _; omega) (by unfold maxLen; omega)) ?_ rfl rfl; rintro _ _ ⟨A', c', rfl, rfl⟩); refine R_p rfl ?_ rfl rfl; (refine R_eff0 (E_store1 rfl rfl rfl rfl rfl rfl (by show _ < 3; omega)) ?_ rfl; rintro _ _ rfl); refine R_nil ?_; refine S_region rfl rfl ?_; refine R_p rfl ?_ rfl rfl; refine R_take (T_loads (ds := [.int .u64 (t : Int), .int .i64 kd, .slice A' q c']) rfl rfl rfl rfl rfl) ?_ rfl rfl; (refine R_eff (E_litS (vs := [.agg [.int .u64 (t : Int), .int .i64 kd, .slice A' q c'].toArray]) (size := 3) (ds := [.int .u64 (t : Int), .int .i64 kd, .slice A' q c']) rfl rfl rfl rfl rfl rfl (by simp [vcells]) rfl (by omega)) ?_ rfl rfl; rintro _ _ ⟨vb, rfl, rfl⟩); (refine R_eff (E_appS (sz := 3) (m := j) (c := c5) (A := A5) rfl rfl rfl rfl rfl rfl rfl (by decide) (Srd.pt (n := 1) (g := vb) (ds := [.int .u64 (t : Int), .int .i64 kd, .slice A' q c']) rfl (fun j u hj => by rw [Nat.zero_add]; exact hj)) (by simp [Value.oneCell']) (by show (j + 1) * 40 ≤ _; omega) (by unfold maxLen; omega)) ?_ rfl rfl; rintro _ _ ⟨A7, c7, rfl, rfl⟩); refine R_p rfl ?_ rfl rfl; refine R_nil ?_; refine RS_blk ?_; refine S_region rfl rfl ?_; refine R_take (T_addN rfl rfl (by unfold fits; omega)) ?_ rfl rfl; refine R_p rfl ?_ rfl rfl; refine R_nil ?_)
    refine hJ (j + 1, (A7, c7), P ++ [(t, kd, A', c', bs)]) _ _ ⟨by show j + 1 ≤ _; omega, by dsimp only; rw [hnx, List.map_append, hP]; rfl⟩ (Sub.cons rfl (Sub.cons rfl (Sub.cons rfl (Sub.cons rfl Sub.nil)))) (fun w' hS => ?_) (by show k - (j + 1) < _; omega)
    dsimp only
    have e1 : emc (t, kd, A', c', bs) = [.int .u64 (t : Int), .int .i64 kd, .slice A' q c'] := by
      show [Value.int .u64 (t : Int), .int .i64 kd, .slice A' bs.length c'] = _
      rw [hql]
    have h1 := sub_st (H' := [row 5 1 A' q c' (bs.map bv), dtB 5 (P.map emd), row 44 3 A7 (j + 1) c7 (cellsL emc P ++ [.int .u64 (t : Int), .int .i64 kd, .slice A' q c'])]) w' hS
    have h2 : St w (owns []) [dtA 5 (A', c', bs), dtB 5 (P.map emd), row 44 3 A7 (j + 1) c7 (cellsL emc P ++ [.int .u64 (t : Int), .int .i64 kd, .slice A' q c'])] w' := by
      unfold dtA
      rw [hql]
      exact h1
    have h3 := dtB_put h2
    rw [cellsL_app, cellsL_one, e1, List.map_append]
    exact sub_st (H' := [row 44 3 A7 (j + 1) c7 (cellsL emc P ++ [.int .u64 (t : Int), .int .i64 kd, .slice A' q c']), dtB 5 (P.map emd ++ [(A', c', bs)])]) w' h3
  have hjq : j = k := by omega
  subst hjq
  rw [← hk, List.take_length, hl] at hP
  focus (refine S_seq rfl ?_; refine S_region rfl rfl ?_; refine R_take (T_decF rfl (by omega)) ?_ rfl rfl; refine R_nil ?_; refine S_seq rfl ?_; refine S_false rfl rfl ?_; refine S_exit rfl rfl ?_; refine S_seq rfl ?_; refine S_region rfl rfl ?_; refine R_p rfl ?_ rfl rfl; refine R_p rfl ?_ rfl rfl; refine R_nil ?_)
  refine hB _ _ _ _ _ rfl rfl fun w' hS => ?_
  have hS := sub_st (H' := [row 44 3 A5 j c5 (cellsL emc P), dtB 5 (P.map emd)]) w' hS
  exact ⟨((A5, c5), ⟨P, hP, fun m hm => dtB_caps (e := 5) (D := P.map emd) hS (by simp) (emd m) (List.mem_map.2 ⟨m, hm, rfl⟩)⟩), rfl, (row_facts (hS.at_ (A := row 44 3 A5 j c5 (cellsL emc P)) (by simp))).1, hS⟩
set_option maxRecDepth 100000 in
set_option maxHeartbeats 4000000 in
theorem copyD_any (w : World) (a : At) (A : Option Addr) (c k : Nat) (Q : List Em) (l : List En) (hk : Q.length = k) (hl : Q.map emv = l) (h : Rd w All 3 A k (cellsL emc Q)) (hd : RDt w All (Q.map emd)) (hn : k ≤ 1000) (hkk : ∀ m ∈ Q, m.2.2.2.2.length ≤ 100000) :
    Gives Try.prog 47 [.agg (lgc a A k c).toArray] [] w (X := (Option Addr × Nat) × Sh l) (fun x => .agg (lgc a x.1.1 k x.1.2).toArray) (fun x => k ≤ x.1.2) (fun x => [row 44 3 x.1.1 k x.1.2 (cellsL emc x.2.1), dtB 5 (x.2.1.map emd)]) := by
  refine gives_C Try.func47 rfl Try.ntmps47 Try.results47 (by simp) (St.enter w) (fun B hB => ?_)
  obtain ⟨i, t⟩ := a
  focus (refine S_seq rfl ?_; refine S_region rfl rfl ?_; (refine R_eff (E_boxa (cs := lgc (i, t) A k c) rfl) ?_ rfl rfl; rintro _ _ ⟨b1, rfl, rfl⟩); (refine R_eff (E_alloca rfl lg_zero) ?_ rfl rfl; rintro _ _ ⟨b2, rfl, rfl⟩); refine R_nil ?_; refine S_seq rfl ?_)
  refine S_draw ([pt b1 27 (lgc (i, t) A k c)]) sub_st (by kernel_rfl) rfl (by kernel_rfl) (by kernel_rfl : _ = 7) ?_
  refine D_take 0 rfl (pev_ok rfl) ?_ rfl rfl (by kernel_rfl) (by kernel_rfl)
  refine D_take 1 rfl (T_loads (ds := atc (i, t)) rfl rfl rfl rfl rfl) ?_ rfl rfl (by kernel_rfl) (by kernel_rfl)
  refine D_take 2 rfl (pev_ok rfl) ?_ rfl rfl (by kernel_rfl) (by kernel_rfl)
  refine D_take 3 rfl (T_load rfl rfl rfl rfl) ?_ rfl rfl (by kernel_rfl) (by kernel_rfl)
  refine D_one 4 rfl (E_hvG (f := 48) ⟨_, Try.func48, rfl, by kernel_rfl⟩ (fun w hS => entD_any w A c k Q l hk hl ((Srd.old h (fun k _ => noOwns k)).rd w hS) ((SDt.old hd (fun k _ => noOwns k)).rd w hS) hn hkk) rfl rfl) ?_ rfl rfl (by kernel_rfl)
  rintro _ _ ⟨⟨⟨A5, c5⟩, P5⟩, rfl, hc5, rfl⟩; dsimp only [List.cons_append, List.nil_append]
  refine Nx_same sub_st ?_
  refine D_take 5 rfl (T_build2 rfl rfl (lg_built2 (i, t) _ _ _)) ?_ rfl rfl (by kernel_rfl) (by kernel_rfl)
  refine D_one 6 rfl (E_storew (cs := lgc (0, 0) none 0 0) (ds := lgc (i, t) A5 k c5) rfl rfl rfl rfl (lgc_one _ _ _ _) rfl) ?_ rfl rfl (by kernel_rfl)
  rintro _ _ rfl
  refine Nx_same sub_st ?_
  refine D_done ?_ (by kernel_rfl)
  skip
  skip
  refine hB _ _ _ _ _ rfl (.cell rfl rfl rfl inferInstance rfl .nil) fun w' hS => ⟨((A5, c5), P5), rfl, hc5, sub_st _ hS⟩
/-- the term of an index -/
def fndT (a : At) (l : List En) (idx : Nat) : Nat × Bool := ((findR a l idx).2.2, decide (0 ≤ (findR a l idx).1))
set_option maxRecDepth 100000 in
set_option maxHeartbeats 4000000 in
theorem termD_any (w : World) (a : At) (A : Option Addr) (c k : Nat) (Q : List Em) (l : List En) (hk : Q.length = k) (hl : Q.map emv = l) (h : Rd w All 3 A k (cellsL emc Q)) (hn : k ≤ 1000) (hf : a.1 + k ≤ 18446744073709551615) (idx : Nat) (r : Nat × Bool) (hr : fndT a l idx = r) :
    Gives Try.prog 33 [.agg (lgc a A k c).toArray, .int .u64 (idx : Int)] [] w (X := Unit) (fun _ => .tuple #[.int .u64 (r.1 : Int), .bool r.2]) (fun _ => True) (fun _ => []) := by
  refine gives_S Try.func33 rfl Try.ntmps33 Try.results33 (by simp) (St.enter w) (fun B hB => ?_)
  have hll : l.length = k := by rw [← hl, List.length_map, hk]
  focus (refine S_seq rfl ?_; refine S_region rfl rfl ?_; (refine R_eff (E_boxa (cs := lgc a A k c) rfl) ?_ rfl rfl; rintro _ _ ⟨b1, rfl, rfl⟩); refine R_p rfl ?_ rfl rfl; refine R_p rfl ?_ rfl rfl; refine R_nil ?_; refine S_seq rfl ?_; refine S_seq rfl ?_; refine S_region rfl rfl ?_; refine R_p rfl ?_ rfl rfl; refine R_take (T_load rfl rfl rfl rfl) ?_ rfl rfl; refine R_p rfl ?_ rfl rfl; refine R_take (T_addN rfl rfl (by unfold fits; omega)) ?_ rfl rfl; refine R_p rfl ?_ rfl rfl; refine R_nil ?_; refine S_block rfl ?_)
  refine S_loop (X := Nat) (fun j => [(1, .int .u64 (idx : Int)), (2, .pointer (some ⟨b1, 0, none⟩)), (11, .int .i64 ((k + 1 : Nat) : Int)), (12, .int .i64 (j : Int))]) (fun _ => [pt b1 27 (lgc a A k c)]) (fun j => j ≤ k + 1 ∧ ∀ i, i < j → (placeN a l i).1 ≠ idx) (fun j => k + 1 - j) rfl 0 ⟨Nat.zero_le _, fun i hi => by omega⟩ (Sub.cons rfl (Sub.cons rfl (Sub.cons rfl (Sub.cons rfl Sub.nil)))) sub_st ?_
  rintro j ⟨hj, hno⟩ J hJ
  rcases Nat.lt_or_ge j (k + 1) with hjl | hjl
  · have hpn := placeN_fst a l j
    obtain ⟨⟨p, u⟩, hp⟩ : ∃ p, placeN a l j = p := ⟨_, rfl⟩
    rw [hp] at hpn
    have hpn : p = a.1 + j := hpn
    by_cases hpi : p = idx
    · have e : fndT a l idx = (u, true) := by
        unfold fndT
        rw [findR_hit (j := j) (by omega) (by rw [hp]; exact hpi), hp, decide_eq_true (by show (0 : Int) ≤ (j : Int); omega)]
      rw [← hr, e] at hB
      focus (refine S_seq rfl ?_; refine S_region rfl rfl ?_; refine R_take (T_decT rfl (by omega)) ?_ rfl rfl; refine R_nil ?_; refine S_seq rfl ?_; refine S_true rfl rfl ?_; refine S_skip rfl ?_; refine S_seq rfl ?_; refine S_block rfl ?_; refine S_seq rfl ?_; refine S_region rfl rfl ?_; refine R_p rfl ?_ rfl rfl; refine R_p rfl ?_ rfl rfl; refine R_nil ?_; refine S_seq rfl ?_; refine S_region rfl rfl ?_; refine R_take (T_loads (ds := lgc a A k c) rfl rfl rfl rfl rfl) ?_ rfl rfl; refine R_p rfl ?_ rfl rfl; ((refine R_eff (E_hv0 (f := 46) ⟨_, Try.func46, rfl, by kernel_rfl⟩ (fun w hS => placeD_any w a A c k Q l hk hl ((Srd.old h (fun k _ => noOwns k)).rd w hS) (by omega) hf j (by omega) (p, u) hp) rfl rfl (fun _ => rfl)) ?_ rfl rfl; rintro _ _ ⟨_, rfl, _, rfl⟩)); (refine R_eff (E_alloca rfl at_zero) ?_ rfl rfl; rintro _ _ ⟨b7, rfl, rfl⟩); (refine R_eff0 (E_storew (cs := atc (0, 0)) (ds := atc (p, u)) rfl rfl rfl rfl (atc_one _) rfl) ?_ rfl; rintro _ _ rfl); refine R_nil ?_; refine S_seq rfl ?_; refine S_region rfl rfl ?_; refine R_p rfl ?_ rfl rfl; refine R_take (T_load rfl rfl rfl rfl) ?_ rfl rfl; refine R_p rfl ?_ rfl rfl; refine R_take (T_decT rfl (by omega)) ?_ rfl rfl; refine R_nil ?_; refine S_true rfl rfl ?_; refine S_seq rfl ?_; refine S_region rfl rfl ?_; refine R_p rfl ?_ rfl rfl; refine R_take (T_load rfl rfl rfl rfl) ?_ rfl rfl; refine R_p rfl ?_ rfl rfl; refine R_take (T_decT rfl (by omega)) ?_ rfl rfl; refine R_nil ?_)
      exact hB _ _ _ _ _ rfl rfl fun w' hS => ⟨(), rfl, trivial, hS.sublist (List.nil_sublist _)⟩
    · focus (refine S_seq rfl ?_; refine S_region rfl rfl ?_; refine R_take (T_decT rfl (by omega)) ?_ rfl rfl; refine R_nil ?_; refine S_seq rfl ?_; refine S_true rfl rfl ?_; refine S_skip rfl ?_; refine S_seq rfl ?_; refine S_block rfl ?_; refine S_seq rfl ?_; refine S_region rfl rfl ?_; refine R_p rfl ?_ rfl rfl; refine R_p rfl ?_ rfl rfl; refine R_nil ?_; refine S_seq rfl ?_; refine S_region rfl rfl ?_; refine R_take (T_loads (ds := lgc a A k c) rfl rfl rfl rfl rfl) ?_ rfl rfl; refine R_p rfl ?_ rfl rfl; ((refine R_eff (E_hv0 (f := 46) ⟨_, Try.func46, rfl, by kernel_rfl⟩ (fun w hS => placeD_any w a A c k Q l hk hl ((Srd.old h (fun k _ => noOwns k)).rd w hS) (by omega) hf j (by omega) (p, u) hp) rfl rfl (fun _ => rfl)) ?_ rfl rfl; rintro _ _ ⟨_, rfl, _, rfl⟩)); (refine R_eff (E_alloca rfl at_zero) ?_ rfl rfl; rintro _ _ ⟨b7, rfl, rfl⟩); (refine R_eff0 (E_storew (cs := atc (0, 0)) (ds := atc (p, u)) rfl rfl rfl rfl (atc_one _) rfl) ?_ rfl; rintro _ _ rfl); refine R_nil ?_; refine S_seq rfl ?_; refine S_region rfl rfl ?_; refine R_p rfl ?_ rfl rfl; refine R_take (T_load rfl rfl rfl rfl) ?_ rfl rfl; refine R_p rfl ?_ rfl rfl; refine R_take (T_decF rfl (by omega)) ?_ rfl rfl; refine R_nil ?_; refine S_false rfl rfl ?_; refine S_skip rfl ?_; refine RS_blk ?_; refine S_region rfl rfl ?_; refine R_take (T_addN rfl rfl (by unfold fits; omega)) ?_ rfl rfl; refine R_p rfl ?_ rfl rfl; refine R_nil ?_)
      refine hJ (j + 1) _ _ ⟨by omega, fun i hi => ?_⟩ (Sub.cons rfl (Sub.cons rfl (Sub.cons rfl (Sub.cons rfl Sub.nil)))) sub_st (by omega)
      rcases Nat.lt_or_ge i j with h3 | h3
      · exact hno i h3
      · rw [show i = j by omega, hp]; exact hpi
  · have e : fndT a l idx = (0, false) := by
      unfold fndT
      rw [findR_not (fun i hi => hno i (by omega))]
      rfl
    rw [← hr, e] at hB
    focus (refine S_seq rfl ?_; refine S_region rfl rfl ?_; refine R_take (T_decF rfl (by omega)) ?_ rfl rfl; refine R_nil ?_; refine S_seq rfl ?_; refine S_false rfl rfl ?_; refine S_exit rfl rfl ?_; refine S_seq rfl ?_; refine S_region rfl rfl ?_; refine R_p rfl ?_ rfl rfl; refine R_p rfl ?_ rfl rfl; refine R_nil ?_)
    exact hB _ _ _ _ _ rfl rfl fun w' hS => ⟨(), rfl, trivial, hS.sublist (List.nil_sublist _)⟩
theorem has_fnd (a : At) (l : List En) (p : At) : hasB a l p = ((fndT a l p.1).2 && decide ((fndT a l p.1).1 = p.2)) := by
  unfold hasB fndT
  rcases findR_cases a l p.1 with ⟨n, hf, hn, hi⟩ | ⟨hf, _⟩
  · rw [hf]
    dsimp only
    rw [Bool.eq_iff_iff]
    have h1 := placeN_fst a l n
    simp only [Bool.and_eq_true, decide_eq_true_eq]
    constructor
    · rintro ⟨q1, q2⟩
      exact ⟨q1, by rw [q2]⟩
    · rintro ⟨q1, q2⟩
      exact ⟨q1, Prod.ext (by rw [h1]; exact hi) q2⟩
  · rw [hf]
    rfl
set_option maxRecDepth 100000 in
set_option maxHeartbeats 4000000 in
theorem hasD_any (w : World) (a : At) (A : Option Addr) (c k : Nat) (Q : List Em) (l : List En) (hk : Q.length = k) (hl : Q.map emv = l) (h : Rd w All 3 A k (cellsL emc Q)) (hn : k ≤ 1000) (hf : a.1 + k ≤ 18446744073709551615) (p : At) (r : Bool) (hr : hasB a l p = r) :
    Gives Try.prog 36 [.agg (lgc a A k c).toArray, .agg (atc p).toArray] [] w (X := Unit) (fun _ => .bool r) (fun _ => True) (fun _ => []) := by
  refine gives_S Try.func36 rfl Try.ntmps36 Try.results36 (by simp) (St.enter w) (fun B hB => ?_)
  obtain ⟨pi, pu⟩ := p
  obtain ⟨⟨t, b⟩, ht⟩ : ∃ r, fndT a l pi = r := ⟨_, rfl⟩
  have he := has_fnd a l (pi, pu)
  rw [hr, ht] at he
  have he : r = (b && decide (t = pu)) := he
  rw [he] at hB
  cases b
  · rw [Bool.false_and] at hB
    focus (refine S_seq rfl ?_; refine S_region rfl rfl ?_; (refine R_eff (E_boxa (cs := lgc a A k c) rfl) ?_ rfl rfl; rintro _ _ ⟨b2, rfl, rfl⟩); (refine R_eff (E_boxa (cs := atc (pi, pu)) rfl) ?_ rfl rfl; rintro _ _ ⟨b3, rfl, rfl⟩); refine R_p rfl ?_ rfl rfl; refine R_nil ?_; refine S_seq rfl ?_; refine S_region rfl rfl ?_; refine R_take (T_loads (ds := lgc a A k c) rfl rfl rfl rfl rfl) ?_ rfl rfl; refine R_p rfl ?_ rfl rfl; refine R_take (T_load rfl rfl rfl rfl) ?_ rfl rfl; ((refine R_eff (E_hv0 (f := 33) ⟨_, Try.func33, rfl, by kernel_rfl⟩ (fun w hS => termD_any w a A c k Q l hk hl ((Srd.old h (fun k _ => noOwns k)).rd w hS) hn hf pi _ ht) rfl rfl (fun _ => rfl)) ?_ rfl rfl; rintro _ _ ⟨_, rfl, _, rfl⟩)); refine R_p rfl ?_ rfl rfl; refine R_p rfl ?_ rfl rfl; refine R_p rfl ?_ rfl rfl; refine R_p rfl ?_ rfl rfl; refine R_p rfl ?_ rfl rfl; refine R_nil ?_; refine S_seq rfl ?_; refine S_region rfl rfl ?_; refine R_p rfl ?_ rfl rfl; refine R_p rfl ?_ rfl rfl; refine R_skip ?_ rfl rfl; refine R_skip ?_ rfl rfl; refine R_skip ?_ rfl rfl; refine R_skip ?_ rfl rfl; refine R_p rfl ?_ rfl rfl; refine R_p rfl ?_ rfl rfl; refine R_nil ?_)
    exact hB _ _ _ _ _ rfl rfl fun w' hS => ⟨(), rfl, trivial, hS.sublist (List.nil_sublist _)⟩
  · rw [Bool.true_and] at hB
    by_cases htu : t = pu
    · rw [decide_eq_true htu] at hB
      focus (refine S_seq rfl ?_; refine S_region rfl rfl ?_; (refine R_eff (E_boxa (cs := lgc a A k c) rfl) ?_ rfl rfl; rintro _ _ ⟨b2, rfl, rfl⟩); (refine R_eff (E_boxa (cs := atc (pi, pu)) rfl) ?_ rfl rfl; rintro _ _ ⟨b3, rfl, rfl⟩); refine R_p rfl ?_ rfl rfl; refine R_nil ?_; refine S_seq rfl ?_; refine S_region rfl rfl ?_; refine R_take (T_loads (ds := lgc a A k c) rfl rfl rfl rfl rfl) ?_ rfl rfl; refine R_p rfl ?_ rfl rfl; refine R_take (T_load rfl rfl rfl rfl) ?_ rfl rfl; ((refine R_eff (E_hv0 (f := 33) ⟨_, Try.func33, rfl, by kernel_rfl⟩ (fun w hS => termD_any w a A c k Q l hk hl ((Srd.old h (fun k _ => noOwns k)).rd w hS) hn hf pi _ ht) rfl rfl (fun _ => rfl)) ?_ rfl rfl; rintro _ _ ⟨_, rfl, _, rfl⟩)); refine R_p rfl ?_ rfl rfl; refine R_p rfl ?_ rfl rfl; refine R_take (T_decT rfl (by omega)) ?_ rfl rfl; refine R_p rfl ?_ rfl rfl; refine R_take (T_decT rfl (by omega)) ?_ rfl rfl; refine R_nil ?_; refine S_seq rfl ?_; refine S_region rfl rfl ?_; refine R_take (T_decT rfl (by omega)) ?_ rfl rfl; refine R_take (T_decT rfl (by omega)) ?_ rfl rfl; refine R_p rfl ?_ rfl rfl; refine R_p rfl ?_ rfl rfl; refine R_take (T_load rfl rfl rfl rfl) ?_ rfl rfl; refine R_take (T_decT rfl (by omega)) ?_ rfl rfl; refine R_take (T_decT rfl (by omega)) ?_ rfl rfl; refine R_take (T_decT rfl (by omega)) ?_ rfl rfl; refine R_nil ?_)
      exact hB _ _ _ _ _ rfl rfl fun w' hS => ⟨(), rfl, trivial, hS.sublist (List.nil_sublist _)⟩
    · rw [decide_eq_false htu] at hB
      focus (refine S_seq rfl ?_; refine S_region rfl rfl ?_; (refine R_eff (E_boxa (cs := lgc a A k c) rfl) ?_ rfl rfl; rintro _ _ ⟨b2, rfl, rfl⟩); (refine R_eff (E_boxa (cs := atc (pi, pu)) rfl) ?_ rfl rfl; rintro _ _ ⟨b3, rfl, rfl⟩); refine R_p rfl ?_ rfl rfl; refine R_nil ?_; refine S_seq rfl ?_; refine S_region rfl rfl ?_; refine R_take (T_loads (ds := lgc a A k c) rfl rfl rfl rfl rfl) ?_ rfl rfl; refine R_p rfl ?_ rfl rfl; refine R_take (T_load rfl rfl rfl rfl) ?_ rfl rfl; ((refine R_eff (E_hv0 (f := 33) ⟨_, Try.func33, rfl, by kernel_rfl⟩ (fun w hS => termD_any w a A c k Q l hk hl ((Srd.old h (fun k _ => noOwns k)).rd w hS) hn hf pi _ ht) rfl rfl (fun _ => rfl)) ?_ rfl rfl; rintro _ _ ⟨_, rfl, _, rfl⟩)); refine R_p rfl ?_ rfl rfl; refine R_p rfl ?_ rfl rfl; refine R_take (T_decT rfl (by omega)) ?_ rfl rfl; refine R_p rfl ?_ rfl rfl; refine R_take (T_decT rfl (by omega)) ?_ rfl rfl; refine R_nil ?_; refine S_seq rfl ?_; refine S_region rfl rfl ?_; refine R_take (T_decT rfl (by omega)) ?_ rfl rfl; refine R_take (T_decT rfl (by omega)) ?_ rfl rfl; refine R_p rfl ?_ rfl rfl; refine R_p rfl ?_ rfl rfl; refine R_take (T_load rfl rfl rfl rfl) ?_ rfl rfl; refine R_take (T_decF rfl (by omega)) ?_ rfl rfl; refine R_p rfl ?_ rfl rfl; refine R_p rfl ?_ rfl rfl; refine R_nil ?_)
      exact hB _ _ _ _ _ rfl rfl fun w' hS => ⟨(), rfl, trivial, hS.sublist (List.nil_sublist _)⟩
set_option maxRecDepth 100000 in
set_option maxHeartbeats 4000000 in
theorem newerD_any (w : World) (a b : At) :
    Gives Try.prog 32 [.agg (atc a).toArray, .agg (atc b).toArray] [] w (X := Unit) (fun _ => .bool (newerB a b)) (fun _ => True) (fun _ => []) := by
  refine gives_S Try.func32 rfl Try.ntmps32 Try.results32 (by simp) (St.enter w) (fun B hB => ?_)
  obtain ⟨i, t⟩ := a
  obtain ⟨j, u⟩ := b
  by_cases h1 : t = u
  · rw [show newerB (i, t) (j, u) = decide (j < i) by rw [newerB, if_neg (by simpa using h1)]] at hB
    by_cases h2 : j < i
    · rw [decide_eq_true h2] at hB
      focus (refine S_seq rfl ?_; refine S_region rfl rfl ?_; (refine R_eff (E_boxa (cs := atc (i, t)) rfl) ?_ rfl rfl; rintro _ _ ⟨b2, rfl, rfl⟩); (refine R_eff (E_boxa (cs := atc (j, u)) rfl) ?_ rfl rfl; rintro _ _ ⟨b3, rfl, rfl⟩); refine R_p rfl ?_ rfl rfl; refine R_nil ?_; refine S_seq rfl ?_; refine S_region rfl rfl ?_; refine R_p rfl ?_ rfl rfl; refine R_take (T_load rfl rfl rfl rfl) ?_ rfl rfl; refine R_p rfl ?_ rfl rfl; refine R_take (T_load rfl rfl rfl rfl) ?_ rfl rfl; refine R_take (T_decF rfl (by omega)) ?_ rfl rfl; refine R_p rfl ?_ rfl rfl; refine R_p rfl ?_ rfl rfl; refine R_take (T_load rfl rfl rfl rfl) ?_ rfl rfl; refine R_p rfl ?_ rfl rfl; refine R_take (T_load rfl rfl rfl rfl) ?_ rfl rfl; refine R_take (T_decT rfl (by omega)) ?_ rfl rfl; refine R_p rfl ?_ rfl rfl; refine R_p rfl ?_ rfl rfl; refine R_take (T_load rfl rfl rfl rfl) ?_ rfl rfl; refine R_p rfl ?_ rfl rfl; refine R_take (T_load rfl rfl rfl rfl) ?_ rfl rfl; refine R_take (T_decT rfl (by omega)) ?_ rfl rfl; refine R_p rfl ?_ rfl rfl; refine R_p rfl ?_ rfl rfl; refine R_p rfl ?_ rfl rfl; refine R_nil ?_)
      exact hB _ _ _ _ _ rfl rfl fun w' hS => ⟨(), rfl, trivial, hS.sublist (List.nil_sublist _)⟩
    · rw [decide_eq_false h2] at hB
      focus (refine S_seq rfl ?_; refine S_region rfl rfl ?_; (refine R_eff (E_boxa (cs := atc (i, t)) rfl) ?_ rfl rfl; rintro _ _ ⟨b2, rfl, rfl⟩); (refine R_eff (E_boxa (cs := atc (j, u)) rfl) ?_ rfl rfl; rintro _ _ ⟨b3, rfl, rfl⟩); refine R_p rfl ?_ rfl rfl; refine R_nil ?_; refine S_seq rfl ?_; refine S_region rfl rfl ?_; refine R_p rfl ?_ rfl rfl; refine R_take (T_load rfl rfl rfl rfl) ?_ rfl rfl; refine R_p rfl ?_ rfl rfl; refine R_take (T_load rfl rfl rfl rfl) ?_ rfl rfl; refine R_take (T_decF rfl (by omega)) ?_ rfl rfl; refine R_p rfl ?_ rfl rfl; refine R_p rfl ?_ rfl rfl; refine R_take (T_load rfl rfl rfl rfl) ?_ rfl rfl; refine R_p rfl ?_ rfl rfl; refine R_take (T_load rfl rfl rfl rfl) ?_ rfl rfl; refine R_take (T_decT rfl (by omega)) ?_ rfl rfl; refine R_p rfl ?_ rfl rfl; refine R_p rfl ?_ rfl rfl; refine R_take (T_load rfl rfl rfl rfl) ?_ rfl rfl; refine R_p rfl ?_ rfl rfl; refine R_take (T_load rfl rfl rfl rfl) ?_ rfl rfl; refine R_take (T_decF rfl (by omega)) ?_ rfl rfl; refine R_p rfl ?_ rfl rfl; refine R_p rfl ?_ rfl rfl; refine R_p rfl ?_ rfl rfl; refine R_nil ?_)
      exact hB _ _ _ _ _ rfl rfl fun w' hS => ⟨(), rfl, trivial, hS.sublist (List.nil_sublist _)⟩
  · rw [show newerB (i, t) (j, u) = decide (u < t) by rw [newerB, if_pos (by simpa using h1)]] at hB
    by_cases h2 : u < t
    · rw [decide_eq_true h2] at hB
      focus (refine S_seq rfl ?_; refine S_region rfl rfl ?_; (refine R_eff (E_boxa (cs := atc (i, t)) rfl) ?_ rfl rfl; rintro _ _ ⟨b2, rfl, rfl⟩); (refine R_eff (E_boxa (cs := atc (j, u)) rfl) ?_ rfl rfl; rintro _ _ ⟨b3, rfl, rfl⟩); refine R_p rfl ?_ rfl rfl; refine R_nil ?_; refine S_seq rfl ?_; refine S_region rfl rfl ?_; refine R_p rfl ?_ rfl rfl; refine R_take (T_load rfl rfl rfl rfl) ?_ rfl rfl; refine R_p rfl ?_ rfl rfl; refine R_take (T_load rfl rfl rfl rfl) ?_ rfl rfl; refine R_take (T_decT rfl (by omega)) ?_ rfl rfl; refine R_p rfl ?_ rfl rfl; refine R_skip ?_ rfl rfl; refine R_skip ?_ rfl rfl; refine R_skip ?_ rfl rfl; refine R_skip ?_ rfl rfl; refine R_skip ?_ rfl rfl; refine R_skip ?_ rfl rfl; refine R_skip ?_ rfl rfl; refine R_skip ?_ rfl rfl; refine R_skip ?_ rfl rfl; refine R_skip ?_ rfl rfl; refine R_skip ?_ rfl rfl; refine R_skip ?_ rfl rfl; refine R_p rfl ?_ rfl rfl; refine R_p rfl ?_ rfl rfl; refine R_nil ?_)
      exact hB _ _ _ _ _ rfl rfl fun w' hS => ⟨(), rfl, trivial, hS.sublist (List.nil_sublist _)⟩
    · rw [decide_eq_false h2] at hB
      focus (refine S_seq rfl ?_; refine S_region rfl rfl ?_; (refine R_eff (E_boxa (cs := atc (i, t)) rfl) ?_ rfl rfl; rintro _ _ ⟨b2, rfl, rfl⟩); (refine R_eff (E_boxa (cs := atc (j, u)) rfl) ?_ rfl rfl; rintro _ _ ⟨b3, rfl, rfl⟩); refine R_p rfl ?_ rfl rfl; refine R_nil ?_; refine S_seq rfl ?_; refine S_region rfl rfl ?_; refine R_p rfl ?_ rfl rfl; refine R_take (T_load rfl rfl rfl rfl) ?_ rfl rfl; refine R_p rfl ?_ rfl rfl; refine R_take (T_load rfl rfl rfl rfl) ?_ rfl rfl; refine R_take (T_decF rfl (by omega)) ?_ rfl rfl; refine R_p rfl ?_ rfl rfl; refine R_p rfl ?_ rfl rfl; refine R_take (T_load rfl rfl rfl rfl) ?_ rfl rfl; refine R_p rfl ?_ rfl rfl; refine R_take (T_load rfl rfl rfl rfl) ?_ rfl rfl; refine R_take (T_decF rfl (by omega)) ?_ rfl rfl; refine R_p rfl ?_ rfl rfl; refine R_skip ?_ rfl rfl; refine R_skip ?_ rfl rfl; refine R_skip ?_ rfl rfl; refine R_skip ?_ rfl rfl; refine R_skip ?_ rfl rfl; refine R_p rfl ?_ rfl rfl; refine R_p rfl ?_ rfl rfl; refine R_p rfl ?_ rfl rfl; refine R_nil ?_)
      exact hB _ _ _ _ _ rfl rfl fun w' hS => ⟨(), rfl, trivial, hS.sublist (List.nil_sublist _)⟩
end Go.Proofs.Ytkdpfnaaopimoaa
