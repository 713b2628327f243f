/- Nets: turn, there, Lose. -/
import Derived.Test.YtclmaoagdkhboaaNt6
namespace Go.Proofs.Ytclmaoagdkhboaa
open Go.RowKit
open Asn (pt row rb)
set_option linter.unusedVariables false
set_option linter.unusedSimpArgs false
--@use N

theorem take2 {l : List Value} (h : l.length = 2) : (l.drop 0).take 2 = l := by rw [List.drop_zero, List.take_of_length_le (by omega)]
theorem ogets_app {T : Slots} : ∀ {l1 l2 : List Operand} {v1 v2 : List Value}, ogets T l1 = some v1 → ogets T l2 = some v2 → ogets T (l1 ++ l2) = some (v1 ++ v2)
  | [], l2, v1, v2, h1, h2 => by
    simp [ogets] at h1
    subst h1
    exact h2
  | x :: l1, l2, v1, v2, h1, h2 => by
    simp only [ogets] at h1
    cases hx : oget T x with
    | none => simp [hx] at h1
    | some u =>
      cases hl : ogets T l1 with
      | none => simp [hx, hl] at h1
      | some us =>
        simp [hx, hl] at h1
        subst h1
        have := ogets_app hl h2
        simp [ogets, hx, this]
theorem ogets_consts (T : Slots) : ∀ cap : List Value, ogets T ((cap.map Operand.const).toArray).toList = some cap
  | [] => rfl
  | u :: l => by
    have := ogets_consts T l
    simp at this
    simp [ogets, this, oget]
/-- a closure that takes five parts; what it leaves lies first, the rest behind what it did not take -/
theorem E_cloD {P : Program} {n : Nat} {w0 : World} {M : Nat → Prop} {T : Slots} {H H1 H2 H3 H4 Hr : List Asn} {dd : Option Tmp} {tt : TypeId} {pos : String} {af : Array Edge} {g : Option (Nat × Bool)} {ts : Array TypeId} {x : Operand} {f : FuncId} {cap : List Value} {xs : Array Operand} {vs vs' : List Value} {X : Type} {V : X → Value} {I : X → Prop} {B1 B2 B3 B4 B0 : Asn} {C : X → Asn} {R : X → List Asn} [h1 : RemC H B1 H1] [h2 : RemC H1 B2 H2] [h3 : RemC H2 B3 H3] [h4 : RemC H3 B4 H4] [h5 : RemC H4 B0 Hr] (hf : Fn_ P f) (hx0 : oget T x = some (.func (.func f) #[] cap.toArray)) (hx : ogets T xs.toList = some vs) (hv : vs = vs')
    (hc : ∀ w, St w0 M ([B1, B2, B3, B4, B0] ++ Hr) w → St w (owns [B1, B2, B3, B4, B0]) [B1, B2, B3, B4, B0] w → Gives P f (vs' ++ cap) [B1, B2, B3, B4, B0] w V I (fun y => C y :: R y)) :
    Ef P n w0 M T H ⟨dd, .call ⟨.value x, xs, ts⟩, tt, pos, af, g⟩ (fun u H' => ∃ y, u = V y ∧ I y ∧ H' = C y :: (Hr ++ R y)) := by
  subst hv
  have hp : H.Perm ([B1, B2, B3, B4, B0] ++ Hr) := h1.perm.trans (List.Perm.cons _ (h2.perm.trans (List.Perm.cons _ (h3.perm.trans (List.Perm.cons _ (h4.perm.trans (List.Perm.cons _ h5.perm)))))))
  have hg : ogets T (xs ++ (cap.map Operand.const).toArray).toList = some (vs ++ cap) := by
    rw [Array.toList_append]
    exact ogets_app hx (ogets_consts T cap)
  refine E_cloA hx0 ((E_call [B1, B2, B3, B4, B0] Hr V I (fun y => C y :: R y) hg hf (fun w hS => hS.perm hp) fun w hS => hc w hS (St.again (As := [B1, B2, B3, B4, B0]) hS)).mono ?_)
  rintro v H' ⟨y, hI, rfl, rfl⟩ w hS
  refine ⟨_, _, rfl, ⟨y, rfl, hI, rfl⟩, ?_⟩
  exact hS.perm (List.Perm.cons _ List.perm_append_comm)
theorem rd_in {w w' : World} {M F : Nat → Prop} {H : List Asn} {sz n : Nat} {A : Option Addr} {xs : List Value} (h : Rd w F sz A n xs) (hz : 0 < sz) (hS : St w M H w') (hF : ∀ k, F k → ¬ M k) : Rd w' (fun k => ¬ owns H k) sz A n xs :=
  ⟨h.1, fun hn => by
    obtain ⟨ad, e, hb, hc⟩ := h.2 hn
    have hl : 0 < xs.length := by rw [h.1]; exact Nat.mul_pos hn hz
    have hlt := World.block_lt_of_cell? w _ (hc 0 xs[0] (List.getElem?_eq_getElem hl))
    rw [block_of_add] at hlt
    refine ⟨ad, e, fun ⟨B, hB, ho⟩ => ?_, fun j u hu => hS.kp.cell (by rw [block_of_add]; exact hF _ hb) (hc j u hu)⟩
    rcases ((hS.all B hB).2 _ ho).1 with h1 | h1
    · exact hF _ hb h1
    · omega⟩
theorem rd_keep {w w' : World} {M F : Nat → Prop} {H : List Asn} {sz n : Nat} {A : Option Addr} {xs : List Value} (h : Rd w F sz A n xs) (hS : St w M H w') (hF : ∀ k, F k → ¬ M k) : Rd w' All sz A n xs :=
  ((h.more hF).keep hS.kp).more fun _ _ => trivial
theorem pt_apart {w0 w : World} {M : Nat → Prop} {B0 : Asn} {Hr : List Asn} {b t m : Nat} {cs : List Value} [hm : Hat Hr b t cs] (hS : St w0 M (B0 :: Hr) w) (hl : cs.length = m) : Rd w (fun k => ¬ owns [B0] k) 1 (some ⟨b, 0, none⟩) m cs :=
  ⟨by omega, fun _ => ⟨_, rfl, fun ⟨B, hB, ho⟩ => by
    rw [List.mem_singleton.1 hB] at ho
    exact (List.pairwise_cons.1 hS.apart).1 _ hm.mem _ ho rfl, fun j v hj => by rw [add_plain]; exact hS.cell (List.mem_cons_of_mem _ hm.mem) (by simpa using hj)⟩⟩
set_option maxRecDepth 100000 in
set_option maxHeartbeats 4000000 in
theorem turn_bad (w : World) (A : Option Addr) (c n : Nat) (P : List Pk) (W : List Pn) (hk : P.length = n) (hW : P.map pkv = W) (h : Rd w All 3 A n (cellsL pkc P)) (A2 : Option Addr) (c2' n2 : Nat) (C : List Ct) (hk2 : C.length = n2) (h2 : Rd w All 2 A2 n2 (cellsL ctc C)) (hn : n ≤ 1000) (hn2 : n2 ≤ 1000) (mf : FuncId) (dv : Value) (mcap : List Value) (hmf : Fn_ Try.prog mf) (e : Int) (he : (chkB W C = false ∧ e = 330) ∨ (chkB W C = true ∧ e ≠ 0)) (hmay : chkB W C = true → ∀ w', St w (owns []) [] w' → Gives Try.prog mf mcap [] w' (X := Unit) (fun _ => .int .i64 e) (fun _ => True) (fun _ => [])) :
    Gives Try.prog 28 [.agg (ntc A n c A2 n2 c2').toArray, .func (.func mf) #[] mcap.toArray, dv] [] w (X := Unit) (fun _ => .tuple #[.agg (ntc none 0 0 none 0 0).toArray, .int .i64 e]) (fun _ => True) (fun _ => []) := by
  refine gives_C Try.func28 rfl Try.ntmps28 Try.results28 (by simp) (St.enter w) (fun B hB => ?_)
  obtain ⟨q, hq⟩ : ∃ q, chkB W C = q := ⟨_, rfl⟩
  rw [hq] at he hmay
  cases q
  · obtain rfl : e = 330 := by rcases he with ⟨_, h⟩ | ⟨h, _⟩; exact h; cases h
    have hch : (if chkB W C = true then (0 : Int) else 330) = 330 := by rw [hq]; rfl
    focus (refine S_seq rfl ?_; refine S_region rfl rfl ?_; (refine R_eff (E_boxa (cs := ntc A n c A2 n2 c2') rfl) ?_ rfl rfl; rintro _ _ ⟨b3, rfl, rfl⟩); (refine R_eff (E_alloca rfl nt_zero) ?_ rfl rfl; rintro _ _ ⟨b6, rfl, rfl⟩); refine R_p rfl ?_ rfl rfl; refine R_nil ?_; refine S_seq rfl ?_; refine S_seq rfl ?_; refine S_region rfl rfl ?_; refine R_take (T_loads (ds := ntc A n c A2 n2 c2') rfl rfl rfl rfl rfl) ?_ rfl rfl; (refine R_eff (E_hv0 (f := 22) ⟨_, Try.func22, rfl, by kernel_rfl⟩ (fun w hS => check_k w A c n P W hk hW ((Srd.old h (fun k _ => noOwns k)).rd w hS) A2 c2' n2 C hk2 ((Srd.old h2 (fun k _ => noOwns k)).rd w hS) hn hn2 _ hch) rfl rfl (fun _ => rfl)) ?_ rfl rfl; rintro _ _ ⟨_, rfl, _, rfl⟩); refine R_take (T_decT rfl (by omega)) ?_ rfl rfl; refine R_nil ?_; refine S_true rfl rfl ?_; refine S_seq rfl ?_; refine S_region rfl rfl ?_; refine R_take (T_build0 nt_built0) ?_ rfl rfl; (refine R_eff0 (E_storew (cs := ntc none 0 0 none 0 0) (ds := ntc none 0 0 none 0 0) rfl rfl rfl rfl (ntc_one _ _ _ _ _ _) rfl) ?_ rfl; rintro _ _ rfl); refine R_p rfl ?_ rfl rfl; refine R_nil ?_)
    refine hB _ _ _ _ _ rfl (.cell rfl rfl rfl inferInstance rfl (.tmp rfl .nil)) fun w' hS => ⟨(), rfl, trivial, hS.sublist (List.nil_sublist _)⟩
  · have he : e ≠ 0 := by rcases he with ⟨h, _⟩ | ⟨_, h⟩; cases h; exact h
    have hmay := hmay rfl
    have hch : (if chkB W C = true then (0 : Int) else 330) = 0 := by rw [hq]; rfl
    focus (refine S_seq rfl ?_; refine S_region rfl rfl ?_; (refine R_eff (E_boxa (cs := ntc A n c A2 n2 c2') rfl) ?_ rfl rfl; rintro _ _ ⟨b3, rfl, rfl⟩); (refine R_eff (E_alloca rfl nt_zero) ?_ rfl rfl; rintro _ _ ⟨b6, rfl, rfl⟩); refine R_p rfl ?_ rfl rfl; refine R_nil ?_; refine S_seq rfl ?_; refine S_seq rfl ?_; refine S_region rfl rfl ?_; refine R_take (T_loads (ds := ntc A n c A2 n2 c2') rfl rfl rfl rfl rfl) ?_ rfl rfl; (refine R_eff (E_hv0 (f := 22) ⟨_, Try.func22, rfl, by kernel_rfl⟩ (fun w hS => check_k w A c n P W hk hW ((Srd.old h (fun k _ => noOwns k)).rd w hS) A2 c2' n2 C hk2 ((Srd.old h2 (fun k _ => noOwns k)).rd w hS) hn hn2 _ hch) rfl rfl (fun _ => rfl)) ?_ rfl rfl; rintro _ _ ⟨_, rfl, _, rfl⟩); refine R_take (T_decF rfl (by omega)) ?_ rfl rfl; refine R_nil ?_; refine S_false rfl rfl ?_; refine S_skip rfl ?_; refine S_seq rfl ?_; refine S_seq rfl ?_; refine S_region rfl rfl ?_; refine R_p rfl ?_ rfl rfl; (refine R_eff (E_clo hmf rfl (E_gv0 hmf (ogets_consts _ mcap) (fun w' hS => hmay w' (hS.sublist (List.nil_sublist _))) (fun _ => rfl))) ?_ rfl rfl; rintro _ _ ⟨_, rfl, _, rfl⟩); refine R_p rfl ?_ rfl rfl; refine R_nil ?_; refine S_seq rfl ?_; refine S_region rfl rfl ?_; refine R_p rfl ?_ rfl rfl; refine R_take (T_decT rfl (by omega)) ?_ rfl rfl; refine R_nil ?_; refine S_true rfl rfl ?_; refine S_seq rfl ?_; refine S_region rfl rfl ?_; refine R_take (T_build0 nt_built0) ?_ rfl rfl; refine R_p rfl ?_ rfl rfl; (refine R_eff0 (E_storew (cs := ntc none 0 0 none 0 0) (ds := ntc none 0 0 none 0 0) rfl rfl rfl rfl (ntc_one _ _ _ _ _ _) rfl) ?_ rfl; rintro _ _ rfl); refine R_p rfl ?_ rfl rfl; refine R_nil ?_)
    all_goals (try (exfalso; omega))
    refine hB _ _ _ _ _ rfl (.cell rfl rfl rfl inferInstance rfl (.tmp rfl .nil)) fun w' hS => ⟨(), rfl, trivial, hS.sublist (List.nil_sublist _)⟩
set_option maxRecDepth 100000 in
set_option maxHeartbeats 4000000 in
theorem turn_ok (w : World) (A : Option Addr) (c n : Nat) (P : List Pk) (W : List Pn) (hk : P.length = n) (hW : P.map pkv = W) (h : Rd w All 3 A n (cellsL pkc P)) (A2 : Option Addr) (c2' n2 : Nat) (C : List Ct) (hk2 : C.length = n2) (h2 : Rd w All 2 A2 n2 (cellsL ctc C)) (hn : n ≤ 1000) (hn2 : n2 ≤ 1000) (hd : RDt w All (P.map pkd)) (hkk : ∀ m ∈ P, m.2.2.2.2.length ≤ 100000) (hch0 : chkB W C = true) (mf df : FuncId) (mcap dcap : List Value) (hmf : Fn_ Try.prog mf) (hdf : Fn_ Try.prog df) (B0 : Asn) (hS0 : St w (owns [B0]) [B0] w) {Y : Type} (I : Y → Prop) (N : Y → List Value) (R : Y → List Asn) (hN : ∀ y, (N y).length = 2) (hN1 : ∀ y, ∀ u ∈ N y, u.oneCell' = true)
    (hr1 : Rd w (fun k => ¬ owns [B0] k) 3 A n (cellsL pkc P)) (hr2 : Rd w (fun k => ¬ owns [B0] k) 2 A2 n2 (cellsL ctc C)) (hr3 : RDt w (fun k => ¬ owns [B0] k) (P.map pkd))
    (hmay : ∀ w', St w (owns [B0]) [B0] w' → Gives Try.prog mf mcap [] w' (X := Unit) (fun _ => .int .i64 0) (fun _ => True) (fun _ => []))
    (hdoes : ∀ (w' : World) (b : Nat) (A5 : Option Addr) (c5 : Nat) (P5 : ShP W) (A6 : Option Addr) (c6 : Nat), St w (owns [B0]) [pt b 25 (ntc A5 n c5 A6 n2 c6), row 30 3 A5 n c5 (cellsL pkc P5.1), dtB 5 (P5.1.map pkd), row 73 2 A6 n2 c6 (cellsL ctc C), B0] w' → St w' (owns [pt b 25 (ntc A5 n c5 A6 n2 c6), row 30 3 A5 n c5 (cellsL pkc P5.1), dtB 5 (P5.1.map pkd), row 73 2 A6 n2 c6 (cellsL ctc C), B0]) [pt b 25 (ntc A5 n c5 A6 n2 c6), row 30 3 A5 n c5 (cellsL pkc P5.1), dtB 5 (P5.1.map pkd), row 73 2 A6 n2 c6 (cellsL ctc C), B0] w' → Gives Try.prog df (.pointer (some ⟨b, 0, none⟩) :: dcap) [pt b 25 (ntc A5 n c5 A6 n2 c6), row 30 3 A5 n c5 (cellsL pkc P5.1), dtB 5 (P5.1.map pkd), row 73 2 A6 n2 c6 (cellsL ctc C), B0] w' (X := Y) (fun _ => .tuple #[]) I (fun y => pt b 25 (N y) :: R y)) :
    Gives Try.prog 28 [.agg (ntc A n c A2 n2 c2').toArray, .func (.func mf) #[] mcap.toArray, .func (.func df) #[] dcap.toArray] [B0] w (X := Y) (fun y => .tuple #[.agg (N y).toArray, .int .i64 0]) I R := by
  refine gives_C Try.func28 rfl Try.ntmps28 Try.results28 (by simp) hS0 (fun B hB => ?_)
  have hch : (if chkB W C = true then (0 : Int) else 330) = 0 := by rw [hch0]; rfl
  focus (refine S_seq rfl ?_; refine S_region rfl rfl ?_; (refine R_eff (E_boxa (cs := ntc A n c A2 n2 c2') rfl) ?_ rfl rfl; rintro _ _ ⟨b3, rfl, rfl⟩); (refine R_eff (E_alloca rfl nt_zero) ?_ rfl rfl; rintro _ _ ⟨b6, rfl, rfl⟩); refine R_p rfl ?_ rfl rfl; refine R_nil ?_; refine S_seq rfl ?_; refine S_seq rfl ?_; refine S_region rfl rfl ?_; refine R_take (T_loads (ds := ntc A n c A2 n2 c2') rfl rfl rfl rfl rfl) ?_ rfl rfl; (refine R_eff (E_hv0 (f := 22) ⟨_, Try.func22, rfl, by kernel_rfl⟩ (fun w hS => check_k w A c n P W hk hW ((Srd.old hr1 (fun k hk => hk)).rd w hS) A2 c2' n2 C hk2 ((Srd.old hr2 (fun k hk => hk)).rd w hS) hn hn2 _ hch) rfl rfl (fun _ => rfl)) ?_ rfl rfl; rintro _ _ ⟨_, rfl, _, rfl⟩); refine R_take (T_decF rfl (by omega)) ?_ rfl rfl; refine R_nil ?_; refine S_false rfl rfl ?_; refine S_skip rfl ?_; refine S_seq rfl ?_; refine S_seq rfl ?_; refine S_region rfl rfl ?_; refine R_p rfl ?_ rfl rfl; (refine R_eff (E_clo hmf rfl (E_gv0 hmf (ogets_consts _ mcap) (fun w' hS => hmay w' (sub_st (H' := [B0]) w' hS)) (fun _ => rfl))) ?_ rfl rfl; rintro _ _ ⟨_, rfl, _, rfl⟩); refine R_p rfl ?_ rfl rfl; refine R_nil ?_; refine S_seq rfl ?_; refine S_region rfl rfl ?_; refine R_p rfl ?_ rfl rfl; refine R_take (T_decF rfl (by omega)) ?_ rfl rfl; refine R_nil ?_; refine S_false rfl rfl ?_; refine S_skip rfl ?_; refine S_seq rfl ?_; refine S_region rfl rfl ?_; refine R_take (T_loads (ds := ntc A n c A2 n2 c2') rfl rfl rfl rfl rfl) ?_ rfl rfl)
  focus ((refine R_eff (E_hvG (f := 55) ⟨_, Try.func55, rfl, by kernel_rfl⟩ (fun w hS => copyN_any w A c n P W hk hW ((Srd.old hr1 (fun k hk => hk)).rd w hS) A2 c2' n2 C hk2 ((Srd.old hr2 (fun k hk => hk)).rd w hS) hn hn2 ((SDt.old hr3 (fun k hk => hk)).rd w hS) hkk) rfl rfl) ?_ rfl rfl; rintro _ _ ⟨⟨⟨⟨A5, c5⟩, P5⟩, ⟨A6, c6⟩⟩, rfl, _, rfl⟩; dsimp only [List.cons_append, List.nil_append]); (refine R_eff0 (E_storew (cs := ntc A n c A2 n2 c2') (ds := ntc A5 n c5 A6 n2 c6) rfl rfl rfl rfl (ntc_one _ _ _ _ _ _) rfl) ?_ rfl; rintro _ _ rfl); refine R_nil ?_; refine S_seq rfl ?_; refine S_region rfl rfl ?_; refine R_p rfl ?_ rfl rfl; (refine R_eff (E_cloD (cap := dcap) hdf rfl rfl rfl (fun w' hS hS2 => hdoes w' b3 A5 c5 P5 A6 c6 (hS.sublist (by simp)) hS2)) ?_ rfl rfl; rintro _ _ ⟨y, rfl, hI, rfl⟩; dsimp only [List.cons_append, List.nil_append]); refine R_nil ?_; refine S_seq rfl ?_; refine S_region rfl rfl ?_)
  focus (refine R_take (T_loads (ds := N y) rfl rfl rfl (hN y) (take2 (hN y))) ?_ rfl rfl; (refine R_eff0 (E_storew (cs := ntc none 0 0 none 0 0) (ds := N y) rfl rfl rfl (hN y) (hN1 y) (hN y).symm) ?_ rfl; rintro _ _ rfl); refine R_p rfl ?_ rfl rfl; refine R_nil ?_)
  refine hB _ _ _ _ _ rfl (.cell rfl rfl rfl inferInstance (hN y) (.tmp rfl .nil)) fun w' hS => ⟨y, rfl, hI, hS.sublist ?_⟩
  exact List.Sublist.cons _ (List.Sublist.cons _ (List.Sublist.refl _))
set_option maxRecDepth 100000 in
set_option maxHeartbeats 4000000 in
theorem there_any (w : World) (V : List Value) (hV : V.length = 2) (hV1 : ∀ u ∈ V, u.oneCell' = true) (at_ : Int) (g : FuncId) (gcap : List Value) :
    Gives Try.prog 29 [.agg V.toArray, .int .i64 at_, .func (.func g) #[] gcap.toArray] [] w (X := Nat × Nat × Nat) (fun x => .func (.func 56) #[] [Value.pointer (some ⟨x.1, 0, none⟩), .pointer (some ⟨x.2.1, 0, none⟩), .pointer (some ⟨x.2.2, 0, none⟩)].toArray) (fun _ => True) (fun x => [pt x.1 3 [.int .i64 at_], pt x.2.1 25 V, pt x.2.2 65 [.func (.func g) #[] gcap.toArray]]) := by
  refine gives_S Try.func29 rfl Try.ntmps29 Try.results29 (by simp) (St.enter w) (fun B hB => ?_)
  focus (refine S_seq rfl ?_; refine S_region rfl rfl ?_; (refine R_eff (E_boxa (cs := V) rfl) ?_ rfl rfl; rintro _ _ ⟨b3, rfl, rfl⟩); (refine R_eff (E_box1 (v := .int .i64 at_) rfl rfl) ?_ rfl rfl; rintro _ _ ⟨b4, rfl, rfl⟩); (refine R_eff (E_box1 (v := .func (.func g) #[] gcap.toArray) rfl rfl) ?_ rfl rfl; rintro _ _ ⟨b5, rfl, rfl⟩); refine R_p rfl ?_ rfl rfl; refine R_nil ?_; refine S_seq rfl ?_; refine S_region rfl rfl ?_; refine R_take (T_func rfl rfl) ?_ rfl rfl; refine R_p rfl ?_ rfl rfl; refine R_nil ?_)
  exact hB _ _ _ _ _ rfl rfl fun w' hS => ⟨(b4, b3, b5), rfl, trivial, sub_st (H' := [pt b4 3 [.int .i64 at_], pt b3 25 V, pt b5 65 [.func (.func g) #[] gcap.toArray]]) w' hS⟩
set_option maxRecDepth 100000 in
set_option maxHeartbeats 4000000 in
theorem there1_any (w : World) (bt bn bg : Nat) (at_ : Int) (A : Option Addr) (c n : Nat) (P : List Pk) (hk : P.length = n) (h : Rd w All 3 A n (cellsL pkc P)) (A2 : Option Addr) (c2' n2 : Nat) (g : FuncId) (gcap : List Value) (hgf : Fn_ Try.prog g) (h1 : Rd w All 1 (some ⟨bt, 0, none⟩) 1 [.int .i64 at_]) (h2 : Rd w All 1 (some ⟨bn, 0, none⟩) 2 (ntc A n c A2 n2 c2')) (h3 : Rd w All 1 (some ⟨bg, 0, none⟩) 1 [.func (.func g) #[] gcap.toArray]) (hn : n ≤ 1000) (e : Int)
    (he : (at_ < 0 ∨ (n : Int) ≤ at_) ∧ e = 2 ∨ ∃ q : Nat, at_ = (q : Int) ∧ q < n ∧ ∀ w', Kp All w w' → Gives Try.prog g (.agg (pkc (P.getD q default)).toArray :: gcap) [] w' (X := Unit) (fun _ => .int .i64 e) (fun _ => True) (fun _ => [])) :
    Gives Try.prog 56 [.pointer (some ⟨bt, 0, none⟩), .pointer (some ⟨bn, 0, none⟩), .pointer (some ⟨bg, 0, none⟩)] [] w (X := Unit) (fun _ => .int .i64 e) (fun _ => True) (fun _ => []) := by
  refine gives_S Try.func56 rfl Try.ntmps56 Try.results56 (by simp) (St.enter w) (fun B hB => ?_)
  have hne : 0 < n → A ≠ none := fun h0 => by obtain ⟨ad, rfl, _⟩ := h.2 (by omega); simp
  rcases he with ⟨he, rfl⟩ | ⟨q, rfl, hq, hg⟩
  · by_cases h0 : at_ < 0
    · focus (refine S_seq rfl ?_; refine S_region rfl rfl ?_; refine R_p rfl ?_ rfl rfl; refine R_nil ?_; refine S_seq rfl ?_; refine S_seq rfl ?_; refine S_region rfl rfl ?_; refine R_take (T_loadg (v := .int .i64 at_) rfl rfl rfl h1 (fun k _ => noOwns k) rfl) ?_ rfl rfl; refine R_take (T_decT rfl (by omega)) ?_ rfl rfl; refine R_p rfl ?_ rfl rfl; refine R_skip ?_ rfl rfl; refine R_skip ?_ rfl rfl; refine R_skip ?_ rfl rfl; refine R_skip ?_ rfl rfl; refine R_skip ?_ rfl rfl; refine R_p rfl ?_ rfl rfl; refine R_nil ?_; refine S_true rfl rfl ?_; refine S_seq rfl ?_; refine S_region rfl rfl ?_; refine R_p rfl ?_ rfl rfl; refine R_nil ?_)
      exact hB _ _ _ _ _ rfl rfl fun w' hS => ⟨(), rfl, trivial, hS.sublist (List.nil_sublist _)⟩
    · focus (refine S_seq rfl ?_; refine S_region rfl rfl ?_; refine R_p rfl ?_ rfl rfl; refine R_nil ?_; refine S_seq rfl ?_; refine S_seq rfl ?_; refine S_region rfl rfl ?_; refine R_take (T_loadg (v := .int .i64 at_) rfl rfl rfl h1 (fun k _ => noOwns k) rfl) ?_ rfl rfl; refine R_take (T_decF rfl (by omega)) ?_ rfl rfl; refine R_p rfl ?_ rfl rfl; refine R_take (T_loadg (v := .int .i64 at_) rfl rfl rfl h1 (fun k _ => noOwns k) rfl) ?_ rfl rfl; refine R_p rfl ?_ rfl rfl; refine R_take (T_loadg (v := .slice A n c) rfl rfl rfl h2 (fun k _ => noOwns k) rfl) ?_ rfl rfl; refine R_p rfl ?_ rfl rfl; refine R_take (T_decT rfl (by omega)) ?_ rfl rfl; refine R_p rfl ?_ rfl rfl; refine R_nil ?_; refine S_true rfl rfl ?_; refine S_seq rfl ?_; refine S_region rfl rfl ?_; refine R_p rfl ?_ rfl rfl; refine R_nil ?_)
      exact hB _ _ _ _ _ rfl rfl fun w' hS => ⟨(), rfl, trivial, hS.sublist (List.nil_sublist _)⟩
  · have hne := hne (by omega)
    have hat := cellsL_at (f := pkc) pkc_len P default q (by omega)
    obtain ⟨m, hm⟩ : ∃ m, P.getD q default = m := ⟨_, rfl⟩
    rw [hm] at hat hg
    focus (refine S_seq rfl ?_; refine S_region rfl rfl ?_; refine R_p rfl ?_ rfl rfl; refine R_nil ?_; refine S_seq rfl ?_; refine S_seq rfl ?_; refine S_region rfl rfl ?_; refine R_take (T_loadg (v := .int .i64 (q : Int)) rfl rfl rfl h1 (fun k _ => noOwns k) rfl) ?_ rfl rfl; refine R_take (T_decF rfl (by omega)) ?_ rfl rfl; refine R_p rfl ?_ rfl rfl; refine R_take (T_loadg (v := .int .i64 (q : Int)) rfl rfl rfl h1 (fun k _ => noOwns k) rfl) ?_ rfl rfl; refine R_p rfl ?_ rfl rfl; refine R_take (T_loadg (v := .slice A n c) rfl rfl rfl h2 (fun k _ => noOwns k) rfl) ?_ rfl rfl; refine R_p rfl ?_ rfl rfl; refine R_take (T_decF rfl (by omega)) ?_ rfl rfl; refine R_p rfl ?_ rfl rfl; refine R_nil ?_; refine S_false rfl rfl ?_; refine S_skip rfl ?_; refine S_seq rfl ?_)
    refine S_draw ([]) sub_st (by kernel_rfl) rfl (by kernel_rfl) (by kernel_rfl : _ = 8) ?_
    refine D_take 0 rfl (T_loadg (v := .func (.func g) #[] gcap.toArray) rfl rfl rfl h3 (fun k _ => noOwns k) rfl) ?_ rfl rfl (by kernel_rfl) (by kernel_rfl)
    refine D_take 1 rfl (pev_ok rfl) ?_ rfl rfl (by kernel_rfl) (by kernel_rfl)
    refine D_take 2 rfl (T_loadg (v := .slice A n c) rfl rfl rfl h2 (fun k _ => noOwns k) rfl) ?_ rfl rfl (by kernel_rfl) (by kernel_rfl)
    refine D_take 3 rfl (T_loadg (v := .int .i64 (q : Int)) rfl rfl rfl h1 (fun k _ => noOwns k) rfl) ?_ rfl rfl (by kernel_rfl) (by kernel_rfl)
    refine D_take 4 rfl (T_ixM (sz := 3) (q := q) rfl rfl rfl rfl rfl rfl hne hq) ?_ rfl rfl (by kernel_rfl) (by kernel_rfl)
    refine D_take 5 rfl (T_lda (ds := pkc m) rfl rfl rfl (Srd.old h (fun k _ => noOwns k)) rfl (by omega) hat) ?_ rfl rfl (by kernel_rfl) (by kernel_rfl)
    refine D_one 6 rfl (E_cloA (cap := gcap) rfl (E_gv0 hgf (ogets_cap _ _ (.agg (pkc m).toArray) rfl gcap) (fun w' hS => hg w' hS.kpO) (fun _ => rfl))) ?_ rfl rfl (by kernel_rfl)
    rintro _ _ ⟨_, rfl, _, rfl⟩
    refine Nx_same sub_st ?_
    refine D_take 7 rfl (pev_ok rfl) ?_ rfl rfl (by kernel_rfl) (by kernel_rfl)
    refine D_done ?_ (by kernel_rfl)
    skip
    skip
    exact hB _ _ _ _ _ rfl rfl fun w' hS => ⟨(), rfl, trivial, hS.sublist (List.nil_sublist _)⟩
set_option maxRecDepth 100000 in
set_option maxHeartbeats 4000000 in
theorem fine_any (w : World) (m : Pk) : Gives Try.prog 34 [.agg (pkc m).toArray] [] w (X := Unit) (fun _ => .int .i64 0) (fun _ => True) (fun _ => []) := by
  refine gives_S Try.func34 rfl Try.ntmps34 Try.results34 (by simp) (St.enter w) (fun B hB => ?_)
  focus (refine S_seq rfl ?_; refine S_region rfl rfl ?_; (refine R_eff (E_boxa (cs := pkc m) rfl) ?_ rfl rfl; rintro _ _ ⟨b1, rfl, rfl⟩); refine R_p rfl ?_ rfl rfl; refine R_nil ?_; refine S_seq rfl ?_; refine S_region rfl rfl ?_; refine R_p rfl ?_ rfl rfl; refine R_nil ?_)
  exact hB _ _ _ _ _ rfl rfl fun w' hS => ⟨(), rfl, trivial, hS.sublist (List.nil_sublist _)⟩
def del {α : Type} (l : List α) (i : Nat) : List α := l.take i ++ l.drop (i + 1)
theorem del_len {α : Type} {l : List α} {i : Nat} (hi : i < l.length) : (del l i).length = i + (l.length - (i + 1)) := by
  unfold del
  rw [List.length_append, List.length_take, List.length_drop]
  omega
theorem del_sub {α : Type} (l : List α) (i : Nat) : (del l i).Sublist l := by
  have h : (l.take i ++ l.drop (i + 1)).Sublist (l.take i ++ l.drop i) := List.Sublist.append_left (by
    rw [← List.drop_drop]
    exact List.drop_sublist _ _) _
  rwa [List.take_append_drop] at h
theorem del_map {α β : Type} (f : α → β) (l : List α) (i : Nat) : (del l i).map f = del (l.map f) i := by
  unfold del
  rw [List.map_append, List.map_take, List.map_drop]
theorem del_cells (P : List Pk) (i : Nat) : (cellsL pkc P).take (i * 3) ++ (cellsL pkc P).drop ((i + 1) * 3) = cellsL pkc (del P i) := by
  unfold del
  rw [cellsL_app, cellsL_take pkc_len, cellsL_drop pkc_len]
set_option maxRecDepth 100000 in
set_option maxHeartbeats 4000000 in
theorem lose1_any (w : World) (b ba : Nat) (A5 : Option Addr) (c5 n : Nat) (P5 : List Pk) (A6 : Option Addr) (c6 n2 : Nat) (C : List Ct) (B0 : Asn) (hl : P5.length = n) (hn : n ≤ 500) (q : Nat) (hq : q < n) (hR : Rd w (fun k => ¬ owns [pt b 25 (ntc A5 n c5 A6 n2 c6), row 30 3 A5 n c5 (cellsL pkc P5), dtB 5 (P5.map pkd), row 73 2 A6 n2 c6 (cellsL ctc C), B0] k) 1 (some ⟨ba, 0, none⟩) 1 [.int .i64 (q : Int)]) (hS0 : St w (owns [pt b 25 (ntc A5 n c5 A6 n2 c6), row 30 3 A5 n c5 (cellsL pkc P5), dtB 5 (P5.map pkd), row 73 2 A6 n2 c6 (cellsL ctc C), B0]) [pt b 25 (ntc A5 n c5 A6 n2 c6), row 30 3 A5 n c5 (cellsL pkc P5), dtB 5 (P5.map pkd), row 73 2 A6 n2 c6 (cellsL ctc C), B0] w) :
    Gives Try.prog 35 [.pointer (some ⟨b, 0, none⟩), .pointer (some ⟨ba, 0, none⟩)] [pt b 25 (ntc A5 n c5 A6 n2 c6), row 30 3 A5 n c5 (cellsL pkc P5), dtB 5 (P5.map pkd), row 73 2 A6 n2 c6 (cellsL ctc C), B0] w (X := Option Addr × Nat) (fun _ => .tuple #[]) (fun _ => True) (fun y => pt b 25 (ntc y.1 (q + (n - (q + 1))) y.2 A6 n2 c6) :: [row 30 3 y.1 (q + (n - (q + 1))) y.2 (cellsL pkc (del P5 q)), dtB 5 ((del P5 q).map pkd), row 73 2 A6 n2 c6 (cellsL ctc C), B0]) := by
  refine gives_N2 Try.func35 rfl Try.ntmps35 Try.results35 (by simp) hS0 (fun B hB hB2 => ?_)
  skip
  refine S_draw ([pt b 25 (ntc A5 n c5 A6 n2 c6)]) sub_st (by kernel_rfl) rfl (by kernel_rfl) (by kernel_rfl : _ = 12) ?_
  refine D_take 0 rfl (pev_ok rfl) ?_ rfl rfl (by kernel_rfl) (by kernel_rfl)
  refine D_take 1 rfl (pev_ok rfl) ?_ rfl rfl (by kernel_rfl) (by kernel_rfl)
  refine D_take 2 rfl (T_nilCheck rfl) ?_ rfl rfl (by kernel_rfl) (by kernel_rfl)
  refine D_take 3 rfl (pev_ok rfl) ?_ rfl rfl (by kernel_rfl) (by kernel_rfl)
  refine D_take 4 rfl (T_load rfl rfl rfl rfl) ?_ rfl rfl (by kernel_rfl) (by kernel_rfl)
  refine D_take 5 rfl (T_loadg rfl rfl rfl hR (fun k hk => hk) rfl) ?_ rfl rfl (by kernel_rfl) (by kernel_rfl)
  refine D_take 6 rfl (T_loadg rfl rfl rfl hR (fun k hk => hk) rfl) ?_ rfl rfl (by kernel_rfl) (by kernel_rfl)
  (refine D_take 7 rfl (T_addN rfl rfl (by unfold fits; omega)) ?_ rfl rfl (by kernel_rfl) (by kernel_rfl))
  refine D_one 8 rfl (E_ht1 (f := 33) (A1 := row 30 3 A5 n c5 (cellsL pkc P5)) ⟨_, Try.func33, rfl, by kernel_rfl⟩ (fun w _ hS => deleteP_any w A5 n c5 q (q + 1) (cellsL pkc P5) (by omega) (by omega) (by omega) (pk_ones P5) hS) rfl rfl (fun _ => rfl)) ?_ rfl rfl (by kernel_rfl)
  rintro _ _ ⟨⟨A7, c7⟩, rfl, _, rfl⟩
  refine Nx_same sub_st ?_
  refine D_take 9 rfl (T_nilCheck rfl) ?_ rfl rfl (by kernel_rfl) (by kernel_rfl)
  refine D_take 10 rfl (pev_ok rfl) ?_ rfl rfl (by kernel_rfl) (by kernel_rfl)
  refine D_one 11 rfl (E_store1 rfl rfl rfl rfl rfl rfl (by show _ < 2; omega)) ?_ rfl rfl (by kernel_rfl)
  rintro _ _ rfl
  refine Nx_pivot (by kernel_rfl) ?_
  refine D_done ?_ (by kernel_rfl)
  skip
  skip
  refine hB _ _ fun w' hS => ⟨(A7, c7), trivial, ?_⟩
  have h1 := sub_st (H' := [dtB 5 (P5.map pkd), pt b 25 ((ntc A5 n c5 A6 n2 c6).set (0 + 0) (.slice A7 (q + (n - (q + 1))) c7)), row 30 3 A7 (q + (n - (q + 1))) c7 ((cellsL pkc P5).take (q * 3) ++ (cellsL pkc P5).drop ((q + 1) * 3)), row 73 2 A6 n2 c6 (cellsL ctc C), B0]) w' hS
  rw [del_cells] at h1
  have h2 := dtB_sub (D' := (del P5 q).map pkd) ((del_sub P5 q).map _) h1
  have h2 : St w (owns [pt b 25 (ntc A5 n c5 A6 n2 c6), row 30 3 A5 n c5 (cellsL pkc P5), dtB 5 (P5.map pkd), row 73 2 A6 n2 c6 (cellsL ctc C), B0]) [dtB 5 ((del P5 q).map pkd), pt b 25 (ntc A7 (q + (n - (q + 1))) c7 A6 n2 c6), row 30 3 A7 (q + (n - (q + 1))) c7 (cellsL pkc (del P5 q)), row 73 2 A6 n2 c6 (cellsL ctc C), B0] w' := h2
  exact sub_st (H' := [pt b 25 (ntc A7 (q + (n - (q + 1))) c7 A6 n2 c6), row 30 3 A7 (q + (n - (q + 1))) c7 (cellsL pkc (del P5 q)), dtB 5 ((del P5 q).map pkd), row 73 2 A6 n2 c6 (cellsL ctc C), B0]) w' h2
end Go.Proofs.Ytclmaoagdkhboaa
