/- Nets: Lose. -/
import Derived.Test.YtclmaoagdkhboaaNt7
namespace Go.Proofs.Ytclmaoagdkhboaa
open Go.RowKit
open Asn (pt row rb)
set_option linter.unusedVariables false
set_option linter.unusedSimpArgs false
--@use N

theorem E_htG {P : Program} {n : Nat} {w0 : World} {M : Nat → Prop} {T : Slots} {H Hr : List Asn} {dd : Option Tmp} {tt : TypeId} {pos : String} {af : Array Edge} {g : Option (Nat × Bool)} {ts : Array TypeId} {f : FuncId} {xs : Array Operand} {vs vs' : List Value} {X : Type} {V : X → Value} {I : X → Prop} {A : X → List Asn} {A1 : Asn} [h1 : RemC H A1 Hr] (hf : Fn_ P f) (hc : ∀ w, St w0 M (A1 :: Hr) w → St w (owns [A1]) [A1] w → Gives P f vs' [A1] w V I A) (hx : ogets T xs.toList = some vs) (hv : vs = vs') :
    Ef P n w0 M T H ⟨dd, .call ⟨.value (.func f), xs, ts⟩, tt, pos, af, g⟩ (fun u H' => ∃ x, u = V x ∧ I x ∧ H' = A x ++ Hr) := by
  subst hv
  refine (E_call [A1] Hr V I A hx hf (fun w hS => hS.perm h1.perm) fun w hS => hc w hS (St.again (As := [A1]) hS)).mono ?_
  rintro v H' ⟨x, hI, rfl, rfl⟩ w hS
  exact ⟨_, _, rfl, ⟨x, rfl, hI, rfl⟩, hS⟩
theorem rd_one {w0 w : World} {M : Nat → Prop} {B0 : Asn} {Hr : List Asn} {sz n : Nat} {A : Option Addr} {xs : List Value} (h : Rd w0 All sz A n xs) (hz : 0 < sz) (hM : ∀ k, ¬ M k) (hS : St w0 M (B0 :: Hr) w) : Rd w (fun k => ¬ owns [B0] k) sz A n xs :=
  (rd_in h hz hS (fun k _ => hM k)).more fun k hk ⟨B, hB, ho⟩ => hk ⟨B, by rw [List.mem_singleton.1 hB]; exact List.mem_cons_self .., ho⟩
theorem rdt_one {w0 w : World} {M : Nat → Prop} {B0 : Asn} {Hr : List Asn} {D : List Dt} (h : RDt w0 All D) (hM : ∀ k, ¬ M k) (hS : St w0 M (B0 :: Hr) w) : RDt w (fun k => ¬ owns [B0] k) D := fun d hd => rd_one (h d hd) (by decide) hM hS
theorem pk_len {P : List Pk} {W : List Pn} (h : P.map pkv = W) : P.length = W.length := by rw [← h, List.length_map]
theorem lose1_G (w : World) (W : List Pn) (b ba : Nat) (A5 : Option Addr) (c5 n : Nat) (P5 : ShP W) (A6 : Option Addr) (c6 n2 : Nat) (C : List Ct) (B0 : Asn) (hl : W.length = n) (hn : n ≤ 500) (q : Nat) (hq : q < n) (hR : Rd w (fun k => ¬ owns [pt b 25 (ntc A5 n c5 A6 n2 c6), row 30 3 A5 n c5 (cellsL pkc P5.1), dtB 5 (P5.1.map pkd), row 73 2 A6 n2 c6 (cellsL ctc C), B0] k) 1 (some ⟨ba, 0, none⟩) 1 [.int .i64 (q : Int)]) (hS0 : St w (owns [pt b 25 (ntc A5 n c5 A6 n2 c6), row 30 3 A5 n c5 (cellsL pkc P5.1), dtB 5 (P5.1.map pkd), row 73 2 A6 n2 c6 (cellsL ctc C), B0]) [pt b 25 (ntc A5 n c5 A6 n2 c6), row 30 3 A5 n c5 (cellsL pkc P5.1), dtB 5 (P5.1.map pkd), row 73 2 A6 n2 c6 (cellsL ctc C), B0] w) :
    Gives Try.prog 35 [.pointer (some ⟨b, 0, none⟩), .pointer (some ⟨ba, 0, none⟩)] [pt b 25 (ntc A5 n c5 A6 n2 c6), row 30 3 A5 n c5 (cellsL pkc P5.1), dtB 5 (P5.1.map pkd), row 73 2 A6 n2 c6 (cellsL ctc C), B0] w (X := (Option Addr × Nat) × ShP (del W q) × (Option Addr × Nat)) (fun _ => .tuple #[]) (fun _ => True) (fun y => pt b 25 (ntc y.1.1 (q + (n - (q + 1))) y.1.2 y.2.2.1 n2 y.2.2.2) :: [row 30 3 y.1.1 (q + (n - (q + 1))) y.1.2 (cellsL pkc y.2.1.1), dtB 5 (y.2.1.1.map pkd), row 73 2 y.2.2.1 n2 y.2.2.2 (cellsL ctc C), B0]) :=
  (lose1_any w b ba A5 c5 n P5.1 A6 c6 n2 C B0 ((pk_len P5.2.1).trans hl) hn q hq hR hS0).mono fun u w' ⟨⟨A7, c7⟩, he, _, hS⟩ => ⟨((A7, c7), ⟨del P5.1 q, by rw [del_map, P5.2.1], fun m hm => P5.2.2 m ((del_sub P5.1 q).subset hm)⟩, (A6, c6)), he, trivial, hS⟩
set_option maxRecDepth 100000 in
set_option maxHeartbeats 4000000 in
theorem lose_bad (w : World) (A : Option Addr) (c n : Nat) (P : List Pk) (W : List Pn) (hk : P.length = n) (hW : P.map pkv = W) (h : Rd w All 3 A n (cellsL pkc P)) (A2 : Option Addr) (c2' n2 : Nat) (C : List Ct) (hk2 : C.length = n2) (h2 : Rd w All 2 A2 n2 (cellsL ctc C)) (hn : n ≤ 1000) (hn2 : n2 ≤ 1000) (at_ : Int) (e : Int) (he : chkB W C = false ∧ e = 330 ∨ chkB W C = true ∧ (at_ < 0 ∨ (n : Int) ≤ at_) ∧ e = 2) :
    Gives Try.prog 12 [.agg (ntc A n c A2 n2 c2').toArray, .int .i64 at_] [] w (X := Unit) (fun _ => .tuple #[.agg (ntc none 0 0 none 0 0).toArray, .int .i64 e]) (fun _ => True) (fun _ => []) := by
  refine gives_C Try.func12 rfl Try.ntmps12 Try.results12 (by simp) (St.enter w) (fun B hB => ?_)
  focus (refine S_seq rfl ?_; refine S_region rfl rfl ?_; (refine R_eff (E_boxa (cs := ntc A n c A2 n2 c2') rfl) ?_ rfl rfl; rintro _ _ ⟨b2, rfl, rfl⟩); (refine R_eff (E_box1 (v := .int .i64 at_) rfl rfl) ?_ rfl rfl; rintro _ _ ⟨b3, rfl, rfl⟩); (refine R_eff (E_alloca rfl nt_zero) ?_ rfl rfl; rintro _ _ ⟨b4, rfl, rfl⟩); refine R_p rfl ?_ rfl rfl; refine R_nil ?_; refine S_seq rfl ?_)
  refine S_draw ([pt b2 25 (ntc A n c A2 n2 c2'), pt b3 3 [.int .i64 at_]]) sub_st (by kernel_rfl) rfl (by kernel_rfl) (by kernel_rfl : _ = 10) ?_
  refine D_take 0 rfl (T_loads (ds := ntc A n c A2 n2 c2') rfl rfl rfl rfl rfl) ?_ rfl rfl (by kernel_rfl) (by kernel_rfl)
  refine D_take 1 rfl (T_loads (ds := ntc A n c A2 n2 c2') rfl rfl rfl rfl rfl) ?_ rfl rfl (by kernel_rfl) (by kernel_rfl)
  refine D_take 2 rfl (T_load rfl rfl rfl rfl) ?_ rfl rfl (by kernel_rfl) (by kernel_rfl)
  refine D_take 4 rfl (T_func rfl rfl) ?_ rfl rfl (by kernel_rfl) (by kernel_rfl)
  refine D_one 3 rfl (E_hvG (f := 29) ⟨_, Try.func29, rfl, by kernel_rfl⟩ (fun w hS => there_any w (ntc A n c A2 n2 c2') rfl (ntc_one _ _ _ _ _ _) at_ 34 []) rfl rfl) ?_ rfl rfl (by kernel_rfl)
  rintro _ _ ⟨⟨bt, bn, bg⟩, rfl, _, rfl⟩; dsimp only [List.cons_append, List.nil_append]
  refine Nx_same sub_st ?_
  refine D_one 5 rfl (E_hv0 (f := 28) ⟨_, Try.func28, rfl, by kernel_rfl⟩ (fun w hS => turn_bad w A c n P W hk hW ((Srd.old h (fun k _ => noOwns k)).rd w hS) A2 c2' n2 C hk2 ((Srd.old h2 (fun k _ => noOwns k)).rd w hS) hn hn2 56 (.func (.func 35) #[] ([.pointer (some ⟨b3, 0, none⟩)] : List Value).toArray) [.pointer (some ⟨bt, 0, none⟩), .pointer (some ⟨bn, 0, none⟩), .pointer (some ⟨bg, 0, none⟩)] ⟨_, Try.func56, rfl, by kernel_rfl⟩ e (he.imp id fun h3 => ⟨h3.1, by omega⟩) (fun hch w' hS' => there1_any w' bt bn bg at_ A c n P hk (((Srd.old h (fun k _ => noOwns k)).rd w hS).keep hS'.kpO) A2 c2' n2 34 [] ⟨_, Try.func34, rfl, by kernel_rfl⟩ (((Srd.pt (n := 1) (g := bt) (size := 1) (ds := [.int .i64 at_]) rfl (fun j u hj => by rw [Nat.zero_add]; exact hj)).rd w hS).keep hS'.kpO) (((Srd.pt (n := 2) (g := bn) (size := 1) (ds := ntc A n c A2 n2 c2') rfl (fun j u hj => by rw [Nat.zero_add]; exact hj)).rd w hS).keep hS'.kpO) (((Srd.pt (n := 1) (g := bg) (size := 1) (ds := [.func (.func 34) #[] ([] : List Value).toArray]) rfl (fun j u hj => by rw [Nat.zero_add]; exact hj)).rd w hS).keep hS'.kpO) hn e (.inl ⟨by rcases he with ⟨h3, _⟩ | ⟨_, h3, _⟩; rw [hch] at h3; cases h3; exact h3, by rcases he with ⟨h3, _⟩ | ⟨_, _, h3⟩; rw [hch] at h3; cases h3; exact h3⟩))) rfl rfl (fun _ => rfl)) ?_ rfl rfl (by kernel_rfl)
  rintro _ _ ⟨_, rfl, _, rfl⟩
  refine Nx_same sub_st ?_
  refine D_take 6 rfl (pev_ok rfl) ?_ rfl rfl (by kernel_rfl) (by kernel_rfl)
  refine D_take 7 rfl (pev_ok rfl) ?_ rfl rfl (by kernel_rfl) (by kernel_rfl)
  refine D_one 8 rfl (E_storew (cs := ntc none 0 0 none 0 0) (ds := ntc none 0 0 none 0 0) rfl rfl rfl rfl (ntc_one _ _ _ _ _ _) rfl) ?_ rfl rfl (by kernel_rfl)
  rintro _ _ rfl
  refine Nx_same sub_st ?_
  refine D_take 9 rfl (pev_ok rfl) ?_ rfl rfl (by kernel_rfl) (by kernel_rfl)
  refine D_done ?_ (by kernel_rfl)
  skip
  skip
  refine hB _ _ _ _ _ rfl (.cell rfl rfl rfl inferInstance rfl (.tmp rfl .nil)) fun w' hS => ⟨(), rfl, trivial, hS.sublist (List.nil_sublist _)⟩
set_option maxRecDepth 100000 in
set_option maxHeartbeats 4000000 in
theorem lose_ok (w : World) (A : Option Addr) (c n : Nat) (P : List Pk) (W : List Pn) (hk : P.length = n) (hW : P.map pkv = W) (h : Rd w All 3 A n (cellsL pkc P)) (A2 : Option Addr) (c2' n2 : Nat) (C : List Ct) (hk2 : C.length = n2) (h2 : Rd w All 2 A2 n2 (cellsL ctc C)) (hn : n ≤ 500) (hn2 : n2 ≤ 1000) (hd : RDt w All (P.map pkd)) (hkk : ∀ m ∈ P, m.2.2.2.2.length ≤ 100000) (hch : chkB W C = true) (q : Nat) (hq : q < n) :
    Gives Try.prog 12 [.agg (ntc A n c A2 n2 c2').toArray, .int .i64 (q : Int)] [] w (X := (Option Addr × Nat) × ShP (del W q) × (Option Addr × Nat)) (fun y => .tuple #[.agg (ntc y.1.1 (q + (n - (q + 1))) y.1.2 y.2.2.1 n2 y.2.2.2).toArray, .int .i64 0]) (fun _ => True) (fun y => [row 30 3 y.1.1 (q + (n - (q + 1))) y.1.2 (cellsL pkc y.2.1.1), dtB 5 (y.2.1.1.map pkd), row 73 2 y.2.2.1 n2 y.2.2.2 (cellsL ctc C)]) := by
  refine gives_C Try.func12 rfl Try.ntmps12 Try.results12 (by simp) (St.enter w) (fun B hB => ?_)
  have hWn : W.length = n := by rw [← hW, List.length_map, hk]
  refine RS_mem (fun w hS => dtB_nil (e := 5) hS) ?_
  focus (refine S_seq rfl ?_; refine S_region rfl rfl ?_; (refine R_eff (E_boxa (cs := ntc A n c A2 n2 c2') rfl) ?_ rfl rfl; rintro _ _ ⟨b2, rfl, rfl⟩); (refine R_eff (E_box1 (v := .int .i64 (q : Int)) rfl rfl) ?_ rfl rfl; rintro _ _ ⟨b3, rfl, rfl⟩); (refine R_eff (E_alloca rfl nt_zero) ?_ rfl rfl; rintro _ _ ⟨b4, rfl, rfl⟩); refine R_p rfl ?_ rfl rfl; refine R_nil ?_; refine S_seq rfl ?_)
  refine S_draw ([pt b2 25 (ntc A n c A2 n2 c2'), pt b3 3 [.int .i64 (q : Int)]]) sub_st (by kernel_rfl) rfl (by kernel_rfl) (by kernel_rfl : _ = 10) ?_
  refine D_take 0 rfl (T_loads (ds := ntc A n c A2 n2 c2') rfl rfl rfl rfl rfl) ?_ rfl rfl (by kernel_rfl) (by kernel_rfl)
  refine D_take 1 rfl (T_loads (ds := ntc A n c A2 n2 c2') rfl rfl rfl rfl rfl) ?_ rfl rfl (by kernel_rfl) (by kernel_rfl)
  refine D_take 2 rfl (T_load rfl rfl rfl rfl) ?_ rfl rfl (by kernel_rfl) (by kernel_rfl)
  refine D_take 4 rfl (T_func rfl rfl) ?_ rfl rfl (by kernel_rfl) (by kernel_rfl)
  refine D_one 3 rfl (E_hvG (f := 29) ⟨_, Try.func29, rfl, by kernel_rfl⟩ (fun w hS => there_any w (ntc A n c A2 n2 c2') rfl (ntc_one _ _ _ _ _ _) (q : Int) 34 []) rfl rfl) ?_ rfl rfl (by kernel_rfl)
  rintro _ _ ⟨⟨bt, bn, bg⟩, rfl, _, rfl⟩; dsimp only [List.cons_append, List.nil_append]
  refine Nx_same sub_st ?_
  refine D_one 5 rfl (E_htG (f := 28) (A1 := dtB 5 []) ⟨_, Try.func28, rfl, by kernel_rfl⟩ (fun w hS hS2 => turn_ok w A c n P W hk hW ((Srd.old h (fun k _ => noOwns k)).rd w hS) A2 c2' n2 C hk2 ((Srd.old h2 (fun k _ => noOwns k)).rd w hS) (by omega) (by omega) ((SDt.old hd (fun k _ => noOwns k)).rd w hS) hkk hch 56 35 [.pointer (some ⟨bt, 0, none⟩), .pointer (some ⟨bn, 0, none⟩), .pointer (some ⟨bg, 0, none⟩)] [.pointer (some ⟨b3, 0, none⟩)] ⟨_, Try.func56, rfl, by kernel_rfl⟩ ⟨_, Try.func35, rfl, by kernel_rfl⟩ (dtB 5 []) hS2 (Y := (Option Addr × Nat) × ShP (del W q) × (Option Addr × Nat)) (fun _ => True) (fun y => ntc y.1.1 (q + (n - (q + 1))) y.1.2 y.2.2.1 n2 y.2.2.2) (fun y => [row 30 3 y.1.1 (q + (n - (q + 1))) y.1.2 (cellsL pkc y.2.1.1), dtB 5 (y.2.1.1.map pkd), row 73 2 y.2.2.1 n2 y.2.2.2 (cellsL ctc C), dtB 5 []]) (fun _ => rfl) (fun _ => ntc_one _ _ _ _ _ _) (rd_one h (by decide) (fun k => noOwns k) hS) (rd_one h2 (by decide) (fun k => noOwns k) hS) (rdt_one hd (fun k => noOwns k) hS) (fun w' hS' => there1_any w' bt bn bg (q : Int) A c n P hk (rd_keep (rd_one h (by decide) (fun k => noOwns k) hS) hS' (fun k hk => hk)) A2 c2' n2 34 [] ⟨_, Try.func34, rfl, by kernel_rfl⟩ (rd_keep (pt_apart (b := bt) hS rfl) hS' (fun k hk => hk)) (rd_keep (pt_apart (b := bn) hS rfl) hS' (fun k hk => hk)) (rd_keep (pt_apart (b := bg) hS rfl) hS' (fun k hk => hk)) (by omega) 0 (.inr ⟨q, rfl, hq, fun w'' _ => fine_any w'' _⟩)) (fun w' b A5 c5 P5 A6 c6 hS' hS'' => lose1_G w' W b b3 A5 c5 n P5 A6 c6 n2 C (dtB 5 []) hWn hn q hq (rd_in (pt_apart (b := b3) hS rfl) (by decide) hS' (fun k hk => hk)) hS'')) rfl rfl) ?_ rfl rfl (by kernel_rfl)
  rintro _ _ ⟨⟨⟨A7, c7⟩, P7, ⟨A8, c8⟩⟩, rfl, _, rfl⟩; dsimp only [List.cons_append, List.nil_append]
  refine Nx_same sub_st ?_
  refine D_take 6 rfl (pev_ok rfl) ?_ rfl rfl (by kernel_rfl) (by kernel_rfl)
  refine D_take 7 rfl (pev_ok rfl) ?_ rfl rfl (by kernel_rfl) (by kernel_rfl)
  refine D_one 8 rfl (E_storew (cs := ntc none 0 0 none 0 0) (ds := ntc A7 (q + (n - (q + 1))) c7 A8 n2 c8) rfl rfl rfl rfl (ntc_one _ _ _ _ _ _) rfl) ?_ rfl rfl (by kernel_rfl)
  rintro _ _ rfl
  refine Nx_same sub_st ?_
  refine D_take 9 rfl (pev_ok rfl) ?_ rfl rfl (by kernel_rfl) (by kernel_rfl)
  refine D_done ?_ (by kernel_rfl)
  skip
  skip
  refine hB _ _ _ _ _ rfl (.cell rfl rfl rfl inferInstance rfl (.tmp rfl .nil)) fun w' hS => ⟨((A7, c7), P7, (A8, c8)), rfl, trivial, sub_st w' hS⟩
end Go.Proofs.Ytclmaoagdkhboaa
