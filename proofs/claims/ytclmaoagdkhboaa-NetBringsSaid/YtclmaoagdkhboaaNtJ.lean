/- Nets: the closures of a change of cuts. -/
import Derived.Test.YtclmaoagdkhboaaNtI
namespace Go.Proofs.Ytclmaoagdkhboaa
open Go.RowKit Go.ChangeShapes Go.WideShapes Go.ChangeAt
open Asn (pt row rb)
set_option linter.unusedVariables false
set_option linter.unusedSimpArgs false
--@use N

theorem T_bq {P : Program} [HasTab P] {n : Nat} {w0 : World} {M : Nat → Prop} {T : Slots} {H : List Asn} {dd : Option Tmp} {tt : TypeId} {pos : String} {af : Array Edge} {g : Option (Nat × Bool)} {x y : Operand} {t u : TypeId} {b c r : Bool} {i : Ti} (hx : oget T x = some (.bool b)) (hy : oget T y = some (.bool c)) (ht : ty P t = some i) (hi : i.desc = .bool) (hr : (b == c) = r) :
    Tk P n w0 M T H ⟨dd, .binOp .eql t x y u, tt, pos, af, g⟩ (.bool r) := hr ▸ T_beq hx hy ht hi
theorem ins_cells (C : List Ct) (m : Ct) (i : Nat) : (cellsL ctc C).take (i * 2) ++ ctc m ++ (cellsL ctc C).drop (i * 2) = cellsL ctc (C.take i ++ [m] ++ C.drop i) := by
  rw [cellsL_app, cellsL_app, cellsL_one, cellsL_take ctc_len, cellsL_drop ctc_len]
theorem delC_cells (C : List Ct) (i : Nat) : (cellsL ctc C).take (i * 2) ++ (cellsL ctc C).drop ((i + 1) * 2) = cellsL ctc (del C i) := by
  unfold del
  rw [cellsL_app, cellsL_take ctc_len, cellsL_drop ctc_len]
set_option maxRecDepth 100000 in
set_option maxHeartbeats 4000000 in
theorem may_any (w : World) (b13 b15 b8 b9 : Nat) (p f o : Bool) (er : Int) (h13 : Rd w All 1 (some ⟨b13, 0, none⟩) 1 [.bool p]) (h15 : Rd w All 1 (some ⟨b15, 0, none⟩) 1 [.bool f]) (h8 : Rd w All 1 (some ⟨b8, 0, none⟩) 1 [.bool o]) (h9 : Rd w All 1 (some ⟨b9, 0, none⟩) 1 [.int .i64 er]) (e : Int) (he : (if p = true then (if f = o then er else 0) else 2) = e) :
    Gives Try.prog 63 [.pointer (some ⟨b13, 0, none⟩), .pointer (some ⟨b15, 0, none⟩), .pointer (some ⟨b8, 0, none⟩), .pointer (some ⟨b9, 0, none⟩)] [] w (X := Unit) (fun _ => .int .i64 e) (fun _ => True) (fun _ => []) := by
  refine gives_S Try.func63 rfl Try.ntmps63 Try.results63 (by simp) (St.enter w) (fun B hB => ?_)
  cases p
  · rw [if_neg Bool.false_ne_true] at he
    subst he
    focus (refine S_seq rfl ?_; refine S_region rfl rfl ?_; refine R_p rfl ?_ rfl rfl; refine R_nil ?_; refine S_seq rfl ?_; refine S_block rfl ?_; refine S_seq rfl ?_; refine S_region rfl rfl ?_; refine R_take (T_loadg (v := .bool false) rfl rfl rfl h13 (fun k _ => noOwns k) rfl) ?_ rfl rfl; refine R_take (T_not rfl) ?_ rfl rfl; refine R_p rfl ?_ rfl rfl; refine R_nil ?_; refine S_true rfl rfl ?_; refine S_seq rfl ?_; refine S_region rfl rfl ?_; refine R_p rfl ?_ rfl rfl; refine R_nil ?_)
    exact hB _ _ _ _ _ rfl rfl fun w' hS => ⟨(), rfl, trivial, hS.sublist (List.nil_sublist _)⟩
  rw [if_pos rfl] at he
  obtain ⟨q, hq⟩ : ∃ q, (f == o) = q := ⟨_, rfl⟩
  have he : (if q = true then er else 0) = e := by
    rw [← he, ← hq]
    cases f <;> cases o <;> rfl
  cases q
  · rw [if_neg Bool.false_ne_true] at he
    subst he
    focus (refine S_seq rfl ?_; refine S_region rfl rfl ?_; refine R_p rfl ?_ rfl rfl; refine R_nil ?_; refine S_seq rfl ?_; refine S_block rfl ?_; refine S_seq rfl ?_; refine S_region rfl rfl ?_; refine R_take (T_loadg (v := .bool true) rfl rfl rfl h13 (fun k _ => noOwns k) rfl) ?_ rfl rfl; refine R_take (T_not rfl) ?_ rfl rfl; refine R_p rfl ?_ rfl rfl; refine R_nil ?_; refine S_false rfl rfl ?_; refine S_seq rfl ?_; refine S_region rfl rfl ?_; refine R_take (T_loadg (v := .bool f) rfl rfl rfl h15 (fun k _ => noOwns k) rfl) ?_ rfl rfl; refine R_take (T_loadg (v := .bool o) rfl rfl rfl h8 (fun k _ => noOwns k) rfl) ?_ rfl rfl; refine R_take (T_bq rfl rfl rfl rfl hq) ?_ rfl rfl; refine R_p rfl ?_ rfl rfl; refine R_nil ?_; refine S_false rfl rfl ?_; refine S_skip rfl ?_; refine RS_blk ?_; refine S_seq rfl ?_; refine S_region rfl rfl ?_; refine R_p rfl ?_ rfl rfl; refine R_nil ?_)
    exact hB _ _ _ _ _ rfl rfl fun w' hS => ⟨(), rfl, trivial, hS.sublist (List.nil_sublist _)⟩
  · rw [if_pos rfl] at he
    subst he
    focus (refine S_seq rfl ?_; refine S_region rfl rfl ?_; refine R_p rfl ?_ rfl rfl; refine R_nil ?_; refine S_seq rfl ?_; refine S_block rfl ?_; refine S_seq rfl ?_; refine S_region rfl rfl ?_; refine R_take (T_loadg (v := .bool true) rfl rfl rfl h13 (fun k _ => noOwns k) rfl) ?_ rfl rfl; refine R_take (T_not rfl) ?_ rfl rfl; refine R_p rfl ?_ rfl rfl; refine R_nil ?_; refine S_false rfl rfl ?_; refine S_seq rfl ?_; refine S_region rfl rfl ?_; refine R_take (T_loadg (v := .bool f) rfl rfl rfl h15 (fun k _ => noOwns k) rfl) ?_ rfl rfl; refine R_take (T_loadg (v := .bool o) rfl rfl rfl h8 (fun k _ => noOwns k) rfl) ?_ rfl rfl; refine R_take (T_bq rfl rfl rfl rfl hq) ?_ rfl rfl; refine R_p rfl ?_ rfl rfl; refine R_nil ?_; refine S_true rfl rfl ?_; refine S_seq rfl ?_; refine S_region rfl rfl ?_; refine R_take (T_loadg (v := .int .i64 er) rfl rfl rfl h9 (fun k _ => noOwns k) rfl) ?_ rfl rfl; refine R_p rfl ?_ rfl rfl; refine R_nil ?_)
    exact hB _ _ _ _ _ rfl rfl fun w' hS => ⟨(), rfl, trivial, hS.sublist (List.nil_sublist _)⟩
set_option maxRecDepth 100000 in
set_option maxHeartbeats 4000000 in
theorem does_on (w : World) (b b8 b14 b12 : Nat) (A5 : Option Addr) (c5 n : Nat) (P5 : List Pk) (A6 : Option Addr) (c6 n2 : Nat) (C : List Ct) (hC : C.length = n2) (B0 : Asn) (hn2 : n2 ≤ 1000) (i : Nat) (hi : i ≤ n2) (m : Ct) (hb8 : Rd w (fun k => ¬ owns [pt b 25 (ntc A5 n c5 A6 n2 c6), row 30 3 A5 n c5 (cellsL pkc P5), dtB 5 (P5.map pkd), row 73 2 A6 n2 c6 (cellsL ctc C), B0] k) 1 (some ⟨b8, 0, none⟩) 1 [.bool true]) (hb14 : Rd w (fun k => ¬ owns [pt b 25 (ntc A5 n c5 A6 n2 c6), row 30 3 A5 n c5 (cellsL pkc P5), dtB 5 (P5.map pkd), row 73 2 A6 n2 c6 (cellsL ctc C), B0] k) 1 (some ⟨b14, 0, none⟩) 1 [.int .i64 (i : Int)]) (hb12 : Rd w (fun k => ¬ owns [pt b 25 (ntc A5 n c5 A6 n2 c6), row 30 3 A5 n c5 (cellsL pkc P5), dtB 5 (P5.map pkd), row 73 2 A6 n2 c6 (cellsL ctc C), B0] k) 1 (some ⟨b12, 0, none⟩) 2 (ctc m)) (hS0 : St w (owns [pt b 25 (ntc A5 n c5 A6 n2 c6), row 30 3 A5 n c5 (cellsL pkc P5), dtB 5 (P5.map pkd), row 73 2 A6 n2 c6 (cellsL ctc C), B0]) [pt b 25 (ntc A5 n c5 A6 n2 c6), row 30 3 A5 n c5 (cellsL pkc P5), dtB 5 (P5.map pkd), row 73 2 A6 n2 c6 (cellsL ctc C), B0] w) :
    Gives Try.prog 64 [.pointer (some ⟨b, 0, none⟩), .pointer (some ⟨b8, 0, none⟩), .pointer (some ⟨b14, 0, none⟩), .pointer (some ⟨b12, 0, none⟩)] [pt b 25 (ntc A5 n c5 A6 n2 c6), row 30 3 A5 n c5 (cellsL pkc P5), dtB 5 (P5.map pkd), row 73 2 A6 n2 c6 (cellsL ctc C), B0] w (X := Option Addr × Nat) (fun _ => .tuple #[]) (fun _ => True) (fun y => pt b 25 (ntc A5 n c5 y.1 (n2 + 1) y.2) :: [row 30 3 A5 n c5 (cellsL pkc P5), dtB 5 (P5.map pkd), row 73 2 y.1 (n2 + 1) y.2 (cellsL ctc (C.take i ++ [m] ++ C.drop i)), B0]) := by
  refine gives_N2 Try.func64 rfl Try.ntmps64 Try.results64 (by simp) hS0 (fun B hB hB2 => ?_)
  focus (refine S_seq rfl ?_; refine S_region rfl rfl ?_; refine R_take (T_loadg (v := .bool true) rfl rfl rfl hb8 (fun k hk => hk) rfl) ?_ rfl rfl; refine R_nil ?_; refine S_true rfl rfl ?_)
  refine S_draw ([pt b 25 (ntc A5 n c5 A6 n2 c6)]) sub_st (by kernel_rfl) rfl (by kernel_rfl) (by kernel_rfl : _ = 12) ?_
  refine D_take 0 rfl (pev_ok rfl) ?_ rfl rfl (by kernel_rfl) (by kernel_rfl)
  refine D_take 1 rfl (pev_ok rfl) ?_ rfl rfl (by kernel_rfl) (by kernel_rfl)
  refine D_take 2 rfl (T_nilCheck rfl) ?_ rfl rfl (by kernel_rfl) (by kernel_rfl)
  refine D_take 3 rfl (pev_ok rfl) ?_ rfl rfl (by kernel_rfl) (by kernel_rfl)
  refine D_take 4 rfl (T_load rfl rfl rfl rfl) ?_ rfl rfl (by kernel_rfl) (by kernel_rfl)
  refine D_take 5 rfl (T_loadg (v := .int .i64 (i : Int)) rfl rfl rfl hb14 (fun k hk => hk) rfl) ?_ rfl rfl (by kernel_rfl) (by kernel_rfl)
  refine D_take 6 rfl (T_loadgs (m := 2) (sz := 1) (xs := ctc m) (ds := ctc m) rfl rfl rfl hb12 (fun k hk => hk) rfl (by decide) rfl) ?_ rfl rfl (by kernel_rfl) (by kernel_rfl)
  refine D_one 7 rfl (E_litS (vs := [.agg (ctc m).toArray]) (size := 2) (ds := ctc m) rfl rfl rfl rfl rfl rfl (by simp [vcells, ctc_len]) (by simp [vcells]) (by omega)) ?_ rfl rfl (by kernel_rfl)
  rintro _ _ ⟨vb, rfl, rfl⟩
  refine Nx_same sub_st ?_
  refine D_one 8 rfl (E_ht2 (f := 65) (A1 := row 73 2 A6 n2 c6 (cellsL ctc C)) (A2 := pt vb 73 (ctc m)) ⟨_, Try.func65, rfl, by kernel_rfl⟩ (fun w _ hS => insertC_any w A6 n2 c6 vb i (cellsL ctc C) (ctc m) hi hn2 (ct_ones C) (ctc_one m) rfl hS) rfl rfl (fun _ => rfl)) ?_ rfl rfl (by kernel_rfl)
  rintro _ _ ⟨⟨A7, c7⟩, rfl, _, rfl⟩
  refine Nx_same sub_st ?_
  refine D_take 9 rfl (T_nilCheck rfl) ?_ rfl rfl (by kernel_rfl) (by kernel_rfl)
  refine D_take 10 rfl (pev_ok rfl) ?_ rfl rfl (by kernel_rfl) (by kernel_rfl)
  refine D_one 11 rfl (E_store1 rfl rfl rfl rfl rfl rfl (by show _ < 2; omega)) ?_ rfl rfl (by kernel_rfl)
  rintro _ _ rfl
  refine Nx_pivot (by kernel_rfl) ?_
  refine D_done ?_ (by kernel_rfl)
  skip
  skip
  refine hB _ _ fun w' hS => ⟨(A7, c7), trivial, ?_⟩
  have h1 := sub_st (H' := [pt b 25 ((ntc A5 n c5 A6 n2 c6).set (0 + 1) (.slice A7 (n2 + 1) c7)), row 30 3 A5 n c5 (cellsL pkc P5), dtB 5 (P5.map pkd), row 73 2 A7 (n2 + 1) c7 ((cellsL ctc C).take (i * 2) ++ ctc m ++ (cellsL ctc C).drop (i * 2)), B0]) w' hS
  rw [ins_cells] at h1
  exact h1
set_option maxRecDepth 100000 in
set_option maxHeartbeats 4000000 in
theorem does_off (w : World) (b b8 b14 b12 : Nat) (A5 : Option Addr) (c5 n : Nat) (P5 : List Pk) (A6 : Option Addr) (c6 n2 : Nat) (C : List Ct) (hC : C.length = n2) (B0 : Asn) (hn2 : n2 ≤ 1000) (i : Nat) (hi : i < n2) (m : Ct) (hb8 : Rd w (fun k => ¬ owns [pt b 25 (ntc A5 n c5 A6 n2 c6), row 30 3 A5 n c5 (cellsL pkc P5), dtB 5 (P5.map pkd), row 73 2 A6 n2 c6 (cellsL ctc C), B0] k) 1 (some ⟨b8, 0, none⟩) 1 [.bool false]) (hb14 : Rd w (fun k => ¬ owns [pt b 25 (ntc A5 n c5 A6 n2 c6), row 30 3 A5 n c5 (cellsL pkc P5), dtB 5 (P5.map pkd), row 73 2 A6 n2 c6 (cellsL ctc C), B0] k) 1 (some ⟨b14, 0, none⟩) 1 [.int .i64 (i : Int)]) (hb12 : Rd w (fun k => ¬ owns [pt b 25 (ntc A5 n c5 A6 n2 c6), row 30 3 A5 n c5 (cellsL pkc P5), dtB 5 (P5.map pkd), row 73 2 A6 n2 c6 (cellsL ctc C), B0] k) 1 (some ⟨b12, 0, none⟩) 2 (ctc m)) (hS0 : St w (owns [pt b 25 (ntc A5 n c5 A6 n2 c6), row 30 3 A5 n c5 (cellsL pkc P5), dtB 5 (P5.map pkd), row 73 2 A6 n2 c6 (cellsL ctc C), B0]) [pt b 25 (ntc A5 n c5 A6 n2 c6), row 30 3 A5 n c5 (cellsL pkc P5), dtB 5 (P5.map pkd), row 73 2 A6 n2 c6 (cellsL ctc C), B0] w) :
    Gives Try.prog 64 [.pointer (some ⟨b, 0, none⟩), .pointer (some ⟨b8, 0, none⟩), .pointer (some ⟨b14, 0, none⟩), .pointer (some ⟨b12, 0, none⟩)] [pt b 25 (ntc A5 n c5 A6 n2 c6), row 30 3 A5 n c5 (cellsL pkc P5), dtB 5 (P5.map pkd), row 73 2 A6 n2 c6 (cellsL ctc C), B0] w (X := Option Addr × Nat) (fun _ => .tuple #[]) (fun _ => True) (fun y => pt b 25 (ntc A5 n c5 y.1 (i + (n2 - (i + 1))) y.2) :: [row 30 3 A5 n c5 (cellsL pkc P5), dtB 5 (P5.map pkd), row 73 2 y.1 (i + (n2 - (i + 1))) y.2 (cellsL ctc (del C i)), B0]) := by
  refine gives_N2 Try.func64 rfl Try.ntmps64 Try.results64 (by simp) hS0 (fun B hB hB2 => ?_)
  focus (refine S_seq rfl ?_; refine S_region rfl rfl ?_; refine R_take (T_loadg (v := .bool false) rfl rfl rfl hb8 (fun k hk => hk) rfl) ?_ rfl rfl; refine R_nil ?_; refine S_false rfl rfl ?_)
  refine S_draw ([pt b 25 (ntc A5 n c5 A6 n2 c6)]) sub_st (by kernel_rfl) rfl (by kernel_rfl) (by kernel_rfl : _ = 12) ?_
  refine D_take 0 rfl (pev_ok rfl) ?_ rfl rfl (by kernel_rfl) (by kernel_rfl)
  refine D_take 1 rfl (pev_ok rfl) ?_ rfl rfl (by kernel_rfl) (by kernel_rfl)
  refine D_take 2 rfl (T_nilCheck rfl) ?_ rfl rfl (by kernel_rfl) (by kernel_rfl)
  refine D_take 3 rfl (pev_ok rfl) ?_ rfl rfl (by kernel_rfl) (by kernel_rfl)
  refine D_take 4 rfl (T_load rfl rfl rfl rfl) ?_ rfl rfl (by kernel_rfl) (by kernel_rfl)
  refine D_take 5 rfl (T_loadg (v := .int .i64 (i : Int)) rfl rfl rfl hb14 (fun k hk => hk) rfl) ?_ rfl rfl (by kernel_rfl) (by kernel_rfl)
  refine D_take 6 rfl (T_loadg (v := .int .i64 (i : Int)) rfl rfl rfl hb14 (fun k hk => hk) rfl) ?_ rfl rfl (by kernel_rfl) (by kernel_rfl)
  (refine D_take 7 rfl (T_addN rfl rfl (by unfold fits; omega)) ?_ rfl rfl (by kernel_rfl) (by kernel_rfl))
  refine D_one 8 rfl (E_ht1 (f := 66) (A1 := row 73 2 A6 n2 c6 (cellsL ctc C)) ⟨_, Try.func66, rfl, by kernel_rfl⟩ (fun w _ hS => deleteC_any w A6 n2 c6 i (i + 1) (cellsL ctc C) (by omega) (by omega) hn2 (ct_ones C) hS) rfl rfl (fun _ => rfl)) ?_ rfl rfl (by kernel_rfl)
  rintro _ _ ⟨⟨A7, c7⟩, rfl, _, rfl⟩
  refine Nx_same sub_st ?_
  refine D_take 9 rfl (T_nilCheck rfl) ?_ rfl rfl (by kernel_rfl) (by kernel_rfl)
  refine D_take 10 rfl (pev_ok rfl) ?_ rfl rfl (by kernel_rfl) (by kernel_rfl)
  refine D_one 11 rfl (E_store1 rfl rfl rfl rfl rfl rfl (by show _ < 2; omega)) ?_ rfl rfl (by kernel_rfl)
  rintro _ _ rfl
  refine Nx_pivot (by kernel_rfl) ?_
  refine D_done ?_ (by kernel_rfl)
  skip
  skip
  refine hB _ _ fun w' hS => ⟨(A7, c7), trivial, ?_⟩
  have h1 := sub_st (H' := [pt b 25 ((ntc A5 n c5 A6 n2 c6).set (0 + 1) (.slice A7 (i + (n2 - (i + 1))) c7)), row 30 3 A5 n c5 (cellsL pkc P5), dtB 5 (P5.map pkd), row 73 2 A7 (i + (n2 - (i + 1))) c7 ((cellsL ctc C).take (i * 2) ++ (cellsL ctc C).drop ((i + 1) * 2)), B0]) w' hS
  rw [delC_cells] at h1
  exact h1
end Go.Proofs.Ytclmaoagdkhboaa
