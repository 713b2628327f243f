/- Digests: ShaFolds. -/
import Derived.Test.YtemgfoakffappaaDoorShK
namespace Go.Proofs.YtemgfoakffappaaDoor
open Go.RowKit Go.ChangeShapes Go.WideShapes Go.ChangeAt
open Asn (pt row rb)
set_option linter.unusedVariables false
set_option linter.unusedSimpArgs false
--@use N
theorem word_back (x : UInt32) : UInt32.ofNat (num (be 4 x.toNat)) = x := by
  apply UInt32.toNat_inj.1
  have := x.toNat_lt
  rw [num_be, UInt32.toNat_ofNat']
  omega
theorem wordsB_drop (h : List UInt32) (j : Nat) (hj : j < h.length) : ((wordsB h).drop (4 * j)).take 4 = be 4 (h.getD j 0).toNat := by
  induction h generalizing j with
  | nil => simp at hj
  | cons x h ih =>
    have e : wordsB (x :: h) = be 4 x.toNat ++ wordsB h := rfl
    rw [e]
    cases j with
    | zero =>
      rw [Nat.mul_zero, List.drop_zero, List.take_append_of_le_length (by rw [be_len]; omega), List.take_of_length_le (by rw [be_len]; omega)]
      rfl
    | succ j =>
      have h1 := ih j (by simpa using hj)
      rw [show 4 * (j + 1) = (be 4 x.toNat).length + 4 * j by rw [be_len]; omega, List.drop_append]
      rw [List.drop_eq_nil_of_le (by omega), List.nil_append, show (be 4 x.toNat).length + 4 * j - (be 4 x.toNat).length = 4 * j by omega, h1]
      rfl
theorem cutP_ne {A : Option Addr} (h : A ≠ none) (c k sz : Nat) : cutP A c k sz ≠ none := by
  unfold cutP pa
  split
  · exact h
  · cases A with
    | none => exact absurd rfl h
    | some a => simp
set_option maxRecDepth 100000 in
set_option maxHeartbeats 4000000 in
theorem folds_walk (w : World) (hr : Roots w) (A : Option Addr) (n c : Nat) (l : List UInt8) (h : Bs w All A n c l) :
    Gives Tryd.prog 9 [.slice A n c] [] w (X := Unit) (fun _ => .bool true) (fun _ => True) (fun _ => []) := by
  refine gives_S Tryd.func9 rfl Tryd.ntmps9 Tryd.results9 (by simp) (St.enter w) (fun B hB => ?_)
  obtain ⟨m, hm⟩ : ∃ m, min n 700 = m := ⟨_, rfl⟩
  have hm7 : m ≤ 700 := by omega
  obtain ⟨lb, hlb⟩ : ∃ lb, l.take m = lb := ⟨_, rfl⟩
  have hlbl : lb.length = m := by rw [← hlb, List.length_take, ← h.len]; omega
  have hpl := padL_len lb
  obtain ⟨N, hN⟩ : ∃ N, (padL lb).length = N := ⟨_, rfl⟩
  rw [hN, hlbl] at hpl
  obtain ⟨Z, hZ⟩ : ∃ Z, Z = (m + 72) / 64 * 64 - 9 - m := ⟨_, rfl⟩
  have hpad : padL lb = (lb ++ [128]) ++ (List.replicate Z 0 ++ be 8 (8 * m)) := by rw [padL, hlbl, ← hZ]; simp
  have hpad2 : padL lb = ((lb ++ [128]) ++ List.replicate Z 0) ++ be 8 (8 * m) := by rw [hpad]; simp
  have hmid : ((padL lb).drop (m + 1)).take (N - 8 - (m + 1)) = List.replicate Z 0 := by
    rw [hpad, List.drop_append, List.drop_eq_nil_of_le (by simp; omega), List.nil_append, show m + 1 - (lb ++ [(128 : UInt8)]).length = 0 by simp; omega, List.drop_zero, List.take_append_of_le_length (by simp; omega), List.take_of_length_le (by simp; omega)]
  refine S_seq rfl ?_
  iterate 40 (all_goals (try (first | refine R_take (T_decF rfl (by omega)) ?_ rfl rfl | refine R_p rfl ?_ rfl rfl | refine R_nil ?_ | refine R_take (T_addN rfl rfl (by unfold fits; omega)) ?_ rfl rfl | refine R_take (T_modN rfl rfl (by omega)) ?_ rfl rfl | refine R_take (T_not rfl) ?_ rfl rfl | refine S_seq rfl ?_ | refine S_region rfl rfl ?_ | refine S_false rfl rfl ?_ | refine S_skip rfl ?_ | (refine R_eff (E_wakes hr (noOwns 0)) ?_ rfl rfl; rintro _ _ ⟨rfl, rfl⟩) | (refine R_eff (E_own (l := l) rfl (Src.old h fun k _ => noOwns k)) ?_ rfl rfl; rintro _ _ ⟨Ab, cb, rfl, rfl⟩; rw [hm, hlb]) | (refine R_eff (E_pad (l := lb) rfl Src.row (by omega)) ?_ rfl rfl; rintro _ _ ⟨Af, cf, hcf, rfl, rfl⟩; rw [hN] at hcf ⊢))))
  focus (refine R_p rfl ?_ rfl rfl; refine R_p rfl ?_ rfl rfl; refine R_p rfl ?_ rfl rfl; refine R_take (T_addN rfl rfl (by unfold fits; omega)) ?_ rfl rfl; refine R_take (T_decF rfl (by omega)) ?_ rfl rfl; refine R_p rfl ?_ rfl rfl; refine R_p rfl ?_ rfl rfl; refine R_p rfl ?_ rfl rfl; refine R_p rfl ?_ rfl rfl; (refine R_eff (E_own (l := l) rfl (Src.old h fun k _ => noOwns k)) ?_ rfl rfl; rintro _ _ ⟨A2, c2, rfl, rfl⟩; rw [hm, hlb]); (refine R_eff (E_lit1 (vs := ([128] : List UInt8).map bv) rfl rfl rfl rfl rfl rfl rfl (by simp [bv, Value.oneCell']) (by decide)) ?_ rfl rfl; rintro _ _ ⟨bl1, rfl, rfl⟩); (refine R_eff (E_appB (m2 := 1) (bs := lb) (nb := [128]) rfl rfl rfl rfl rfl rfl (Src.pt rfl (by decide) (by decide) (fun j v h => by rw [Nat.zero_add]; exact h)) (by omega)) ?_ rfl rfl; rintro _ _ ⟨A3, c3, rfl, rfl⟩); (refine R_eff (E_prefix (l1 := padL lb) (lb ++ [128]) (List.replicate Z 0 ++ be 8 (8 * m)) rfl rfl Src.row Src.row hpad) ?_ rfl rfl; rintro _ _ ⟨rfl, rfl⟩); refine R_take (T_not rfl) ?_ rfl rfl; refine R_p rfl ?_ rfl rfl; refine R_p rfl ?_ rfl rfl; refine R_p rfl ?_ rfl rfl; refine R_p rfl ?_ rfl rfl; refine R_p rfl ?_ rfl rfl; refine R_take (T_convf rfl rfl rfl rfl (by unfold fits; omega)) ?_ rfl rfl; refine R_take (T_mulN rfl rfl (by unfold fits; omega)) ?_ rfl rfl; (refine R_eff (E_put64 (l := []) (X := 8 * m) rfl rfl Src.nil (by omega) (by omega)) ?_ rfl rfl; rintro _ _ ⟨A4, c4, rfl, rfl⟩); (refine R_eff (E_suffix (l1 := padL lb) (be 8 (8 * m)) ((lb ++ [128]) ++ List.replicate Z 0) rfl rfl Src.row (Src.row (l := be 8 (8 * m))) hpad2 (by omega)) ?_ rfl rfl; rintro _ _ ⟨rfl, rfl⟩); refine R_take (T_not rfl) ?_ rfl rfl; refine R_p rfl ?_ rfl rfl; refine R_nil ?_; refine S_false rfl rfl ?_; refine S_skip rfl ?_; refine S_seq rfl ?_; refine S_seq rfl ?_; refine S_region rfl rfl ?_; refine R_p rfl ?_ rfl rfl; refine R_p rfl ?_ rfl rfl; refine R_p rfl ?_ rfl rfl; refine R_take (T_addN rfl rfl (by unfold fits; omega)) ?_ rfl rfl; refine R_p rfl ?_ rfl rfl; refine R_p rfl ?_ rfl rfl; refine R_take (T_subN rfl rfl (by omega) (by unfold fits; omega)) ?_ rfl rfl; refine R_take (T_slb (q := m + 1) (r := N - 8) rfl rfl rfl rfl rfl rfl (by omega) (by omega)) ?_ rfl rfl; refine R_p rfl ?_ rfl rfl; refine R_p rfl ?_ rfl rfl; refine R_nil ?_; refine S_block rfl ?_)
  have hZ2 : N - 8 - (m + 1) = Z := by omega
  refine S_loop (X := Nat) (fun j => [(3, .slice Ab m cb), (4, .slice Af N cf), (65, .slice (cutP Af cf (m + 1) 1) (N - 8 - (m + 1)) (cf - (m + 1))), (66, .int .i64 ((N - 8 - (m + 1) : Nat) : Int)), (67, .int .i64 (j : Int))]) (fun j => [row 5 1 Af N cf ((padL lb).map bv), row 5 1 Ab m cb (lb.map bv)]) (fun j => j ≤ Z) (fun j => Z - j) rfl 0 (Nat.zero_le _) (Sub.cons rfl (Sub.cons rfl (Sub.cons rfl (Sub.cons rfl (Sub.cons rfl Sub.nil))))) sub_st ?_
  intro j hj J hJ
  have hsrc : ∀ {H Hr : List Asn} [HRow H Af N cf 5 1 ((padL lb).map bv) Hr], Src w (owns []) H (cutP Af cf (m + 1) 1) (N - 8 - (m + 1)) (cf - (m + 1)) (List.replicate Z 0) := fun {H Hr} _ => by
    have h1 := (Src.row (w0 := w) (M := owns []) (H := H) (A := Af) (n := N) (c := cf) (l := padL lb)).part (q := m + 1) (r := N - 8) (by omega) (by omega)
    rwa [hmid] at h1
  refine RS_row Af N cf fun hrc hrm hne0 hrl => ?_
  have hne : cutP Af cf (m + 1) 1 ≠ none := cutP_ne (hne0 (by omega)) _ _ _
  have hz0 : (List.replicate Z (0 : UInt8)).getD j 0 = 0 := by simp [List.getD, List.getElem?_replicate]; split <;> rfl
  have hld : ∀ {T : Slots} {H Hr : List Asn} [HRow H Af N cf 5 1 ((padL lb).map bv) Hr] {dd : Option Tmp} {tt : TypeId} {pos : String} {af : Array Edge} {g : Option (Nat × Bool)} {x : Operand}, oget T x = some (.pointer (pa (cutP Af cf (m + 1) 1) j)) → j < Z → Tk Tryd.prog 102 w (owns []) T H ⟨dd, .load 5 x, tt, pos, af, g⟩ (.int .u8 0) := fun {T H Hr} _ {dd tt pos af g x} hx hj => by
    have h1 := T_ldb (P := Tryd.prog) (n := 102) (w0 := w) (M := owns []) (H := H) (dd := dd) (tt := tt) (pos := pos) (af := af) (g := g) (s := 5) hx rfl rfl hsrc (by omega)
    rwa [hz0] at h1
  focus (refine S_seq rfl ?_; refine S_region rfl rfl ?_; refine R_p rfl ?_ rfl rfl; refine R_nil ?_; refine S_seq rfl ?_; (refine S_if rfl rfl (fun hs => ?_) (fun hs => ?_)); refine S_skip rfl ?_; refine S_seq rfl ?_; refine S_block rfl ?_; refine S_seq rfl ?_; refine S_region rfl rfl ?_; refine R_take (T_ixN rfl rfl rfl rfl rfl rfl (by first | assumption | exact hne (by omega) | exact hne2 (by omega)) (by omega)) ?_ rfl rfl; refine R_take (hld rfl (by omega)) ?_ rfl rfl; refine R_p rfl ?_ rfl rfl; refine R_nil ?_; refine S_seq rfl ?_; refine S_region rfl rfl ?_; refine R_p rfl ?_ rfl rfl; refine R_take (T_decF (p := ¬ ((0 : Int) = 0)) rfl (by omega)) ?_ rfl rfl; refine R_nil ?_; refine S_false rfl rfl ?_; refine S_skip rfl ?_; refine RS_blk ?_; refine S_region rfl rfl ?_; refine R_take (T_addN rfl rfl (by unfold fits; omega)) ?_ rfl rfl; refine R_p rfl ?_ rfl rfl; refine R_nil ?_; rotate_left; refine S_exit rfl rfl ?_; refine S_seq rfl ?_; refine S_region rfl rfl ?_; (refine R_eff E_start ?_ rfl rfl; rintro _ _ ⟨rfl, rfl⟩); (refine R_eff (E_alloca rfl z8_alloc) ?_ rfl rfl; rintro _ _ ⟨b7, rfl, rfl⟩); (refine R_eff0 (E_storew (ds := startL.map w32) (cs := List.replicate 8 (.int .u32 0)) rfl rfl rfl rfl (w32_ones _) rfl) ?_ rfl; rintro _ _ rfl); refine R_nil ?_; refine S_seq rfl ?_; refine S_seq rfl ?_; refine S_region rfl rfl ?_; refine R_p rfl ?_ rfl rfl; refine R_p rfl ?_ rfl rfl; refine R_nil ?_; refine S_block rfl ?_; rotate_left)
  · exact hJ (j + 1) _ _ (by omega) (Sub.cons rfl (Sub.cons rfl (Sub.cons rfl (Sub.cons rfl (Sub.cons rfl Sub.nil))))) sub_st (by omega)
  clear hJ hld hsrc hz0 hmid hpad hpad2
  have hsum : sumL lb = wordsB (sumW (padL lb) ((padL lb).length / 64)) := rfl
  have hsl := sumL_len lb
  obtain ⟨P, hP⟩ : ∃ P, padL lb = P := ⟨_, rfl⟩
  rw [hP] at hN hsum ⊢
  rw [hN] at hsum
  refine S_loop (X := Nat × Option Addr × Nat) (fun x => [(3, .slice Ab m cb), (7, .pointer (some ⟨b7, 0, none⟩)), (8, .slice x.2.1 (N - 64 * x.1) x.2.2)]) (fun x => [pt b7 23 ((sumW P x.1).map w32), row 5 1 Af N cf (P.map bv), row 5 1 Ab m cb (lb.map bv)]) (fun x => 64 * x.1 ≤ N ∧ N - 64 * x.1 ≤ x.2.2 ∧ ∀ w, (row 5 1 Af N cf (P.map bv)).holds w → Bs w All x.2.1 (N - 64 * x.1) x.2.2 (P.drop (64 * x.1))) (fun x => N - 64 * x.1) rfl (0, Af, cf) ⟨Nat.zero_le _, hcf, fun w hw => (Bs.of_own hw).more fun _ _ => trivial⟩ (Sub.cons rfl (Sub.cons rfl (Sub.cons rfl Sub.nil))) (by rw [show sumW P (0, Af, cf).1 = startL from rfl]; exact sub_st) ?_
  rintro ⟨i, A5, c5⟩ ⟨hi, hic, hI⟩ J hJ
  have hS2 : ∀ {H : List Asn} {Hr : List Asn} [HRow H Af N cf 5 1 (P.map bv) Hr], Src w (owns []) H A5 (N - 64 * i) c5 (P.drop (64 * i)) := fun {H Hr} hm => ⟨fun w hS => hI w (hS.at_ hm.mem)⟩
  dsimp only at hi hic hI ⊢
  have h64 : 0 < ((N - 64 * i : Nat) : Int) → ((P.drop (64 * i)).take 64).length = 64 := fun hs => by rw [List.length_take, List.length_drop, hN]; omega
  have hsl2 : ((sumL lb).map bv).length = 32 := by simp [hsl]
  focus (refine S_seq rfl ?_; refine S_seq rfl ?_; refine S_region rfl rfl ?_; refine R_p rfl ?_ rfl rfl; refine R_p rfl ?_ rfl rfl; refine R_p rfl ?_ rfl rfl; refine R_nil ?_; (refine S_if rfl rfl (fun hs => ?_) (fun hs => ?_)); refine S_skip rfl ?_; refine S_seq rfl ?_; refine S_block rfl ?_; rotate_left; refine S_exit rfl rfl ?_; refine S_seq rfl ?_; refine S_region rfl rfl ?_; refine R_p rfl ?_ rfl rfl; (refine R_eff (E_sum (l := lb) rfl Src.row (by omega) hr (noOwns 0)) ?_ rfl rfl; rintro _ _ ⟨rfl, rfl⟩); (refine R_eff (E_alloca rfl noId_alloc) ?_ rfl rfl; rintro _ _ ⟨b9, rfl, rfl⟩); (refine R_eff0 (E_storew (ds := (sumL lb).map bv) (cs := noId.map bv) rfl rfl rfl hsl2 (bv_one _) hsl2.symm) ?_ rfl; rintro _ _ rfl); refine R_nil ?_; refine S_seq rfl ?_; refine S_region rfl rfl ?_; rotate_left)
  · have h64' := h64 (by omega)
    refine S_draw ([pt b7 23 ((sumW P i).map w32), row 5 1 Af N cf (P.map bv)]) sub_st (by kernel_rfl) rfl (by kernel_rfl) (by kernel_rfl : _ = 6) ?_
    (refine D_take 0 rfl (T_loada (ds := (sumW P i).map w32) rfl rfl rfl (sw8 P i) (fun q v hq => by rw [Nat.zero_add]; exact hq)) ?_ rfl rfl (by kernel_rfl) (by kernel_rfl))
    refine D_take 1 rfl (pev_ok rfl) ?_ rfl rfl (by kernel_rfl) (by kernel_rfl)
    refine D_take 2 rfl (T_s2a rfl rfl rfl (by omega)) ?_ rfl rfl (by kernel_rfl) (by kernel_rfl)
    refine D_take 3 rfl (T_ldarr (k := 64) rfl rfl rfl hS2 rfl (by decide) (by omega)) ?_ rfl rfl (by kernel_rfl) (by kernel_rfl)
    refine D_one 4 rfl (E_block rfl rfl (sumW_len P i) h64' hr (noOwns 0)) ?_ rfl rfl (by kernel_rfl)
    rintro _ _ ⟨rfl, rfl⟩
    refine Nx_same sub_st ?_
    refine D_one 5 rfl (E_storew (cs := (sumW P i).map w32) rfl rfl rfl (bl8 _ _) (w32_ones _) ((sw8 P i).trans (bl8 _ _).symm)) ?_ rfl rfl (by kernel_rfl)
    rintro _ _ rfl
    refine Nx_pivot (by kernel_rfl) ?_
    refine D_done ?_ (by kernel_rfl)
    skip
    focus (refine RS_blk ?_; refine S_region rfl rfl ?_; refine R_p rfl ?_ rfl rfl; refine R_take (T_sll (q := 64) rfl rfl rfl rfl rfl (by omega) hic) ?_ rfl rfl; refine R_p rfl ?_ rfl rfl; refine R_nil ?_)
    rw [show N - 64 * i - 64 = N - 64 * (i + 1) by omega]
    refine hJ (i + 1, cutP A5 c5 64 1, c5 - 64) _ _ ⟨by dsimp only; omega, by dsimp only; omega, fun w hw => ?_⟩ (Sub.cons rfl (Sub.cons rfl (Sub.cons rfl Sub.nil))) (by dsimp only [sumW]; exact sub_st) (by dsimp only; omega)
    have h1 := (hI w hw).cutP (k := 64) (by omega)
    rw [List.drop_drop, show N - 64 * i - 64 = N - 64 * (i + 1) by omega] at h1
    exact h1
  have hi2 : i = N / 64 := by omega
  subst hi2
  clear hJ hS2 hI h64
  have l8 := sumW_len P (N / 64)
  obtain ⟨W, hW⟩ : ∃ W, sumW P (N / 64) = W := ⟨_, rfl⟩
  rw [hW] at hsum l8 ⊢
  obtain ⟨I, hI⟩ : ∃ I, sumL lb = I := ⟨_, rfl⟩
  rw [hI] at hsum hsl hsl2 ⊢
  have lW2 : (W.map w32).length = 8 := by simpa using l8
  focus (refine R_take (T_slarr rfl rfl rfl rfl) ?_ rfl rfl; (refine R_eff (E_read (l := I) rfl (Src.pt hsl (by decide) (by decide) (fun j v h => by rw [Nat.zero_add]; exact h)) (by decide)) ?_ rfl rfl; rintro _ _ ⟨gb, F, rfl, rfl⟩); refine R_p rfl ?_ rfl rfl; refine R_nil ?_; refine S_seq rfl ?_; refine S_seq rfl ?_; refine S_region rfl rfl ?_; refine R_take (T_loada (ds := W.map w32) rfl rfl rfl lW2 (fun q v hq => by rw [Nat.zero_add]; exact hq)) ?_ rfl rfl; refine R_p rfl ?_ rfl rfl; refine R_nil ?_; refine S_block rfl ?_)
  refine S_loop (X := Nat) (fun j => [(10, .pointer (some ⟨gb, 0, none⟩)), (90, .agg (W.map w32).toArray), (91, .int .i64 (j : Int))]) (fun j => [rdr gb F (I.drop (4 * j)) 0]) (fun j => j ≤ 8) (fun j => 8 - j) rfl 0 (Nat.zero_le _) (Sub.cons rfl (Sub.cons rfl (Sub.cons rfl Sub.nil))) (by rw [show List.drop (4 * 0) I = I from rfl]; exact sub_st) ?_
  intro j hj J hJ
  rcases Nat.lt_or_ge j 8 with hlt | hge
  · have h4 : 4 ≤ (I.drop (4 * j)).length := by rw [List.length_drop]; omega
    have hwd : UInt32.ofNat (num ((I.drop (4 * j)).take 4)) = W.getD j 0 := by rw [hsum, wordsB_drop _ _ (by omega), word_back]
    focus (refine S_seq rfl ?_; refine S_region rfl rfl ?_; refine R_take (T_decT rfl (by omega)) ?_ rfl rfl; refine R_nil ?_; refine S_seq rfl ?_; refine S_true rfl rfl ?_; refine S_skip rfl ?_; refine S_seq rfl ?_; refine S_block rfl ?_; refine S_seq rfl ?_; refine S_region rfl rfl ?_; refine R_take (T_ixv (q := j) (v := w32 (W.getD j 0)) rfl rfl rfl rfl rfl rfl rfl (by omega) (map_at w32 0 (by omega))) ?_ rfl rfl; refine R_p rfl ?_ rfl rfl; refine R_nil ?_; refine S_seq rfl ?_; refine S_region rfl rfl ?_; refine R_p rfl ?_ rfl rfl; (refine R_eff (E_u32w rfl h4) ?_ rfl rfl; rintro _ _ ⟨rfl, rfl⟩; rw [hwd, List.drop_drop, show 4 * j + 4 = 4 * (j + 1) by omega]); refine R_p rfl ?_ rfl rfl; refine R_take (T_decF (p := ¬ (((W.getD j 0).toNat : Int) = ((W.getD j 0).toNat : Int))) rfl (by omega)) ?_ rfl rfl; refine R_nil ?_; refine S_false rfl rfl ?_; refine S_skip rfl ?_; refine RS_blk ?_; refine S_region rfl rfl ?_; refine R_take (T_addN rfl rfl (by unfold fits; omega)) ?_ rfl rfl; refine R_p rfl ?_ rfl rfl; refine R_nil ?_)
    exact hJ (j + 1) _ _ (by omega) (Sub.cons rfl (Sub.cons rfl (Sub.cons rfl Sub.nil))) sub_st (by omega)
  · obtain rfl : j = 8 := by omega
    have h0 : (I.drop (4 * 8)).length = 0 := by rw [List.length_drop]; omega
    focus (refine S_seq rfl ?_; refine S_region rfl rfl ?_; refine R_take (T_decF rfl (by omega)) ?_ rfl rfl; refine R_nil ?_; refine S_seq rfl ?_; refine S_false rfl rfl ?_; refine S_exit rfl rfl ?_; refine S_seq rfl ?_; refine S_region rfl rfl ?_; refine R_p rfl ?_ rfl rfl; (refine R_eff (E_left rfl) ?_ rfl rfl; rintro _ _ ⟨rfl, rfl⟩); refine R_take (T_decT rfl (by omega)) ?_ rfl rfl; refine R_p rfl ?_ rfl rfl; refine R_nil ?_)
    exact hB _ _ _ _ _ rfl rfl fun w' hS => ⟨(), rfl, trivial, hS.sublist (List.nil_sublist _)⟩
theorem ShaFolds_open {H : Type} {enc : TypeId × Value → H} (W : World) {r : Reach} (base : Nat) (v0 : Value) {d0 : DataW H} {p0 : List MemPlace}
    (hv0 : Value.okWide Tryd.prog W r base 28 v0) (h0 : DataW.Trod enc Tryd.prog W 0 (fun _ => true) true 28 v0 d0 p0) (hL : laidMetH Tryd.prog [("confluence/sha.roots", Rows.laid_confluence_sha_roots)] W) :
    Calls Tryd.prog 9 #[v0] W fun e w' => e = .returned (.bool true) ∧ Kp All W w' := by
  obtain ⟨A, n, c, l, rfl, hb⟩ := open_bytes hv0 h0
  exact (folds_walk W (laid_roots hL) A n c l hb).pure
end Go.Proofs.YtemgfoakffappaaDoor
