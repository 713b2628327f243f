/- Digests: the document's texts. -/
import Derived.Test.YtemgfoakffappaaDoorSh6
namespace Go.Proofs.YtemgfoakffappaaDoor
open Go.RowKit
open Asn (pt row rb)
set_option linter.unusedVariables false
set_option linter.unusedSimpArgs false
--@use N
theorem sgn_sign {n : Nat} (h : n < 16) : (sgn n).toNat = if n < 10 then 48 + n else 97 + n - 10 := by
  have : ∀ q : Fin 16, (sgn q).toNat = if q.1 < 10 then 48 + q.1 else 97 + q.1 - 10 := by decide
  exact this ⟨n, h⟩
set_option maxRecDepth 100000 in
set_option maxHeartbeats 4000000 in
theorem sign_any (w : World) (n : Nat) (hn : n < 16) :
    Gives Tryd.prog 39 [.int .u8 (n : Int)] [] w (X := Unit) (fun x => .int .u8 ((sgn n).toNat : Int)) (fun _ => True) (fun x => []) := by
  refine gives_S Tryd.func39 rfl Tryd.ntmps39 Tryd.results39 (by simp) (St.enter w) (fun B hB => ?_)
  have hs := sgn_sign hn
  rw [hs] at hB
  focus (refine S_seq rfl ?_; refine S_region rfl rfl ?_; refine R_p rfl ?_ rfl rfl; refine R_nil ?_; refine S_seq rfl ?_; refine S_seq rfl ?_; refine S_region rfl rfl ?_; refine R_p rfl ?_ rfl rfl; refine R_p rfl ?_ rfl rfl; refine R_nil ?_; (refine S_if rfl rfl (fun hs => ?_) (fun hs => ?_)); refine S_seq rfl ?_; refine S_region rfl rfl ?_; refine R_p rfl ?_ rfl rfl; refine R_take (T_addN rfl rfl (by unfold fits; omega)) ?_ rfl rfl; refine R_p rfl ?_ rfl rfl; refine R_nil ?_; rotate_left; refine S_skip rfl ?_; refine S_seq rfl ?_; refine S_region rfl rfl ?_; refine R_p rfl ?_ rfl rfl; refine R_take (T_addN rfl rfl (by unfold fits; omega)) ?_ rfl rfl; refine R_take (T_subN rfl rfl (by omega) (by unfold fits; omega)) ?_ rfl rfl; refine R_p rfl ?_ rfl rfl; refine R_nil ?_; rotate_left)
  · refine hB _ _ _ _ _ rfl rfl fun w' hS => ⟨(), ?_, trivial, hS⟩
    rw [if_pos (by omega)]
    rfl
  · refine hB _ _ _ _ _ rfl rfl fun w' hS => ⟨(), ?_, trivial, hS⟩
    rw [if_neg (by omega)]
    rfl
section
variable {n : Nat} {w0 : World} {M : Nat → Prop} {T : Slots} {H Hr : List Asn} {dd : Option Tmp} {tt : TypeId} {pos : String} {af : Array Edge} {g : Option (Nat × Bool)} {x y : Operand} {ts : Array TypeId}
theorem E_sign {z : Int} {q : Nat} (hx : oget T x = some (.int .u8 z)) [hz : NatOf z q] (hq : q < 16) :
    Ef Tryd.prog n w0 M T H ⟨dd, .call ⟨.value (.func 39), #[x], ts⟩, tt, pos, af, g⟩ (fun u H' => u = .int .u8 ((sgn q).toNat : Int) ∧ H' = H) := by
  rw [hz.is] at hx
  refine (E_gv ⟨_, Tryd.func39, rfl, by kernel_rfl⟩ (vs := [.int .u8 (q : Int)]) (by simp [ogets, hx]) fun w hS => sign_any w q hq).mono ?_
  rintro v H' ⟨_, rfl, _, rfl⟩ w hS
  exact ⟨_, _, rfl, ⟨rfl, rfl⟩, hS⟩
end
/-- the document's digit: -1 for none -/
def digI (c : UInt8) : Int := if digR c.toNat < 16 then (digR c.toNat : Int) else -1
set_option maxRecDepth 100000 in
set_option maxHeartbeats 4000000 in
theorem digit_any (w : World) (c : UInt8) :
    Gives Tryd.prog 38 [.int .u8 (c.toNat : Int)] [] w (X := Unit) (fun x => .int .i64 (digI c)) (fun _ => True) (fun x => []) := by
  refine gives_S Tryd.func38 rfl Tryd.ntmps38 Tryd.results38 (by simp) (St.enter w) (fun B hB => ?_)
  focus (refine S_seq rfl ?_; refine S_region rfl rfl ?_; refine R_p rfl ?_ rfl rfl; refine R_nil ?_; refine S_seq rfl ?_; refine S_seq rfl ?_; refine S_region rfl rfl ?_; refine R_p rfl ?_ rfl rfl; refine R_nil ?_; refine S_block rfl ?_)
  refine S_loop (X := Nat) (fun q => [(0, .int .u8 (c.toNat : Int)), (3, .int .u8 (q : Int))]) (fun q => []) (fun q => q ≤ 16 ∧ ∀ p, p < q → (sgn p).toNat ≠ c.toNat) (fun q => 16 - q) rfl 0 ⟨Nat.zero_le _, fun k hk => by omega⟩ (Sub.cons rfl (Sub.cons rfl Sub.nil)) (fun _ h => h) ?_
  rintro q ⟨hq, hne⟩ J hJ
  focus (refine S_seq rfl ?_; refine S_seq rfl ?_; refine S_region rfl rfl ?_; refine R_p rfl ?_ rfl rfl; refine R_p rfl ?_ rfl rfl; refine R_nil ?_; (refine S_if rfl rfl (fun hs => ?_) (fun hs => ?_)); refine S_skip rfl ?_; refine S_seq rfl ?_; refine S_block rfl ?_; refine S_seq rfl ?_; refine S_region rfl rfl ?_; refine R_p rfl ?_ rfl rfl; (refine R_eff (E_sign (q := q) rfl (by omega)) ?_ rfl rfl; rintro _ _ ⟨rfl, rfl⟩); refine R_p rfl ?_ rfl rfl; refine R_p rfl ?_ rfl rfl; refine R_nil ?_; (refine S_if rfl rfl (fun hs => ?_) (fun hs => ?_)); refine S_seq rfl ?_; refine S_region rfl rfl ?_; refine R_p rfl ?_ rfl rfl; refine R_take (T_convf rfl rfl rfl rfl (by unfold fits; omega)) ?_ rfl rfl; refine R_p rfl ?_ rfl rfl; refine R_nil ?_; rotate_left; refine S_skip rfl ?_; refine RS_blk ?_; refine S_region rfl rfl ?_; refine R_p rfl ?_ rfl rfl; refine R_take (T_addN rfl rfl (by unfold fits; omega)) ?_ rfl rfl; refine R_p rfl ?_ rfl rfl; refine R_nil ?_; rotate_left; refine S_exit rfl rfl ?_; refine S_seq rfl ?_; refine S_region rfl rfl ?_; refine R_p rfl ?_ rfl rfl; refine R_nil ?_; rotate_left)
  · refine hB _ _ _ _ _ rfl rfl fun w' hS => ⟨(), ?_, trivial, hS⟩
    have hdq : digR c.toNat = q := digR_eq hq hne (fun _ => by omega)
    rw [digI, hdq, if_pos (by omega)]
    rfl
  · refine hJ (q + 1) _ _ ⟨by omega, fun p hp => ?_⟩ (Sub.cons rfl (Sub.cons rfl Sub.nil)) (fun _ h => h) (by omega)
    rcases Nat.lt_or_ge p q with h | h
    · exact hne p h
    · obtain rfl : p = q := by omega
      omega
  · refine hB _ _ _ _ _ rfl rfl fun w' hS => ⟨(), ?_, trivial, hS⟩
    have hdq : digR c.toNat = q := digR_eq hq hne (fun _ => by omega)
    rw [digI, hdq, if_neg (by omega)]
    rfl
section
variable {n : Nat} {w0 : World} {M : Nat → Prop} {T : Slots} {H Hr : List Asn} {dd : Option Tmp} {tt : TypeId} {pos : String} {af : Array Edge} {g : Option (Nat × Bool)} {x y : Operand} {ts : Array TypeId}
theorem E_digit {c : UInt8} (hx : oget T x = some (.int .u8 (c.toNat : Int))) :
    Ef Tryd.prog n w0 M T H ⟨dd, .call ⟨.value (.func 38), #[x], ts⟩, tt, pos, af, g⟩ (fun u H' => u = .int .i64 (digI c) ∧ H' = H) := by
  refine (E_gv ⟨_, Tryd.func38, rfl, by kernel_rfl⟩ (vs := [.int .u8 (c.toNat : Int)]) (by simp [ogets, hx]) fun w hS => digit_any w c).mono ?_
  rintro v H' ⟨_, rfl, _, rfl⟩ w hS
  exact ⟨_, _, rfl, ⟨rfl, rfl⟩, hS⟩
end

set_option maxRecDepth 100000 in
set_option maxHeartbeats 4000000 in
theorem reftext_any (w : World) (l : List UInt8) (hl : l.length = 32) :
    Gives Tryd.prog 17 [.agg (l.map bv).toArray] [] w (X := Unit) (fun x => .string ⟨(textL l).toArray⟩) (fun _ => True) (fun x => []) := by
  refine gives_S Tryd.func17 rfl Tryd.ntmps17 Tryd.results17 (by simp) (St.enter w) (fun B hB => ?_)
  focus (refine S_seq rfl ?_; refine S_region rfl rfl ?_; (refine R_eff (E_boxa rfl) ?_ rfl rfl; rintro _ _ ⟨b1, rfl, rfl⟩); refine R_p rfl ?_ rfl rfl; refine R_nil ?_; refine S_seq rfl ?_; refine S_region rfl rfl ?_; refine R_p rfl ?_ rfl rfl; refine R_nil ?_; refine S_seq rfl ?_; refine S_seq rfl ?_; refine S_region rfl rfl ?_; refine R_p rfl ?_ rfl rfl; refine R_nil ?_; refine S_block rfl ?_)
  refine RS_mem (fun w hS => hS.nilrow 5 1) ?_
  refine S_loop (X := Nat × Option Addr × Nat) (fun x => [(1, .pointer (some ⟨b1, 0, none⟩)), (3, .slice x.2.1 (2 * x.1) x.2.2), (4, .int .i64 (x.1 : Int))]) (fun x => [row 5 1 x.2.1 (2 * x.1) x.2.2 ((textL (l.take x.1)).map bv), pt b1 33 (l.map bv)]) (fun x => x.1 ≤ 32) (fun x => 32 - x.1) rfl (0, none, 0) (Nat.zero_le _) (Sub.cons rfl (Sub.cons rfl (Sub.cons rfl Sub.nil))) (fun w hS => sub_st (H := [row 5 1 none 0 0 [], _]) (H' := [row 5 1 none 0 0 [], pt b1 33 (l.map bv)]) w hS) ?_
  rintro ⟨j, A3, c3⟩ hj J hJ
  dsimp only at hj ⊢
  have hc := UInt8.toNat_lt (l.getD j 0)
  focus (refine S_seq rfl ?_; refine S_seq rfl ?_; refine S_region rfl rfl ?_; refine R_p rfl ?_ rfl rfl; refine R_p rfl ?_ rfl rfl; refine R_nil ?_; (refine S_if rfl rfl (fun hs => ?_) (fun hs => ?_)); refine S_skip rfl ?_; refine S_seq rfl ?_; refine S_block rfl ?_; rotate_left; refine S_exit rfl rfl ?_; refine S_seq rfl ?_; refine S_region rfl rfl ?_; refine R_p rfl ?_ rfl rfl; refine R_take (T_b2s (bs := textL (l.take j)) rfl rfl rfl rfl rfl rfl rfl Src.row) ?_ rfl rfl; refine R_p rfl ?_ rfl rfl; refine R_nil ?_; rotate_left)
  · skip
    refine S_draw ([pt b1 33 (l.map bv)]) sub_st (by kernel_rfl) rfl (by kernel_rfl) (by kernel_rfl : _ = 14) ?_
    refine D_take 0 rfl (pev_ok rfl) ?_ rfl rfl (by kernel_rfl) (by kernel_rfl)
    refine D_take 1 rfl (pev_ok rfl) ?_ rfl rfl (by kernel_rfl) (by kernel_rfl)
    refine D_take 2 rfl (T_ixaN rfl rfl rfl rfl rfl rfl (by omega)) ?_ rfl rfl (by kernel_rfl) (by kernel_rfl)
    (refine D_take 3 rfl (T_load rfl rfl rfl (map_at0 bv 0 (by rw [hl]; omega))) ?_ rfl rfl (by kernel_rfl) (by kernel_rfl))
    (refine D_take 4 rfl (T_divN (p := (l.getD j 0).toNat) (q := 16) rfl rfl (by omega) (by unfold fits; omega)) ?_ rfl rfl (by kernel_rfl) (by kernel_rfl))
    refine D_take 6 rfl (pev_ok rfl) ?_ rfl rfl (by kernel_rfl) (by kernel_rfl)
    refine D_take 7 rfl (T_ixaN rfl rfl rfl rfl rfl rfl (by omega)) ?_ rfl rfl (by kernel_rfl) (by kernel_rfl)
    (refine D_take 8 rfl (T_load rfl rfl rfl (map_at0 bv 0 (by rw [hl]; omega))) ?_ rfl rfl (by kernel_rfl) (by kernel_rfl))
    refine D_take 9 rfl (T_modN (p := (l.getD j 0).toNat) (q := 16) rfl rfl (by omega)) ?_ rfl rfl (by kernel_rfl) (by kernel_rfl)
    refine D_one 5 rfl (E_sign (q := (l.getD j 0).toNat / 16) rfl (by omega)) ?_ rfl rfl (by kernel_rfl)
    rintro _ _ ⟨rfl, rfl⟩
    refine Nx_same sub_st ?_
    refine D_one 10 rfl (E_sign (q := (l.getD j 0).toNat % 16) rfl (by omega)) ?_ rfl rfl (by kernel_rfl)
    rintro _ _ ⟨rfl, rfl⟩
    refine Nx_same sub_st ?_
    refine D_one 11 rfl (E_lit1 (vs := [bv (sgn ((l.getD j 0).toNat / 16)), bv (sgn ((l.getD j 0).toNat % 16))]) rfl rfl rfl rfl rfl rfl rfl (by simp [Value.oneCell', bv]) (by decide)) ?_ rfl rfl (by kernel_rfl)
    rintro _ _ ⟨bl1, rfl, rfl⟩
    refine Nx_same sub_st ?_
    refine D_one 12 rfl (E_appB (m2 := 2) (nb := [sgn ((l.getD j 0).toNat / 16), sgn ((l.getD j 0).toNat % 16)]) rfl rfl rfl rfl rfl rfl (Src.pt rfl (by decide) (by decide) (fun j v h => by simpa using h)) (by omega)) ?_ rfl rfl (by kernel_rfl)
    rintro _ _ ⟨A4, c4, rfl, rfl⟩
    refine Nx_same sub_st ?_
    refine D_take 13 rfl (pev_ok rfl) ?_ rfl rfl (by kernel_rfl) (by kernel_rfl)
    refine D_done ?_ (by kernel_rfl)
    skip
    focus (refine RS_blk ?_; refine S_region rfl rfl ?_; refine R_p rfl ?_ rfl rfl; refine R_take (T_addN rfl rfl (by unfold fits; omega)) ?_ rfl rfl; refine R_p rfl ?_ rfl rfl; refine R_nil ?_)
    rw [show 2 * j + 2 = 2 * (j + 1) by omega]
    refine hJ (j + 1, A4, c4) _ _ (by dsimp only; omega) (Sub.cons rfl (Sub.cons rfl (Sub.cons rfl Sub.nil))) ?_ (by dsimp only; omega)
    dsimp only
    rw [textL_next _ _ (by omega)]
    exact sub_st
  · obtain rfl : j = 32 := by omega
    clear hJ
    have e : l.take 32 = l := List.take_of_length_le (by omega)
    rw [e]
    exact hB _ _ _ _ _ rfl rfl fun w' hS => ⟨(), rfl, trivial, hS.sublist (List.nil_sublist _)⟩
theorem half_val {l : List UInt8} {j : Nat} (hl : l.length = 64) (hj : j < 64) (hgood : ∀ k, k < j → digR (l.getD k 0).toNat < 16) : ((halves (digsL l) j).getD (j / 2) 0).toNat = (if j % 2 = 1 then (digsL l).getD (j - 1) 0 else 0) ∧ ((halves (digsL l) j).getD (j / 2) 0).toNat ≤ 15 := by
  have h1 : (digsL l).getD (j - 1) 0 < 16 ∨ ¬ j % 2 = 1 := by
    rcases Nat.eq_zero_or_pos (j % 2) with h0 | h0
    · exact .inr (by omega)
    · have := hgood (j - 1) (by omega)
      left
      rwa [digs_at (by omega)]
  rw [halves_at _ (by omega)]
  by_cases h2 : j % 2 = 1
  · rw [if_neg (by omega), if_pos (by omega), show 2 * (j / 2) = j - 1 by omega, if_pos h2, UInt8.toNat_ofNat']
    omega
  · rw [if_neg (by omega), if_neg (by omega), if_neg h2]
    decide
set_option maxRecDepth 100000 in
set_option maxHeartbeats 4000000 in
theorem refparse_any (w : World) (s : ByteArray) (hn : s.size ≤ 100000) :
    Gives Tryd.prog 15 [.string s] [] w (X := Unit) (fun x => .tuple #[.agg (((parseL (bl s)).getD noId).map bv).toArray, .bool (okL (bl s))]) (fun _ => True) (fun x => []) := by
  refine gives_C Tryd.func15 rfl Tryd.ntmps15 Tryd.results15 (by simp) (St.enter w) (fun B hB => ?_)
  have hls : (bl s).length = s.size := by simp [bl]
  focus (refine S_seq rfl ?_; refine S_region rfl rfl ?_; (refine R_eff (E_alloca rfl noId_alloc) ?_ rfl rfl; rintro _ _ ⟨_, rfl, rfl⟩); refine R_p rfl ?_ rfl rfl; refine R_nil ?_; refine S_seq rfl ?_; refine S_region rfl rfl ?_; (refine R_eff (E_alloca rfl noId_alloc) ?_ rfl rfl; rintro _ _ ⟨_, rfl, rfl⟩); refine R_nil ?_; refine S_seq rfl ?_; refine S_seq rfl ?_; refine S_region rfl rfl ?_; refine R_p rfl ?_ rfl rfl; refine R_p rfl ?_ rfl rfl; refine R_p rfl ?_ rfl rfl; refine R_nil ?_; (refine S_if rfl rfl (fun hs => ?_) (fun hs => ?_)); refine S_seq rfl ?_; refine S_region rfl rfl ?_; refine R_take (T_build0 noId_built) ?_ rfl rfl; (refine R_eff0 (E_storew (ds := noId.map bv) (cs := noId.map bv) rfl rfl rfl rfl (bv_one _) rfl) ?_ rfl; rintro _ _ rfl); refine R_p rfl ?_ rfl rfl; refine R_nil ?_; rotate_left; refine S_skip rfl ?_; refine S_seq rfl ?_; refine S_seq rfl ?_; refine S_region rfl rfl ?_; refine R_p rfl ?_ rfl rfl; refine R_nil ?_; refine S_block rfl ?_; rotate_left)
  · refine hB _ _ _ _ _ rfl (.cell rfl rfl rfl inferInstance rfl (.tmp rfl .nil)) fun w' hS => ⟨(), ?_, trivial, hS.sublist (List.nil_sublist _)⟩
    have hok : okL (bl s) = false := okL_len (by omega)
    simp [parseL, hok, retv]
  have h64 : s.size = 64 := by omega
  rename_i b2 b4
  refine S_loop (X := Nat) (fun j => [(0, .string s), (2, .pointer (some ⟨b2, 0, none⟩)), (4, .pointer (some ⟨b4, 0, none⟩)), (5, .int .i64 (j : Int))]) (fun j => [pt b4 33 ((halves (digsL (bl s)) j).map bv), pt b2 33 (noId.map bv)]) (fun j => j ≤ 64 ∧ ∀ k, k < j → digR ((bl s).getD k 0).toNat < 16) (fun j => 64 - j) rfl 0 ⟨Nat.zero_le _, fun k hk => by omega⟩ (Sub.cons rfl (Sub.cons rfl (Sub.cons rfl (Sub.cons rfl Sub.nil)))) (by rw [halves_0]; exact sub_st) ?_
  rintro j ⟨hj, hgood⟩ J hJ
  rcases Nat.lt_or_ge j 64 with hlt | hge
  · obtain ⟨b, hb⟩ : ∃ b, (halves (digsL (bl s)) j).getD (j / 2) 0 = b := ⟨_, rfl⟩
    have hb15 := half_val (by omega) hlt hgood
    rw [hb] at hb15
    have hld : ((halves (digsL (bl s)) j).map bv)[0 + j / 2]? = some (bv b) := by rw [← hb]; exact map_at0 bv 0 (by rw [halves_len]; omega)
    by_cases hg : digR ((bl s).getD j 0).toNat < 16
    · skip
      focus (refine S_seq rfl ?_; refine S_seq rfl ?_; refine S_region rfl rfl ?_; refine R_p rfl ?_ rfl rfl; refine R_p rfl ?_ rfl rfl; refine R_nil ?_; (refine S_if rfl rfl (fun hs => ?_) (fun hs => ?_)); refine S_skip rfl ?_; refine S_seq rfl ?_; refine S_block rfl ?_; refine S_seq rfl ?_; refine S_region rfl rfl ?_; refine R_p rfl ?_ rfl rfl; refine R_p rfl ?_ rfl rfl; refine R_take (T_ixsN rfl rfl rfl rfl (by omega)) ?_ rfl rfl; (refine R_eff (E_digit rfl) ?_ rfl rfl; rintro _ _ ⟨rfl, rfl⟩; rw [digI, if_pos hg]); refine R_p rfl ?_ rfl rfl; refine R_nil ?_; refine S_seq rfl ?_; refine S_seq rfl ?_; refine S_region rfl rfl ?_; refine R_p rfl ?_ rfl rfl; refine R_p rfl ?_ rfl rfl; refine R_nil ?_; refine S_false rfl rfl ?_; refine S_skip rfl ?_; refine S_region rfl rfl ?_; refine R_p rfl ?_ rfl rfl; refine R_take (T_divN rfl rfl (by omega) (by unfold fits; omega)) ?_ rfl rfl; refine R_p rfl ?_ rfl rfl; refine R_take (T_divN rfl rfl (by omega) (by unfold fits; omega)) ?_ rfl rfl; refine R_take (T_ixaN rfl rfl rfl rfl rfl rfl (by omega)) ?_ rfl rfl; refine R_take (T_load rfl rfl rfl hld) ?_ rfl rfl; refine R_take (T_mulN rfl rfl (by unfold fits; omega)) ?_ rfl rfl; refine R_p rfl ?_ rfl rfl; refine R_take (T_convf rfl rfl rfl rfl (by unfold fits; omega)) ?_ rfl rfl; refine R_take (T_addN rfl rfl (by unfold fits; omega)) ?_ rfl rfl; refine R_take (T_ixaN rfl rfl rfl rfl rfl rfl (by omega)) ?_ rfl rfl; rotate_left; refine S_exit rfl rfl ?_; refine S_seq rfl ?_; refine S_region rfl rfl ?_; (exfalso; omega))
      refine R_eff0 (E_store1 rfl rfl rfl rfl rfl rfl (by rw [List.length_map, halves_len]; omega)) ?_ rfl
      rintro _ _ rfl
      rw [show Value.int .u8 ((b.toNat * 16 + digR ((bl s).getD j 0).toNat : Nat) : Int) = bv (UInt8.ofNat (16 * b.toNat + digR ((bl s).getD j 0).toNat)) by rw [bv_ofNat]; congr 1; omega]
      rw [halves_set (digsL (bl s)) (by omega) (by
        rw [digs_at (l := bl s) (j := j) (by omega)]
        congr 1
        rw [hb15.1]
        split
        · rfl
        · omega)]
      focus (refine R_nil ?_; refine RS_blk ?_; refine S_region rfl rfl ?_; refine R_p rfl ?_ rfl rfl; refine R_take (T_addN rfl rfl (by unfold fits; omega)) ?_ rfl rfl; refine R_p rfl ?_ rfl rfl; refine R_nil ?_)
      refine hJ (j + 1) _ _ ⟨by omega, fun k hk => ?_⟩ (Sub.cons rfl (Sub.cons rfl (Sub.cons rfl (Sub.cons rfl Sub.nil)))) sub_st (by omega)
      rcases Nat.lt_or_ge k j with h | h
      · exact hgood k h
      · obtain rfl : k = j := by omega
        exact hg
    · skip
      focus (refine S_seq rfl ?_; refine S_seq rfl ?_; refine S_region rfl rfl ?_; refine R_p rfl ?_ rfl rfl; refine R_p rfl ?_ rfl rfl; refine R_nil ?_; (refine S_if rfl rfl (fun hs => ?_) (fun hs => ?_)); refine S_skip rfl ?_; refine S_seq rfl ?_; refine S_block rfl ?_; refine S_seq rfl ?_; refine S_region rfl rfl ?_; refine R_p rfl ?_ rfl rfl; refine R_p rfl ?_ rfl rfl; refine R_take (T_ixsN rfl rfl rfl rfl (by omega)) ?_ rfl rfl; (refine R_eff (E_digit rfl) ?_ rfl rfl; rintro _ _ ⟨rfl, rfl⟩; rw [digI, if_neg hg]); refine R_p rfl ?_ rfl rfl; refine R_nil ?_; refine S_seq rfl ?_; refine S_seq rfl ?_; refine S_region rfl rfl ?_; refine R_p rfl ?_ rfl rfl; refine R_p rfl ?_ rfl rfl; refine R_nil ?_; refine S_true rfl rfl ?_; refine S_seq rfl ?_; refine S_region rfl rfl ?_; refine R_take (T_build0 noId_built) ?_ rfl rfl; (refine R_eff0 (E_storew (ds := noId.map bv) (cs := noId.map bv) rfl rfl rfl rfl (bv_one _) rfl) ?_ rfl; rintro _ _ rfl); refine R_p rfl ?_ rfl rfl; refine R_nil ?_; rotate_left; refine S_exit rfl rfl ?_; refine S_seq rfl ?_; refine S_region rfl rfl ?_; (exfalso; omega))
      refine hB _ _ _ _ _ rfl (.cell rfl rfl rfl inferInstance rfl (.tmp rfl .nil)) fun w' hS => ⟨(), ?_, trivial, hS.sublist (List.nil_sublist _)⟩
      have hok : okL (bl s) = false := okL_bad (j := j) (by omega) hg
      simp [parseL, hok, retv]
  · obtain rfl : j = 64 := by omega
    have hal : ((halves (digsL (bl s)) 64).map bv).length = 32 := by simp [halves_len]
    focus (refine S_seq rfl ?_; refine S_seq rfl ?_; refine S_region rfl rfl ?_; refine R_p rfl ?_ rfl rfl; refine R_p rfl ?_ rfl rfl; refine R_nil ?_; refine S_false rfl rfl ?_; refine S_exit rfl rfl ?_; refine S_seq rfl ?_; refine S_region rfl rfl ?_; refine R_take (T_loada (ds := (halves (digsL (bl s)) 64).map bv) rfl rfl rfl hal (fun j v h => by simpa using h)) ?_ rfl rfl; (refine R_eff0 (E_storew (ds := (halves (digsL (bl s)) 64).map bv) (cs := noId.map bv) rfl rfl rfl hal (bv_one _) hal.symm) ?_ rfl; rintro _ _ rfl); refine R_p rfl ?_ rfl rfl; refine R_nil ?_)
    refine hB _ _ _ _ _ rfl (.cell rfl rfl rfl inferInstance hal (.tmp rfl .nil)) fun w' hS => ⟨(), ?_, trivial, hS.sublist (List.nil_sublist _)⟩
    have hok : okL (bl s) = true := okL_good (by omega) (fun k hk => hgood k (by omega))
    simp [parseL, hok, retv]
end Go.Proofs.YtemgfoakffappaaDoor
