/- Messages: what Decode reads. -/
import Derived.Test.YtdbehejbeioboaaDoorFrB
namespace Go.Proofs.YtdbehejbeioboaaDoor
open Go.RowKit
open Asn (pt row rb)
set_option linter.unusedVariables false
set_option linter.unusedSimpArgs false
--@use N

section
variable {n : Nat} {w0 : World} {M : Nat → Prop} {T : Slots} {H Hr : List Asn} {dd : Option Tmp} {tt : TypeId} {pos : String} {af : Array Edge} {g : Option (Nat × Bool)} {x y : Operand} {ts : Array TypeId} {gb : Nat} {F : Nat → Prop} {l : List UInt8} {why : Int}
theorem E_u64 (hx : oget T x = some (.pointer (some ⟨gb, 0, none⟩))) [h : HRd H gb F l why Hr] :
    Ef Tryd.prog n w0 M T H ⟨dd, .call ⟨.value (.func 38), #[x], ts⟩, tt, pos, af, g⟩ (fun u H' => ∃ t l1 why1, Rstep l why 8 t l1 why1 ∧ num t < 18446744073709551616 ∧ u = .int .u64 (num t : Nat) ∧ H' = rdr gb F l1 why1 :: Hr) := by
  refine (Ef.mono (E_gm (H := rdr gb F l why :: Hr) (A := rdr gb F l why) (A' := rdr gb F (l.drop (tookN l.length why 8)) (whyN l.length why 8)) ⟨_, Tryd.func38, rfl, by kernel_rfl⟩ (vs := [.pointer (some ⟨gb, 0, none⟩)]) (by simp [ogets, hx]) .here (fun _ h => h) (fun w hS hA => (u_any_64 w gb F l why hA).mono fun e w' ⟨he, h1, h2, _⟩ => ⟨he, h1, h2.mono fun k hk _ e => hk (.inl e)⟩)) ?_).from fun w hS => hS.perm h.perm
  rintro v H' ⟨rfl, rfl⟩ w hS
  exact ⟨_, _, rfl, ⟨_, _, _, Rstep.mk' l why 8, num_le _ 8 (by rw [List.length_take]; have : tookN l.length why 8 ≤ 8 := (by unfold tookN; split <;> omega); omega), rfl, rfl⟩, hS⟩
end
theorem en_built2 (t : Nat) (k : Int) : Tryd.prog.built 46 [(0, .int .u64 (t : Int)), (1, .int .i64 k)] = some (emc (t, k, none, 0, [])).toArray := by kernel_rfl
theorem rdr_built (gb : Nat) : Tryd.prog.built 63 [(0, .pointer (some ⟨gb, 0, none⟩))] = some [Value.pointer (some ⟨gb, 0, none⟩)].toArray := by kernel_rfl
set_option maxRecDepth 100000 in
set_option maxHeartbeats 4000000 in
theorem place_any (w : World) (gb : Nat) (F : Nat → Prop) (l : List UInt8) (why : Int) (hS0 : St w (owns [rdr gb F l why]) [rdr gb F l why] w) :
    Gives Tryd.prog 40 [.agg [Value.pointer (some ⟨gb, 0, none⟩)].toArray] [rdr gb F l why] w (X := At × List UInt8 × Int) (fun y => .agg (atc y.1).toArray) (fun y => ∃ t1 l1 w1 t2, Rstep l why 8 t1 l1 w1 ∧ Rstep l1 w1 8 t2 y.2.1 y.2.2 ∧ y.1 = (num t1, num t2) ∧ num t1 < 18446744073709551616 ∧ num t2 < 18446744073709551616) (fun y => [rdr gb F y.2.1 y.2.2]) := by
  refine gives_C Tryd.func40 rfl Tryd.ntmps40 Tryd.results40 (by simp) hS0 (fun B hB => ?_)
  focus (refine S_seq rfl ?_; refine S_region rfl rfl ?_; (refine R_eff (E_boxa (cs := [Value.pointer (some ⟨gb, 0, none⟩)]) rfl) ?_ rfl rfl; rintro _ _ ⟨b1, rfl, rfl⟩); (refine R_eff (E_alloca rfl at_zero) ?_ rfl rfl; rintro _ _ ⟨b2, rfl, rfl⟩); refine R_nil (S_seq rfl (S_region rfl rfl ?_)); refine R_p rfl ?_ rfl rfl; refine R_take (T_load rfl rfl rfl rfl) ?_ rfl rfl; (refine R_eff (E_u64 (gb := gb) (F := F) (l := l) (why := why) rfl) ?_ rfl rfl; rintro _ _ ⟨t1, l1, w1, hs1, hn1, rfl, rfl⟩); refine R_p rfl ?_ rfl rfl; refine R_nil (S_seq rfl (S_region rfl rfl ?_)); (iterate 2 refine R_p rfl ?_ rfl rfl); refine R_take (T_load rfl rfl rfl rfl) ?_ rfl rfl)
  focus ((refine R_eff (E_u64 (gb := gb) (F := F) (l := l1) (why := w1) rfl) ?_ rfl rfl; rintro _ _ ⟨t2, l2, w2, hs2, hn2, rfl, rfl⟩); refine R_take (T_build2 rfl rfl (at_built2 _ _)) ?_ rfl rfl; (refine R_eff0 (E_storew (cs := atc (0, 0)) (ds := atc (num t1, num t2)) rfl rfl rfl rfl (atc_one _) rfl) ?_ rfl; rintro _ _ rfl); refine R_nil ?_)
  exact hB _ _ _ _ _ rfl (.cell rfl rfl rfl inferInstance rfl .nil) fun w' hS => ⟨((num t1, num t2), l2, w2), rfl, ⟨t1, l1, w1, t2, hs1, hs2, rfl, hn1, hn2⟩, sub_st w' hS⟩
set_option maxRecDepth 100000 in
set_option maxHeartbeats 4000000 in
theorem ent1_any (w : World) (b6 gb : Nat) (F : Nat → Prop) (l : List UInt8) (why : Int) (hl : l.length ≤ 140737488355328) (h6 : Rd w (fun k => ¬ owns [rdr gb F l why] k) 1 (some ⟨b6, 0, none⟩) 1 [.pointer (some ⟨gb, 0, none⟩)]) (hS0 : St w (owns [rdr gb F l why]) [rdr gb F l why] w) :
    Gives Tryd.prog 41 [.pointer (some ⟨b6, 0, none⟩)] [rdr gb F l why] w (X := Em × List UInt8 × Int) (fun y => .agg (emc y.1).toArray) (fun y => ∃ t1 l1 w1 t2 l2 w2 t3 l3 w3, Rstep l why 8 t1 l1 w1 ∧ Rstep l1 w1 1 t2 l2 w2 ∧ Rstep l2 w2 2 t3 l3 w3 ∧ Rstep l3 w3 (num t3 : Nat) y.1.2.2.2.2 y.2.1 y.2.2 ∧ y.1.1 = num t1 ∧ y.1.2.1 = (num t2 : Nat) ∧ num t1 < 18446744073709551616) (fun y => [row 5 1 y.1.2.2.1 y.1.2.2.2.2.length y.1.2.2.2.1 (y.1.2.2.2.2.map bv), rdr gb F y.2.1 y.2.2]) := by
  refine gives_C Tryd.func41 rfl Tryd.ntmps41 Tryd.results41 (by simp) hS0 (fun B hB => ?_)
  focus (refine S_seq rfl ?_; refine S_region rfl rfl ?_; (refine R_eff (E_alloca rfl em_zero) ?_ rfl rfl; rintro _ _ ⟨b1, rfl, rfl⟩); refine R_nil ?_; refine S_seq rfl ?_)
  refine S_cut (X := Nat × Nat × Nat × List UInt8 × Int) (fun y => [(0, .pointer (some ⟨b6, 0, none⟩)), (1, .pointer (some ⟨b1, 0, none⟩)), (2, .pointer (some ⟨y.2.2.1, 0, none⟩))]) (fun y => [pt b1 46 (emc (0, 0, none, 0, [])), pt y.2.2.1 46 (emc (y.1, (y.2.1 : Int), none, 0, [])), rdr gb F y.2.2.2.1 y.2.2.2.2]) (fun y => ∃ t1 l1 w1 t2, Rstep l why 8 t1 l1 w1 ∧ Rstep l1 w1 1 t2 y.2.2.2.1 y.2.2.2.2 ∧ y.1 = num t1 ∧ y.2.1 = num t2 ∧ num t1 < 18446744073709551616) (fun J hJ => ?_) (fun y hy => ?_)
  · skip
    refine S_draw ([pt b1 46 (emc (0, 0, none, 0, []))]) sub_st (by kernel_rfl) rfl (by kernel_rfl) (by kernel_rfl : _ = 10) ?_
    refine D_take 0 rfl (pev_ok rfl) ?_ rfl rfl (by kernel_rfl) (by kernel_rfl)
    refine D_take 1 rfl (T_loadg (v := .pointer (some ⟨gb, 0, none⟩)) rfl rfl rfl h6 (fun k hk => hk) rfl) ?_ rfl rfl (by kernel_rfl) (by kernel_rfl)
    refine D_take 3 rfl (pev_ok rfl) ?_ rfl rfl (by kernel_rfl) (by kernel_rfl)
    refine D_take 4 rfl (T_loadg (v := .pointer (some ⟨gb, 0, none⟩)) rfl rfl rfl h6 (fun k hk => hk) rfl) ?_ rfl rfl (by kernel_rfl) (by kernel_rfl)
    refine D_two 2 8 (by decide) rfl rfl (E_u64 (gb := gb) (F := F) (l := l) (why := why) rfl) (E_alloca rfl em_zero) ?_ ?_ rfl rfl rfl rfl (by kernel_rfl)
    · rintro _ _ ⟨t1, l1, w1, hs1, hn1, rfl, rfl⟩
      refine Nx_same sub_st ?_
      refine D_two 5 8 (by decide) rfl rfl (E_u8 (gb := gb) (F := F) (l := l1) (why := w1) rfl) (E_alloca rfl em_zero) ?_ ?_ rfl rfl rfl rfl (by kernel_rfl)
      · rintro _ _ ⟨t2, l2, w2, hs2, hn2, rfl, rfl⟩
        refine Nx_same sub_st ?_
        (refine D_take 6 rfl (T_cvE (kd := .i64) (r := num t2) (by rw [wrap_fits (show fits .i64 _ by unfold fits; omega)]) rfl rfl rfl rfl) ?_ rfl rfl (by kernel_rfl) (by kernel_rfl))
        refine D_take 7 rfl (T_build2 rfl rfl (en_built2 _ _)) ?_ rfl rfl (by kernel_rfl) (by kernel_rfl)
        refine D_one 8 rfl (E_alloca rfl em_zero) ?_ rfl rfl (by kernel_rfl)
        rintro _ _ ⟨b2, rfl, rfl⟩
        refine Nx_same sub_st ?_
        refine D_one 9 rfl (E_storew (gb := b2) (cs := emc (0, 0, none, 0, [])) (ds := emc (num t1, (num t2 : Nat), none, 0, [])) rfl rfl rfl rfl (emc_one _) rfl) ?_ rfl rfl (by kernel_rfl)
        rintro _ _ rfl
        refine Nx_pivot (by kernel_rfl) ?_
        refine D_done ?_ (by kernel_rfl)
        exact hJ (num t1, num t2, b2, l2, w2) _ _ ⟨t1, l1, w1, t2, hs1, hs2, rfl, rfl, hn1⟩ (Sub.cons rfl (Sub.cons rfl (Sub.cons rfl Sub.nil))) sub_st
      · rintro _ _ ⟨b2, rfl, rfl⟩
        refine Nx_same sub_st ?_
        refine D_one 5 rfl (E_u8 (gb := gb) (F := F) (l := l1) (why := w1) rfl) ?_ rfl rfl (by kernel_rfl)
        rintro _ _ ⟨t2, l2, w2, hs2, hn2, rfl, rfl⟩
        refine Nx_same sub_st ?_
        (refine D_take 6 rfl (T_cvE (kd := .i64) (r := num t2) (by rw [wrap_fits (show fits .i64 _ by unfold fits; omega)]) rfl rfl rfl rfl) ?_ rfl rfl (by kernel_rfl) (by kernel_rfl))
        refine D_take 7 rfl (T_build2 rfl rfl (en_built2 _ _)) ?_ rfl rfl (by kernel_rfl) (by kernel_rfl)
        refine D_one 9 rfl (E_storew (gb := b2) (cs := emc (0, 0, none, 0, [])) (ds := emc (num t1, (num t2 : Nat), none, 0, [])) rfl rfl rfl rfl (emc_one _) rfl) ?_ rfl rfl (by kernel_rfl)
        rintro _ _ rfl
        refine Nx_pivot (by kernel_rfl) ?_
        refine D_done ?_ (by kernel_rfl)
        exact hJ (num t1, num t2, b2, l2, w2) _ _ ⟨t1, l1, w1, t2, hs1, hs2, rfl, rfl, hn1⟩ (Sub.cons rfl (Sub.cons rfl (Sub.cons rfl Sub.nil))) sub_st
    · rintro _ _ ⟨b2, rfl, rfl⟩
      refine Nx_same sub_st ?_
      refine D_one 2 rfl (E_u64 (gb := gb) (F := F) (l := l) (why := why) rfl) ?_ rfl rfl (by kernel_rfl)
      rintro _ _ ⟨t1, l1, w1, hs1, hn1, rfl, rfl⟩
      refine Nx_same sub_st ?_
      refine D_one 5 rfl (E_u8 (gb := gb) (F := F) (l := l1) (why := w1) rfl) ?_ rfl rfl (by kernel_rfl)
      rintro _ _ ⟨t2, l2, w2, hs2, hn2, rfl, rfl⟩
      refine Nx_same sub_st ?_
      (refine D_take 6 rfl (T_cvE (kd := .i64) (r := num t2) (by rw [wrap_fits (show fits .i64 _ by unfold fits; omega)]) rfl rfl rfl rfl) ?_ rfl rfl (by kernel_rfl) (by kernel_rfl))
      refine D_take 7 rfl (T_build2 rfl rfl (en_built2 _ _)) ?_ rfl rfl (by kernel_rfl) (by kernel_rfl)
      refine D_one 9 rfl (E_storew (gb := b2) (cs := emc (0, 0, none, 0, [])) (ds := emc (num t1, (num t2 : Nat), none, 0, [])) rfl rfl rfl rfl (emc_one _) rfl) ?_ rfl rfl (by kernel_rfl)
      rintro _ _ rfl
      refine Nx_pivot (by kernel_rfl) ?_
      refine D_done ?_ (by kernel_rfl)
      exact hJ (num t1, num t2, b2, l2, w2) _ _ ⟨t1, l1, w1, t2, hs1, hs2, rfl, rfl, hn1⟩ (Sub.cons rfl (Sub.cons rfl (Sub.cons rfl Sub.nil))) sub_st
  obtain ⟨t, k, b2, l2, w2⟩ := y
  obtain ⟨t1, l1, w1, t2, hs1, hs2, ht, hk, hn1⟩ := hy
  dsimp only at hs2 ht hk ⊢
  refine S_seq rfl ?_
  refine S_cut (X := (Option Addr × Nat) × List UInt8 × List UInt8 × Int) (fun y => [(1, .pointer (some ⟨b1, 0, none⟩)), (2, .pointer (some ⟨b2, 0, none⟩))]) (fun y => [pt b1 46 (emc (0, 0, none, 0, [])), pt b2 46 [.int .u64 (t : Int), .int .i64 (k : Int), .slice y.1.1 y.2.1.length y.1.2], row 5 1 y.1.1 y.2.1.length y.1.2 (y.2.1.map bv), rdr gb F y.2.2.1 y.2.2.2]) (fun y => ∃ t3 l3 w3, Rstep l2 w2 2 t3 l3 w3 ∧ Rstep l3 w3 (num t3 : Nat) y.2.1 y.2.2.1 y.2.2.2) (fun J hJ => ?_) (fun y hy => ?_)
  · have hll2 := hs2.len
    have hll1 := hs1.len
    refine S_draw ([pt b1 46 (emc (0, 0, none, 0, []))]) sub_st (by kernel_rfl) rfl (by kernel_rfl) (by kernel_rfl : _ = 9) ?_
    refine D_take 0 rfl (pev_ok rfl) ?_ rfl rfl (by kernel_rfl) (by kernel_rfl)
    refine D_take 1 rfl (T_loadg (v := .pointer (some ⟨gb, 0, none⟩)) rfl rfl rfl h6 (fun k hk => hk) rfl) ?_ rfl rfl (by kernel_rfl) (by kernel_rfl)
    refine D_take 2 rfl (pev_ok rfl) ?_ rfl rfl (by kernel_rfl) (by kernel_rfl)
    refine D_take 3 rfl (T_loadg (v := .pointer (some ⟨gb, 0, none⟩)) rfl rfl rfl h6 (fun k hk => hk) rfl) ?_ rfl rfl (by kernel_rfl) (by kernel_rfl)
    refine D_one 4 rfl (E_u16 (gb := gb) (F := F) (l := l2) (why := w2) rfl) ?_ rfl rfl (by kernel_rfl)
    rintro _ _ ⟨t3, l3, w3, hs3, hn3, rfl, rfl⟩
    refine Nx_same sub_st ?_
    (refine D_take 5 rfl (T_cvE (kd := .i64) (r := num t3) (by rw [wrap_fits (show fits .i64 _ by unfold fits; omega)]) rfl rfl rfl rfl) ?_ rfl rfl (by kernel_rfl) (by kernel_rfl))
    refine D_one 6 rfl (E_raw (gb := gb) (F := F) (l := l3) (why := w3) (k := (num t3 : Nat)) rfl rfl (Nat.le_trans hs3.len (by omega))) ?_ rfl rfl (by kernel_rfl)
    rintro _ _ ⟨d, l4, w4, D, cd, hs4, rfl, rfl⟩
    refine Nx_same sub_st ?_
    refine D_take 7 rfl (pev_ok rfl) ?_ rfl rfl (by kernel_rfl) (by kernel_rfl)
    refine D_one 8 rfl (E_storeA1 (gb := b2) (t := 46) (cs := emc (t, (k : Int), none, 0, [])) (cs' := [.int .u64 (t : Int), .int .i64 (k : Int), .slice D d.length cd]) (v := .slice D d.length cd) rfl rfl rfl rfl rfl rfl (by show 2 < 3; omega)) ?_ rfl rfl (by kernel_rfl)
    rintro _ _ rfl
    refine Nx_pivot (by kernel_rfl) ?_
    refine D_done ?_ (by kernel_rfl)
    exact hJ ((D, cd), d, l4, w4) _ _ ⟨t3, l3, w3, hs3, hs4⟩ (Sub.cons rfl (Sub.cons rfl Sub.nil)) sub_st
  obtain ⟨⟨D, cd⟩, d, l4, w4⟩ := y
  obtain ⟨t3, l3, w3, hs3, hs4⟩ := hy
  dsimp only at hs4 ⊢
  focus (refine S_seq rfl ?_; refine S_region rfl rfl ?_; refine R_take (T_loads (ds := [.int .u64 (t : Int), .int .i64 (k : Int), .slice D d.length cd]) rfl rfl rfl rfl rfl) ?_ rfl rfl; (refine R_eff0 (E_storew (cs := emc (0, 0, none, 0, [])) (ds := [.int .u64 (t : Int), .int .i64 (k : Int), .slice D d.length cd]) rfl rfl rfl rfl (emc_one (t, (k : Int), D, cd, d)) rfl) ?_ rfl; rintro _ _ rfl); refine R_nil ?_)
  exact hB _ _ _ _ _ rfl (.cell rfl rfl rfl inferInstance rfl .nil) fun w' hS => ⟨((t, (k : Int), D, cd, d), l4, w4), rfl, ⟨t1, l1, w1, t2, l2, w2, t3, l3, w3, hs1, hs2, hs3, hs4, ht, by rw [hk], hn1⟩, sub_st w' hS⟩
end Go.Proofs.YtdbehejbeioboaaDoor
