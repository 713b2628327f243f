/- entry.Decode: what it reads an Id with. -/
import Derived.Test.YtleecfhafnfeoaaRdC
import Derived.Test.YtleecfhafnfeoaaCm3
namespace Go.Proofs.Ytleecfhafnfeoaa
open Go.RowKit
open Asn (pt row rb)
set_option linter.unusedVariables false
set_option linter.unusedSimpArgs false

theorem Rstep.tlen {l t l1 : List UInt8} {why n why1 : Int} (h : Rstep l why n t l1 why1) : t.length = tookN l.length why n := by
  rw [h.ht, List.length_take, Nat.min_eq_left (tookN_le _ _ _)]
/-- an Id of which so many bytes were read -/
def idOf (t : List UInt8) : List UInt8 := t ++ zero32.drop t.length
theorem idOf_len {t : List UInt8} (h : t.length ≤ 32) : (idOf t).length = 32 := by
  have := zero32_len
  simp [idOf, this]
  omega
theorem idOf_all {t : List UInt8} (h : t.length = 32) : idOf t = t := by
  have := zero32_len
  simp [idOf, h, this]

set_option maxRecDepth 100000 in
set_option maxHeartbeats 4000000 in
theorem dec_id (w : World) (bR gb : Nat) (F : Nat → Prop) (l : List UInt8) (why : Int) (hl : l.length ≤ 140737488355328) (hS : St w (owns [pt bR 49 [.pointer (some ⟨gb, 0, none⟩)], rdr gb F l why]) [pt bR 49 [.pointer (some ⟨gb, 0, none⟩)], rdr gb F l why] w) :
    Gives Try.prog 27 [.pointer (some ⟨bR, 0, none⟩)] [pt bR 49 [.pointer (some ⟨gb, 0, none⟩)], rdr gb F l why] w (X := List UInt8 × List UInt8 × Int) (fun x => .agg ((idOf x.1).map bv).toArray) (fun x => Rstep l why 32 x.1 x.2.1 x.2.2) (fun x => [pt bR 49 [.pointer (some ⟨gb, 0, none⟩)], rdr gb F x.2.1 x.2.2]) := by
  refine gives_C Try.func27 rfl Try.ntmps27 Try.results27 (by simp) hS (fun B hB => ?_)
  repeat' (first | refine R_p rfl ?_ rfl rfl | refine R_nil ?_ | refine R_skip ?_ rfl rfl | refine R_skip0 ?_ rfl | refine R_take (T_slarr rfl rfl rfl rfl) ?_ rfl rfl | refine R_take (T_loada (ds := (idOf t).map bv) rfl rfl rfl hid hod) ?_ rfl rfl | refine R_take (T_load rfl rfl rfl (by first | rfl | assumption)) ?_ rfl rfl | refine R_take (T_sum rfl rfl rfl (by unfold fits; omega)) ?_ rfl rfl | refine R_take (T_notd rfl) ?_ rfl rfl | refine R_take (T_not rfl) ?_ rfl rfl | refine R_take (T_ix1 rfl rfl rfl rfl rfl rfl (by assumption) (by first | assumption | omega)) ?_ rfl rfl | refine R_take (T_ldb rfl rfl rfl (by assumption) (by first | assumption | omega)) ?_ rfl rfl | refine R_take (T_ixs rfl rfl rfl rfl (by first | assumption | omega)) ?_ rfl rfl | refine R_take (T_convf rfl rfl rfl rfl (by unfold fits; omega)) ?_ rfl rfl | refine R_take (T_conv rfl rfl rfl rfl) ?_ rfl rfl | refine S_seq rfl ?_ | refine S_region rfl rfl ?_ | refine S_true rfl rfl ?_ | refine S_false rfl rfl ?_ | refine S_block rfl ?_ | refine RS_blk ?_ | refine S_exit rfl rfl ?_ | refine S_skip rfl ?_ | refine S_label rfl ?_ | refine S_scope rfl ?_ | refine RS_seg ?_ | (refine R_eff (E_alloca rfl id_alloc) ?_ rfl rfl; rintro _ _ ⟨b, rfl, rfl⟩) | (refine R_eff0 (E_store (ds := (idOf t).map bv) rfl rfl rfl rfl hid (bv_one _) rfl hfit) ?_ rfl; rintro _ _ rfl) | (refine R_eff (E_boxa rfl) ?_ rfl rfl; rintro _ _ ⟨b, rfl, rfl⟩) | (refine R_eff (E_box1 rfl rfl) ?_ rfl rfl; rintro _ _ ⟨b, rfl, rfl⟩) | (refine R_eff (E_alloc1 rfl rfl rfl) ?_ rfl rfl; rintro _ _ ⟨b, rfl, rfl⟩) | (refine R_eff (E_alloca rfl rfl) ?_ rfl rfl; rintro _ _ ⟨b, rfl, rfl⟩) | (refine R_eff0 (E_store1 rfl rfl rfl rfl rfl rfl (by first | decide | (simp; done) | (simp; omega) | assumption)) ?_ rfl; rintro _ _ rfl) | (refine R_splitd rfl rfl (fun hs => ?_) (fun hs => ?_)) | (refine R_split rfl rfl (fun hs => ?_) (fun hs => ?_)) | (refine S_if rfl rfl (fun hs => ?_) (fun hs => ?_)) | (refine S_cond rfl rfl (fun hs => ?_) (fun hs => ?_)))
  refine S_draw ([pt bR 49 [.pointer (some ⟨gb, 0, none⟩)]]) sub_st (by kernel_rfl) rfl (by kernel_rfl) (by kernel_rfl : _ = 4) ?_
  first | refine D_take 0 rfl (pev_ok rfl) ?_ rfl rfl (by kernel_rfl) (by kernel_rfl) | refine D_take 0 rfl (T_slarr rfl rfl rfl rfl) ?_ rfl rfl (by kernel_rfl) (by kernel_rfl) | refine D_take 0 rfl (T_loada (ds := (idOf t).map bv) rfl rfl rfl hid hod) ?_ rfl rfl (by kernel_rfl) (by kernel_rfl) | refine D_take 0 rfl (T_load rfl rfl rfl (by first | rfl | assumption)) ?_ rfl rfl (by kernel_rfl) (by kernel_rfl) | refine D_take 0 rfl (T_sum rfl rfl rfl (by unfold fits; omega)) ?_ rfl rfl (by kernel_rfl) (by kernel_rfl) | refine D_take 0 rfl (T_notd rfl) ?_ rfl rfl (by kernel_rfl) (by kernel_rfl) | refine D_take 0 rfl (T_not rfl) ?_ rfl rfl (by kernel_rfl) (by kernel_rfl) | refine D_take 0 rfl (T_ix1 rfl rfl rfl rfl rfl rfl (by assumption) (by first | assumption | omega)) ?_ rfl rfl (by kernel_rfl) (by kernel_rfl) | refine D_take 0 rfl (T_ldb rfl rfl rfl (by assumption) (by first | assumption | omega)) ?_ rfl rfl (by kernel_rfl) (by kernel_rfl) | refine D_take 0 rfl (T_ixs rfl rfl rfl rfl (by first | assumption | omega)) ?_ rfl rfl (by kernel_rfl) (by kernel_rfl) | refine D_take 0 rfl (T_convf rfl rfl rfl rfl (by unfold fits; omega)) ?_ rfl rfl (by kernel_rfl) (by kernel_rfl) | refine D_take 0 rfl (T_conv rfl rfl rfl rfl) ?_ rfl rfl (by kernel_rfl) (by kernel_rfl) | refine D_skip 0 rfl ?_ rfl rfl (by kernel_rfl) (by kernel_rfl)
  first | refine D_take 1 rfl (pev_ok rfl) ?_ rfl rfl (by kernel_rfl) (by kernel_rfl) | refine D_take 1 rfl (T_slarr rfl rfl rfl rfl) ?_ rfl rfl (by kernel_rfl) (by kernel_rfl) | refine D_take 1 rfl (T_loada (ds := (idOf t).map bv) rfl rfl rfl hid hod) ?_ rfl rfl (by kernel_rfl) (by kernel_rfl) | refine D_take 1 rfl (T_load rfl rfl rfl (by first | rfl | assumption)) ?_ rfl rfl (by kernel_rfl) (by kernel_rfl) | refine D_take 1 rfl (T_sum rfl rfl rfl (by unfold fits; omega)) ?_ rfl rfl (by kernel_rfl) (by kernel_rfl) | refine D_take 1 rfl (T_notd rfl) ?_ rfl rfl (by kernel_rfl) (by kernel_rfl) | refine D_take 1 rfl (T_not rfl) ?_ rfl rfl (by kernel_rfl) (by kernel_rfl) | refine D_take 1 rfl (T_ix1 rfl rfl rfl rfl rfl rfl (by assumption) (by first | assumption | omega)) ?_ rfl rfl (by kernel_rfl) (by kernel_rfl) | refine D_take 1 rfl (T_ldb rfl rfl rfl (by assumption) (by first | assumption | omega)) ?_ rfl rfl (by kernel_rfl) (by kernel_rfl) | refine D_take 1 rfl (T_ixs rfl rfl rfl rfl (by first | assumption | omega)) ?_ rfl rfl (by kernel_rfl) (by kernel_rfl) | refine D_take 1 rfl (T_convf rfl rfl rfl rfl (by unfold fits; omega)) ?_ rfl rfl (by kernel_rfl) (by kernel_rfl) | refine D_take 1 rfl (T_conv rfl rfl rfl rfl) ?_ rfl rfl (by kernel_rfl) (by kernel_rfl) | refine D_skip 1 rfl ?_ rfl rfl (by kernel_rfl) (by kernel_rfl)
  refine D_one 2 rfl (E_raw (k := 32) rfl rfl hl) ?_ rfl rfl (by kernel_rfl)
  rintro _ _ ⟨t, l1, why1, A1, c1, hst, rfl, rfl⟩
  refine Nx_same sub_st ?_
  refine D_one 3 rfl (E_copyb (cs := t.map bv) rfl rfl rfl rfl rfl rfl (by rw [List.length_map]; exact Srd.row (c := c1)) (by rw [List.length_map]; exact (Nat.min_eq_left (by rw [hst.tlen]; unfold tookN; split <;> omega)).symm) (by rw [List.length_map, List.length_map, zero32_len]; rw [hst.tlen]; unfold tookN; split <;> omega) (bv_one _) rfl) ?_ rfl rfl (by kernel_rfl)
  rintro _ _ ⟨rfl, rfl⟩
  refine Nx_same sub_st ?_
  refine D_done ?_ (by kernel_rfl)
  skip
  have ht : t.length ≤ 32 := by rw [hst.tlen]; unfold tookN; split <;> omega
  have hcp : (zero32.map bv).take 0 ++ t.map bv ++ (zero32.map bv).drop (0 + (t.map bv).length) = (idOf t).map bv := by simp [idOf]
  rw [hcp]
  have hid : ((idOf t).map bv).length = 32 := by simpa using idOf_len ht
  have hod : ∀ j v, ((idOf t).map bv)[j]? = some v → ((idOf t).map bv)[0 + j]? = some v := fun j v h => by simpa using h
  have hfit : 0 + ((idOf t).map bv).length ≤ (zero32.map bv).length := by simp [hid, zero32_len]
  have hst2 : (zero32.map bv).take 0 ++ (idOf t).map bv ++ (zero32.map bv).drop (0 + ((idOf t).map bv).length) = (idOf t).map bv := by
    rw [hid, List.drop_of_length_le (by simp [zero32_len])]
    simp
  repeat' (first | refine R_p rfl ?_ rfl rfl | refine R_nil ?_ | refine R_skip ?_ rfl rfl | refine R_skip0 ?_ rfl | refine R_take (T_slarr rfl rfl rfl rfl) ?_ rfl rfl | refine R_take (T_loada (ds := (idOf t).map bv) rfl rfl rfl hid hod) ?_ rfl rfl | refine R_take (T_load rfl rfl rfl (by first | rfl | assumption)) ?_ rfl rfl | refine R_take (T_sum rfl rfl rfl (by unfold fits; omega)) ?_ rfl rfl | refine R_take (T_notd rfl) ?_ rfl rfl | refine R_take (T_not rfl) ?_ rfl rfl | refine R_take (T_ix1 rfl rfl rfl rfl rfl rfl (by assumption) (by first | assumption | omega)) ?_ rfl rfl | refine R_take (T_ldb rfl rfl rfl (by assumption) (by first | assumption | omega)) ?_ rfl rfl | refine R_take (T_ixs rfl rfl rfl rfl (by first | assumption | omega)) ?_ rfl rfl | refine R_take (T_convf rfl rfl rfl rfl (by unfold fits; omega)) ?_ rfl rfl | refine R_take (T_conv rfl rfl rfl rfl) ?_ rfl rfl | refine S_seq rfl ?_ | refine S_region rfl rfl ?_ | refine S_true rfl rfl ?_ | refine S_false rfl rfl ?_ | refine S_block rfl ?_ | refine RS_blk ?_ | refine S_exit rfl rfl ?_ | refine S_skip rfl ?_ | refine S_label rfl ?_ | refine S_scope rfl ?_ | refine RS_seg ?_ | (refine R_eff (E_alloca rfl id_alloc) ?_ rfl rfl; rintro _ _ ⟨b, rfl, rfl⟩) | (refine R_eff0 (E_store (ds := (idOf t).map bv) rfl rfl rfl rfl hid (bv_one _) rfl hfit) ?_ rfl; rintro _ _ rfl) | (refine R_eff (E_boxa rfl) ?_ rfl rfl; rintro _ _ ⟨b, rfl, rfl⟩) | (refine R_eff (E_box1 rfl rfl) ?_ rfl rfl; rintro _ _ ⟨b, rfl, rfl⟩) | (refine R_eff (E_alloc1 rfl rfl rfl) ?_ rfl rfl; rintro _ _ ⟨b, rfl, rfl⟩) | (refine R_eff (E_alloca rfl rfl) ?_ rfl rfl; rintro _ _ ⟨b, rfl, rfl⟩) | (refine R_eff0 (E_store1 rfl rfl rfl rfl rfl rfl (by first | decide | (simp; done) | (simp; omega) | assumption)) ?_ rfl; rintro _ _ rfl) | (refine R_splitd rfl rfl (fun hs => ?_) (fun hs => ?_)) | (refine R_split rfl rfl (fun hs => ?_) (fun hs => ?_)) | (refine S_if rfl rfl (fun hs => ?_) (fun hs => ?_)) | (refine S_cond rfl rfl (fun hs => ?_) (fun hs => ?_)))
  rw [hst2]
  refine hB _ _ _ _ _ rfl (.cell rfl rfl rfl inferInstance hid .nil) fun w' hS => ⟨(t, l1, why1), rfl, hst, sub_st _ hS⟩
end Go.Proofs.Ytleecfhafnfeoaa
