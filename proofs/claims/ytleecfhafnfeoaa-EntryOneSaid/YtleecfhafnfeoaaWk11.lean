/- The layer does something. -/
import Derived.Test.YtleecfhafnfeoaaLwC
namespace Go.Proofs.Ytleecfhafnfeoaa
open Go.RowKit
open Asn (pt row rb)
set_option linter.unusedVariables false
set_option linter.unusedSimpArgs false

/-- the bytes of one command -/
def wkL : List UInt8 := encR 1 1 2 [109] zero32 zero32 [] 0
theorem wk_right : rightB 1 1 2 [109] zero32 zero32 0 = true := by kernel_rfl
theorem wk_len : wkL.length = 74 := by kernel_rfl
theorem wk_dec {x : Dx} (h : DecP wkL x) : x.err = 0 ∧ x.v = decV wkL := by
  have h1 := wk_len
  have hb : bOf wkL = 1 := by kernel_rfl
  have hm : mOf wkL = 0 := by kernel_rfl
  have hr : rightV (decV wkL) = true := by kernel_rfl
  rcases h with ⟨h, _⟩ | ⟨_, h, _⟩ | ⟨_, _, _, h4, h5, _⟩
  · unfold short at h
    omega
  · rcases h with h | h
    · omega
    · rw [hr] at h; cases h
  · exact ⟨h4, h5⟩
theorem wk_v : (decV wkL).s = 2 := by kernel_rfl
theorem wk_7 : wkL.getD 7 0 = 109 := by kernel_rfl

set_option maxRecDepth 100000 in
set_option maxHeartbeats 4000000 in
theorem wakes11 (w : World) : Gives Try.prog 7 [] [] w (X := Unit) (fun _ => .bool true) (fun _ => True) (fun _ => []) := by
  refine gives_S Try.func7 rfl Try.ntmps7 Try.results7 (by simp) (St.enter w) (fun B hB => ?_)
  repeat' (first | refine R_p rfl ?_ rfl rfl | refine R_nil ?_ | refine R_skip ?_ rfl rfl | refine R_skip0 ?_ rfl | refine R_take (T_build4 (k := 1) (c := 1) (s := 2) (br := ⟨#[109]⟩) rfl rfl rfl rfl) ?_ rfl rfl | refine R_take (T_load rfl rfl rfl (by first | rfl | assumption)) ?_ rfl rfl | refine R_take (T_sum rfl rfl rfl (by unfold fits; omega)) ?_ rfl rfl | refine R_take (T_notd rfl) ?_ rfl rfl | refine R_take (T_not rfl) ?_ rfl rfl | refine R_take (T_ix1 rfl rfl rfl rfl rfl rfl (by assumption) (by first | assumption | omega)) ?_ rfl rfl | refine R_take (T_ldb rfl rfl rfl (by assumption) (by first | assumption | omega)) ?_ rfl rfl | refine R_take (T_ixs rfl rfl rfl rfl (by first | assumption | omega)) ?_ rfl rfl | refine R_take (T_convf rfl rfl rfl rfl (by unfold fits; omega)) ?_ rfl rfl | refine R_take (T_conv rfl rfl rfl rfl) ?_ rfl rfl | refine S_seq rfl ?_ | refine S_region rfl rfl ?_ | refine S_true rfl rfl ?_ | refine S_false rfl rfl ?_ | refine S_block rfl ?_ | refine RS_blk ?_ | refine S_exit rfl rfl ?_ | refine S_skip rfl ?_ | refine S_label rfl ?_ | refine S_scope rfl ?_ | refine RS_seg ?_ | (refine R_eff (E_boxa rfl) ?_ rfl rfl; rintro _ _ ⟨b, rfl, rfl⟩) | (refine R_eff (E_box1 rfl rfl) ?_ rfl rfl; rintro _ _ ⟨b, rfl, rfl⟩) | (refine R_eff (E_alloc1 rfl rfl rfl) ?_ rfl rfl; rintro _ _ ⟨b, rfl, rfl⟩) | (refine R_eff (E_alloca rfl rfl) ?_ rfl rfl; rintro _ _ ⟨b, rfl, rfl⟩) | (refine R_eff0 (E_store1 rfl rfl rfl rfl rfl rfl (by first | decide | (simp; done) | (simp; omega) | assumption)) ?_ rfl; rintro _ _ rfl) | (refine R_splitd rfl rfl (fun hs => ?_) (fun hs => ?_)) | (refine R_split rfl rfl (fun hs => ?_) (fun hs => ?_)) | (refine S_if rfl rfl (fun hs => ?_) (fun hs => ?_)) | (refine S_cond rfl rfl (fun hs => ?_) (fun hs => ?_)))
  refine R_eff (E_enc (s := 2) rfl rfl rfl (by decide) Src.nil (by decide) (by decide)) ?_ rfl rfl
  rintro _ _ ⟨A', n', c', hn, hA', rfl, rfl⟩
  have hR : rightB 1 1 2 (bl ⟨#[109]⟩) zero32 zero32 0 = true := wk_right
  simp only [hR, if_true]
  have hn2 : n' = 74 := hn.trans wk_len
  clear hn
  subst hn2
  have hA := hA' (by decide)
  rw [show encR 1 1 2 (bl ⟨#[109]⟩) zero32 zero32 [] 0 = wkL from rfl]
  have h7 : ∀ {T : Slots} {H : List Asn} {dd : Option Tmp} {tt : TypeId} {pos : String} {af : Array Edge} {g : Option (Nat × Bool)} {x : Operand}, oget T x = some (.pointer (pa A' 7)) → Src w (owns []) H A' 74 c' wkL → Tk Try.prog 37 w (owns []) T H ⟨dd, .load 5 x, tt, pos, af, g⟩ (.int .u8 109) := fun {T H dd tt pos af g x} hx hs => by
    have h := T_ldb (P := Try.prog) (n := 37) (w0 := w) (M := owns []) (H := H) (dd := dd) (tt := tt) (pos := pos) (af := af) (g := g) hx (s := 5) rfl rfl hs (by decide)
    rwa [wk_7] at h
  repeat' (first | refine R_p rfl ?_ rfl rfl | refine R_nil ?_ | refine R_skip ?_ rfl rfl | refine R_skip0 ?_ rfl | refine R_take (T_build4 (k := 1) (c := 1) (s := 2) (br := ⟨#[109]⟩) rfl rfl rfl rfl) ?_ rfl rfl | refine R_take (T_load rfl rfl rfl (by first | rfl | assumption)) ?_ rfl rfl | refine R_take (T_sum rfl rfl rfl (by unfold fits; omega)) ?_ rfl rfl | refine R_take (T_notd rfl) ?_ rfl rfl | refine R_take (T_not rfl) ?_ rfl rfl | refine R_take (T_ix1 rfl rfl rfl rfl rfl rfl (by assumption) (by first | assumption | omega)) ?_ rfl rfl | refine R_take (T_ldb rfl rfl rfl (by assumption) (by first | assumption | omega)) ?_ rfl rfl | refine R_take (T_ixs rfl rfl rfl rfl (by first | assumption | omega)) ?_ rfl rfl | refine R_take (T_convf rfl rfl rfl rfl (by unfold fits; omega)) ?_ rfl rfl | refine R_take (T_conv rfl rfl rfl rfl) ?_ rfl rfl | refine S_seq rfl ?_ | refine S_region rfl rfl ?_ | refine S_true rfl rfl ?_ | refine S_false rfl rfl ?_ | refine S_block rfl ?_ | refine RS_blk ?_ | refine S_exit rfl rfl ?_ | refine S_skip rfl ?_ | refine S_label rfl ?_ | refine S_scope rfl ?_ | refine RS_seg ?_ | (refine R_eff (E_boxa rfl) ?_ rfl rfl; rintro _ _ ⟨b, rfl, rfl⟩) | (refine R_eff (E_box1 rfl rfl) ?_ rfl rfl; rintro _ _ ⟨b, rfl, rfl⟩) | (refine R_eff (E_alloc1 rfl rfl rfl) ?_ rfl rfl; rintro _ _ ⟨b, rfl, rfl⟩) | (refine R_eff (E_alloca rfl rfl) ?_ rfl rfl; rintro _ _ ⟨b, rfl, rfl⟩) | (refine R_eff0 (E_store1 rfl rfl rfl rfl rfl rfl (by first | decide | (simp; done) | (simp; omega) | assumption)) ?_ rfl; rintro _ _ rfl) | (refine R_splitd rfl rfl (fun hs => ?_) (fun hs => ?_)) | (refine R_split rfl rfl (fun hs => ?_) (fun hs => ?_)) | (refine S_if rfl rfl (fun hs => ?_) (fun hs => ?_)) | (refine S_cond rfl rfl (fun hs => ?_) (fun hs => ?_)))
  refine R_eff (E_dec (l := wkL) rfl Src.row (by decide)) ?_ rfl rfl
  rintro _ _ ⟨x, hx, rfl, rfl⟩
  obtain ⟨g1, g2, g3, g4, g5, g6⟩ := hx.ok
  obtain ⟨q1, q2⟩ := wk_dec hx
  have hcl := cmd_len (k := x.v.k) (c := x.v.c) (s := x.v.s) (br := x.v.br) (A := x.A) (n := x.n) (cp := x.cp) g1 g2
  have hcl2 : cmd0.length = (cmdL x.v.k x.v.c x.v.s x.v.br x.v.old x.v.new x.A x.n x.cp).length := hcl.symm
  have hs2 : (cmdL x.v.k x.v.c x.v.s x.v.br x.v.old x.v.new x.A x.n x.cp)[2]? = some (.int .u32 2) := by
    rw [show x.v.s = 2 by rw [q2]; exact wk_v]
    rfl
  unfold Dx.V
  rw [q1]
  iterate 33 (all_goals (try (first | refine R_p rfl ?_ rfl rfl | refine R_nil ?_ | refine R_skip ?_ rfl rfl | refine R_skip0 ?_ rfl | refine R_take (h7 rfl Src.row) ?_ rfl rfl | refine R_take (T_load rfl rfl rfl hs2) ?_ rfl rfl | refine R_take (T_ix1 (q := 7) rfl rfl rfl rfl rfl rfl hA (by decide)) ?_ rfl rfl | refine R_take (T_load rfl rfl rfl (by first | rfl | assumption)) ?_ rfl rfl | refine R_take (T_sum rfl rfl rfl (by unfold fits; omega)) ?_ rfl rfl | refine R_take (T_notd rfl) ?_ rfl rfl | refine R_take (T_not rfl) ?_ rfl rfl | refine R_take (T_ix1 rfl rfl rfl rfl rfl rfl (by assumption) (by first | assumption | omega)) ?_ rfl rfl | refine R_take (T_ldb rfl rfl rfl (by assumption) (by first | assumption | omega)) ?_ rfl rfl | refine R_take (T_ixs rfl rfl rfl rfl (by first | assumption | omega)) ?_ rfl rfl | refine R_take (T_convf rfl rfl rfl rfl (by unfold fits; omega)) ?_ rfl rfl | refine R_take (T_conv rfl rfl rfl rfl) ?_ rfl rfl | refine S_seq rfl ?_ | refine S_region rfl rfl ?_ | refine S_true rfl rfl ?_ | refine S_false rfl rfl ?_ | refine S_block rfl ?_ | refine RS_blk ?_ | refine S_exit rfl rfl ?_ | refine S_skip rfl ?_ | refine S_label rfl ?_ | refine S_scope rfl ?_ | refine RS_seg ?_ | (refine R_eff (E_alloca rfl cmd0_alloc) ?_ rfl rfl; rintro _ _ ⟨bc, rfl, rfl⟩) | (refine R_eff0 (E_storew (cs := cmd0) rfl rfl rfl hcl cmd_one hcl2) ?_ rfl; rintro _ _ rfl) | (refine R_eff (E_boxa rfl) ?_ rfl rfl; rintro _ _ ⟨b, rfl, rfl⟩) | (refine R_eff (E_box1 rfl rfl) ?_ rfl rfl; rintro _ _ ⟨b, rfl, rfl⟩) | (refine R_eff (E_alloc1 rfl rfl rfl) ?_ rfl rfl; rintro _ _ ⟨b, rfl, rfl⟩) | (refine R_eff (E_alloca rfl rfl) ?_ rfl rfl; rintro _ _ ⟨b, rfl, rfl⟩) | (refine R_eff0 (E_store1 rfl rfl rfl rfl rfl rfl (by first | decide | (simp; done) | (simp; omega) | assumption)) ?_ rfl; rintro _ _ rfl) | (refine R_splitd rfl rfl (fun hs => ?_) (fun hs => ?_)) | (refine R_split rfl rfl (fun hs => ?_) (fun hs => ?_)) | (refine S_if rfl rfl (fun hs => ?_) (fun hs => ?_)) | (refine S_cond rfl rfl (fun hs => ?_) (fun hs => ?_)))))
  exact hB _ _ _ _ _ rfl rfl fun w' hS => ⟨(), rfl, trivial, hS.sublist (List.nil_sublist _)⟩
end Go.Proofs.Ytleecfhafnfeoaa
