/- EntryBack. -/
import Derived.Test.YtleecfhafnfeoaaLw12
import Derived.Test.YtleecfhafnfeoaaEnD
namespace Go.Proofs.Ytleecfhafnfeoaa
open Go.RowKit
open Asn (pt row rb)
set_option linter.unusedVariables false
set_option linter.unusedSimpArgs false
section
variable {P : Program} {n : Nat} {w0 : World} {M : Nat → Prop} {T : Slots} {H Hr : List Asn} {dd : Option Tmp} {tt : TypeId} {pos : String} {af : Array Edge} {g : Option (Nat × Bool)}
theorem T_slhz [HasTab P] {x y : Operand} {s e : TypeId} {A : Option Addr} {m c : Nat} {z : Int} {kk : IntKind} {i ei : Ti} (hx : oget T x = some (.slice A m c)) (hy : oget T y = some (.int kk z)) (hs : ty P s = some i) (hi : i.desc = .slice e) (he : ty P e = some ei) (h0 : 0 ≤ z) (hq : z ≤ c) :
    Tk P n w0 M T H ⟨dd, .slice s x none (some y) none, tt, pos, af, g⟩ (.slice A z.toNat c) := by
  have e : z = ((z.toNat : Nat) : Int) := by omega
  rw [e] at hy
  have := T_slh (P := P) (n := n) (w0 := w0) (M := M) (H := H) (dd := dd) (tt := tt) (pos := pos) (af := af) (g := g) hx hy hs hi he (by omega)
  exact this
theorem Src.head {A : Option Addr} {m c q : Nat} {l : List UInt8} (h : Src w0 M H A m c l) (hq : q ≤ m) : Src w0 M H A q c (l.take q) := ⟨fun w hS => (h.bs w hS).head hq⟩
end

theorem DecP.shape {l : List UInt8} {x : Dx} (h : DecP l x) (h0 : x.err = 0) : ¬ short l ∧ l.length = 73 + bOf l + mOf l := by
  rcases h with ⟨_, rfl⟩ | ⟨_, _, rfl⟩ | ⟨h1, h2, _⟩
  · cases h0
  · cases h0
  · exact ⟨h1, h2⟩
section
variable {n : Nat} {w0 : World} {M : Nat → Prop} {T : Slots} {H Hr : List Asn} {dd : Option Tmp} {tt : TypeId} {pos : String} {af : Array Edge} {g : Option (Nat × Bool)} {x y : Operand} {ts : Array TypeId}
variable {k c : Int} {s : Nat} {br : ByteArray} {old new d : List UInt8} {A : Option Addr} {m cp : Nat}
theorem E_encc (hx : oget T x = some (.agg (cmdL k c s br old new A m cp).toArray)) (lo : old.length = 32) (ln : new.length = 32) (hb : br.size ≤ maxLen) (hd : Src w0 M H A m cp d) (hm : m ≤ maxLen) (hs : s < 4294967296) :
    Ef Try.prog n w0 M T H ⟨dd, .call ⟨.value (.func 9), #[x], ts⟩, tt, pos, af, g⟩ (fun u H' => ∃ A' n' c', n' = (encR k c s (bl br) old new d m).length ∧ n' ≤ c' ∧ u = .tuple #[.slice A' n' c', .int .i64 (if rightB k c s (bl br) old new m then 0 else 210)] ∧ H' = row 5 1 A' n' c' ((encR k c s (bl br) old new d m).map bv) :: H) := by
  refine (E_enc hx lo ln hb hd hm hs).mono ?_
  rintro v H' ⟨A', n', c', h1, h2, rfl, rfl⟩ w hS
  exact ⟨_, _, rfl, ⟨A', n', c', h1, ((Src.row (e := 5) (A := A') (n := n') (c := c') (l := encR k c s (bl br) old new d m)).bs w hS).cap, rfl, rfl⟩, hS⟩
end

set_option maxRecDepth 100000 in
set_option maxHeartbeats 4000000 in
theorem back_walk (w : World) (k c : Int) (s : Nat) (br : ByteArray) (old new d : List UInt8) (A : Option Addr) (n cp : Nat) (lo : old.length = 32) (ln : new.length = 32) (hbm : br.size ≤ maxLen) (hsq : s < 4294967296) (hd : Bs w All A n cp d)
    (z : Int) (tl : List UInt8) (At : Option Addr) (nt ct : Nat) (ht : Bs w All At nt ct tl) :
    Gives Try.prog 5 [.agg (cmdL k c s br old new A n cp).toArray, .int .i64 z, .slice At nt ct] [] w (X := Unit) (fun _ => .bool true) (fun _ => True) (fun _ => []) := by
  refine gives_S Try.func5 rfl Try.ntmps5 Try.results5 (by simp) (St.enter w) (fun B hB => ?_)
  have hcl := cmd_len (k := k) (c := c) (s := s) (br := br) (A := A) (n := n) (cp := cp) lo ln
  have h68 := cmd_68 (k := k) (c := c) (s := s) (br := br) (A := A) (n := n) (cp := cp) lo ln
  have hnm : n ≤ maxLen := Nat.le_trans hd.cap hd.capm
  have hD : ∀ H, Src w (owns []) H A n cp d := fun H => Src.old hd fun k _ => noOwns k
  have hT : ∀ H, Src w (owns []) H At nt ct tl := fun H => Src.old ht fun k _ => noOwns k
  have hdl := hd.len
  have htl := ht.len
  repeat' (first | refine R_p rfl ?_ rfl rfl | refine R_nil ?_ | refine R_skip ?_ rfl rfl | refine R_skip0 ?_ rfl | refine R_take (T_loada (ds := cmdL k c s br old new A n cp) rfl rfl rfl hcl (fun j v h => by simpa using h)) ?_ rfl rfl | refine R_take (T_load rfl rfl rfl h68) ?_ rfl rfl | refine R_take (T_load rfl rfl rfl (by first | rfl | assumption)) ?_ rfl rfl | refine R_take (T_sum rfl rfl rfl (by unfold fits; omega)) ?_ rfl rfl | refine R_take (T_notd rfl) ?_ rfl rfl | refine R_take (T_not rfl) ?_ rfl rfl | refine R_take (T_ix1 rfl rfl rfl rfl rfl rfl (by assumption) (by first | assumption | omega)) ?_ rfl rfl | refine R_take (T_ldb rfl rfl rfl (by assumption) (by first | assumption | omega)) ?_ rfl rfl | refine R_take (T_ixs rfl rfl rfl rfl (by first | assumption | omega)) ?_ rfl rfl | refine R_take (T_convf rfl rfl rfl rfl (by unfold fits; omega)) ?_ rfl rfl | refine R_take (T_conv rfl rfl rfl rfl) ?_ rfl rfl | refine S_seq rfl ?_ | refine S_region rfl rfl ?_ | refine S_true rfl rfl ?_ | refine S_false rfl rfl ?_ | refine S_block rfl ?_ | refine RS_blk ?_ | refine S_exit rfl rfl ?_ | refine S_skip rfl ?_ | refine S_label rfl ?_ | refine S_scope rfl ?_ | refine RS_seg ?_ | (refine R_eff E_wakes ?_ rfl rfl; rintro _ _ ⟨rfl, rfl⟩) | (refine R_eff (E_boxa rfl) ?_ rfl rfl; rintro _ _ ⟨b, rfl, rfl⟩) | (refine R_eff (E_box1 rfl rfl) ?_ rfl rfl; rintro _ _ ⟨b, rfl, rfl⟩) | (refine R_eff (E_alloc1 rfl rfl rfl) ?_ rfl rfl; rintro _ _ ⟨b, rfl, rfl⟩) | (refine R_eff (E_alloca rfl rfl) ?_ rfl rfl; rintro _ _ ⟨b, rfl, rfl⟩) | (refine R_eff0 (E_store1 rfl rfl rfl rfl rfl rfl (by first | decide | (simp; done) | (simp; omega) | assumption)) ?_ rfl; rintro _ _ rfl) | (refine R_splitd rfl rfl (fun hs => ?_) (fun hs => ?_)) | (refine R_split rfl rfl (fun hs => ?_) (fun hs => ?_)) | (refine S_if rfl rfl (fun hs => ?_) (fun hs => ?_)) | (refine S_cond rfl rfl (fun hs => ?_) (fun hs => ?_)))
  any_goals (refine hB _ _ _ _ _ rfl rfl fun w' hS => ⟨(), ?_, trivial, hS.sublist (List.nil_sublist _)⟩)
  any_goals (refine congrArg Value.bool ?_; clear hB hD hT)
  any_goals (first | rfl | (simp [*]; done))
  refine R_eff (E_encc rfl lo ln hbm (hD _) hnm hsq) ?_ rfl rfl
  rintro _ _ ⟨A1, n1, c1, hn1, hcap, rfl, rfl⟩
  cases hR : rightB k c s (bl br) old new n
  · simp only [encR, hR, Bool.false_eq_true, if_false, List.length_nil] at hn1 ⊢
    subst hn1
    repeat' (first | refine R_p rfl ?_ rfl rfl | refine R_nil ?_ | refine R_skip ?_ rfl rfl | refine R_skip0 ?_ rfl | refine R_take (T_loada (ds := cmdL k c s br old new A n cp) rfl rfl rfl hcl (fun j v h => by simpa using h)) ?_ rfl rfl | refine R_take (T_load rfl rfl rfl h68) ?_ rfl rfl | refine R_take (T_load rfl rfl rfl (by first | rfl | assumption)) ?_ rfl rfl | refine R_take (T_sum rfl rfl rfl (by unfold fits; omega)) ?_ rfl rfl | refine R_take (T_notd rfl) ?_ rfl rfl | refine R_take (T_not rfl) ?_ rfl rfl | refine R_take (T_ix1 rfl rfl rfl rfl rfl rfl (by assumption) (by first | assumption | omega)) ?_ rfl rfl | refine R_take (T_ldb rfl rfl rfl (by assumption) (by first | assumption | omega)) ?_ rfl rfl | refine R_take (T_ixs rfl rfl rfl rfl (by first | assumption | omega)) ?_ rfl rfl | refine R_take (T_convf rfl rfl rfl rfl (by unfold fits; omega)) ?_ rfl rfl | refine R_take (T_conv rfl rfl rfl rfl) ?_ rfl rfl | refine S_seq rfl ?_ | refine S_region rfl rfl ?_ | refine S_true rfl rfl ?_ | refine S_false rfl rfl ?_ | refine S_block rfl ?_ | refine RS_blk ?_ | refine S_exit rfl rfl ?_ | refine S_skip rfl ?_ | refine S_label rfl ?_ | refine S_scope rfl ?_ | refine RS_seg ?_ | (refine R_eff E_wakes ?_ rfl rfl; rintro _ _ ⟨rfl, rfl⟩) | (refine R_eff (E_boxa rfl) ?_ rfl rfl; rintro _ _ ⟨b, rfl, rfl⟩) | (refine R_eff (E_box1 rfl rfl) ?_ rfl rfl; rintro _ _ ⟨b, rfl, rfl⟩) | (refine R_eff (E_alloc1 rfl rfl rfl) ?_ rfl rfl; rintro _ _ ⟨b, rfl, rfl⟩) | (refine R_eff (E_alloca rfl rfl) ?_ rfl rfl; rintro _ _ ⟨b, rfl, rfl⟩) | (refine R_eff0 (E_store1 rfl rfl rfl rfl rfl rfl (by first | decide | (simp; done) | (simp; omega) | assumption)) ?_ rfl; rintro _ _ rfl) | (refine R_splitd rfl rfl (fun hs => ?_) (fun hs => ?_)) | (refine R_split rfl rfl (fun hs => ?_) (fun hs => ?_)) | (refine S_if rfl rfl (fun hs => ?_) (fun hs => ?_)) | (refine S_cond rfl rfl (fun hs => ?_) (fun hs => ?_)))
    all_goals (refine hB _ _ _ _ _ rfl rfl fun w' hS => ⟨(), ?_, trivial, hS.sublist (List.nil_sublist _)⟩)
    all_goals (refine congrArg Value.bool ?_; clear hB hD hT)
    all_goals (first | rfl | (simp [*]; done) | (exfalso; simp_all; done) | skip)
  · simp only [encR, hR, if_true] at hn1 ⊢
    have hq := right_small hR
    have hle := encB_len k c s (bl br) old new d lo ln
    have hpos : 0 < n1 := by omega
    have hsm : n1 ≤ 1000 := by omega
    obtain ⟨l, hl⟩ : ∃ l, l = encB k c s (bl br) old new d := ⟨_, rfl⟩
    rw [← hl] at hn1 hle ⊢
    repeat' (first | refine R_p rfl ?_ rfl rfl | refine R_nil ?_ | refine R_skip ?_ rfl rfl | refine R_skip0 ?_ rfl | refine R_take (T_loada (ds := cmdL k c s br old new A n cp) rfl rfl rfl hcl (fun j v h => by simpa using h)) ?_ rfl rfl | refine R_take (T_load rfl rfl rfl h68) ?_ rfl rfl | refine R_take (T_load rfl rfl rfl (by first | rfl | assumption)) ?_ rfl rfl | refine R_take (T_sum rfl rfl rfl (by unfold fits; omega)) ?_ rfl rfl | refine R_take (T_notd rfl) ?_ rfl rfl | refine R_take (T_not rfl) ?_ rfl rfl | refine R_take (T_ix1 rfl rfl rfl rfl rfl rfl (by assumption) (by first | assumption | omega)) ?_ rfl rfl | refine R_take (T_ldb rfl rfl rfl (by assumption) (by first | assumption | omega)) ?_ rfl rfl | refine R_take (T_ixs rfl rfl rfl rfl (by first | assumption | omega)) ?_ rfl rfl | refine R_take (T_convf rfl rfl rfl rfl (by unfold fits; omega)) ?_ rfl rfl | refine R_take (T_conv rfl rfl rfl rfl) ?_ rfl rfl | refine S_seq rfl ?_ | refine S_region rfl rfl ?_ | refine S_true rfl rfl ?_ | refine S_false rfl rfl ?_ | refine S_block rfl ?_ | refine RS_blk ?_ | refine S_exit rfl rfl ?_ | refine S_skip rfl ?_ | refine S_label rfl ?_ | refine S_scope rfl ?_ | refine RS_seg ?_ | (refine R_eff E_wakes ?_ rfl rfl; rintro _ _ ⟨rfl, rfl⟩) | (refine R_eff (E_boxa rfl) ?_ rfl rfl; rintro _ _ ⟨b, rfl, rfl⟩) | (refine R_eff (E_box1 rfl rfl) ?_ rfl rfl; rintro _ _ ⟨b, rfl, rfl⟩) | (refine R_eff (E_alloc1 rfl rfl rfl) ?_ rfl rfl; rintro _ _ ⟨b, rfl, rfl⟩) | (refine R_eff (E_alloca rfl rfl) ?_ rfl rfl; rintro _ _ ⟨b, rfl, rfl⟩) | (refine R_eff0 (E_store1 rfl rfl rfl rfl rfl rfl (by first | decide | (simp; done) | (simp; omega) | assumption)) ?_ rfl; rintro _ _ rfl) | (refine R_splitd rfl rfl (fun hs => ?_) (fun hs => ?_)) | (refine R_split rfl rfl (fun hs => ?_) (fun hs => ?_)) | (refine S_if rfl rfl (fun hs => ?_) (fun hs => ?_)) | (refine S_cond rfl rfl (fun hs => ?_) (fun hs => ?_)))
    refine R_eff (E_dec (l := l) rfl Src.row (by omega)) ?_ rfl rfl
    rintro _ _ ⟨x, hx, rfl, rfl⟩
    obtain ⟨g1, g2, g3, g4, g5, g6⟩ := hx.ok
    have hE := (enc_dec (tail := []) rfl hsq lo ln (by rw [← hdl]; exact hR) (by rw [List.append_nil, ← hl]; exact hx)).1 rfl
    obtain ⟨q1, q2⟩ := hE
    have hclx := cmd_len (k := x.v.k) (c := x.v.c) (s := x.v.s) (br := x.v.br) (A := x.A) (n := x.n) (cp := x.cp) g1 g2
    have hclx2 : cmd0.length = (cmdL x.v.k x.v.c x.v.s x.v.br x.v.old x.v.new x.A x.n x.cp).length := hclx.symm
    have hm1 : x.v.br.size ≤ maxLen := by unfold maxLen; omega
    have hm3 : x.n ≤ maxLen := by unfold maxLen; omega
    have hsame : sameB x.v.k x.v.c x.v.s (bl x.v.br) x.v.old x.v.new x.v.d k c s (bl br) old new d = true := by rw [q2]; exact sameB_refl _ _ _ _ _ _ _
    unfold Dx.V
    rw [q1]
    have hz0 : 0 ≤ (if z < 0 then (0 : Int) else z) % (n1 : Int) := Int.emod_nonneg _ (by omega)
    have hz1 : (if z < 0 then (0 : Int) else z) % (n1 : Int) < n1 := Int.emod_lt_of_pos _ (by omega)
    repeat' (first | refine R_p rfl ?_ rfl rfl | refine R_nil ?_ | refine R_skip ?_ rfl rfl | refine R_skip0 ?_ rfl | refine R_take (T_max rfl rfl) ?_ rfl rfl | refine R_take (T_mod rfl rfl (by split <;> omega) (by omega)) ?_ rfl rfl | refine R_take (T_slhz rfl rfl rfl rfl rfl hz0 (by omega)) ?_ rfl rfl | refine R_take (T_load rfl rfl rfl (by first | rfl | assumption)) ?_ rfl rfl | refine R_take (T_sum rfl rfl rfl (by unfold fits; omega)) ?_ rfl rfl | refine R_take (T_notd rfl) ?_ rfl rfl | refine R_take (T_not rfl) ?_ rfl rfl | refine R_take (T_ix1 rfl rfl rfl rfl rfl rfl (by assumption) (by first | assumption | omega)) ?_ rfl rfl | refine R_take (T_ldb rfl rfl rfl (by assumption) (by first | assumption | omega)) ?_ rfl rfl | refine R_take (T_ixs rfl rfl rfl rfl (by first | assumption | omega)) ?_ rfl rfl | refine R_take (T_convf rfl rfl rfl rfl (by unfold fits; omega)) ?_ rfl rfl | refine R_take (T_conv rfl rfl rfl rfl) ?_ rfl rfl | refine S_seq rfl ?_ | refine S_region rfl rfl ?_ | refine S_true rfl rfl ?_ | refine S_false rfl rfl ?_ | refine S_block rfl ?_ | refine RS_blk ?_ | refine S_exit rfl rfl ?_ | refine S_skip rfl ?_ | refine S_label rfl ?_ | refine S_scope rfl ?_ | refine RS_seg ?_ | (refine R_eff (E_alloca rfl cmd0_alloc) ?_ rfl rfl; rintro _ _ ⟨bd, rfl, rfl⟩) | (refine R_eff0 (E_storew (cs := cmd0) rfl rfl rfl hclx cmd_one hclx2) ?_ rfl; rintro _ _ rfl) | (refine R_eff (E_boxa rfl) ?_ rfl rfl; rintro _ _ ⟨b, rfl, rfl⟩) | (refine R_eff (E_box1 rfl rfl) ?_ rfl rfl; rintro _ _ ⟨b, rfl, rfl⟩) | (refine R_eff (E_alloc1 rfl rfl rfl) ?_ rfl rfl; rintro _ _ ⟨b, rfl, rfl⟩) | (refine R_eff (E_alloca rfl rfl) ?_ rfl rfl; rintro _ _ ⟨b, rfl, rfl⟩) | (refine R_eff0 (E_store1 rfl rfl rfl rfl rfl rfl (by first | decide | (simp; done) | (simp; omega) | assumption)) ?_ rfl; rintro _ _ rfl) | (refine R_splitd rfl rfl (fun hs => ?_) (fun hs => ?_)) | (refine R_split rfl rfl (fun hs => ?_) (fun hs => ?_)) | (refine S_if rfl rfl (fun hs => ?_) (fun hs => ?_)) | (refine S_cond rfl rfl (fun hs => ?_) (fun hs => ?_)))
    refine R_eff (E_dec (l := l.take ((if z < 0 then (0 : Int) else z) % (n1 : Int)).toNat) rfl (Src.head (Src.row (l := l) (e := 5) (A := A1) (n := n1) (c := c1)) (by omega)) (by omega)) ?_ rfl rfl
    rintro _ _ ⟨y, hy, rfl, rfl⟩
    obtain ⟨p1, p2⟩ := hx.shape q1
    have hy7 := cut_short p1 p2 (by omega) hy
    obtain ⟨j1, j2, j3, j4, j5, j6⟩ := hy.ok
    have hcly := cmd_len (k := y.v.k) (c := y.v.c) (s := y.v.s) (br := y.v.br) (A := y.A) (n := y.n) (cp := y.cp) j1 j2
    have hcly2 : cmd0.length = (cmdL y.v.k y.v.c y.v.s y.v.br y.v.old y.v.new y.A y.n y.cp).length := hcly.symm
    unfold Dx.V
    rw [hy7]
    repeat' (first | refine R_p rfl ?_ rfl rfl | refine R_nil ?_ | refine R_skip ?_ rfl rfl | refine R_skip0 ?_ rfl | refine R_take (T_loada (ds := cmdL x.v.k x.v.c x.v.s x.v.br x.v.old x.v.new x.A x.n x.cp) rfl rfl rfl hclx (fun j v h => by simpa using h)) ?_ rfl rfl | refine R_take (T_loada (ds := cmdL k c s br old new A n cp) rfl rfl rfl hcl (fun j v h => by simpa using h)) ?_ rfl rfl | refine R_take (T_load rfl rfl rfl (by first | rfl | assumption)) ?_ rfl rfl | refine R_take (T_sum rfl rfl rfl (by unfold fits; omega)) ?_ rfl rfl | refine R_take (T_notd rfl) ?_ rfl rfl | refine R_take (T_not rfl) ?_ rfl rfl | refine R_take (T_ix1 rfl rfl rfl rfl rfl rfl (by assumption) (by first | assumption | omega)) ?_ rfl rfl | refine R_take (T_ldb rfl rfl rfl (by assumption) (by first | assumption | omega)) ?_ rfl rfl | refine R_take (T_ixs rfl rfl rfl rfl (by first | assumption | omega)) ?_ rfl rfl | refine R_take (T_convf rfl rfl rfl rfl (by unfold fits; omega)) ?_ rfl rfl | refine R_take (T_conv rfl rfl rfl rfl) ?_ rfl rfl | refine S_seq rfl ?_ | refine S_region rfl rfl ?_ | refine S_true rfl rfl ?_ | refine S_false rfl rfl ?_ | refine S_block rfl ?_ | refine RS_blk ?_ | refine S_exit rfl rfl ?_ | refine S_skip rfl ?_ | refine S_label rfl ?_ | refine S_scope rfl ?_ | refine RS_seg ?_ | (refine R_eff (E_alloca rfl cmd0_alloc) ?_ rfl rfl; rintro _ _ ⟨be, rfl, rfl⟩) | (refine R_eff0 (E_storew (cs := cmd0) rfl rfl rfl hcly cmd_one hcly2) ?_ rfl; rintro _ _ rfl) | (refine R_eff (E_esame rfl g1 g2 hm1 Src.row hm3 rfl lo ln hbm (hD _) hnm) ?_ rfl rfl; rintro _ _ ⟨rfl, rfl⟩; rw [hsame]) | (refine R_eff (E_lit1 (vs := []) rfl rfl rfl rfl rfl rfl rfl (by simp) (by decide)) ?_ rfl rfl; rintro _ _ ⟨bl1, rfl, rfl⟩) | (refine R_eff (E_appl (news := l.map bv) rfl rfl rfl rfl rfl rfl (by decide) .here (Src.row (l := l) (e := 5) (A := A1) (n := n1) (c := c1)).rd (bv_one _) (by show n1 * 1 ≤ 140737488355328; omega) (by unfold maxLen; omega)) ?_ rfl rfl; rintro _ _ ⟨A3, c3, rfl, rfl⟩) | (refine R_eff (E_app (news := tl.map bv) rfl rfl rfl rfl rfl rfl (by decide) (hT _).rd (bv_one _) (by show (n1 + nt) * 1 ≤ 140737488355328; omega) (by unfold maxLen; omega)) ?_ rfl rfl; rintro _ _ ⟨A4, c4, rfl, rfl⟩; rw [← List.map_append]) | (refine R_eff (E_boxa rfl) ?_ rfl rfl; rintro _ _ ⟨b, rfl, rfl⟩) | (refine R_eff (E_box1 rfl rfl) ?_ rfl rfl; rintro _ _ ⟨b, rfl, rfl⟩) | (refine R_eff (E_alloc1 rfl rfl rfl) ?_ rfl rfl; rintro _ _ ⟨b, rfl, rfl⟩) | (refine R_eff (E_alloca rfl rfl) ?_ rfl rfl; rintro _ _ ⟨b, rfl, rfl⟩) | (refine R_eff0 (E_store1 rfl rfl rfl rfl rfl rfl (by first | decide | (simp; done) | (simp; omega) | assumption)) ?_ rfl; rintro _ _ rfl) | (refine R_splitd rfl rfl (fun hs => ?_) (fun hs => ?_)) | (refine R_split rfl rfl (fun hs => ?_) (fun hs => ?_)) | (refine S_if rfl rfl (fun hs => ?_) (fun hs => ?_)) | (refine S_cond rfl rfl (fun hs => ?_) (fun hs => ?_)))
    refine R_eff (E_dec (l := l ++ tl) rfl Src.row (by omega)) ?_ rfl rfl
    rintro _ _ ⟨u, hu, rfl, rfl⟩
    have hU := (enc_dec rfl hsq lo ln (by rw [← hdl]; exact hR) (by rw [← hl]; exact hu)).2
    unfold Dx.V
    repeat' (first | refine R_p rfl ?_ rfl rfl | refine R_nil ?_ | refine R_skip ?_ rfl rfl | refine R_skip0 ?_ rfl | refine R_take (T_loada (ds := cmdL x.v.k x.v.c x.v.s x.v.br x.v.old x.v.new x.A x.n x.cp) rfl rfl rfl hclx (fun j v h => by simpa using h)) ?_ rfl rfl | refine R_take (T_loada (ds := cmdL k c s br old new A n cp) rfl rfl rfl hcl (fun j v h => by simpa using h)) ?_ rfl rfl | refine R_take (T_load rfl rfl rfl (by first | rfl | assumption)) ?_ rfl rfl | refine R_take (T_sum rfl rfl rfl (by unfold fits; omega)) ?_ rfl rfl | refine R_take (T_notd rfl) ?_ rfl rfl | refine R_take (T_not rfl) ?_ rfl rfl | refine R_take (T_ix1 rfl rfl rfl rfl rfl rfl (by assumption) (by first | assumption | omega)) ?_ rfl rfl | refine R_take (T_ldb rfl rfl rfl (by assumption) (by first | assumption | omega)) ?_ rfl rfl | refine R_take (T_ixs rfl rfl rfl rfl (by first | assumption | omega)) ?_ rfl rfl | refine R_take (T_convf rfl rfl rfl rfl (by unfold fits; omega)) ?_ rfl rfl | refine R_take (T_conv rfl rfl rfl rfl) ?_ rfl rfl | refine S_seq rfl ?_ | refine S_region rfl rfl ?_ | refine S_true rfl rfl ?_ | refine S_false rfl rfl ?_ | refine S_block rfl ?_ | refine RS_blk ?_ | refine S_exit rfl rfl ?_ | refine S_skip rfl ?_ | refine S_label rfl ?_ | refine S_scope rfl ?_ | refine RS_seg ?_ | (refine R_eff (E_alloca rfl cmd0_alloc) ?_ rfl rfl; rintro _ _ ⟨be, rfl, rfl⟩) | (refine R_eff0 (E_storew (cs := cmd0) rfl rfl rfl hcly cmd_one hcly2) ?_ rfl; rintro _ _ rfl) | (refine R_eff (E_esame rfl g1 g2 hm1 Src.row hm3 rfl lo ln hbm (hD _) hnm) ?_ rfl rfl; rintro _ _ ⟨rfl, rfl⟩; rw [hsame]) | (refine R_eff (E_lit1 (vs := []) rfl rfl rfl rfl rfl rfl rfl (by simp) (by decide)) ?_ rfl rfl; rintro _ _ ⟨bl1, rfl, rfl⟩) | (refine R_eff (E_appl (news := l.map bv) rfl rfl rfl rfl rfl rfl (by decide) .here (Src.row (l := l) (e := 5) (A := A1) (n := n1) (c := c1)).rd (bv_one _) (by show n1 * 1 ≤ 140737488355328; omega) (by unfold maxLen; omega)) ?_ rfl rfl; rintro _ _ ⟨A3, c3, rfl, rfl⟩) | (refine R_eff (E_app (news := tl.map bv) rfl rfl rfl rfl rfl rfl (by decide) (hT _).rd (bv_one _) (by show (n1 + nt) * 1 ≤ 140737488355328; omega) (by unfold maxLen; omega)) ?_ rfl rfl; rintro _ _ ⟨A4, c4, rfl, rfl⟩; rw [← List.map_append]) | (refine R_eff (E_boxa rfl) ?_ rfl rfl; rintro _ _ ⟨b, rfl, rfl⟩) | (refine R_eff (E_box1 rfl rfl) ?_ rfl rfl; rintro _ _ ⟨b, rfl, rfl⟩) | (refine R_eff (E_alloc1 rfl rfl rfl) ?_ rfl rfl; rintro _ _ ⟨b, rfl, rfl⟩) | (refine R_eff (E_alloca rfl rfl) ?_ rfl rfl; rintro _ _ ⟨b, rfl, rfl⟩) | (refine R_eff0 (E_store1 rfl rfl rfl rfl rfl rfl (by first | decide | (simp; done) | (simp; omega) | assumption)) ?_ rfl; rintro _ _ rfl) | (refine R_splitd rfl rfl (fun hs => ?_) (fun hs => ?_)) | (refine R_split rfl rfl (fun hs => ?_) (fun hs => ?_)) | (refine S_if rfl rfl (fun hs => ?_) (fun hs => ?_)) | (refine S_cond rfl rfl (fun hs => ?_) (fun hs => ?_)))
    all_goals (refine hB _ _ _ _ _ rfl rfl fun w' hS => ⟨(), ?_, trivial, hS.sublist (List.nil_sublist _)⟩)
    all_goals (refine congrArg Value.bool ?_; clear hB hD hT)
    all_goals (first | rfl | (simp [*]; done) | skip)
    all_goals
      rw [decide_eq_true_eq]
      refine hU fun e => ?_
      rw [e] at htl
      simp at htl
      omega
theorem EntryBack_open {H : Type} {enc : TypeId × Value → H} (W : World) {r : Reach} (base : Nat) (v0 v1 v2 : Value) {d0 d1 d2 : DataW H} {p0 p1 p2 : List MemPlace}
    (hv0 : Value.okWide Try.prog W r base 27 v0) (hv1 : Value.okWide Try.prog W r base 3 v1) (hv2 : Value.okWide Try.prog W r base 25 v2)
    (h0 : DataW.Trod enc Try.prog W 0 (fun _ => true) true 27 v0 d0 p0) (h1 : DataW.Trod enc Try.prog W 0 (fun _ => true) true 3 v1 d1 p1) (h2 : DataW.Trod enc Try.prog W 0 (fun _ => true) true 25 v2 d2 p2) :
    Calls Try.prog 5 #[v0, v1, v2] W fun e w' => e = .returned (.bool true) ∧ Kp All W w' := by
  obtain ⟨k, c, s, br, old, new, A, n, cp, l, rfl, lo, ln, hb, hs, hd⟩ := open_cmd hv0 h0
  obtain ⟨z, rfl⟩ := Go.WideShapes.okWide_int Try.underlying3 hv1
  obtain ⟨A2, n2, c2, l2, rfl, hb2⟩ := open_bytes hv2 h2
  exact (back_walk W k c s br old new l A n cp lo ln hb hs hd z l2 A2 n2 c2 hb2).pure
end Go.Proofs.Ytleecfhafnfeoaa
