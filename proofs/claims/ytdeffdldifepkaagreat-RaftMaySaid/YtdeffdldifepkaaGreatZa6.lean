/- Lemmas of the proof, part 6. -/
import Derived.Test.YtdeffdldifepkaaGreatZa5
namespace Go.Proofs.YtdeffdldifepkaaGreat
open Go.RowKit
open Asn (pt row rb)
set_option linter.unusedVariables false
set_option linter.unusedSimpArgs false
--@use N

set_option maxRecDepth 100000 in
set_option maxHeartbeats 4000000 in
theorem copied15_own (w : World) (s : Rs) (p : Rp) (h : RfR w s p) :
    Gives Tryz.prog 19 [.agg (rfc s p).toArray] [] w (X := Rp) (fun q => .agg (rfc s q).toArray) (fun q => RpOk s q ∧ q.n = p.n ∧ q.cn = p.cn ∧ q.vn = p.vn ∧ q.pn = p.pn) (fun q => rfO s q) := by
  refine gives_C Tryz.func19 rfl Tryz.ntmps19 Tryz.results19 (by simp) (St.enter w) (fun B hB => ?_)
  have hc := h.lg.rc
  have hv := h.rv
  have hp := h.rp
  have hcm := h.lg.hcm
  have hvm := h.hvm
  have hpm := h.hpm
  focus (refine qs ?_; (refine qe (E_boxa (cs := rfc s p) rfl) ?_; rintro _ _ ⟨b1, rfl, rfl⟩); (refine qe (E_alloca rfl rf_zero) ?_; rintro _ _ ⟨b2, rfl, rfl⟩); refine qz ?_; refine qq ?_)
  refine S_draw ([pt b1 42 (rfc s p)]) sub_st (by kernel_rfl) rfl (by kernel_rfl) (by kernel_rfl : _ = 25) ?_
  refine dt 0 rfl (pev_ok rfl) ?_
  refine dt 1 rfl (T_loads (ds := lgc s.base p.A p.n p.c) rfl rfl rfl rfl rfl) ?_
  refine dt 4 rfl (pev_ok rfl) ?_
  refine dt 5 rfl (pev_ok rfl) ?_
  refine dt 6 rfl (T_load rfl rfl rfl rfl) ?_
  refine dt 9 rfl (pev_ok rfl) ?_
  refine dt 10 rfl (T_load rfl rfl rfl rfl) ?_
  refine dt 13 rfl (pev_ok rfl) ?_
  refine dt 14 rfl (T_load rfl rfl rfl rfl) ?_
  refine D_node #[true, true, true, true, true, true, true, true, true, true, true, true, true, true, true, false, true, false, false, false, false, false, false, false, false] (fun x : Option Addr × Nat × Sh s.es × Nat × Option Addr × Nat × Nat × Option Addr × Nat × Nat => [(19, .pointer (some ⟨b1, 0 + 3, none⟩)), (15, .slice (some ⟨x.2.2.2.2.2.2.2.2.2, 0, none⟩) 0 0), (14, .slice x.2.2.2.2.2.2.2.1 p.vn x.2.2.2.2.2.2.2.2.1), (11, .slice (some ⟨x.2.2.2.2.2.2.1, 0, none⟩) 0 0), (10, .slice x.2.2.2.2.1 p.cn x.2.2.2.2.2.1), (6, .slice (some ⟨x.2.2.2.1, 0, none⟩) 0 0), (5, .agg (lgc s.base x.1 p.n x.2.1).toArray), (1, .pointer (some ⟨b1, 0, none⟩)), (2, .pointer (some ⟨b2, 0, none⟩)), (4, .agg (lgc s.base p.A p.n p.c).toArray), (9, .slice p.cA p.cn p.cc), (13, .slice p.vA p.vn p.vc), (17, .slice p.pA p.pn p.pc)]) (fun x : Option Addr × Nat × Sh s.es × Nat × Option Addr × Nat × Nat × Option Addr × Nat × Nat => [pt x.2.2.2.2.2.2.2.2.2 112 [], row 3 1 x.2.2.2.2.2.2.2.1 p.vn x.2.2.2.2.2.2.2.2.1 (s.votes.map zv), row 3 1 x.2.2.2.2.1 p.cn x.2.2.2.2.2.1 (s.cf.map zv), row 59 3 x.1 p.n x.2.1 (cellsL emc x.2.2.1.1), dtB 5 (x.2.2.1.1.map emd), pt b1 42 (rfc s p), pt b2 42 (rfc rs0 rp0)]) (fun nd0 => ?_) (fun x => ?_)
  refine D_nodeR #[true, true, true, true, true, true, true, true, true, true, true, true, false, true, true, false, true, false, false, false, false, false, false, false, false] (fun x : Option Addr × Nat × Sh s.es × Nat × Option Addr × Nat × Nat × Option Addr × Nat => [(19, .pointer (some ⟨b1, 0 + 3, none⟩)), (14, .slice x.2.2.2.2.2.2.2.1 p.vn x.2.2.2.2.2.2.2.2), (11, .slice (some ⟨x.2.2.2.2.2.2.1, 0, none⟩) 0 0), (10, .slice x.2.2.2.2.1 p.cn x.2.2.2.2.2.1), (6, .slice (some ⟨x.2.2.2.1, 0, none⟩) 0 0), (5, .agg (lgc s.base x.1 p.n x.2.1).toArray), (1, .pointer (some ⟨b1, 0, none⟩)), (2, .pointer (some ⟨b2, 0, none⟩)), (4, .agg (lgc s.base p.A p.n p.c).toArray), (9, .slice p.cA p.cn p.cc), (13, .slice p.vA p.vn p.vc), (17, .slice p.pA p.pn p.pc)]) (fun x : Option Addr × Nat × Sh s.es × Nat × Option Addr × Nat × Nat × Option Addr × Nat => [row 3 1 x.2.2.2.2.2.2.2.1 p.vn x.2.2.2.2.2.2.2.2 (s.votes.map zv), row 3 1 x.2.2.2.2.1 p.cn x.2.2.2.2.2.1 (s.cf.map zv), row 59 3 x.1 p.n x.2.1 (cellsL emc x.2.2.1.1), dtB 5 (x.2.2.1.1.map emd), pt b1 42 (rfc s p), pt b2 42 (rfc rs0 rp0)]) (fun x => ?_) (fun nd1 => ?_)
  · skip
    obtain ⟨A5, c5, P5, bi, A6, c6, bv_, A7, c7⟩ := x
    try dsimp only
    refine D_one 12 rfl (E_litS (vs := []) (size := 3) (ds := []) rfl rfl rfl rfl rfl rfl (by simp) rfl (by omega)) ?_ rfl rfl (by kernel_rfl)
    rintro _ _ ⟨bq, rfl, rfl⟩
    refine Nx_same sub_st ?_
    have h := nd0 (A5, c5, P5, bi, A6, c6, bv_, A7, c7, bq)
    try dsimp only at h
    exact D_at h (by repeat first | exact Sub.nil | refine Sub.cons rfl ?_) sub_st (by kernel_rfl)
  refine D_nodeR #[true, true, true, true, true, true, true, true, true, true, true, false, true, true, true, false, true, false, false, false, false, false, false, false, false] (fun x : Option Addr × Nat × Sh s.es × Nat × Option Addr × Nat × Nat × Nat => [(19, .pointer (some ⟨b1, 0 + 3, none⟩)), (15, .slice (some ⟨x.2.2.2.2.2.2.2, 0, none⟩) 0 0), (11, .slice (some ⟨x.2.2.2.2.2.2.1, 0, none⟩) 0 0), (10, .slice x.2.2.2.2.1 p.cn x.2.2.2.2.2.1), (6, .slice (some ⟨x.2.2.2.1, 0, none⟩) 0 0), (5, .agg (lgc s.base x.1 p.n x.2.1).toArray), (1, .pointer (some ⟨b1, 0, none⟩)), (2, .pointer (some ⟨b2, 0, none⟩)), (4, .agg (lgc s.base p.A p.n p.c).toArray), (9, .slice p.cA p.cn p.cc), (13, .slice p.vA p.vn p.vc), (17, .slice p.pA p.pn p.pc)]) (fun x : Option Addr × Nat × Sh s.es × Nat × Option Addr × Nat × Nat × Nat => [pt x.2.2.2.2.2.2.2 112 [], pt x.2.2.2.2.2.2.1 3 [], row 3 1 x.2.2.2.2.1 p.cn x.2.2.2.2.2.1 (s.cf.map zv), row 59 3 x.1 p.n x.2.1 (cellsL emc x.2.2.1.1), dtB 5 (x.2.2.1.1.map emd), pt b1 42 (rfc s p), pt b2 42 (rfc rs0 rp0)]) (fun x => ?_) (fun nd2 => ?_)
  · skip
    obtain ⟨A5, c5, P5, bi, A6, c6, bv_, bq⟩ := x
    try dsimp only
    refine D_one 11 rfl (E_apple (gb := bv_) (sz := 1) (A2 := p.vA) (m2 := p.vn) (c2 := p.vc) (news := s.votes.map zv) rfl rfl rfl rfl rfl rfl rfl (by decide) (by first | exact .here | exact .there .here | exact .there (.there .here)) (Srd.old hv (fun k _ => noOwns k)) (C.zv_ones _) (by show p.vn * 8 ≤ _; omega) (by unfold maxLen; omega)) ?_ rfl rfl (by kernel_rfl)
    rintro _ _ ⟨A7, c7, rfl, rfl⟩
    refine Nx_same sub_st ?_
    have h := nd0 (A5, c5, P5, bi, A6, c6, bv_, A7, c7, bq)
    try dsimp only at h
    exact D_at h (by repeat first | exact Sub.nil | refine Sub.cons rfl ?_) sub_st (by kernel_rfl)
  refine D_nodeR #[true, true, true, true, true, true, true, true, true, true, true, false, false, true, true, false, true, false, false, false, false, false, false, false, false] (fun x : Option Addr × Nat × Sh s.es × Nat × Option Addr × Nat × Nat => [(19, .pointer (some ⟨b1, 0 + 3, none⟩)), (11, .slice (some ⟨x.2.2.2.2.2.2, 0, none⟩) 0 0), (10, .slice x.2.2.2.2.1 p.cn x.2.2.2.2.2.1), (6, .slice (some ⟨x.2.2.2.1, 0, none⟩) 0 0), (5, .agg (lgc s.base x.1 p.n x.2.1).toArray), (1, .pointer (some ⟨b1, 0, none⟩)), (2, .pointer (some ⟨b2, 0, none⟩)), (4, .agg (lgc s.base p.A p.n p.c).toArray), (9, .slice p.cA p.cn p.cc), (13, .slice p.vA p.vn p.vc), (17, .slice p.pA p.pn p.pc)]) (fun x : Option Addr × Nat × Sh s.es × Nat × Option Addr × Nat × Nat => [pt x.2.2.2.2.2.2 3 [], row 3 1 x.2.2.2.2.1 p.cn x.2.2.2.2.2.1 (s.cf.map zv), row 59 3 x.1 p.n x.2.1 (cellsL emc x.2.2.1.1), dtB 5 (x.2.2.1.1.map emd), pt b1 42 (rfc s p), pt b2 42 (rfc rs0 rp0)]) (fun x => ?_) (fun nd3 => ?_)
  · skip
    obtain ⟨A5, c5, P5, bi, A6, c6, bv_⟩ := x
    try dsimp only
    refine D_two 11 12 (by decide) rfl rfl (E_apple (gb := bv_) (sz := 1) (A2 := p.vA) (m2 := p.vn) (c2 := p.vc) (news := s.votes.map zv) rfl rfl rfl rfl rfl rfl rfl (by decide) (by first | exact .here | exact .there .here | exact .there (.there .here)) (Srd.old hv (fun k _ => noOwns k)) (C.zv_ones _) (by show p.vn * 8 ≤ _; omega) (by unfold maxLen; omega)) (E_litS (vs := []) (size := 3) (ds := []) rfl rfl rfl rfl rfl rfl (by simp) rfl (by omega)) ?_ ?_ rfl rfl rfl rfl (by kernel_rfl)
    · rintro _ _ ⟨A7, c7, rfl, rfl⟩
      refine Nx_same sub_st ?_
      have h := nd1 (A5, c5, P5, bi, A6, c6, bv_, A7, c7)
      try dsimp only at h
      exact D_at h (by repeat first | exact Sub.nil | refine Sub.cons rfl ?_) sub_st (by kernel_rfl)
    · rintro _ _ ⟨bq, rfl, rfl⟩
      refine Nx_same sub_st ?_
      have h := nd2 (A5, c5, P5, bi, A6, c6, bv_, bq)
      try dsimp only at h
      exact D_at h (by repeat first | exact Sub.nil | refine Sub.cons rfl ?_) sub_st (by kernel_rfl)
  refine D_nodeR #[true, true, true, true, true, true, true, true, false, true, true, false, true, true, true, false, true, false, false, false, false, false, false, false, false] (fun x : Option Addr × Nat × Sh s.es × Nat × Option Addr × Nat × Nat => [(19, .pointer (some ⟨b1, 0 + 3, none⟩)), (15, .slice (some ⟨x.2.2.2.2.2.2, 0, none⟩) 0 0), (10, .slice x.2.2.2.2.1 p.cn x.2.2.2.2.2.1), (6, .slice (some ⟨x.2.2.2.1, 0, none⟩) 0 0), (5, .agg (lgc s.base x.1 p.n x.2.1).toArray), (1, .pointer (some ⟨b1, 0, none⟩)), (2, .pointer (some ⟨b2, 0, none⟩)), (4, .agg (lgc s.base p.A p.n p.c).toArray), (9, .slice p.cA p.cn p.cc), (13, .slice p.vA p.vn p.vc), (17, .slice p.pA p.pn p.pc)]) (fun x : Option Addr × Nat × Sh s.es × Nat × Option Addr × Nat × Nat => [pt x.2.2.2.2.2.2 112 [], row 3 1 x.2.2.2.2.1 p.cn x.2.2.2.2.2.1 (s.cf.map zv), row 59 3 x.1 p.n x.2.1 (cellsL emc x.2.2.1.1), dtB 5 (x.2.2.1.1.map emd), pt b1 42 (rfc s p), pt b2 42 (rfc rs0 rp0)]) (fun x => ?_) (fun nd4 => ?_)
  · skip
    obtain ⟨A5, c5, P5, bi, A6, c6, bq⟩ := x
    try dsimp only
    refine D_one 8 rfl (E_lit1 (m := 0) (vs := []) rfl rfl rfl rfl rfl rfl rfl (by simp) (by decide)) ?_ rfl rfl (by kernel_rfl)
    rintro _ _ ⟨bv_, rfl, rfl⟩
    refine Nx_same sub_st ?_
    have h := nd2 (A5, c5, P5, bi, A6, c6, bv_, bq)
    try dsimp only at h
    exact D_at h (by repeat first | exact Sub.nil | refine Sub.cons rfl ?_) sub_st (by kernel_rfl)
  refine D_nodeR #[true, true, true, true, true, true, true, false, true, true, true, false, true, true, true, false, true, false, false, false, false, false, false, false, false] (fun x : Option Addr × Nat × Sh s.es × Nat × Nat × Nat => [(19, .pointer (some ⟨b1, 0 + 3, none⟩)), (15, .slice (some ⟨x.2.2.2.2.2, 0, none⟩) 0 0), (11, .slice (some ⟨x.2.2.2.2.1, 0, none⟩) 0 0), (6, .slice (some ⟨x.2.2.2.1, 0, none⟩) 0 0), (5, .agg (lgc s.base x.1 p.n x.2.1).toArray), (1, .pointer (some ⟨b1, 0, none⟩)), (2, .pointer (some ⟨b2, 0, none⟩)), (4, .agg (lgc s.base p.A p.n p.c).toArray), (9, .slice p.cA p.cn p.cc), (13, .slice p.vA p.vn p.vc), (17, .slice p.pA p.pn p.pc)]) (fun x : Option Addr × Nat × Sh s.es × Nat × Nat × Nat => [pt x.2.2.2.2.2 112 [], pt x.2.2.2.2.1 3 [], pt x.2.2.2.1 3 [], row 59 3 x.1 p.n x.2.1 (cellsL emc x.2.2.1.1), dtB 5 (x.2.2.1.1.map emd), pt b1 42 (rfc s p), pt b2 42 (rfc rs0 rp0)]) (fun x => ?_) (fun nd5 => ?_)
  · skip
    obtain ⟨A5, c5, P5, bi, bv_, bq⟩ := x
    try dsimp only
    refine D_one 7 rfl (E_apple (gb := bi) (sz := 1) (A2 := p.cA) (m2 := p.cn) (c2 := p.cc) (news := s.cf.map zv) rfl rfl rfl rfl rfl rfl rfl (by decide) (by first | exact .here | exact .there .here | exact .there (.there .here)) (Srd.old hc (fun k _ => noOwns k)) (C.zv_ones _) (by show p.cn * 8 ≤ _; omega) (by unfold maxLen; omega)) ?_ rfl rfl (by kernel_rfl)
    rintro _ _ ⟨A6, c6, rfl, rfl⟩
    refine Nx_same sub_st ?_
    have h := nd2 (A5, c5, P5, bi, A6, c6, bv_, bq)
    try dsimp only at h
    exact D_at h (by repeat first | exact Sub.nil | refine Sub.cons rfl ?_) sub_st (by kernel_rfl)
  refine D_nodeR #[true, true, true, true, true, true, true, true, false, true, true, false, false, true, true, false, true, false, false, false, false, false, false, false, false] (fun x : Option Addr × Nat × Sh s.es × Nat × Option Addr × Nat => [(19, .pointer (some ⟨b1, 0 + 3, none⟩)), (10, .slice x.2.2.2.2.1 p.cn x.2.2.2.2.2), (6, .slice (some ⟨x.2.2.2.1, 0, none⟩) 0 0), (5, .agg (lgc s.base x.1 p.n x.2.1).toArray), (1, .pointer (some ⟨b1, 0, none⟩)), (2, .pointer (some ⟨b2, 0, none⟩)), (4, .agg (lgc s.base p.A p.n p.c).toArray), (9, .slice p.cA p.cn p.cc), (13, .slice p.vA p.vn p.vc), (17, .slice p.pA p.pn p.pc)]) (fun x : Option Addr × Nat × Sh s.es × Nat × Option Addr × Nat => [row 3 1 x.2.2.2.2.1 p.cn x.2.2.2.2.2 (s.cf.map zv), row 59 3 x.1 p.n x.2.1 (cellsL emc x.2.2.1.1), dtB 5 (x.2.2.1.1.map emd), pt b1 42 (rfc s p), pt b2 42 (rfc rs0 rp0)]) (fun x => ?_) (fun nd6 => ?_)
  · skip
    obtain ⟨A5, c5, P5, bi, A6, c6⟩ := x
    try dsimp only
    refine D_two 8 12 (by decide) rfl rfl (E_lit1 (m := 0) (vs := []) rfl rfl rfl rfl rfl rfl rfl (by simp) (by decide)) (E_litS (vs := []) (size := 3) (ds := []) rfl rfl rfl rfl rfl rfl (by simp) rfl (by omega)) ?_ ?_ rfl rfl rfl rfl (by kernel_rfl)
    · rintro _ _ ⟨bv_, rfl, rfl⟩
      refine Nx_same sub_st ?_
      have h := nd3 (A5, c5, P5, bi, A6, c6, bv_)
      try dsimp only at h
      exact D_at h (by repeat first | exact Sub.nil | refine Sub.cons rfl ?_) sub_st (by kernel_rfl)
    · rintro _ _ ⟨bq, rfl, rfl⟩
      refine Nx_same sub_st ?_
      have h := nd4 (A5, c5, P5, bi, A6, c6, bq)
      try dsimp only at h
      exact D_at h (by repeat first | exact Sub.nil | refine Sub.cons rfl ?_) sub_st (by kernel_rfl)
  refine D_nodeR #[true, true, true, true, true, true, true, false, true, true, true, false, false, true, true, false, true, false, false, false, false, false, false, false, false] (fun x : Option Addr × Nat × Sh s.es × Nat × Nat => [(19, .pointer (some ⟨b1, 0 + 3, none⟩)), (11, .slice (some ⟨x.2.2.2.2, 0, none⟩) 0 0), (6, .slice (some ⟨x.2.2.2.1, 0, none⟩) 0 0), (5, .agg (lgc s.base x.1 p.n x.2.1).toArray), (1, .pointer (some ⟨b1, 0, none⟩)), (2, .pointer (some ⟨b2, 0, none⟩)), (4, .agg (lgc s.base p.A p.n p.c).toArray), (9, .slice p.cA p.cn p.cc), (13, .slice p.vA p.vn p.vc), (17, .slice p.pA p.pn p.pc)]) (fun x : Option Addr × Nat × Sh s.es × Nat × Nat => [pt x.2.2.2.2 3 [], pt x.2.2.2.1 3 [], row 59 3 x.1 p.n x.2.1 (cellsL emc x.2.2.1.1), dtB 5 (x.2.2.1.1.map emd), pt b1 42 (rfc s p), pt b2 42 (rfc rs0 rp0)]) (fun x => ?_) (fun nd7 => ?_)
  · skip
    obtain ⟨A5, c5, P5, bi, bv_⟩ := x
    try dsimp only
    refine D_two 7 12 (by decide) rfl rfl (E_apple (gb := bi) (sz := 1) (A2 := p.cA) (m2 := p.cn) (c2 := p.cc) (news := s.cf.map zv) rfl rfl rfl rfl rfl rfl rfl (by decide) (by first | exact .here | exact .there .here | exact .there (.there .here)) (Srd.old hc (fun k _ => noOwns k)) (C.zv_ones _) (by show p.cn * 8 ≤ _; omega) (by unfold maxLen; omega)) (E_litS (vs := []) (size := 3) (ds := []) rfl rfl rfl rfl rfl rfl (by simp) rfl (by omega)) ?_ ?_ rfl rfl rfl rfl (by kernel_rfl)
    · rintro _ _ ⟨A6, c6, rfl, rfl⟩
      refine Nx_same sub_st ?_
      have h := nd3 (A5, c5, P5, bi, A6, c6, bv_)
      try dsimp only at h
      exact D_at h (by repeat first | exact Sub.nil | refine Sub.cons rfl ?_) sub_st (by kernel_rfl)
    · rintro _ _ ⟨bq, rfl, rfl⟩
      refine Nx_same sub_st ?_
      have h := nd5 (A5, c5, P5, bi, bv_, bq)
      try dsimp only at h
      exact D_at h (by repeat first | exact Sub.nil | refine Sub.cons rfl ?_) sub_st (by kernel_rfl)
  refine D_nodeR #[true, true, true, true, true, true, true, false, false, true, true, false, true, true, true, false, true, false, false, false, false, false, false, false, false] (fun x : Option Addr × Nat × Sh s.es × Nat × Nat => [(19, .pointer (some ⟨b1, 0 + 3, none⟩)), (15, .slice (some ⟨x.2.2.2.2, 0, none⟩) 0 0), (6, .slice (some ⟨x.2.2.2.1, 0, none⟩) 0 0), (5, .agg (lgc s.base x.1 p.n x.2.1).toArray), (1, .pointer (some ⟨b1, 0, none⟩)), (2, .pointer (some ⟨b2, 0, none⟩)), (4, .agg (lgc s.base p.A p.n p.c).toArray), (9, .slice p.cA p.cn p.cc), (13, .slice p.vA p.vn p.vc), (17, .slice p.pA p.pn p.pc)]) (fun x : Option Addr × Nat × Sh s.es × Nat × Nat => [pt x.2.2.2.2 112 [], pt x.2.2.2.1 3 [], row 59 3 x.1 p.n x.2.1 (cellsL emc x.2.2.1.1), dtB 5 (x.2.2.1.1.map emd), pt b1 42 (rfc s p), pt b2 42 (rfc rs0 rp0)]) (fun x => ?_) (fun nd8 => ?_)
  · skip
    obtain ⟨A5, c5, P5, bi, bq⟩ := x
    try dsimp only
    refine D_two 7 8 (by decide) rfl rfl (E_apple (gb := bi) (sz := 1) (A2 := p.cA) (m2 := p.cn) (c2 := p.cc) (news := s.cf.map zv) rfl rfl rfl rfl rfl rfl rfl (by decide) (by first | exact .here | exact .there .here | exact .there (.there .here)) (Srd.old hc (fun k _ => noOwns k)) (C.zv_ones _) (by show p.cn * 8 ≤ _; omega) (by unfold maxLen; omega)) (E_lit1 (m := 0) (vs := []) rfl rfl rfl rfl rfl rfl rfl (by simp) (by decide)) ?_ ?_ rfl rfl rfl rfl (by kernel_rfl)
    · rintro _ _ ⟨A6, c6, rfl, rfl⟩
      refine Nx_same sub_st ?_
      have h := nd4 (A5, c5, P5, bi, A6, c6, bq)
      try dsimp only at h
      exact D_at h (by repeat first | exact Sub.nil | refine Sub.cons rfl ?_) sub_st (by kernel_rfl)
    · rintro _ _ ⟨bv_, rfl, rfl⟩
      refine Nx_same sub_st ?_
      have h := nd5 (A5, c5, P5, bi, bv_, bq)
      try dsimp only at h
      exact D_at h (by repeat first | exact Sub.nil | refine Sub.cons rfl ?_) sub_st (by kernel_rfl)
  refine D_nodeR #[true, true, true, false, true, true, true, false, true, true, true, false, true, true, true, false, true, false, false, false, false, false, false, false, false] (fun x : Option Addr × Nat × Sh s.es × Nat × Nat => [(19, .pointer (some ⟨b1, 0 + 3, none⟩)), (15, .slice (some ⟨x.2.2.2.2, 0, none⟩) 0 0), (11, .slice (some ⟨x.2.2.2.1, 0, none⟩) 0 0), (5, .agg (lgc s.base x.1 p.n x.2.1).toArray), (1, .pointer (some ⟨b1, 0, none⟩)), (2, .pointer (some ⟨b2, 0, none⟩)), (4, .agg (lgc s.base p.A p.n p.c).toArray), (9, .slice p.cA p.cn p.cc), (13, .slice p.vA p.vn p.vc), (17, .slice p.pA p.pn p.pc)]) (fun x : Option Addr × Nat × Sh s.es × Nat × Nat => [pt x.2.2.2.2 112 [], pt x.2.2.2.1 3 [], row 59 3 x.1 p.n x.2.1 (cellsL emc x.2.2.1.1), dtB 5 (x.2.2.1.1.map emd), pt b1 42 (rfc s p), pt b2 42 (rfc rs0 rp0)]) (fun x => ?_) (fun nd9 => ?_)
  · skip
    obtain ⟨A5, c5, P5, bv_, bq⟩ := x
    try dsimp only
    refine D_one 3 rfl (E_lit1 (m := 0) (vs := []) rfl rfl rfl rfl rfl rfl rfl (by simp) (by decide)) ?_ rfl rfl (by kernel_rfl)
    rintro _ _ ⟨bi, rfl, rfl⟩
    refine Nx_same sub_st ?_
    have h := nd5 (A5, c5, P5, bi, bv_, bq)
    try dsimp only at h
    exact D_at h (by repeat first | exact Sub.nil | refine Sub.cons rfl ?_) sub_st (by kernel_rfl)
  refine D_nodeR #[true, true, true, true, true, true, true, false, false, true, true, false, false, true, true, false, true, false, false, false, false, false, false, false, false] (fun x : Option Addr × Nat × Sh s.es × Nat => [(19, .pointer (some ⟨b1, 0 + 3, none⟩)), (6, .slice (some ⟨x.2.2.2, 0, none⟩) 0 0), (5, .agg (lgc s.base x.1 p.n x.2.1).toArray), (1, .pointer (some ⟨b1, 0, none⟩)), (2, .pointer (some ⟨b2, 0, none⟩)), (4, .agg (lgc s.base p.A p.n p.c).toArray), (9, .slice p.cA p.cn p.cc), (13, .slice p.vA p.vn p.vc), (17, .slice p.pA p.pn p.pc)]) (fun x : Option Addr × Nat × Sh s.es × Nat => [pt x.2.2.2 3 [], row 59 3 x.1 p.n x.2.1 (cellsL emc x.2.2.1.1), dtB 5 (x.2.2.1.1.map emd), pt b1 42 (rfc s p), pt b2 42 (rfc rs0 rp0)]) (fun x => ?_) (fun nd10 => ?_)
  · skip
    obtain ⟨A5, c5, P5, bi⟩ := x
    try dsimp only
    refine D_three 7 8 12 rfl rfl rfl (E_apple (gb := bi) (sz := 1) (A2 := p.cA) (m2 := p.cn) (c2 := p.cc) (news := s.cf.map zv) rfl rfl rfl rfl rfl rfl rfl (by decide) (by first | exact .here | exact .there .here | exact .there (.there .here)) (Srd.old hc (fun k _ => noOwns k)) (C.zv_ones _) (by show p.cn * 8 ≤ _; omega) (by unfold maxLen; omega)) (E_lit1 (m := 0) (vs := []) rfl rfl rfl rfl rfl rfl rfl (by simp) (by decide)) (E_litS (vs := []) (size := 3) (ds := []) rfl rfl rfl rfl rfl rfl (by simp) rfl (by omega)) ?_ ?_ ?_ rfl rfl rfl rfl rfl rfl (by kernel_rfl)
    · rintro _ _ ⟨A6, c6, rfl, rfl⟩
      refine Nx_same sub_st ?_
      have h := nd6 (A5, c5, P5, bi, A6, c6)
      try dsimp only at h
      exact D_at h (by repeat first | exact Sub.nil | refine Sub.cons rfl ?_) sub_st (by kernel_rfl)
    · rintro _ _ ⟨bv_, rfl, rfl⟩
      refine Nx_same sub_st ?_
      have h := nd7 (A5, c5, P5, bi, bv_)
      try dsimp only at h
      exact D_at h (by repeat first | exact Sub.nil | refine Sub.cons rfl ?_) sub_st (by kernel_rfl)
    · rintro _ _ ⟨bq, rfl, rfl⟩
      refine Nx_same sub_st ?_
      have h := nd8 (A5, c5, P5, bi, bq)
      try dsimp only at h
      exact D_at h (by repeat first | exact Sub.nil | refine Sub.cons rfl ?_) sub_st (by kernel_rfl)
  refine D_nodeR #[true, true, true, false, true, true, true, false, true, true, true, false, false, true, true, false, true, false, false, false, false, false, false, false, false] (fun x : Option Addr × Nat × Sh s.es × Nat => [(19, .pointer (some ⟨b1, 0 + 3, none⟩)), (11, .slice (some ⟨x.2.2.2, 0, none⟩) 0 0), (5, .agg (lgc s.base x.1 p.n x.2.1).toArray), (1, .pointer (some ⟨b1, 0, none⟩)), (2, .pointer (some ⟨b2, 0, none⟩)), (4, .agg (lgc s.base p.A p.n p.c).toArray), (9, .slice p.cA p.cn p.cc), (13, .slice p.vA p.vn p.vc), (17, .slice p.pA p.pn p.pc)]) (fun x : Option Addr × Nat × Sh s.es × Nat => [pt x.2.2.2 3 [], row 59 3 x.1 p.n x.2.1 (cellsL emc x.2.2.1.1), dtB 5 (x.2.2.1.1.map emd), pt b1 42 (rfc s p), pt b2 42 (rfc rs0 rp0)]) (fun x => ?_) (fun nd11 => ?_)
  · skip
    obtain ⟨A5, c5, P5, bv_⟩ := x
    try dsimp only
    refine D_two 3 12 (by decide) rfl rfl (E_lit1 (m := 0) (vs := []) rfl rfl rfl rfl rfl rfl rfl (by simp) (by decide)) (E_litS (vs := []) (size := 3) (ds := []) rfl rfl rfl rfl rfl rfl (by simp) rfl (by omega)) ?_ ?_ rfl rfl rfl rfl (by kernel_rfl)
    · rintro _ _ ⟨bi, rfl, rfl⟩
      refine Nx_same sub_st ?_
      have h := nd7 (A5, c5, P5, bi, bv_)
      try dsimp only at h
      exact D_at h (by repeat first | exact Sub.nil | refine Sub.cons rfl ?_) sub_st (by kernel_rfl)
    · rintro _ _ ⟨bq, rfl, rfl⟩
      refine Nx_same sub_st ?_
      have h := nd9 (A5, c5, P5, bv_, bq)
      try dsimp only at h
      exact D_at h (by repeat first | exact Sub.nil | refine Sub.cons rfl ?_) sub_st (by kernel_rfl)
  refine D_nodeR #[true, true, true, false, true, true, true, false, false, true, true, false, true, true, true, false, true, false, false, false, false, false, false, false, false] (fun x : Option Addr × Nat × Sh s.es × Nat => [(19, .pointer (some ⟨b1, 0 + 3, none⟩)), (15, .slice (some ⟨x.2.2.2, 0, none⟩) 0 0), (5, .agg (lgc s.base x.1 p.n x.2.1).toArray), (1, .pointer (some ⟨b1, 0, none⟩)), (2, .pointer (some ⟨b2, 0, none⟩)), (4, .agg (lgc s.base p.A p.n p.c).toArray), (9, .slice p.cA p.cn p.cc), (13, .slice p.vA p.vn p.vc), (17, .slice p.pA p.pn p.pc)]) (fun x : Option Addr × Nat × Sh s.es × Nat => [pt x.2.2.2 112 [], row 59 3 x.1 p.n x.2.1 (cellsL emc x.2.2.1.1), dtB 5 (x.2.2.1.1.map emd), pt b1 42 (rfc s p), pt b2 42 (rfc rs0 rp0)]) (fun x => ?_) (fun nd12 => ?_)
  · skip
    obtain ⟨A5, c5, P5, bq⟩ := x
    try dsimp only
    refine D_two 3 8 (by decide) rfl rfl (E_lit1 (m := 0) (vs := []) rfl rfl rfl rfl rfl rfl rfl (by simp) (by decide)) (E_lit1 (m := 0) (vs := []) rfl rfl rfl rfl rfl rfl rfl (by simp) (by decide)) ?_ ?_ rfl rfl rfl rfl (by kernel_rfl)
    · rintro _ _ ⟨bi, rfl, rfl⟩
      refine Nx_same sub_st ?_
      have h := nd8 (A5, c5, P5, bi, bq)
      try dsimp only at h
      exact D_at h (by repeat first | exact Sub.nil | refine Sub.cons rfl ?_) sub_st (by kernel_rfl)
    · rintro _ _ ⟨bv_, rfl, rfl⟩
      refine Nx_same sub_st ?_
      have h := nd9 (A5, c5, P5, bv_, bq)
      try dsimp only at h
      exact D_at h (by repeat first | exact Sub.nil | refine Sub.cons rfl ?_) sub_st (by kernel_rfl)
  refine D_nodeR #[true, true, false, true, true, true, true, false, true, true, true, false, true, true, true, false, false, false, false, false, false, false, false, false, false] (fun x : Nat × Nat × Nat => [(15, .slice (some ⟨x.2.2, 0, none⟩) 0 0), (11, .slice (some ⟨x.2.1, 0, none⟩) 0 0), (6, .slice (some ⟨x.1, 0, none⟩) 0 0), (1, .pointer (some ⟨b1, 0, none⟩)), (2, .pointer (some ⟨b2, 0, none⟩)), (4, .agg (lgc s.base p.A p.n p.c).toArray), (9, .slice p.cA p.cn p.cc), (13, .slice p.vA p.vn p.vc), (17, .slice p.pA p.pn p.pc)]) (fun x : Nat × Nat × Nat => [pt x.2.2 112 [], pt x.2.1 3 [], pt x.1 3 [], pt b1 42 (rfc s p), pt b2 42 (rfc rs0 rp0)]) (fun x => ?_) (fun nd13 => ?_)
  · skip
    obtain ⟨bi, bv_, bq⟩ := x
    try dsimp only
    refine D_one 2 rfl (E_hvG (f := 62) ⟨_, Tryz.func62, rfl, by kernel_rfl⟩ (fun w hS => copyD_any w s.base p.A p.c p.n p.Q s.es h.lg.hn h.lg.hQ (h.keep hS.kpO).lg.rq (h.keep hS.kpO).lg.dt h.lg.hm h.lg.hd) rfl rfl) ?_ rfl rfl (by kernel_rfl)
    rintro _ _ ⟨⟨⟨A5, c5⟩, P5⟩, rfl, hc5, rfl⟩; dsimp only [List.cons_append, List.nil_append]
    refine Nx_same sub_st ?_
    refine dt 16 rfl (pev_ok rfl) ?_
    have h := nd5 (A5, c5, P5, bi, bv_, bq)
    try dsimp only at h
    exact D_at h (by repeat first | exact Sub.nil | refine Sub.cons rfl ?_) sub_st (by kernel_rfl)
  refine D_nodeR #[true, true, true, false, true, true, true, false, false, true, true, false, false, true, true, false, true, false, false, false, false, false, false, false, false] (fun x : Option Addr × Nat × Sh s.es => [(19, .pointer (some ⟨b1, 0 + 3, none⟩)), (5, .agg (lgc s.base x.1 p.n x.2.1).toArray), (1, .pointer (some ⟨b1, 0, none⟩)), (2, .pointer (some ⟨b2, 0, none⟩)), (4, .agg (lgc s.base p.A p.n p.c).toArray), (9, .slice p.cA p.cn p.cc), (13, .slice p.vA p.vn p.vc), (17, .slice p.pA p.pn p.pc)]) (fun x : Option Addr × Nat × Sh s.es => [row 59 3 x.1 p.n x.2.1 (cellsL emc x.2.2.1), dtB 5 (x.2.2.1.map emd), pt b1 42 (rfc s p), pt b2 42 (rfc rs0 rp0)]) (fun x => ?_) (fun nd14 => ?_)
  · skip
    obtain ⟨A5, c5, P5⟩ := x
    try dsimp only
    refine D_three 3 8 12 rfl rfl rfl (E_lit1 (m := 0) (vs := []) rfl rfl rfl rfl rfl rfl rfl (by simp) (by decide)) (E_lit1 (m := 0) (vs := []) rfl rfl rfl rfl rfl rfl rfl (by simp) (by decide)) (E_litS (vs := []) (size := 3) (ds := []) rfl rfl rfl rfl rfl rfl (by simp) rfl (by omega)) ?_ ?_ ?_ rfl rfl rfl rfl rfl rfl (by kernel_rfl)
    · rintro _ _ ⟨bi, rfl, rfl⟩
      refine Nx_same sub_st ?_
      have h := nd10 (A5, c5, P5, bi)
      try dsimp only at h
      exact D_at h (by repeat first | exact Sub.nil | refine Sub.cons rfl ?_) sub_st (by kernel_rfl)
    · rintro _ _ ⟨bv_, rfl, rfl⟩
      refine Nx_same sub_st ?_
      have h := nd11 (A5, c5, P5, bv_)
      try dsimp only at h
      exact D_at h (by repeat first | exact Sub.nil | refine Sub.cons rfl ?_) sub_st (by kernel_rfl)
    · rintro _ _ ⟨bq, rfl, rfl⟩
      refine Nx_same sub_st ?_
      have h := nd12 (A5, c5, P5, bq)
      try dsimp only at h
      exact D_at h (by repeat first | exact Sub.nil | refine Sub.cons rfl ?_) sub_st (by kernel_rfl)
  refine D_nodeR #[true, true, false, true, true, true, true, false, true, true, true, false, false, true, true, false, false, false, false, false, false, false, false, false, false] (fun x : Nat × Nat => [(11, .slice (some ⟨x.2, 0, none⟩) 0 0), (6, .slice (some ⟨x.1, 0, none⟩) 0 0), (1, .pointer (some ⟨b1, 0, none⟩)), (2, .pointer (some ⟨b2, 0, none⟩)), (4, .agg (lgc s.base p.A p.n p.c).toArray), (9, .slice p.cA p.cn p.cc), (13, .slice p.vA p.vn p.vc), (17, .slice p.pA p.pn p.pc)]) (fun x : Nat × Nat => [pt x.2 3 [], pt x.1 3 [], pt b1 42 (rfc s p), pt b2 42 (rfc rs0 rp0)]) (fun x => ?_) (fun nd15 => ?_)
  · skip
    obtain ⟨bi, bv_⟩ := x
    try dsimp only
    refine D_two 2 12 (by decide) rfl rfl (E_hvG (f := 62) ⟨_, Tryz.func62, rfl, by kernel_rfl⟩ (fun w hS => copyD_any w s.base p.A p.c p.n p.Q s.es h.lg.hn h.lg.hQ (h.keep hS.kpO).lg.rq (h.keep hS.kpO).lg.dt h.lg.hm h.lg.hd) rfl rfl) (E_litS (vs := []) (size := 3) (ds := []) rfl rfl rfl rfl rfl rfl (by simp) rfl (by omega)) ?_ ?_ rfl rfl rfl rfl (by kernel_rfl)
    · rintro _ _ ⟨⟨⟨A5, c5⟩, P5⟩, rfl, hc5, rfl⟩; dsimp only [List.cons_append, List.nil_append]
      refine Nx_same sub_st ?_
      refine dt 16 rfl (pev_ok rfl) ?_
      have h := nd7 (A5, c5, P5, bi, bv_)
      try dsimp only at h
      exact D_at h (by repeat first | exact Sub.nil | refine Sub.cons rfl ?_) sub_st (by kernel_rfl)
    · rintro _ _ ⟨bq, rfl, rfl⟩
      refine Nx_same sub_st ?_
      have h := nd13 (bi, bv_, bq)
      try dsimp only at h
      exact D_at h (by repeat first | exact Sub.nil | refine Sub.cons rfl ?_) sub_st (by kernel_rfl)
  refine D_nodeR #[true, true, false, true, true, true, true, false, false, true, true, false, true, true, true, false, false, false, false, false, false, false, false, false, false] (fun x : Nat × Nat => [(15, .slice (some ⟨x.2, 0, none⟩) 0 0), (6, .slice (some ⟨x.1, 0, none⟩) 0 0), (1, .pointer (some ⟨b1, 0, none⟩)), (2, .pointer (some ⟨b2, 0, none⟩)), (4, .agg (lgc s.base p.A p.n p.c).toArray), (9, .slice p.cA p.cn p.cc), (13, .slice p.vA p.vn p.vc), (17, .slice p.pA p.pn p.pc)]) (fun x : Nat × Nat => [pt x.2 112 [], pt x.1 3 [], pt b1 42 (rfc s p), pt b2 42 (rfc rs0 rp0)]) (fun x => ?_) (fun nd16 => ?_)
  · skip
    obtain ⟨bi, bq⟩ := x
    try dsimp only
    refine D_two 2 8 (by decide) rfl rfl (E_hvG (f := 62) ⟨_, Tryz.func62, rfl, by kernel_rfl⟩ (fun w hS => copyD_any w s.base p.A p.c p.n p.Q s.es h.lg.hn h.lg.hQ (h.keep hS.kpO).lg.rq (h.keep hS.kpO).lg.dt h.lg.hm h.lg.hd) rfl rfl) (E_lit1 (m := 0) (vs := []) rfl rfl rfl rfl rfl rfl rfl (by simp) (by decide)) ?_ ?_ rfl rfl rfl rfl (by kernel_rfl)
    · rintro _ _ ⟨⟨⟨A5, c5⟩, P5⟩, rfl, hc5, rfl⟩; dsimp only [List.cons_append, List.nil_append]
      refine Nx_same sub_st ?_
      refine dt 16 rfl (pev_ok rfl) ?_
      have h := nd8 (A5, c5, P5, bi, bq)
      try dsimp only at h
      exact D_at h (by repeat first | exact Sub.nil | refine Sub.cons rfl ?_) sub_st (by kernel_rfl)
    · rintro _ _ ⟨bv_, rfl, rfl⟩
      refine Nx_same sub_st ?_
      have h := nd13 (bi, bv_, bq)
      try dsimp only at h
      exact D_at h (by repeat first | exact Sub.nil | refine Sub.cons rfl ?_) sub_st (by kernel_rfl)
  refine D_nodeR #[true, true, false, false, true, true, true, false, true, true, true, false, true, true, true, false, false, false, false, false, false, false, false, false, false] (fun x : Nat × Nat => [(15, .slice (some ⟨x.2, 0, none⟩) 0 0), (11, .slice (some ⟨x.1, 0, none⟩) 0 0), (1, .pointer (some ⟨b1, 0, none⟩)), (2, .pointer (some ⟨b2, 0, none⟩)), (4, .agg (lgc s.base p.A p.n p.c).toArray), (9, .slice p.cA p.cn p.cc), (13, .slice p.vA p.vn p.vc), (17, .slice p.pA p.pn p.pc)]) (fun x : Nat × Nat => [pt x.2 112 [], pt x.1 3 [], pt b1 42 (rfc s p), pt b2 42 (rfc rs0 rp0)]) (fun x => ?_) (fun nd17 => ?_)
  · skip
    obtain ⟨bv_, bq⟩ := x
    try dsimp only
    refine D_two 2 3 (by decide) rfl rfl (E_hvG (f := 62) ⟨_, Tryz.func62, rfl, by kernel_rfl⟩ (fun w hS => copyD_any w s.base p.A p.c p.n p.Q s.es h.lg.hn h.lg.hQ (h.keep hS.kpO).lg.rq (h.keep hS.kpO).lg.dt h.lg.hm h.lg.hd) rfl rfl) (E_lit1 (m := 0) (vs := []) rfl rfl rfl rfl rfl rfl rfl (by simp) (by decide)) ?_ ?_ rfl rfl rfl rfl (by kernel_rfl)
    · rintro _ _ ⟨⟨⟨A5, c5⟩, P5⟩, rfl, hc5, rfl⟩; dsimp only [List.cons_append, List.nil_append]
      refine Nx_same sub_st ?_
      refine dt 16 rfl (pev_ok rfl) ?_
      have h := nd9 (A5, c5, P5, bv_, bq)
      try dsimp only at h
      exact D_at h (by repeat first | exact Sub.nil | refine Sub.cons rfl ?_) sub_st (by kernel_rfl)
    · rintro _ _ ⟨bi, rfl, rfl⟩
      refine Nx_same sub_st ?_
      have h := nd13 (bi, bv_, bq)
      try dsimp only at h
      exact D_at h (by repeat first | exact Sub.nil | refine Sub.cons rfl ?_) sub_st (by kernel_rfl)
  refine D_nodeR #[true, true, false, true, true, true, true, false, false, true, true, false, false, true, true, false, false, false, false, false, false, false, false, false, false] (fun x : Nat => [(6, .slice (some ⟨x, 0, none⟩) 0 0), (1, .pointer (some ⟨b1, 0, none⟩)), (2, .pointer (some ⟨b2, 0, none⟩)), (4, .agg (lgc s.base p.A p.n p.c).toArray), (9, .slice p.cA p.cn p.cc), (13, .slice p.vA p.vn p.vc), (17, .slice p.pA p.pn p.pc)]) (fun x : Nat => [pt x 3 [], pt b1 42 (rfc s p), pt b2 42 (rfc rs0 rp0)]) (fun x => ?_) (fun nd18 => ?_)
  · skip
    revert x; intro bi
    try dsimp only
    refine D_three 2 8 12 rfl rfl rfl (E_hvG (f := 62) ⟨_, Tryz.func62, rfl, by kernel_rfl⟩ (fun w hS => copyD_any w s.base p.A p.c p.n p.Q s.es h.lg.hn h.lg.hQ (h.keep hS.kpO).lg.rq (h.keep hS.kpO).lg.dt h.lg.hm h.lg.hd) rfl rfl) (E_lit1 (m := 0) (vs := []) rfl rfl rfl rfl rfl rfl rfl (by simp) (by decide)) (E_litS (vs := []) (size := 3) (ds := []) rfl rfl rfl rfl rfl rfl (by simp) rfl (by omega)) ?_ ?_ ?_ rfl rfl rfl rfl rfl rfl (by kernel_rfl)
    · rintro _ _ ⟨⟨⟨A5, c5⟩, P5⟩, rfl, hc5, rfl⟩; dsimp only [List.cons_append, List.nil_append]
      refine Nx_same sub_st ?_
      refine dt 16 rfl (pev_ok rfl) ?_
      have h := nd10 (A5, c5, P5, bi)
      try dsimp only at h
      exact D_at h (by repeat first | exact Sub.nil | refine Sub.cons rfl ?_) sub_st (by kernel_rfl)
    · rintro _ _ ⟨bv_, rfl, rfl⟩
      refine Nx_same sub_st ?_
      have h := nd15 (bi, bv_)
      try dsimp only at h
      exact D_at h (by repeat first | exact Sub.nil | refine Sub.cons rfl ?_) sub_st (by kernel_rfl)
    · rintro _ _ ⟨bq, rfl, rfl⟩
      refine Nx_same sub_st ?_
      have h := nd16 (bi, bq)
      try dsimp only at h
      exact D_at h (by repeat first | exact Sub.nil | refine Sub.cons rfl ?_) sub_st (by kernel_rfl)
  refine D_nodeR #[true, true, false, false, true, true, true, false, true, true, true, false, false, true, true, false, false, false, false, false, false, false, false, false, false] (fun x : Nat => [(11, .slice (some ⟨x, 0, none⟩) 0 0), (1, .pointer (some ⟨b1, 0, none⟩)), (2, .pointer (some ⟨b2, 0, none⟩)), (4, .agg (lgc s.base p.A p.n p.c).toArray), (9, .slice p.cA p.cn p.cc), (13, .slice p.vA p.vn p.vc), (17, .slice p.pA p.pn p.pc)]) (fun x : Nat => [pt x 3 [], pt b1 42 (rfc s p), pt b2 42 (rfc rs0 rp0)]) (fun x => ?_) (fun nd19 => ?_)
  · skip
    revert x; intro bv_
    try dsimp only
    refine D_three 2 3 12 rfl rfl rfl (E_hvG (f := 62) ⟨_, Tryz.func62, rfl, by kernel_rfl⟩ (fun w hS => copyD_any w s.base p.A p.c p.n p.Q s.es h.lg.hn h.lg.hQ (h.keep hS.kpO).lg.rq (h.keep hS.kpO).lg.dt h.lg.hm h.lg.hd) rfl rfl) (E_lit1 (m := 0) (vs := []) rfl rfl rfl rfl rfl rfl rfl (by simp) (by decide)) (E_litS (vs := []) (size := 3) (ds := []) rfl rfl rfl rfl rfl rfl (by simp) rfl (by omega)) ?_ ?_ ?_ rfl rfl rfl rfl rfl rfl (by kernel_rfl)
    · rintro _ _ ⟨⟨⟨A5, c5⟩, P5⟩, rfl, hc5, rfl⟩; dsimp only [List.cons_append, List.nil_append]
      refine Nx_same sub_st ?_
      refine dt 16 rfl (pev_ok rfl) ?_
      have h := nd11 (A5, c5, P5, bv_)
      try dsimp only at h
      exact D_at h (by repeat first | exact Sub.nil | refine Sub.cons rfl ?_) sub_st (by kernel_rfl)
    · rintro _ _ ⟨bi, rfl, rfl⟩
      refine Nx_same sub_st ?_
      have h := nd15 (bi, bv_)
      try dsimp only at h
      exact D_at h (by repeat first | exact Sub.nil | refine Sub.cons rfl ?_) sub_st (by kernel_rfl)
    · rintro _ _ ⟨bq, rfl, rfl⟩
      refine Nx_same sub_st ?_
      have h := nd17 (bv_, bq)
      try dsimp only at h
      exact D_at h (by repeat first | exact Sub.nil | refine Sub.cons rfl ?_) sub_st (by kernel_rfl)
  refine D_nodeR #[true, true, false, false, true, true, true, false, false, true, true, false, true, true, true, false, false, false, false, false, false, false, false, false, false] (fun x : Nat => [(15, .slice (some ⟨x, 0, none⟩) 0 0), (1, .pointer (some ⟨b1, 0, none⟩)), (2, .pointer (some ⟨b2, 0, none⟩)), (4, .agg (lgc s.base p.A p.n p.c).toArray), (9, .slice p.cA p.cn p.cc), (13, .slice p.vA p.vn p.vc), (17, .slice p.pA p.pn p.pc)]) (fun x : Nat => [pt x 112 [], pt b1 42 (rfc s p), pt b2 42 (rfc rs0 rp0)]) (fun x => ?_) (fun nd20 => ?_)
  · skip
    revert x; intro bq
    try dsimp only
    refine D_three 2 3 8 rfl rfl rfl (E_hvG (f := 62) ⟨_, Tryz.func62, rfl, by kernel_rfl⟩ (fun w hS => copyD_any w s.base p.A p.c p.n p.Q s.es h.lg.hn h.lg.hQ (h.keep hS.kpO).lg.rq (h.keep hS.kpO).lg.dt h.lg.hm h.lg.hd) rfl rfl) (E_lit1 (m := 0) (vs := []) rfl rfl rfl rfl rfl rfl rfl (by simp) (by decide)) (E_lit1 (m := 0) (vs := []) rfl rfl rfl rfl rfl rfl rfl (by simp) (by decide)) ?_ ?_ ?_ rfl rfl rfl rfl rfl rfl (by kernel_rfl)
    · rintro _ _ ⟨⟨⟨A5, c5⟩, P5⟩, rfl, hc5, rfl⟩; dsimp only [List.cons_append, List.nil_append]
      refine Nx_same sub_st ?_
      refine dt 16 rfl (pev_ok rfl) ?_
      have h := nd12 (A5, c5, P5, bq)
      try dsimp only at h
      exact D_at h (by repeat first | exact Sub.nil | refine Sub.cons rfl ?_) sub_st (by kernel_rfl)
    · rintro _ _ ⟨bi, rfl, rfl⟩
      refine Nx_same sub_st ?_
      have h := nd16 (bi, bq)
      try dsimp only at h
      exact D_at h (by repeat first | exact Sub.nil | refine Sub.cons rfl ?_) sub_st (by kernel_rfl)
    · rintro _ _ ⟨bv_, rfl, rfl⟩
      refine Nx_same sub_st ?_
      have h := nd17 (bv_, bq)
      try dsimp only at h
      exact D_at h (by repeat first | exact Sub.nil | refine Sub.cons rfl ?_) sub_st (by kernel_rfl)
  refine D_nodeR #[true, true, false, false, true, true, true, false, false, true, true, false, false, true, true, false, false, false, false, false, false, false, false, false, false] (fun _ : Unit => [(1, .pointer (some ⟨b1, 0, none⟩)), (2, .pointer (some ⟨b2, 0, none⟩)), (4, .agg (lgc s.base p.A p.n p.c).toArray), (9, .slice p.cA p.cn p.cc), (13, .slice p.vA p.vn p.vc), (17, .slice p.pA p.pn p.pc)]) (fun _ : Unit => [pt b1 42 (rfc s p), pt b2 42 (rfc rs0 rp0)]) (fun x => ?_) (fun nd21 => ?_)
  · skip
    obtain ⟨⟩ := x
    try dsimp only
    refine D_four 2 3 8 12 rfl rfl rfl rfl (E_hvG (f := 62) ⟨_, Tryz.func62, rfl, by kernel_rfl⟩ (fun w hS => copyD_any w s.base p.A p.c p.n p.Q s.es h.lg.hn h.lg.hQ (h.keep hS.kpO).lg.rq (h.keep hS.kpO).lg.dt h.lg.hm h.lg.hd) rfl rfl) (E_lit1 (m := 0) (vs := []) rfl rfl rfl rfl rfl rfl rfl (by simp) (by decide)) (E_lit1 (m := 0) (vs := []) rfl rfl rfl rfl rfl rfl rfl (by simp) (by decide)) (E_litS (vs := []) (size := 3) (ds := []) rfl rfl rfl rfl rfl rfl (by simp) rfl (by omega)) ?_ ?_ ?_ ?_ rfl rfl rfl rfl rfl rfl rfl rfl (by kernel_rfl)
    · rintro _ _ ⟨⟨⟨A5, c5⟩, P5⟩, rfl, hc5, rfl⟩; dsimp only [List.cons_append, List.nil_append]
      refine Nx_same sub_st ?_
      refine dt 16 rfl (pev_ok rfl) ?_
      have h := nd14 (A5, c5, P5)
      try dsimp only at h
      exact D_at h (by repeat first | exact Sub.nil | refine Sub.cons rfl ?_) sub_st (by kernel_rfl)
    · rintro _ _ ⟨bi, rfl, rfl⟩
      refine Nx_same sub_st ?_
      have h := nd18 (bi)
      try dsimp only at h
      exact D_at h (by repeat first | exact Sub.nil | refine Sub.cons rfl ?_) sub_st (by kernel_rfl)
    · rintro _ _ ⟨bv_, rfl, rfl⟩
      refine Nx_same sub_st ?_
      have h := nd19 (bv_)
      try dsimp only at h
      exact D_at h (by repeat first | exact Sub.nil | refine Sub.cons rfl ?_) sub_st (by kernel_rfl)
    · rintro _ _ ⟨bq, rfl, rfl⟩
      refine Nx_same sub_st ?_
      have h := nd20 (bq)
      try dsimp only at h
      exact D_at h (by repeat first | exact Sub.nil | refine Sub.cons rfl ?_) sub_st (by kernel_rfl)
  have h := nd21 ()
  try dsimp only at h
  exact D_at h (by repeat first | exact Sub.nil | refine Sub.cons rfl ?_) sub_st (by kernel_rfl)
  obtain ⟨A5, c5, P5, bi, A6, c6, bv_, A7, c7, bq⟩ := x
  try dsimp only
  refine D_one 15 rfl (E_apple (gb := bq) (sz := 3) (A2 := p.pA) (m2 := p.pn) (c2 := p.pc) (news := cellsL pec s.peers) rfl rfl rfl rfl rfl rfl rfl (by decide) (by first | exact .here | exact .there .here | exact .there (.there .here)) (Srd.old hp (fun k _ => noOwns k)) (pe_ones _) (by show p.pn * 24 ≤ _; omega) (by unfold maxLen; omega)) ?_ rfl rfl (by kernel_rfl)
  rintro _ _ ⟨A8, c8, rfl, rfl⟩
  refine Nx_same sub_st ?_
  refine D_one 17 rfl (E_storeA (gb := b1) (t := 42) (cs := rfc s p) (ds := lgc s.base A5 p.n c5) (cs' := rfc s ⟨A5, p.n, c5, P5.1, p.cA, p.cn, p.cc, p.vA, p.vn, p.vc, p.pA, p.pn, p.pc⟩) rfl rfl rfl rfl (lgc_one _ _ _ _) rfl (by show 3 + 3 ≤ 14; omega)) ?_ rfl rfl (by kernel_rfl)
  rintro _ _ rfl
  refine Nx_pivot (by kernel_rfl) ?_
  refine dt 18 rfl (pev_ok rfl) ?_
  refine dt 19 rfl (pev_ok rfl) ?_
  refine D_one 20 rfl (E_storeA1 (gb := b1) (t := 42) (cs := rfc s ⟨A5, p.n, c5, P5.1, p.cA, p.cn, p.cc, p.vA, p.vn, p.vc, p.pA, p.pn, p.pc⟩) (cs' := rfc s ⟨A5, p.n, c5, P5.1, A6, p.cn, c6, p.vA, p.vn, p.vc, p.pA, p.pn, p.pc⟩) rfl rfl rfl rfl rfl rfl (by show 6 < 14; omega)) ?_ rfl rfl (by kernel_rfl)
  rintro _ _ rfl
  refine Nx_pivot (by kernel_rfl) ?_
  refine dt 21 rfl (pev_ok rfl) ?_
  refine D_one 22 rfl (E_storeA1 (gb := b1) (t := 42) (cs := rfc s ⟨A5, p.n, c5, P5.1, A6, p.cn, c6, p.vA, p.vn, p.vc, p.pA, p.pn, p.pc⟩) (cs' := rfc s ⟨A5, p.n, c5, P5.1, A6, p.cn, c6, A7, p.vn, c7, p.pA, p.pn, p.pc⟩) rfl rfl rfl rfl rfl rfl (by show 12 < 14; omega)) ?_ rfl rfl (by kernel_rfl)
  rintro _ _ rfl
  refine Nx_pivot (by kernel_rfl) ?_
  refine dt 23 rfl (pev_ok rfl) ?_
  refine D_one 24 rfl (E_storeA1 (gb := b1) (t := 42) (cs := rfc s ⟨A5, p.n, c5, P5.1, A6, p.cn, c6, A7, p.vn, c7, p.pA, p.pn, p.pc⟩) (cs' := rfc s ⟨A5, p.n, c5, P5.1, A6, p.cn, c6, A7, p.vn, c7, A8, p.pn, c8⟩) rfl rfl rfl rfl rfl rfl (by show 13 < 14; omega)) ?_ rfl rfl (by kernel_rfl)
  rintro _ _ rfl
  refine Nx_pivot (by kernel_rfl) ?_
  refine D_done ?_ (by kernel_rfl)
  skip
  focus (refine qs ?_; refine qt (T_loads (ds := rfc s ⟨A5, p.n, c5, P5.1, A6, p.cn, c6, A7, p.vn, c7, A8, p.pn, c8⟩) rfl rfl rfl rfl rfl) ?_; (refine qw (E_storew (cs := rfc rs0 rp0) (ds := rfc s ⟨A5, p.n, c5, P5.1, A6, p.cn, c6, A7, p.vn, c7, A8, p.pn, c8⟩) rfl rfl rfl rfl (rfc_one _ _) rfl) ?_; rintro _ _ rfl); refine qz ?_)
  refine hB _ _ _ _ _ rfl (.cell rfl rfl rfl inferInstance rfl .nil) fun w' hS => ⟨⟨A5, p.n, c5, P5.1, A6, p.cn, c6, A7, p.vn, c7, A8, p.pn, c8⟩, rfl, ⟨⟨P5.2.1, by rw [← List.length_map (f := emv), P5.2.1]; exact h.lg.ln, h.lg.hcn, h.hvn, h.hpn⟩, rfl, rfl, rfl, rfl⟩, sub_st (H' := rfO s ⟨A5, p.n, c5, P5.1, A6, p.cn, c6, A7, p.vn, c7, A8, p.pn, c8⟩) w' hS⟩
end Go.Proofs.YtdeffdldifepkaaGreat
namespace Go.Proofs.YtdeffdldifepkaaGreat
open Go.RowKit
open Asn (pt row rb)
set_option linter.unusedVariables false
set_option linter.unusedSimpArgs false
--@use N

theorem chk_right {x : Rs} (h : checkB x = true) : rightB x.base x.es = true := by
  cases hr : rightB x.base x.es
  · simp [checkB, chkE, hr] at h
  · rfl
theorem lastP_is {x : Rs} (h : rightB x.base x.es = true) : lastP x = lastA x.base x.es := if_pos h
theorem rf0 (w : World) : RfR w rs0 rp0 := ⟨⟨rfl, Nat.zero_le _, Nat.le_refl _, rfl, Rd.none_, fun m hm => absurd hm (by simp [rp0]), fun m hm => absurd hm (by simp [rp0]), rfl, Nat.zero_le _, Rd.none_⟩, rfl, Nat.zero_le _, Rd.none_, rfl, Nat.zero_le _, Rd.none_, ⟨by decide, by decide, by decide, by decide, fun p hp => absurd hp (by simp [rs0])⟩⟩
set_option maxRecDepth 100000 in
set_option maxHeartbeats 4000000 in
theorem none15_any (w : World) (x : Rs) (p : Rp) (h : RfR w x p) (r : Bool) (hr : (sameL x rs0).all id = r) :
    Gives Tryz.prog 21 [.agg (rfc x p).toArray] [] w (X := Unit) (fun _ => .bool r) (fun _ => True) (fun _ => []) := by
  refine gives_S Tryz.func21 rfl Tryz.ntmps21 Tryz.results21 (by simp) (St.enter w) (fun B hB => ?_)
  focus (refine qs ?_; (refine qe (E_boxa (cs := rfc x p) rfl) ?_; rintro _ _ ⟨b1, rfl, rfl⟩); refine qp ?_; refine qn ?_; refine qt (T_loads (ds := rfc x p) rfl rfl rfl rfl rfl) ?_; refine qt (T_build0 rf_built0) ?_; (refine qe (E_hv0 (f := 22) ⟨_, Tryz.func22, rfl, by kernel_rfl⟩ (fun w hS => sameR_k w x rs0 p rp0 (h.keep hS.kpO) (rf0 w) r hr) rfl rfl (fun _ => rfl)) ?_; rintro _ _ ⟨_, rfl, _, rfl⟩); refine qp ?_; refine qz ?_)
  exact hB _ _ _ _ _ rfl rfl fun w' hS => ⟨(), rfl, trivial, hS.sublist (List.nil_sublist _)⟩
set_option maxRecDepth 100000 in
set_option maxHeartbeats 4000000 in
theorem allD_k (w : World) (x : Rs) (p : Rp) (h : LgR w x p) (hrb : rightB x.base x.es = true) (n : Nat) (hn : (lastP x).1 = n) :
    Gives Tryz.prog 99 [.agg (rfc x p).toArray] [] w (X := Unit) (fun _ => .int .u64 (n : Int)) (fun _ => True) (fun _ => []) := by
  refine gives_S Tryz.func99 rfl Tryz.ntmps99 Tryz.results99 (by simp) (St.enter w) (fun B hB => ?_)
  have hn1 := h.hm
  have hf := right_fits hrb
  have hln := h.ln
  subst hn
  rw [lastP_is hrb] at hB
  focus (refine qs ?_; (refine qe (E_boxa (cs := rfc x p) rfl) ?_; rintro _ _ ⟨b1, rfl, rfl⟩); refine qp ?_; refine qn ?_; refine qp ?_; refine qt (T_loads (ds := lgc x.base p.A p.n p.c) rfl rfl rfl rfl rfl) ?_; (refine qe (E_hv0 (f := 67) ⟨_, Tryz.func67, rfl, by kernel_rfl⟩ (fun w hS => lastD_any w x.base p.A p.c p.n p.Q x.es h.hn h.hQ (h.keep hS.kpO).rq (by omega) (by omega) _ rfl) rfl rfl (fun _ => rfl)) ?_; rintro _ _ ⟨_, rfl, _, rfl⟩); refine qt (T_fldv (xs := atc (lastA x.base x.es)) rfl rfl rfl rfl rfl rfl) ?_; refine qp ?_; refine qz ?_)
  exact hB _ _ _ _ _ rfl rfl fun w' hS => ⟨(), rfl, trivial, hS.sublist (List.nil_sublist _)⟩
theorem confDk (w : World) (a : At) (A : Option Addr) (c k : Nat) (Q : List Em) (l : List En) (hk : Q.length = k) (hl : Q.map emv = l) (h : Rd w All 3 A k (cellsL emc Q)) (hd : RDt w All (Q.map emd)) (hn : k ≤ 1000) (hkk : ∀ m ∈ Q, m.2.2.2.2.length ≤ 100000) (hr0 : rightB a l = true) (idx : Nat) (ri : Nat) (rbs : List UInt8) (rq : Bool) (N : Nat) (hN : rbs.length = N) (hs : confR a l idx = (ri, rbs, rq)) :
    Gives Tryz.prog 102 [.agg (lgc a A k c).toArray, .int .u64 (idx : Int)] [] w (X := Option Addr × Nat) (fun x => .tuple #[.int .u64 (ri : Int), .slice x.1 N x.2, .bool rq]) (fun _ => True) (fun x => [row 5 1 x.1 N x.2 (rbs.map bv)]) := confD_any w a A c k Q l hk hl h hd hn hkk hr0 idx ri rbs rq N hN hs
set_option maxRecDepth 100000 in
set_option maxHeartbeats 4000000 in
theorem forceD_k (w : World) (x : Rs) (p : Rp) (D : Kw) (hD : Kd D [] w) (h : ∀ w', D w' → LgR w' x p) (hrb : rightB x.base x.es = true) (idx : Nat) (ms : List Int) (hms : forceL x idx = ms) :
    Gives Tryz.prog 98 [.agg (rfc x p).toArray, .int .u64 (idx : Int)] [] w (X := (Option Addr × Nat × Nat) × Asn) (fun y => C.cfv y.1.1 ms.length y.1.2.2) (fun y => ∀ w', K2 D y.2 w' → Rd w' All 1 y.1.1 ms.length (ms.map zv)) (fun y => [y.2]) := by
  refine gives_C Tryz.func98 rfl Tryz.ntmps98 Tryz.results98 (by simp) (St.enter w) (fun B hB => ?_)
  obtain ⟨⟨ri, rbs, rq⟩, hs⟩ : ∃ z, confR x.base x.es idx = z := ⟨_, rfl⟩
  obtain ⟨N, hN⟩ : ∃ N, rbs.length = N := ⟨_, rfl⟩
  have hw := h w hD.now
  have hn1 := hw.hm
  have hn2 := hw.hcm
  have hN2 : N ≤ 100000 := by
    have := conf_len (idx := idx) hw.ed
    rw [hs] at this
    have this : rbs.length ≤ 100000 := this
    omega
  rw [forceL, hs] at hms
  cases rq
  · obtain rfl : x.cf = ms := by rw [← hms]; rfl
    focus (refine qs ?_; (refine qe (E_boxa (cs := rfc x p) rfl) ?_; rintro _ _ ⟨b2, rfl, rfl⟩); (refine qe (E_alloca rfl C.cf_alloc) ?_; rintro _ _ ⟨b4, rfl, rfl⟩); refine qz ?_; refine qq ?_; refine qs ?_; refine qp ?_; refine qt (T_loads (ds := lgc x.base p.A p.n p.c) rfl rfl rfl rfl rfl) ?_; refine qp ?_; (refine qe (E_hv1 (f := 102) ⟨_, Tryz.func102, rfl, by kernel_rfl⟩ (fun w' hS => confDk w' x.base p.A p.c p.n p.Q x.es hw.hn hw.hQ (h w' (hD.at_ hS)).rq (h w' (hD.at_ hS)).dt hn1 hw.hd hrb idx ri rbs _ N hN hs) rfl rfl (fun _ => rfl)) ?_; rintro _ _ ⟨⟨Ab, cb⟩, rfl, _, rfl⟩); (iterate 7 refine qp ?_); refine qn ?_; refine qp ?_; refine qz ?_; refine qF ?_; refine qx ?_; refine qs ?_; refine qp ?_; refine qt (T_loads (ds := [.slice p.cA p.cn p.cc]) rfl rfl rfl rfl rfl) ?_; (refine qw (E_storew (cs := [.slice none 0 0]) (ds := [.slice p.cA p.cn p.cc]) rfl rfl rfl rfl (C.sl_one _ _ _) rfl) ?_; rintro _ _ rfl); refine qz ?_)
    rw [hw.hcn] at hB
    refine hB _ _ _ _ _ rfl (.cell rfl rfl rfl inferInstance rfl .nil) fun w' hS => ⟨((p.cA, p.cn, p.cc), zN), rfl, fun w2 h2 => (h w2 h2.1).rc, zN_in (hS.sublist (List.nil_sublist _))⟩
  · obtain rfl : C.decL rbs = ms := by rw [← hms]; rfl
    obtain ⟨K, hK⟩ : ∃ K, (C.decL rbs).length = K := ⟨_, rfl⟩
    rw [hK] at hB
    focus (refine qs ?_; (refine qe (E_boxa (cs := rfc x p) rfl) ?_; rintro _ _ ⟨b2, rfl, rfl⟩); (refine qe (E_alloca rfl C.cf_alloc) ?_; rintro _ _ ⟨b4, rfl, rfl⟩); refine qz ?_; refine qq ?_; refine qs ?_; refine qp ?_; refine qt (T_loads (ds := lgc x.base p.A p.n p.c) rfl rfl rfl rfl rfl) ?_; refine qp ?_; (refine qe (E_hv1 (f := 102) ⟨_, Tryz.func102, rfl, by kernel_rfl⟩ (fun w' hS => confDk w' x.base p.A p.c p.n p.Q x.es hw.hn hw.hQ (h w' (hD.at_ hS)).rq (h w' (hD.at_ hS)).dt hn1 hw.hd hrb idx ri rbs _ N hN hs) rfl rfl (fun _ => rfl)) ?_; rintro _ _ ⟨⟨Ab, cb⟩, rfl, _, rfl⟩); (iterate 3 refine qp ?_); refine qd ?_; refine qp ?_; refine qp ?_; refine qd ?_; refine qn ?_; refine qd ?_; refine qz ?_; refine qT ?_; refine qs ?_; refine qp ?_; (refine qe (E_hv1 (f := 101) ⟨_, Tryz.func101, rfl, by kernel_rfl⟩ (fun w' hS => decD_k w' Ab N cb rbs (row_bs (e := 5) hS (by simp) hN) hN2 _ rfl _ rfl K hK) rfl rfl (fun _ => rfl)) ?_; rintro _ _ ⟨⟨A3, c3⟩, rfl, _, rfl⟩); (iterate 3 refine qp ?_); (refine qe (E_alloca rfl C.cf_alloc) ?_; rintro _ _ ⟨b4, rfl, rfl⟩); (refine qw (E_storew (cs := [.slice none 0 0]) (ds := [.slice A3 K c3]) rfl rfl rfl rfl (C.sl_one _ _ _) rfl) ?_; rintro _ _ rfl); refine qp ?_; refine qn ?_; refine qt (T_loads (ds := [.slice A3 K c3]) rfl rfl rfl rfl rfl) ?_; (refine qw (E_storew (cs := [.slice none 0 0]) (ds := [.slice A3 K c3]) rfl rfl rfl rfl (C.sl_one _ _ _) rfl) ?_; rintro _ _ rfl); refine qz ?_)
    refine hB _ _ _ _ _ rfl (.cell rfl rfl rfl inferInstance rfl .nil) fun w' hS => ⟨((A3, K, c3), row 3 1 A3 K c3 ((C.decL rbs).map zv)), rfl, fun w2 h2 => row_rd h2.2, sub_st (H' := [row 3 1 A3 K c3 ((C.decL rbs).map zv)]) w' hS⟩
set_option maxRecDepth 100000 in
set_option maxHeartbeats 4000000 in
theorem nowD_k (w : World) (x : Rs) (p : Rp) (D : Kw) (hD : Kd D [] w) (h : ∀ w', D w' → LgR w' x p) (hrb : rightB x.base x.es = true) (ms : List Int) (hms : nowL x = ms) :
    Gives Tryz.prog 32 [.agg (rfc x p).toArray] [] w (X := (Option Addr × Nat × Nat) × Asn) (fun y => C.cfv y.1.1 ms.length y.1.2.2) (fun y => ∀ w', K2 D y.2 w' → Rd w' All 1 y.1.1 ms.length (ms.map zv)) (fun y => [y.2]) := by
  refine gives_C Tryz.func32 rfl Tryz.ntmps32 Tryz.results32 (by simp) (St.enter w) (fun B hB => ?_)
  focus (refine qs ?_; (refine qe (E_boxa (cs := rfc x p) rfl) ?_; rintro _ _ ⟨b2, rfl, rfl⟩); (refine qe (E_alloca rfl C.cf_alloc) ?_; rintro _ _ ⟨b4, rfl, rfl⟩); refine qz ?_; refine qq ?_)
  refine S_draw ([pt b2 42 (rfc x p)]) sub_st (by kernel_rfl) rfl (by kernel_rfl) (by kernel_rfl : _ = 5) ?_
  refine dt 0 rfl (T_loads (ds := rfc x p) rfl rfl rfl rfl rfl) ?_
  refine dt 1 rfl (T_loads (ds := rfc x p) rfl rfl rfl rfl rfl) ?_
  refine D_one 2 rfl (E_hv0 (f := 99) ⟨_, Tryz.func99, rfl, by kernel_rfl⟩ (fun w1 hS1 => allD_k w1 x p (h w1 (hD.at_ hS1)) hrb _ rfl) rfl rfl (fun _ => rfl)) ?_ rfl rfl (by kernel_rfl)
  rintro _ _ ⟨_, rfl, _, rfl⟩
  refine Nx_same sub_st ?_
  refine D_one 3 rfl (E_hv1 (f := 98) ⟨_, Tryz.func98, rfl, by kernel_rfl⟩ (fun w1 hS1 => forceD_k w1 x p D (hD.call0 hS1) h hrb _ ms hms) rfl rfl (fun _ => rfl)) ?_ rfl rfl (by kernel_rfl)
  rintro _ _ ⟨⟨⟨A3, K3, c3⟩, Z3⟩, rfl, hI3, rfl⟩
  refine Nx_same sub_st ?_
  refine D_one 4 rfl (E_storew (cs := [.slice none 0 0]) (ds := [.slice A3 ms.length c3]) rfl rfl rfl rfl (C.sl_one _ _ _) rfl) ?_ rfl rfl (by kernel_rfl)
  rintro _ _ rfl
  refine Nx_pivot (by kernel_rfl) ?_
  refine D_done ?_ (by kernel_rfl)
  skip
  skip
  refine hB _ _ _ _ _ rfl (.cell rfl rfl rfl inferInstance rfl .nil) fun w' hS => ⟨((A3, K3, c3), Z3), rfl, hI3, sub_st (H' := [Z3]) w' hS⟩
end Go.Proofs.YtdeffdldifepkaaGreat
namespace Go.Proofs.YtdeffdldifepkaaGreat
open Go.RowKit
open Asn (pt row rb)
set_option linter.unusedVariables false
set_option linter.unusedSimpArgs false
--@use N

theorem rf_lg {x : Rs} {p : Rp} {w : World} (h : LgR w x p) : Kd (fun w' => LgR w' x p) [] w := fun w' hk => h.keep (hk.mono fun k _ _ => noOwns k)
theorem lastP_k2 (w : World) (x : Rs) (p : Rp) (h : LgR w x p) :
    Gives Tryz.prog 50 [.agg (lgc x.base p.A p.n p.c).toArray] [] w (X := Unit) (fun _ => .agg (atc (lastP x)).toArray) (fun _ => True) (fun _ => []) := lastP_k w x.base p.A p.c p.n p.Q x.es h.hn h.hQ h.rq (Nat.le_trans h.hm (by decide)) (lastP x) rfl
set_option maxRecDepth 100000 in
set_option maxHeartbeats 4000000 in
theorem rForce_bad (w : World) (x : Rs) (p : Rp) (h : RfR w x p) (hck : checkB x = false) :
    Gives Tryz.prog 29 [.agg (rfc x p).toArray] [] w (X := Unit) (fun _ => .tuple #[C.cfv none 0 0, zi 250]) (fun _ => True) (fun _ => []) := by
  refine gives_C Tryz.func29 rfl Tryz.ntmps29 Tryz.results29 (by simp) (St.enter w) (fun B hB => ?_)
  focus (refine qs ?_; (refine qe (E_boxa (cs := rfc x p) rfl) ?_; rintro _ _ ⟨b1, rfl, rfl⟩); (refine qe (E_alloca rfl C.cf_alloc) ?_; rintro _ _ ⟨b2, rfl, rfl⟩); refine qp ?_; refine qz ?_; refine qq ?_; refine qs ?_; refine qt (T_loads (ds := rfc x p) rfl rfl rfl rfl rfl) ?_; (refine qe (E_hv0 (f := 30) ⟨_, Tryz.func30, rfl, by kernel_rfl⟩ (fun w1 hS1 => rcheck_any w1 x p (h.keep hS1.kpO) false hck) rfl rfl (fun _ => rfl)) ?_; rintro _ _ ⟨_, rfl, _, rfl⟩); refine qp ?_; refine qz ?_; refine qT ?_; refine qs ?_; refine qt (T_build0 C.cf_built0) ?_; (refine qw (E_storew (cs := [.slice none 0 0]) (ds := [.slice none 0 0]) rfl rfl rfl rfl (C.sl_one _ _ _) rfl) ?_; rintro _ _ rfl); refine qp ?_; refine qz ?_)
  refine hB _ _ _ _ _ rfl (.cell rfl rfl rfl inferInstance rfl (.tmp rfl .nil)) fun w' hS => ⟨(), rfl, trivial, hS.sublist (List.nil_sublist _)⟩
set_option maxRecDepth 100000 in
set_option maxHeartbeats 4000000 in
theorem rForce_ok (w : World) (x : Rs) (p : Rp) (h : RfR w x p) (hck : checkB x = true) (ms : List Int) (hms : nowL x = ms) (hn5 : ms.length ≤ 1000) :
    Gives Tryz.prog 29 [.agg (rfc x p).toArray] [] w (X := Option Addr × Nat) (fun y => .tuple #[C.cfv y.1 ms.length y.2, zi 0]) (fun _ => True) (fun y => [row 3 1 y.1 ms.length y.2 (ms.map zv)]) := by
  refine gives_C Tryz.func29 rfl Tryz.ntmps29 Tryz.results29 (by simp) (St.enter w) (fun B hB => ?_)
  focus (refine qs ?_; (refine qe (E_boxa (cs := rfc x p) rfl) ?_; rintro _ _ ⟨b1, rfl, rfl⟩); (refine qe (E_alloca rfl C.cf_alloc) ?_; rintro _ _ ⟨b2, rfl, rfl⟩); refine qp ?_; refine qz ?_; refine qq ?_; refine qs ?_; refine qt (T_loads (ds := rfc x p) rfl rfl rfl rfl rfl) ?_; (refine qe (E_hv0 (f := 30) ⟨_, Tryz.func30, rfl, by kernel_rfl⟩ (fun w1 hS1 => rcheck_any w1 x p (h.keep hS1.kpO) true hck) rfl rfl (fun _ => rfl)) ?_; rintro _ _ ⟨_, rfl, _, rfl⟩); refine qp ?_; refine qz ?_; refine qF ?_; refine qx ?_; refine qq ?_)
  refine S_cut (X := (Option Addr × Nat × Nat) × Asn × Nat) (fun y => [(2, .pointer (some ⟨b2, 0, none⟩)), (4, .pointer (some ⟨y.2.2, 0, none⟩))]) (fun y => [pt y.2.2 33 [.slice y.1.1 ms.length y.1.2.2], y.2.1, pt b2 33 [.slice none 0 0]]) (fun y => ∀ w', K2 (fun w' => LgR w' x p) y.2.1 w' → Rd w' All 1 y.1.1 ms.length (ms.map zv)) (fun J2 hJ2 => ?_) (fun y hy => ?_)
  · skip
    refine S_draw ([pt b1 42 (rfc x p)]) sub_st (by kernel_rfl) rfl (by kernel_rfl) (by kernel_rfl : _ = 8) ?_
    refine dt 0 rfl (T_loads (ds := rfc x p) rfl rfl rfl rfl rfl) ?_
    refine dt 1 rfl (pev_ok rfl) ?_
    refine dt 2 rfl (T_loads (ds := lgc x.base p.A p.n p.c) rfl rfl rfl rfl rfl) ?_
    refine D_two 3 6 (by decide) rfl rfl (E_hv0 (f := 50) ⟨_, Tryz.func50, rfl, by kernel_rfl⟩ (fun w1 hS1 => lastP_k2 w1 x p (h.keep hS1.kpO).lg) rfl rfl (fun _ => rfl)) (E_alloca rfl C.cf_alloc) ?_ ?_ rfl rfl rfl rfl (by kernel_rfl)
    · rintro _ _ ⟨_, rfl, _, rfl⟩
      refine Nx_same sub_st ?_
      refine dt 4 rfl (T_fldv (xs := atc (lastP x)) rfl rfl rfl rfl rfl rfl) ?_
      refine D_two 5 6 (by decide) rfl rfl (E_hv1 (f := 53) ⟨_, Tryz.func53, rfl, by kernel_rfl⟩ (fun w1 hS1 => rforce_k w1 x p (fun w' => LgR w' x p) (rf_lg (h.keep hS1.kpO).lg) (fun _ h => h) _ ms hms) rfl rfl (fun _ => rfl)) (E_alloca rfl C.cf_alloc) ?_ ?_ rfl rfl rfl rfl (by kernel_rfl)
      · rintro _ _ ⟨⟨⟨A3, K3, c3⟩, Z3⟩, rfl, hI3, rfl⟩
        refine Nx_same sub_st ?_
        refine D_one 6 rfl (E_alloca rfl C.cf_alloc) ?_ rfl rfl (by kernel_rfl)
        rintro _ _ ⟨b4, rfl, rfl⟩
        refine Nx_same sub_st ?_
        refine D_one 7 rfl (E_storew (cs := [.slice none 0 0]) (ds := [.slice A3 ms.length c3]) rfl rfl rfl rfl (C.sl_one _ _ _) rfl) ?_ rfl rfl (by kernel_rfl)
        rintro _ _ rfl
        refine Nx_same sub_st ?_
        refine D_done ?_ (by kernel_rfl)
        exact hJ2 ((A3, K3, c3), Z3, b4) _ _ hI3 (Sub.cons rfl (Sub.cons rfl Sub.nil)) sub_st
      · rintro _ _ ⟨b4, rfl, rfl⟩
        refine Nx_same sub_st ?_
        refine D_one 5 rfl (E_hv1 (f := 53) ⟨_, Tryz.func53, rfl, by kernel_rfl⟩ (fun w1 hS1 => rforce_k w1 x p (fun w' => LgR w' x p) (rf_lg (h.keep hS1.kpO).lg) (fun _ h => h) _ ms hms) rfl rfl (fun _ => rfl)) ?_ rfl rfl (by kernel_rfl)
        rintro _ _ ⟨⟨⟨A3, K3, c3⟩, Z3⟩, rfl, hI3, rfl⟩
        refine Nx_same sub_st ?_
        refine D_one 7 rfl (E_storew (cs := [.slice none 0 0]) (ds := [.slice A3 ms.length c3]) rfl rfl rfl rfl (C.sl_one _ _ _) rfl) ?_ rfl rfl (by kernel_rfl)
        rintro _ _ rfl
        refine Nx_same sub_st ?_
        refine D_done ?_ (by kernel_rfl)
        exact hJ2 ((A3, K3, c3), Z3, b4) _ _ hI3 (Sub.cons rfl (Sub.cons rfl Sub.nil)) sub_st
    · rintro _ _ ⟨b4, rfl, rfl⟩
      refine Nx_same sub_st ?_
      refine D_one 3 rfl (E_hv0 (f := 50) ⟨_, Tryz.func50, rfl, by kernel_rfl⟩ (fun w1 hS1 => lastP_k2 w1 x p (h.keep hS1.kpO).lg) rfl rfl (fun _ => rfl)) ?_ rfl rfl (by kernel_rfl)
      rintro _ _ ⟨_, rfl, _, rfl⟩
      refine Nx_same sub_st ?_
      refine dt 4 rfl (T_fldv (xs := atc (lastP x)) rfl rfl rfl rfl rfl rfl) ?_
      refine D_one 5 rfl (E_hv1 (f := 53) ⟨_, Tryz.func53, rfl, by kernel_rfl⟩ (fun w1 hS1 => rforce_k w1 x p (fun w' => LgR w' x p) (rf_lg (h.keep hS1.kpO).lg) (fun _ h => h) _ ms hms) rfl rfl (fun _ => rfl)) ?_ rfl rfl (by kernel_rfl)
      rintro _ _ ⟨⟨⟨A3, K3, c3⟩, Z3⟩, rfl, hI3, rfl⟩
      refine Nx_same sub_st ?_
      refine D_one 7 rfl (E_storew (cs := [.slice none 0 0]) (ds := [.slice A3 ms.length c3]) rfl rfl rfl rfl (C.sl_one _ _ _) rfl) ?_ rfl rfl (by kernel_rfl)
      rintro _ _ rfl
      refine Nx_same sub_st ?_
      refine D_done ?_ (by kernel_rfl)
      exact hJ2 ((A3, K3, c3), Z3, b4) _ _ hI3 (Sub.cons rfl (Sub.cons rfl Sub.nil)) sub_st
  obtain ⟨⟨A3, K3, c3⟩, Z3, b4⟩ := y
  dsimp only at hy ⊢
  focus (refine qs ?_; refine qp ?_; refine qt (T_load rfl rfl rfl rfl) ?_; (refine qe (E_hv1 (f := 92) ⟨_, Tryz.func92, rfl, by kernel_rfl⟩ (fun w hS => C.clone_any w A3 ms.length c3 (ms.map zv) (hy w ⟨(h.keep hS.kpO).lg, hS.at_ (A := Z3) (by simp)⟩) (C.zv_ones _) hn5) rfl rfl (fun _ => rfl)) ?_; rintro _ _ ⟨⟨A5, c5⟩, rfl, _, rfl⟩); refine qt (T_build1 rfl (C.cf_built1 _ _ _)) ?_; (refine qw (E_storew (cs := [.slice none 0 0]) (ds := [.slice A5 ms.length c5]) rfl rfl rfl rfl (C.sl_one _ _ _) rfl) ?_; rintro _ _ rfl); refine qp ?_; refine qz ?_)
  refine hB _ _ _ _ _ rfl (.cell rfl rfl rfl inferInstance rfl (.tmp rfl .nil)) fun w' hS => ⟨(A5, c5), rfl, trivial, sub_st (H' := [row 3 1 A5 ms.length c5 (ms.map zv)]) w' hS⟩
end Go.Proofs.YtdeffdldifepkaaGreat
namespace Go.Proofs.YtdeffdldifepkaaGreat
open Go.RowKit Go.ChangeShapes Go.WideShapes Go.ChangeAt
open Asn (pt row rb)
set_option linter.unusedVariables false
set_option linter.unusedSimpArgs false
--@use N

theorem rpz {x : Rs} {p q : Rp} {w w' : World} (h : RfR w x p) (hq : RpOk x q) (n1 : q.n = p.n) (n2 : q.cn = p.cn) (n3 : q.vn = p.vn) (n4 : q.pn = p.pn) (hb : (bun (rfO x q)).holds w') : RfR w' x q :=
  rfO_rf (bun_all hb) hq (n1 ▸ h.lg.hm) (n2 ▸ h.lg.hcm) (n3 ▸ h.hvm) (n4 ▸ h.hpm) h.lg.ed h.hu
theorem copied15_any (w : World) (x : Rs) (p : Rp) (h : RfR w x p) :
    Gives Tryz.prog 19 [.agg (rfc x p).toArray] [] w (X := Rp × Asn) (fun y => .agg (rfc x y.1).toArray) (fun y => ∀ w', y.2.holds w' → RfR w' x y.1) (fun y => [y.2]) :=
  (copied15_own w x p h).mono fun u w' ⟨q, he, ⟨hq, h1, h2, h3, h4⟩, hS⟩ => ⟨(q, bun (rfO x q)), he, fun w2 h5 => rpz h hq h1 h2 h3 h4 h5, bun_in (L := rfO x q) (H := []) hS⟩
/-- a server that begins as another one says -/
def stX (x : Rs) : Rs := ⟨x.me, x.term, x.vote, x.base, x.es, x.cf, x.base.1, 1, 0, 0, x.limit, [], []⟩
def stP (p : Rp) : Rp := ⟨p.A, p.n, p.c, p.Q, p.cA, p.cn, p.cc, none, 0, 0, none, 0, 0⟩
theorem RfR.st {w : World} {x : Rs} {p : Rp} (h : RfR w x p) : RfR w (stX x) (stP p) :=
  ⟨h.lg.like rfl rfl rfl rfl rfl rfl rfl rfl, rfl, Nat.zero_le _, Rd.none_, rfl, Nat.zero_le _, Rd.none_, ⟨h.hu.tm, h.hu.b1, h.hu.b2, h.hu.b1, fun p hp => absurd hp (by simp [stX])⟩⟩
theorem startZ_ok (w : World) (x : Rs) (p : Rp) (h : RfR w x p) (hr : checkB (stX x) = true) :
    Gives Tryz.prog 10 [.int .i64 x.me, .int .u64 (x.term : Int), .int .i64 x.vote, .agg (lgc x.base p.A p.n p.c).toArray, C.cfv p.cA p.cn p.cc, .int .i64 x.limit] [] w (X := Rp × Asn) (fun y => .tuple #[.agg (rfc (stX x) y.1).toArray, zi 0]) (fun y => ∀ w', y.2.holds w' → RfR w' (stX x) y.1) (fun y => [y.2]) :=
  (start_ok w x.me x.term x.vote x.base x.es x.cf x.limit p.A p.n p.c p.Q p.cA p.cn p.cc h.st hr).mono fun u w' ⟨q, he, ⟨hq, h1, h2, h3, h4⟩, hS⟩ => ⟨(q, bun (rfO (stX x) q)), he, fun w2 h5 => rpz h.st hq h1 h2 h3 h4 h5, bun_in (L := rfO (stX x) q) (H := []) hS⟩
theorem startZ_bad (w : World) (x : Rs) (p : Rp) (h : RfR w x p) (hr : checkB (stX x) = false) :
    Gives Tryz.prog 10 [.int .i64 x.me, .int .u64 (x.term : Int), .int .i64 x.vote, .agg (lgc x.base p.A p.n p.c).toArray, C.cfv p.cA p.cn p.cc, .int .i64 x.limit] [] w (X := Unit) (fun _ => .tuple #[.agg (rfc rs0 rp0).toArray, zi 2]) (fun _ => True) (fun _ => []) :=
  start_bad w x.me x.term x.vote x.base x.es x.cf x.limit p.A p.n p.c p.Q p.cA p.cn p.cc h.st hr
set_option maxRecDepth 100000 in
set_option maxHeartbeats 4000000 in
theorem starts_walk (w : World) (x : Rs) (p : Rp) (h : RfW w x p) :
    Gives Tryz.prog 5 [.agg (rfc x p).toArray] [] w (X := Unit) (fun _ => .bool true) (fun _ => True) (fun _ => []) := by
  refine gives_S Tryz.func5 rfl Tryz.ntmps5 Tryz.results5 (by simp) (St.enter w) (fun B hB => ?_)
  rcases Classical.em (Small p) with hsm | hsm
  rotate_left
  · skip
    focus (refine qs ?_; (refine qe (E_boxa (cs := rfc x p) rfl) ?_; rintro _ _ ⟨b1, rfl, rfl⟩); refine qp ?_; refine qz ?_; refine qq ?_; refine qs ?_; (refine qe (E_hv0 (f := 9) ⟨_, Tryz.func9, rfl, by kernel_rfl⟩ (fun w1 _ => wakes15_any w1) rfl rfl (fun _ => rfl)) ?_; rintro _ _ ⟨_, rfl, _, rfl⟩); refine qt (T_not rfl) ?_; refine qz ?_; refine qF ?_; refine qx ?_; refine qq ?_; refine qs ?_; refine qt (T_loads (ds := rfc x p) rfl rfl rfl rfl rfl) ?_; (refine qe (E_hv0 (f := 18) ⟨_, Tryz.func18, rfl, by kernel_rfl⟩ (fun w1 hS1 => large15_k w1 x p (h.keep hS1.kpO) true ⟨fun e => (by cases e), fun s => absurd s hsm⟩) rfl rfl (fun _ => rfl)) ?_; rintro _ _ ⟨_, rfl, _, rfl⟩); refine qz ?_; refine qT ?_; refine qs ?_; refine qd ?_; refine qz ?_)
    exact hB _ _ _ _ _ rfl rfl fun w' hS => ⟨(), rfl, trivial, hS.sublist (List.nil_sublist _)⟩
  have hr := h.rf hsm
  focus (refine qs ?_; (refine qe (E_boxa (cs := rfc x p) rfl) ?_; rintro _ _ ⟨b1, rfl, rfl⟩); refine qp ?_; refine qz ?_; refine qq ?_; refine qs ?_; (refine qe (E_hv0 (f := 9) ⟨_, Tryz.func9, rfl, by kernel_rfl⟩ (fun w1 _ => wakes15_any w1) rfl rfl (fun _ => rfl)) ?_; rintro _ _ ⟨_, rfl, _, rfl⟩); refine qt (T_not rfl) ?_; refine qz ?_; refine qF ?_; refine qx ?_; refine qq ?_; refine qs ?_; refine qt (T_loads (ds := rfc x p) rfl rfl rfl rfl rfl) ?_; (refine qe (E_hv0 (f := 18) ⟨_, Tryz.func18, rfl, by kernel_rfl⟩ (fun w1 hS1 => large15_k w1 x p (h.keep hS1.kpO) false ⟨fun _ => hsm, fun _ => rfl⟩) rfl rfl (fun _ => rfl)) ?_; rintro _ _ ⟨_, rfl, _, rfl⟩); refine qz ?_; refine qF ?_; refine qx ?_; refine qs ?_; refine qt (T_loads (ds := rfc x p) rfl rfl rfl rfl rfl) ?_; (refine qe (E_hv1 (f := 19) ⟨_, Tryz.func19, rfl, by kernel_rfl⟩ (fun w1 hS1 => copied15_any w1 x p (hr.keep hS1.kpO)) rfl rfl (fun _ => rfl)) ?_; rintro _ _ ⟨⟨q, Zq⟩, rfl, hq, rfl⟩; dsimp only at hq); (refine qe (E_alloca rfl rf_zero) ?_; rintro _ _ ⟨b3, rfl, rfl⟩); (refine qw (E_storew (cs := rfc rs0 rp0) (ds := rfc x q) rfl rfl rfl rfl (rfc_one _ _) rfl) ?_; rintro _ _ rfl); refine qn ?_; (iterate 3 refine qp ?_; refine qt (T_load rfl rfl rfl rfl) ?_); refine qp ?_; refine qt (T_loads (ds := lgc x.base q.A q.n q.c) rfl rfl rfl rfl rfl) ?_; refine qp ?_; refine qt (T_loads (ds := [.slice q.cA q.cn q.cc]) rfl rfl rfl rfl rfl) ?_; refine qp ?_; refine qt (T_load rfl rfl rfl rfl) ?_)
  cases hck : checkB (stX x)
  · skip
    focus ((refine qe (E_hv0 (f := 10) ⟨_, Tryz.func10, rfl, by kernel_rfl⟩ (fun w1 hS1 => startZ_bad w1 x q (hq w1 (hS1.at_ (A := Zq) (by simp))) hck) rfl rfl (fun _ => rfl)) ?_; rintro _ _ ⟨_, rfl, _, rfl⟩); (iterate 3 refine qp ?_); (refine qe (E_alloca rfl rf_zero) ?_; rintro _ _ ⟨b4, rfl, rfl⟩); (refine qw (E_storew (cs := rfc rs0 rp0) (ds := rfc rs0 rp0) rfl rfl rfl rfl (rfc_one _ _) rfl) ?_; rintro _ _ rfl); refine qp ?_; refine qn ?_; (iterate 3 refine qp ?_; refine qt (T_load rfl rfl rfl rfl) ?_); refine qp ?_; refine qt (T_loads (ds := lgc x.base p.A p.n p.c) rfl rfl rfl rfl rfl) ?_; refine qp ?_; refine qt (T_loads (ds := [.slice p.cA p.cn p.cc]) rfl rfl rfl rfl rfl) ?_; (iterate 3 refine qp ?_); refine qt (T_load rfl rfl rfl rfl) ?_; refine qp ?_; refine qt (T_load rfl rfl rfl rfl) ?_; refine qt (T_build8 rfl rfl rfl rfl rfl rfl rfl rfl (rf_built8 _ _ _ _ _ _ _ _ _ _ _ _)) ?_; (refine qe (E_alloca rfl rf_zero) ?_; rintro _ _ ⟨b4, rfl, rfl⟩); (refine qw (E_storew (cs := rfc rs0 rp0) (ds := rfc (stX x) (stP p)) rfl rfl rfl rfl (rfc_one _ _) rfl) ?_; rintro _ _ rfl); refine qz ?_; refine qq ?_; refine qs ?_; refine qt (T_loads (ds := rfc (stX x) (stP p)) rfl rfl rfl rfl rfl) ?_; (refine qe (E_hv0 (f := 20) ⟨_, Tryz.func20, rfl, by kernel_rfl⟩ (fun w1 hS1 => rightR_any w1 (stX x) (stP p) (hr.keep hS1.kpO).st false hck) rfl rfl (fun _ => rfl)) ?_; rintro _ _ ⟨_, rfl, _, rfl⟩); refine qt (T_not rfl) ?_; refine qz ?_; refine qT ?_; refine qs ?_; refine qt (T_loads (ds := rfc rs0 rp0) rfl rfl rfl rfl rfl) ?_; (refine qe (E_hv0 (f := 21) ⟨_, Tryz.func21, rfl, by kernel_rfl⟩ (fun w1 hS1 => none15_any w1 rs0 rp0 (rf0 w1) true (by decide)) rfl rfl (fun _ => rfl)) ?_; rintro _ _ ⟨_, rfl, _, rfl⟩); refine qd ?_; refine qp ?_; (iterate 3 refine qd ?_); refine qz ?_)
    exact hB _ _ _ _ _ rfl rfl fun w' hS => ⟨(), rfl, trivial, hS.sublist (List.nil_sublist _)⟩
  · skip
    focus ((refine qe (E_hv1 (f := 10) ⟨_, Tryz.func10, rfl, by kernel_rfl⟩ (fun w1 hS1 => startZ_ok w1 x q (hq w1 (hS1.at_ (A := Zq) (by simp))) hck) rfl rfl (fun _ => rfl)) ?_; rintro _ _ ⟨⟨q2, Z2⟩, rfl, hq2, rfl⟩; dsimp only at hq2); (iterate 3 refine qp ?_); (refine qe (E_alloca rfl rf_zero) ?_; rintro _ _ ⟨b4, rfl, rfl⟩); (refine qw (E_storew (cs := rfc rs0 rp0) (ds := rfc (stX x) q2) rfl rfl rfl rfl (rfc_one _ _) rfl) ?_; rintro _ _ rfl); refine qp ?_; refine qn ?_; (iterate 3 refine qp ?_; refine qt (T_load rfl rfl rfl rfl) ?_); refine qp ?_; refine qt (T_loads (ds := lgc x.base p.A p.n p.c) rfl rfl rfl rfl rfl) ?_; refine qp ?_; refine qt (T_loads (ds := [.slice p.cA p.cn p.cc]) rfl rfl rfl rfl rfl) ?_; (iterate 3 refine qp ?_); refine qt (T_load rfl rfl rfl rfl) ?_; refine qp ?_; refine qt (T_load rfl rfl rfl rfl) ?_; refine qt (T_build8 rfl rfl rfl rfl rfl rfl rfl rfl (rf_built8 _ _ _ _ _ _ _ _ _ _ _ _)) ?_; (refine qe (E_alloca rfl rf_zero) ?_; rintro _ _ ⟨b4, rfl, rfl⟩); (refine qw (E_storew (cs := rfc rs0 rp0) (ds := rfc (stX x) (stP p)) rfl rfl rfl rfl (rfc_one _ _) rfl) ?_; rintro _ _ rfl); refine qz ?_; refine qq ?_; refine qs ?_; refine qt (T_loads (ds := rfc (stX x) (stP p)) rfl rfl rfl rfl rfl) ?_; (refine qe (E_hv0 (f := 20) ⟨_, Tryz.func20, rfl, by kernel_rfl⟩ (fun w1 hS1 => rightR_any w1 (stX x) (stP p) (hr.keep hS1.kpO).st true hck) rfl rfl (fun _ => rfl)) ?_; rintro _ _ ⟨_, rfl, _, rfl⟩); refine qt (T_not rfl) ?_; refine qz ?_; refine qF ?_; refine qx ?_; refine qs ?_; refine qp ?_; refine qd ?_; refine qd ?_; refine qt (T_loads (ds := rfc (stX x) q2) rfl rfl rfl rfl rfl) ?_; refine qt (T_loads (ds := rfc (stX x) (stP p)) rfl rfl rfl rfl rfl) ?_; (refine qe (E_hv0 (f := 22) ⟨_, Tryz.func22, rfl, by kernel_rfl⟩ (fun w1 hS1 => sameR_k w1 (stX x) (stX x) q2 (stP p) (hq2 w1 (hS1.at_ (A := Z2) (by simp))) (hr.keep hS1.kpO).st true ((same_iff _ _).2 rfl)) rfl rfl (fun _ => rfl)) ?_; rintro _ _ ⟨_, rfl, _, rfl⟩); refine qd ?_; refine qd ?_; refine qz ?_)
    exact hB _ _ _ _ _ rfl rfl fun w' hS => ⟨(), rfl, trivial, hS.sublist (List.nil_sublist _)⟩
set_option maxRecDepth 100000 in
theorem RaftStarts_open {H : Type} {enc : TypeId × Value → H} (W : World) {r : Reach} (base : Nat) (v0 : Value) {d0 : DataW H} {p0 : List MemPlace}
    (hv0 : Value.okWide Tryz.prog W r base 42 v0)
    (h0 : DataW.Trod enc Tryz.prog W 0 (fun _ => true) true 42 v0 d0 p0) :
    Calls Tryz.prog 5 #[v0] W fun e w' => e = .returned (.bool true) ∧ Kp All W w' := by
  obtain ⟨x, p, rfl, h⟩ := open_raft hv0 h0
  exact (starts_walk W x p h).pure12
end Go.Proofs.YtdeffdldifepkaaGreat
namespace Go.Proofs.YtdeffdldifepkaaGreat
open Go.RowKit Go.ChangeShapes Go.WideShapes Go.ChangeAt
open Asn (pt row rb)
set_option linter.unusedVariables false
set_option linter.unusedSimpArgs false
--@use N

theorem bnr (r : Bool) : (r != r) = false := by cases r <;> rfl
theorem decL_le (l : List UInt8) : (C.decL l).length ≤ 5 := by
  unfold C.decL
  split
  · rename_i h
    unfold C.decE at h
    split at h
    · cases h
    · split at h
      · rename_i h2
        exact (C.right_len h2.2).2
      · cases h
  · exact Nat.zero_le _
theorem force_le {x : Rs} (h : C.right x.cf = true) (idx : Nat) : (forceL x idx).length ≤ 5 := by
  unfold forceL
  split
  · exact decL_le _
  · exact (C.right_len h).2
theorem chk_conf {x : Rs} (h : checkB x = true) : C.right x.cf = true := by
  cases hr : C.right x.cf
  · simp [checkB, hr] at h
  · rfl
theorem now_le {x : Rs} (h : checkB x = true) : (nowL x).length ≤ 5 := force_le (chk_conf h) _
theorem same14_k (w : World) (A A2 : Option Addr) (n c n2 c2 : Nat) (ms ks : List Int) (h : Rd w All 1 A n (ms.map zv)) (h2 : Rd w All 1 A2 n2 (ks.map zv)) (hn : n ≤ 1000) (hn2 : n2 ≤ 1000) (r : Bool) (hr : decide (ms = ks) = r) :
    Gives Tryz.prog 31 [C.cfv A n c, C.cfv A2 n2 c2] [] w (X := Unit) (fun _ => .bool r) (fun _ => True) (fun _ => []) := hr ▸ C.rsame_any w A A2 n c n2 c2 ms ks h h2 hn hn2
set_option maxRecDepth 100000 in
set_option maxHeartbeats 4000000 in
theorem may_walk (w : World) (x y : Rs) (p q : Rp) (h : RfW w x p) (h2 : RfW w y q) :
    Gives Tryz.prog 7 [.agg (rfc x p).toArray, .agg (rfc y q).toArray] [] w (X := Unit) (fun _ => .bool true) (fun _ => True) (fun _ => []) := by
  refine gives_S Tryz.func7 rfl Tryz.ntmps7 Tryz.results7 (by simp) (St.enter w) (fun B hB => ?_)
  rcases Classical.em (Small p) with hsm | hsm
  rotate_left
  · skip
    focus (refine qs ?_; (refine qe (E_boxa (cs := rfc x p) rfl) ?_; rintro _ _ ⟨b2, rfl, rfl⟩); (refine qe (E_boxa (cs := rfc y q) rfl) ?_; rintro _ _ ⟨b3, rfl, rfl⟩); refine qp ?_; refine qz ?_; refine qq ?_; refine qs ?_; (refine qe (E_hv0 (f := 9) ⟨_, Tryz.func9, rfl, by kernel_rfl⟩ (fun w1 _ => wakes15_any w1) rfl rfl (fun _ => rfl)) ?_; rintro _ _ ⟨_, rfl, _, rfl⟩); refine qt (T_not rfl) ?_; refine qz ?_; refine qF ?_; refine qx ?_; refine qq ?_; refine qs ?_; refine qt (T_loads (ds := rfc x p) rfl rfl rfl rfl rfl) ?_; (refine qe (E_hv0 (f := 18) ⟨_, Tryz.func18, rfl, by kernel_rfl⟩ (fun w1 hS1 => large15_k w1 x p (h.keep hS1.kpO) true ⟨fun e => (by cases e), fun s => absurd s hsm⟩) rfl rfl (fun _ => rfl)) ?_; rintro _ _ ⟨_, rfl, _, rfl⟩); refine qd ?_; refine qk ?_; refine qk ?_; refine qd ?_; refine qz ?_; refine qT ?_; refine qs ?_; refine qd ?_; refine qz ?_)
    exact hB _ _ _ _ _ rfl rfl fun w' hS => ⟨(), rfl, trivial, hS.sublist (List.nil_sublist _)⟩
  rcases Classical.em (Small q) with hsn | hsn
  rotate_left
  · skip
    focus (refine qs ?_; (refine qe (E_boxa (cs := rfc x p) rfl) ?_; rintro _ _ ⟨b2, rfl, rfl⟩); (refine qe (E_boxa (cs := rfc y q) rfl) ?_; rintro _ _ ⟨b3, rfl, rfl⟩); refine qp ?_; refine qz ?_; refine qq ?_; refine qs ?_; (refine qe (E_hv0 (f := 9) ⟨_, Tryz.func9, rfl, by kernel_rfl⟩ (fun w1 _ => wakes15_any w1) rfl rfl (fun _ => rfl)) ?_; rintro _ _ ⟨_, rfl, _, rfl⟩); refine qt (T_not rfl) ?_; refine qz ?_; refine qF ?_; refine qx ?_; refine qq ?_; refine qs ?_; refine qt (T_loads (ds := rfc x p) rfl rfl rfl rfl rfl) ?_; (refine qe (E_hv0 (f := 18) ⟨_, Tryz.func18, rfl, by kernel_rfl⟩ (fun w1 hS1 => large15_k w1 x p (h.keep hS1.kpO) false ⟨fun _ => hsm, fun _ => rfl⟩) rfl rfl (fun _ => rfl)) ?_; rintro _ _ ⟨_, rfl, _, rfl⟩); refine qp ?_; refine qt (T_loads (ds := rfc y q) rfl rfl rfl rfl rfl) ?_; (refine qe (E_hv0 (f := 18) ⟨_, Tryz.func18, rfl, by kernel_rfl⟩ (fun w1 hS1 => large15_k w1 y q (h2.keep hS1.kpO) true ⟨fun e => (by cases e), fun s => absurd s hsn⟩) rfl rfl (fun _ => rfl)) ?_; rintro _ _ ⟨_, rfl, _, rfl⟩); refine qd ?_; refine qz ?_; refine qT ?_; refine qs ?_; refine qd ?_; refine qz ?_)
    exact hB _ _ _ _ _ rfl rfl fun w' hS => ⟨(), rfl, trivial, hS.sublist (List.nil_sublist _)⟩
  have hr := h.rf hsm
  have hy := h2.rf hsn
  obtain ⟨r, hrs⟩ : ∃ r, (sameL x y).all id = r := ⟨_, rfl⟩
  focus (refine qs ?_; (refine qe (E_boxa (cs := rfc x p) rfl) ?_; rintro _ _ ⟨b2, rfl, rfl⟩); (refine qe (E_boxa (cs := rfc y q) rfl) ?_; rintro _ _ ⟨b3, rfl, rfl⟩); refine qp ?_; refine qz ?_; refine qq ?_; refine qs ?_; (refine qe (E_hv0 (f := 9) ⟨_, Tryz.func9, rfl, by kernel_rfl⟩ (fun w1 _ => wakes15_any w1) rfl rfl (fun _ => rfl)) ?_; rintro _ _ ⟨_, rfl, _, rfl⟩); refine qt (T_not rfl) ?_; refine qz ?_; refine qF ?_; refine qx ?_; refine qq ?_; refine qs ?_; refine qt (T_loads (ds := rfc x p) rfl rfl rfl rfl rfl) ?_; (refine qe (E_hv0 (f := 18) ⟨_, Tryz.func18, rfl, by kernel_rfl⟩ (fun w1 hS1 => large15_k w1 x p (h.keep hS1.kpO) false ⟨fun _ => hsm, fun _ => rfl⟩) rfl rfl (fun _ => rfl)) ?_; rintro _ _ ⟨_, rfl, _, rfl⟩); refine qp ?_; refine qt (T_loads (ds := rfc y q) rfl rfl rfl rfl rfl) ?_; (refine qe (E_hv0 (f := 18) ⟨_, Tryz.func18, rfl, by kernel_rfl⟩ (fun w1 hS1 => large15_k w1 y q (h2.keep hS1.kpO) false ⟨fun _ => hsn, fun _ => rfl⟩) rfl rfl (fun _ => rfl)) ?_; rintro _ _ ⟨_, rfl, _, rfl⟩); refine qp ?_; refine qz ?_; refine qF ?_; refine qx ?_; refine qq ?_; refine qq ?_)
  refine S_cut (X := Unit) (fun _ => [(2, .pointer (some ⟨b2, 0, none⟩)), (3, .pointer (some ⟨b3, 0, none⟩)), (28, .bool false)]) (fun _ => [pt b2 42 (rfc x p), pt b3 42 (rfc y q)]) (fun _ => True) (fun J2 hJ2 => ?_) (fun _ _ => ?_)
  · skip
    refine S_draw ([pt b2 42 (rfc x p), pt b3 42 (rfc y q)]) sub_st (by kernel_rfl) rfl (by kernel_rfl) (by kernel_rfl : _ = 14) ?_
    refine dt 0 rfl (T_loads (ds := rfc x p) rfl rfl rfl rfl rfl) ?_
    refine dt 1 rfl (T_loads (ds := rfc y q) rfl rfl rfl rfl rfl) ?_
    refine dt 3 rfl (T_loads (ds := rfc x p) rfl rfl rfl rfl rfl) ?_
    refine dt 4 rfl (T_loads (ds := rfc y q) rfl rfl rfl rfl rfl) ?_
    refine D_one 2 rfl (E_hv0 (f := 28) ⟨_, Tryz.func28, rfl, by kernel_rfl⟩ (fun w1 hS1 => rsame_k w1 x y p q (hr.keep hS1.kpO) (hy.keep hS1.kpO) r hrs) rfl rfl (fun _ => rfl)) ?_ rfl rfl (by kernel_rfl)
    rintro _ _ ⟨_, rfl, _, rfl⟩
    refine Nx_same sub_st ?_
    refine D_one 5 rfl (E_hv0 (f := 22) ⟨_, Tryz.func22, rfl, by kernel_rfl⟩ (fun w1 hS1 => sameR_k w1 x y p q (hr.keep hS1.kpO) (hy.keep hS1.kpO) r hrs) rfl rfl (fun _ => rfl)) ?_ rfl rfl (by kernel_rfl)
    rintro _ _ ⟨_, rfl, _, rfl⟩
    refine Nx_same sub_st ?_
    refine dt 6 rfl (T_bnq rfl rfl rfl rfl (bnr r)) ?_
    refine dt 7 rfl (pev_ok rfl) ?_
    refine dt 8 rfl (T_loads (ds := rfc x p) rfl rfl rfl rfl rfl) ?_
    refine dt 9 rfl (T_loads (ds := rfc x p) rfl rfl rfl rfl rfl) ?_
    refine D_one 10 rfl (E_hv1 (f := 19) ⟨_, Tryz.func19, rfl, by kernel_rfl⟩ (fun w1 hS1 => copied15_any w1 x p (hr.keep hS1.kpO)) rfl rfl (fun _ => rfl)) ?_ rfl rfl (by kernel_rfl)
    rintro _ _ ⟨⟨q1, Z1⟩, rfl, hq1, rfl⟩; dsimp only at hq1
    refine Nx_same sub_st ?_
    refine D_one 11 rfl (E_hv0 (f := 28) ⟨_, Tryz.func28, rfl, by kernel_rfl⟩ (fun w1 hS1 => rsame_k w1 x x p q1 (hr.keep hS1.kpO) (hq1 w1 (hS1.at_ (A := Z1) (by simp))) true ((same_iff _ _).2 rfl)) rfl rfl (fun _ => rfl)) ?_ rfl rfl (by kernel_rfl)
    rintro _ _ ⟨_, rfl, _, rfl⟩
    refine Nx_same sub_st ?_
    refine dt 12 rfl (T_not rfl) ?_
    refine dt 13 rfl (pev_ok rfl) ?_
    refine D_done ?_ (by kernel_rfl)
    exact hJ2 () _ _ trivial (Sub.cons rfl (Sub.cons rfl (Sub.cons rfl Sub.nil))) sub_st
  focus (refine qF ?_; refine qx ?_; refine qs ?_)
  cases hck : checkB x
  · skip
    focus (refine qt (T_loads (ds := rfc x p) rfl rfl rfl rfl rfl) ?_; (refine qe (E_hv1 (f := 19) ⟨_, Tryz.func19, rfl, by kernel_rfl⟩ (fun w1 hS1 => copied15_any w1 x p (hr.keep hS1.kpO)) rfl rfl (fun _ => rfl)) ?_; rintro _ _ ⟨⟨q3, Zq3⟩, rfl, hq3, rfl⟩; dsimp only at hq3); (refine qe (E_hv0 (f := 29) ⟨_, Tryz.func29, rfl, by kernel_rfl⟩ (fun w1 hS1 => rForce_bad w1 x q3 (hq3 w1 (hS1.at_ (A := Zq3) (by simp))) hck) rfl rfl (fun _ => rfl)) ?_; rintro _ _ ⟨_, rfl, _, rfl⟩); (iterate 3 refine qp ?_); (refine qe (E_alloca rfl C.cf_alloc) ?_; rintro _ _ ⟨b5, rfl, rfl⟩); (refine qw (E_storew (cs := [.slice none 0 0]) (ds := [.slice none 0 0]) rfl rfl rfl rfl (C.sl_one _ _ _) rfl) ?_; rintro _ _ rfl); refine qp ?_; refine qz ?_; refine qq ?_; refine qs ?_; refine qt (T_loads (ds := rfc x p) rfl rfl rfl rfl rfl) ?_; (refine qe (E_hv0 (f := 20) ⟨_, Tryz.func20, rfl, by kernel_rfl⟩ (fun w1 hS1 => rightR_any w1 x p (hr.keep hS1.kpO) false hck) rfl rfl (fun _ => rfl)) ?_; rintro _ _ ⟨_, rfl, _, rfl⟩); refine qt (T_not rfl) ?_; refine qz ?_; refine qT ?_; refine qs ?_; refine qt (T_loads (ds := rfc x p) rfl rfl rfl rfl rfl) ?_; (refine qe (E_hv1 (f := 19) ⟨_, Tryz.func19, rfl, by kernel_rfl⟩ (fun w1 hS1 => copied15_any w1 x p (hr.keep hS1.kpO)) rfl rfl (fun _ => rfl)) ?_; rintro _ _ ⟨⟨q3, Zq3⟩, rfl, hq3, rfl⟩; dsimp only at hq3); (refine qe (E_hv0 (f := 30) ⟨_, Tryz.func30, rfl, by kernel_rfl⟩ (fun w1 hS1 => rcheck_any w1 x q3 (hq3 w1 (hS1.at_ (A := Zq3) (by simp))) false hck) rfl rfl (fun _ => rfl)) ?_; rintro _ _ ⟨_, rfl, _, rfl⟩); (iterate 3 refine qp ?_); refine qt (T_load rfl rfl rfl rfl) ?_; (iterate 2 refine qp ?_; (iterate 3 refine qd ?_)); refine qz ?_)
    exact hB _ _ _ _ _ rfl rfl fun w' hS => ⟨(), rfl, trivial, hS.sublist (List.nil_sublist _)⟩
  · have hn5 : (nowL x).length ≤ 1000 := Nat.le_trans (now_le hck) (by decide)
    focus (refine qt (T_loads (ds := rfc x p) rfl rfl rfl rfl rfl) ?_; (refine qe (E_hv1 (f := 19) ⟨_, Tryz.func19, rfl, by kernel_rfl⟩ (fun w1 hS1 => copied15_any w1 x p (hr.keep hS1.kpO)) rfl rfl (fun _ => rfl)) ?_; rintro _ _ ⟨⟨q3, Zq3⟩, rfl, hq3, rfl⟩; dsimp only at hq3); (refine qe (E_hv1 (f := 29) ⟨_, Tryz.func29, rfl, by kernel_rfl⟩ (fun w1 hS1 => rForce_ok w1 x q3 (hq3 w1 (hS1.at_ (A := Zq3) (by simp))) hck (nowL x) rfl hn5) rfl rfl (fun _ => rfl)) ?_; rintro _ _ ⟨⟨A5, c5⟩, rfl, _, rfl⟩); (iterate 3 refine qp ?_); (refine qe (E_alloca rfl C.cf_alloc) ?_; rintro _ _ ⟨b5, rfl, rfl⟩); (refine qw (E_storew (cs := [.slice none 0 0]) (ds := [.slice A5 (nowL x).length c5]) rfl rfl rfl rfl (C.sl_one _ _ _) rfl) ?_; rintro _ _ rfl); refine qp ?_; refine qz ?_; refine qq ?_; refine qs ?_; refine qt (T_loads (ds := rfc x p) rfl rfl rfl rfl rfl) ?_; (refine qe (E_hv0 (f := 20) ⟨_, Tryz.func20, rfl, by kernel_rfl⟩ (fun w1 hS1 => rightR_any w1 x p (hr.keep hS1.kpO) true hck) rfl rfl (fun _ => rfl)) ?_; rintro _ _ ⟨_, rfl, _, rfl⟩); refine qt (T_not rfl) ?_; refine qz ?_; refine qF ?_; refine qx ?_; refine qq ?_)
    refine S_draw ([pt b2 42 (rfc x p), pt b5 33 [.slice A5 (nowL x).length c5]]) sub_st (by kernel_rfl) rfl (by kernel_rfl) (by kernel_rfl : _ = 15) ?_
    refine dt 0 rfl (T_loads (ds := rfc x p) rfl rfl rfl rfl rfl) ?_
    refine D_one 1 rfl (E_hv1 (f := 19) ⟨_, Tryz.func19, rfl, by kernel_rfl⟩ (fun w1 hS1 => copied15_any w1 x p (hr.keep hS1.kpO)) rfl rfl (fun _ => rfl)) ?_ rfl rfl (by kernel_rfl)
    rintro _ _ ⟨⟨q4, Z4⟩, rfl, hq4, rfl⟩; dsimp only at hq4
    refine Nx_same sub_st ?_
    refine D_one 2 rfl (E_hv0 (f := 30) ⟨_, Tryz.func30, rfl, by kernel_rfl⟩ (fun w1 hS1 => rcheck_any w1 x q4 (hq4 w1 (hS1.at_ (A := Z4) (by simp))) true hck) rfl rfl (fun _ => rfl)) ?_ rfl rfl (by kernel_rfl)
    rintro _ _ ⟨_, rfl, _, rfl⟩
    refine Nx_same sub_st ?_
    refine dt 3 rfl (pev_ok rfl) ?_
    refine dt 4 rfl (pev_ok rfl) ?_
    refine dt 5 rfl (pev_ok rfl) ?_
    refine dt 6 rfl (T_decT rfl (by omega)) ?_
    refine dt 7 rfl (T_decT rfl (by omega)) ?_
    refine dt 8 rfl (T_decT rfl (by omega)) ?_
    refine dt 9 rfl (T_loads (ds := [.slice A5 (nowL x).length c5]) rfl rfl rfl rfl rfl) ?_
    refine dt 10 rfl (T_loads (ds := rfc x p) rfl rfl rfl rfl rfl) ?_
    refine D_one 11 rfl (E_hv1 (f := 32) ⟨_, Tryz.func32, rfl, by kernel_rfl⟩ (fun w1 hS1 => nowD_k w1 x p (fun w' => LgR w' x p) (rf_lg (hr.keep hS1.kpO).lg) (fun _ h => h) (chk_right hck) (nowL x) rfl) rfl rfl (fun _ => rfl)) ?_ rfl rfl (by kernel_rfl)
    rintro _ _ ⟨⟨⟨A6, K6, c6⟩, Z6⟩, rfl, hI6, rfl⟩; dsimp only at hI6
    refine Nx_same sub_st ?_
    refine D_one 12 rfl (E_hv0 (f := 31) ⟨_, Tryz.func31, rfl, by kernel_rfl⟩ (fun w1 hS1 => same14_k w1 A5 A6 (nowL x).length c5 (nowL x).length c6 (nowL x) (nowL x) (row_rd (hS1.at_ (A := row 3 1 A5 (nowL x).length c5 ((nowL x).map zv)) (by simp))) (hI6 w1 ⟨(hr.keep hS1.kpO).lg, hS1.at_ (A := Z6) (by simp)⟩) hn5 hn5 true (decide_eq_true rfl)) rfl rfl (fun _ => rfl)) ?_ rfl rfl (by kernel_rfl)
    rintro _ _ ⟨_, rfl, _, rfl⟩
    refine Nx_same sub_st ?_
    refine dt 13 rfl (T_decT rfl (by omega)) ?_
    refine dt 14 rfl (T_decT rfl (by omega)) ?_
    refine D_done ?_ (by kernel_rfl)
    skip
    skip
    exact hB _ _ _ _ _ rfl rfl fun w' hS => ⟨(), rfl, trivial, hS.sublist (List.nil_sublist _)⟩
set_option maxRecDepth 100000 in
theorem RaftMay_open {H : Type} {enc : TypeId × Value → H} (W : World) {r : Reach} (base : Nat) (v0 v1 : Value) {d0 d1 : DataW H} {p0 p1 : List MemPlace}
    (hv0 : Value.okWide Tryz.prog W r base 42 v0) (hv1 : Value.okWide Tryz.prog W r base 42 v1)
    (h0 : DataW.Trod enc Tryz.prog W 0 (fun _ => true) true 42 v0 d0 p0) (h1 : DataW.Trod enc Tryz.prog W 0 (fun _ => true) true 42 v1 d1 p1) :
    Calls Tryz.prog 7 #[v0, v1] W fun e w' => e = .returned (.bool true) ∧ Kp All W w' := by
  obtain ⟨x, p, rfl, h⟩ := open_raft hv0 h0
  obtain ⟨y, q, rfl, h2⟩ := open_raft hv1 h1
  exact (may_walk W x y p q h h2).pure12
end Go.Proofs.YtdeffdldifepkaaGreat
