/- The statement LogMatches. -/
import Derived.Test.YtkdpfnaaopimoaaLgS
namespace Go.Proofs.Ytkdpfnaaopimoaa
open Go.RowKit Go.ChangeShapes Go.WideShapes Go.ChangeAt
open Asn (pt row rb)
set_option linter.unusedVariables false
set_option linter.unusedSimpArgs false
--@use N

/-- an array of two: the w-th part, and the other one -/
def arrW (w : Nat) (x y : List Value) : List Value := if w = 0 then x ++ y else y ++ x
theorem two_cases {w : Nat} (h : w ≤ 1) : w = 0 ∨ w = 1 := by omega
theorem arr_me {w s : Nat} {x y : List Value} (hw : w ≤ 1) (hx : x.length = s) (hy : y.length = s) : ((arrW w x y).drop (0 + w * s)).take s = x := by
  rcases two_cases hw with rfl | rfl
  · show ((x ++ y).drop (0 + 0 * s)).take s = x
    rw [Nat.zero_mul, Nat.zero_add, List.drop_zero, ← hx, List.take_left]
  · show ((y ++ x).drop (0 + 1 * s)).take s = x
    have e : (y ++ x).drop s = x := by rw [← hy, List.drop_left]
    rw [Nat.one_mul, Nat.zero_add, e, List.take_of_length_le (by omega)]
theorem arr_ot {w s : Nat} {x y : List Value} (hw : w ≤ 1) (hx : x.length = s) (hy : y.length = s) : ((arrW w x y).drop (0 + (1 - w) * s)).take s = y := by
  rcases two_cases hw with rfl | rfl
  · show ((x ++ y).drop (0 + 1 * s)).take s = y
    have e : (x ++ y).drop s = y := by rw [← hx, List.drop_left]
    rw [Nat.one_mul, Nat.zero_add, e, List.take_of_length_le (by omega)]
  · show ((y ++ x).drop (0 + 0 * s)).take s = y
    rw [Nat.zero_mul, Nat.zero_add, List.drop_zero, ← hy, List.take_left]
theorem arr_at {w s : Nat} {x y : List Value} (hw : w ≤ 1) (hx : x.length = s) (hy : y.length = s) (k : Nat) {v : Value} (hv : x[k]? = some v) : (arrW w x y)[0 + w * s + k]? = some v := by
  have hk : k < x.length := (List.getElem?_eq_some_iff.1 hv).1
  rcases two_cases hw with rfl | rfl
  · simp only [arrW, if_pos, Nat.zero_mul, Nat.zero_add]
    rw [List.getElem?_append_left hk]
    exact hv
  · simp only [arrW, Nat.one_mul, Nat.zero_add]
    rw [if_neg (by decide), ← hy, List.getElem?_append_right (by omega), Nat.add_sub_cancel_left]
    exact hv
theorem arr_at1 {w : Nat} {x y : Value} (hw : w ≤ 1) : (arrW w [x] [y])[0 + w]? = some x := by
  rcases two_cases hw with rfl | rfl <;> rfl
theorem arr_put1 {w : Nat} {x y z : Value} (hw : w ≤ 1) : (arrW w [x] [y]).set (0 + w) z = arrW w [z] [y] := by
  rcases two_cases hw with rfl | rfl <;> rfl
theorem arr_len {w s : Nat} {x y : List Value} (hx : x.length = s) (hy : y.length = s) : (arrW w x y).length = s + s := by
  unfold arrW
  split <;> simp [hx, hy]
theorem arr_set {w s : Nat} {x y ds : List Value} (hw : w ≤ 1) (hx : x.length = s) (hy : y.length = s) (hd : ds.length = s) : (arrW w x y).take (0 + w * s) ++ ds ++ (arrW w x y).drop (0 + w * s + ds.length) = arrW w ds y := by
  rcases two_cases hw with rfl | rfl
  · simp only [arrW, if_pos, Nat.zero_mul, Nat.zero_add, List.take_zero, List.nil_append]
    rw [hd, ← hx, List.drop_left]
  · simp only [arrW, Nat.one_mul, Nat.zero_add]
    rw [if_neg (by decide), if_neg (by decide), ← hy, List.take_left, List.drop_of_length_le (by simp; omega), List.append_nil]
theorem arr_set2 {w s : Nat} {x y ds : List Value} (hw : w ≤ 1) (hx : x.length = s) (hy : y.length = s) (hd : ds.length = s) : (arrW w x y).take (0 + (1 - w) * s) ++ ds ++ (arrW w x y).drop (0 + (1 - w) * s + ds.length) = arrW w x ds := by
  rcases two_cases hw with rfl | rfl
  · simp only [arrW, if_pos, Nat.sub_zero, Nat.one_mul, Nat.zero_add]
    rw [← hx, List.take_left, List.drop_of_length_le (by simp; omega), List.append_nil]
  · simp only [arrW, Nat.sub_self, Nat.zero_mul, Nat.zero_add, List.take_zero, List.nil_append]
    rw [if_neg (by decide), if_neg (by decide), hd, ← hy, List.drop_left]
theorem arr_fit {w s : Nat} {x y ds : List Value} (hw : w ≤ 1) (hx : x.length = s) (hy : y.length = s) (hd : ds.length = s) : 0 + w * s + ds.length ≤ (arrW w x y).length := by
  rw [arr_len hx hy, hd]
  rcases two_cases hw with rfl | rfl <;> omega
theorem arr_fit2 {w s : Nat} {x y ds : List Value} (hw : w ≤ 1) (hx : x.length = s) (hy : y.length = s) (hd : ds.length = s) : 0 + (1 - w) * s + ds.length ≤ (arrW w x y).length := by
  rw [arr_len hx hy, hd]
  rcases two_cases hw with rfl | rfl <;> omega
theorem arr_swap {u w : Nat} {x y : List Value} (hu : u ≤ 1) (hw : w ≤ 1) (h : ¬ u = w) : arrW w x y = arrW u y x := by
  rcases two_cases hu with rfl | rfl <;> rcases two_cases hw with rfl | rfl
  · exact absurd rfl h
  · rfl
  · rfl
  · exact absurd rfl h
section
variable {P : Program} {n : Nat} {w0 : World} {M : Nat → Prop} {T : Slots} {H : List Asn} {dd : Option Tmp} {tt : TypeId} {pos : String} {af : Array Edge} {g : Option (Nat × Bool)}
theorem T_ixaM [HasTab P] {x y : Operand} {s e : TypeId} {gb off m q sz : Nat} {z : Int} {kk : IntKind} {i ei : Ti} (hx : oget T x = some (.pointer (some ⟨gb, off, none⟩))) (hy : oget T y = some (.int kk z)) [hz : NatOf z q] (hs : ty P s = some i) (hi : i.desc = .array m e) (he : ty P e = some ei) (h1 : ei.size = sz) (hq : q < m) :
    Tk P n w0 M T H ⟨dd, .indexAddr s x y, tt, pos, af, g⟩ (.pointer (some ⟨gb, off + q * sz, none⟩)) := by
  subst h1
  rw [hz.is] at hy
  exact T_ixa hx hy hs hi he hq
theorem T_modE {x y : Operand} {t u : TypeId} {kk : IntKind} {i j : Int} {p q r : Nat} (h : p % q = r) (hx : oget T x = some (.int kk i)) (hy : oget T y = some (.int kk j)) [hi : NatOf i p] [hj : NatOf j q] (hq : 0 < q) :
    Tk P n w0 M T H ⟨dd, .binOp .rem t x y u, tt, pos, af, g⟩ (.int kk (r : Int)) := by
  subst h
  exact T_modN hx hy hq
theorem T_cvE [HasTab P] {x : Operand} {s t : TypeId} {kk kd : IntKind} {z : Int} {r : Nat} {i j : Ti} (h : kd.wrap z = (r : Int)) (hx : oget T x = some (.int kk z)) (hs : ty P s = some i) (ht : ty P t = some j) (hj : j.desc = .int kd) :
    Tk P n w0 M T H ⟨dd, .convert s t x, tt, pos, af, g⟩ (.int kd (r : Int)) := by
  have := T_conv (n := n) (w0 := w0) (M := M) (H := H) (dd := dd) (tt := tt) (pos := pos) (af := af) (g := g) hx hs ht hj
  rwa [h] at this
theorem E_storeA [HasTab P] {x y : Operand} {s : TypeId} {gb off t : Nat} {cs cs' ds : List Value} {i : Ti} {K : List Value → List Asn} (hx : oget T x = some (.pointer (some ⟨gb, off, none⟩))) (hy : oget T y = some (.agg ds.toArray)) (hs : ty P s = some i) (hl : ds.length = i.size) (h1 : ∀ u ∈ ds, u.oneCell' = true) [hu : HUp H gb t cs K] (hc : cs.take off ++ ds ++ cs.drop (off + ds.length) = cs') (hfit : off + ds.length ≤ cs.length) :
    Ef P n w0 M T H ⟨none, .store s x y, tt, pos, af, g⟩ (fun _ H'' => H'' = K cs') := by
  subst hc
  exact E_store hx hy hs (by simp [vcells]) hl h1 rfl hfit
theorem E_storeA1 [HasTab P] {x y : Operand} {s : TypeId} {gb off t : Nat} {cs cs' : List Value} {v : Value} {i : Ti} {K : List Value → List Asn} (hx : oget T x = some (.pointer (some ⟨gb, off, none⟩))) (hy : oget T y = some v) (hs : ty P s = some i) (h1 : v.oneCell' = true) (hl : i.size = 1) [hu : HUp H gb t cs K] (hc : cs.set off v = cs') (hfit : off < cs.length) :
    Ef P n w0 M T H ⟨none, .store s x y, tt, pos, af, g⟩ (fun _ H'' => H'' = K cs') := by
  subst hc
  exact E_store1 hx hy hs h1 hl rfl hfit
end
theorem wrapNat (z : Int) : ∃ r : Nat, IntKind.u64.wrap z = (r : Int) := ⟨(IntKind.u64.wrap z).toNat, by rw [IntKind.wrap_u64]; omega⟩
/-- a turn -/
abbrev Tn := Int × Int × Int × Nat × UInt8
def tnc (x : Tn) : List Value := [.int .i64 x.1, .int .i64 x.2.1, .int .i64 x.2.2.1, .int .u64 (x.2.2.2.1 : Int), bv x.2.2.2.2]
theorem tnc_len (x : Tn) : (tnc x).length = 5 := rfl
theorem tnc_one (x : Tn) : ∀ u ∈ tnc x, u.oneCell' = true := by simp [tnc, bv, Value.oneCell']
theorem tn_zero : ti63.zero = .agg (tnc (0, 0, 0, 0, 0)).toArray := by kernel_rfl
theorem l2_zero : ti60.zero = .agg (arrW 0 (lgc (0, 0) none 0 0) (lgc (0, 0) none 0 0)).toArray := by kernel_rfl
theorem u2_zero : ti61.zero = .agg (arrW 0 [.int .u64 ((0 : Nat) : Int)] [.int .u64 ((0 : Nat) : Int)]).toArray := by kernel_rfl
theorem u2_built0 : Try.prog.built 61 [] = some (arrW 0 [.int .u64 ((0 : Nat) : Int)] [.int .u64 ((0 : Nat) : Int)]).toArray := by kernel_rfl
theorem u2_one (x y : Int) (w : Nat) : ∀ u ∈ arrW w [.int .u64 x] [.int .u64 y], u.oneCell' = true := by
  intro u hu
  unfold arrW at hu
  split at hu <;> (simp at hu; rcases hu with rfl | rfl <;> rfl)
set_option maxRecDepth 100000 in
set_option maxHeartbeats 4000000 in
theorem matches_any (w0 : World) (A : Option Addr) (c : Nat) (Z : List Tn) (h : Rd w0 All 5 A Z.length (cellsL tnc Z)) (hZl : Z.length ≤ maxLen) :
    Gives Try.prog 6 [.slice A Z.length c] [] w0 (X := Unit) (fun _ => .bool true) (fun _ => True) (fun _ => []) := by
  refine gives_S Try.func6 rfl Try.ntmps6 Try.results6 (by simp) (St.enter w0) (fun B hB => ?_)
  have hZm : Z.length ≤ 9223372036854775807 := hZl
  have hne : 0 < Z.length → A ≠ none := fun h0 => by obtain ⟨ad, rfl, _⟩ := h.2 (by omega); simp
  have hp0 : ∀ (b3 : Nat) (A5 A6 : Option Addr) (c5 c6 K5 K6 : Nat) (P5 P6 : List Em) (t om oo : Nat), P5.length = K5 → P6.length = K6 → Mt t om oo (P5.map emv) (P6.map emv) → RS Try.prog B 256 w0 (owns []) [.code (c1 (c2 (c2 (c2 (c2 (c2 (c2 (cbody Try.f6)))))))), .code (c2 (c2 (c2 (c2 (c2 (c2 (c2 (cbody Try.f6)))))))) ] [(3, .pointer (some ⟨b3, 0, none⟩))] [pt b3 60 ((lgc (0, 0) A5 K5 c5) ++ (lgc (0, 0) A6 K6 c6)), row 44 3 A5 K5 c5 (cellsL emc P5), dtB 5 (P5.map emd), row 44 3 A6 K6 c6 (cellsL emc P6), dtB 5 (P6.map emd)] := by
    intro b3 A5 A6 c5 c6 K5 K6 P5 P6 t om oo hl5 hl6 hM
    have hK5 : K5 ≤ 16 := by have := (right_fits hM.rl).1; rw [List.length_map] at this; omega
    have hK6 : K6 ≤ 16 := by have := (right_fits hM.rm).1; rw [List.length_map] at this; omega
    skip
    refine S_draw ([pt b3 60 ((lgc (0, 0) A5 K5 c5) ++ (lgc (0, 0) A6 K6 c6))]) sub_st (by kernel_rfl) rfl (by kernel_rfl) (by kernel_rfl : _ = 8) ?_
    refine D_take 0 rfl (T_ixaM (sz := 3) (q := 0) rfl rfl rfl rfl rfl rfl (by omega)) ?_ rfl rfl (by kernel_rfl) (by kernel_rfl)
    refine D_take 1 rfl (T_loads (ds := lgc (0, 0) A5 K5 c5) rfl rfl rfl rfl rfl) ?_ rfl rfl (by kernel_rfl) (by kernel_rfl)
    refine D_take 2 rfl (T_ixaM (sz := 3) (q := 1) rfl rfl rfl rfl rfl rfl (by omega)) ?_ rfl rfl (by kernel_rfl) (by kernel_rfl)
    refine D_take 3 rfl (T_loads (ds := lgc (0, 0) A6 K6 c6) rfl rfl rfl rfl rfl) ?_ rfl rfl (by kernel_rfl) (by kernel_rfl)
    refine D_node #[true, true, true, true, true, true, false, false] (fun x : Nat × Nat => [(22, .pointer (some ⟨x.2, 0, none⟩)), (21, .pointer (some ⟨x.1, 0, none⟩)), (187, .agg (lgc (0, 0) A6 K6 c6).toArray), (185, .agg (lgc (0, 0) A5 K5 c5).toArray)]) (fun x : Nat × Nat => [pt x.2 27 (lgc (0, 0) none 0 0), pt x.1 27 (lgc (0, 0) none 0 0), pt b3 60 ((lgc (0, 0) A5 K5 c5) ++ (lgc (0, 0) A6 K6 c6)), row 44 3 A5 K5 c5 (cellsL emc P5), dtB 5 (P5.map emd), row 44 3 A6 K6 c6 (cellsL emc P6), dtB 5 (P6.map emd)]) (fun nd0 => ?_) (fun x => ?_)
    refine D_nodeR #[true, true, true, true, true, false, false, false] (fun x : Nat => [(21, .pointer (some ⟨x, 0, none⟩)), (187, .agg (lgc (0, 0) A6 K6 c6).toArray), (185, .agg (lgc (0, 0) A5 K5 c5).toArray)]) (fun x : Nat => [pt x 27 (lgc (0, 0) none 0 0), pt b3 60 ((lgc (0, 0) A5 K5 c5) ++ (lgc (0, 0) A6 K6 c6)), row 44 3 A5 K5 c5 (cellsL emc P5), dtB 5 (P5.map emd), row 44 3 A6 K6 c6 (cellsL emc P6), dtB 5 (P6.map emd)]) (fun x => ?_) (fun nd1 => ?_)
    · skip
      revert x; intro b21
      try dsimp only
      refine D_one 5 rfl (E_alloca rfl lg_zero) ?_ rfl rfl (by kernel_rfl)
      rintro _ _ ⟨b22, rfl, rfl⟩
      refine Nx_same sub_st ?_
      have h := nd0 (b21, b22)
      try dsimp only at h
      exact D_at h (by repeat first | exact Sub.nil | refine Sub.cons rfl ?_) sub_st (by kernel_rfl)
    refine D_nodeR #[true, true, true, true, false, true, false, false] (fun x : Nat => [(22, .pointer (some ⟨x, 0, none⟩)), (187, .agg (lgc (0, 0) A6 K6 c6).toArray), (185, .agg (lgc (0, 0) A5 K5 c5).toArray)]) (fun x : Nat => [pt x 27 (lgc (0, 0) none 0 0), pt b3 60 ((lgc (0, 0) A5 K5 c5) ++ (lgc (0, 0) A6 K6 c6)), row 44 3 A5 K5 c5 (cellsL emc P5), dtB 5 (P5.map emd), row 44 3 A6 K6 c6 (cellsL emc P6), dtB 5 (P6.map emd)]) (fun x => ?_) (fun nd2 => ?_)
    · skip
      revert x; intro b22
      try dsimp only
      refine D_one 4 rfl (E_alloca rfl lg_zero) ?_ rfl rfl (by kernel_rfl)
      rintro _ _ ⟨b21, rfl, rfl⟩
      refine Nx_same sub_st ?_
      have h := nd0 (b21, b22)
      try dsimp only at h
      exact D_at h (by repeat first | exact Sub.nil | refine Sub.cons rfl ?_) sub_st (by kernel_rfl)
    refine D_nodeR #[true, true, true, true, false, false, false, false] (fun _ : Unit => [(187, .agg (lgc (0, 0) A6 K6 c6).toArray), (185, .agg (lgc (0, 0) A5 K5 c5).toArray)]) (fun _ : Unit => [pt b3 60 ((lgc (0, 0) A5 K5 c5) ++ (lgc (0, 0) A6 K6 c6)), row 44 3 A5 K5 c5 (cellsL emc P5), dtB 5 (P5.map emd), row 44 3 A6 K6 c6 (cellsL emc P6), dtB 5 (P6.map emd)]) (fun x => ?_) (fun nd3 => ?_)
    · skip
      obtain ⟨⟩ := x
      try dsimp only
      refine D_two 4 5 (by decide) rfl rfl (E_alloca rfl lg_zero) (E_alloca rfl lg_zero) ?_ ?_ rfl rfl rfl rfl (by kernel_rfl)
      · rintro _ _ ⟨b21, rfl, rfl⟩
        refine Nx_same sub_st ?_
        have h := nd1 (b21)
        try dsimp only at h
        exact D_at h (by repeat first | exact Sub.nil | refine Sub.cons rfl ?_) sub_st (by kernel_rfl)
      · rintro _ _ ⟨b22, rfl, rfl⟩
        refine Nx_same sub_st ?_
        have h := nd2 (b22)
        try dsimp only at h
        exact D_at h (by repeat first | exact Sub.nil | refine Sub.cons rfl ?_) sub_st (by kernel_rfl)
    have h := nd3 ()
    try dsimp only at h
    exact D_at h (by repeat first | exact Sub.nil | refine Sub.cons rfl ?_) sub_st (by kernel_rfl)
    obtain ⟨b21, b22⟩ := x
    try dsimp only
    refine D_one 6 rfl (E_storew (cs := lgc (0, 0) none 0 0) (ds := lgc (0, 0) A5 K5 c5) rfl rfl rfl rfl (lgc_one _ _ _ _) rfl) ?_ rfl rfl (by kernel_rfl)
    rintro _ _ rfl
    refine Nx_same sub_st ?_
    refine D_one 7 rfl (E_storew (cs := lgc (0, 0) none 0 0) (ds := lgc (0, 0) A6 K6 c6) rfl rfl rfl rfl (lgc_one _ _ _ _) rfl) ?_ rfl rfl (by kernel_rfl)
    rintro _ _ rfl
    refine Nx_same sub_st ?_
    refine D_done ?_ (by kernel_rfl)
    skip
    obtain ⟨mn, hmn⟩ : ∃ mn, min K5 K6 = mn := ⟨_, rfl⟩
    focus (refine S_seq rfl ?_; refine S_region rfl rfl ?_; refine R_p rfl ?_ rfl rfl; refine R_nil ?_; refine S_seq rfl ?_; refine S_seq rfl ?_; refine S_region rfl rfl ?_; refine R_p rfl ?_ rfl rfl; refine R_take (T_load rfl rfl rfl rfl) ?_ rfl rfl; refine R_p rfl ?_ rfl rfl; refine R_p rfl ?_ rfl rfl; refine R_take (T_load rfl rfl rfl rfl) ?_ rfl rfl; refine R_p rfl ?_ rfl rfl; refine R_take (T_minE hmn rfl rfl) ?_ rfl rfl; refine R_p rfl ?_ rfl rfl; refine R_nil ?_; refine S_block rfl ?_)
    refine RS_row A5 K5 c5 fun _ _ hne5 _ => ?_
    refine RS_row A6 K6 c6 fun _ _ hne6 _ => ?_
    refine S_loop (X := Nat) (fun k => [(21, .pointer (some ⟨b21, 0, none⟩)), (22, .pointer (some ⟨b22, 0, none⟩)), (23, .bool true), (24, .int .i64 (k : Int))]) (fun _ => [pt b21 27 (lgc (0, 0) A5 K5 c5), pt b22 27 (lgc (0, 0) A6 K6 c6), row 44 3 A5 K5 c5 (cellsL emc P5), dtB 5 (P5.map emd), row 44 3 A6 K6 c6 (cellsL emc P6), dtB 5 (P6.map emd)]) (fun k => k ≤ mn) (fun k => k) rfl mn (Nat.le_refl _) (Sub.cons rfl (Sub.cons rfl (Sub.cons rfl (Sub.cons rfl Sub.nil)))) sub_st ?_
    rintro k hk J hJ
    by_cases hk0 : k = 0
    · focus (refine S_seq rfl ?_; refine S_seq rfl ?_; refine S_region rfl rfl ?_; refine R_p rfl ?_ rfl rfl; refine R_take (T_decF rfl (by omega)) ?_ rfl rfl; refine R_nil ?_; refine S_false rfl rfl ?_; refine S_exit rfl rfl ?_; refine S_seq rfl ?_; refine S_region rfl rfl ?_; refine R_p rfl ?_ rfl rfl; refine R_p rfl ?_ rfl rfl; refine R_nil ?_)
      exact hB _ _ _ _ _ rfl rfl fun w' hS => ⟨(), rfl, trivial, hS.sublist (List.nil_sublist _)⟩
    obtain ⟨q, hq⟩ : ∃ q, k - 1 = q := ⟨_, rfl⟩
    have hne5 := hne5 (by omega)
    have hne6 := hne6 (by omega)
    have hq5 : q < K5 := by omega
    have hq6 : q < K6 := by omega
    have hat5 := cellsL_at (f := emc) emc_len P5 default q (by omega)
    have hat6 := cellsL_at (f := emc) emc_len P6 default q (by omega)
    obtain ⟨m5, hm5⟩ : ∃ m, P5.getD q default = m := ⟨_, rfl⟩
    obtain ⟨m6, hm6⟩ : ∃ m, P6.getD q default = m := ⟨_, rfl⟩
    rw [hm5] at hat5
    rw [hm6] at hat6
    have ht5 : tmE (P5.map emv) q = m5.1 := by unfold tmE; rw [emv_fst _ _ (by omega), hm5]
    have ht6 : tmE (P6.map emv) q = m6.1 := by unfold tmE; rw [emv_fst _ _ (by omega), hm6]
    focus (refine S_seq rfl ?_; refine S_seq rfl ?_; refine S_region rfl rfl ?_; refine R_p rfl ?_ rfl rfl; refine R_take (T_decT rfl (by omega)) ?_ rfl rfl; refine R_nil ?_; refine S_true rfl rfl ?_; refine S_skip rfl ?_; refine S_seq rfl ?_; refine S_block rfl ?_; refine S_seq rfl ?_)
    refine S_draw ([pt b21 27 (lgc (0, 0) A5 K5 c5), pt b22 27 (lgc (0, 0) A6 K6 c6), row 44 3 A5 K5 c5 (cellsL emc P5), row 44 3 A6 K6 c6 (cellsL emc P6)]) sub_st (by kernel_rfl) rfl (by kernel_rfl) (by kernel_rfl : _ = 16) ?_
    refine D_take 0 rfl (pev_ok rfl) ?_ rfl rfl (by kernel_rfl) (by kernel_rfl)
    refine D_take 1 rfl (T_load rfl rfl rfl rfl) ?_ rfl rfl (by kernel_rfl) (by kernel_rfl)
    refine D_take 2 rfl (pev_ok rfl) ?_ rfl rfl (by kernel_rfl) (by kernel_rfl)
    (refine D_take 3 rfl (T_subE hq rfl rfl (by omega) (by unfold fits; omega)) ?_ rfl rfl (by kernel_rfl) (by kernel_rfl))
    refine D_take 4 rfl (T_ixM (sz := 3) (q := q) rfl rfl rfl rfl rfl rfl hne5 hq5) ?_ rfl rfl (by kernel_rfl) (by kernel_rfl)
    refine D_take 5 rfl (T_lda (ds := emc m5) rfl rfl rfl (Srd.row (A := A5) (n := K5) (c := c5)) rfl (by omega) hat5) ?_ rfl rfl (by kernel_rfl) (by kernel_rfl)
    refine D_take 6 rfl (pev_ok rfl) ?_ rfl rfl (by kernel_rfl) (by kernel_rfl)
    refine D_take 7 rfl (T_load rfl rfl rfl rfl) ?_ rfl rfl (by kernel_rfl) (by kernel_rfl)
    refine D_take 8 rfl (pev_ok rfl) ?_ rfl rfl (by kernel_rfl) (by kernel_rfl)
    (refine D_take 9 rfl (T_subE hq rfl rfl (by omega) (by unfold fits; omega)) ?_ rfl rfl (by kernel_rfl) (by kernel_rfl))
    refine D_take 10 rfl (T_ixM (sz := 3) (q := q) rfl rfl rfl rfl rfl rfl hne6 hq6) ?_ rfl rfl (by kernel_rfl) (by kernel_rfl)
    refine D_take 11 rfl (T_lda (ds := emc m6) rfl rfl rfl (Srd.row (A := A6) (n := K6) (c := c6)) rfl (by omega) hat6) ?_ rfl rfl (by kernel_rfl) (by kernel_rfl)
    refine D_node #[true, true, true, true, true, true, true, true, true, true, true, true, true, true, false, false] (fun x : Nat × Nat => [(26, .pointer (some ⟨x.2, 0, none⟩)), (25, .pointer (some ⟨x.1, 0, none⟩)), (210, .agg (emc m6).toArray), (204, .agg (emc m5).toArray), (21, .pointer (some ⟨b21, 0, none⟩)), (22, .pointer (some ⟨b22, 0, none⟩)), (23, .bool true), (24, .int .i64 (k : Int))]) (fun x : Nat × Nat => [pt x.2 44 (emc (0, 0, none, 0, [])), pt x.1 44 (emc (0, 0, none, 0, [])), pt b21 27 (lgc (0, 0) A5 K5 c5), pt b22 27 (lgc (0, 0) A6 K6 c6), row 44 3 A5 K5 c5 (cellsL emc P5), dtB 5 (P5.map emd), row 44 3 A6 K6 c6 (cellsL emc P6), dtB 5 (P6.map emd)]) (fun nd0 => ?_) (fun x => ?_)
    refine D_nodeR #[true, true, true, true, true, true, true, true, true, true, true, true, true, false, false, false] (fun x : Nat => [(25, .pointer (some ⟨x, 0, none⟩)), (210, .agg (emc m6).toArray), (204, .agg (emc m5).toArray), (21, .pointer (some ⟨b21, 0, none⟩)), (22, .pointer (some ⟨b22, 0, none⟩)), (23, .bool true), (24, .int .i64 (k : Int))]) (fun x : Nat => [pt x 44 (emc (0, 0, none, 0, [])), pt b21 27 (lgc (0, 0) A5 K5 c5), pt b22 27 (lgc (0, 0) A6 K6 c6), row 44 3 A5 K5 c5 (cellsL emc P5), dtB 5 (P5.map emd), row 44 3 A6 K6 c6 (cellsL emc P6), dtB 5 (P6.map emd)]) (fun x => ?_) (fun nd1 => ?_)
    · skip
      revert x; intro b25
      try dsimp only
      refine D_one 13 rfl (E_alloca rfl em_zero) ?_ rfl rfl (by kernel_rfl)
      rintro _ _ ⟨b26, rfl, rfl⟩
      refine Nx_same sub_st ?_
      have h := nd0 (b25, b26)
      try dsimp only at h
      exact D_at h (by repeat first | exact Sub.nil | refine Sub.cons rfl ?_) sub_st (by kernel_rfl)
    refine D_nodeR #[true, true, true, true, true, true, true, true, true, true, true, true, false, true, false, false] (fun x : Nat => [(26, .pointer (some ⟨x, 0, none⟩)), (210, .agg (emc m6).toArray), (204, .agg (emc m5).toArray), (21, .pointer (some ⟨b21, 0, none⟩)), (22, .pointer (some ⟨b22, 0, none⟩)), (23, .bool true), (24, .int .i64 (k : Int))]) (fun x : Nat => [pt x 44 (emc (0, 0, none, 0, [])), pt b21 27 (lgc (0, 0) A5 K5 c5), pt b22 27 (lgc (0, 0) A6 K6 c6), row 44 3 A5 K5 c5 (cellsL emc P5), dtB 5 (P5.map emd), row 44 3 A6 K6 c6 (cellsL emc P6), dtB 5 (P6.map emd)]) (fun x => ?_) (fun nd2 => ?_)
    · skip
      revert x; intro b26
      try dsimp only
      refine D_one 12 rfl (E_alloca rfl em_zero) ?_ rfl rfl (by kernel_rfl)
      rintro _ _ ⟨b25, rfl, rfl⟩
      refine Nx_same sub_st ?_
      have h := nd0 (b25, b26)
      try dsimp only at h
      exact D_at h (by repeat first | exact Sub.nil | refine Sub.cons rfl ?_) sub_st (by kernel_rfl)
    refine D_nodeR #[true, true, true, true, true, true, true, true, true, true, true, true, false, false, false, false] (fun _ : Unit => [(210, .agg (emc m6).toArray), (204, .agg (emc m5).toArray), (21, .pointer (some ⟨b21, 0, none⟩)), (22, .pointer (some ⟨b22, 0, none⟩)), (23, .bool true), (24, .int .i64 (k : Int))]) (fun _ : Unit => [pt b21 27 (lgc (0, 0) A5 K5 c5), pt b22 27 (lgc (0, 0) A6 K6 c6), row 44 3 A5 K5 c5 (cellsL emc P5), dtB 5 (P5.map emd), row 44 3 A6 K6 c6 (cellsL emc P6), dtB 5 (P6.map emd)]) (fun x => ?_) (fun nd3 => ?_)
    · skip
      obtain ⟨⟩ := x
      try dsimp only
      refine D_two 12 13 (by decide) rfl rfl (E_alloca rfl em_zero) (E_alloca rfl em_zero) ?_ ?_ rfl rfl rfl rfl (by kernel_rfl)
      · rintro _ _ ⟨b25, rfl, rfl⟩
        refine Nx_same sub_st ?_
        have h := nd1 (b25)
        try dsimp only at h
        exact D_at h (by repeat first | exact Sub.nil | refine Sub.cons rfl ?_) sub_st (by kernel_rfl)
      · rintro _ _ ⟨b26, rfl, rfl⟩
        refine Nx_same sub_st ?_
        have h := nd2 (b26)
        try dsimp only at h
        exact D_at h (by repeat first | exact Sub.nil | refine Sub.cons rfl ?_) sub_st (by kernel_rfl)
    have h := nd3 ()
    try dsimp only at h
    exact D_at h (by repeat first | exact Sub.nil | refine Sub.cons rfl ?_) sub_st (by kernel_rfl)
    obtain ⟨b25, b26⟩ := x
    try dsimp only
    refine D_one 14 rfl (E_storew (cs := emc (0, 0, none, 0, [])) (ds := emc m5) rfl rfl rfl rfl (emc_one _) rfl) ?_ rfl rfl (by kernel_rfl)
    rintro _ _ rfl
    refine Nx_same sub_st ?_
    refine D_one 15 rfl (E_storew (cs := emc (0, 0, none, 0, [])) (ds := emc m6) rfl rfl rfl rfl (emc_one _) rfl) ?_ rfl rfl (by kernel_rfl)
    rintro _ _ rfl
    refine Nx_same sub_st ?_
    refine D_done ?_ (by kernel_rfl)
    skip
    by_cases hmm : m5.1 = m6.1
    · have hmat := hM.mat q (by rw [List.length_map]; omega) (by rw [List.length_map]; omega) (by rw [ht5, ht6]; exact hmm)
      focus (refine S_seq rfl ?_; refine S_seq rfl ?_; refine S_region rfl rfl ?_; refine R_p rfl ?_ rfl rfl; refine R_take (T_load rfl rfl rfl rfl) ?_ rfl rfl; refine R_p rfl ?_ rfl rfl; refine R_take (T_load rfl rfl rfl rfl) ?_ rfl rfl; refine R_take (T_decF rfl (by omega)) ?_ rfl rfl; refine R_nil ?_; refine S_false rfl rfl ?_; refine S_skip rfl ?_; refine S_seq rfl ?_; refine S_region rfl rfl ?_; refine R_p rfl ?_ rfl rfl; refine R_p rfl ?_ rfl rfl; refine R_nil ?_; refine S_block rfl ?_)
      refine S_loop (X := Nat) (fun i => [(21, .pointer (some ⟨b21, 0, none⟩)), (22, .pointer (some ⟨b22, 0, none⟩)), (23, .bool true), (24, .int .i64 (k : Int)), (216, .int .i64 (k : Int)), (217, .int .i64 (i : Int))]) (fun _ => [pt b21 27 (lgc (0, 0) A5 K5 c5), pt b22 27 (lgc (0, 0) A6 K6 c6), row 44 3 A5 K5 c5 (cellsL emc P5), dtB 5 (P5.map emd), row 44 3 A6 K6 c6 (cellsL emc P6), dtB 5 (P6.map emd)]) (fun i => i ≤ k) (fun i => k - i) rfl 0 (Nat.zero_le _) (Sub.cons rfl (Sub.cons rfl (Sub.cons rfl (Sub.cons rfl (Sub.cons rfl (Sub.cons rfl Sub.nil)))))) sub_st ?_
      rintro i hi J2 hJ2
      rcases Nat.lt_or_ge i k with hik | hik
      · have hi5 : i < K5 := by omega
        have hi6 : i < K6 := by omega
        have hev := get_eq hmat (k := i) (by omega)
        have ha5 := cellsL_at (f := emc) emc_len P5 default i (by omega)
        have ha6 := cellsL_at (f := emc) emc_len P6 default i (by omega)
        have e5 : (P5.map emv).getD i default = emv (P5.getD i default) := by simp [List.getD, show i < P5.length by omega]
        have e6 : (P6.map emv).getD i default = emv (P6.getD i default) := by simp [List.getD, show i < P6.length by omega]
        rw [e5, e6] at hev
        have hb5 : P5.getD i default ∈ P5 := by simp [List.getD, show i < P5.length by omega]
        have hb6 : P6.getD i default ∈ P6 := by simp [List.getD, show i < P6.length by omega]
        generalize P5.getD i default = m7 at ha5 hev hb5
        generalize P6.getD i default = m8 at ha6 hev hb6
        have hd5 : emd m7 ∈ P5.map emd := List.mem_map.2 ⟨m7, hb5, rfl⟩
        have hd6 : emd m8 ∈ P6.map emd := List.mem_map.2 ⟨m8, hb6, rfl⟩
        obtain ⟨t7, kd7, D7, cd7, bs⟩ := m7
        obtain ⟨t8, kd8, D8, cd8, bs8⟩ := m8
        injection hev with ev1 ev2
        injection ev2 with ev2 ev3
        subst ev1 ev2 ev3
        have hd5 : (D7, cd7, bs) ∈ P5.map emd := hd5
        have hd6 : (D8, cd8, bs) ∈ P6.map emd := hd6
        have hsc : scmp .eql (bl ⟨bs.toArray⟩) (bl ⟨bs.toArray⟩) = some true := by simp [scmp, bl]
        focus (refine S_seq rfl ?_; refine S_region rfl rfl ?_; refine R_take (T_decT rfl (by omega)) ?_ rfl rfl; refine R_nil ?_; refine S_seq rfl ?_; refine S_true rfl rfl ?_; refine S_skip rfl ?_; refine S_seq rfl ?_; refine S_block rfl ?_; refine S_seq rfl ?_; refine S_region rfl rfl ?_; refine R_p rfl ?_ rfl rfl; refine R_p rfl ?_ rfl rfl; refine R_nil ?_; refine S_seq rfl ?_)
        refine S_draw ([pt b21 27 (lgc (0, 0) A5 K5 c5), pt b22 27 (lgc (0, 0) A6 K6 c6), row 44 3 A5 K5 c5 (cellsL emc P5), row 44 3 A6 K6 c6 (cellsL emc P6)]) sub_st (by kernel_rfl) rfl (by kernel_rfl) (by kernel_rfl : _ = 14) ?_
        refine D_take 0 rfl (pev_ok rfl) ?_ rfl rfl (by kernel_rfl) (by kernel_rfl)
        refine D_take 1 rfl (T_load rfl rfl rfl rfl) ?_ rfl rfl (by kernel_rfl) (by kernel_rfl)
        refine D_take 2 rfl (pev_ok rfl) ?_ rfl rfl (by kernel_rfl) (by kernel_rfl)
        refine D_take 3 rfl (T_ixM (sz := 3) (q := i) rfl rfl rfl rfl rfl rfl hne5 hi5) ?_ rfl rfl (by kernel_rfl) (by kernel_rfl)
        refine D_take 4 rfl (T_lda (ds := emc (t7, kd7, D7, cd7, bs)) rfl rfl rfl (Srd.row (A := A5) (n := K5) (c := c5)) rfl (by omega) ha5) ?_ rfl rfl (by kernel_rfl) (by kernel_rfl)
        refine D_take 5 rfl (pev_ok rfl) ?_ rfl rfl (by kernel_rfl) (by kernel_rfl)
        refine D_take 6 rfl (T_load rfl rfl rfl rfl) ?_ rfl rfl (by kernel_rfl) (by kernel_rfl)
        refine D_take 7 rfl (pev_ok rfl) ?_ rfl rfl (by kernel_rfl) (by kernel_rfl)
        refine D_take 8 rfl (T_ixM (sz := 3) (q := i) rfl rfl rfl rfl rfl rfl hne6 hi6) ?_ rfl rfl (by kernel_rfl) (by kernel_rfl)
        refine D_take 9 rfl (T_lda (ds := emc (t7, kd7, D8, cd8, bs)) rfl rfl rfl (Srd.row (A := A6) (n := K6) (c := c6)) rfl (by omega) ha6) ?_ rfl rfl (by kernel_rfl) (by kernel_rfl)
        refine D_node #[true, true, true, true, true, true, true, true, true, true, true, true, false, false] (fun x : Nat × Nat => [(29, .pointer (some ⟨x.2, 0, none⟩)), (28, .pointer (some ⟨x.1, 0, none⟩)), (229, .agg (emc (t7, kd7, D8, cd8, bs)).toArray), (224, .agg (emc (t7, kd7, D7, cd7, bs)).toArray), (21, .pointer (some ⟨b21, 0, none⟩)), (22, .pointer (some ⟨b22, 0, none⟩)), (23, .bool true), (24, .int .i64 (k : Int)), (216, .int .i64 (k : Int)), (217, .int .i64 (i : Int))]) (fun x : Nat × Nat => [pt x.2 44 (emc (0, 0, none, 0, [])), pt x.1 44 (emc (0, 0, none, 0, [])), pt b21 27 (lgc (0, 0) A5 K5 c5), pt b22 27 (lgc (0, 0) A6 K6 c6), row 44 3 A5 K5 c5 (cellsL emc P5), dtB 5 (P5.map emd), row 44 3 A6 K6 c6 (cellsL emc P6), dtB 5 (P6.map emd)]) (fun nd0 => ?_) (fun x => ?_)
        refine D_nodeR #[true, true, true, true, true, true, true, true, true, true, true, false, false, false] (fun x : Nat => [(28, .pointer (some ⟨x, 0, none⟩)), (229, .agg (emc (t7, kd7, D8, cd8, bs)).toArray), (224, .agg (emc (t7, kd7, D7, cd7, bs)).toArray), (21, .pointer (some ⟨b21, 0, none⟩)), (22, .pointer (some ⟨b22, 0, none⟩)), (23, .bool true), (24, .int .i64 (k : Int)), (216, .int .i64 (k : Int)), (217, .int .i64 (i : Int))]) (fun x : Nat => [pt x 44 (emc (0, 0, none, 0, [])), pt b21 27 (lgc (0, 0) A5 K5 c5), pt b22 27 (lgc (0, 0) A6 K6 c6), row 44 3 A5 K5 c5 (cellsL emc P5), dtB 5 (P5.map emd), row 44 3 A6 K6 c6 (cellsL emc P6), dtB 5 (P6.map emd)]) (fun x => ?_) (fun nd1 => ?_)
        · skip
          revert x; intro b28
          try dsimp only
          refine D_one 11 rfl (E_alloca rfl em_zero) ?_ rfl rfl (by kernel_rfl)
          rintro _ _ ⟨b29, rfl, rfl⟩
          refine Nx_same sub_st ?_
          have h := nd0 (b28, b29)
          try dsimp only at h
          exact D_at h (by repeat first | exact Sub.nil | refine Sub.cons rfl ?_) sub_st (by kernel_rfl)
        refine D_nodeR #[true, true, true, true, true, true, true, true, true, true, false, true, false, false] (fun x : Nat => [(29, .pointer (some ⟨x, 0, none⟩)), (229, .agg (emc (t7, kd7, D8, cd8, bs)).toArray), (224, .agg (emc (t7, kd7, D7, cd7, bs)).toArray), (21, .pointer (some ⟨b21, 0, none⟩)), (22, .pointer (some ⟨b22, 0, none⟩)), (23, .bool true), (24, .int .i64 (k : Int)), (216, .int .i64 (k : Int)), (217, .int .i64 (i : Int))]) (fun x : Nat => [pt x 44 (emc (0, 0, none, 0, [])), pt b21 27 (lgc (0, 0) A5 K5 c5), pt b22 27 (lgc (0, 0) A6 K6 c6), row 44 3 A5 K5 c5 (cellsL emc P5), dtB 5 (P5.map emd), row 44 3 A6 K6 c6 (cellsL emc P6), dtB 5 (P6.map emd)]) (fun x => ?_) (fun nd2 => ?_)
        · skip
          revert x; intro b29
          try dsimp only
          refine D_one 10 rfl (E_alloca rfl em_zero) ?_ rfl rfl (by kernel_rfl)
          rintro _ _ ⟨b28, rfl, rfl⟩
          refine Nx_same sub_st ?_
          have h := nd0 (b28, b29)
          try dsimp only at h
          exact D_at h (by repeat first | exact Sub.nil | refine Sub.cons rfl ?_) sub_st (by kernel_rfl)
        refine D_nodeR #[true, true, true, true, true, true, true, true, true, true, false, false, false, false] (fun _ : Unit => [(229, .agg (emc (t7, kd7, D8, cd8, bs)).toArray), (224, .agg (emc (t7, kd7, D7, cd7, bs)).toArray), (21, .pointer (some ⟨b21, 0, none⟩)), (22, .pointer (some ⟨b22, 0, none⟩)), (23, .bool true), (24, .int .i64 (k : Int)), (216, .int .i64 (k : Int)), (217, .int .i64 (i : Int))]) (fun _ : Unit => [pt b21 27 (lgc (0, 0) A5 K5 c5), pt b22 27 (lgc (0, 0) A6 K6 c6), row 44 3 A5 K5 c5 (cellsL emc P5), dtB 5 (P5.map emd), row 44 3 A6 K6 c6 (cellsL emc P6), dtB 5 (P6.map emd)]) (fun x => ?_) (fun nd3 => ?_)
        · skip
          obtain ⟨⟩ := x
          try dsimp only
          refine D_two 10 11 (by decide) rfl rfl (E_alloca rfl em_zero) (E_alloca rfl em_zero) ?_ ?_ rfl rfl rfl rfl (by kernel_rfl)
          · rintro _ _ ⟨b28, rfl, rfl⟩
            refine Nx_same sub_st ?_
            have h := nd1 (b28)
            try dsimp only at h
            exact D_at h (by repeat first | exact Sub.nil | refine Sub.cons rfl ?_) sub_st (by kernel_rfl)
          · rintro _ _ ⟨b29, rfl, rfl⟩
            refine Nx_same sub_st ?_
            have h := nd2 (b29)
            try dsimp only at h
            exact D_at h (by repeat first | exact Sub.nil | refine Sub.cons rfl ?_) sub_st (by kernel_rfl)
        have h := nd3 ()
        try dsimp only at h
        exact D_at h (by repeat first | exact Sub.nil | refine Sub.cons rfl ?_) sub_st (by kernel_rfl)
        obtain ⟨b28, b29⟩ := x
        try dsimp only
        refine D_one 12 rfl (E_storew (cs := emc (0, 0, none, 0, [])) (ds := emc (t7, kd7, D7, cd7, bs)) rfl rfl rfl rfl (emc_one _) rfl) ?_ rfl rfl (by kernel_rfl)
        rintro _ _ rfl
        refine Nx_same sub_st ?_
        refine D_one 13 rfl (E_storew (cs := emc (0, 0, none, 0, [])) (ds := emc (t7, kd7, D8, cd8, bs)) rfl rfl rfl rfl (emc_one _) rfl) ?_ rfl rfl (by kernel_rfl)
        rintro _ _ rfl
        refine Nx_same sub_st ?_
        refine D_done ?_ (by kernel_rfl)
        skip
        focus (refine S_region rfl rfl ?_; refine R_p rfl ?_ rfl rfl; refine R_p rfl ?_ rfl rfl; refine R_p rfl ?_ rfl rfl; refine R_take (T_load rfl rfl rfl rfl) ?_ rfl rfl; refine R_p rfl ?_ rfl rfl; refine R_take (T_load rfl rfl rfl rfl) ?_ rfl rfl; refine R_take (T_decT rfl (by first | omega | rfl)) ?_ rfl rfl; refine R_p rfl ?_ rfl rfl; refine R_p rfl ?_ rfl rfl; refine R_p rfl ?_ rfl rfl; refine R_take (T_load rfl rfl rfl rfl) ?_ rfl rfl; refine R_p rfl ?_ rfl rfl; refine R_take (T_load rfl rfl rfl rfl) ?_ rfl rfl; refine R_take (T_decT rfl (by first | omega | rfl)) ?_ rfl rfl; refine R_p rfl ?_ rfl rfl; refine R_p rfl ?_ rfl rfl; refine R_p rfl ?_ rfl rfl; refine R_take (T_load rfl rfl rfl rfl) ?_ rfl rfl; refine R_take (T_b2s rfl rfl rfl rfl rfl rfl rfl ⟨fun w hS => dtB_bs (e := 5) (D := P5.map emd) hS (by simp) (D7, cd7, bs) hd5⟩) ?_ rfl rfl; refine R_p rfl ?_ rfl rfl; refine R_take (T_load rfl rfl rfl rfl) ?_ rfl rfl; refine R_take (T_b2s rfl rfl rfl rfl rfl rfl rfl ⟨fun w hS => dtB_bs (e := 5) (D := P6.map emd) hS (by simp) (D8, cd8, bs) hd6⟩) ?_ rfl rfl; refine R_take (T_scmp (r := ⟨bs.toArray⟩) (s := ⟨bs.toArray⟩) rfl rfl hsc) ?_ rfl rfl; refine R_p rfl ?_ rfl rfl; refine R_p rfl ?_ rfl rfl; refine R_nil ?_; refine RS_blk ?_; refine S_region rfl rfl ?_; refine R_take (T_addN rfl rfl (by unfold fits; omega)) ?_ rfl rfl; refine R_p rfl ?_ rfl rfl; refine R_nil ?_)
        exact hJ2 (i + 1) _ _ (by omega) (Sub.cons rfl (Sub.cons rfl (Sub.cons rfl (Sub.cons rfl (Sub.cons rfl (Sub.cons rfl Sub.nil)))))) sub_st (by omega)
      · skip
        focus (refine S_seq rfl ?_; refine S_region rfl rfl ?_; refine R_take (T_decF rfl (by omega)) ?_ rfl rfl; refine R_nil ?_; refine S_seq rfl ?_; refine S_false rfl rfl ?_; refine S_exit rfl rfl ?_; refine RS_blk ?_; refine S_region rfl rfl ?_; refine R_p rfl ?_ rfl rfl; refine R_take (T_subE hq rfl rfl (by omega) (by unfold fits; omega)) ?_ rfl rfl; refine R_p rfl ?_ rfl rfl; refine R_nil ?_)
        exact hJ q _ _ (by omega) (Sub.cons rfl (Sub.cons rfl (Sub.cons rfl (Sub.cons rfl Sub.nil)))) sub_st (by omega)
    · focus (refine S_seq rfl ?_; refine S_seq rfl ?_; refine S_region rfl rfl ?_; refine R_p rfl ?_ rfl rfl; refine R_take (T_load rfl rfl rfl rfl) ?_ rfl rfl; refine R_p rfl ?_ rfl rfl; refine R_take (T_load rfl rfl rfl rfl) ?_ rfl rfl; refine R_take (T_decT rfl (by omega)) ?_ rfl rfl; refine R_nil ?_; refine S_true rfl rfl ?_; refine S_exit rfl rfl ?_; refine S_region rfl rfl ?_; refine R_p rfl ?_ rfl rfl; refine R_take (T_subE hq rfl rfl (by omega) (by unfold fits; omega)) ?_ rfl rfl; refine R_p rfl ?_ rfl rfl; refine R_nil ?_)
      exact hJ q _ _ (by omega) (Sub.cons rfl (Sub.cons rfl (Sub.cons rfl (Sub.cons rfl Sub.nil)))) sub_st (by omega)
  have hpost : ∀ (w : Nat) (b3 : Nat) (A5 A6 : Option Addr) (c5 c6 K5 K6 : Nat) (P5 P6 : List Em) (t om oo : Nat), w ≤ 1 → P5.length = K5 → P6.length = K6 → Mt t om oo (P5.map emv) (P6.map emv) → RS Try.prog B 256 w0 (owns []) [.code (c1 (c2 (c2 (c2 (c2 (c2 (c2 (cbody Try.f6)))))))), .code (c2 (c2 (c2 (c2 (c2 (c2 (c2 (cbody Try.f6)))))))) ] [(3, .pointer (some ⟨b3, 0, none⟩))] [pt b3 60 (arrW w (lgc (0, 0) A5 K5 c5) (lgc (0, 0) A6 K6 c6)), row 44 3 A5 K5 c5 (cellsL emc P5), dtB 5 (P5.map emd), row 44 3 A6 K6 c6 (cellsL emc P6), dtB 5 (P6.map emd)] := by
    intro w b3 A5 A6 c5 c6 K5 K6 P5 P6 t om oo hw hl5 hl6 hM
    rcases two_cases hw with rfl | rfl
    · exact hp0 b3 A5 A6 c5 c6 K5 K6 P5 P6 t om oo hl5 hl6 hM
    · have h1 := hp0 b3 A6 A5 c6 c5 K6 K5 P6 P5 t oo om hl6 hl5 hM.swap
      refine RS_mem (fun w' hS => ?_) h1
      have hS : St w0 (owns []) [pt b3 60 ((lgc (0, 0) A6 K6 c6) ++ (lgc (0, 0) A5 K5 c5)), row 44 3 A5 K5 c5 (cellsL emc P5), dtB 5 (P5.map emd), row 44 3 A6 K6 c6 (cellsL emc P6), dtB 5 (P6.map emd)] w' := hS
      exact sub_st w' hS
  focus (refine S_seq rfl ?_; refine S_region rfl rfl ?_; refine R_p rfl ?_ rfl rfl; refine R_nil ?_; refine S_seq rfl ?_; refine S_seq rfl ?_; refine S_region rfl rfl ?_; (refine R_eff (E_hv0 (f := 10) ⟨_, Try.func10, rfl, by kernel_rfl⟩ (fun w hS => wakes12_any w) rfl rfl (fun _ => rfl)) ?_ rfl rfl; rintro _ _ ⟨_, rfl, _, rfl⟩); refine R_take (T_not rfl) ?_ rfl rfl; refine R_nil ?_; refine S_false rfl rfl ?_; refine S_skip rfl ?_; refine S_seq rfl ?_; refine S_region rfl rfl ?_; (refine R_eff (E_alloca (H := []) rfl l2_zero) ?_ rfl rfl; rintro _ _ ⟨b3, rfl, rfl⟩); refine R_nil ?_; refine S_seq rfl ?_; refine S_region rfl rfl ?_; refine R_p rfl ?_ rfl rfl; refine R_nil ?_; refine S_seq rfl ?_; refine S_region rfl rfl ?_; refine R_take (T_build0 u2_built0) ?_ rfl rfl; (refine R_eff (E_alloca rfl u2_zero) ?_ rfl rfl; rintro _ _ ⟨b5, rfl, rfl⟩); (refine R_eff0 (E_storew (cs := arrW 0 [.int .u64 ((0 : Nat) : Int)] [.int .u64 ((0 : Nat) : Int)]) (ds := arrW 0 [.int .u64 ((0 : Nat) : Int)] [.int .u64 ((0 : Nat) : Int)]) rfl rfl rfl rfl (u2_one _ _ _) rfl) ?_ rfl; rintro _ _ rfl); refine R_nil ?_; refine S_seq rfl ?_; refine S_seq rfl ?_; refine S_region rfl rfl ?_; refine R_p rfl ?_ rfl rfl; refine R_p rfl ?_ rfl rfl; refine R_p rfl ?_ rfl rfl; refine R_nil ?_; refine S_block rfl ?_)
  refine S_loop (X := Nat × Nat × Nat × (Nat × Nat) × ((Option Addr × Nat) × Nat × List Em) × ((Option Addr × Nat) × Nat × List Em)) (fun x => [(3, .pointer (some ⟨b3, 0, none⟩)), (4, .int .u64 (x.2.2.1 : Int)), (5, .pointer (some ⟨b5, 0, none⟩)), (33, .slice A Z.length c), (34, .int .i64 (Z.length : Int)), (35, .int .i64 (x.1 : Int))]) (fun x => [pt b3 60 (arrW x.2.1 (lgc (0, 0) x.2.2.2.2.1.1.1 x.2.2.2.2.1.2.1 x.2.2.2.2.1.1.2) (lgc (0, 0) x.2.2.2.2.2.1.1 x.2.2.2.2.2.2.1 x.2.2.2.2.2.1.2)), pt b5 61 (arrW x.2.1 [.int .u64 (x.2.2.2.1.1 : Int)] [.int .u64 (x.2.2.2.1.2 : Int)]), row 44 3 x.2.2.2.2.1.1.1 x.2.2.2.2.1.2.1 x.2.2.2.2.1.1.2 (cellsL emc x.2.2.2.2.1.2.2), dtB 5 (x.2.2.2.2.1.2.2.map emd), row 44 3 x.2.2.2.2.2.1.1 x.2.2.2.2.2.2.1 x.2.2.2.2.2.1.2 (cellsL emc x.2.2.2.2.2.2.2), dtB 5 (x.2.2.2.2.2.2.2.map emd)]) (fun x => x.1 ≤ Z.length ∧ x.2.1 ≤ 1 ∧ x.2.2.1 ≤ x.1 ∧ x.1 ≤ 60 ∧ x.2.2.2.2.1.2.2.length = x.2.2.2.2.1.2.1 ∧ x.2.2.2.2.2.2.2.length = x.2.2.2.2.2.2.1 ∧ Mt x.2.2.1 x.2.2.2.1.1 x.2.2.2.1.2 (x.2.2.2.2.1.2.2.map emv) (x.2.2.2.2.2.2.2.map emv)) (fun x => Z.length - x.1) rfl (0, 0, 0, (0, 0), ((none, 0), 0, []), ((none, 0), 0, [])) ⟨Nat.zero_le _, Nat.zero_le _, Nat.le_refl _, Nat.zero_le _, rfl, rfl, Mt.init⟩ (Sub.cons rfl (Sub.cons rfl (Sub.cons rfl (Sub.cons rfl (Sub.cons rfl (Sub.cons rfl Sub.nil)))))) (fun w' hS => ?_) ?_
  · have h1 := (dtB_nil (e := 5) ((dtB_nil (e := 5) hS).nilrow 44 3)).nilrow 44 3
    exact sub_st (H' := [pt b3 60 (arrW 0 (lgc (0, 0) none 0 0) (lgc (0, 0) none 0 0)), pt b5 61 (arrW 0 [.int .u64 ((0 : Nat) : Int)] [.int .u64 ((0 : Nat) : Int)]), row 44 3 none 0 0 [], dtB 5 [], row 44 3 none 0 0 [], dtB 5 []]) w' h1
  rintro ⟨j, w, t, ⟨om, oo⟩, ⟨⟨A5, c5⟩, K5, P5⟩, ⟨⟨A6, c6⟩, K6, P6⟩⟩ ⟨hj, hw, htj, hj60, hl5, hl6, hM⟩ J hJ
  dsimp only at hj hw htj hj60 hl5 hl6 hM ⊢
  rcases Nat.lt_or_ge j Z.length with hjl | hjl
  · have hne := hne (by omega)
    have hat := cellsL_at (f := tnc) tnc_len Z default j hjl
    generalize Z.getD j default = x at hat
    obtain ⟨kd, wh, nn, fr, d⟩ := x
    by_cases h60 : j = 60
    · focus (refine S_seq rfl ?_; refine S_region rfl rfl ?_; refine R_take (T_decT rfl (by omega)) ?_ rfl rfl; refine R_nil ?_; refine S_seq rfl ?_; refine S_true rfl rfl ?_; refine S_skip rfl ?_; refine S_seq rfl ?_; refine S_block rfl ?_; refine S_seq rfl ?_; refine S_region rfl rfl ?_; refine R_p rfl ?_ rfl rfl; refine R_take (T_ixM (sz := 5) (q := j) rfl rfl rfl rfl rfl rfl hne hjl) ?_ rfl rfl; refine R_take (T_lda (ds := tnc (kd, wh, nn, fr, d)) rfl rfl rfl (Srd.old h (fun k _ => noOwns k)) rfl (by omega) hat) ?_ rfl rfl; (refine R_eff (E_alloca rfl tn_zero) ?_ rfl rfl; rintro _ _ ⟨b7, rfl, rfl⟩); refine R_p rfl ?_ rfl rfl; (refine R_eff0 (E_storew (cs := tnc (0, 0, 0, 0, 0)) (ds := tnc (kd, wh, nn, fr, d)) rfl rfl rfl rfl (tnc_one _) rfl) ?_ rfl; rintro _ _ rfl); refine R_nil ?_; refine S_seq rfl ?_; refine S_seq rfl ?_; refine S_region rfl rfl ?_; refine R_p rfl ?_ rfl rfl; refine R_take (T_decT rfl (by omega)) ?_ rfl rfl; refine R_nil ?_; refine S_true rfl rfl ?_; refine S_exit rfl rfl ?_; refine S_seq rfl ?_)
      skip
      exact RS_sub (Sub.cons rfl Sub.nil) (RS_mem sub_st (hpost w b3 A5 A6 c5 c6 K5 K6 P5 P6 t om oo hw hl5 hl6 hM))
    obtain ⟨u0, hu0⟩ := wrapNat wh
    obtain ⟨k0, hk0⟩ := wrapNat kd
    obtain ⟨n0, hn0⟩ := wrapNat nn
    obtain ⟨u, hu2⟩ : ∃ u, u0 % 2 = u := ⟨_, rfl⟩
    obtain ⟨kk, hkk⟩ : ∃ u, k0 % 3 = u := ⟨_, rfl⟩
    obtain ⟨n9, hn9⟩ : ∃ u, n0 % 9 = u := ⟨_, rfl⟩
    have hu : u ≤ 1 := by omega
    focus (refine S_seq rfl ?_; refine S_region rfl rfl ?_; refine R_take (T_decT rfl (by omega)) ?_ rfl rfl; refine R_nil ?_; refine S_seq rfl ?_; refine S_true rfl rfl ?_; refine S_skip rfl ?_; refine S_seq rfl ?_; refine S_block rfl ?_; refine S_seq rfl ?_; refine S_region rfl rfl ?_; refine R_p rfl ?_ rfl rfl; refine R_take (T_ixM (sz := 5) (q := j) rfl rfl rfl rfl rfl rfl hne hjl) ?_ rfl rfl; refine R_take (T_lda (ds := tnc (kd, wh, nn, fr, d)) rfl rfl rfl (Srd.old h (fun k _ => noOwns k)) rfl (by omega) hat) ?_ rfl rfl; (refine R_eff (E_alloca rfl tn_zero) ?_ rfl rfl; rintro _ _ ⟨b7, rfl, rfl⟩); refine R_p rfl ?_ rfl rfl; (refine R_eff0 (E_storew (cs := tnc (0, 0, 0, 0, 0)) (ds := tnc (kd, wh, nn, fr, d)) rfl rfl rfl rfl (tnc_one _) rfl) ?_ rfl; rintro _ _ rfl); refine R_nil ?_; refine S_seq rfl ?_; refine S_seq rfl ?_; refine S_region rfl rfl ?_; refine R_p rfl ?_ rfl rfl; refine R_take (T_decF rfl (by omega)) ?_ rfl rfl; refine R_nil ?_; refine S_false rfl rfl ?_; refine S_skip rfl ?_; refine S_seq rfl ?_; refine S_region rfl rfl ?_; refine R_p rfl ?_ rfl rfl; refine R_take (T_load rfl rfl rfl rfl) ?_ rfl rfl; refine R_take (T_cvE hu0 rfl rfl rfl rfl) ?_ rfl rfl; refine R_take (T_modE hu2 rfl rfl (by omega)) ?_ rfl rfl; refine R_take (T_convf rfl rfl rfl rfl (by unfold fits; omega)) ?_ rfl rfl; refine R_p rfl ?_ rfl rfl; refine R_nil ?_; refine S_seq rfl ?_; refine S_region rfl rfl ?_; refine R_p rfl ?_ rfl rfl; refine R_take (T_load rfl rfl rfl rfl) ?_ rfl rfl; refine R_take (T_cvE hk0 rfl rfl rfl rfl) ?_ rfl rfl; refine R_take (T_modE hkk rfl rfl (by omega)) ?_ rfl rfl; refine R_nil ?_; refine S_block rfl ?_; refine S_seq rfl ?_; refine S_region rfl rfl ?_; refine R_p rfl ?_ rfl rfl; refine R_p rfl ?_ rfl rfl; refine R_nil ?_)
    have hround : ∀ (om oo : Nat) (A5 A6 : Option Addr) (c5 c6 K5 K6 : Nat) (P5 P6 : List Em), P5.length = K5 → P6.length = K6 → Mt t om oo (P5.map emv) (P6.map emv) → RS Try.prog B 256 w0 (owns []) [.code (c2 (c1 (c2 (c2 (c2 (c2 (c1 (c1 (c2 (c2 (c1 (c1 (c2 (c1 (c2 (c2 (c2 (c2 (c2 (cbody Try.f6)))))))))))))))))))), .blk 2, .blk 1, .code (c2 (c2 (c2 (c1 (c1 (c2 (c1 (c2 (c2 (c2 (c2 (c2 (cbody Try.f6))))))))))))), .back J, .blk 0, .code (c2 (c2 (c2 (c2 (c2 (c2 (cbody Try.f6)))))))] [(112, .bool (decide ((kk : Int) = 0))), (50, .int .u64 (kk : Int)), (8, .int .i64 (u : Int)), (7, .pointer (some ⟨b7, 0, none⟩)), (3, .pointer (some ⟨b3, 0, none⟩)), (4, .int .u64 (t : Int)), (5, .pointer (some ⟨b5, 0, none⟩)), (33, .slice A Z.length c), (34, .int .i64 (Z.length : Int)), (35, .int .i64 (j : Int))] [pt b7 63 (tnc (kd, wh, nn, fr, d)), pt b3 60 (arrW u (lgc (0, 0) A5 K5 c5) (lgc (0, 0) A6 K6 c6)), pt b5 61 (arrW u [.int .u64 (om : Int)] [.int .u64 (oo : Int)]), row 44 3 A5 K5 c5 (cellsL emc P5), dtB 5 (P5.map emd), row 44 3 A6 K6 c6 (cellsL emc P6), dtB 5 (P6.map emd)] := by
      intro om oo A5 A6 c5 c6 K5 K6 P5 P6 hl5 hl6 hM
      obtain ⟨L5, hP5⟩ : ∃ L, P5.map emv = L := ⟨_, rfl⟩
      obtain ⟨L6, hP6⟩ : ∃ L, P6.map emv = L := ⟨_, rfl⟩
      rw [hP5, hP6] at hM
      have hr5 := hM.rl
      have hr6 := hM.rm
      have hL5 : L5.length = K5 := by rw [← hP5, List.length_map, hl5]
      have hL6 : L6.length = K6 := by rw [← hP6, List.length_map, hl6]
      have hK5 : K5 ≤ 16 := by have := (right_fits hr5).1; omega
      have hK6 : K6 ≤ 16 := by have := (right_fits hr6).1; omega
      have ht5 : ∀ e ∈ L5, e.2.2.length ≤ 100000 := fun e he => Nat.le_trans (rising_txt L5 0 (right_rising hr5) e he) (by omega)
      have ht6 : ∀ e ∈ L6, e.2.2.length ≤ 100000 := fun e he => Nat.le_trans (rising_txt L6 0 (right_rising hr6) e he) (by omega)
      have hk5 := em_txt (N := 100000) hP5 ht5
      have hk6 := em_txt (N := 100000) hP6 ht6
      obtain ⟨lm, hlm⟩ : ∃ p, lastA (0, 0) L5 = p := ⟨_, rfl⟩
      obtain ⟨lo, hlo⟩ : ∃ p, lastA (0, 0) L6 = p := ⟨_, rfl⟩
      refine RS_row A5 K5 c5 fun hc5 _ _ _ => ?_
      refine RS_row A6 K6 c6 fun hc6 _ _ _ => ?_
      have hT60 : t ≤ 60 := by omega
      rcases (show kk = 0 ∨ kk = 1 ∨ kk = 2 by omega) with rfl | rfl | rfl
      · rw [show decide (((0 : Nat) : Int) = 0) = true from rfl]
        have hM1 := hM.own
        have hlt : lastT L5 0 ≤ t + 1 := Nat.le_trans (lastT_le hM.tl) (Nat.le_succ _)
        have hpl : placedB (t + 1, 1, []) = true := by
          show (decide (0 < t + 1) && decide (([] : List UInt8).length = 0)) = true
          rw [decide_eq_true (Nat.succ_pos t)]
          rfl
        rcases app_two hr5 hpl hlt with ⟨hs, hrn⟩ | hs
        · obtain ⟨r, hrd⟩ : ∃ r, L5 ++ [((t + 1, 1, []) : En)] = r := ⟨_, rfl⟩
          obtain ⟨p, hpd⟩ : ∃ p, lastA (0, 0) (L5 ++ [((t + 1, 1, []) : En)]) = p := ⟨_, rfl⟩
          have hM2 := hM1.app (x := (t + 1, 1, [])) (Nat.succ_ne_zero t) rfl hrn
          rw [hpd, hrd] at hs
          rw [hrd] at hM2
          have hs : app (0, 0) L5 (emv (t + 1, 1, none, 0, [])) = (0, p, (0, 0), r) := hs
          obtain ⟨K7, hK7⟩ : ∃ k, r.length = k := ⟨_, rfl⟩
          focus (refine S_true rfl rfl ?_; refine S_seq rfl ?_; refine S_region rfl rfl ?_; refine R_p rfl ?_ rfl rfl; refine R_take (T_addN rfl rfl (by unfold fits; omega)) ?_ rfl rfl; refine R_p rfl ?_ rfl rfl; refine R_nil ?_; refine S_seq rfl ?_; refine S_region rfl rfl ?_; refine R_p rfl ?_ rfl rfl; refine R_p rfl ?_ rfl rfl; refine R_take (T_ixaN (q := u) rfl rfl rfl rfl rfl rfl (by omega)) ?_ rfl rfl; (refine R_eff0 (E_storeA1 (cs' := arrW u [.int .u64 ((t + 1 : Nat) : Int)] [.int .u64 (oo : Int)]) rfl rfl rfl rfl rfl (arr_put1 hu) (by rw [arr_len (s := 1) rfl rfl]; omega)) ?_ rfl; rintro _ _ rfl); refine R_nil ?_; refine S_seq rfl ?_; refine S_region rfl rfl ?_; refine R_p rfl ?_ rfl rfl; refine R_take (T_ixaM (sz := 3) (q := u) rfl rfl rfl rfl rfl rfl (by omega)) ?_ rfl rfl; refine R_take (T_loads (ds := lgc (0, 0) A5 K5 c5) rfl rfl rfl rfl (arr_me (s := 3) (x := lgc (0, 0) A5 K5 c5) (y := lgc (0, 0) A6 K6 c6) hu rfl rfl)) ?_ rfl rfl; refine R_p rfl ?_ rfl rfl; refine R_take (T_build2 rfl rfl (em_built2 ((t + 1 : Nat) : Int) 1)) ?_ rfl rfl; (refine R_eff (E_hvG (f := 19) ⟨_, Try.func19, rfl, by kernel_rfl⟩ (fun w0 hS => apA_any w0 (0, 0) A5 c5 K5 P5 L5 hl5 hP5 ((Srd.row (A := A5) (n := K5) (c := c5)).rd w0 hS) ((SDt.own (e := 5) (D := P5.map emd) (by simp)).rd w0 hS) (by omega) hk5 (t + 1, 1, none, 0, []) ⟨rfl, fun h => absurd h (Nat.lt_irrefl 0)⟩ (Nat.zero_le _) 0 p (0, 0) r K7 hK7 hs) rfl rfl) ?_ rfl rfl; rintro _ _ ⟨⟨⟨A7, c7⟩, P7⟩, rfl, _, rfl⟩; dsimp only [List.cons_append, List.nil_append]); refine R_p rfl ?_ rfl rfl; refine R_p rfl ?_ rfl rfl; refine R_p rfl ?_ rfl rfl; refine R_p rfl ?_ rfl rfl; (refine R_eff (E_alloca rfl lg_zero) ?_ rfl rfl; rintro _ _ ⟨b9, rfl, rfl⟩); (refine R_eff (E_alloca rfl at_zero) ?_ rfl rfl; rintro _ _ ⟨b10, rfl, rfl⟩); (refine R_eff0 (E_storew (cs := lgc (0, 0) none 0 0) (ds := lgc (0, 0) A7 K7 c7) rfl rfl rfl rfl (lgc_one _ _ _ _) rfl) ?_ rfl; rintro _ _ rfl); (refine R_eff0 (E_storew (cs := atc (0, 0)) (ds := atc p) rfl rfl rfl rfl (atc_one _) rfl) ?_ rfl; rintro _ _ rfl); refine R_p rfl ?_ rfl rfl; refine R_nil ?_; refine S_seq rfl ?_; refine S_seq rfl ?_; refine S_region rfl rfl ?_; refine R_p rfl ?_ rfl rfl; refine R_take (T_decF rfl (by omega)) ?_ rfl rfl; refine R_p rfl ?_ rfl rfl; refine R_skip ?_ rfl rfl; refine R_skip ?_ rfl rfl; refine R_p rfl ?_ rfl rfl; refine R_nil ?_; refine S_false rfl rfl ?_; refine S_skip rfl ?_; refine S_seq rfl ?_; refine S_region rfl rfl ?_; refine R_p rfl ?_ rfl rfl; refine R_take (T_decT rfl (by omega)) ?_ rfl rfl; refine R_nil ?_; refine S_true rfl rfl ?_; refine S_region rfl rfl ?_; refine R_p rfl ?_ rfl rfl; refine R_take (T_loads (ds := lgc (0, 0) A7 K7 c7) rfl rfl rfl rfl rfl) ?_ rfl rfl; refine R_take (T_ixaM (sz := 3) (q := u) rfl rfl rfl rfl rfl rfl (by omega)) ?_ rfl rfl; (refine R_eff0 (E_storeA (ds := lgc (0, 0) A7 K7 c7) (cs' := arrW u (lgc (0, 0) A7 K7 c7) (lgc (0, 0) A6 K6 c6)) rfl rfl rfl rfl (lgc_one _ _ _ _) (arr_set hu rfl rfl rfl) (arr_fit hu rfl rfl rfl)) ?_ rfl; rintro _ _ rfl); refine R_nil ?_; refine RS_blk ?_; refine RS_blk ?_; refine S_region rfl rfl ?_; refine R_take (T_addN rfl rfl (by unfold fits; omega)) ?_ rfl rfl; refine R_p rfl ?_ rfl rfl; refine R_nil ?_)
          exact hJ (j + 1, u, t + 1, (t + 1, oo), ((A7, c7), K7, P7.1), ((A6, c6), K6, P6)) _ _ ⟨by show j + 1 ≤ _; omega, hu, by show t + 1 ≤ j + 1; omega, by show j + 1 ≤ 60; omega, (em_len P7.2.1).trans hK7, hl6, by show Mt _ _ _ (P7.1.map emv) (P6.map emv); rw [P7.2.1, hP6]; exact hM2⟩ (Sub.cons rfl (Sub.cons rfl (Sub.cons rfl (Sub.cons rfl (Sub.cons rfl (Sub.cons rfl Sub.nil)))))) sub_st (by show Z.length - (j + 1) < _; omega)
        · have hs : app (0, 0) L5 (emv (t + 1, 1, none, 0, [])) = (6, (0, 0), (0, 0), []) := hs
          focus (refine S_true rfl rfl ?_; refine S_seq rfl ?_; refine S_region rfl rfl ?_; refine R_p rfl ?_ rfl rfl; refine R_take (T_addN rfl rfl (by unfold fits; omega)) ?_ rfl rfl; refine R_p rfl ?_ rfl rfl; refine R_nil ?_; refine S_seq rfl ?_; refine S_region rfl rfl ?_; refine R_p rfl ?_ rfl rfl; refine R_p rfl ?_ rfl rfl; refine R_take (T_ixaN (q := u) rfl rfl rfl rfl rfl rfl (by omega)) ?_ rfl rfl; (refine R_eff0 (E_storeA1 (cs' := arrW u [.int .u64 ((t + 1 : Nat) : Int)] [.int .u64 (oo : Int)]) rfl rfl rfl rfl rfl (arr_put1 hu) (by rw [arr_len (s := 1) rfl rfl]; omega)) ?_ rfl; rintro _ _ rfl); refine R_nil ?_; refine S_seq rfl ?_; refine S_region rfl rfl ?_; refine R_p rfl ?_ rfl rfl; refine R_take (T_ixaM (sz := 3) (q := u) rfl rfl rfl rfl rfl rfl (by omega)) ?_ rfl rfl; refine R_take (T_loads (ds := lgc (0, 0) A5 K5 c5) rfl rfl rfl rfl (arr_me (s := 3) (x := lgc (0, 0) A5 K5 c5) (y := lgc (0, 0) A6 K6 c6) hu rfl rfl)) ?_ rfl rfl; refine R_p rfl ?_ rfl rfl; refine R_take (T_build2 rfl rfl (em_built2 ((t + 1 : Nat) : Int) 1)) ?_ rfl rfl; (refine R_eff (E_hvG (f := 19) ⟨_, Try.func19, rfl, by kernel_rfl⟩ (fun w0 hS => apA_any w0 (0, 0) A5 c5 K5 P5 L5 hl5 hP5 ((Srd.row (A := A5) (n := K5) (c := c5)).rd w0 hS) ((SDt.own (e := 5) (D := P5.map emd) (by simp)).rd w0 hS) (by omega) hk5 (t + 1, 1, none, 0, []) ⟨rfl, fun h => absurd h (Nat.lt_irrefl 0)⟩ (Nat.zero_le _) 6 (0, 0) (0, 0) [] 0 rfl hs) rfl rfl) ?_ rfl rfl; rintro _ _ ⟨⟨⟨A7, c7⟩, P7⟩, rfl, _, rfl⟩; dsimp only [List.cons_append, List.nil_append]); refine R_p rfl ?_ rfl rfl; refine R_p rfl ?_ rfl rfl; refine R_p rfl ?_ rfl rfl; refine R_p rfl ?_ rfl rfl; (refine R_eff (E_alloca rfl lg_zero) ?_ rfl rfl; rintro _ _ ⟨b9, rfl, rfl⟩); (refine R_eff (E_alloca rfl at_zero) ?_ rfl rfl; rintro _ _ ⟨b10, rfl, rfl⟩); (refine R_eff0 (E_storew (cs := lgc (0, 0) none 0 0) (ds := lgc (0, 0) A7 0 c7) rfl rfl rfl rfl (lgc_one _ _ _ _) rfl) ?_ rfl; rintro _ _ rfl); (refine R_eff0 (E_storew (cs := atc (0, 0)) (ds := atc (0, 0)) rfl rfl rfl rfl (atc_one _) rfl) ?_ rfl; rintro _ _ rfl); refine R_p rfl ?_ rfl rfl; refine R_nil ?_; refine S_seq rfl ?_; refine S_seq rfl ?_; refine S_region rfl rfl ?_; refine R_p rfl ?_ rfl rfl; refine R_take (T_decT rfl (by omega)) ?_ rfl rfl; refine R_take (T_decT rfl (by omega)) ?_ rfl rfl; refine R_p rfl ?_ rfl rfl; refine R_take (T_decF rfl (by omega)) ?_ rfl rfl; refine R_p rfl ?_ rfl rfl; refine R_nil ?_; refine S_false rfl rfl ?_; refine S_skip rfl ?_; refine S_seq rfl ?_; refine S_region rfl rfl ?_; refine R_p rfl ?_ rfl rfl; refine R_take (T_decF rfl (by omega)) ?_ rfl rfl; refine R_nil ?_; refine S_false rfl rfl ?_; refine S_skip rfl ?_; refine RS_blk ?_; refine RS_blk ?_; refine S_region rfl rfl ?_; refine R_take (T_addN rfl rfl (by unfold fits; omega)) ?_ rfl rfl; refine R_p rfl ?_ rfl rfl; refine R_nil ?_)
          exact hJ (j + 1, u, t + 1, (t + 1, oo), ((A5, c5), K5, P5), ((A6, c6), K6, P6)) _ _ ⟨by show j + 1 ≤ _; omega, hu, by show t + 1 ≤ j + 1; omega, by show j + 1 ≤ 60; omega, hl5, hl6, by show Mt _ _ _ (P5.map emv) (P6.map emv); rw [hP5, hP6]; exact hM1⟩ (Sub.cons rfl (Sub.cons rfl (Sub.cons rfl (Sub.cons rfl (Sub.cons rfl (Sub.cons rfl Sub.nil)))))) sub_st (by show Z.length - (j + 1) < _; omega)
      · rw [show decide (((1 : Nat) : Int) = 0) = false from rfl]
        obtain ⟨li, lt⟩ := lm
        have hlt0 : lastT L5 0 = lt := congrArg Prod.snd hlm
        focus (refine S_false rfl rfl ?_; refine S_seq rfl ?_; refine S_region rfl rfl ?_; refine R_take (T_decT rfl (by omega)) ?_ rfl rfl; refine R_p rfl ?_ rfl rfl; refine R_nil ?_; refine S_true rfl rfl ?_; refine S_seq rfl ?_; refine S_seq rfl ?_)
        by_cases hom : om = 0
        · skip
          skip
          refine S_draw ([pt b5 61 (arrW u [.int .u64 (om : Int)] [.int .u64 (oo : Int)]), pt b3 60 (arrW u (lgc (0, 0) A5 K5 c5) (lgc (0, 0) A6 K6 c6))]) sub_st (by kernel_rfl) rfl (by kernel_rfl) (by kernel_rfl : _ = 15) ?_
          refine D_take 0 rfl (pev_ok rfl) ?_ rfl rfl (by kernel_rfl) (by kernel_rfl)
          refine D_take 1 rfl (T_ixaN (q := u) rfl rfl rfl rfl rfl rfl (by omega)) ?_ rfl rfl (by kernel_rfl) (by kernel_rfl)
          refine D_take 2 rfl (T_load (v := .int .u64 (om : Int)) rfl rfl rfl (arr_at1 hu)) ?_ rfl rfl (by kernel_rfl) (by kernel_rfl)
          refine D_take 3 rfl (T_decT rfl (by omega)) ?_ rfl rfl (by kernel_rfl) (by kernel_rfl)
          refine D_take 4 rfl (pev_ok rfl) ?_ rfl rfl (by kernel_rfl) (by kernel_rfl)
          refine D_skip 5 rfl ?_ rfl rfl (by kernel_rfl) (by kernel_rfl)
          refine D_skip 6 rfl ?_ rfl rfl (by kernel_rfl) (by kernel_rfl)
          refine D_skip 7 rfl ?_ rfl rfl (by kernel_rfl) (by kernel_rfl)
          refine D_skip 8 rfl ?_ rfl rfl (by kernel_rfl) (by kernel_rfl)
          refine D_skip 9 rfl ?_ rfl rfl (by kernel_rfl) (by kernel_rfl)
          refine D_skip 10 rfl ?_ rfl rfl (by kernel_rfl) (by kernel_rfl)
          refine D_skip 11 rfl ?_ rfl rfl (by kernel_rfl) (by kernel_rfl)
          refine D_skip 12 rfl ?_ rfl rfl (by kernel_rfl) (by kernel_rfl)
          refine D_skip 13 rfl ?_ rfl rfl (by kernel_rfl) (by kernel_rfl)
          refine D_take 14 rfl (pev_ok rfl) ?_ rfl rfl (by kernel_rfl) (by kernel_rfl)
          refine D_done ?_ (by kernel_rfl)
          skip
          focus (refine S_true rfl rfl ?_; refine S_exit rfl rfl ?_; refine S_region rfl rfl ?_; refine R_take (T_addN rfl rfl (by unfold fits; omega)) ?_ rfl rfl; refine R_p rfl ?_ rfl rfl; refine R_nil ?_)
          exact hJ (j + 1, u, t, (om, oo), ((A5, c5), K5, P5), ((A6, c6), K6, P6)) _ _ ⟨by show j + 1 ≤ _; omega, hu, by show t ≤ j + 1; omega, by show j + 1 ≤ 60; omega, hl5, hl6, by show Mt _ _ _ (P5.map emv) (P6.map emv); rw [hP5, hP6]; exact hM⟩ (Sub.cons rfl (Sub.cons rfl (Sub.cons rfl (Sub.cons rfl (Sub.cons rfl (Sub.cons rfl Sub.nil)))))) sub_st (by show Z.length - (j + 1) < _; omega)
        by_cases hlo2 : lt = om
        · subst hlo2
          have hpl : placedB (lt, 2, [d]) = true := by
            show (decide (0 < lt) && decide ([d].length ≤ 1024)) = true
            rw [decide_eq_true (Nat.pos_of_ne_zero hom), decide_eq_true (by show 1 ≤ 1024; decide)]
            rfl
          have hlt : lastT L5 0 ≤ lt := Nat.le_of_eq hlt0
          skip
          refine S_draw ([pt b5 61 (arrW u [.int .u64 (lt : Int)] [.int .u64 (oo : Int)]), pt b3 60 (arrW u (lgc (0, 0) A5 K5 c5) (lgc (0, 0) A6 K6 c6))]) sub_st (by kernel_rfl) rfl (by kernel_rfl) (by kernel_rfl : _ = 15) ?_
          refine D_take 0 rfl (pev_ok rfl) ?_ rfl rfl (by kernel_rfl) (by kernel_rfl)
          refine D_take 1 rfl (T_ixaN (q := u) rfl rfl rfl rfl rfl rfl (by omega)) ?_ rfl rfl (by kernel_rfl) (by kernel_rfl)
          refine D_take 2 rfl (T_load (v := .int .u64 (lt : Int)) rfl rfl rfl (arr_at1 hu)) ?_ rfl rfl (by kernel_rfl) (by kernel_rfl)
          refine D_take 3 rfl (T_decF rfl (by omega)) ?_ rfl rfl (by kernel_rfl) (by kernel_rfl)
          refine D_take 4 rfl (pev_ok rfl) ?_ rfl rfl (by kernel_rfl) (by kernel_rfl)
          refine D_take 5 rfl (pev_ok rfl) ?_ rfl rfl (by kernel_rfl) (by kernel_rfl)
          refine D_take 6 rfl (T_ixaM (sz := 3) (q := u) rfl rfl rfl rfl rfl rfl (by omega)) ?_ rfl rfl (by kernel_rfl) (by kernel_rfl)
          refine D_take 7 rfl (T_loads (ds := lgc (0, 0) A5 K5 c5) rfl rfl rfl rfl (arr_me (s := 3) (x := lgc (0, 0) A5 K5 c5) (y := lgc (0, 0) A6 K6 c6) hu rfl rfl)) ?_ rfl rfl (by kernel_rfl) (by kernel_rfl)
          refine D_take 10 rfl (pev_ok rfl) ?_ rfl rfl (by kernel_rfl) (by kernel_rfl)
          refine D_take 11 rfl (T_ixaN (q := u) rfl rfl rfl rfl rfl rfl (by omega)) ?_ rfl rfl (by kernel_rfl) (by kernel_rfl)
          refine D_take 12 rfl (T_load (v := .int .u64 (lt : Int)) rfl rfl rfl (arr_at1 hu)) ?_ rfl rfl (by kernel_rfl) (by kernel_rfl)
          refine D_one 8 rfl (E_hv0 (f := 24) ⟨_, Try.func24, rfl, by kernel_rfl⟩ (fun w0 hS => lastF_k w0 (0, 0) A5 c5 K5 P5 L5 (li, lt) hl5 hP5 hr5 hlm ((Srd.row (A := A5) (n := K5) (c := c5)).rd w0 hS) (by omega)) rfl rfl (fun _ => rfl)) ?_ rfl rfl (by kernel_rfl)
          rintro _ _ ⟨_, rfl, _, rfl⟩
          refine Nx_same sub_st ?_
          refine D_take 9 rfl (T_fldv (xs := atc (li, lt)) rfl rfl rfl rfl rfl rfl) ?_ rfl rfl (by kernel_rfl) (by kernel_rfl)
          refine D_take 13 rfl (T_decF rfl (by omega)) ?_ rfl rfl (by kernel_rfl) (by kernel_rfl)
          refine D_take 14 rfl (pev_ok rfl) ?_ rfl rfl (by kernel_rfl) (by kernel_rfl)
          refine D_done ?_ (by kernel_rfl)
          skip
          focus (refine S_false rfl rfl ?_; refine S_skip rfl ?_; refine S_seq rfl ?_)
          rcases app_two hr5 hpl hlt with ⟨hs, hrn⟩ | hs
          · obtain ⟨r, hrd⟩ : ∃ r, L5 ++ [((lt, 2, [d]) : En)] = r := ⟨_, rfl⟩
            obtain ⟨p, hpd⟩ : ∃ p, lastA (0, 0) (L5 ++ [((lt, 2, [d]) : En)]) = p := ⟨_, rfl⟩
            have hM2 := hM.app (x := (lt, 2, [d])) hom rfl hrn
            rw [hpd, hrd] at hs
            rw [hrd] at hM2
            obtain ⟨K7, hK7⟩ : ∃ k, r.length = k := ⟨_, rfl⟩
            refine S_draw ([pt b3 60 (arrW u (lgc (0, 0) A5 K5 c5) (lgc (0, 0) A6 K6 c6)), pt b5 61 (arrW u [.int .u64 (lt : Int)] [.int .u64 (oo : Int)]), pt b7 63 (tnc (kd, wh, nn, fr, d))]) sub_st (by kernel_rfl) rfl (by kernel_rfl) (by kernel_rfl : _ = 20) ?_
            refine D_take 0 rfl (pev_ok rfl) ?_ rfl rfl (by kernel_rfl) (by kernel_rfl)
            refine D_take 1 rfl (T_ixaM (sz := 3) (q := u) rfl rfl rfl rfl rfl rfl (by omega)) ?_ rfl rfl (by kernel_rfl) (by kernel_rfl)
            refine D_take 2 rfl (T_loads (ds := lgc (0, 0) A5 K5 c5) rfl rfl rfl rfl (arr_me (s := 3) (x := lgc (0, 0) A5 K5 c5) (y := lgc (0, 0) A6 K6 c6) hu rfl rfl)) ?_ rfl rfl (by kernel_rfl) (by kernel_rfl)
            refine D_take 3 rfl (pev_ok rfl) ?_ rfl rfl (by kernel_rfl) (by kernel_rfl)
            refine D_take 4 rfl (T_ixaN (q := u) rfl rfl rfl rfl rfl rfl (by omega)) ?_ rfl rfl (by kernel_rfl) (by kernel_rfl)
            refine D_take 5 rfl (T_load (v := .int .u64 (lt : Int)) rfl rfl rfl (arr_at1 hu)) ?_ rfl rfl (by kernel_rfl) (by kernel_rfl)
            refine D_take 6 rfl (pev_ok rfl) ?_ rfl rfl (by kernel_rfl) (by kernel_rfl)
            refine D_take 7 rfl (T_load rfl rfl rfl rfl) ?_ rfl rfl (by kernel_rfl) (by kernel_rfl)
            refine D_node #[true, true, true, true, true, true, true, true, true, true, true, true, true, true, true, true, true, false, false, false] (fun x : Nat × Option Addr × Nat × Sh r × Nat × Nat => [(171, zi 0), (170, .agg (atc p).toArray), (169, .agg (lgc (0, 0) x.2.1 K7 x.2.2.1).toArray), (157, .tuple #[.agg (lgc (0, 0) x.2.1 K7 x.2.2.1).toArray, .agg (atc p).toArray, zi 0]), (167, .agg [Value.int .u64 (lt : Int), .int .i64 2, .slice (some ⟨x.1, 0, none⟩) 1 1].toArray), (13, .pointer (some ⟨x.2.2.2.2.2, 0, none⟩)), (12, .pointer (some ⟨x.2.2.2.2.1, 0, none⟩)), (168, .tuple #[.agg (lgc (0, 0) x.2.1 K7 x.2.2.1).toArray, .agg (atc p).toArray, zi 0]), (166, .slice (some ⟨x.1, 0, none⟩) 1 1), (165, bv d), (163, .int .u64 (lt : Int)), (160, .agg (lgc (0, 0) A5 K5 c5).toArray), (8, .int .i64 (u : Int)), (3, .pointer (some ⟨b3, 0, none⟩)), (4, .int .u64 (t : Int)), (5, .pointer (some ⟨b5, 0, none⟩)), (33, .slice A Z.length c), (34, .int .i64 (Z.length : Int)), (35, .int .i64 (j : Int))]) (fun x : Nat × Option Addr × Nat × Sh r × Nat × Nat => [pt x.2.2.2.2.2 24 (atc (0, 0)), pt x.2.2.2.2.1 27 (lgc (0, 0) none 0 0), row 44 3 x.2.1 K7 x.2.2.1 (cellsL emc x.2.2.2.1.1), dtB 5 (x.2.2.2.1.1.map emd), pt x.1 5 [bv d], pt b3 60 (arrW u (lgc (0, 0) A5 K5 c5) (lgc (0, 0) A6 K6 c6)), pt b5 61 (arrW u [.int .u64 (lt : Int)] [.int .u64 (oo : Int)]), row 44 3 A5 K5 c5 (cellsL emc P5), dtB 5 (P5.map emd), row 44 3 A6 K6 c6 (cellsL emc P6), dtB 5 (P6.map emd), pt b7 63 (tnc (kd, wh, nn, fr, d))]) (fun nd0 => ?_) (fun x => ?_)
            refine D_nodeR #[true, true, true, true, true, true, true, true, true, true, true, true, true, true, true, true, false, false, false, false] (fun x : Nat × Option Addr × Nat × Sh r × Nat => [(171, zi 0), (170, .agg (atc p).toArray), (169, .agg (lgc (0, 0) x.2.1 K7 x.2.2.1).toArray), (157, .tuple #[.agg (lgc (0, 0) x.2.1 K7 x.2.2.1).toArray, .agg (atc p).toArray, zi 0]), (167, .agg [Value.int .u64 (lt : Int), .int .i64 2, .slice (some ⟨x.1, 0, none⟩) 1 1].toArray), (12, .pointer (some ⟨x.2.2.2.2, 0, none⟩)), (168, .tuple #[.agg (lgc (0, 0) x.2.1 K7 x.2.2.1).toArray, .agg (atc p).toArray, zi 0]), (166, .slice (some ⟨x.1, 0, none⟩) 1 1), (165, bv d), (163, .int .u64 (lt : Int)), (160, .agg (lgc (0, 0) A5 K5 c5).toArray), (8, .int .i64 (u : Int)), (3, .pointer (some ⟨b3, 0, none⟩)), (4, .int .u64 (t : Int)), (5, .pointer (some ⟨b5, 0, none⟩)), (33, .slice A Z.length c), (34, .int .i64 (Z.length : Int)), (35, .int .i64 (j : Int))]) (fun x : Nat × Option Addr × Nat × Sh r × Nat => [pt x.2.2.2.2 27 (lgc (0, 0) none 0 0), row 44 3 x.2.1 K7 x.2.2.1 (cellsL emc x.2.2.2.1.1), dtB 5 (x.2.2.2.1.1.map emd), pt x.1 5 [bv d], pt b3 60 (arrW u (lgc (0, 0) A5 K5 c5) (lgc (0, 0) A6 K6 c6)), pt b5 61 (arrW u [.int .u64 (lt : Int)] [.int .u64 (oo : Int)]), row 44 3 A5 K5 c5 (cellsL emc P5), dtB 5 (P5.map emd), row 44 3 A6 K6 c6 (cellsL emc P6), dtB 5 (P6.map emd), pt b7 63 (tnc (kd, wh, nn, fr, d))]) (fun x => ?_) (fun nd1 => ?_)
            · skip
              obtain ⟨bl, A7, c7, P7, b12⟩ := x
              try dsimp only
              refine D_one 16 rfl (E_alloca rfl at_zero) ?_ rfl rfl (by kernel_rfl)
              rintro _ _ ⟨b13, rfl, rfl⟩
              refine Nx_same sub_st ?_
              have h := nd0 (bl, A7, c7, P7, b12, b13)
              try dsimp only at h
              exact D_at h (by repeat first | exact Sub.nil | refine Sub.cons rfl ?_) sub_st (by kernel_rfl)
            refine D_nodeR #[true, true, true, true, true, true, true, true, true, true, true, true, true, true, true, false, true, false, false, false] (fun x : Nat × Option Addr × Nat × Sh r × Nat => [(171, zi 0), (170, .agg (atc p).toArray), (169, .agg (lgc (0, 0) x.2.1 K7 x.2.2.1).toArray), (157, .tuple #[.agg (lgc (0, 0) x.2.1 K7 x.2.2.1).toArray, .agg (atc p).toArray, zi 0]), (167, .agg [Value.int .u64 (lt : Int), .int .i64 2, .slice (some ⟨x.1, 0, none⟩) 1 1].toArray), (13, .pointer (some ⟨x.2.2.2.2, 0, none⟩)), (168, .tuple #[.agg (lgc (0, 0) x.2.1 K7 x.2.2.1).toArray, .agg (atc p).toArray, zi 0]), (166, .slice (some ⟨x.1, 0, none⟩) 1 1), (165, bv d), (163, .int .u64 (lt : Int)), (160, .agg (lgc (0, 0) A5 K5 c5).toArray), (8, .int .i64 (u : Int)), (3, .pointer (some ⟨b3, 0, none⟩)), (4, .int .u64 (t : Int)), (5, .pointer (some ⟨b5, 0, none⟩)), (33, .slice A Z.length c), (34, .int .i64 (Z.length : Int)), (35, .int .i64 (j : Int))]) (fun x : Nat × Option Addr × Nat × Sh r × Nat => [pt x.2.2.2.2 24 (atc (0, 0)), row 44 3 x.2.1 K7 x.2.2.1 (cellsL emc x.2.2.2.1.1), dtB 5 (x.2.2.2.1.1.map emd), pt x.1 5 [bv d], pt b3 60 (arrW u (lgc (0, 0) A5 K5 c5) (lgc (0, 0) A6 K6 c6)), pt b5 61 (arrW u [.int .u64 (lt : Int)] [.int .u64 (oo : Int)]), row 44 3 A5 K5 c5 (cellsL emc P5), dtB 5 (P5.map emd), row 44 3 A6 K6 c6 (cellsL emc P6), dtB 5 (P6.map emd), pt b7 63 (tnc (kd, wh, nn, fr, d))]) (fun x => ?_) (fun nd2 => ?_)
            · skip
              obtain ⟨bl, A7, c7, P7, b13⟩ := x
              try dsimp only
              refine D_one 15 rfl (E_alloca rfl lg_zero) ?_ rfl rfl (by kernel_rfl)
              rintro _ _ ⟨b12, rfl, rfl⟩
              refine Nx_same sub_st ?_
              have h := nd0 (bl, A7, c7, P7, b12, b13)
              try dsimp only at h
              exact D_at h (by repeat first | exact Sub.nil | refine Sub.cons rfl ?_) sub_st (by kernel_rfl)
            refine D_nodeR #[true, true, true, true, true, true, true, true, true, true, true, true, true, true, true, false, false, false, false, false] (fun x : Nat × Option Addr × Nat × Sh r => [(171, zi 0), (170, .agg (atc p).toArray), (169, .agg (lgc (0, 0) x.2.1 K7 x.2.2.1).toArray), (157, .tuple #[.agg (lgc (0, 0) x.2.1 K7 x.2.2.1).toArray, .agg (atc p).toArray, zi 0]), (167, .agg [Value.int .u64 (lt : Int), .int .i64 2, .slice (some ⟨x.1, 0, none⟩) 1 1].toArray), (168, .tuple #[.agg (lgc (0, 0) x.2.1 K7 x.2.2.1).toArray, .agg (atc p).toArray, zi 0]), (166, .slice (some ⟨x.1, 0, none⟩) 1 1), (165, bv d), (163, .int .u64 (lt : Int)), (160, .agg (lgc (0, 0) A5 K5 c5).toArray), (8, .int .i64 (u : Int)), (3, .pointer (some ⟨b3, 0, none⟩)), (4, .int .u64 (t : Int)), (5, .pointer (some ⟨b5, 0, none⟩)), (33, .slice A Z.length c), (34, .int .i64 (Z.length : Int)), (35, .int .i64 (j : Int))]) (fun x : Nat × Option Addr × Nat × Sh r => [row 44 3 x.2.1 K7 x.2.2.1 (cellsL emc x.2.2.2.1), dtB 5 (x.2.2.2.1.map emd), pt x.1 5 [bv d], pt b3 60 (arrW u (lgc (0, 0) A5 K5 c5) (lgc (0, 0) A6 K6 c6)), pt b5 61 (arrW u [.int .u64 (lt : Int)] [.int .u64 (oo : Int)]), row 44 3 A5 K5 c5 (cellsL emc P5), dtB 5 (P5.map emd), row 44 3 A6 K6 c6 (cellsL emc P6), dtB 5 (P6.map emd), pt b7 63 (tnc (kd, wh, nn, fr, d))]) (fun x => ?_) (fun nd3 => ?_)
            · skip
              obtain ⟨bl, A7, c7, P7⟩ := x
              try dsimp only
              refine D_two 15 16 (by decide) rfl rfl (E_alloca rfl lg_zero) (E_alloca rfl at_zero) ?_ ?_ rfl rfl rfl rfl (by kernel_rfl)
              · rintro _ _ ⟨b12, rfl, rfl⟩
                refine Nx_same sub_st ?_
                have h := nd1 (bl, A7, c7, P7, b12)
                try dsimp only at h
                exact D_at h (by repeat first | exact Sub.nil | refine Sub.cons rfl ?_) sub_st (by kernel_rfl)
              · rintro _ _ ⟨b13, rfl, rfl⟩
                refine Nx_same sub_st ?_
                have h := nd2 (bl, A7, c7, P7, b13)
                try dsimp only at h
                exact D_at h (by repeat first | exact Sub.nil | refine Sub.cons rfl ?_) sub_st (by kernel_rfl)
            refine D_nodeR #[true, true, true, true, true, true, true, true, true, true, false, false, false, false, false, true, true, false, false, false] (fun x : Nat × Nat × Nat => [(167, .agg [Value.int .u64 (lt : Int), .int .i64 2, .slice (some ⟨x.1, 0, none⟩) 1 1].toArray), (13, .pointer (some ⟨x.2.2, 0, none⟩)), (12, .pointer (some ⟨x.2.1, 0, none⟩)), (166, .slice (some ⟨x.1, 0, none⟩) 1 1), (165, bv d), (163, .int .u64 (lt : Int)), (160, .agg (lgc (0, 0) A5 K5 c5).toArray), (8, .int .i64 (u : Int)), (3, .pointer (some ⟨b3, 0, none⟩)), (4, .int .u64 (t : Int)), (5, .pointer (some ⟨b5, 0, none⟩)), (33, .slice A Z.length c), (34, .int .i64 (Z.length : Int)), (35, .int .i64 (j : Int))]) (fun x : Nat × Nat × Nat => [pt x.2.2 24 (atc (0, 0)), pt x.2.1 27 (lgc (0, 0) none 0 0), pt x.1 5 [bv d], pt b3 60 (arrW u (lgc (0, 0) A5 K5 c5) (lgc (0, 0) A6 K6 c6)), pt b5 61 (arrW u [.int .u64 (lt : Int)] [.int .u64 (oo : Int)]), row 44 3 A5 K5 c5 (cellsL emc P5), dtB 5 (P5.map emd), row 44 3 A6 K6 c6 (cellsL emc P6), dtB 5 (P6.map emd), pt b7 63 (tnc (kd, wh, nn, fr, d))]) (fun x => ?_) (fun nd4 => ?_)
            · skip
              obtain ⟨bl, b12, b13⟩ := x
              try dsimp only
              refine D_one 10 rfl (E_hvG (f := 19) ⟨_, Try.func19, rfl, by kernel_rfl⟩ (fun w0 hS => apA_any w0 (0, 0) A5 c5 K5 P5 L5 hl5 hP5 ((Srd.row (A := A5) (n := K5) (c := c5)).rd w0 hS) ((SDt.own (e := 5) (D := P5.map emd) (by simp)).rd w0 hS) (by omega) hk5 (lt, 2, some ⟨bl, 0, none⟩, 1, [d]) ((Srd.pt (n := 1) (g := bl) (ds := [bv d]) rfl (fun j u hj => by rw [Nat.zero_add]; exact hj)).rd w0 hS) (by show 1 ≤ 100000; decide) 0 p (0, 0) r K7 hK7 hs) rfl rfl) ?_ rfl rfl (by kernel_rfl)
              rintro _ _ ⟨⟨⟨A7, c7⟩, P7⟩, rfl, _, rfl⟩; dsimp only [List.cons_append, List.nil_append]
              refine Nx_same sub_st ?_
              refine D_take 11 rfl (pev_ok rfl) ?_ rfl rfl (by kernel_rfl) (by kernel_rfl)
              refine D_take 12 rfl (pev_ok rfl) ?_ rfl rfl (by kernel_rfl) (by kernel_rfl)
              refine D_take 13 rfl (pev_ok rfl) ?_ rfl rfl (by kernel_rfl) (by kernel_rfl)
              refine D_take 14 rfl (pev_ok rfl) ?_ rfl rfl (by kernel_rfl) (by kernel_rfl)
              have h := nd0 (bl, A7, c7, P7, b12, b13)
              try dsimp only at h
              exact D_at h (by repeat first | exact Sub.nil | refine Sub.cons rfl ?_) sub_st (by kernel_rfl)
            refine D_nodeR #[true, true, true, true, true, true, true, true, true, true, false, false, false, false, false, true, false, false, false, false] (fun x : Nat × Nat => [(167, .agg [Value.int .u64 (lt : Int), .int .i64 2, .slice (some ⟨x.1, 0, none⟩) 1 1].toArray), (12, .pointer (some ⟨x.2, 0, none⟩)), (166, .slice (some ⟨x.1, 0, none⟩) 1 1), (165, bv d), (163, .int .u64 (lt : Int)), (160, .agg (lgc (0, 0) A5 K5 c5).toArray), (8, .int .i64 (u : Int)), (3, .pointer (some ⟨b3, 0, none⟩)), (4, .int .u64 (t : Int)), (5, .pointer (some ⟨b5, 0, none⟩)), (33, .slice A Z.length c), (34, .int .i64 (Z.length : Int)), (35, .int .i64 (j : Int))]) (fun x : Nat × Nat => [pt x.2 27 (lgc (0, 0) none 0 0), pt x.1 5 [bv d], pt b3 60 (arrW u (lgc (0, 0) A5 K5 c5) (lgc (0, 0) A6 K6 c6)), pt b5 61 (arrW u [.int .u64 (lt : Int)] [.int .u64 (oo : Int)]), row 44 3 A5 K5 c5 (cellsL emc P5), dtB 5 (P5.map emd), row 44 3 A6 K6 c6 (cellsL emc P6), dtB 5 (P6.map emd), pt b7 63 (tnc (kd, wh, nn, fr, d))]) (fun x => ?_) (fun nd5 => ?_)
            · skip
              obtain ⟨bl, b12⟩ := x
              try dsimp only
              refine D_two 10 16 (by decide) rfl rfl (E_hvG (f := 19) ⟨_, Try.func19, rfl, by kernel_rfl⟩ (fun w0 hS => apA_any w0 (0, 0) A5 c5 K5 P5 L5 hl5 hP5 ((Srd.row (A := A5) (n := K5) (c := c5)).rd w0 hS) ((SDt.own (e := 5) (D := P5.map emd) (by simp)).rd w0 hS) (by omega) hk5 (lt, 2, some ⟨bl, 0, none⟩, 1, [d]) ((Srd.pt (n := 1) (g := bl) (ds := [bv d]) rfl (fun j u hj => by rw [Nat.zero_add]; exact hj)).rd w0 hS) (by show 1 ≤ 100000; decide) 0 p (0, 0) r K7 hK7 hs) rfl rfl) (E_alloca rfl at_zero) ?_ ?_ rfl rfl rfl rfl (by kernel_rfl)
              · rintro _ _ ⟨⟨⟨A7, c7⟩, P7⟩, rfl, _, rfl⟩; dsimp only [List.cons_append, List.nil_append]
                refine Nx_same sub_st ?_
                refine D_take 11 rfl (pev_ok rfl) ?_ rfl rfl (by kernel_rfl) (by kernel_rfl)
                refine D_take 12 rfl (pev_ok rfl) ?_ rfl rfl (by kernel_rfl) (by kernel_rfl)
                refine D_take 13 rfl (pev_ok rfl) ?_ rfl rfl (by kernel_rfl) (by kernel_rfl)
                refine D_take 14 rfl (pev_ok rfl) ?_ rfl rfl (by kernel_rfl) (by kernel_rfl)
                have h := nd1 (bl, A7, c7, P7, b12)
                try dsimp only at h
                exact D_at h (by repeat first | exact Sub.nil | refine Sub.cons rfl ?_) sub_st (by kernel_rfl)
              · rintro _ _ ⟨b13, rfl, rfl⟩
                refine Nx_same sub_st ?_
                have h := nd4 (bl, b12, b13)
                try dsimp only at h
                exact D_at h (by repeat first | exact Sub.nil | refine Sub.cons rfl ?_) sub_st (by kernel_rfl)
            refine D_nodeR #[true, true, true, true, true, true, true, true, true, true, false, false, false, false, false, false, true, false, false, false] (fun x : Nat × Nat => [(167, .agg [Value.int .u64 (lt : Int), .int .i64 2, .slice (some ⟨x.1, 0, none⟩) 1 1].toArray), (13, .pointer (some ⟨x.2, 0, none⟩)), (166, .slice (some ⟨x.1, 0, none⟩) 1 1), (165, bv d), (163, .int .u64 (lt : Int)), (160, .agg (lgc (0, 0) A5 K5 c5).toArray), (8, .int .i64 (u : Int)), (3, .pointer (some ⟨b3, 0, none⟩)), (4, .int .u64 (t : Int)), (5, .pointer (some ⟨b5, 0, none⟩)), (33, .slice A Z.length c), (34, .int .i64 (Z.length : Int)), (35, .int .i64 (j : Int))]) (fun x : Nat × Nat => [pt x.2 24 (atc (0, 0)), pt x.1 5 [bv d], pt b3 60 (arrW u (lgc (0, 0) A5 K5 c5) (lgc (0, 0) A6 K6 c6)), pt b5 61 (arrW u [.int .u64 (lt : Int)] [.int .u64 (oo : Int)]), row 44 3 A5 K5 c5 (cellsL emc P5), dtB 5 (P5.map emd), row 44 3 A6 K6 c6 (cellsL emc P6), dtB 5 (P6.map emd), pt b7 63 (tnc (kd, wh, nn, fr, d))]) (fun x => ?_) (fun nd6 => ?_)
            · skip
              obtain ⟨bl, b13⟩ := x
              try dsimp only
              refine D_two 10 15 (by decide) rfl rfl (E_hvG (f := 19) ⟨_, Try.func19, rfl, by kernel_rfl⟩ (fun w0 hS => apA_any w0 (0, 0) A5 c5 K5 P5 L5 hl5 hP5 ((Srd.row (A := A5) (n := K5) (c := c5)).rd w0 hS) ((SDt.own (e := 5) (D := P5.map emd) (by simp)).rd w0 hS) (by omega) hk5 (lt, 2, some ⟨bl, 0, none⟩, 1, [d]) ((Srd.pt (n := 1) (g := bl) (ds := [bv d]) rfl (fun j u hj => by rw [Nat.zero_add]; exact hj)).rd w0 hS) (by show 1 ≤ 100000; decide) 0 p (0, 0) r K7 hK7 hs) rfl rfl) (E_alloca rfl lg_zero) ?_ ?_ rfl rfl rfl rfl (by kernel_rfl)
              · rintro _ _ ⟨⟨⟨A7, c7⟩, P7⟩, rfl, _, rfl⟩; dsimp only [List.cons_append, List.nil_append]
                refine Nx_same sub_st ?_
                refine D_take 11 rfl (pev_ok rfl) ?_ rfl rfl (by kernel_rfl) (by kernel_rfl)
                refine D_take 12 rfl (pev_ok rfl) ?_ rfl rfl (by kernel_rfl) (by kernel_rfl)
                refine D_take 13 rfl (pev_ok rfl) ?_ rfl rfl (by kernel_rfl) (by kernel_rfl)
                refine D_take 14 rfl (pev_ok rfl) ?_ rfl rfl (by kernel_rfl) (by kernel_rfl)
                have h := nd2 (bl, A7, c7, P7, b13)
                try dsimp only at h
                exact D_at h (by repeat first | exact Sub.nil | refine Sub.cons rfl ?_) sub_st (by kernel_rfl)
              · rintro _ _ ⟨b12, rfl, rfl⟩
                refine Nx_same sub_st ?_
                have h := nd4 (bl, b12, b13)
                try dsimp only at h
                exact D_at h (by repeat first | exact Sub.nil | refine Sub.cons rfl ?_) sub_st (by kernel_rfl)
            refine D_nodeR #[true, true, true, true, true, true, true, true, true, true, false, false, false, false, false, false, false, false, false, false] (fun x : Nat => [(167, .agg [Value.int .u64 (lt : Int), .int .i64 2, .slice (some ⟨x, 0, none⟩) 1 1].toArray), (166, .slice (some ⟨x, 0, none⟩) 1 1), (165, bv d), (163, .int .u64 (lt : Int)), (160, .agg (lgc (0, 0) A5 K5 c5).toArray), (8, .int .i64 (u : Int)), (3, .pointer (some ⟨b3, 0, none⟩)), (4, .int .u64 (t : Int)), (5, .pointer (some ⟨b5, 0, none⟩)), (33, .slice A Z.length c), (34, .int .i64 (Z.length : Int)), (35, .int .i64 (j : Int))]) (fun x : Nat => [pt x 5 [bv d], pt b3 60 (arrW u (lgc (0, 0) A5 K5 c5) (lgc (0, 0) A6 K6 c6)), pt b5 61 (arrW u [.int .u64 (lt : Int)] [.int .u64 (oo : Int)]), row 44 3 A5 K5 c5 (cellsL emc P5), dtB 5 (P5.map emd), row 44 3 A6 K6 c6 (cellsL emc P6), dtB 5 (P6.map emd), pt b7 63 (tnc (kd, wh, nn, fr, d))]) (fun x => ?_) (fun nd7 => ?_)
            · skip
              revert x; intro bl
              try dsimp only
              refine D_three 10 15 16 rfl rfl rfl (E_hvG (f := 19) ⟨_, Try.func19, rfl, by kernel_rfl⟩ (fun w0 hS => apA_any w0 (0, 0) A5 c5 K5 P5 L5 hl5 hP5 ((Srd.row (A := A5) (n := K5) (c := c5)).rd w0 hS) ((SDt.own (e := 5) (D := P5.map emd) (by simp)).rd w0 hS) (by omega) hk5 (lt, 2, some ⟨bl, 0, none⟩, 1, [d]) ((Srd.pt (n := 1) (g := bl) (ds := [bv d]) rfl (fun j u hj => by rw [Nat.zero_add]; exact hj)).rd w0 hS) (by show 1 ≤ 100000; decide) 0 p (0, 0) r K7 hK7 hs) rfl rfl) (E_alloca rfl lg_zero) (E_alloca rfl at_zero) ?_ ?_ ?_ rfl rfl rfl rfl rfl rfl (by kernel_rfl)
              · rintro _ _ ⟨⟨⟨A7, c7⟩, P7⟩, rfl, _, rfl⟩; dsimp only [List.cons_append, List.nil_append]
                refine Nx_same sub_st ?_
                refine D_take 11 rfl (pev_ok rfl) ?_ rfl rfl (by kernel_rfl) (by kernel_rfl)
                refine D_take 12 rfl (pev_ok rfl) ?_ rfl rfl (by kernel_rfl) (by kernel_rfl)
                refine D_take 13 rfl (pev_ok rfl) ?_ rfl rfl (by kernel_rfl) (by kernel_rfl)
                refine D_take 14 rfl (pev_ok rfl) ?_ rfl rfl (by kernel_rfl) (by kernel_rfl)
                have h := nd3 (bl, A7, c7, P7)
                try dsimp only at h
                exact D_at h (by repeat first | exact Sub.nil | refine Sub.cons rfl ?_) sub_st (by kernel_rfl)
              · rintro _ _ ⟨b12, rfl, rfl⟩
                refine Nx_same sub_st ?_
                have h := nd5 (bl, b12)
                try dsimp only at h
                exact D_at h (by repeat first | exact Sub.nil | refine Sub.cons rfl ?_) sub_st (by kernel_rfl)
              · rintro _ _ ⟨b13, rfl, rfl⟩
                refine Nx_same sub_st ?_
                have h := nd6 (bl, b13)
                try dsimp only at h
                exact D_at h (by repeat first | exact Sub.nil | refine Sub.cons rfl ?_) sub_st (by kernel_rfl)
            refine D_nodeR #[true, true, true, true, true, true, true, true, false, false, false, false, false, false, false, true, true, false, false, false] (fun x : Nat × Nat => [(13, .pointer (some ⟨x.2, 0, none⟩)), (12, .pointer (some ⟨x.1, 0, none⟩)), (165, bv d), (163, .int .u64 (lt : Int)), (160, .agg (lgc (0, 0) A5 K5 c5).toArray), (8, .int .i64 (u : Int)), (3, .pointer (some ⟨b3, 0, none⟩)), (4, .int .u64 (t : Int)), (5, .pointer (some ⟨b5, 0, none⟩)), (33, .slice A Z.length c), (34, .int .i64 (Z.length : Int)), (35, .int .i64 (j : Int))]) (fun x : Nat × Nat => [pt x.2 24 (atc (0, 0)), pt x.1 27 (lgc (0, 0) none 0 0), pt b3 60 (arrW u (lgc (0, 0) A5 K5 c5) (lgc (0, 0) A6 K6 c6)), pt b5 61 (arrW u [.int .u64 (lt : Int)] [.int .u64 (oo : Int)]), row 44 3 A5 K5 c5 (cellsL emc P5), dtB 5 (P5.map emd), row 44 3 A6 K6 c6 (cellsL emc P6), dtB 5 (P6.map emd), pt b7 63 (tnc (kd, wh, nn, fr, d))]) (fun x => ?_) (fun nd8 => ?_)
            · skip
              obtain ⟨b12, b13⟩ := x
              try dsimp only
              refine D_one 8 rfl (E_lit1 (m := 1) (vs := [bv d]) rfl rfl rfl rfl rfl rfl rfl (by simp [bv, Value.oneCell']) (by decide)) ?_ rfl rfl (by kernel_rfl)
              rintro _ _ ⟨bl, rfl, rfl⟩
              refine Nx_same sub_st ?_
              refine D_take 9 rfl (T_build3 rfl rfl rfl (em_built3 _ _ _ _ _)) ?_ rfl rfl (by kernel_rfl) (by kernel_rfl)
              have h := nd4 (bl, b12, b13)
              try dsimp only at h
              exact D_at h (by repeat first | exact Sub.nil | refine Sub.cons rfl ?_) sub_st (by kernel_rfl)
            refine D_nodeR #[true, true, true, true, true, true, true, true, false, false, false, false, false, false, false, true, false, false, false, false] (fun x : Nat => [(12, .pointer (some ⟨x, 0, none⟩)), (165, bv d), (163, .int .u64 (lt : Int)), (160, .agg (lgc (0, 0) A5 K5 c5).toArray), (8, .int .i64 (u : Int)), (3, .pointer (some ⟨b3, 0, none⟩)), (4, .int .u64 (t : Int)), (5, .pointer (some ⟨b5, 0, none⟩)), (33, .slice A Z.length c), (34, .int .i64 (Z.length : Int)), (35, .int .i64 (j : Int))]) (fun x : Nat => [pt x 27 (lgc (0, 0) none 0 0), pt b3 60 (arrW u (lgc (0, 0) A5 K5 c5) (lgc (0, 0) A6 K6 c6)), pt b5 61 (arrW u [.int .u64 (lt : Int)] [.int .u64 (oo : Int)]), row 44 3 A5 K5 c5 (cellsL emc P5), dtB 5 (P5.map emd), row 44 3 A6 K6 c6 (cellsL emc P6), dtB 5 (P6.map emd), pt b7 63 (tnc (kd, wh, nn, fr, d))]) (fun x => ?_) (fun nd9 => ?_)
            · skip
              revert x; intro b12
              try dsimp only
              refine D_two 8 16 (by decide) rfl rfl (E_lit1 (m := 1) (vs := [bv d]) rfl rfl rfl rfl rfl rfl rfl (by simp [bv, Value.oneCell']) (by decide)) (E_alloca rfl at_zero) ?_ ?_ rfl rfl rfl rfl (by kernel_rfl)
              · rintro _ _ ⟨bl, rfl, rfl⟩
                refine Nx_same sub_st ?_
                refine D_take 9 rfl (T_build3 rfl rfl rfl (em_built3 _ _ _ _ _)) ?_ rfl rfl (by kernel_rfl) (by kernel_rfl)
                have h := nd5 (bl, b12)
                try dsimp only at h
                exact D_at h (by repeat first | exact Sub.nil | refine Sub.cons rfl ?_) sub_st (by kernel_rfl)
              · rintro _ _ ⟨b13, rfl, rfl⟩
                refine Nx_same sub_st ?_
                have h := nd8 (b12, b13)
                try dsimp only at h
                exact D_at h (by repeat first | exact Sub.nil | refine Sub.cons rfl ?_) sub_st (by kernel_rfl)
            refine D_nodeR #[true, true, true, true, true, true, true, true, false, false, false, false, false, false, false, false, true, false, false, false] (fun x : Nat => [(13, .pointer (some ⟨x, 0, none⟩)), (165, bv d), (163, .int .u64 (lt : Int)), (160, .agg (lgc (0, 0) A5 K5 c5).toArray), (8, .int .i64 (u : Int)), (3, .pointer (some ⟨b3, 0, none⟩)), (4, .int .u64 (t : Int)), (5, .pointer (some ⟨b5, 0, none⟩)), (33, .slice A Z.length c), (34, .int .i64 (Z.length : Int)), (35, .int .i64 (j : Int))]) (fun x : Nat => [pt x 24 (atc (0, 0)), pt b3 60 (arrW u (lgc (0, 0) A5 K5 c5) (lgc (0, 0) A6 K6 c6)), pt b5 61 (arrW u [.int .u64 (lt : Int)] [.int .u64 (oo : Int)]), row 44 3 A5 K5 c5 (cellsL emc P5), dtB 5 (P5.map emd), row 44 3 A6 K6 c6 (cellsL emc P6), dtB 5 (P6.map emd), pt b7 63 (tnc (kd, wh, nn, fr, d))]) (fun x => ?_) (fun nd10 => ?_)
            · skip
              revert x; intro b13
              try dsimp only
              refine D_two 8 15 (by decide) rfl rfl (E_lit1 (m := 1) (vs := [bv d]) rfl rfl rfl rfl rfl rfl rfl (by simp [bv, Value.oneCell']) (by decide)) (E_alloca rfl lg_zero) ?_ ?_ rfl rfl rfl rfl (by kernel_rfl)
              · rintro _ _ ⟨bl, rfl, rfl⟩
                refine Nx_same sub_st ?_
                refine D_take 9 rfl (T_build3 rfl rfl rfl (em_built3 _ _ _ _ _)) ?_ rfl rfl (by kernel_rfl) (by kernel_rfl)
                have h := nd6 (bl, b13)
                try dsimp only at h
                exact D_at h (by repeat first | exact Sub.nil | refine Sub.cons rfl ?_) sub_st (by kernel_rfl)
              · rintro _ _ ⟨b12, rfl, rfl⟩
                refine Nx_same sub_st ?_
                have h := nd8 (b12, b13)
                try dsimp only at h
                exact D_at h (by repeat first | exact Sub.nil | refine Sub.cons rfl ?_) sub_st (by kernel_rfl)
            refine D_nodeR #[true, true, true, true, true, true, true, true, false, false, false, false, false, false, false, false, false, false, false, false] (fun _ : Unit => [(165, bv d), (163, .int .u64 (lt : Int)), (160, .agg (lgc (0, 0) A5 K5 c5).toArray), (8, .int .i64 (u : Int)), (3, .pointer (some ⟨b3, 0, none⟩)), (4, .int .u64 (t : Int)), (5, .pointer (some ⟨b5, 0, none⟩)), (33, .slice A Z.length c), (34, .int .i64 (Z.length : Int)), (35, .int .i64 (j : Int))]) (fun _ : Unit => [pt b3 60 (arrW u (lgc (0, 0) A5 K5 c5) (lgc (0, 0) A6 K6 c6)), pt b5 61 (arrW u [.int .u64 (lt : Int)] [.int .u64 (oo : Int)]), row 44 3 A5 K5 c5 (cellsL emc P5), dtB 5 (P5.map emd), row 44 3 A6 K6 c6 (cellsL emc P6), dtB 5 (P6.map emd), pt b7 63 (tnc (kd, wh, nn, fr, d))]) (fun x => ?_) (fun nd11 => ?_)
            · skip
              obtain ⟨⟩ := x
              try dsimp only
              refine D_three 8 15 16 rfl rfl rfl (E_lit1 (m := 1) (vs := [bv d]) rfl rfl rfl rfl rfl rfl rfl (by simp [bv, Value.oneCell']) (by decide)) (E_alloca rfl lg_zero) (E_alloca rfl at_zero) ?_ ?_ ?_ rfl rfl rfl rfl rfl rfl (by kernel_rfl)
              · rintro _ _ ⟨bl, rfl, rfl⟩
                refine Nx_same sub_st ?_
                refine D_take 9 rfl (T_build3 rfl rfl rfl (em_built3 _ _ _ _ _)) ?_ rfl rfl (by kernel_rfl) (by kernel_rfl)
                have h := nd7 (bl)
                try dsimp only at h
                exact D_at h (by repeat first | exact Sub.nil | refine Sub.cons rfl ?_) sub_st (by kernel_rfl)
              · rintro _ _ ⟨b12, rfl, rfl⟩
                refine Nx_same sub_st ?_
                have h := nd9 (b12)
                try dsimp only at h
                exact D_at h (by repeat first | exact Sub.nil | refine Sub.cons rfl ?_) sub_st (by kernel_rfl)
              · rintro _ _ ⟨b13, rfl, rfl⟩
                refine Nx_same sub_st ?_
                have h := nd10 (b13)
                try dsimp only at h
                exact D_at h (by repeat first | exact Sub.nil | refine Sub.cons rfl ?_) sub_st (by kernel_rfl)
            have h := nd11 ()
            try dsimp only at h
            exact D_at h (by repeat first | exact Sub.nil | refine Sub.cons rfl ?_) sub_st (by kernel_rfl)
            obtain ⟨bl, A7, c7, P7, b12, b13⟩ := x
            try dsimp only
            refine D_one 17 rfl (E_storew (cs := lgc (0, 0) none 0 0) (ds := lgc (0, 0) A7 K7 c7) rfl rfl rfl rfl (lgc_one _ _ _ _) rfl) ?_ rfl rfl (by kernel_rfl)
            rintro _ _ rfl
            refine Nx_same sub_st ?_
            refine D_one 18 rfl (E_storew (cs := atc (0, 0)) (ds := atc p) rfl rfl rfl rfl (atc_one _) rfl) ?_ rfl rfl (by kernel_rfl)
            rintro _ _ rfl
            refine Nx_same sub_st ?_
            refine D_take 19 rfl (pev_ok rfl) ?_ rfl rfl (by kernel_rfl) (by kernel_rfl)
            refine D_done ?_ (by kernel_rfl)
            skip
            focus (refine S_seq rfl ?_; refine S_seq rfl ?_; refine S_region rfl rfl ?_; refine R_p rfl ?_ rfl rfl; refine R_take (T_decF rfl (by omega)) ?_ rfl rfl; refine R_p rfl ?_ rfl rfl; refine R_skip ?_ rfl rfl; refine R_skip ?_ rfl rfl; refine R_p rfl ?_ rfl rfl; refine R_nil ?_; refine S_false rfl rfl ?_; refine S_skip rfl ?_; refine S_seq rfl ?_; refine S_region rfl rfl ?_; refine R_p rfl ?_ rfl rfl; refine R_take (T_decT rfl (by omega)) ?_ rfl rfl; refine R_nil ?_; refine S_true rfl rfl ?_; refine S_region rfl rfl ?_; refine R_p rfl ?_ rfl rfl; refine R_take (T_loads (ds := lgc (0, 0) A7 K7 c7) rfl rfl rfl rfl rfl) ?_ rfl rfl; refine R_take (T_ixaM (sz := 3) (q := u) rfl rfl rfl rfl rfl rfl (by omega)) ?_ rfl rfl; (refine R_eff0 (E_storeA (ds := lgc (0, 0) A7 K7 c7) (cs' := arrW u (lgc (0, 0) A7 K7 c7) (lgc (0, 0) A6 K6 c6)) rfl rfl rfl rfl (lgc_one _ _ _ _) (arr_set hu rfl rfl rfl) (arr_fit hu rfl rfl rfl)) ?_ rfl; rintro _ _ rfl); refine R_nil ?_; refine RS_blk ?_; refine RS_blk ?_; refine S_region rfl rfl ?_; refine R_take (T_addN rfl rfl (by unfold fits; omega)) ?_ rfl rfl; refine R_p rfl ?_ rfl rfl; refine R_nil ?_)
            exact hJ (j + 1, u, t, (lt, oo), ((A7, c7), K7, P7.1), ((A6, c6), K6, P6)) _ _ ⟨by show j + 1 ≤ _; omega, hu, by show t ≤ j + 1; omega, by show j + 1 ≤ 60; omega, (em_len P7.2.1).trans hK7, hl6, by show Mt _ _ _ (P7.1.map emv) (P6.map emv); rw [P7.2.1, hP6]; exact hM2⟩ (Sub.cons rfl (Sub.cons rfl (Sub.cons rfl (Sub.cons rfl (Sub.cons rfl (Sub.cons rfl Sub.nil)))))) sub_st (by show Z.length - (j + 1) < _; omega)
          · skip
            refine S_draw ([pt b3 60 (arrW u (lgc (0, 0) A5 K5 c5) (lgc (0, 0) A6 K6 c6)), pt b5 61 (arrW u [.int .u64 (lt : Int)] [.int .u64 (oo : Int)]), pt b7 63 (tnc (kd, wh, nn, fr, d))]) sub_st (by kernel_rfl) rfl (by kernel_rfl) (by kernel_rfl : _ = 20) ?_
            refine D_take 0 rfl (pev_ok rfl) ?_ rfl rfl (by kernel_rfl) (by kernel_rfl)
            refine D_take 1 rfl (T_ixaM (sz := 3) (q := u) rfl rfl rfl rfl rfl rfl (by omega)) ?_ rfl rfl (by kernel_rfl) (by kernel_rfl)
            refine D_take 2 rfl (T_loads (ds := lgc (0, 0) A5 K5 c5) rfl rfl rfl rfl (arr_me (s := 3) (x := lgc (0, 0) A5 K5 c5) (y := lgc (0, 0) A6 K6 c6) hu rfl rfl)) ?_ rfl rfl (by kernel_rfl) (by kernel_rfl)
            refine D_take 3 rfl (pev_ok rfl) ?_ rfl rfl (by kernel_rfl) (by kernel_rfl)
            refine D_take 4 rfl (T_ixaN (q := u) rfl rfl rfl rfl rfl rfl (by omega)) ?_ rfl rfl (by kernel_rfl) (by kernel_rfl)
            refine D_take 5 rfl (T_load (v := .int .u64 (lt : Int)) rfl rfl rfl (arr_at1 hu)) ?_ rfl rfl (by kernel_rfl) (by kernel_rfl)
            refine D_take 6 rfl (pev_ok rfl) ?_ rfl rfl (by kernel_rfl) (by kernel_rfl)
            refine D_take 7 rfl (T_load rfl rfl rfl rfl) ?_ rfl rfl (by kernel_rfl) (by kernel_rfl)
            refine D_node #[true, true, true, true, true, true, true, true, true, true, true, true, true, true, true, true, true, false, false, false] (fun x : Nat × Option Addr × Nat × Sh [] × Nat × Nat => [(171, zi 6), (170, .agg (atc (0, 0)).toArray), (169, .agg (lgc (0, 0) x.2.1 0 x.2.2.1).toArray), (157, .tuple #[.agg (lgc (0, 0) x.2.1 0 x.2.2.1).toArray, .agg (atc (0, 0)).toArray, zi 6]), (167, .agg [Value.int .u64 (lt : Int), .int .i64 2, .slice (some ⟨x.1, 0, none⟩) 1 1].toArray), (13, .pointer (some ⟨x.2.2.2.2.2, 0, none⟩)), (12, .pointer (some ⟨x.2.2.2.2.1, 0, none⟩)), (168, .tuple #[.agg (lgc (0, 0) x.2.1 0 x.2.2.1).toArray, .agg (atc (0, 0)).toArray, zi 6]), (166, .slice (some ⟨x.1, 0, none⟩) 1 1), (165, bv d), (163, .int .u64 (lt : Int)), (160, .agg (lgc (0, 0) A5 K5 c5).toArray), (8, .int .i64 (u : Int)), (3, .pointer (some ⟨b3, 0, none⟩)), (4, .int .u64 (t : Int)), (5, .pointer (some ⟨b5, 0, none⟩)), (33, .slice A Z.length c), (34, .int .i64 (Z.length : Int)), (35, .int .i64 (j : Int))]) (fun x : Nat × Option Addr × Nat × Sh [] × Nat × Nat => [pt x.2.2.2.2.2 24 (atc (0, 0)), pt x.2.2.2.2.1 27 (lgc (0, 0) none 0 0), row 44 3 x.2.1 0 x.2.2.1 (cellsL emc x.2.2.2.1.1), dtB 5 (x.2.2.2.1.1.map emd), pt x.1 5 [bv d], pt b3 60 (arrW u (lgc (0, 0) A5 K5 c5) (lgc (0, 0) A6 K6 c6)), pt b5 61 (arrW u [.int .u64 (lt : Int)] [.int .u64 (oo : Int)]), row 44 3 A5 K5 c5 (cellsL emc P5), dtB 5 (P5.map emd), row 44 3 A6 K6 c6 (cellsL emc P6), dtB 5 (P6.map emd), pt b7 63 (tnc (kd, wh, nn, fr, d))]) (fun nd0 => ?_) (fun x => ?_)
            refine D_nodeR #[true, true, true, true, true, true, true, true, true, true, true, true, true, true, true, true, false, false, false, false] (fun x : Nat × Option Addr × Nat × Sh [] × Nat => [(171, zi 6), (170, .agg (atc (0, 0)).toArray), (169, .agg (lgc (0, 0) x.2.1 0 x.2.2.1).toArray), (157, .tuple #[.agg (lgc (0, 0) x.2.1 0 x.2.2.1).toArray, .agg (atc (0, 0)).toArray, zi 6]), (167, .agg [Value.int .u64 (lt : Int), .int .i64 2, .slice (some ⟨x.1, 0, none⟩) 1 1].toArray), (12, .pointer (some ⟨x.2.2.2.2, 0, none⟩)), (168, .tuple #[.agg (lgc (0, 0) x.2.1 0 x.2.2.1).toArray, .agg (atc (0, 0)).toArray, zi 6]), (166, .slice (some ⟨x.1, 0, none⟩) 1 1), (165, bv d), (163, .int .u64 (lt : Int)), (160, .agg (lgc (0, 0) A5 K5 c5).toArray), (8, .int .i64 (u : Int)), (3, .pointer (some ⟨b3, 0, none⟩)), (4, .int .u64 (t : Int)), (5, .pointer (some ⟨b5, 0, none⟩)), (33, .slice A Z.length c), (34, .int .i64 (Z.length : Int)), (35, .int .i64 (j : Int))]) (fun x : Nat × Option Addr × Nat × Sh [] × Nat => [pt x.2.2.2.2 27 (lgc (0, 0) none 0 0), row 44 3 x.2.1 0 x.2.2.1 (cellsL emc x.2.2.2.1.1), dtB 5 (x.2.2.2.1.1.map emd), pt x.1 5 [bv d], pt b3 60 (arrW u (lgc (0, 0) A5 K5 c5) (lgc (0, 0) A6 K6 c6)), pt b5 61 (arrW u [.int .u64 (lt : Int)] [.int .u64 (oo : Int)]), row 44 3 A5 K5 c5 (cellsL emc P5), dtB 5 (P5.map emd), row 44 3 A6 K6 c6 (cellsL emc P6), dtB 5 (P6.map emd), pt b7 63 (tnc (kd, wh, nn, fr, d))]) (fun x => ?_) (fun nd1 => ?_)
            · skip
              obtain ⟨bl, A7, c7, P7, b12⟩ := x
              try dsimp only
              refine D_one 16 rfl (E_alloca rfl at_zero) ?_ rfl rfl (by kernel_rfl)
              rintro _ _ ⟨b13, rfl, rfl⟩
              refine Nx_same sub_st ?_
              have h := nd0 (bl, A7, c7, P7, b12, b13)
              try dsimp only at h
              exact D_at h (by repeat first | exact Sub.nil | refine Sub.cons rfl ?_) sub_st (by kernel_rfl)
            refine D_nodeR #[true, true, true, true, true, true, true, true, true, true, true, true, true, true, true, false, true, false, false, false] (fun x : Nat × Option Addr × Nat × Sh [] × Nat => [(171, zi 6), (170, .agg (atc (0, 0)).toArray), (169, .agg (lgc (0, 0) x.2.1 0 x.2.2.1).toArray), (157, .tuple #[.agg (lgc (0, 0) x.2.1 0 x.2.2.1).toArray, .agg (atc (0, 0)).toArray, zi 6]), (167, .agg [Value.int .u64 (lt : Int), .int .i64 2, .slice (some ⟨x.1, 0, none⟩) 1 1].toArray), (13, .pointer (some ⟨x.2.2.2.2, 0, none⟩)), (168, .tuple #[.agg (lgc (0, 0) x.2.1 0 x.2.2.1).toArray, .agg (atc (0, 0)).toArray, zi 6]), (166, .slice (some ⟨x.1, 0, none⟩) 1 1), (165, bv d), (163, .int .u64 (lt : Int)), (160, .agg (lgc (0, 0) A5 K5 c5).toArray), (8, .int .i64 (u : Int)), (3, .pointer (some ⟨b3, 0, none⟩)), (4, .int .u64 (t : Int)), (5, .pointer (some ⟨b5, 0, none⟩)), (33, .slice A Z.length c), (34, .int .i64 (Z.length : Int)), (35, .int .i64 (j : Int))]) (fun x : Nat × Option Addr × Nat × Sh [] × Nat => [pt x.2.2.2.2 24 (atc (0, 0)), row 44 3 x.2.1 0 x.2.2.1 (cellsL emc x.2.2.2.1.1), dtB 5 (x.2.2.2.1.1.map emd), pt x.1 5 [bv d], pt b3 60 (arrW u (lgc (0, 0) A5 K5 c5) (lgc (0, 0) A6 K6 c6)), pt b5 61 (arrW u [.int .u64 (lt : Int)] [.int .u64 (oo : Int)]), row 44 3 A5 K5 c5 (cellsL emc P5), dtB 5 (P5.map emd), row 44 3 A6 K6 c6 (cellsL emc P6), dtB 5 (P6.map emd), pt b7 63 (tnc (kd, wh, nn, fr, d))]) (fun x => ?_) (fun nd2 => ?_)
            · skip
              obtain ⟨bl, A7, c7, P7, b13⟩ := x
              try dsimp only
              refine D_one 15 rfl (E_alloca rfl lg_zero) ?_ rfl rfl (by kernel_rfl)
              rintro _ _ ⟨b12, rfl, rfl⟩
              refine Nx_same sub_st ?_
              have h := nd0 (bl, A7, c7, P7, b12, b13)
              try dsimp only at h
              exact D_at h (by repeat first | exact Sub.nil | refine Sub.cons rfl ?_) sub_st (by kernel_rfl)
            refine D_nodeR #[true, true, true, true, true, true, true, true, true, true, true, true, true, true, true, false, false, false, false, false] (fun x : Nat × Option Addr × Nat × Sh [] => [(171, zi 6), (170, .agg (atc (0, 0)).toArray), (169, .agg (lgc (0, 0) x.2.1 0 x.2.2.1).toArray), (157, .tuple #[.agg (lgc (0, 0) x.2.1 0 x.2.2.1).toArray, .agg (atc (0, 0)).toArray, zi 6]), (167, .agg [Value.int .u64 (lt : Int), .int .i64 2, .slice (some ⟨x.1, 0, none⟩) 1 1].toArray), (168, .tuple #[.agg (lgc (0, 0) x.2.1 0 x.2.2.1).toArray, .agg (atc (0, 0)).toArray, zi 6]), (166, .slice (some ⟨x.1, 0, none⟩) 1 1), (165, bv d), (163, .int .u64 (lt : Int)), (160, .agg (lgc (0, 0) A5 K5 c5).toArray), (8, .int .i64 (u : Int)), (3, .pointer (some ⟨b3, 0, none⟩)), (4, .int .u64 (t : Int)), (5, .pointer (some ⟨b5, 0, none⟩)), (33, .slice A Z.length c), (34, .int .i64 (Z.length : Int)), (35, .int .i64 (j : Int))]) (fun x : Nat × Option Addr × Nat × Sh [] => [row 44 3 x.2.1 0 x.2.2.1 (cellsL emc x.2.2.2.1), dtB 5 (x.2.2.2.1.map emd), pt x.1 5 [bv d], pt b3 60 (arrW u (lgc (0, 0) A5 K5 c5) (lgc (0, 0) A6 K6 c6)), pt b5 61 (arrW u [.int .u64 (lt : Int)] [.int .u64 (oo : Int)]), row 44 3 A5 K5 c5 (cellsL emc P5), dtB 5 (P5.map emd), row 44 3 A6 K6 c6 (cellsL emc P6), dtB 5 (P6.map emd), pt b7 63 (tnc (kd, wh, nn, fr, d))]) (fun x => ?_) (fun nd3 => ?_)
            · skip
              obtain ⟨bl, A7, c7, P7⟩ := x
              try dsimp only
              refine D_two 15 16 (by decide) rfl rfl (E_alloca rfl lg_zero) (E_alloca rfl at_zero) ?_ ?_ rfl rfl rfl rfl (by kernel_rfl)
              · rintro _ _ ⟨b12, rfl, rfl⟩
                refine Nx_same sub_st ?_
                have h := nd1 (bl, A7, c7, P7, b12)
                try dsimp only at h
                exact D_at h (by repeat first | exact Sub.nil | refine Sub.cons rfl ?_) sub_st (by kernel_rfl)
              · rintro _ _ ⟨b13, rfl, rfl⟩
                refine Nx_same sub_st ?_
                have h := nd2 (bl, A7, c7, P7, b13)
                try dsimp only at h
                exact D_at h (by repeat first | exact Sub.nil | refine Sub.cons rfl ?_) sub_st (by kernel_rfl)
            refine D_nodeR #[true, true, true, true, true, true, true, true, true, true, false, false, false, false, false, true, true, false, false, false] (fun x : Nat × Nat × Nat => [(167, .agg [Value.int .u64 (lt : Int), .int .i64 2, .slice (some ⟨x.1, 0, none⟩) 1 1].toArray), (13, .pointer (some ⟨x.2.2, 0, none⟩)), (12, .pointer (some ⟨x.2.1, 0, none⟩)), (166, .slice (some ⟨x.1, 0, none⟩) 1 1), (165, bv d), (163, .int .u64 (lt : Int)), (160, .agg (lgc (0, 0) A5 K5 c5).toArray), (8, .int .i64 (u : Int)), (3, .pointer (some ⟨b3, 0, none⟩)), (4, .int .u64 (t : Int)), (5, .pointer (some ⟨b5, 0, none⟩)), (33, .slice A Z.length c), (34, .int .i64 (Z.length : Int)), (35, .int .i64 (j : Int))]) (fun x : Nat × Nat × Nat => [pt x.2.2 24 (atc (0, 0)), pt x.2.1 27 (lgc (0, 0) none 0 0), pt x.1 5 [bv d], pt b3 60 (arrW u (lgc (0, 0) A5 K5 c5) (lgc (0, 0) A6 K6 c6)), pt b5 61 (arrW u [.int .u64 (lt : Int)] [.int .u64 (oo : Int)]), row 44 3 A5 K5 c5 (cellsL emc P5), dtB 5 (P5.map emd), row 44 3 A6 K6 c6 (cellsL emc P6), dtB 5 (P6.map emd), pt b7 63 (tnc (kd, wh, nn, fr, d))]) (fun x => ?_) (fun nd4 => ?_)
            · skip
              obtain ⟨bl, b12, b13⟩ := x
              try dsimp only
              refine D_one 10 rfl (E_hvG (f := 19) ⟨_, Try.func19, rfl, by kernel_rfl⟩ (fun w0 hS => apA_any w0 (0, 0) A5 c5 K5 P5 L5 hl5 hP5 ((Srd.row (A := A5) (n := K5) (c := c5)).rd w0 hS) ((SDt.own (e := 5) (D := P5.map emd) (by simp)).rd w0 hS) (by omega) hk5 (lt, 2, some ⟨bl, 0, none⟩, 1, [d]) ((Srd.pt (n := 1) (g := bl) (ds := [bv d]) rfl (fun j u hj => by rw [Nat.zero_add]; exact hj)).rd w0 hS) (by show 1 ≤ 100000; decide) 6 (0, 0) (0, 0) [] 0 rfl hs) rfl rfl) ?_ rfl rfl (by kernel_rfl)
              rintro _ _ ⟨⟨⟨A7, c7⟩, P7⟩, rfl, _, rfl⟩; dsimp only [List.cons_append, List.nil_append]
              refine Nx_same sub_st ?_
              refine D_take 11 rfl (pev_ok rfl) ?_ rfl rfl (by kernel_rfl) (by kernel_rfl)
              refine D_take 12 rfl (pev_ok rfl) ?_ rfl rfl (by kernel_rfl) (by kernel_rfl)
              refine D_take 13 rfl (pev_ok rfl) ?_ rfl rfl (by kernel_rfl) (by kernel_rfl)
              refine D_take 14 rfl (pev_ok rfl) ?_ rfl rfl (by kernel_rfl) (by kernel_rfl)
              have h := nd0 (bl, A7, c7, P7, b12, b13)
              try dsimp only at h
              exact D_at h (by repeat first | exact Sub.nil | refine Sub.cons rfl ?_) sub_st (by kernel_rfl)
            refine D_nodeR #[true, true, true, true, true, true, true, true, true, true, false, false, false, false, false, true, false, false, false, false] (fun x : Nat × Nat => [(167, .agg [Value.int .u64 (lt : Int), .int .i64 2, .slice (some ⟨x.1, 0, none⟩) 1 1].toArray), (12, .pointer (some ⟨x.2, 0, none⟩)), (166, .slice (some ⟨x.1, 0, none⟩) 1 1), (165, bv d), (163, .int .u64 (lt : Int)), (160, .agg (lgc (0, 0) A5 K5 c5).toArray), (8, .int .i64 (u : Int)), (3, .pointer (some ⟨b3, 0, none⟩)), (4, .int .u64 (t : Int)), (5, .pointer (some ⟨b5, 0, none⟩)), (33, .slice A Z.length c), (34, .int .i64 (Z.length : Int)), (35, .int .i64 (j : Int))]) (fun x : Nat × Nat => [pt x.2 27 (lgc (0, 0) none 0 0), pt x.1 5 [bv d], pt b3 60 (arrW u (lgc (0, 0) A5 K5 c5) (lgc (0, 0) A6 K6 c6)), pt b5 61 (arrW u [.int .u64 (lt : Int)] [.int .u64 (oo : Int)]), row 44 3 A5 K5 c5 (cellsL emc P5), dtB 5 (P5.map emd), row 44 3 A6 K6 c6 (cellsL emc P6), dtB 5 (P6.map emd), pt b7 63 (tnc (kd, wh, nn, fr, d))]) (fun x => ?_) (fun nd5 => ?_)
            · skip
              obtain ⟨bl, b12⟩ := x
              try dsimp only
              refine D_two 10 16 (by decide) rfl rfl (E_hvG (f := 19) ⟨_, Try.func19, rfl, by kernel_rfl⟩ (fun w0 hS => apA_any w0 (0, 0) A5 c5 K5 P5 L5 hl5 hP5 ((Srd.row (A := A5) (n := K5) (c := c5)).rd w0 hS) ((SDt.own (e := 5) (D := P5.map emd) (by simp)).rd w0 hS) (by omega) hk5 (lt, 2, some ⟨bl, 0, none⟩, 1, [d]) ((Srd.pt (n := 1) (g := bl) (ds := [bv d]) rfl (fun j u hj => by rw [Nat.zero_add]; exact hj)).rd w0 hS) (by show 1 ≤ 100000; decide) 6 (0, 0) (0, 0) [] 0 rfl hs) rfl rfl) (E_alloca rfl at_zero) ?_ ?_ rfl rfl rfl rfl (by kernel_rfl)
              · rintro _ _ ⟨⟨⟨A7, c7⟩, P7⟩, rfl, _, rfl⟩; dsimp only [List.cons_append, List.nil_append]
                refine Nx_same sub_st ?_
                refine D_take 11 rfl (pev_ok rfl) ?_ rfl rfl (by kernel_rfl) (by kernel_rfl)
                refine D_take 12 rfl (pev_ok rfl) ?_ rfl rfl (by kernel_rfl) (by kernel_rfl)
                refine D_take 13 rfl (pev_ok rfl) ?_ rfl rfl (by kernel_rfl) (by kernel_rfl)
                refine D_take 14 rfl (pev_ok rfl) ?_ rfl rfl (by kernel_rfl) (by kernel_rfl)
                have h := nd1 (bl, A7, c7, P7, b12)
                try dsimp only at h
                exact D_at h (by repeat first | exact Sub.nil | refine Sub.cons rfl ?_) sub_st (by kernel_rfl)
              · rintro _ _ ⟨b13, rfl, rfl⟩
                refine Nx_same sub_st ?_
                have h := nd4 (bl, b12, b13)
                try dsimp only at h
                exact D_at h (by repeat first | exact Sub.nil | refine Sub.cons rfl ?_) sub_st (by kernel_rfl)
            refine D_nodeR #[true, true, true, true, true, true, true, true, true, true, false, false, false, false, false, false, true, false, false, false] (fun x : Nat × Nat => [(167, .agg [Value.int .u64 (lt : Int), .int .i64 2, .slice (some ⟨x.1, 0, none⟩) 1 1].toArray), (13, .pointer (some ⟨x.2, 0, none⟩)), (166, .slice (some ⟨x.1, 0, none⟩) 1 1), (165, bv d), (163, .int .u64 (lt : Int)), (160, .agg (lgc (0, 0) A5 K5 c5).toArray), (8, .int .i64 (u : Int)), (3, .pointer (some ⟨b3, 0, none⟩)), (4, .int .u64 (t : Int)), (5, .pointer (some ⟨b5, 0, none⟩)), (33, .slice A Z.length c), (34, .int .i64 (Z.length : Int)), (35, .int .i64 (j : Int))]) (fun x : Nat × Nat => [pt x.2 24 (atc (0, 0)), pt x.1 5 [bv d], pt b3 60 (arrW u (lgc (0, 0) A5 K5 c5) (lgc (0, 0) A6 K6 c6)), pt b5 61 (arrW u [.int .u64 (lt : Int)] [.int .u64 (oo : Int)]), row 44 3 A5 K5 c5 (cellsL emc P5), dtB 5 (P5.map emd), row 44 3 A6 K6 c6 (cellsL emc P6), dtB 5 (P6.map emd), pt b7 63 (tnc (kd, wh, nn, fr, d))]) (fun x => ?_) (fun nd6 => ?_)
            · skip
              obtain ⟨bl, b13⟩ := x
              try dsimp only
              refine D_two 10 15 (by decide) rfl rfl (E_hvG (f := 19) ⟨_, Try.func19, rfl, by kernel_rfl⟩ (fun w0 hS => apA_any w0 (0, 0) A5 c5 K5 P5 L5 hl5 hP5 ((Srd.row (A := A5) (n := K5) (c := c5)).rd w0 hS) ((SDt.own (e := 5) (D := P5.map emd) (by simp)).rd w0 hS) (by omega) hk5 (lt, 2, some ⟨bl, 0, none⟩, 1, [d]) ((Srd.pt (n := 1) (g := bl) (ds := [bv d]) rfl (fun j u hj => by rw [Nat.zero_add]; exact hj)).rd w0 hS) (by show 1 ≤ 100000; decide) 6 (0, 0) (0, 0) [] 0 rfl hs) rfl rfl) (E_alloca rfl lg_zero) ?_ ?_ rfl rfl rfl rfl (by kernel_rfl)
              · rintro _ _ ⟨⟨⟨A7, c7⟩, P7⟩, rfl, _, rfl⟩; dsimp only [List.cons_append, List.nil_append]
                refine Nx_same sub_st ?_
                refine D_take 11 rfl (pev_ok rfl) ?_ rfl rfl (by kernel_rfl) (by kernel_rfl)
                refine D_take 12 rfl (pev_ok rfl) ?_ rfl rfl (by kernel_rfl) (by kernel_rfl)
                refine D_take 13 rfl (pev_ok rfl) ?_ rfl rfl (by kernel_rfl) (by kernel_rfl)
                refine D_take 14 rfl (pev_ok rfl) ?_ rfl rfl (by kernel_rfl) (by kernel_rfl)
                have h := nd2 (bl, A7, c7, P7, b13)
                try dsimp only at h
                exact D_at h (by repeat first | exact Sub.nil | refine Sub.cons rfl ?_) sub_st (by kernel_rfl)
              · rintro _ _ ⟨b12, rfl, rfl⟩
                refine Nx_same sub_st ?_
                have h := nd4 (bl, b12, b13)
                try dsimp only at h
                exact D_at h (by repeat first | exact Sub.nil | refine Sub.cons rfl ?_) sub_st (by kernel_rfl)
            refine D_nodeR #[true, true, true, true, true, true, true, true, true, true, false, false, false, false, false, false, false, false, false, false] (fun x : Nat => [(167, .agg [Value.int .u64 (lt : Int), .int .i64 2, .slice (some ⟨x, 0, none⟩) 1 1].toArray), (166, .slice (some ⟨x, 0, none⟩) 1 1), (165, bv d), (163, .int .u64 (lt : Int)), (160, .agg (lgc (0, 0) A5 K5 c5).toArray), (8, .int .i64 (u : Int)), (3, .pointer (some ⟨b3, 0, none⟩)), (4, .int .u64 (t : Int)), (5, .pointer (some ⟨b5, 0, none⟩)), (33, .slice A Z.length c), (34, .int .i64 (Z.length : Int)), (35, .int .i64 (j : Int))]) (fun x : Nat => [pt x 5 [bv d], pt b3 60 (arrW u (lgc (0, 0) A5 K5 c5) (lgc (0, 0) A6 K6 c6)), pt b5 61 (arrW u [.int .u64 (lt : Int)] [.int .u64 (oo : Int)]), row 44 3 A5 K5 c5 (cellsL emc P5), dtB 5 (P5.map emd), row 44 3 A6 K6 c6 (cellsL emc P6), dtB 5 (P6.map emd), pt b7 63 (tnc (kd, wh, nn, fr, d))]) (fun x => ?_) (fun nd7 => ?_)
            · skip
              revert x; intro bl
              try dsimp only
              refine D_three 10 15 16 rfl rfl rfl (E_hvG (f := 19) ⟨_, Try.func19, rfl, by kernel_rfl⟩ (fun w0 hS => apA_any w0 (0, 0) A5 c5 K5 P5 L5 hl5 hP5 ((Srd.row (A := A5) (n := K5) (c := c5)).rd w0 hS) ((SDt.own (e := 5) (D := P5.map emd) (by simp)).rd w0 hS) (by omega) hk5 (lt, 2, some ⟨bl, 0, none⟩, 1, [d]) ((Srd.pt (n := 1) (g := bl) (ds := [bv d]) rfl (fun j u hj => by rw [Nat.zero_add]; exact hj)).rd w0 hS) (by show 1 ≤ 100000; decide) 6 (0, 0) (0, 0) [] 0 rfl hs) rfl rfl) (E_alloca rfl lg_zero) (E_alloca rfl at_zero) ?_ ?_ ?_ rfl rfl rfl rfl rfl rfl (by kernel_rfl)
              · rintro _ _ ⟨⟨⟨A7, c7⟩, P7⟩, rfl, _, rfl⟩; dsimp only [List.cons_append, List.nil_append]
                refine Nx_same sub_st ?_
                refine D_take 11 rfl (pev_ok rfl) ?_ rfl rfl (by kernel_rfl) (by kernel_rfl)
                refine D_take 12 rfl (pev_ok rfl) ?_ rfl rfl (by kernel_rfl) (by kernel_rfl)
                refine D_take 13 rfl (pev_ok rfl) ?_ rfl rfl (by kernel_rfl) (by kernel_rfl)
                refine D_take 14 rfl (pev_ok rfl) ?_ rfl rfl (by kernel_rfl) (by kernel_rfl)
                have h := nd3 (bl, A7, c7, P7)
                try dsimp only at h
                exact D_at h (by repeat first | exact Sub.nil | refine Sub.cons rfl ?_) sub_st (by kernel_rfl)
              · rintro _ _ ⟨b12, rfl, rfl⟩
                refine Nx_same sub_st ?_
                have h := nd5 (bl, b12)
                try dsimp only at h
                exact D_at h (by repeat first | exact Sub.nil | refine Sub.cons rfl ?_) sub_st (by kernel_rfl)
              · rintro _ _ ⟨b13, rfl, rfl⟩
                refine Nx_same sub_st ?_
                have h := nd6 (bl, b13)
                try dsimp only at h
                exact D_at h (by repeat first | exact Sub.nil | refine Sub.cons rfl ?_) sub_st (by kernel_rfl)
            refine D_nodeR #[true, true, true, true, true, true, true, true, false, false, false, false, false, false, false, true, true, false, false, false] (fun x : Nat × Nat => [(13, .pointer (some ⟨x.2, 0, none⟩)), (12, .pointer (some ⟨x.1, 0, none⟩)), (165, bv d), (163, .int .u64 (lt : Int)), (160, .agg (lgc (0, 0) A5 K5 c5).toArray), (8, .int .i64 (u : Int)), (3, .pointer (some ⟨b3, 0, none⟩)), (4, .int .u64 (t : Int)), (5, .pointer (some ⟨b5, 0, none⟩)), (33, .slice A Z.length c), (34, .int .i64 (Z.length : Int)), (35, .int .i64 (j : Int))]) (fun x : Nat × Nat => [pt x.2 24 (atc (0, 0)), pt x.1 27 (lgc (0, 0) none 0 0), pt b3 60 (arrW u (lgc (0, 0) A5 K5 c5) (lgc (0, 0) A6 K6 c6)), pt b5 61 (arrW u [.int .u64 (lt : Int)] [.int .u64 (oo : Int)]), row 44 3 A5 K5 c5 (cellsL emc P5), dtB 5 (P5.map emd), row 44 3 A6 K6 c6 (cellsL emc P6), dtB 5 (P6.map emd), pt b7 63 (tnc (kd, wh, nn, fr, d))]) (fun x => ?_) (fun nd8 => ?_)
            · skip
              obtain ⟨b12, b13⟩ := x
              try dsimp only
              refine D_one 8 rfl (E_lit1 (m := 1) (vs := [bv d]) rfl rfl rfl rfl rfl rfl rfl (by simp [bv, Value.oneCell']) (by decide)) ?_ rfl rfl (by kernel_rfl)
              rintro _ _ ⟨bl, rfl, rfl⟩
              refine Nx_same sub_st ?_
              refine D_take 9 rfl (T_build3 rfl rfl rfl (em_built3 _ _ _ _ _)) ?_ rfl rfl (by kernel_rfl) (by kernel_rfl)
              have h := nd4 (bl, b12, b13)
              try dsimp only at h
              exact D_at h (by repeat first | exact Sub.nil | refine Sub.cons rfl ?_) sub_st (by kernel_rfl)
            refine D_nodeR #[true, true, true, true, true, true, true, true, false, false, false, false, false, false, false, true, false, false, false, false] (fun x : Nat => [(12, .pointer (some ⟨x, 0, none⟩)), (165, bv d), (163, .int .u64 (lt : Int)), (160, .agg (lgc (0, 0) A5 K5 c5).toArray), (8, .int .i64 (u : Int)), (3, .pointer (some ⟨b3, 0, none⟩)), (4, .int .u64 (t : Int)), (5, .pointer (some ⟨b5, 0, none⟩)), (33, .slice A Z.length c), (34, .int .i64 (Z.length : Int)), (35, .int .i64 (j : Int))]) (fun x : Nat => [pt x 27 (lgc (0, 0) none 0 0), pt b3 60 (arrW u (lgc (0, 0) A5 K5 c5) (lgc (0, 0) A6 K6 c6)), pt b5 61 (arrW u [.int .u64 (lt : Int)] [.int .u64 (oo : Int)]), row 44 3 A5 K5 c5 (cellsL emc P5), dtB 5 (P5.map emd), row 44 3 A6 K6 c6 (cellsL emc P6), dtB 5 (P6.map emd), pt b7 63 (tnc (kd, wh, nn, fr, d))]) (fun x => ?_) (fun nd9 => ?_)
            · skip
              revert x; intro b12
              try dsimp only
              refine D_two 8 16 (by decide) rfl rfl (E_lit1 (m := 1) (vs := [bv d]) rfl rfl rfl rfl rfl rfl rfl (by simp [bv, Value.oneCell']) (by decide)) (E_alloca rfl at_zero) ?_ ?_ rfl rfl rfl rfl (by kernel_rfl)
              · rintro _ _ ⟨bl, rfl, rfl⟩
                refine Nx_same sub_st ?_
                refine D_take 9 rfl (T_build3 rfl rfl rfl (em_built3 _ _ _ _ _)) ?_ rfl rfl (by kernel_rfl) (by kernel_rfl)
                have h := nd5 (bl, b12)
                try dsimp only at h
                exact D_at h (by repeat first | exact Sub.nil | refine Sub.cons rfl ?_) sub_st (by kernel_rfl)
              · rintro _ _ ⟨b13, rfl, rfl⟩
                refine Nx_same sub_st ?_
                have h := nd8 (b12, b13)
                try dsimp only at h
                exact D_at h (by repeat first | exact Sub.nil | refine Sub.cons rfl ?_) sub_st (by kernel_rfl)
            refine D_nodeR #[true, true, true, true, true, true, true, true, false, false, false, false, false, false, false, false, true, false, false, false] (fun x : Nat => [(13, .pointer (some ⟨x, 0, none⟩)), (165, bv d), (163, .int .u64 (lt : Int)), (160, .agg (lgc (0, 0) A5 K5 c5).toArray), (8, .int .i64 (u : Int)), (3, .pointer (some ⟨b3, 0, none⟩)), (4, .int .u64 (t : Int)), (5, .pointer (some ⟨b5, 0, none⟩)), (33, .slice A Z.length c), (34, .int .i64 (Z.length : Int)), (35, .int .i64 (j : Int))]) (fun x : Nat => [pt x 24 (atc (0, 0)), pt b3 60 (arrW u (lgc (0, 0) A5 K5 c5) (lgc (0, 0) A6 K6 c6)), pt b5 61 (arrW u [.int .u64 (lt : Int)] [.int .u64 (oo : Int)]), row 44 3 A5 K5 c5 (cellsL emc P5), dtB 5 (P5.map emd), row 44 3 A6 K6 c6 (cellsL emc P6), dtB 5 (P6.map emd), pt b7 63 (tnc (kd, wh, nn, fr, d))]) (fun x => ?_) (fun nd10 => ?_)
            · skip
              revert x; intro b13
              try dsimp only
              refine D_two 8 15 (by decide) rfl rfl (E_lit1 (m := 1) (vs := [bv d]) rfl rfl rfl rfl rfl rfl rfl (by simp [bv, Value.oneCell']) (by decide)) (E_alloca rfl lg_zero) ?_ ?_ rfl rfl rfl rfl (by kernel_rfl)
              · rintro _ _ ⟨bl, rfl, rfl⟩
                refine Nx_same sub_st ?_
                refine D_take 9 rfl (T_build3 rfl rfl rfl (em_built3 _ _ _ _ _)) ?_ rfl rfl (by kernel_rfl) (by kernel_rfl)
                have h := nd6 (bl, b13)
                try dsimp only at h
                exact D_at h (by repeat first | exact Sub.nil | refine Sub.cons rfl ?_) sub_st (by kernel_rfl)
              · rintro _ _ ⟨b12, rfl, rfl⟩
                refine Nx_same sub_st ?_
                have h := nd8 (b12, b13)
                try dsimp only at h
                exact D_at h (by repeat first | exact Sub.nil | refine Sub.cons rfl ?_) sub_st (by kernel_rfl)
            refine D_nodeR #[true, true, true, true, true, true, true, true, false, false, false, false, false, false, false, false, false, false, false, false] (fun _ : Unit => [(165, bv d), (163, .int .u64 (lt : Int)), (160, .agg (lgc (0, 0) A5 K5 c5).toArray), (8, .int .i64 (u : Int)), (3, .pointer (some ⟨b3, 0, none⟩)), (4, .int .u64 (t : Int)), (5, .pointer (some ⟨b5, 0, none⟩)), (33, .slice A Z.length c), (34, .int .i64 (Z.length : Int)), (35, .int .i64 (j : Int))]) (fun _ : Unit => [pt b3 60 (arrW u (lgc (0, 0) A5 K5 c5) (lgc (0, 0) A6 K6 c6)), pt b5 61 (arrW u [.int .u64 (lt : Int)] [.int .u64 (oo : Int)]), row 44 3 A5 K5 c5 (cellsL emc P5), dtB 5 (P5.map emd), row 44 3 A6 K6 c6 (cellsL emc P6), dtB 5 (P6.map emd), pt b7 63 (tnc (kd, wh, nn, fr, d))]) (fun x => ?_) (fun nd11 => ?_)
            · skip
              obtain ⟨⟩ := x
              try dsimp only
              refine D_three 8 15 16 rfl rfl rfl (E_lit1 (m := 1) (vs := [bv d]) rfl rfl rfl rfl rfl rfl rfl (by simp [bv, Value.oneCell']) (by decide)) (E_alloca rfl lg_zero) (E_alloca rfl at_zero) ?_ ?_ ?_ rfl rfl rfl rfl rfl rfl (by kernel_rfl)
              · rintro _ _ ⟨bl, rfl, rfl⟩
                refine Nx_same sub_st ?_
                refine D_take 9 rfl (T_build3 rfl rfl rfl (em_built3 _ _ _ _ _)) ?_ rfl rfl (by kernel_rfl) (by kernel_rfl)
                have h := nd7 (bl)
                try dsimp only at h
                exact D_at h (by repeat first | exact Sub.nil | refine Sub.cons rfl ?_) sub_st (by kernel_rfl)
              · rintro _ _ ⟨b12, rfl, rfl⟩
                refine Nx_same sub_st ?_
                have h := nd9 (b12)
                try dsimp only at h
                exact D_at h (by repeat first | exact Sub.nil | refine Sub.cons rfl ?_) sub_st (by kernel_rfl)
              · rintro _ _ ⟨b13, rfl, rfl⟩
                refine Nx_same sub_st ?_
                have h := nd10 (b13)
                try dsimp only at h
                exact D_at h (by repeat first | exact Sub.nil | refine Sub.cons rfl ?_) sub_st (by kernel_rfl)
            have h := nd11 ()
            try dsimp only at h
            exact D_at h (by repeat first | exact Sub.nil | refine Sub.cons rfl ?_) sub_st (by kernel_rfl)
            obtain ⟨bl, A7, c7, P7, b12, b13⟩ := x
            try dsimp only
            refine D_one 17 rfl (E_storew (cs := lgc (0, 0) none 0 0) (ds := lgc (0, 0) A7 0 c7) rfl rfl rfl rfl (lgc_one _ _ _ _) rfl) ?_ rfl rfl (by kernel_rfl)
            rintro _ _ rfl
            refine Nx_same sub_st ?_
            refine D_one 18 rfl (E_storew (cs := atc (0, 0)) (ds := atc (0, 0)) rfl rfl rfl rfl (atc_one _) rfl) ?_ rfl rfl (by kernel_rfl)
            rintro _ _ rfl
            refine Nx_same sub_st ?_
            refine D_take 19 rfl (pev_ok rfl) ?_ rfl rfl (by kernel_rfl) (by kernel_rfl)
            refine D_done ?_ (by kernel_rfl)
            skip
            focus (refine S_seq rfl ?_; refine S_seq rfl ?_; refine S_region rfl rfl ?_; refine R_p rfl ?_ rfl rfl; refine R_take (T_decT rfl (by omega)) ?_ rfl rfl; refine R_p rfl ?_ rfl rfl; refine R_p rfl ?_ rfl rfl; refine R_take (T_decF rfl (by omega)) ?_ rfl rfl; refine R_p rfl ?_ rfl rfl; refine R_nil ?_; refine S_false rfl rfl ?_; refine S_skip rfl ?_; refine S_seq rfl ?_; refine S_region rfl rfl ?_; refine R_p rfl ?_ rfl rfl; refine R_take (T_decF rfl (by omega)) ?_ rfl rfl; refine R_nil ?_; refine S_false rfl rfl ?_; refine S_skip rfl ?_; refine RS_blk ?_; refine RS_blk ?_; refine S_region rfl rfl ?_; refine R_take (T_addN rfl rfl (by unfold fits; omega)) ?_ rfl rfl; refine R_p rfl ?_ rfl rfl; refine R_nil ?_)
            exact hJ (j + 1, u, t, (lt, oo), ((A5, c5), K5, P5), ((A6, c6), K6, P6)) _ _ ⟨by show j + 1 ≤ _; omega, hu, by show t ≤ j + 1; omega, by show j + 1 ≤ 60; omega, hl5, hl6, by show Mt _ _ _ (P5.map emv) (P6.map emv); rw [hP5, hP6]; exact hM⟩ (Sub.cons rfl (Sub.cons rfl (Sub.cons rfl (Sub.cons rfl (Sub.cons rfl (Sub.cons rfl Sub.nil)))))) sub_st (by show Z.length - (j + 1) < _; omega)
        · skip
          skip
          refine S_draw ([pt b5 61 (arrW u [.int .u64 (om : Int)] [.int .u64 (oo : Int)]), pt b3 60 (arrW u (lgc (0, 0) A5 K5 c5) (lgc (0, 0) A6 K6 c6))]) sub_st (by kernel_rfl) rfl (by kernel_rfl) (by kernel_rfl : _ = 15) ?_
          refine D_take 0 rfl (pev_ok rfl) ?_ rfl rfl (by kernel_rfl) (by kernel_rfl)
          refine D_take 1 rfl (T_ixaN (q := u) rfl rfl rfl rfl rfl rfl (by omega)) ?_ rfl rfl (by kernel_rfl) (by kernel_rfl)
          refine D_take 2 rfl (T_load (v := .int .u64 (om : Int)) rfl rfl rfl (arr_at1 hu)) ?_ rfl rfl (by kernel_rfl) (by kernel_rfl)
          refine D_take 3 rfl (T_decF rfl (by omega)) ?_ rfl rfl (by kernel_rfl) (by kernel_rfl)
          refine D_take 4 rfl (pev_ok rfl) ?_ rfl rfl (by kernel_rfl) (by kernel_rfl)
          refine D_take 5 rfl (pev_ok rfl) ?_ rfl rfl (by kernel_rfl) (by kernel_rfl)
          refine D_take 6 rfl (T_ixaM (sz := 3) (q := u) rfl rfl rfl rfl rfl rfl (by omega)) ?_ rfl rfl (by kernel_rfl) (by kernel_rfl)
          refine D_take 7 rfl (T_loads (ds := lgc (0, 0) A5 K5 c5) rfl rfl rfl rfl (arr_me (s := 3) (x := lgc (0, 0) A5 K5 c5) (y := lgc (0, 0) A6 K6 c6) hu rfl rfl)) ?_ rfl rfl (by kernel_rfl) (by kernel_rfl)
          refine D_take 10 rfl (pev_ok rfl) ?_ rfl rfl (by kernel_rfl) (by kernel_rfl)
          refine D_take 11 rfl (T_ixaN (q := u) rfl rfl rfl rfl rfl rfl (by omega)) ?_ rfl rfl (by kernel_rfl) (by kernel_rfl)
          refine D_take 12 rfl (T_load (v := .int .u64 (om : Int)) rfl rfl rfl (arr_at1 hu)) ?_ rfl rfl (by kernel_rfl) (by kernel_rfl)
          refine D_one 8 rfl (E_hv0 (f := 24) ⟨_, Try.func24, rfl, by kernel_rfl⟩ (fun w0 hS => lastF_k w0 (0, 0) A5 c5 K5 P5 L5 (li, lt) hl5 hP5 hr5 hlm ((Srd.row (A := A5) (n := K5) (c := c5)).rd w0 hS) (by omega)) rfl rfl (fun _ => rfl)) ?_ rfl rfl (by kernel_rfl)
          rintro _ _ ⟨_, rfl, _, rfl⟩
          refine Nx_same sub_st ?_
          refine D_take 9 rfl (T_fldv (xs := atc (li, lt)) rfl rfl rfl rfl rfl rfl) ?_ rfl rfl (by kernel_rfl) (by kernel_rfl)
          refine D_take 13 rfl (T_decT rfl (by omega)) ?_ rfl rfl (by kernel_rfl) (by kernel_rfl)
          refine D_take 14 rfl (T_decT rfl (by omega)) ?_ rfl rfl (by kernel_rfl) (by kernel_rfl)
          refine D_done ?_ (by kernel_rfl)
          skip
          focus (refine S_true rfl rfl ?_; refine S_exit rfl rfl ?_; refine S_region rfl rfl ?_; refine R_take (T_addN rfl rfl (by unfold fits; omega)) ?_ rfl rfl; refine R_p rfl ?_ rfl rfl; refine R_nil ?_)
          exact hJ (j + 1, u, t, (om, oo), ((A5, c5), K5, P5), ((A6, c6), K6, P6)) _ _ ⟨by show j + 1 ≤ _; omega, hu, by show t ≤ j + 1; omega, by show j + 1 ≤ 60; omega, hl5, hl6, by show Mt _ _ _ (P5.map emv) (P6.map emv); rw [hP5, hP6]; exact hM⟩ (Sub.cons rfl (Sub.cons rfl (Sub.cons rfl (Sub.cons rfl (Sub.cons rfl (Sub.cons rfl Sub.nil)))))) sub_st (by show Z.length - (j + 1) < _; omega)
      · rw [show decide (((2 : Nat) : Int) = 0) = false from rfl]
        obtain ⟨li, lt⟩ := lm
        obtain ⟨oi, ot⟩ := lo
        obtain ⟨q, hqd⟩ : ∃ q, fr % (K5 + 1) = q := ⟨_, rfl⟩
        have hqK : q < K5 + 1 := by rw [← hqd]; exact Nat.mod_lt _ (Nat.succ_pos _)
        have hsf := frm_ok hr5 (q := q) (n := n9) (by omega)
        rw [hL5] at hsf
        obtain ⟨v, hv⟩ : ∃ v, min n9 (K5 - q) = v := ⟨_, rfl⟩
        rw [hv] at hsf
        obtain ⟨⟨e, last, b, r⟩, hs⟩ : ∃ x, spl (0, 0) L6 (placeN (0, 0) L5 q) ((L5.drop q).take v) = x := ⟨_, rfl⟩
        have hsd := hM.send (q := q) (u := v) (by omega) hs
        obtain ⟨p, hpd⟩ : ∃ p, placeN (0, 0) L5 q = p := ⟨_, rfl⟩
        obtain ⟨es, hesd⟩ : ∃ es, (L5.drop q).take v = es := ⟨_, rfl⟩
        have hestx : ∀ e ∈ es, e.2.2.length ≤ 100000 := fun e he => ht5 e (by rw [← hesd] at he; exact List.mem_of_mem_drop (List.mem_of_mem_take he))
        have hesl : es.length ≤ 16 := by rw [← hesd, List.length_take, List.length_drop]; omega
        rw [hpd, hesd] at hs hsf
        obtain ⟨K7, hK7⟩ : ∃ k, es.length = k := ⟨_, rfl⟩
        obtain ⟨K9, hK9⟩ : ∃ k, r.length = k := ⟨_, rfl⟩
        focus (refine S_false rfl rfl ?_; refine S_seq rfl ?_; refine S_region rfl rfl ?_; refine R_take (T_decF rfl (by omega)) ?_ rfl rfl; refine R_p rfl ?_ rfl rfl; refine R_nil ?_; refine S_false rfl rfl ?_; refine S_seq rfl ?_)
        refine S_draw ([pt b3 60 (arrW u (lgc (0, 0) A5 K5 c5) (lgc (0, 0) A6 K6 c6)), pt b7 63 (tnc (kd, wh, nn, fr, d))]) sub_st (by kernel_rfl) rfl (by kernel_rfl) (by kernel_rfl : _ = 28) ?_
        refine D_take 0 rfl (pev_ok rfl) ?_ rfl rfl (by kernel_rfl) (by kernel_rfl)
        refine D_take 1 rfl (T_ixaM (sz := 3) (q := u) rfl rfl rfl rfl rfl rfl (by omega)) ?_ rfl rfl (by kernel_rfl) (by kernel_rfl)
        refine D_take 2 rfl (T_loads (ds := lgc (0, 0) A5 K5 c5) rfl rfl rfl rfl (arr_me (s := 3) (x := lgc (0, 0) A5 K5 c5) (y := lgc (0, 0) A6 K6 c6) hu rfl rfl)) ?_ rfl rfl (by kernel_rfl) (by kernel_rfl)
        refine D_take 3 rfl (pev_ok rfl) ?_ rfl rfl (by kernel_rfl) (by kernel_rfl)
        refine D_take 4 rfl (T_load rfl rfl rfl rfl) ?_ rfl rfl (by kernel_rfl) (by kernel_rfl)
        refine D_take 5 rfl (pev_ok rfl) ?_ rfl rfl (by kernel_rfl) (by kernel_rfl)
        refine D_take 6 rfl (T_ixaM (sz := 3) (q := u) rfl rfl rfl rfl rfl rfl (by omega)) ?_ rfl rfl (by kernel_rfl) (by kernel_rfl)
        refine D_take 7 rfl (pev_ok rfl) ?_ rfl rfl (by kernel_rfl) (by kernel_rfl)
        refine D_take 8 rfl (T_load (v := .slice A5 K5 c5) rfl rfl rfl (arr_at (s := 3) (x := lgc (0, 0) A5 K5 c5) (y := lgc (0, 0) A6 K6 c6) hu rfl rfl 2 rfl)) ?_ rfl rfl (by kernel_rfl) (by kernel_rfl)
        refine D_take 9 rfl (pev_ok rfl) ?_ rfl rfl (by kernel_rfl) (by kernel_rfl)
        (refine D_take 10 rfl (T_addN rfl rfl (by unfold fits; omega)) ?_ rfl rfl (by kernel_rfl) (by kernel_rfl))
        (refine D_take 11 rfl (T_convf rfl rfl rfl rfl (by unfold fits; omega)) ?_ rfl rfl (by kernel_rfl) (by kernel_rfl))
        refine D_take 12 rfl (T_modE hqd rfl rfl (by omega)) ?_ rfl rfl (by kernel_rfl) (by kernel_rfl)
        (refine D_take 13 rfl (T_addN rfl rfl (by unfold fits; omega)) ?_ rfl rfl (by kernel_rfl) (by kernel_rfl))
        refine D_take 14 rfl (pev_ok rfl) ?_ rfl rfl (by kernel_rfl) (by kernel_rfl)
        refine D_take 15 rfl (T_load rfl rfl rfl rfl) ?_ rfl rfl (by kernel_rfl) (by kernel_rfl)
        refine D_take 16 rfl (T_cvE hn0 rfl rfl rfl rfl) ?_ rfl rfl (by kernel_rfl) (by kernel_rfl)
        refine D_take 17 rfl (T_modE hn9 rfl rfl (by omega)) ?_ rfl rfl (by kernel_rfl) (by kernel_rfl)
        (refine D_take 18 rfl (T_convf rfl rfl rfl rfl (by unfold fits; omega)) ?_ rfl rfl (by kernel_rfl) (by kernel_rfl))
        refine D_node #[true, true, true, true, true, true, true, true, true, true, true, true, true, true, true, true, true, true, true, true, true, true, true, true, true, false, false, false] (fun x : Option Addr × Nat × Sh es × Nat => [(74, zi 0), (73, .slice x.1 K7 x.2.1), (72, .agg (atc p).toArray), (51, .tuple #[.agg (atc p).toArray, .slice x.1 K7 x.2.1, zi 0]), (15, .pointer (some ⟨x.2.2.2, 0, none⟩)), (71, .tuple #[.agg (atc p).toArray, .slice x.1 K7 x.2.1, zi 0]), (70, .int .i64 (n9 : Int)), (65, .int .u64 ((1 + q : Nat) : Int)), (54, .agg (lgc (0, 0) A5 K5 c5).toArray), (8, .int .i64 (u : Int)), (3, .pointer (some ⟨b3, 0, none⟩)), (4, .int .u64 (t : Int)), (5, .pointer (some ⟨b5, 0, none⟩)), (33, .slice A Z.length c), (34, .int .i64 (Z.length : Int)), (35, .int .i64 (j : Int))]) (fun x : Option Addr × Nat × Sh es × Nat => [pt x.2.2.2 24 (atc (0, 0)), row 44 3 x.1 K7 x.2.1 (cellsL emc x.2.2.1.1), dtB 5 (x.2.2.1.1.map emd), pt b3 60 (arrW u (lgc (0, 0) A5 K5 c5) (lgc (0, 0) A6 K6 c6)), pt b5 61 (arrW u [.int .u64 (om : Int)] [.int .u64 (oo : Int)]), row 44 3 A5 K5 c5 (cellsL emc P5), dtB 5 (P5.map emd), row 44 3 A6 K6 c6 (cellsL emc P6), dtB 5 (P6.map emd), pt b7 63 (tnc (kd, wh, nn, fr, d))]) (fun nd0 => ?_) (fun x => ?_)
        refine D_nodeR #[true, true, true, true, true, true, true, true, true, true, true, true, true, true, true, true, true, true, true, true, true, true, true, true, false, false, false, false] (fun x : Option Addr × Nat × Sh es => [(74, zi 0), (73, .slice x.1 K7 x.2.1), (72, .agg (atc p).toArray), (51, .tuple #[.agg (atc p).toArray, .slice x.1 K7 x.2.1, zi 0]), (71, .tuple #[.agg (atc p).toArray, .slice x.1 K7 x.2.1, zi 0]), (70, .int .i64 (n9 : Int)), (65, .int .u64 ((1 + q : Nat) : Int)), (54, .agg (lgc (0, 0) A5 K5 c5).toArray), (8, .int .i64 (u : Int)), (3, .pointer (some ⟨b3, 0, none⟩)), (4, .int .u64 (t : Int)), (5, .pointer (some ⟨b5, 0, none⟩)), (33, .slice A Z.length c), (34, .int .i64 (Z.length : Int)), (35, .int .i64 (j : Int))]) (fun x : Option Addr × Nat × Sh es => [row 44 3 x.1 K7 x.2.1 (cellsL emc x.2.2.1), dtB 5 (x.2.2.1.map emd), pt b3 60 (arrW u (lgc (0, 0) A5 K5 c5) (lgc (0, 0) A6 K6 c6)), pt b5 61 (arrW u [.int .u64 (om : Int)] [.int .u64 (oo : Int)]), row 44 3 A5 K5 c5 (cellsL emc P5), dtB 5 (P5.map emd), row 44 3 A6 K6 c6 (cellsL emc P6), dtB 5 (P6.map emd), pt b7 63 (tnc (kd, wh, nn, fr, d))]) (fun x => ?_) (fun nd1 => ?_)
        · skip
          obtain ⟨A16, c16, P16⟩ := x
          try dsimp only
          refine D_one 24 rfl (E_alloca rfl at_zero) ?_ rfl rfl (by kernel_rfl)
          rintro _ _ ⟨b15, rfl, rfl⟩
          refine Nx_same sub_st ?_
          have h := nd0 (A16, c16, P16, b15)
          try dsimp only at h
          exact D_at h (by repeat first | exact Sub.nil | refine Sub.cons rfl ?_) sub_st (by kernel_rfl)
        refine D_nodeR #[true, true, true, true, true, true, true, true, true, true, true, true, true, true, true, true, true, true, true, false, false, false, false, false, true, false, false, false] (fun x : Nat => [(15, .pointer (some ⟨x, 0, none⟩)), (70, .int .i64 (n9 : Int)), (65, .int .u64 ((1 + q : Nat) : Int)), (54, .agg (lgc (0, 0) A5 K5 c5).toArray), (8, .int .i64 (u : Int)), (3, .pointer (some ⟨b3, 0, none⟩)), (4, .int .u64 (t : Int)), (5, .pointer (some ⟨b5, 0, none⟩)), (33, .slice A Z.length c), (34, .int .i64 (Z.length : Int)), (35, .int .i64 (j : Int))]) (fun x : Nat => [pt x 24 (atc (0, 0)), pt b3 60 (arrW u (lgc (0, 0) A5 K5 c5) (lgc (0, 0) A6 K6 c6)), pt b5 61 (arrW u [.int .u64 (om : Int)] [.int .u64 (oo : Int)]), row 44 3 A5 K5 c5 (cellsL emc P5), dtB 5 (P5.map emd), row 44 3 A6 K6 c6 (cellsL emc P6), dtB 5 (P6.map emd), pt b7 63 (tnc (kd, wh, nn, fr, d))]) (fun x => ?_) (fun nd2 => ?_)
        · skip
          revert x; intro b15
          try dsimp only
          refine D_one 19 rfl (E_hvG (f := 26) ⟨_, Try.func26, rfl, by kernel_rfl⟩ (fun w0 hS => from_S w0 (0, 0) A5 c5 K5 P5 L5 hl5 hP5 ((Srd.row (A := A5) (n := K5) (c := c5)).rd w0 hS) ((SDt.own (e := 5) (D := P5.map emd) (by simp)).rd w0 hS) hc5 (by omega) hk5 (1 + q) (by omega) (n9 : Int) 0 p es K7 hK7 hsf) rfl rfl) ?_ rfl rfl (by kernel_rfl)
          rintro _ _ ⟨⟨⟨A16, c16⟩, P16⟩, rfl, _, rfl⟩; dsimp only [List.cons_append, List.nil_append]
          refine Nx_same sub_st ?_
          refine D_take 20 rfl (pev_ok rfl) ?_ rfl rfl (by kernel_rfl) (by kernel_rfl)
          refine D_take 21 rfl (pev_ok rfl) ?_ rfl rfl (by kernel_rfl) (by kernel_rfl)
          refine D_take 22 rfl (pev_ok rfl) ?_ rfl rfl (by kernel_rfl) (by kernel_rfl)
          refine D_take 23 rfl (pev_ok rfl) ?_ rfl rfl (by kernel_rfl) (by kernel_rfl)
          have h := nd0 (A16, c16, P16, b15)
          try dsimp only at h
          exact D_at h (by repeat first | exact Sub.nil | refine Sub.cons rfl ?_) sub_st (by kernel_rfl)
        refine D_nodeR #[true, true, true, true, true, true, true, true, true, true, true, true, true, true, true, true, true, true, true, false, false, false, false, false, false, false, false, false] (fun _ : Unit => [(70, .int .i64 (n9 : Int)), (65, .int .u64 ((1 + q : Nat) : Int)), (54, .agg (lgc (0, 0) A5 K5 c5).toArray), (8, .int .i64 (u : Int)), (3, .pointer (some ⟨b3, 0, none⟩)), (4, .int .u64 (t : Int)), (5, .pointer (some ⟨b5, 0, none⟩)), (33, .slice A Z.length c), (34, .int .i64 (Z.length : Int)), (35, .int .i64 (j : Int))]) (fun _ : Unit => [pt b3 60 (arrW u (lgc (0, 0) A5 K5 c5) (lgc (0, 0) A6 K6 c6)), pt b5 61 (arrW u [.int .u64 (om : Int)] [.int .u64 (oo : Int)]), row 44 3 A5 K5 c5 (cellsL emc P5), dtB 5 (P5.map emd), row 44 3 A6 K6 c6 (cellsL emc P6), dtB 5 (P6.map emd), pt b7 63 (tnc (kd, wh, nn, fr, d))]) (fun x => ?_) (fun nd3 => ?_)
        · skip
          obtain ⟨⟩ := x
          try dsimp only
          refine D_two 19 24 (by decide) rfl rfl (E_hvG (f := 26) ⟨_, Try.func26, rfl, by kernel_rfl⟩ (fun w0 hS => from_S w0 (0, 0) A5 c5 K5 P5 L5 hl5 hP5 ((Srd.row (A := A5) (n := K5) (c := c5)).rd w0 hS) ((SDt.own (e := 5) (D := P5.map emd) (by simp)).rd w0 hS) hc5 (by omega) hk5 (1 + q) (by omega) (n9 : Int) 0 p es K7 hK7 hsf) rfl rfl) (E_alloca rfl at_zero) ?_ ?_ rfl rfl rfl rfl (by kernel_rfl)
          · rintro _ _ ⟨⟨⟨A16, c16⟩, P16⟩, rfl, _, rfl⟩; dsimp only [List.cons_append, List.nil_append]
            refine Nx_same sub_st ?_
            refine D_take 20 rfl (pev_ok rfl) ?_ rfl rfl (by kernel_rfl) (by kernel_rfl)
            refine D_take 21 rfl (pev_ok rfl) ?_ rfl rfl (by kernel_rfl) (by kernel_rfl)
            refine D_take 22 rfl (pev_ok rfl) ?_ rfl rfl (by kernel_rfl) (by kernel_rfl)
            refine D_take 23 rfl (pev_ok rfl) ?_ rfl rfl (by kernel_rfl) (by kernel_rfl)
            have h := nd1 (A16, c16, P16)
            try dsimp only at h
            exact D_at h (by repeat first | exact Sub.nil | refine Sub.cons rfl ?_) sub_st (by kernel_rfl)
          · rintro _ _ ⟨b15, rfl, rfl⟩
            refine Nx_same sub_st ?_
            have h := nd2 (b15)
            try dsimp only at h
            exact D_at h (by repeat first | exact Sub.nil | refine Sub.cons rfl ?_) sub_st (by kernel_rfl)
        have h := nd3 ()
        try dsimp only at h
        exact D_at h (by repeat first | exact Sub.nil | refine Sub.cons rfl ?_) sub_st (by kernel_rfl)
        obtain ⟨A16, c16, P16, b15⟩ := x
        try dsimp only
        refine D_one 25 rfl (E_storew (cs := atc (0, 0)) (ds := atc p) rfl rfl rfl rfl (atc_one _) rfl) ?_ rfl rfl (by kernel_rfl)
        rintro _ _ rfl
        refine Nx_same sub_st ?_
        refine D_take 26 rfl (pev_ok rfl) ?_ rfl rfl (by kernel_rfl) (by kernel_rfl)
        refine D_take 27 rfl (pev_ok rfl) ?_ rfl rfl (by kernel_rfl) (by kernel_rfl)
        refine D_done ?_ (by kernel_rfl)
        skip
        have hl16 : P16.1.length = K7 := (em_len P16.2.1).trans hK7
        focus (refine S_seq rfl ?_; refine S_seq rfl ?_; refine S_region rfl rfl ?_; refine R_p rfl ?_ rfl rfl; refine R_take (T_decF rfl (by omega)) ?_ rfl rfl; refine R_nil ?_; refine S_false rfl rfl ?_; refine S_skip rfl ?_; refine S_seq rfl ?_; refine S_seq rfl ?_)
        refine RS_row A16 K7 c16 fun hc16 _ _ _ => ?_
        by_cases hcmp : lt < ot
        · skip
          refine S_draw ([pt b3 60 (arrW u (lgc (0, 0) A5 K5 c5) (lgc (0, 0) A6 K6 c6))]) sub_st (by kernel_rfl) rfl (by kernel_rfl) (by kernel_rfl : _ = 12) ?_
          refine D_take 0 rfl (pev_ok rfl) ?_ rfl rfl (by kernel_rfl) (by kernel_rfl)
          (refine D_take 1 rfl (T_subN rfl rfl (by omega) (by unfold fits; omega)) ?_ rfl rfl (by kernel_rfl) (by kernel_rfl))
          refine D_take 2 rfl (T_ixaM (sz := 3) (q := 1 - u) rfl rfl rfl rfl rfl rfl (by omega)) ?_ rfl rfl (by kernel_rfl) (by kernel_rfl)
          refine D_take 3 rfl (T_loads (ds := lgc (0, 0) A6 K6 c6) rfl rfl rfl rfl (arr_ot (s := 3) (x := lgc (0, 0) A5 K5 c5) (y := lgc (0, 0) A6 K6 c6) hu rfl rfl)) ?_ rfl rfl (by kernel_rfl) (by kernel_rfl)
          refine D_take 6 rfl (pev_ok rfl) ?_ rfl rfl (by kernel_rfl) (by kernel_rfl)
          refine D_take 7 rfl (T_ixaM (sz := 3) (q := u) rfl rfl rfl rfl rfl rfl (by omega)) ?_ rfl rfl (by kernel_rfl) (by kernel_rfl)
          refine D_take 8 rfl (T_loads (ds := lgc (0, 0) A5 K5 c5) rfl rfl rfl rfl (arr_me (s := 3) (x := lgc (0, 0) A5 K5 c5) (y := lgc (0, 0) A6 K6 c6) hu rfl rfl)) ?_ rfl rfl (by kernel_rfl) (by kernel_rfl)
          refine D_one 4 rfl (E_hv0 (f := 24) ⟨_, Try.func24, rfl, by kernel_rfl⟩ (fun w0 hS => lastF_k w0 (0, 0) A6 c6 K6 P6 L6 (oi, ot) hl6 hP6 hr6 hlo ((Srd.row (A := A6) (n := K6) (c := c6)).rd w0 hS) (by omega)) rfl rfl (fun _ => rfl)) ?_ rfl rfl (by kernel_rfl)
          rintro _ _ ⟨_, rfl, _, rfl⟩
          refine Nx_same sub_st ?_
          refine D_take 5 rfl (T_fldv (xs := atc (oi, ot)) rfl rfl rfl rfl rfl rfl) ?_ rfl rfl (by kernel_rfl) (by kernel_rfl)
          refine D_one 9 rfl (E_hv0 (f := 24) ⟨_, Try.func24, rfl, by kernel_rfl⟩ (fun w0 hS => lastF_k w0 (0, 0) A5 c5 K5 P5 L5 (li, lt) hl5 hP5 hr5 hlm ((Srd.row (A := A5) (n := K5) (c := c5)).rd w0 hS) (by omega)) rfl rfl (fun _ => rfl)) ?_ rfl rfl (by kernel_rfl)
          rintro _ _ ⟨_, rfl, _, rfl⟩
          refine Nx_same sub_st ?_
          refine D_take 10 rfl (T_fldv (xs := atc (li, lt)) rfl rfl rfl rfl rfl rfl) ?_ rfl rfl (by kernel_rfl) (by kernel_rfl)
          refine D_take 11 rfl (T_decT rfl (by omega)) ?_ rfl rfl (by kernel_rfl) (by kernel_rfl)
          refine D_done ?_ (by kernel_rfl)
          skip
          focus (refine S_true rfl rfl ?_; refine S_exit rfl rfl ?_; refine S_region rfl rfl ?_; refine R_take (T_addN rfl rfl (by unfold fits; omega)) ?_ rfl rfl; refine R_p rfl ?_ rfl rfl; refine R_nil ?_)
          exact hJ (j + 1, u, t, (om, oo), ((A5, c5), K5, P5), ((A6, c6), K6, P6)) _ _ ⟨by show j + 1 ≤ _; omega, hu, by show t ≤ j + 1; omega, by show j + 1 ≤ 60; omega, hl5, hl6, by show Mt _ _ _ (P5.map emv) (P6.map emv); rw [hP5, hP6]; exact hM⟩ (Sub.cons rfl (Sub.cons rfl (Sub.cons rfl (Sub.cons rfl (Sub.cons rfl (Sub.cons rfl Sub.nil)))))) sub_st (by show Z.length - (j + 1) < _; omega)
        refine S_draw ([pt b3 60 (arrW u (lgc (0, 0) A5 K5 c5) (lgc (0, 0) A6 K6 c6))]) sub_st (by kernel_rfl) rfl (by kernel_rfl) (by kernel_rfl : _ = 12) ?_
        refine D_take 0 rfl (pev_ok rfl) ?_ rfl rfl (by kernel_rfl) (by kernel_rfl)
        (refine D_take 1 rfl (T_subN rfl rfl (by omega) (by unfold fits; omega)) ?_ rfl rfl (by kernel_rfl) (by kernel_rfl))
        refine D_take 2 rfl (T_ixaM (sz := 3) (q := 1 - u) rfl rfl rfl rfl rfl rfl (by omega)) ?_ rfl rfl (by kernel_rfl) (by kernel_rfl)
        refine D_take 3 rfl (T_loads (ds := lgc (0, 0) A6 K6 c6) rfl rfl rfl rfl (arr_ot (s := 3) (x := lgc (0, 0) A5 K5 c5) (y := lgc (0, 0) A6 K6 c6) hu rfl rfl)) ?_ rfl rfl (by kernel_rfl) (by kernel_rfl)
        refine D_take 6 rfl (pev_ok rfl) ?_ rfl rfl (by kernel_rfl) (by kernel_rfl)
        refine D_take 7 rfl (T_ixaM (sz := 3) (q := u) rfl rfl rfl rfl rfl rfl (by omega)) ?_ rfl rfl (by kernel_rfl) (by kernel_rfl)
        refine D_take 8 rfl (T_loads (ds := lgc (0, 0) A5 K5 c5) rfl rfl rfl rfl (arr_me (s := 3) (x := lgc (0, 0) A5 K5 c5) (y := lgc (0, 0) A6 K6 c6) hu rfl rfl)) ?_ rfl rfl (by kernel_rfl) (by kernel_rfl)
        refine D_one 4 rfl (E_hv0 (f := 24) ⟨_, Try.func24, rfl, by kernel_rfl⟩ (fun w0 hS => lastF_k w0 (0, 0) A6 c6 K6 P6 L6 (oi, ot) hl6 hP6 hr6 hlo ((Srd.row (A := A6) (n := K6) (c := c6)).rd w0 hS) (by omega)) rfl rfl (fun _ => rfl)) ?_ rfl rfl (by kernel_rfl)
        rintro _ _ ⟨_, rfl, _, rfl⟩
        refine Nx_same sub_st ?_
        refine D_take 5 rfl (T_fldv (xs := atc (oi, ot)) rfl rfl rfl rfl rfl rfl) ?_ rfl rfl (by kernel_rfl) (by kernel_rfl)
        refine D_one 9 rfl (E_hv0 (f := 24) ⟨_, Try.func24, rfl, by kernel_rfl⟩ (fun w0 hS => lastF_k w0 (0, 0) A5 c5 K5 P5 L5 (li, lt) hl5 hP5 hr5 hlm ((Srd.row (A := A5) (n := K5) (c := c5)).rd w0 hS) (by omega)) rfl rfl (fun _ => rfl)) ?_ rfl rfl (by kernel_rfl)
        rintro _ _ ⟨_, rfl, _, rfl⟩
        refine Nx_same sub_st ?_
        refine D_take 10 rfl (T_fldv (xs := atc (li, lt)) rfl rfl rfl rfl rfl rfl) ?_ rfl rfl (by kernel_rfl) (by kernel_rfl)
        refine D_take 11 rfl (T_decF rfl (by omega)) ?_ rfl rfl (by kernel_rfl) (by kernel_rfl)
        refine D_done ?_ (by kernel_rfl)
        skip
        focus (refine S_false rfl rfl ?_; refine S_skip rfl ?_; refine S_seq rfl ?_)
        rcases hsd with ⟨rfl, rfl, hM2⟩ | rfl | rfl
        · skip
          refine S_draw ([pt b3 60 (arrW u (lgc (0, 0) A5 K5 c5) (lgc (0, 0) A6 K6 c6)), pt b15 24 (atc p)]) sub_st (by kernel_rfl) rfl (by kernel_rfl) (by kernel_rfl : _ = 15) ?_
          refine D_take 0 rfl (pev_ok rfl) ?_ rfl rfl (by kernel_rfl) (by kernel_rfl)
          (refine D_take 1 rfl (T_subN rfl rfl (by omega) (by unfold fits; omega)) ?_ rfl rfl (by kernel_rfl) (by kernel_rfl))
          refine D_take 2 rfl (T_ixaM (sz := 3) (q := 1 - u) rfl rfl rfl rfl rfl rfl (by omega)) ?_ rfl rfl (by kernel_rfl) (by kernel_rfl)
          refine D_take 3 rfl (T_loads (ds := lgc (0, 0) A6 K6 c6) rfl rfl rfl rfl (arr_ot (s := 3) (x := lgc (0, 0) A5 K5 c5) (y := lgc (0, 0) A6 K6 c6) hu rfl rfl)) ?_ rfl rfl (by kernel_rfl) (by kernel_rfl)
          refine D_take 4 rfl (T_loads (ds := atc p) rfl rfl rfl rfl rfl) ?_ rfl rfl (by kernel_rfl) (by kernel_rfl)
          refine D_take 5 rfl (pev_ok rfl) ?_ rfl rfl (by kernel_rfl) (by kernel_rfl)
          refine D_node #[true, true, true, true, true, true, true, true, true, true, true, true, false, false, false] (fun x : Option Addr × Nat × Sh r × Nat => [(99, zi 0), (98, .int .u64 (last : Int)), (97, .agg (lgc (0, 0) x.1 K9 x.2.1).toArray), (89, .tuple #[.agg (lgc (0, 0) x.1 K9 x.2.1).toArray, .int .u64 (last : Int), zi 0]), (18, .pointer (some ⟨x.2.2.2, 0, none⟩)), (96, .tuple #[.agg (lgc (0, 0) x.1 K9 x.2.1).toArray, .int .u64 (last : Int), zi 0]), (95, .slice A16 K7 c16), (94, .agg (atc p).toArray), (93, .agg (lgc (0, 0) A6 K6 c6).toArray), (8, .int .i64 (u : Int)), (3, .pointer (some ⟨b3, 0, none⟩)), (4, .int .u64 (t : Int)), (5, .pointer (some ⟨b5, 0, none⟩)), (33, .slice A Z.length c), (34, .int .i64 (Z.length : Int)), (35, .int .i64 (j : Int))]) (fun x : Option Addr × Nat × Sh r × Nat => [pt x.2.2.2 27 (lgc (0, 0) none 0 0), row 44 3 x.1 K9 x.2.1 (cellsL emc x.2.2.1.1), dtB 5 (x.2.2.1.1.map emd), pt b3 60 (arrW u (lgc (0, 0) A5 K5 c5) (lgc (0, 0) A6 K6 c6)), pt b5 61 (arrW u [.int .u64 (om : Int)] [.int .u64 (oo : Int)]), row 44 3 A5 K5 c5 (cellsL emc P5), dtB 5 (P5.map emd), row 44 3 A6 K6 c6 (cellsL emc P6), dtB 5 (P6.map emd), pt b15 24 (atc p), row 44 3 A16 K7 c16 (cellsL emc P16.1), dtB 5 (P16.1.map emd)]) (fun nd0 => ?_) (fun x => ?_)
          refine D_nodeR #[true, true, true, true, true, true, true, true, true, true, true, false, false, false, false] (fun x : Option Addr × Nat × Sh r => [(99, zi 0), (98, .int .u64 (last : Int)), (97, .agg (lgc (0, 0) x.1 K9 x.2.1).toArray), (89, .tuple #[.agg (lgc (0, 0) x.1 K9 x.2.1).toArray, .int .u64 (last : Int), zi 0]), (96, .tuple #[.agg (lgc (0, 0) x.1 K9 x.2.1).toArray, .int .u64 (last : Int), zi 0]), (95, .slice A16 K7 c16), (94, .agg (atc p).toArray), (93, .agg (lgc (0, 0) A6 K6 c6).toArray), (8, .int .i64 (u : Int)), (3, .pointer (some ⟨b3, 0, none⟩)), (4, .int .u64 (t : Int)), (5, .pointer (some ⟨b5, 0, none⟩)), (33, .slice A Z.length c), (34, .int .i64 (Z.length : Int)), (35, .int .i64 (j : Int))]) (fun x : Option Addr × Nat × Sh r => [row 44 3 x.1 K9 x.2.1 (cellsL emc x.2.2.1), dtB 5 (x.2.2.1.map emd), pt b3 60 (arrW u (lgc (0, 0) A5 K5 c5) (lgc (0, 0) A6 K6 c6)), pt b5 61 (arrW u [.int .u64 (om : Int)] [.int .u64 (oo : Int)]), row 44 3 A5 K5 c5 (cellsL emc P5), dtB 5 (P5.map emd), row 44 3 A6 K6 c6 (cellsL emc P6), dtB 5 (P6.map emd), pt b15 24 (atc p), row 44 3 A16 K7 c16 (cellsL emc P16.1), dtB 5 (P16.1.map emd)]) (fun x => ?_) (fun nd1 => ?_)
          · skip
            obtain ⟨A18, c18, P18⟩ := x
            try dsimp only
            refine D_one 11 rfl (E_alloca rfl lg_zero) ?_ rfl rfl (by kernel_rfl)
            rintro _ _ ⟨b18, rfl, rfl⟩
            refine Nx_same sub_st ?_
            have h := nd0 (A18, c18, P18, b18)
            try dsimp only at h
            exact D_at h (by repeat first | exact Sub.nil | refine Sub.cons rfl ?_) sub_st (by kernel_rfl)
          refine D_nodeR #[true, true, true, true, true, true, false, false, false, false, false, true, false, false, false] (fun x : Nat => [(18, .pointer (some ⟨x, 0, none⟩)), (95, .slice A16 K7 c16), (94, .agg (atc p).toArray), (93, .agg (lgc (0, 0) A6 K6 c6).toArray), (8, .int .i64 (u : Int)), (3, .pointer (some ⟨b3, 0, none⟩)), (4, .int .u64 (t : Int)), (5, .pointer (some ⟨b5, 0, none⟩)), (33, .slice A Z.length c), (34, .int .i64 (Z.length : Int)), (35, .int .i64 (j : Int))]) (fun x : Nat => [pt x 27 (lgc (0, 0) none 0 0), pt b3 60 (arrW u (lgc (0, 0) A5 K5 c5) (lgc (0, 0) A6 K6 c6)), pt b5 61 (arrW u [.int .u64 (om : Int)] [.int .u64 (oo : Int)]), row 44 3 A5 K5 c5 (cellsL emc P5), dtB 5 (P5.map emd), row 44 3 A6 K6 c6 (cellsL emc P6), dtB 5 (P6.map emd), pt b15 24 (atc p), row 44 3 A16 K7 c16 (cellsL emc P16.1), dtB 5 (P16.1.map emd)]) (fun x => ?_) (fun nd2 => ?_)
          · skip
            revert x; intro b18
            try dsimp only
            refine D_one 6 rfl (E_hvG (f := 13) ⟨_, Try.func13, rfl, by kernel_rfl⟩ (fun w0 hS => splice_S w0 (0, 0) A6 c6 K6 P6 L6 hl6 hP6 ((Srd.row (A := A6) (n := K6) (c := c6)).rd w0 hS) ((SDt.own (e := 5) (D := P6.map emd) (by simp)).rd w0 hS) p A16 c16 K7 P16.1 es hl16 P16.2.1 ((Srd.row (A := A16) (n := K7) (c := c16)).rd w0 hS) ((SDt.own (e := 5) (D := P16.1.map emd) (by simp)).rd w0 hS) hc16 (by omega) (by omega) hk6 (em_txt P16.2.1 hestx) 0 last (0, 0) r K9 hK9 hs) rfl rfl) ?_ rfl rfl (by kernel_rfl)
            rintro _ _ ⟨⟨⟨A18, c18⟩, P18⟩, rfl, _, rfl⟩; dsimp only [List.cons_append, List.nil_append]
            refine Nx_same sub_st ?_
            refine D_take 7 rfl (pev_ok rfl) ?_ rfl rfl (by kernel_rfl) (by kernel_rfl)
            refine D_take 8 rfl (pev_ok rfl) ?_ rfl rfl (by kernel_rfl) (by kernel_rfl)
            refine D_take 9 rfl (pev_ok rfl) ?_ rfl rfl (by kernel_rfl) (by kernel_rfl)
            refine D_take 10 rfl (pev_ok rfl) ?_ rfl rfl (by kernel_rfl) (by kernel_rfl)
            have h := nd0 (A18, c18, P18, b18)
            try dsimp only at h
            exact D_at h (by repeat first | exact Sub.nil | refine Sub.cons rfl ?_) sub_st (by kernel_rfl)
          refine D_nodeR #[true, true, true, true, true, true, false, false, false, false, false, false, false, false, false] (fun _ : Unit => [(95, .slice A16 K7 c16), (94, .agg (atc p).toArray), (93, .agg (lgc (0, 0) A6 K6 c6).toArray), (8, .int .i64 (u : Int)), (3, .pointer (some ⟨b3, 0, none⟩)), (4, .int .u64 (t : Int)), (5, .pointer (some ⟨b5, 0, none⟩)), (33, .slice A Z.length c), (34, .int .i64 (Z.length : Int)), (35, .int .i64 (j : Int))]) (fun _ : Unit => [pt b3 60 (arrW u (lgc (0, 0) A5 K5 c5) (lgc (0, 0) A6 K6 c6)), pt b5 61 (arrW u [.int .u64 (om : Int)] [.int .u64 (oo : Int)]), row 44 3 A5 K5 c5 (cellsL emc P5), dtB 5 (P5.map emd), row 44 3 A6 K6 c6 (cellsL emc P6), dtB 5 (P6.map emd), pt b15 24 (atc p), row 44 3 A16 K7 c16 (cellsL emc P16.1), dtB 5 (P16.1.map emd)]) (fun x => ?_) (fun nd3 => ?_)
          · skip
            obtain ⟨⟩ := x
            try dsimp only
            refine D_two 6 11 (by decide) rfl rfl (E_hvG (f := 13) ⟨_, Try.func13, rfl, by kernel_rfl⟩ (fun w0 hS => splice_S w0 (0, 0) A6 c6 K6 P6 L6 hl6 hP6 ((Srd.row (A := A6) (n := K6) (c := c6)).rd w0 hS) ((SDt.own (e := 5) (D := P6.map emd) (by simp)).rd w0 hS) p A16 c16 K7 P16.1 es hl16 P16.2.1 ((Srd.row (A := A16) (n := K7) (c := c16)).rd w0 hS) ((SDt.own (e := 5) (D := P16.1.map emd) (by simp)).rd w0 hS) hc16 (by omega) (by omega) hk6 (em_txt P16.2.1 hestx) 0 last (0, 0) r K9 hK9 hs) rfl rfl) (E_alloca rfl lg_zero) ?_ ?_ rfl rfl rfl rfl (by kernel_rfl)
            · rintro _ _ ⟨⟨⟨A18, c18⟩, P18⟩, rfl, _, rfl⟩; dsimp only [List.cons_append, List.nil_append]
              refine Nx_same sub_st ?_
              refine D_take 7 rfl (pev_ok rfl) ?_ rfl rfl (by kernel_rfl) (by kernel_rfl)
              refine D_take 8 rfl (pev_ok rfl) ?_ rfl rfl (by kernel_rfl) (by kernel_rfl)
              refine D_take 9 rfl (pev_ok rfl) ?_ rfl rfl (by kernel_rfl) (by kernel_rfl)
              refine D_take 10 rfl (pev_ok rfl) ?_ rfl rfl (by kernel_rfl) (by kernel_rfl)
              have h := nd1 (A18, c18, P18)
              try dsimp only at h
              exact D_at h (by repeat first | exact Sub.nil | refine Sub.cons rfl ?_) sub_st (by kernel_rfl)
            · rintro _ _ ⟨b18, rfl, rfl⟩
              refine Nx_same sub_st ?_
              have h := nd2 (b18)
              try dsimp only at h
              exact D_at h (by repeat first | exact Sub.nil | refine Sub.cons rfl ?_) sub_st (by kernel_rfl)
          have h := nd3 ()
          try dsimp only at h
          exact D_at h (by repeat first | exact Sub.nil | refine Sub.cons rfl ?_) sub_st (by kernel_rfl)
          obtain ⟨A18, c18, P18, b18⟩ := x
          try dsimp only
          refine D_one 12 rfl (E_storew (cs := lgc (0, 0) none 0 0) (ds := lgc (0, 0) A18 K9 c18) rfl rfl rfl rfl (lgc_one _ _ _ _) rfl) ?_ rfl rfl (by kernel_rfl)
          rintro _ _ rfl
          refine Nx_same sub_st ?_
          refine D_take 13 rfl (pev_ok rfl) ?_ rfl rfl (by kernel_rfl) (by kernel_rfl)
          refine D_take 14 rfl (pev_ok rfl) ?_ rfl rfl (by kernel_rfl) (by kernel_rfl)
          refine D_done ?_ (by kernel_rfl)
          skip
          focus (refine S_seq rfl ?_; refine S_region rfl rfl ?_; refine R_p rfl ?_ rfl rfl; refine R_take (T_decT rfl (by omega)) ?_ rfl rfl; refine R_nil ?_; refine S_true rfl rfl ?_; refine S_region rfl rfl ?_; refine R_p rfl ?_ rfl rfl; refine R_take (T_subN rfl rfl (by omega) (by unfold fits; omega)) ?_ rfl rfl; refine R_take (T_loads (ds := lgc (0, 0) A18 K9 c18) rfl rfl rfl rfl rfl) ?_ rfl rfl; refine R_take (T_ixaM (sz := 3) (q := 1 - u) rfl rfl rfl rfl rfl rfl (by omega)) ?_ rfl rfl; (refine R_eff0 (E_storeA (ds := lgc (0, 0) A18 K9 c18) (cs' := arrW u (lgc (0, 0) A5 K5 c5) (lgc (0, 0) A18 K9 c18)) rfl rfl rfl rfl (lgc_one _ _ _ _) (arr_set2 hu rfl rfl rfl) (arr_fit2 hu rfl rfl rfl)) ?_ rfl; rintro _ _ rfl); refine R_nil ?_; refine RS_blk ?_; refine RS_blk ?_; refine S_region rfl rfl ?_; refine R_take (T_addN rfl rfl (by unfold fits; omega)) ?_ rfl rfl; refine R_p rfl ?_ rfl rfl; refine R_nil ?_)
          exact hJ (j + 1, u, t, (om, oo), ((A5, c5), K5, P5), ((A18, c18), K9, P18.1)) _ _ ⟨by show j + 1 ≤ _; omega, hu, by show t ≤ j + 1; omega, by show j + 1 ≤ 60; omega, hl5, (em_len P18.2.1).trans hK9, by show Mt _ _ _ (P5.map emv) (P18.1.map emv); rw [hP5, P18.2.1]; exact hM2⟩ (Sub.cons rfl (Sub.cons rfl (Sub.cons rfl (Sub.cons rfl (Sub.cons rfl (Sub.cons rfl Sub.nil)))))) sub_st (by show Z.length - (j + 1) < _; omega)
        · skip
          refine S_draw ([pt b3 60 (arrW u (lgc (0, 0) A5 K5 c5) (lgc (0, 0) A6 K6 c6)), pt b15 24 (atc p)]) sub_st (by kernel_rfl) rfl (by kernel_rfl) (by kernel_rfl : _ = 15) ?_
          refine D_take 0 rfl (pev_ok rfl) ?_ rfl rfl (by kernel_rfl) (by kernel_rfl)
          (refine D_take 1 rfl (T_subN rfl rfl (by omega) (by unfold fits; omega)) ?_ rfl rfl (by kernel_rfl) (by kernel_rfl))
          refine D_take 2 rfl (T_ixaM (sz := 3) (q := 1 - u) rfl rfl rfl rfl rfl rfl (by omega)) ?_ rfl rfl (by kernel_rfl) (by kernel_rfl)
          refine D_take 3 rfl (T_loads (ds := lgc (0, 0) A6 K6 c6) rfl rfl rfl rfl (arr_ot (s := 3) (x := lgc (0, 0) A5 K5 c5) (y := lgc (0, 0) A6 K6 c6) hu rfl rfl)) ?_ rfl rfl (by kernel_rfl) (by kernel_rfl)
          refine D_take 4 rfl (T_loads (ds := atc p) rfl rfl rfl rfl rfl) ?_ rfl rfl (by kernel_rfl) (by kernel_rfl)
          refine D_take 5 rfl (pev_ok rfl) ?_ rfl rfl (by kernel_rfl) (by kernel_rfl)
          refine D_node #[true, true, true, true, true, true, true, true, true, true, true, true, false, false, false] (fun x : Option Addr × Nat × Sh r × Nat => [(99, zi 4), (98, .int .u64 (last : Int)), (97, .agg (lgc b x.1 K9 x.2.1).toArray), (89, .tuple #[.agg (lgc b x.1 K9 x.2.1).toArray, .int .u64 (last : Int), zi 4]), (18, .pointer (some ⟨x.2.2.2, 0, none⟩)), (96, .tuple #[.agg (lgc b x.1 K9 x.2.1).toArray, .int .u64 (last : Int), zi 4]), (95, .slice A16 K7 c16), (94, .agg (atc p).toArray), (93, .agg (lgc (0, 0) A6 K6 c6).toArray), (8, .int .i64 (u : Int)), (3, .pointer (some ⟨b3, 0, none⟩)), (4, .int .u64 (t : Int)), (5, .pointer (some ⟨b5, 0, none⟩)), (33, .slice A Z.length c), (34, .int .i64 (Z.length : Int)), (35, .int .i64 (j : Int))]) (fun x : Option Addr × Nat × Sh r × Nat => [pt x.2.2.2 27 (lgc (0, 0) none 0 0), row 44 3 x.1 K9 x.2.1 (cellsL emc x.2.2.1.1), dtB 5 (x.2.2.1.1.map emd), pt b3 60 (arrW u (lgc (0, 0) A5 K5 c5) (lgc (0, 0) A6 K6 c6)), pt b5 61 (arrW u [.int .u64 (om : Int)] [.int .u64 (oo : Int)]), row 44 3 A5 K5 c5 (cellsL emc P5), dtB 5 (P5.map emd), row 44 3 A6 K6 c6 (cellsL emc P6), dtB 5 (P6.map emd), pt b15 24 (atc p), row 44 3 A16 K7 c16 (cellsL emc P16.1), dtB 5 (P16.1.map emd)]) (fun nd0 => ?_) (fun x => ?_)
          refine D_nodeR #[true, true, true, true, true, true, true, true, true, true, true, false, false, false, false] (fun x : Option Addr × Nat × Sh r => [(99, zi 4), (98, .int .u64 (last : Int)), (97, .agg (lgc b x.1 K9 x.2.1).toArray), (89, .tuple #[.agg (lgc b x.1 K9 x.2.1).toArray, .int .u64 (last : Int), zi 4]), (96, .tuple #[.agg (lgc b x.1 K9 x.2.1).toArray, .int .u64 (last : Int), zi 4]), (95, .slice A16 K7 c16), (94, .agg (atc p).toArray), (93, .agg (lgc (0, 0) A6 K6 c6).toArray), (8, .int .i64 (u : Int)), (3, .pointer (some ⟨b3, 0, none⟩)), (4, .int .u64 (t : Int)), (5, .pointer (some ⟨b5, 0, none⟩)), (33, .slice A Z.length c), (34, .int .i64 (Z.length : Int)), (35, .int .i64 (j : Int))]) (fun x : Option Addr × Nat × Sh r => [row 44 3 x.1 K9 x.2.1 (cellsL emc x.2.2.1), dtB 5 (x.2.2.1.map emd), pt b3 60 (arrW u (lgc (0, 0) A5 K5 c5) (lgc (0, 0) A6 K6 c6)), pt b5 61 (arrW u [.int .u64 (om : Int)] [.int .u64 (oo : Int)]), row 44 3 A5 K5 c5 (cellsL emc P5), dtB 5 (P5.map emd), row 44 3 A6 K6 c6 (cellsL emc P6), dtB 5 (P6.map emd), pt b15 24 (atc p), row 44 3 A16 K7 c16 (cellsL emc P16.1), dtB 5 (P16.1.map emd)]) (fun x => ?_) (fun nd1 => ?_)
          · skip
            obtain ⟨A18, c18, P18⟩ := x
            try dsimp only
            refine D_one 11 rfl (E_alloca rfl lg_zero) ?_ rfl rfl (by kernel_rfl)
            rintro _ _ ⟨b18, rfl, rfl⟩
            refine Nx_same sub_st ?_
            have h := nd0 (A18, c18, P18, b18)
            try dsimp only at h
            exact D_at h (by repeat first | exact Sub.nil | refine Sub.cons rfl ?_) sub_st (by kernel_rfl)
          refine D_nodeR #[true, true, true, true, true, true, false, false, false, false, false, true, false, false, false] (fun x : Nat => [(18, .pointer (some ⟨x, 0, none⟩)), (95, .slice A16 K7 c16), (94, .agg (atc p).toArray), (93, .agg (lgc (0, 0) A6 K6 c6).toArray), (8, .int .i64 (u : Int)), (3, .pointer (some ⟨b3, 0, none⟩)), (4, .int .u64 (t : Int)), (5, .pointer (some ⟨b5, 0, none⟩)), (33, .slice A Z.length c), (34, .int .i64 (Z.length : Int)), (35, .int .i64 (j : Int))]) (fun x : Nat => [pt x 27 (lgc (0, 0) none 0 0), pt b3 60 (arrW u (lgc (0, 0) A5 K5 c5) (lgc (0, 0) A6 K6 c6)), pt b5 61 (arrW u [.int .u64 (om : Int)] [.int .u64 (oo : Int)]), row 44 3 A5 K5 c5 (cellsL emc P5), dtB 5 (P5.map emd), row 44 3 A6 K6 c6 (cellsL emc P6), dtB 5 (P6.map emd), pt b15 24 (atc p), row 44 3 A16 K7 c16 (cellsL emc P16.1), dtB 5 (P16.1.map emd)]) (fun x => ?_) (fun nd2 => ?_)
          · skip
            revert x; intro b18
            try dsimp only
            refine D_one 6 rfl (E_hvG (f := 13) ⟨_, Try.func13, rfl, by kernel_rfl⟩ (fun w0 hS => splice_S w0 (0, 0) A6 c6 K6 P6 L6 hl6 hP6 ((Srd.row (A := A6) (n := K6) (c := c6)).rd w0 hS) ((SDt.own (e := 5) (D := P6.map emd) (by simp)).rd w0 hS) p A16 c16 K7 P16.1 es hl16 P16.2.1 ((Srd.row (A := A16) (n := K7) (c := c16)).rd w0 hS) ((SDt.own (e := 5) (D := P16.1.map emd) (by simp)).rd w0 hS) hc16 (by omega) (by omega) hk6 (em_txt P16.2.1 hestx) 4 last b r K9 hK9 hs) rfl rfl) ?_ rfl rfl (by kernel_rfl)
            rintro _ _ ⟨⟨⟨A18, c18⟩, P18⟩, rfl, _, rfl⟩; dsimp only [List.cons_append, List.nil_append]
            refine Nx_same sub_st ?_
            refine D_take 7 rfl (pev_ok rfl) ?_ rfl rfl (by kernel_rfl) (by kernel_rfl)
            refine D_take 8 rfl (pev_ok rfl) ?_ rfl rfl (by kernel_rfl) (by kernel_rfl)
            refine D_take 9 rfl (pev_ok rfl) ?_ rfl rfl (by kernel_rfl) (by kernel_rfl)
            refine D_take 10 rfl (pev_ok rfl) ?_ rfl rfl (by kernel_rfl) (by kernel_rfl)
            have h := nd0 (A18, c18, P18, b18)
            try dsimp only at h
            exact D_at h (by repeat first | exact Sub.nil | refine Sub.cons rfl ?_) sub_st (by kernel_rfl)
          refine D_nodeR #[true, true, true, true, true, true, false, false, false, false, false, false, false, false, false] (fun _ : Unit => [(95, .slice A16 K7 c16), (94, .agg (atc p).toArray), (93, .agg (lgc (0, 0) A6 K6 c6).toArray), (8, .int .i64 (u : Int)), (3, .pointer (some ⟨b3, 0, none⟩)), (4, .int .u64 (t : Int)), (5, .pointer (some ⟨b5, 0, none⟩)), (33, .slice A Z.length c), (34, .int .i64 (Z.length : Int)), (35, .int .i64 (j : Int))]) (fun _ : Unit => [pt b3 60 (arrW u (lgc (0, 0) A5 K5 c5) (lgc (0, 0) A6 K6 c6)), pt b5 61 (arrW u [.int .u64 (om : Int)] [.int .u64 (oo : Int)]), row 44 3 A5 K5 c5 (cellsL emc P5), dtB 5 (P5.map emd), row 44 3 A6 K6 c6 (cellsL emc P6), dtB 5 (P6.map emd), pt b15 24 (atc p), row 44 3 A16 K7 c16 (cellsL emc P16.1), dtB 5 (P16.1.map emd)]) (fun x => ?_) (fun nd3 => ?_)
          · skip
            obtain ⟨⟩ := x
            try dsimp only
            refine D_two 6 11 (by decide) rfl rfl (E_hvG (f := 13) ⟨_, Try.func13, rfl, by kernel_rfl⟩ (fun w0 hS => splice_S w0 (0, 0) A6 c6 K6 P6 L6 hl6 hP6 ((Srd.row (A := A6) (n := K6) (c := c6)).rd w0 hS) ((SDt.own (e := 5) (D := P6.map emd) (by simp)).rd w0 hS) p A16 c16 K7 P16.1 es hl16 P16.2.1 ((Srd.row (A := A16) (n := K7) (c := c16)).rd w0 hS) ((SDt.own (e := 5) (D := P16.1.map emd) (by simp)).rd w0 hS) hc16 (by omega) (by omega) hk6 (em_txt P16.2.1 hestx) 4 last b r K9 hK9 hs) rfl rfl) (E_alloca rfl lg_zero) ?_ ?_ rfl rfl rfl rfl (by kernel_rfl)
            · rintro _ _ ⟨⟨⟨A18, c18⟩, P18⟩, rfl, _, rfl⟩; dsimp only [List.cons_append, List.nil_append]
              refine Nx_same sub_st ?_
              refine D_take 7 rfl (pev_ok rfl) ?_ rfl rfl (by kernel_rfl) (by kernel_rfl)
              refine D_take 8 rfl (pev_ok rfl) ?_ rfl rfl (by kernel_rfl) (by kernel_rfl)
              refine D_take 9 rfl (pev_ok rfl) ?_ rfl rfl (by kernel_rfl) (by kernel_rfl)
              refine D_take 10 rfl (pev_ok rfl) ?_ rfl rfl (by kernel_rfl) (by kernel_rfl)
              have h := nd1 (A18, c18, P18)
              try dsimp only at h
              exact D_at h (by repeat first | exact Sub.nil | refine Sub.cons rfl ?_) sub_st (by kernel_rfl)
            · rintro _ _ ⟨b18, rfl, rfl⟩
              refine Nx_same sub_st ?_
              have h := nd2 (b18)
              try dsimp only at h
              exact D_at h (by repeat first | exact Sub.nil | refine Sub.cons rfl ?_) sub_st (by kernel_rfl)
          have h := nd3 ()
          try dsimp only at h
          exact D_at h (by repeat first | exact Sub.nil | refine Sub.cons rfl ?_) sub_st (by kernel_rfl)
          obtain ⟨A18, c18, P18, b18⟩ := x
          try dsimp only
          refine D_one 12 rfl (E_storew (cs := lgc (0, 0) none 0 0) (ds := lgc b A18 K9 c18) rfl rfl rfl rfl (lgc_one _ _ _ _) rfl) ?_ rfl rfl (by kernel_rfl)
          rintro _ _ rfl
          refine Nx_same sub_st ?_
          refine D_take 13 rfl (pev_ok rfl) ?_ rfl rfl (by kernel_rfl) (by kernel_rfl)
          refine D_take 14 rfl (pev_ok rfl) ?_ rfl rfl (by kernel_rfl) (by kernel_rfl)
          refine D_done ?_ (by kernel_rfl)
          skip
          focus (refine S_seq rfl ?_; refine S_region rfl rfl ?_; refine R_p rfl ?_ rfl rfl; refine R_take (T_decF rfl (by omega)) ?_ rfl rfl; refine R_nil ?_; refine S_false rfl rfl ?_; refine S_seq rfl ?_; refine S_region rfl rfl ?_; refine R_p rfl ?_ rfl rfl; refine R_take (T_decF rfl (by omega)) ?_ rfl rfl; refine R_p rfl ?_ rfl rfl; refine R_skip ?_ rfl rfl; refine R_skip ?_ rfl rfl; refine R_p rfl ?_ rfl rfl; refine R_nil ?_; refine S_false rfl rfl ?_; refine S_skip rfl ?_; refine RS_blk ?_; refine RS_blk ?_; refine S_region rfl rfl ?_; refine R_take (T_addN rfl rfl (by unfold fits; omega)) ?_ rfl rfl; refine R_p rfl ?_ rfl rfl; refine R_nil ?_)
          exact hJ (j + 1, u, t, (om, oo), ((A5, c5), K5, P5), ((A6, c6), K6, P6)) _ _ ⟨by show j + 1 ≤ _; omega, hu, by show t ≤ j + 1; omega, by show j + 1 ≤ 60; omega, hl5, hl6, by show Mt _ _ _ (P5.map emv) (P6.map emv); rw [hP5, hP6]; exact hM⟩ (Sub.cons rfl (Sub.cons rfl (Sub.cons rfl (Sub.cons rfl (Sub.cons rfl (Sub.cons rfl Sub.nil)))))) sub_st (by show Z.length - (j + 1) < _; omega)
        · skip
          refine S_draw ([pt b3 60 (arrW u (lgc (0, 0) A5 K5 c5) (lgc (0, 0) A6 K6 c6)), pt b15 24 (atc p)]) sub_st (by kernel_rfl) rfl (by kernel_rfl) (by kernel_rfl : _ = 15) ?_
          refine D_take 0 rfl (pev_ok rfl) ?_ rfl rfl (by kernel_rfl) (by kernel_rfl)
          (refine D_take 1 rfl (T_subN rfl rfl (by omega) (by unfold fits; omega)) ?_ rfl rfl (by kernel_rfl) (by kernel_rfl))
          refine D_take 2 rfl (T_ixaM (sz := 3) (q := 1 - u) rfl rfl rfl rfl rfl rfl (by omega)) ?_ rfl rfl (by kernel_rfl) (by kernel_rfl)
          refine D_take 3 rfl (T_loads (ds := lgc (0, 0) A6 K6 c6) rfl rfl rfl rfl (arr_ot (s := 3) (x := lgc (0, 0) A5 K5 c5) (y := lgc (0, 0) A6 K6 c6) hu rfl rfl)) ?_ rfl rfl (by kernel_rfl) (by kernel_rfl)
          refine D_take 4 rfl (T_loads (ds := atc p) rfl rfl rfl rfl rfl) ?_ rfl rfl (by kernel_rfl) (by kernel_rfl)
          refine D_take 5 rfl (pev_ok rfl) ?_ rfl rfl (by kernel_rfl) (by kernel_rfl)
          refine D_node #[true, true, true, true, true, true, true, true, true, true, true, true, false, false, false] (fun x : Option Addr × Nat × Sh r × Nat => [(99, zi 6), (98, .int .u64 (last : Int)), (97, .agg (lgc b x.1 K9 x.2.1).toArray), (89, .tuple #[.agg (lgc b x.1 K9 x.2.1).toArray, .int .u64 (last : Int), zi 6]), (18, .pointer (some ⟨x.2.2.2, 0, none⟩)), (96, .tuple #[.agg (lgc b x.1 K9 x.2.1).toArray, .int .u64 (last : Int), zi 6]), (95, .slice A16 K7 c16), (94, .agg (atc p).toArray), (93, .agg (lgc (0, 0) A6 K6 c6).toArray), (8, .int .i64 (u : Int)), (3, .pointer (some ⟨b3, 0, none⟩)), (4, .int .u64 (t : Int)), (5, .pointer (some ⟨b5, 0, none⟩)), (33, .slice A Z.length c), (34, .int .i64 (Z.length : Int)), (35, .int .i64 (j : Int))]) (fun x : Option Addr × Nat × Sh r × Nat => [pt x.2.2.2 27 (lgc (0, 0) none 0 0), row 44 3 x.1 K9 x.2.1 (cellsL emc x.2.2.1.1), dtB 5 (x.2.2.1.1.map emd), pt b3 60 (arrW u (lgc (0, 0) A5 K5 c5) (lgc (0, 0) A6 K6 c6)), pt b5 61 (arrW u [.int .u64 (om : Int)] [.int .u64 (oo : Int)]), row 44 3 A5 K5 c5 (cellsL emc P5), dtB 5 (P5.map emd), row 44 3 A6 K6 c6 (cellsL emc P6), dtB 5 (P6.map emd), pt b15 24 (atc p), row 44 3 A16 K7 c16 (cellsL emc P16.1), dtB 5 (P16.1.map emd)]) (fun nd0 => ?_) (fun x => ?_)
          refine D_nodeR #[true, true, true, true, true, true, true, true, true, true, true, false, false, false, false] (fun x : Option Addr × Nat × Sh r => [(99, zi 6), (98, .int .u64 (last : Int)), (97, .agg (lgc b x.1 K9 x.2.1).toArray), (89, .tuple #[.agg (lgc b x.1 K9 x.2.1).toArray, .int .u64 (last : Int), zi 6]), (96, .tuple #[.agg (lgc b x.1 K9 x.2.1).toArray, .int .u64 (last : Int), zi 6]), (95, .slice A16 K7 c16), (94, .agg (atc p).toArray), (93, .agg (lgc (0, 0) A6 K6 c6).toArray), (8, .int .i64 (u : Int)), (3, .pointer (some ⟨b3, 0, none⟩)), (4, .int .u64 (t : Int)), (5, .pointer (some ⟨b5, 0, none⟩)), (33, .slice A Z.length c), (34, .int .i64 (Z.length : Int)), (35, .int .i64 (j : Int))]) (fun x : Option Addr × Nat × Sh r => [row 44 3 x.1 K9 x.2.1 (cellsL emc x.2.2.1), dtB 5 (x.2.2.1.map emd), pt b3 60 (arrW u (lgc (0, 0) A5 K5 c5) (lgc (0, 0) A6 K6 c6)), pt b5 61 (arrW u [.int .u64 (om : Int)] [.int .u64 (oo : Int)]), row 44 3 A5 K5 c5 (cellsL emc P5), dtB 5 (P5.map emd), row 44 3 A6 K6 c6 (cellsL emc P6), dtB 5 (P6.map emd), pt b15 24 (atc p), row 44 3 A16 K7 c16 (cellsL emc P16.1), dtB 5 (P16.1.map emd)]) (fun x => ?_) (fun nd1 => ?_)
          · skip
            obtain ⟨A18, c18, P18⟩ := x
            try dsimp only
            refine D_one 11 rfl (E_alloca rfl lg_zero) ?_ rfl rfl (by kernel_rfl)
            rintro _ _ ⟨b18, rfl, rfl⟩
            refine Nx_same sub_st ?_
            have h := nd0 (A18, c18, P18, b18)
            try dsimp only at h
            exact D_at h (by repeat first | exact Sub.nil | refine Sub.cons rfl ?_) sub_st (by kernel_rfl)
          refine D_nodeR #[true, true, true, true, true, true, false, false, false, false, false, true, false, false, false] (fun x : Nat => [(18, .pointer (some ⟨x, 0, none⟩)), (95, .slice A16 K7 c16), (94, .agg (atc p).toArray), (93, .agg (lgc (0, 0) A6 K6 c6).toArray), (8, .int .i64 (u : Int)), (3, .pointer (some ⟨b3, 0, none⟩)), (4, .int .u64 (t : Int)), (5, .pointer (some ⟨b5, 0, none⟩)), (33, .slice A Z.length c), (34, .int .i64 (Z.length : Int)), (35, .int .i64 (j : Int))]) (fun x : Nat => [pt x 27 (lgc (0, 0) none 0 0), pt b3 60 (arrW u (lgc (0, 0) A5 K5 c5) (lgc (0, 0) A6 K6 c6)), pt b5 61 (arrW u [.int .u64 (om : Int)] [.int .u64 (oo : Int)]), row 44 3 A5 K5 c5 (cellsL emc P5), dtB 5 (P5.map emd), row 44 3 A6 K6 c6 (cellsL emc P6), dtB 5 (P6.map emd), pt b15 24 (atc p), row 44 3 A16 K7 c16 (cellsL emc P16.1), dtB 5 (P16.1.map emd)]) (fun x => ?_) (fun nd2 => ?_)
          · skip
            revert x; intro b18
            try dsimp only
            refine D_one 6 rfl (E_hvG (f := 13) ⟨_, Try.func13, rfl, by kernel_rfl⟩ (fun w0 hS => splice_S w0 (0, 0) A6 c6 K6 P6 L6 hl6 hP6 ((Srd.row (A := A6) (n := K6) (c := c6)).rd w0 hS) ((SDt.own (e := 5) (D := P6.map emd) (by simp)).rd w0 hS) p A16 c16 K7 P16.1 es hl16 P16.2.1 ((Srd.row (A := A16) (n := K7) (c := c16)).rd w0 hS) ((SDt.own (e := 5) (D := P16.1.map emd) (by simp)).rd w0 hS) hc16 (by omega) (by omega) hk6 (em_txt P16.2.1 hestx) 6 last b r K9 hK9 hs) rfl rfl) ?_ rfl rfl (by kernel_rfl)
            rintro _ _ ⟨⟨⟨A18, c18⟩, P18⟩, rfl, _, rfl⟩; dsimp only [List.cons_append, List.nil_append]
            refine Nx_same sub_st ?_
            refine D_take 7 rfl (pev_ok rfl) ?_ rfl rfl (by kernel_rfl) (by kernel_rfl)
            refine D_take 8 rfl (pev_ok rfl) ?_ rfl rfl (by kernel_rfl) (by kernel_rfl)
            refine D_take 9 rfl (pev_ok rfl) ?_ rfl rfl (by kernel_rfl) (by kernel_rfl)
            refine D_take 10 rfl (pev_ok rfl) ?_ rfl rfl (by kernel_rfl) (by kernel_rfl)
            have h := nd0 (A18, c18, P18, b18)
            try dsimp only at h
            exact D_at h (by repeat first | exact Sub.nil | refine Sub.cons rfl ?_) sub_st (by kernel_rfl)
          refine D_nodeR #[true, true, true, true, true, true, false, false, false, false, false, false, false, false, false] (fun _ : Unit => [(95, .slice A16 K7 c16), (94, .agg (atc p).toArray), (93, .agg (lgc (0, 0) A6 K6 c6).toArray), (8, .int .i64 (u : Int)), (3, .pointer (some ⟨b3, 0, none⟩)), (4, .int .u64 (t : Int)), (5, .pointer (some ⟨b5, 0, none⟩)), (33, .slice A Z.length c), (34, .int .i64 (Z.length : Int)), (35, .int .i64 (j : Int))]) (fun _ : Unit => [pt b3 60 (arrW u (lgc (0, 0) A5 K5 c5) (lgc (0, 0) A6 K6 c6)), pt b5 61 (arrW u [.int .u64 (om : Int)] [.int .u64 (oo : Int)]), row 44 3 A5 K5 c5 (cellsL emc P5), dtB 5 (P5.map emd), row 44 3 A6 K6 c6 (cellsL emc P6), dtB 5 (P6.map emd), pt b15 24 (atc p), row 44 3 A16 K7 c16 (cellsL emc P16.1), dtB 5 (P16.1.map emd)]) (fun x => ?_) (fun nd3 => ?_)
          · skip
            obtain ⟨⟩ := x
            try dsimp only
            refine D_two 6 11 (by decide) rfl rfl (E_hvG (f := 13) ⟨_, Try.func13, rfl, by kernel_rfl⟩ (fun w0 hS => splice_S w0 (0, 0) A6 c6 K6 P6 L6 hl6 hP6 ((Srd.row (A := A6) (n := K6) (c := c6)).rd w0 hS) ((SDt.own (e := 5) (D := P6.map emd) (by simp)).rd w0 hS) p A16 c16 K7 P16.1 es hl16 P16.2.1 ((Srd.row (A := A16) (n := K7) (c := c16)).rd w0 hS) ((SDt.own (e := 5) (D := P16.1.map emd) (by simp)).rd w0 hS) hc16 (by omega) (by omega) hk6 (em_txt P16.2.1 hestx) 6 last b r K9 hK9 hs) rfl rfl) (E_alloca rfl lg_zero) ?_ ?_ rfl rfl rfl rfl (by kernel_rfl)
            · rintro _ _ ⟨⟨⟨A18, c18⟩, P18⟩, rfl, _, rfl⟩; dsimp only [List.cons_append, List.nil_append]
              refine Nx_same sub_st ?_
              refine D_take 7 rfl (pev_ok rfl) ?_ rfl rfl (by kernel_rfl) (by kernel_rfl)
              refine D_take 8 rfl (pev_ok rfl) ?_ rfl rfl (by kernel_rfl) (by kernel_rfl)
              refine D_take 9 rfl (pev_ok rfl) ?_ rfl rfl (by kernel_rfl) (by kernel_rfl)
              refine D_take 10 rfl (pev_ok rfl) ?_ rfl rfl (by kernel_rfl) (by kernel_rfl)
              have h := nd1 (A18, c18, P18)
              try dsimp only at h
              exact D_at h (by repeat first | exact Sub.nil | refine Sub.cons rfl ?_) sub_st (by kernel_rfl)
            · rintro _ _ ⟨b18, rfl, rfl⟩
              refine Nx_same sub_st ?_
              have h := nd2 (b18)
              try dsimp only at h
              exact D_at h (by repeat first | exact Sub.nil | refine Sub.cons rfl ?_) sub_st (by kernel_rfl)
          have h := nd3 ()
          try dsimp only at h
          exact D_at h (by repeat first | exact Sub.nil | refine Sub.cons rfl ?_) sub_st (by kernel_rfl)
          obtain ⟨A18, c18, P18, b18⟩ := x
          try dsimp only
          refine D_one 12 rfl (E_storew (cs := lgc (0, 0) none 0 0) (ds := lgc b A18 K9 c18) rfl rfl rfl rfl (lgc_one _ _ _ _) rfl) ?_ rfl rfl (by kernel_rfl)
          rintro _ _ rfl
          refine Nx_same sub_st ?_
          refine D_take 13 rfl (pev_ok rfl) ?_ rfl rfl (by kernel_rfl) (by kernel_rfl)
          refine D_take 14 rfl (pev_ok rfl) ?_ rfl rfl (by kernel_rfl) (by kernel_rfl)
          refine D_done ?_ (by kernel_rfl)
          skip
          focus (refine S_seq rfl ?_; refine S_region rfl rfl ?_; refine R_p rfl ?_ rfl rfl; refine R_take (T_decF rfl (by omega)) ?_ rfl rfl; refine R_nil ?_; refine S_false rfl rfl ?_; refine S_seq rfl ?_; refine S_region rfl rfl ?_; refine R_p rfl ?_ rfl rfl; refine R_take (T_decT rfl (by omega)) ?_ rfl rfl; refine R_p rfl ?_ rfl rfl; refine R_p rfl ?_ rfl rfl; refine R_take (T_decF rfl (by omega)) ?_ rfl rfl; refine R_p rfl ?_ rfl rfl; refine R_nil ?_; refine S_false rfl rfl ?_; refine S_skip rfl ?_; refine RS_blk ?_; refine RS_blk ?_; refine S_region rfl rfl ?_; refine R_take (T_addN rfl rfl (by unfold fits; omega)) ?_ rfl rfl; refine R_p rfl ?_ rfl rfl; refine R_nil ?_)
          exact hJ (j + 1, u, t, (om, oo), ((A5, c5), K5, P5), ((A6, c6), K6, P6)) _ _ ⟨by show j + 1 ≤ _; omega, hu, by show t ≤ j + 1; omega, by show j + 1 ≤ 60; omega, hl5, hl6, by show Mt _ _ _ (P5.map emv) (P6.map emv); rw [hP5, hP6]; exact hM⟩ (Sub.cons rfl (Sub.cons rfl (Sub.cons rfl (Sub.cons rfl (Sub.cons rfl (Sub.cons rfl Sub.nil)))))) sub_st (by show Z.length - (j + 1) < _; omega)
    by_cases huw : u = w
    · subst huw
      exact RS_sub (Sub.cons rfl (Sub.cons rfl (Sub.cons rfl (Sub.cons rfl (Sub.cons rfl (Sub.cons rfl (Sub.cons rfl (Sub.cons rfl (Sub.cons rfl (Sub.cons rfl Sub.nil)))))))))) (RS_mem sub_st (hround om oo A5 A6 c5 c6 K5 K6 P5 P6 hl5 hl6 hM))
    · rw [arr_swap hu hw huw, arr_swap hu hw huw]
      exact RS_sub (Sub.cons rfl (Sub.cons rfl (Sub.cons rfl (Sub.cons rfl (Sub.cons rfl (Sub.cons rfl (Sub.cons rfl (Sub.cons rfl (Sub.cons rfl (Sub.cons rfl Sub.nil)))))))))) (RS_mem sub_st (hround oo om A6 A5 c6 c5 K6 K5 P6 P5 hl6 hl5 hM.swap))
  · focus (refine S_seq rfl ?_; refine S_region rfl rfl ?_; refine R_take (T_decF rfl (by omega)) ?_ rfl rfl; refine R_nil ?_; refine S_seq rfl ?_; refine S_false rfl rfl ?_; refine S_exit rfl rfl ?_; refine S_seq rfl ?_)
    exact RS_sub (Sub.cons rfl Sub.nil) (RS_mem sub_st (hpost w b3 A5 A6 c5 c6 K5 K6 P5 P6 t om oo hw hl5 hl6 hM))
section
variable {H : Type} {enc : TypeId × Value → H} {W : World}
set_option maxRecDepth 100000 in
theorem op_tn {cs : List Value} (h : Op_ enc Try.prog W 63 cs) : ∃ x : Tn, cs = tnc x := by
  have c0 : Try.prog.cellsOf 63 = 5 := by kernel_rfl
  have c1 : Try.prog.cellsOf 3 = 1 := by kernel_rfl
  have c2 : Try.prog.cellsOf 22 = 1 := by kernel_rfl
  have c3 : Try.prog.cellsOf 5 = 1 := by kernel_rfl
  obtain ⟨hl, hf⟩ := h.struct Try.underlying63
  rw [c0] at hl
  have g0 : Op_ enc Try.prog W 3 ((cs.drop 0).take (Try.prog.cellsOf 3)) := hf 0 _ rfl
  have g1 : Op_ enc Try.prog W 3 ((cs.drop 1).take (Try.prog.cellsOf 3)) := hf 1 _ rfl
  have g2 : Op_ enc Try.prog W 3 ((cs.drop 2).take (Try.prog.cellsOf 3)) := hf 2 _ rfl
  have g3 : Op_ enc Try.prog W 22 ((cs.drop 3).take (Try.prog.cellsOf 22)) := hf 3 _ rfl
  have g4 : Op_ enc Try.prog W 5 ((cs.drop 4).take (Try.prog.cellsOf 5)) := hf 4 _ rfl
  rw [c1] at g0 g1 g2
  rw [c2] at g3
  rw [c3] at g4
  obtain ⟨i0, h0, _⟩ := Op_.int Try.underlying3 g0
  obtain ⟨i1, h1, _⟩ := Op_.int Try.underlying3 g1
  obtain ⟨i2, h2, _⟩ := Op_.int Try.underlying3 g2
  obtain ⟨i3, h3, hw3⟩ := Op_.int Try.underlying22 g3
  obtain ⟨i4, h4, hw4⟩ := Op_.int Try.underlying5 g4
  obtain ⟨i3, rfl, _⟩ := wf_u64 hw3
  obtain ⟨d, hd⟩ : ∃ d : UInt8, Value.int .u8 i4 = bv d := by
    have h5 := wf_u8 hw4
    refine ⟨UInt8.ofNat i4.toNat, ?_⟩
    show Value.int .u8 i4 = .int .u8 ((UInt8.ofNat i4.toNat).toNat : Int)
    rw [UInt8.toNat_ofNat']
    congr 1
    omega
  rw [hd] at h4
  refine ⟨(i0, i1, i2, i3, d), ?_⟩
  match cs, hl with
  | [u, v, w, x, y], _ =>
    simp at h0 h1 h2 h3 h4
    rw [h0, h1, h2, h3, h4]
    rfl
end
set_option maxRecDepth 100000 in
theorem open_tns {H : Type} {enc : TypeId × Value → H} {W : World} {r : Reach} {base : Nat} {v : Value} {d : DataW H} {p : List MemPlace} (hv : Value.okWide Try.prog W r base 59 v) (h : DataW.Trod enc Try.prog W 0 (fun _ => true) true 59 v d p) :
    ∃ (A : Option Addr) (c : Nat) (Z : List Tn), v = .slice A Z.length c ∧ Rd W All 5 A Z.length (cellsL tnc Z) ∧ Z.length ≤ maxLen := by
  obtain ⟨a0, len0, cap0, rfl⟩ := okWide_slice Try.underlying59 hv
  obtain ⟨A, n, c, xs, hcs, h1, h2, h3, h4⟩ := (Op_.of_trod h).slice Try.underlying59 (size := 5) (by kernel_rfl)
  simp [Value.cells] at hcs
  obtain ⟨rfl, rfl, rfl⟩ := hcs
  obtain ⟨Z, hZ, rfl, hall⟩ := rows_of (n := 0) (size := 5) (f := tnc) tnc_len (fun _ : Tn => True) _ _ h3.1 fun i hi => by
    obtain ⟨x, hx⟩ := op_tn (h4 i hi)
    exact ⟨x, hx, trivial⟩
  subst hZ
  exact ⟨_, _, Z, rfl, h3, by omega⟩
set_option maxRecDepth 100000 in
theorem LogMatches_open {H : Type} {enc : TypeId × Value → H} (W : World) {r : Reach} (base : Nat) (v0 : Value) {d0 : DataW H} {p0 : List MemPlace}
    (hv0 : Value.okWide Try.prog W r base 59 v0) (h0 : DataW.Trod enc Try.prog W 0 (fun _ => true) true 59 v0 d0 p0) :
    Calls Try.prog 6 #[v0] W fun e w' => e = .returned (.bool true) ∧ Kp All W w' := by
  obtain ⟨A, c, Z, rfl, g1, g2⟩ := open_tns hv0 h0
  exact (matches_any W A c Z g1 g2).pure12
end Go.Proofs.Ytkdpfnaaopimoaa
