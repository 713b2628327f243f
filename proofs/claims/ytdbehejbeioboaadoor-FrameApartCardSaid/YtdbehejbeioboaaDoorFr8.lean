/- Messages: entries and lists as bytes. -/
import Derived.Test.YtdbehejbeioboaaDoorFr7
import Derived.Test.YtdbehejbeioboaaDoorShZ
namespace Go.Proofs.YtdbehejbeioboaaDoor
open Go.RowKit
open Asn (pt row rb)
set_option linter.unusedVariables false
set_option linter.unusedSimpArgs false
--@use N

/-- an int's last byte -/
def kb (k : Int) : UInt8 := UInt8.ofNat (k % 256).toNat
theorem wrap_kb (k : Int) : Value.int .u8 (IntKind.u8.wrap k) = bv (kb k) := by
  unfold kb
  rw [bv_ofNat, IntKind.wrap_u8]
  congr 1
  omega
section
variable {n : Nat} {w0 : World} {M : Nat → Prop} {T : Slots} {H Hr : List Asn} {dd : Option Tmp} {tt : TypeId} {pos : String} {af : Array Edge} {g : Option (Nat × Bool)} {x y : Operand} {ts : Array TypeId}
theorem T_cvb {P : Program} [HasTab P] {s t : TypeId} {kk : IntKind} {z : Int} {i j : Ti} (hx : oget T x = some (.int kk z)) (hs : ty P s = some i) (ht : ty P t = some j) (hj : j.desc = .int .u8) :
    Tk P n w0 M T H ⟨dd, .convert s t x, tt, pos, af, g⟩ (bv (kb z)) := by
  rw [← wrap_kb]
  exact T_conv hx hs ht hj
/-- a literal of bytes -/
theorem E_litB {P : Program} [HasTab P] {s e : TypeId} {m : Nat} {parts : Array (Nat × Operand)} {l : List UInt8} {i ei : Ti} (hv : ogets T (parts.toList.map (·.2)) = some (l.map bv)) (hp : parts.toList.map (·.1) = List.range m) (hs : ty P s = some i) (hi : i.desc = .slice e) (he : ty P e = some ei) (hei : ei = ⟨.int .u8, .int .u8 0, 1, 1, []⟩) (hm : m ≤ 1000) :
    Ef P n w0 M T H ⟨dd, .buildSlice s m parts, tt, pos, af, g⟩ (fun u H' => ∃ A c, u = .slice A m c ∧ H' = row e 1 A m c (l.map bv) :: H) := by
  subst hei
  have hl : l.length = m := by
    have h1 : ∀ (l1 : List Operand) (l2 : List Value), ogets T l1 = some l2 → l1.length = l2.length := by
      intro l1
      induction l1 with
      | nil => intro l2 h; simp [ogets] at h; subst h; rfl
      | cons a l1 ih =>
        intro l2 h
        cases ha : oget T a with
        | none => simp [ogets, ha] at h
        | some v =>
          cases hb : ogets T l1 with
          | none => simp [ogets, ha, hb] at h
          | some vs =>
            simp [ogets, ha, hb] at h
            subst h
            simp [ih _ hb]
    have h2 := h1 _ _ hv
    have h3 := congrArg List.length hp
    simp at h2 h3
    omega
  refine (E_lit1 (vs := l.map bv) hv hp hs hi he rfl rfl (bv_one _) hm).mono ?_
  rintro u H' ⟨b, rfl, rfl⟩ w hS
  refine ⟨_, _, rfl, ⟨some ⟨b, 0, none⟩, m, rfl, rfl⟩, ?_⟩
  have h5 := St.rowOf (e := e) (size := 1) (g := b) (cs := l.map bv) (n := m) (m := m) hS Upd.here (Nat.le_refl _) (by unfold maxLen; omega) (by simp [hl])
  rw [List.take_of_length_le (by simp [hl])] at h5
  exact h5
theorem E_put16 {A : Option Addr} {m c : Nat} {l : List UInt8} {z : Int} {X : Nat} (hx : oget T x = some (.slice A m c)) (hy : oget T y = some (.int .u16 z)) [hz : NatOf z X] (h : Src w0 M H A m c l) (hn : m ≤ 281474976710000) (hX : X < 256 ^ 2) :
    Ef Tryd.prog n w0 M T H ⟨dd, .call ⟨.value (.func 75), #[x, y], ts⟩, tt, pos, af, g⟩ (fun u H' => ∃ A' c', u = .slice A' (m + 2) c' ∧ H' = row 5 1 A' (m + 2) c' ((l ++ be 2 X).map bv) :: H) := by
  rw [hz.is] at hy
  exact E_g1 ⟨_, Tryd.func75, rfl, by kernel_rfl⟩ (vs := [.slice A m c, .int .u16 (X : Int)]) (by simp [ogets, hx, hy]) fun w hS => put_16 w A m c l X All (h.bs w hS) hn hX
end
/-- an entry's bytes -/
def entB (e : En) : List UInt8 := be 8 e.1 ++ [kb e.2.1] ++ be 2 e.2.2.length ++ e.2.2
theorem entB_len (e : En) : (entB e).length = 11 + e.2.2.length := by simp [entB, be_len]; omega
set_option maxRecDepth 100000 in
set_option maxHeartbeats 4000000 in
theorem plain1_any (w : World) (A : Option Addr) (n c : Nat) (l : List UInt8) (hl : l.length = n) (hn : n ≤ 1000000) (hS0 : St w (owns [row 5 1 A n c (l.map bv)]) [row 5 1 A n c (l.map bv)] w) (m : Int) :
    Gives Tryd.prog 54 [.slice A n c, zv m] [row 5 1 A n c (l.map bv)] w (X := Option Addr × Nat) (fun y => .slice y.1 (n + 1) y.2) (fun _ => True) (fun y => [row 5 1 y.1 (n + 1) y.2 ((l ++ [kb m]).map bv)]) := by
  refine gives_S Tryd.func54 rfl Tryd.ntmps54 Tryd.results54 (by simp) hS0 (fun B hB => ?_)
  unfold zv
  focus (refine S_seq rfl ?_; refine S_region rfl rfl ?_; refine R_p rfl ?_ rfl rfl; refine R_nil (S_seq rfl (S_region rfl rfl ?_)); (iterate 2 refine R_p rfl ?_ rfl rfl); refine R_take (T_cvb rfl rfl rfl rfl) ?_ rfl rfl; (refine R_eff (E_litB (l := [kb m]) rfl rfl rfl rfl rfl rfl (by decide)) ?_ rfl rfl; rintro _ _ ⟨A1, c1, rfl, rfl⟩); (refine R_eff (E_appB (A := A) (m := n) (c := c) (bs := l) (nb := [kb m]) rfl rfl rfl rfl rfl rfl Src.row (by omega)) ?_ rfl rfl; rintro _ _ ⟨A2, c2, rfl, rfl⟩); refine R_p rfl ?_ rfl rfl; refine R_nil ?_)
  exact hB _ _ _ _ _ rfl rfl fun w' hS => ⟨(A2, c2), rfl, trivial, sub_st w' hS⟩
set_option maxRecDepth 100000 in
set_option maxHeartbeats 4000000 in
theorem entry_any (w : World) (A : Option Addr) (n c : Nat) (l : List UInt8) (hl : l.length = n) (hn : n ≤ 1000000) (hS0 : St w (owns [row 5 1 A n c (l.map bv)]) [row 5 1 A n c (l.map bv)] w) (t : Nat) (k : Int) (D : Option Addr) (cd : Nat) (d : List UInt8) (ht : t < 18446744073709551616) (hd : d.length ≤ 60000) (hD : Bs w (fun b => ¬ owns [row 5 1 A n c (l.map bv)] b) D d.length cd d) :
    Gives Tryd.prog 52 [.slice A n c, .agg (emc (t, k, D, cd, d)).toArray] [row 5 1 A n c (l.map bv)] w (X := Option Addr × Nat) (fun y => .slice y.1 (n + 8 + 1 + 2 + d.length) y.2) (fun _ => True) (fun y => [row 5 1 y.1 (n + 8 + 1 + 2 + d.length) y.2 ((l ++ entB (t, k, d)).map bv)]) := by
  refine gives_S Tryd.func52 rfl Tryd.ntmps52 Tryd.results52 (by simp) hS0 (fun B hB => ?_)
  have e0 : emc (t, k, D, cd, d) = [.int .u64 (t : Int), .int .i64 k, .slice D d.length cd] := rfl
  rw [e0]
  focus (refine S_seq rfl ?_; refine S_region rfl rfl ?_; (refine R_eff (E_boxa (cs := [.int .u64 (t : Int), .int .i64 k, .slice D d.length cd]) rfl) ?_ rfl rfl; rintro _ _ ⟨b3, rfl, rfl⟩); refine R_p rfl ?_ rfl rfl; refine R_nil ?_; refine S_seq rfl ?_)
  refine S_cut (X := Option Addr × Nat) (fun y => [(3, .pointer (some ⟨b3, 0, none⟩)), (0, .slice y.1 (n + 8 + 1) y.2)]) (fun y => [pt b3 46 [.int .u64 (t : Int), .int .i64 k, .slice D d.length cd], row 5 1 y.1 (n + 8 + 1) y.2 ((l ++ be 8 t ++ [kb k]).map bv)]) (fun _ => True) (fun J hJ => ?_) (fun y _ => ?_)
  · skip
    refine S_draw ([pt b3 46 [.int .u64 (t : Int), .int .i64 k, .slice D d.length cd]]) sub_st (by kernel_rfl) rfl (by kernel_rfl) (by kernel_rfl : _ = 10) ?_
    refine D_take 0 rfl (pev_ok rfl) ?_ rfl rfl (by kernel_rfl) (by kernel_rfl)
    refine D_take 1 rfl (pev_ok rfl) ?_ rfl rfl (by kernel_rfl) (by kernel_rfl)
    refine D_take 2 rfl (T_load rfl rfl rfl rfl) ?_ rfl rfl (by kernel_rfl) (by kernel_rfl)
    refine D_take 4 rfl (pev_ok rfl) ?_ rfl rfl (by kernel_rfl) (by kernel_rfl)
    refine D_take 5 rfl (T_load rfl rfl rfl rfl) ?_ rfl rfl (by kernel_rfl) (by kernel_rfl)
    refine D_take 6 rfl (T_cvb rfl rfl rfl rfl) ?_ rfl rfl (by kernel_rfl) (by kernel_rfl)
    refine D_two 3 7 (by decide) rfl rfl (E_put64 (A := A) (m := n) (c := c) (l := l) (X := t) rfl rfl Src.row (by omega) ht) (E_litB (l := [kb k]) rfl rfl rfl rfl rfl rfl (by decide)) ?_ ?_ rfl rfl rfl rfl (by kernel_rfl)
    · rintro _ _ ⟨A1, c1, rfl, rfl⟩
      refine Nx_same sub_st ?_
      refine D_one 7 rfl (E_litB (l := [kb k]) rfl rfl rfl rfl rfl rfl (by decide)) ?_ rfl rfl (by kernel_rfl)
      rintro _ _ ⟨A2, c2, rfl, rfl⟩
      refine Nx_same sub_st ?_
      refine D_one 8 rfl (E_appB (A := A1) (m := n + 8) (c := c1) (bs := l ++ be 8 t) (nb := [kb k]) rfl rfl rfl rfl rfl rfl Src.row (by omega)) ?_ rfl rfl (by kernel_rfl)
      rintro _ _ ⟨A3, c3, rfl, rfl⟩
      refine Nx_same sub_st ?_
      refine D_take 9 rfl (pev_ok rfl) ?_ rfl rfl (by kernel_rfl) (by kernel_rfl)
      refine D_done ?_ (by kernel_rfl)
      exact hJ (A3, c3) _ _ trivial (Sub.cons rfl (Sub.cons rfl Sub.nil)) sub_st
    · rintro _ _ ⟨A2, c2, rfl, rfl⟩
      refine Nx_same sub_st ?_
      refine D_one 3 rfl (E_put64 (A := A) (m := n) (c := c) (l := l) (X := t) rfl rfl Src.row (by omega) ht) ?_ rfl rfl (by kernel_rfl)
      rintro _ _ ⟨A1, c1, rfl, rfl⟩
      refine Nx_same sub_st ?_
      refine D_one 8 rfl (E_appB (A := A1) (m := n + 8) (c := c1) (bs := l ++ be 8 t) (nb := [kb k]) rfl rfl rfl rfl rfl rfl Src.row (by omega)) ?_ rfl rfl (by kernel_rfl)
      rintro _ _ ⟨A3, c3, rfl, rfl⟩
      refine Nx_same sub_st ?_
      refine D_take 9 rfl (pev_ok rfl) ?_ rfl rfl (by kernel_rfl) (by kernel_rfl)
      refine D_done ?_ (by kernel_rfl)
      exact hJ (A3, c3) _ _ trivial (Sub.cons rfl (Sub.cons rfl Sub.nil)) sub_st
  obtain ⟨A3, c3⟩ := y
  focus (refine S_seq rfl ?_)
  refine S_draw ([pt b3 46 [.int .u64 (t : Int), .int .i64 k, .slice D d.length cd]]) sub_st (by kernel_rfl) rfl (by kernel_rfl) (by kernel_rfl : _ = 10) ?_
  refine D_take 0 rfl (pev_ok rfl) ?_ rfl rfl (by kernel_rfl) (by kernel_rfl)
  refine D_take 1 rfl (pev_ok rfl) ?_ rfl rfl (by kernel_rfl) (by kernel_rfl)
  refine D_take 2 rfl (T_load rfl rfl rfl rfl) ?_ rfl rfl (by kernel_rfl) (by kernel_rfl)
  refine D_take 3 rfl (pev_ok rfl) ?_ rfl rfl (by kernel_rfl) (by kernel_rfl)
  (refine D_take 4 rfl (T_cvE (kd := .u16) (r := d.length) (by rw [IntKind.wrap_u16]; omega) rfl rfl rfl rfl) ?_ rfl rfl (by kernel_rfl) (by kernel_rfl))
  refine D_take 6 rfl (pev_ok rfl) ?_ rfl rfl (by kernel_rfl) (by kernel_rfl)
  refine D_take 7 rfl (T_load rfl rfl rfl rfl) ?_ rfl rfl (by kernel_rfl) (by kernel_rfl)
  refine D_one 5 rfl (E_put16 (A := A3) (m := n + 8 + 1) (c := c3) (l := l ++ be 8 t ++ [kb k]) (X := d.length) rfl rfl Src.row (by omega) (by omega)) ?_ rfl rfl (by kernel_rfl)
  rintro _ _ ⟨A4, c4, rfl, rfl⟩
  refine Nx_same sub_st ?_
  refine D_one 8 rfl (E_appB (A := A4) (m := n + 8 + 1 + 2) (c := c4) (bs := l ++ be 8 t ++ [kb k] ++ be 2 d.length) (nb := d) rfl rfl rfl rfl rfl rfl (Src.old hD (fun b hb => hb)) (by omega)) ?_ rfl rfl (by kernel_rfl)
  rintro _ _ ⟨A5, c5, rfl, rfl⟩
  refine Nx_same sub_st ?_
  refine D_take 9 rfl (pev_ok rfl) ?_ rfl rfl (by kernel_rfl) (by kernel_rfl)
  refine D_done ?_ (by kernel_rfl)
  skip
  skip
  have he : l ++ be 8 t ++ [kb k] ++ be 2 d.length ++ d = l ++ entB (t, k, d) := by simp [entB]
  rw [he]
  exact hB _ _ _ _ _ rfl rfl fun w' hS => ⟨(A5, c5), rfl, trivial, sub_st w' hS⟩
theorem owns_cons {A : Asn} {H : List Asn} {k : Nat} (h : owns [A] k) : owns (A :: H) k := by
  obtain ⟨B, hB, ho⟩ := h
  exact ⟨B, by rw [List.mem_singleton.1 hB]; exact List.mem_cons_self .., ho⟩
theorem rd_in {w w' : World} {M F : Nat → Prop} {H : List Asn} {sz n : Nat} {A : Option Addr} {xs : List Value} (h : Rd w F sz A n xs) (hz : 0 < sz) (hS : St w M H w') (hF : ∀ k, F k → ¬ M k) : Rd w' (fun k => ¬ owns H k) sz A n xs :=
  ⟨h.1, fun hn => by
    obtain ⟨ad, e, hb, hc⟩ := h.2 hn
    have hl : 0 < xs.length := by rw [h.1]; exact Nat.mul_pos hn hz
    have hlt := World.block_lt_of_cell? w _ (hc 0 xs[0] (List.getElem?_eq_getElem hl))
    rw [block_of_add] at hlt
    refine ⟨ad, e, fun ⟨B, hB, ho⟩ => ?_, fun j u hu => hS.kp.cell (by rw [block_of_add]; exact hF _ hb) (hc j u hu)⟩
    rcases ((hS.all B hB).2 _ ho).1 with h1 | h1
    · exact hF _ hb h1
    · omega⟩
theorem bs_in {w w' : World} {M F : Nat → Prop} {H : List Asn} {n c : Nat} {A : Option Addr} {l : List UInt8} (h : Bs w F A n c l) (hS : St w M H w') (hF : ∀ k, F k → ¬ M k) : Bs w' (fun k => ¬ owns H k) A n c l := ⟨h.len, h.cap, h.capm, rd_in h.rd (by decide) hS hF⟩
set_option maxRecDepth 100000 in
set_option maxHeartbeats 4000000 in
theorem puti_any (w : World) (A : Option Addr) (n c : Nat) (l : List UInt8) (hl : l.length = n) (hn : n ≤ 900000) (hS0 : St w (owns [row 5 1 A n c (l.map bv)]) [row 5 1 A n c (l.map bv)] w) (cA : Option Addr) (cn cc : Nat) (ms : List Int) (hm : ms.length = cn) (hcn : cn ≤ 1000) (hr : Rd w (fun b => ¬ owns [row 5 1 A n c (l.map bv)] b) 1 cA cn (ms.map zv)) :
    Gives Tryd.prog 53 [.slice A n c, .slice cA cn cc, .func (.func 54) #[] #[]] [row 5 1 A n c (l.map bv)] w (X := Option Addr × Nat) (fun y => .slice y.1 (n + cn) y.2) (fun _ => True) (fun y => [row 5 1 y.1 (n + cn) y.2 ((l ++ ms.map kb).map bv)]) := by
  refine gives_S Tryd.func53 rfl Tryd.ntmps53 Tryd.results53 (by simp) hS0 (fun B hB => ?_)
  have hnc : 0 < cn → cA ≠ none := fun h0 => by obtain ⟨ad, e, _⟩ := hr.2 h0; rw [e]; simp
  focus (refine S_seq rfl ?_; refine S_region rfl rfl ?_; refine R_p rfl ?_ rfl rfl; refine R_nil ?_; refine S_seq rfl ?_; refine S_seq rfl (S_region rfl rfl ?_); (iterate 3 refine R_p rfl ?_ rfl rfl); refine R_nil ?_; refine S_block rfl ?_)
  refine S_loop (X := Nat × (Option Addr × Nat)) (fun y => [(9, .slice cA cn cc), (10, .int .i64 (cn : Int)), (11, .int .i64 (y.1 : Int)), (2, .func (.func 54) #[] #[]), (0, .slice y.2.1 (n + y.1) y.2.2)]) (fun y => [row 5 1 y.2.1 (n + y.1) y.2.2 ((l ++ (ms.take y.1).map kb).map bv)]) (fun y => y.1 ≤ cn) (fun y => cn - y.1) rfl (0, (A, c)) (Nat.zero_le _) (Sub.cons rfl (Sub.cons rfl (Sub.cons rfl (Sub.cons rfl (Sub.cons rfl Sub.nil))))) (fun w' hS => ?_) ?_
  · have e : l ++ (ms.take 0).map kb = l := by simp
    show St _ _ [row 5 1 A (n + 0) c ((l ++ (ms.take 0).map kb).map bv)] w'
    rw [e]
    exact sub_st w' hS
  rintro ⟨j, A1, c1⟩ hj J hJ
  dsimp only at hj ⊢
  rcases Nat.lt_or_ge j cn with hjl | hjl
  · have hnc := hnc (by omega)
    have hat := zv_at (l := ms) (j := j) (by omega)
    have htk : ms.take (j + 1) = ms.take j ++ [ms.getD j 0] := by rw [List.take_succ_eq_append_getElem (by omega)]; simp [List.getD, show j < ms.length by omega]
    have hll : (l ++ (ms.take j).map kb).length = n + j := by simp; omega
    generalize ms.getD j 0 = m at hat htk
    have e2 : l ++ (ms.take (j + 1)).map kb = l ++ (ms.take j).map kb ++ [kb m] := by rw [htk]; simp
    generalize hL : l ++ (ms.take j).map kb = L at hll e2
    focus (refine S_seq rfl ?_; refine S_region rfl rfl ?_; refine R_take (T_decT rfl (by omega)) ?_ rfl rfl; refine R_nil ?_; refine S_seq rfl ?_; refine S_true rfl rfl ?_; refine S_skip rfl ?_; refine S_seq rfl ?_; refine S_block rfl ?_; refine S_seq rfl (S_region rfl rfl ?_); refine R_take (T_ix1 rfl rfl rfl rfl rfl rfl hnc hjl) ?_ rfl rfl; refine R_take (T_ldr (v := zv m) rfl rfl rfl (Srd.old hr (fun k hk => hk)) (by omega) hat) ?_ rfl rfl; refine R_p rfl ?_ rfl rfl; refine R_nil ?_; refine S_region rfl rfl ?_; (iterate 3 refine R_p rfl ?_ rfl rfl); (refine R_eff (E_cloA (cap := []) rfl (E_ht1 (f := 54) (A1 := row 5 1 A1 (n + j) c1 (L.map bv)) ⟨_, Tryd.func54, rfl, by kernel_rfl⟩ (fun w hS hS2 => plain1_any w A1 (n + j) c1 L hll (by omega) hS2 m) rfl rfl (fun _ => rfl))) ?_ rfl rfl; rintro _ _ ⟨⟨A2, c2⟩, rfl, _, rfl⟩); refine R_p rfl ?_ rfl rfl; refine R_nil ?_; refine RS_blk ?_; refine S_region rfl rfl ?_; refine R_take (T_addN rfl rfl (by unfold fits; omega)) ?_ rfl rfl; refine R_p rfl ?_ rfl rfl; refine R_nil ?_)
    refine hJ (j + 1, (A2, c2)) _ _ (by show j + 1 ≤ cn; omega) (Sub.cons rfl (Sub.cons rfl (Sub.cons rfl (Sub.cons rfl (Sub.cons rfl Sub.nil))))) (fun w' hS => ?_) (by show cn - (j + 1) < cn - j; omega)
    show St _ _ [row 5 1 A2 (n + j + 1) c2 ((l ++ (ms.take (j + 1)).map kb).map bv)] w'
    rw [e2]
    exact sub_st w' hS
  have hjn : cn = j := by omega
  subst hjn
  rw [← hm, List.take_length]
  rw [hm]
  focus (refine S_seq rfl ?_; refine S_region rfl rfl ?_; refine R_take (T_decF rfl (by omega)) ?_ rfl rfl; refine R_nil ?_; refine S_seq rfl ?_; refine S_false rfl rfl ?_; refine S_exit rfl rfl ?_; refine S_seq rfl (S_region rfl rfl ?_); (iterate 2 refine R_p rfl ?_ rfl rfl); refine R_nil ?_)
  exact hB _ _ _ _ _ rfl rfl fun w' hS => ⟨(A1, c1), rfl, trivial, sub_st w' hS⟩
set_option maxRecDepth 100000 in
set_option maxHeartbeats 4000000 in
theorem pute_any (w : World) (A : Option Addr) (n c : Nat) (l : List UInt8) (hl : l.length = n) (hn : n ≤ 900000) (hS0 : St w (owns [row 5 1 A n c (l.map bv)]) [row 5 1 A n c (l.map bv)] w) (eA : Option Addr) (k ec : Nat) (Q : List Em) (hk : Q.length = k) (hk8 : k ≤ 8) (hq : ∀ m ∈ Q, m.1 < 18446744073709551616 ∧ m.2.2.2.2.length ≤ 2000 ∧ Bs w (fun b => ¬ owns [row 5 1 A n c (l.map bv)] b) m.2.2.1 m.2.2.2.2.length m.2.2.2.1 m.2.2.2.2) (hr : Rd w (fun b => ¬ owns [row 5 1 A n c (l.map bv)] b) 3 eA k (cellsL emc Q)) :
    Gives Tryd.prog 51 [.slice A n c, .slice eA k ec, .func (.func 52) #[] #[]] [row 5 1 A n c (l.map bv)] w (X := Option Addr × Nat) (fun y => .slice y.1 (n + ((Q.map emv).flatMap entB).length) y.2) (fun _ => True) (fun y => [row 5 1 y.1 (n + ((Q.map emv).flatMap entB).length) y.2 ((l ++ (Q.map emv).flatMap entB).map bv)]) := by
  refine gives_S Tryd.func51 rfl Tryd.ntmps51 Tryd.results51 (by simp) hS0 (fun B hB => ?_)
  have hnc : 0 < k → eA ≠ none := fun h0 => by obtain ⟨ad, e, _⟩ := hr.2 h0; rw [e]; simp
  focus (refine S_seq rfl ?_; refine S_region rfl rfl ?_; refine R_p rfl ?_ rfl rfl; refine R_nil ?_; refine S_seq rfl ?_; refine S_seq rfl (S_region rfl rfl ?_); (iterate 3 refine R_p rfl ?_ rfl rfl); refine R_nil ?_; refine S_block rfl ?_)
  refine S_loop (X := Nat × Nat × (Option Addr × Nat)) (fun y => [(9, .slice eA k ec), (10, .int .i64 (k : Int)), (11, .int .i64 (y.1 : Int)), (2, .func (.func 52) #[] #[]), (0, .slice y.2.2.1 y.2.1 y.2.2.2)]) (fun y => [row 5 1 y.2.2.1 y.2.1 y.2.2.2 ((l ++ ((Q.take y.1).map emv).flatMap entB).map bv)]) (fun y => y.1 ≤ k ∧ y.2.1 = n + (((Q.take y.1).map emv).flatMap entB).length ∧ y.2.1 ≤ n + y.1 * 2011) (fun y => k - y.1) rfl (0, n, (A, c)) ⟨Nat.zero_le _, by simp, by show n ≤ n + 0 * 2011; omega⟩ (Sub.cons rfl (Sub.cons rfl (Sub.cons rfl (Sub.cons rfl (Sub.cons rfl Sub.nil))))) (fun w' hS => ?_) ?_
  · have e : l ++ ((Q.take 0).map emv).flatMap entB = l := by simp
    show St _ _ [row 5 1 A n c ((l ++ ((Q.take 0).map emv).flatMap entB).map bv)] w'
    rw [e]
    exact sub_st w' hS
  rintro ⟨j, N, A1, c1⟩ ⟨hj, hN, hN2⟩ J hJ
  dsimp only at hj hN hN2 ⊢
  rcases Nat.lt_or_ge j k with hjl | hjl
  · have hnc := hnc (by omega)
    have hat := cellsL_at (f := emc) emc_len Q default j (by omega)
    have htk := emv_take Q j (by omega) (rfl : Q.getD j default = Q.getD j default)
    have hmm := hq (Q.getD j default) (by simp [List.getD, show j < Q.length by omega])
    have hll : (l ++ ((Q.take j).map emv).flatMap entB).length = N := by rw [List.length_append, hl, hN]
    generalize Q.getD j default = m at hat htk hmm
    obtain ⟨t, ki, D, cd, d⟩ := m
    obtain ⟨ht, hdl, hD⟩ := hmm
    dsimp only at ht hdl hD
    have e2 : l ++ ((Q.take (j + 1)).map emv).flatMap entB = l ++ ((Q.take j).map emv).flatMap entB ++ entB (t, ki, d) := by rw [htk]; simp [emv]
    have e3 : (((Q.take (j + 1)).map emv).flatMap entB).length = (((Q.take j).map emv).flatMap entB).length + (11 + d.length) := by rw [htk, List.flatMap_append, List.length_append]; simp [emv, entB_len]
    generalize hL : l ++ ((Q.take j).map emv).flatMap entB = L at hll e2
    focus (refine S_seq rfl ?_; refine S_region rfl rfl ?_; refine R_take (T_decT rfl (by omega)) ?_ rfl rfl; refine R_nil ?_; refine S_seq rfl ?_; refine S_true rfl rfl ?_; refine S_skip rfl ?_; refine S_seq rfl ?_; refine S_block rfl ?_; refine S_seq rfl (S_region rfl rfl ?_); refine R_take (T_ixM (sz := 3) rfl rfl rfl rfl rfl rfl hnc hjl) ?_ rfl rfl; refine R_take (T_lda (ds := emc (t, ki, D, cd, d)) rfl rfl rfl (Srd.old hr (fun k hk => hk)) rfl (by omega) hat) ?_ rfl rfl; (refine R_eff (E_alloca rfl em_zero) ?_ rfl rfl; rintro _ _ ⟨b8, rfl, rfl⟩); (refine R_eff0 (E_storew (cs := emc (0, 0, none, 0, [])) (ds := emc (t, ki, D, cd, d)) rfl rfl rfl rfl (emc_one _) rfl) ?_ rfl; rintro _ _ rfl); refine R_nil ?_; refine S_region rfl rfl ?_; (iterate 2 refine R_p rfl ?_ rfl rfl); refine R_take (T_loads (ds := emc (t, ki, D, cd, d)) rfl rfl rfl rfl rfl) ?_ rfl rfl; (refine R_eff (E_cloA (cap := []) rfl (E_ht1 (f := 52) (A1 := row 5 1 A1 N c1 (L.map bv)) ⟨_, Tryd.func52, rfl, by kernel_rfl⟩ (fun w hS hS2 => entry_any w A1 N c1 L hll (by omega) hS2 t ki D cd d ht (by omega) ((bs_in hD hS (fun k hk => hk)).more fun k hk ho => hk (owns_cons ho))) rfl rfl (fun _ => rfl))) ?_ rfl rfl; rintro _ _ ⟨⟨A2, c2⟩, rfl, _, rfl⟩); refine R_p rfl ?_ rfl rfl; refine R_nil ?_; refine RS_blk ?_; refine S_region rfl rfl ?_; refine R_take (T_addN rfl rfl (by unfold fits; omega)) ?_ rfl rfl; refine R_p rfl ?_ rfl rfl; refine R_nil ?_)
    refine hJ (j + 1, N + 8 + 1 + 2 + d.length, (A2, c2)) _ _ ⟨by show j + 1 ≤ k; omega, by show N + 8 + 1 + 2 + d.length = n + (((Q.take (j + 1)).map emv).flatMap entB).length; omega, by show N + 8 + 1 + 2 + d.length ≤ n + (j + 1) * 2011; omega⟩ (Sub.cons rfl (Sub.cons rfl (Sub.cons rfl (Sub.cons rfl (Sub.cons rfl Sub.nil))))) (fun w' hS => ?_) (by show k - (j + 1) < k - j; omega)
    show St _ _ [row 5 1 A2 (N + 8 + 1 + 2 + d.length) c2 ((l ++ ((Q.take (j + 1)).map emv).flatMap entB).map bv)] w'
    rw [e2]
    exact sub_st w' hS
  have hjn : k = j := by omega
  subst hjn
  rw [← hk, List.take_length] at hN ⊢
  subst hN
  rw [hk]
  focus (refine S_seq rfl ?_; refine S_region rfl rfl ?_; refine R_take (T_decF rfl (by omega)) ?_ rfl rfl; refine R_nil ?_; refine S_seq rfl ?_; refine S_false rfl rfl ?_; refine S_exit rfl rfl ?_; refine S_seq rfl (S_region rfl rfl ?_); (iterate 2 refine R_p rfl ?_ rfl rfl); refine R_nil ?_)
  exact hB _ _ _ _ _ rfl rfl fun w' hS => ⟨(A1, c1), rfl, trivial, sub_st w' hS⟩
end Go.Proofs.YtdbehejbeioboaaDoor
