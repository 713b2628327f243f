/- Digests: what the functions of the layer reckon, in plain Lean; a word turned; a block drawn out. Digests: a block goes into the words. Digests: bytes filled up; a block; the digest of bytes. Digests: the digest of bytes. Digests: their texts. Digests: texts parsed. Digests: the document's texts. Digests: the document's words. Digests: the document's digest. Digests: the document's block. Digests: the document's digest. Digests: the document's digest of bytes. -/
import Derived.Test.YtdbehejbeioboaaDoorTab
import Derived.Test.YtdbehejbeioboaaDoorRk8
import Derived.Test.YtdbehejbeioboaaDoorOcZ
namespace Go.Proofs.YtdbehejbeioboaaDoor
open Go.RowKit
open Asn (pt row rb)
set_option linter.unusedVariables false
set_option linter.unusedSimpArgs false
--@use N

def turn (x : UInt32) (n : Nat) : UInt32 := shr32 x n ||| shl32 x (32 - n)
def mixW (x : UInt32) (ns : List Nat) : UInt32 := ns.foldl (fun o n => o ^^^ turn x n) 0
def iv (n : Nat) : Value := .int .i64 (n : Int)
theorem mixW_next (x : UInt32) (ns : List Nat) (j : Nat) (h : j < ns.length) : mixW x (ns.take (j + 1)) = mixW x (ns.take j) ^^^ turn x (ns.getD j 0) := by
  unfold mixW
  rw [List.take_succ_eq_append_getElem h, List.foldl_append]
  simp [h]

set_option maxRecDepth 100000 in
set_option maxHeartbeats 4000000 in
theorem mixed_any (w : World) (x : UInt32) (A : Option Addr) (n c : Nat) (ns : List Nat) (F : Nat → Prop) (h : Rd w F 1 A n (ns.map iv)) (hn : n ≤ 1000) (hb : ∀ k ∈ ns, k ≤ 32) :
    Gives Tryd.prog 78 [.int .u32 (x.toNat : Int), .slice A n c] [] w (X := Unit) (fun _ => .int .u32 ((mixW x ns).toNat : Int)) (fun _ => True) (fun _ => []) := by
  refine gives_S Tryd.func78 rfl Tryd.ntmps78 Tryd.results78 (by simp) (St.enter w) (fun B hB => ?_)
  have hl : ns.length = n := by have := h.1; simpa using this
  have hld : ∀ {j : Nat} {T : Slots} {H : List Asn} {dd : Option Tmp} {tt : TypeId} {pos : String} {af : Array Edge} {g : Option (Nat × Bool)} {x : Operand}, oget T x = some (.pointer (pa A j)) → j < n → Tk Tryd.prog 27 w (owns []) T H ⟨dd, .load 3 x, tt, pos, af, g⟩ (.int .i64 ((ns.getD j 0 : Nat) : Int)) := fun {j T H dd tt pos af g x} hx hj => T_loado hx rfl rfl h (by simp [hl, hj, iv, List.getD]) fun k _ => noOwns k
  have hne : 0 < n → A ≠ none := fun h0 => by obtain ⟨ad, rfl, _⟩ := h.2 h0; simp
  focus (refine S_seq rfl ?_; refine S_region rfl rfl ?_; refine R_p rfl ?_ rfl rfl; refine R_nil (S_seq rfl (S_region rfl rfl ?_)); refine R_take (T_convf rfl rfl rfl rfl (by unfold fits; omega)) ?_ rfl rfl; refine R_p rfl ?_ rfl rfl; refine R_nil ?_; refine S_seq rfl ?_; refine S_seq rfl (S_region rfl rfl ?_); (iterate 3 refine R_p rfl ?_ rfl rfl); refine R_nil ?_; refine S_block rfl ?_)
  refine S_loop (X := Nat) (fun j => [(0, .int .u32 (x.toNat : Int)), (5, .int .u32 ((mixW x (ns.take j)).toNat : Int)), (9, .slice A n c), (10, .int .i64 (n : Int)), (11, .int .i64 (j : Int))]) (fun _ => _) (fun j => j ≤ n) (fun j => n - j) rfl 0 (Nat.zero_le _) (Sub.cons rfl (Sub.cons rfl (Sub.cons rfl (Sub.cons rfl (Sub.cons rfl Sub.nil))))) (fun _ h => h) ?_
  intro j hj J hJ
  have hk : ns.getD j 0 ≤ 32 := by
    rcases Nat.lt_or_ge j n with h0 | h0
    · exact hb _ (by simp [List.getD, hl, h0])
    · simp [List.getD, List.getElem?_eq_none (show ns.length ≤ j by omega)]
  focus (refine S_seq rfl ?_; refine S_region rfl rfl ?_; refine R_p rfl ?_ rfl rfl; refine R_nil ?_; refine S_seq rfl ?_; (refine S_if rfl rfl (fun hs => ?_) (fun hs => ?_)); refine S_skip rfl ?_; refine S_seq rfl ?_; refine S_block rfl ?_; refine S_seq rfl (S_region rfl rfl ?_); refine R_take (T_ixN rfl rfl rfl rfl rfl rfl (by first | assumption | exact hne (by omega) | exact hne2 (by omega)) (by omega)) ?_ rfl rfl; refine R_take (hld rfl (by omega)) ?_ rfl rfl; refine R_p rfl ?_ rfl rfl; refine R_nil ?_; (refine S_draw _ (fun _ h => h) (by kernel_rfl) rfl (by kernel_rfl) (rfl : _ = 11) ?_; (refine D_take 0 rfl (pev_ok rfl) ?_ rfl rfl (by kernel_rfl) (by kernel_rfl)); (refine D_take 1 rfl (pev_ok rfl) ?_ rfl rfl (by kernel_rfl) (by kernel_rfl)); (refine D_take 2 rfl (pev_ok rfl) ?_ rfl rfl (by kernel_rfl) (by kernel_rfl)); (refine D_take 3 rfl (T_wshr rfl rfl (by omega)) ?_ rfl rfl (by kernel_rfl) (by kernel_rfl)); (refine D_take 4 rfl (pev_ok rfl) ?_ rfl rfl (by kernel_rfl) (by kernel_rfl)); (refine D_take 5 rfl (pev_ok rfl) ?_ rfl rfl (by kernel_rfl) (by kernel_rfl)); ((refine D_take 6 rfl (T_subN rfl rfl (by omega) (by unfold fits; omega)) ?_ rfl rfl (by kernel_rfl) (by kernel_rfl))); (refine D_take 7 rfl (T_wshl rfl rfl (by omega)) ?_ rfl rfl (by kernel_rfl) (by kernel_rfl)); (refine D_take 8 rfl (T_w32 rfl rfl rfl) ?_ rfl rfl (by kernel_rfl) (by kernel_rfl)); (refine D_take 9 rfl (T_w32 rfl rfl rfl) ?_ rfl rfl (by kernel_rfl) (by kernel_rfl)); (refine D_take 10 rfl (pev_ok rfl) ?_ rfl rfl (by kernel_rfl) (by kernel_rfl)); refine D_done ?_ (by kernel_rfl)); refine RS_blk ?_; refine S_region rfl rfl ?_; refine R_take (T_addN rfl rfl (by unfold fits; omega)) ?_ rfl rfl; refine R_p rfl ?_ rfl rfl; refine R_nil ?_; rotate_left; refine S_exit rfl rfl ?_; refine S_seq rfl (S_region rfl rfl ?_); (iterate 2 refine R_p rfl ?_ rfl rfl); refine R_nil ?_; rotate_left)
  · refine hJ (j + 1) _ _ (by omega) ?_ (fun _ h => h) (by omega)
    rw [mixW_next x ns j (by omega)]
    exact (Sub.cons rfl (Sub.cons rfl (Sub.cons rfl (Sub.cons rfl (Sub.cons rfl Sub.nil)))))
  · obtain rfl : j = n := by omega
    rw [List.take_of_length_le (by omega)]
    exact hB _ _ _ _ _ rfl rfl fun w' hS => ⟨(), rfl, trivial, hS⟩
section
variable {n : Nat} {w0 : World} {M : Nat → Prop} {T : Slots} {H Hr : List Asn} {dd : Option Tmp} {tt : TypeId} {pos : String} {af : Array Edge} {g : Option (Nat × Bool)} {x y : Operand} {ts : Array TypeId}
theorem E_mixed (ns : List Nat) {a : UInt32} {gb t m c : Nat} (hx : oget T x = some (.int .u32 (a.toNat : Int))) (hy : oget T y = some (.slice (some ⟨gb, 0, none⟩) m c)) [hm : Hat H gb t (ns.map iv)] (hl : ns.length = m) (hn : m ≤ 1000) (hb : ∀ k ∈ ns, k ≤ 32) :
    Ef Tryd.prog n w0 M T H ⟨dd, .call ⟨.value (.func 78), #[x, y], ts⟩, tt, pos, af, g⟩ (fun u H' => u = .int .u32 ((mixW a ns).toNat : Int) ∧ H' = H) := by
  refine (E_gv ⟨_, Tryd.func78, rfl, by kernel_rfl⟩ (vs := [.int .u32 (a.toNat : Int), .slice (some ⟨gb, 0, none⟩) m c]) (by simp [ogets, hx, hy]) fun w hS => mixed_any w a _ m c ns All ((Srd.pt (n := m) (size := 1) (by simp [hl]) (fun j v h => by simpa using h)).rd w hS) hn hb).mono ?_
  rintro v H' ⟨_, rfl, _, rfl⟩ w hS
  exact ⟨_, _, rfl, ⟨rfl, rfl⟩, hS⟩
/-- a word is read -/
theorem E_u32w {gb : Nat} {F : Nat → Prop} {l : List UInt8} (hx : oget T x = some (.pointer (some ⟨gb, 0, none⟩))) [h : HRd H gb F l 0 Hr] (hl : 4 ≤ l.length) :
    Ef Tryd.prog n w0 M T H ⟨dd, .call ⟨.value (.func 44), #[x], ts⟩, tt, pos, af, g⟩ (fun u H' => u = .int .u32 ((UInt32.ofNat (num (l.take 4))).toNat : Int) ∧ H' = rdr gb F (l.drop 4) 0 :: Hr) := by
  refine (E_u32 (l := l) (why := 0) hx).mono ?_
  rintro v H' ⟨t, l1, y1, hr, hn, rfl, rfl⟩ w hS
  have e1 : t = l.take 4 := by rw [hr.ht]; congr 1; unfold tookN; rw [if_pos (by omega)]; rfl
  have e2 : l1 = l.drop 4 := by rw [hr.hl]; congr 1; unfold tookN; rw [if_pos (by omega)]; rfl
  have e3 : y1 = 0 := by rw [hr.hw]; unfold whyN; rw [if_pos rfl, if_neg (by omega), if_neg (by omega)]
  subst e1 e2 e3
  refine ⟨_, _, rfl, ⟨?_, rfl⟩, hS⟩
  rw [show (UInt32.ofNat (num (List.take 4 l))).toNat = num (List.take 4 l) by rw [UInt32.toNat_ofNat', Nat.mod_eq_of_lt hn]]
end

/-! a block, drawn out -/
def nextW (l : List UInt8) (s : List UInt32) (t : Nat) : UInt32 :=
  if t < 16 then UInt32.ofNat (num ((l.drop (4 * t)).take 4))
  else s.getD (t - 16) 0 + s.getD (t - 7) 0 + (mixW (s.getD (t - 2) 0) [17, 19] ^^^ shr32 (s.getD (t - 2) 0) 10) + (mixW (s.getD (t - 15) 0) [7, 18] ^^^ shr32 (s.getD (t - 15) 0) 3)
def sched (l : List UInt8) : Nat → List UInt32
  | 0 => []
  | t + 1 => sched l t ++ [nextW l (sched l t) t]
theorem sched_len (l : List UInt8) (t : Nat) : (sched l t).length = t := by
  induction t with
  | zero => rfl
  | succ t ih => simp [sched, ih]
def cellsS (l : List UInt8) (t : Nat) : List Value := (sched l t).map w32 ++ List.replicate (64 - t) (w32 0)
theorem cellsS_get {l : List UInt8} {t j : Nat} (h : j < t) : (cellsS l t)[0 + j]? = some (.int .u32 (((sched l t).getD j 0).toNat : Int)) := by
  have := sched_len l t
  simp [cellsS, List.getElem?_append_left (show j < ((sched l t).map w32).length by simp [this]; omega), this, h, w32, List.getD]
theorem cellsS_len {l : List UInt8} {t : Nat} (h : t ≤ 64) : (cellsS l t).length = 64 := by
  simp [cellsS, sched_len]; omega
theorem cellsS_set {l : List UInt8} {t : Nat} {x : UInt32} (h : t < 64) (hx : x = nextW l (sched l t) t) : (cellsS l t).set (0 + t) (.int .u32 (x.toNat : Int)) = cellsS l (t + 1) := by
  have e : 64 - t = (64 - (t + 1)) + 1 := by omega
  have hl := sched_len l t
  unfold cellsS
  rw [e, List.replicate_succ, Nat.zero_add, List.set_append_right _ _ (by simp [hl]), List.length_map, hl, Nat.sub_self, sched, List.map_append, List.append_assoc, hx]
  rfl
theorem cellsS_0 (l : List UInt8) : cellsS l 0 = List.replicate 64 (.int .u32 0) := rfl
theorem z64_alloc : ti118.zero = .agg (List.replicate 64 (.int .u32 0)).toArray := by kernel_rfl
theorem cellsS_64 (l : List UInt8) : cellsS l 64 = (sched l 64).map w32 := by simp [cellsS]

set_option maxRecDepth 100000 in
set_option maxHeartbeats 4000000 in
theorem drawn_any (w : World) (l : List UInt8) (hl : l.length = 64) :
    Gives Tryd.prog 77 [.agg (l.map bv).toArray] [] w (X := Unit) (fun _ => .agg ((sched l 64).map w32).toArray) (fun _ => True) (fun _ => []) := by
  refine gives_C Tryd.func77 rfl Tryd.ntmps77 Tryd.results77 (by simp) (St.enter w) (fun B hB => ?_)
  focus (refine S_seq rfl ?_; refine S_region rfl rfl ?_; (refine R_eff (E_boxa rfl) ?_ rfl rfl; rintro _ _ ⟨b, rfl, rfl⟩); (refine R_eff (E_alloca rfl z64_alloc) ?_ rfl rfl; rintro _ _ ⟨b, rfl, rfl⟩); refine R_nil (S_seq rfl (S_region rfl rfl ?_)); refine R_take (T_slarr rfl rfl rfl rfl) ?_ rfl rfl; (refine R_eff (E_read (l := l) rfl (Src.pt hl (by decide) (by decide) (fun j v h => by simpa using h)) (by decide)) ?_ rfl rfl; rintro _ _ ⟨gb, F, rfl, rfl⟩); refine R_p rfl ?_ rfl rfl; refine R_nil ?_; refine S_seq rfl ?_; refine S_seq rfl (S_region rfl rfl ?_); refine R_p rfl ?_ rfl rfl; refine R_nil ?_; refine S_block rfl ?_)
  refine S_loop (X := Nat) (fun t => [(2, .pointer (some ⟨b, 0, none⟩)), (3, .pointer (some ⟨gb, 0, none⟩)), (9, .int .i64 (t : Int))]) (fun t => [rdr gb F (l.drop (4 * min t 16)) 0, pt b 118 (cellsS l t)]) (fun t => t ≤ 64) (fun t => 64 - t) rfl 0 (Nat.zero_le _) (Sub.cons rfl (Sub.cons rfl (Sub.cons rfl Sub.nil))) (by rw [cellsS_0, show List.drop (4 * min 0 16) l = l from rfl]; exact sub_st) ?_
  intro t ht J hJ
  have hlt : ¬ (t : Int) < 64 ∨ 4 ≤ (l.drop (4 * min t 16)).length ∨ ¬ (t : Int) < 16 := by rw [List.length_drop]; omega
  have hlt : (t : Int) < 16 → 4 ≤ (l.drop (4 * min t 16)).length := fun h => by rw [List.length_drop]; omega
  focus (refine S_seq rfl ?_; refine S_region rfl rfl ?_; refine R_p rfl ?_ rfl rfl; refine R_nil ?_; refine S_seq rfl ?_; (refine S_if rfl rfl (fun hs => ?_) (fun hs => ?_)); refine S_skip rfl ?_; refine S_seq rfl ?_; refine S_block rfl ?_; refine S_seq rfl (S_region rfl rfl ?_); (iterate 2 refine R_p rfl ?_ rfl rfl); refine R_nil ?_; refine S_seq rfl ?_; refine S_seq rfl (S_region rfl rfl ?_); (iterate 2 refine R_p rfl ?_ rfl rfl); refine R_nil ?_; (refine S_if rfl rfl (fun hs => ?_) (fun hs => ?_)); refine S_seq rfl (S_region rfl rfl ?_); (iterate 2 refine R_p rfl ?_ rfl rfl); rotate_left; refine S_skip rfl ?_; refine S_seq rfl ?_; (refine S_draw _ (fun _ h => h) (by kernel_rfl) rfl (by kernel_rfl) (rfl : _ = 10) ?_; (refine D_take 0 rfl (pev_ok rfl) ?_ rfl rfl (by kernel_rfl) (by kernel_rfl)); ((refine D_take 1 rfl (T_subN rfl rfl (by omega) (by unfold fits; omega)) ?_ rfl rfl (by kernel_rfl) (by kernel_rfl))); (refine D_take 2 rfl (T_ixaN rfl rfl rfl rfl rfl rfl (by omega)) ?_ rfl rfl (by kernel_rfl) (by kernel_rfl)); (refine D_take 3 rfl (T_load rfl rfl rfl (cellsS_get (j := t - 2) (by omega))) ?_ rfl rfl (by kernel_rfl) (by kernel_rfl)); (refine D_take 4 rfl (pev_ok rfl) ?_ rfl rfl (by kernel_rfl) (by kernel_rfl)); ((refine D_take 5 rfl (T_subN rfl rfl (by omega) (by unfold fits; omega)) ?_ rfl rfl (by kernel_rfl) (by kernel_rfl))); (refine D_take 6 rfl (T_ixaN rfl rfl rfl rfl rfl rfl (by omega)) ?_ rfl rfl (by kernel_rfl) (by kernel_rfl)); (refine D_take 7 rfl (T_load rfl rfl rfl (cellsS_get (j := t - 15) (by omega))) ?_ rfl rfl (by kernel_rfl) (by kernel_rfl)); (refine D_take 8 rfl (pev_ok rfl) ?_ rfl rfl (by kernel_rfl) (by kernel_rfl)); (refine D_take 9 rfl (pev_ok rfl) ?_ rfl rfl (by kernel_rfl) (by kernel_rfl)); refine D_done ?_ (by kernel_rfl)); rotate_left; refine S_exit rfl rfl ?_; refine S_seq rfl (S_region rfl rfl ?_); rotate_left)
  · have hlt := hlt hs
    focus ((refine R_eff (E_u32w rfl hlt) ?_ rfl rfl; rintro _ _ ⟨rfl, rfl⟩); refine R_take (T_ixaN rfl rfl rfl rfl rfl rfl (by omega)) ?_ rfl rfl; (refine R_eff0 (E_store1 rfl rfl rfl rfl rfl rfl (by rw [cellsS_len ht]; omega)) ?_ rfl; rintro _ _ rfl); refine R_nil ?_; refine S_exit rfl rfl ?_; refine S_region rfl rfl ?_; refine R_take (T_addN rfl rfl (by unfold fits; omega)) ?_ rfl rfl; refine R_p rfl ?_ rfl rfl; refine R_nil ?_)
    refine hJ (t + 1) _ _ (by omega) (Sub.cons rfl (Sub.cons rfl (Sub.cons rfl Sub.nil))) ?_ (by omega)
    rw [List.drop_drop, cellsS_set (by omega) (by unfold nextW; rw [if_pos (by omega), show min t 16 = t by omega])]
    rw [show 4 * min t 16 + 4 = 4 * min (t + 1) 16 by omega]
    exact sub_st
  · skip
    refine S_draw ([pt b 118 (cellsS l t)]) sub_st (by kernel_rfl) rfl (by kernel_rfl) (by kernel_rfl : _ = 26) ?_
    refine D_take 0 rfl (pev_ok rfl) ?_ rfl rfl (by kernel_rfl) (by kernel_rfl)
    refine D_take 1 rfl (pev_ok rfl) ?_ rfl rfl (by kernel_rfl) (by kernel_rfl)
    (refine D_take 2 rfl (T_subN rfl rfl (by omega) (by unfold fits; omega)) ?_ rfl rfl (by kernel_rfl) (by kernel_rfl))
    refine D_take 3 rfl (T_ixaN rfl rfl rfl rfl rfl rfl (by omega)) ?_ rfl rfl (by kernel_rfl) (by kernel_rfl)
    refine D_take 4 rfl (T_load rfl rfl rfl (cellsS_get (j := t - 16) (by omega))) ?_ rfl rfl (by kernel_rfl) (by kernel_rfl)
    refine D_take 5 rfl (pev_ok rfl) ?_ rfl rfl (by kernel_rfl) (by kernel_rfl)
    (refine D_take 6 rfl (T_subN rfl rfl (by omega) (by unfold fits; omega)) ?_ rfl rfl (by kernel_rfl) (by kernel_rfl))
    refine D_take 7 rfl (T_ixaN rfl rfl rfl rfl rfl rfl (by omega)) ?_ rfl rfl (by kernel_rfl) (by kernel_rfl)
    refine D_take 8 rfl (T_load rfl rfl rfl (cellsS_get (j := t - 7) (by omega))) ?_ rfl rfl (by kernel_rfl) (by kernel_rfl)
    refine D_take 9 rfl (T_w32 rfl rfl rfl) ?_ rfl rfl (by kernel_rfl) (by kernel_rfl)
    refine D_take 10 rfl (pev_ok rfl) ?_ rfl rfl (by kernel_rfl) (by kernel_rfl)
    refine D_take 13 rfl (pev_ok rfl) ?_ rfl rfl (by kernel_rfl) (by kernel_rfl)
    refine D_take 14 rfl (T_wshr (q := 10) rfl rfl (by decide)) ?_ rfl rfl (by kernel_rfl) (by kernel_rfl)
    refine D_take 17 rfl (pev_ok rfl) ?_ rfl rfl (by kernel_rfl) (by kernel_rfl)
    refine D_take 20 rfl (pev_ok rfl) ?_ rfl rfl (by kernel_rfl) (by kernel_rfl)
    refine D_take 21 rfl (T_wshr (q := 3) rfl rfl (by decide)) ?_ rfl rfl (by kernel_rfl) (by kernel_rfl)
    refine D_two 11 18 (by decide) rfl rfl (E_lit1 (vs := [iv 17, iv 19]) rfl rfl rfl rfl rfl rfl rfl (by simp [Value.oneCell', iv]) (by decide)) (E_lit1 (vs := [iv 7, iv 18]) rfl rfl rfl rfl rfl rfl rfl (by simp [Value.oneCell', iv]) (by decide)) ?_ ?_ rfl rfl rfl rfl (by kernel_rfl)
    · rintro _ _ ⟨bl1, rfl, rfl⟩
      refine Nx_same sub_st ?_
      refine D_two 12 18 (by decide) rfl rfl (E_mixed [17, 19] rfl rfl rfl (by decide) (by decide)) (E_lit1 (vs := [iv 7, iv 18]) rfl rfl rfl rfl rfl rfl rfl (by simp [Value.oneCell', iv]) (by decide)) ?_ ?_ rfl rfl rfl rfl (by kernel_rfl)
      · rintro _ _ ⟨rfl, rfl⟩
        refine Nx_same sub_st ?_
        refine D_take 15 rfl (T_w32 rfl rfl rfl) ?_ rfl rfl (by kernel_rfl) (by kernel_rfl)
        refine D_take 16 rfl (T_w32 rfl rfl rfl) ?_ rfl rfl (by kernel_rfl) (by kernel_rfl)
        refine D_one 18 rfl (E_lit1 (vs := [iv 7, iv 18]) rfl rfl rfl rfl rfl rfl rfl (by simp [Value.oneCell', iv]) (by decide)) ?_ rfl rfl (by kernel_rfl)
        rintro _ _ ⟨bl2, rfl, rfl⟩
        refine Nx_same sub_st ?_
        refine D_one 19 rfl (E_mixed [7, 18] rfl rfl rfl (by decide) (by decide)) ?_ rfl rfl (by kernel_rfl)
        rintro _ _ ⟨rfl, rfl⟩
        refine Nx_same sub_st ?_
        refine D_take 22 rfl (T_w32 rfl rfl rfl) ?_ rfl rfl (by kernel_rfl) (by kernel_rfl)
        refine D_take 23 rfl (T_w32 rfl rfl rfl) ?_ rfl rfl (by kernel_rfl) (by kernel_rfl)
        refine D_take 24 rfl (T_ixaN rfl rfl rfl rfl rfl rfl (by omega)) ?_ rfl rfl (by kernel_rfl) (by kernel_rfl)
        refine D_one 25 rfl (E_store1 rfl rfl rfl rfl rfl rfl (by rw [cellsS_len ht]; omega)) ?_ rfl rfl (by kernel_rfl)
        rintro _ _ rfl
        refine Nx_pivot (by kernel_rfl) ?_
        refine D_done ?_ (by kernel_rfl)
        (rw [cellsS_set (by omega) (by unfold nextW; rw [if_neg (by omega)])]; (focus (refine RS_blk ?_; refine S_region rfl rfl ?_; refine R_take (T_addN rfl rfl (by unfold fits; omega)) ?_ rfl rfl; refine R_p rfl ?_ rfl rfl; refine R_nil ?_)); refine hJ (t + 1) _ _ (by omega) (Sub.cons rfl (Sub.cons rfl (Sub.cons rfl Sub.nil))) ?_ (by omega); rw [show min (t + 1) 16 = min t 16 by omega]; exact sub_st)
      · rintro _ _ ⟨bl2, rfl, rfl⟩
        refine Nx_same sub_st ?_
        refine D_one 12 rfl (E_mixed [17, 19] rfl rfl rfl (by decide) (by decide)) ?_ rfl rfl (by kernel_rfl)
        rintro _ _ ⟨rfl, rfl⟩
        refine Nx_same sub_st ?_
        refine D_take 15 rfl (T_w32 rfl rfl rfl) ?_ rfl rfl (by kernel_rfl) (by kernel_rfl)
        refine D_take 16 rfl (T_w32 rfl rfl rfl) ?_ rfl rfl (by kernel_rfl) (by kernel_rfl)
        refine D_one 19 rfl (E_mixed [7, 18] rfl rfl rfl (by decide) (by decide)) ?_ rfl rfl (by kernel_rfl)
        rintro _ _ ⟨rfl, rfl⟩
        refine Nx_same sub_st ?_
        refine D_take 22 rfl (T_w32 rfl rfl rfl) ?_ rfl rfl (by kernel_rfl) (by kernel_rfl)
        refine D_take 23 rfl (T_w32 rfl rfl rfl) ?_ rfl rfl (by kernel_rfl) (by kernel_rfl)
        refine D_take 24 rfl (T_ixaN rfl rfl rfl rfl rfl rfl (by omega)) ?_ rfl rfl (by kernel_rfl) (by kernel_rfl)
        refine D_one 25 rfl (E_store1 rfl rfl rfl rfl rfl rfl (by rw [cellsS_len ht]; omega)) ?_ rfl rfl (by kernel_rfl)
        rintro _ _ rfl
        refine Nx_pivot (by kernel_rfl) ?_
        refine D_done ?_ (by kernel_rfl)
        (rw [cellsS_set (by omega) (by unfold nextW; rw [if_neg (by omega)])]; (focus (refine RS_blk ?_; refine S_region rfl rfl ?_; refine R_take (T_addN rfl rfl (by unfold fits; omega)) ?_ rfl rfl; refine R_p rfl ?_ rfl rfl; refine R_nil ?_)); refine hJ (t + 1) _ _ (by omega) (Sub.cons rfl (Sub.cons rfl (Sub.cons rfl Sub.nil))) ?_ (by omega); rw [show min (t + 1) 16 = min t 16 by omega]; exact sub_st)
    · rintro _ _ ⟨bl2, rfl, rfl⟩
      refine Nx_same sub_st ?_
      refine D_one 11 rfl (E_lit1 (vs := [iv 17, iv 19]) rfl rfl rfl rfl rfl rfl rfl (by simp [Value.oneCell', iv]) (by decide)) ?_ rfl rfl (by kernel_rfl)
      rintro _ _ ⟨bl1, rfl, rfl⟩
      refine Nx_same sub_st ?_
      refine D_one 12 rfl (E_mixed [17, 19] rfl rfl rfl (by decide) (by decide)) ?_ rfl rfl (by kernel_rfl)
      rintro _ _ ⟨rfl, rfl⟩
      refine Nx_same sub_st ?_
      refine D_take 15 rfl (T_w32 rfl rfl rfl) ?_ rfl rfl (by kernel_rfl) (by kernel_rfl)
      refine D_take 16 rfl (T_w32 rfl rfl rfl) ?_ rfl rfl (by kernel_rfl) (by kernel_rfl)
      refine D_one 19 rfl (E_mixed [7, 18] rfl rfl rfl (by decide) (by decide)) ?_ rfl rfl (by kernel_rfl)
      rintro _ _ ⟨rfl, rfl⟩
      refine Nx_same sub_st ?_
      refine D_take 22 rfl (T_w32 rfl rfl rfl) ?_ rfl rfl (by kernel_rfl) (by kernel_rfl)
      refine D_take 23 rfl (T_w32 rfl rfl rfl) ?_ rfl rfl (by kernel_rfl) (by kernel_rfl)
      refine D_take 24 rfl (T_ixaN rfl rfl rfl rfl rfl rfl (by omega)) ?_ rfl rfl (by kernel_rfl) (by kernel_rfl)
      refine D_one 25 rfl (E_store1 rfl rfl rfl rfl rfl rfl (by rw [cellsS_len ht]; omega)) ?_ rfl rfl (by kernel_rfl)
      rintro _ _ rfl
      refine Nx_pivot (by kernel_rfl) ?_
      refine D_done ?_ (by kernel_rfl)
      (rw [cellsS_set (by omega) (by unfold nextW; rw [if_neg (by omega)])]; (focus (refine RS_blk ?_; refine S_region rfl rfl ?_; refine R_take (T_addN rfl rfl (by unfold fits; omega)) ?_ rfl rfl; refine R_p rfl ?_ rfl rfl; refine R_nil ?_)); refine hJ (t + 1) _ _ (by omega) (Sub.cons rfl (Sub.cons rfl (Sub.cons rfl Sub.nil))) ?_ (by omega); rw [show min (t + 1) 16 = min t 16 by omega]; exact sub_st)
  · obtain rfl : t = 64 := by omega
    rw [cellsS_64]
    focus (refine R_take (T_loada (ds := (sched l 64).map w32) rfl rfl rfl (by simp [sched_len]; rfl) (fun j v h => by simpa using h)) ?_ rfl rfl; (refine R_eff0 (E_storew (cs := (sched l 64).map w32) rfl rfl rfl (by simp [sched_len]; rfl) (fun u hu => by obtain ⟨x, _, rfl⟩ := List.mem_map.1 hu; rfl) rfl) ?_ rfl; rintro _ _ rfl); refine R_nil ?_)
    exact hB _ _ _ _ _ rfl (.cell rfl rfl rfl inferInstance (by simp [sched_len]; rfl) .nil) fun w' hS => ⟨(), rfl, trivial, hS.sublist (List.nil_sublist _)⟩
end Go.Proofs.YtdbehejbeioboaaDoor

namespace Go.Proofs.YtdbehejbeioboaaDoor
open Go.RowKit
open Asn (pt row rb)
set_option linter.unusedVariables false
set_option linter.unusedSimpArgs false
--@use N

section
variable {P : Program} {n : Nat} {w0 : World} {M : Nat → Prop} {T : Slots} {H Hr : List Asn} {dd : Option Tmp} {tt : TypeId} {pos : String} {af : Array Edge} {g : Option (Nat × Bool)}
/-- arr[lo:], arr[:hi] -/
theorem T_slarrL [HasTab P] {x y : Operand} {s e : TypeId} {gb off m q : Nat} {z : Int} {kk : IntKind} {i ei : Ti} (hx : oget T x = some (.pointer (some ⟨gb, off, none⟩))) (hy : oget T y = some (.int kk z)) [hz : NatOf z q] (hs : ty P s = some i) (hi : i.desc = .array m e) (he : ty P e = some ei) (h1 : ei.size = 1) (hq : q < m) :
    Tk P n w0 M T H ⟨dd, .slice s x (some y) none none, tt, pos, af, g⟩ (.slice (some ⟨gb, off + q, none⟩) (m - q) (m - q)) := .mk fun a w ha hS => by
  rw [hz.is] at hy
  have hu := run_underlying (hi ▸ ty_ok hs) w
  have hle : q ≤ m := by omega
  have hne : ¬ m = q := by omega
  simp [execOp, ha.eval hx, ha.eval hy, Instr.sliceAt, hu, Instr.sureAddr, Instr.sliceBounds, Instr.sliceBound, asIntOf, ty_size he w, h1, hle, hne, add_plain]
theorem T_slarrH [HasTab P] {x y : Operand} {s e : TypeId} {gb off m q : Nat} {z : Int} {kk : IntKind} {i ei : Ti} (hx : oget T x = some (.pointer (some ⟨gb, off, none⟩))) (hy : oget T y = some (.int kk z)) [hz : NatOf z q] (hs : ty P s = some i) (hi : i.desc = .array m e) (he : ty P e = some ei) (hq : q ≤ m) :
    Tk P n w0 M T H ⟨dd, .slice s x none (some y) none, tt, pos, af, g⟩ (.slice (some ⟨gb, off, none⟩) q m) := .mk fun a w ha hS => by
  rw [hz.is] at hy
  have hu := run_underlying (hi ▸ ty_ok hs) w
  simp [execOp, ha.eval hx, ha.eval hy, Instr.sliceAt, hu, Instr.sureAddr, Instr.sliceBounds, Instr.sliceBound, asIntOf, ty_size he w, hq, Addr.add]
end
/-- n cells, the first j of them as f says, the others as g says -/
def pre (f g : Nat → Value) (n j : Nat) : List Value := (List.range n).map fun i => if i < j then f i else g i
theorem pre_len (f g : Nat → Value) (n j : Nat) : (pre f g n j).length = n := by simp [pre]
theorem pre_at {f g : Nat → Value} {n j i : Nat} (h : i < n) : (pre f g n j)[0 + i]? = some (if i < j then f i else g i) := by simp [pre, h]
theorem pre_next {f g : Nat → Value} {n j : Nat} (h : j < n) : (pre f g n j)[0 + j]? = some (g j) := by rw [pre_at h, if_neg (by omega)]
theorem pre_set {f g : Nat → Value} {n j : Nat} (h : j < n) : (pre f g n j).set (0 + j) (f j) = pre f g n (j + 1) := by
  apply List.ext_getElem?
  intro i
  rw [Nat.zero_add, List.getElem?_set]
  by_cases hi : i < n
  · simp only [pre, List.getElem?_map, List.getElem?_range hi, Option.map_some, List.length_map, List.length_range]
    by_cases hij : j = i
    · subst hij; rw [if_pos rfl, if_pos h, if_pos (by omega)]
    · rw [if_neg hij]
      by_cases h2 : i < j
      · rw [if_pos h2, if_pos (by omega)]
      · rw [if_neg h2, if_neg (by omega)]
  · have e1 : (pre f g n j)[i]? = none := List.getElem?_eq_none (by rw [pre_len]; omega)
    have e2 : (pre f g n (j + 1))[i]? = none := List.getElem?_eq_none (by rw [pre_len]; omega)
    rw [e1, e2]
    split
    · rename_i hij; subst hij; omega
    · rfl
theorem pre_0 (f g : Nat → Value) (n : Nat) : pre f g n 0 = (List.range n).map g := by simp [pre]
theorem pre_all (f g : Nat → Value) (n : Nat) : pre f g n n = (List.range n).map f := by
  apply List.map_congr_left
  intro i hi
  rw [if_pos (by simpa using hi)]
theorem map_range {α : Type} {l : List α} {n : Nat} (f : α → Value) (d : α) (h : l.length = n) : l.map f = (List.range n).map fun i => f (l.getD i d) := by
  apply List.ext_getElem (by simp [h])
  intro i h1 h2
  simp at h1
  simp [List.getD, h1]

theorem map_at {α : Type} (f : α → Value) (d : α) {l : List α} {j : Nat} (h : j < l.length) : (l.map f)[j]? = some (f (l.getD j d)) := by simp [List.getD, h]
theorem map_at0 {α : Type} (f : α → Value) (d : α) {l : List α} {j : Nat} (h : j < l.length) : (l.map f)[0 + j]? = some (f (l.getD j d)) := by rw [Nat.zero_add]; exact map_at f d h
/-- the constants -/
def rootsL : List UInt32 := [
  0x428a2f98, 0x71374491, 0xb5c0fbcf, 0xe9b5dba5, 0x3956c25b, 0x59f111f1, 0x923f82a4, 0xab1c5ed5,
  0xd807aa98, 0x12835b01, 0x243185be, 0x550c7dc3, 0x72be5d74, 0x80deb1fe, 0x9bdc06a7, 0xc19bf174,
  0xe49b69c1, 0xefbe4786, 0x0fc19dc6, 0x240ca1cc, 0x2de92c6f, 0x4a7484aa, 0x5cb0a9dc, 0x76f988da,
  0x983e5152, 0xa831c66d, 0xb00327c8, 0xbf597fc7, 0xc6e00bf3, 0xd5a79147, 0x06ca6351, 0x14292967,
  0x27b70a85, 0x2e1b2138, 0x4d2c6dfc, 0x53380d13, 0x650a7354, 0x766a0abb, 0x81c2c92e, 0x92722c85,
  0xa2bfe8a1, 0xa81a664b, 0xc24b8b70, 0xc76c51a3, 0xd192e819, 0xd6990624, 0xf40e3585, 0x106aa070,
  0x19a4c116, 0x1e376c08, 0x2748774c, 0x34b0bcb5, 0x391c0cb3, 0x4ed8aa4a, 0x5b9cca4f, 0x682e6ff3,
  0x748f82ee, 0x78a5636f, 0x84c87814, 0x8cc70208, 0x90befffa, 0xa4506ceb, 0xbef9a3f7, 0xc67178f2]
theorem roots_len : rootsL.length = 64 := rfl
/-- the variable that holds them lies in block 0 -/
def Roots (w : World) : Prop := Rd w (fun k => k = 0) 1 (some ⟨0, 0, none⟩) 64 (rootsL.map w32)
theorem Roots.kp {w w' : World} {F : Nat → Prop} (h : Roots w) (hk : Kp F w w') (hF : F 0) : Roots w' := Rd.keep h (hk.mono fun k hk _ => hk ▸ hF)
theorem Roots.size {w : World} (h : Roots w) : 0 < w.heap.size := by
  obtain ⟨ad, e, hb, hc⟩ := h.2 (by decide)
  have := World.block_lt_of_cell? w _ (hc 0 _ (by simp [rootsL]; rfl))
  rw [block_of_add, hb] at this
  exact this

/-- one round -/
def rnd (l : List UInt32) (k w : UInt32) : List UInt32 :=
  match l with
  | [a, b, c, d, e, f, g, h] =>
    let x := h + mixW e [6, 11, 25] + (g ^^^ (e &&& (f ^^^ g))) + k + w
    let y := mixW a [2, 13, 22] + (a &&& b ||| c &&& (a ||| b))
    [x + y, a, b, c, d + x, e, f, g]
  | l => l
def rounds (ks ws : List UInt32) (h : List UInt32) : Nat → List UInt32
  | 0 => h
  | t + 1 => rnd (rounds ks ws h t) (ks.getD t 0) (ws.getD t 0)
theorem eight {α : Type} {l : List α} (h : l.length = 8) : ∃ a b c d e f g i, l = [a, b, c, d, e, f, g, i] := by
  match l, h with
  | [a, b, c, d, e, f, g, i], _ => exact ⟨a, b, c, d, e, f, g, i, rfl⟩
theorem rnd_len {l : List UInt32} (h : l.length = 8) (k w : UInt32) : (rnd l k w).length = 8 := by
  obtain ⟨a, b, c, d, e, f, g, i, rfl⟩ := eight h
  rfl
theorem rounds_len {ks ws h : List UInt32} (hl : h.length = 8) (t : Nat) : (rounds ks ws h t).length = 8 := by
  induction t with
  | zero => exact hl
  | succ t ih => exact rnd_len ih _ _
/-- what words come to by a block -/
def blockW (h : List UInt32) (b : List UInt8) : List UInt32 := (List.range 8).map fun i => h.getD i 0 + (rounds rootsL (sched b 64) h 64).getD i 0
theorem blockW_len (h : List UInt32) (b : List UInt8) : (blockW h b).length = 8 := by simp [blockW]
theorem w32_ones (l : List UInt32) : ∀ u ∈ l.map w32, u.oneCell' = true := fun u hu => by obtain ⟨x, _, rfl⟩ := List.mem_map.1 hu; rfl
theorem z8_alloc : ti86.zero = .agg (List.replicate 8 (.int .u32 0)).toArray := by kernel_rfl

section
variable {n : Nat} {w0 : World} {M : Nat → Prop} {T : Slots} {H Hr : List Asn} {dd : Option Tmp} {tt : TypeId} {pos : String} {af : Array Edge} {g : Option (Nat × Bool)} {x y : Operand} {ts : Array TypeId}
theorem E_drawn {l : List UInt8} (hx : oget T x = some (.agg (l.map bv).toArray)) (hl : l.length = 64) :
    Ef Tryd.prog n w0 M T H ⟨dd, .call ⟨.value (.func 77), #[x], ts⟩, tt, pos, af, g⟩ (fun u H' => u = .agg ((sched l 64).map w32).toArray ∧ H' = H) := by
  refine (E_gv ⟨_, Tryd.func77, rfl, by kernel_rfl⟩ (vs := [.agg (l.map bv).toArray]) (by simp [ogets, hx]) fun w hS => drawn_any w l hl).mono ?_
  rintro v H' ⟨_, rfl, _, rfl⟩ w hS
  exact ⟨_, _, rfl, ⟨rfl, rfl⟩, hS⟩
end

theorem pre7 {r0 r1 r2 r3 r4 r5 r6 r7 : UInt32} {j : Nat} {v : Value} (h : ([r0, r1, r2, r3, r4, r5, r6].map w32)[j]? = some v) : ([r0, r1, r2, r3, r4, r5, r6, r7].map w32)[0 + j]? = some v := by
  have hj : j < ([r0, r1, r2, r3, r4, r5, r6].map w32).length := (List.getElem?_eq_some_iff.1 h).1
  rw [show [r0, r1, r2, r3, r4, r5, r6, r7] = [r0, r1, r2, r3, r4, r5, r6] ++ [r7] from rfl, List.map_append, Nat.zero_add, List.getElem?_append_left hj]
  exact h
set_option maxRecDepth 100000 in
set_option maxHeartbeats 4000000 in
theorem into_any (w : World) (gb : Nat) (h : List UInt32) (lh : h.length = 8) (l : List UInt8) (hl : l.length = 64) (hr : Roots w) (hg : gb ≠ 0) (hS : St w (owns [pt gb 91 (h.map w32)]) [pt gb 91 (h.map w32)] w) :
    Gives Tryd.prog 57 [.pointer (some ⟨gb, 0, none⟩), .agg (l.map bv).toArray] [pt gb 91 (h.map w32)] w (X := Unit) (fun _ => .tuple #[]) (fun _ => True) (fun _ => [pt gb 91 ((blockW h l).map w32)]) := by
  refine gives_N Tryd.func57 rfl Tryd.ntmps57 Tryd.results57 (by simp) hS (fun B hB => ?_)
  have lh2 : (h.map w32).length = 8 := by simpa using lh
  have ll2 : (l.map bv).length = 64 := by simpa using hl
  have lh3 : (List.replicate 8 (Value.int .u32 0)).length = (h.map w32).length := by rw [lh2]; rfl
  have hh : ∀ j v, (h.map w32)[j]? = some v → (h.map w32)[0 + 0 + 0 + j]? = some v := fun j v h => by simpa using h
  have hb : ∀ j v, (l.map bv)[j]? = some v → (l.map bv)[0 + j]? = some v := fun j v h => by simpa using h
  focus (refine S_seq rfl ?_; refine S_region rfl rfl ?_; (refine R_eff (E_boxa rfl) ?_ rfl rfl; rintro _ _ ⟨b1, rfl, rfl⟩); refine R_nil (S_seq rfl (S_region rfl rfl ?_)); refine R_p rfl ?_ rfl rfl; refine R_take (T_nilCheck rfl) ?_ rfl rfl; (iterate 2 refine R_p rfl ?_ rfl rfl); refine R_take (T_loada (ds := h.map w32) rfl rfl rfl lh2 hh) ?_ rfl rfl; (refine R_eff (E_alloca rfl z8_alloc) ?_ rfl rfl; rintro _ _ ⟨b4, rfl, rfl⟩); (refine R_eff0 (E_storew (cs := List.replicate 8 (.int .u32 0)) rfl rfl rfl lh2 (w32_ones _) lh3) ?_ rfl; rintro _ _ rfl); refine R_nil ?_; refine S_seq rfl ?_; refine S_seq rfl (S_region rfl rfl ?_); refine R_take (T_loada (ds := l.map bv) rfl rfl rfl ll2 hb) ?_ rfl rfl; (refine R_eff (E_drawn rfl hl) ?_ rfl rfl; rintro _ _ ⟨rfl, rfl⟩); refine R_p rfl ?_ rfl rfl; refine R_nil ?_; refine S_block rfl ?_)
  refine S_loop (X := Nat) (fun t => [(0, .pointer (some ⟨gb, 0, none⟩)), (4, .pointer (some ⟨b4, 0, none⟩)), (19, .agg ((sched l 64).map w32).toArray), (20, .int .i64 (t : Int))]) (fun t => [pt b4 86 ((rounds rootsL (sched l 64) h t).map w32), pt gb 91 (h.map w32)]) (fun t => t ≤ 64) (fun t => 64 - t) rfl 0 (Nat.zero_le _) (Sub.cons rfl (Sub.cons rfl (Sub.cons rfl (Sub.cons rfl Sub.nil)))) (by rw [show rounds rootsL (sched l 64) h 0 = h from rfl]; exact sub_st) ?_
  intro t ht J hJ
  obtain ⟨r0, r1, r2, r3, r4, r5, r6, r7, hR⟩ := eight (rounds_len (ks := rootsL) (ws := sched l 64) lh t)
  rw [hR]
  have hnext := hJ (t + 1)
  simp only [rounds, hR] at hnext
  have hR0 : ∀ k, k = 0 → ¬ owns [pt gb 91 (h.map w32)] k := fun k hk ⟨A, hA, hk'⟩ => by
    rcases List.mem_singleton.1 hA with rfl
    exact hg (hk'.symm.trans hk)
  focus (refine S_seq rfl ?_; refine S_region rfl rfl ?_; refine R_p rfl ?_ rfl rfl; refine R_nil ?_; refine S_seq rfl ?_; (refine S_if rfl rfl (fun hs => ?_) (fun hs => ?_)); refine S_skip rfl ?_; refine S_seq rfl ?_; refine S_block rfl ?_; refine S_seq rfl (S_region rfl rfl ?_); refine R_p rfl ?_ rfl rfl; refine R_take (T_ixv (q := t) (v := w32 ((sched l 64).getD t 0)) rfl rfl rfl rfl rfl rfl rfl (by omega) (map_at w32 0 (by rw [sched_len]; omega))) ?_ rfl rfl; (iterate 2 refine R_p rfl ?_ rfl rfl); refine R_nil ?_; refine S_seq rfl ?_; (refine S_draw _ (fun _ h => h) (by kernel_rfl) rfl (by kernel_rfl) (rfl : _ = 6) ?_; (refine D_take 0 rfl (T_ixaN rfl rfl rfl rfl rfl rfl (by omega)) ?_ rfl rfl (by kernel_rfl) (by kernel_rfl)); (refine D_take 1 rfl (T_load rfl rfl rfl rfl) ?_ rfl rfl (by kernel_rfl) (by kernel_rfl)); (refine D_take 2 rfl (T_ixaN rfl rfl rfl rfl rfl rfl (by omega)) ?_ rfl rfl (by kernel_rfl) (by kernel_rfl)); (refine D_take 3 rfl (T_load rfl rfl rfl rfl) ?_ rfl rfl (by kernel_rfl) (by kernel_rfl)); (refine D_take 4 rfl (pev_ok rfl) ?_ rfl rfl (by kernel_rfl) (by kernel_rfl)); (refine D_take 5 rfl (pev_ok rfl) ?_ rfl rfl (by kernel_rfl) (by kernel_rfl)); refine D_done ?_ (by kernel_rfl)); refine S_seq rfl ?_; rotate_left; refine S_exit rfl rfl ?_; refine S_seq rfl (S_region rfl rfl ?_); rotate_left)
  · skip
    refine S_draw ([pt b4 86 ([r0, r1, r2, r3, r4, r5, r6, r7].map w32)]) sub_st (by kernel_rfl) rfl (by kernel_rfl) (by kernel_rfl : _ = 24) ?_
    refine D_take 0 rfl (T_ixaN rfl rfl rfl rfl rfl rfl (by omega)) ?_ rfl rfl (by kernel_rfl) (by kernel_rfl)
    refine D_take 1 rfl (T_load rfl rfl rfl rfl) ?_ rfl rfl (by kernel_rfl) (by kernel_rfl)
    refine D_take 2 rfl (pev_ok rfl) ?_ rfl rfl (by kernel_rfl) (by kernel_rfl)
    refine D_take 6 rfl (T_ixaN rfl rfl rfl rfl rfl rfl (by omega)) ?_ rfl rfl (by kernel_rfl) (by kernel_rfl)
    refine D_take 7 rfl (T_load rfl rfl rfl rfl) ?_ rfl rfl (by kernel_rfl) (by kernel_rfl)
    refine D_take 8 rfl (pev_ok rfl) ?_ rfl rfl (by kernel_rfl) (by kernel_rfl)
    refine D_take 9 rfl (T_ixaN rfl rfl rfl rfl rfl rfl (by omega)) ?_ rfl rfl (by kernel_rfl) (by kernel_rfl)
    refine D_take 10 rfl (T_load rfl rfl rfl rfl) ?_ rfl rfl (by kernel_rfl) (by kernel_rfl)
    refine D_take 11 rfl (T_ixaN rfl rfl rfl rfl rfl rfl (by omega)) ?_ rfl rfl (by kernel_rfl) (by kernel_rfl)
    refine D_take 12 rfl (T_load rfl rfl rfl rfl) ?_ rfl rfl (by kernel_rfl) (by kernel_rfl)
    refine D_take 13 rfl (T_w32 rfl rfl rfl) ?_ rfl rfl (by kernel_rfl) (by kernel_rfl)
    refine D_take 14 rfl (T_w32 rfl rfl rfl) ?_ rfl rfl (by kernel_rfl) (by kernel_rfl)
    refine D_take 15 rfl (T_w32 rfl rfl rfl) ?_ rfl rfl (by kernel_rfl) (by kernel_rfl)
    refine D_take 17 rfl (pev_ok rfl) ?_ rfl rfl (by kernel_rfl) (by kernel_rfl)
    refine D_take 18 rfl (T_ixaN rfl rfl rfl rfl rfl rfl (by omega)) ?_ rfl rfl (by kernel_rfl) (by kernel_rfl)
    (refine D_take 19 rfl (T_loadg (v := w32 (rootsL.getD t 0)) rfl rfl rfl hr hR0 (map_at0 w32 0 (by rw [roots_len]; omega))) ?_ rfl rfl (by kernel_rfl) (by kernel_rfl))
    refine D_take 21 rfl (pev_ok rfl) ?_ rfl rfl (by kernel_rfl) (by kernel_rfl)
    refine D_one 3 rfl (E_lit1 (vs := [iv 6, iv 11, iv 25]) rfl rfl rfl rfl rfl rfl rfl (by simp [Value.oneCell', iv]) (by decide)) ?_ rfl rfl (by kernel_rfl)
    rintro _ _ ⟨bl1, rfl, rfl⟩
    refine Nx_same sub_st ?_
    refine D_one 4 rfl (E_mixed [6, 11, 25] rfl rfl (by decide) (by decide) (by decide)) ?_ rfl rfl (by kernel_rfl)
    rintro _ _ ⟨rfl, rfl⟩
    refine Nx_same sub_st ?_
    refine D_take 5 rfl (T_w32 rfl rfl rfl) ?_ rfl rfl (by kernel_rfl) (by kernel_rfl)
    refine D_take 16 rfl (T_w32 rfl rfl rfl) ?_ rfl rfl (by kernel_rfl) (by kernel_rfl)
    refine D_take 20 rfl (T_w32 rfl rfl rfl) ?_ rfl rfl (by kernel_rfl) (by kernel_rfl)
    refine D_take 22 rfl (T_w32 rfl rfl rfl) ?_ rfl rfl (by kernel_rfl) (by kernel_rfl)
    refine D_take 23 rfl (pev_ok rfl) ?_ rfl rfl (by kernel_rfl) (by kernel_rfl)
    refine D_done ?_ (by kernel_rfl)
    skip
    focus (refine S_seq rfl ?_)
    refine S_draw ([pt b4 86 ([r0, r1, r2, r3, r4, r5, r6, r7].map w32)]) sub_st (by kernel_rfl) rfl (by kernel_rfl) (by kernel_rfl : _ = 17) ?_
    refine D_take 0 rfl (pev_ok rfl) ?_ rfl rfl (by kernel_rfl) (by kernel_rfl)
    refine D_take 3 rfl (pev_ok rfl) ?_ rfl rfl (by kernel_rfl) (by kernel_rfl)
    refine D_take 4 rfl (T_ixaN rfl rfl rfl rfl rfl rfl (by omega)) ?_ rfl rfl (by kernel_rfl) (by kernel_rfl)
    refine D_take 5 rfl (T_load rfl rfl rfl rfl) ?_ rfl rfl (by kernel_rfl) (by kernel_rfl)
    refine D_take 6 rfl (T_w32 rfl rfl rfl) ?_ rfl rfl (by kernel_rfl) (by kernel_rfl)
    refine D_take 7 rfl (T_ixaN rfl rfl rfl rfl rfl rfl (by omega)) ?_ rfl rfl (by kernel_rfl) (by kernel_rfl)
    refine D_take 8 rfl (T_load rfl rfl rfl rfl) ?_ rfl rfl (by kernel_rfl) (by kernel_rfl)
    refine D_take 9 rfl (pev_ok rfl) ?_ rfl rfl (by kernel_rfl) (by kernel_rfl)
    refine D_take 10 rfl (T_ixaN rfl rfl rfl rfl rfl rfl (by omega)) ?_ rfl rfl (by kernel_rfl) (by kernel_rfl)
    refine D_take 11 rfl (T_load rfl rfl rfl rfl) ?_ rfl rfl (by kernel_rfl) (by kernel_rfl)
    refine D_take 12 rfl (T_w32 rfl rfl rfl) ?_ rfl rfl (by kernel_rfl) (by kernel_rfl)
    refine D_take 13 rfl (T_w32 rfl rfl rfl) ?_ rfl rfl (by kernel_rfl) (by kernel_rfl)
    refine D_take 14 rfl (T_w32 rfl rfl rfl) ?_ rfl rfl (by kernel_rfl) (by kernel_rfl)
    refine D_one 1 rfl (E_lit1 (vs := [iv 2, iv 13, iv 22]) rfl rfl rfl rfl rfl rfl rfl (by simp [Value.oneCell', iv]) (by decide)) ?_ rfl rfl (by kernel_rfl)
    rintro _ _ ⟨bl1, rfl, rfl⟩
    refine Nx_same sub_st ?_
    refine D_one 2 rfl (E_mixed [2, 13, 22] rfl rfl (by decide) (by decide) (by decide)) ?_ rfl rfl (by kernel_rfl)
    rintro _ _ ⟨rfl, rfl⟩
    refine Nx_same sub_st ?_
    refine D_take 15 rfl (T_w32 rfl rfl rfl) ?_ rfl rfl (by kernel_rfl) (by kernel_rfl)
    refine D_take 16 rfl (pev_ok rfl) ?_ rfl rfl (by kernel_rfl) (by kernel_rfl)
    refine D_done ?_ (by kernel_rfl)
    skip
    focus (refine S_seq rfl ?_)
    refine S_draw ([pt b4 86 ([r0, r1, r2, r3, r4, r5, r6, r7].map w32)]) sub_st (by kernel_rfl) rfl (by kernel_rfl) (by kernel_rfl : _ = 3) ?_
    refine D_take 0 rfl (T_slarrL rfl rfl rfl rfl rfl rfl (by decide)) ?_ rfl rfl (by kernel_rfl) (by kernel_rfl)
    refine D_take 1 rfl (T_slarrH rfl rfl rfl rfl rfl (by decide)) ?_ rfl rfl (by kernel_rfl) (by kernel_rfl)
    refine D_one 2 rfl (E_copyb (cur := [r0, r1, r2, r3, r4, r5, r6, r7].map w32) (cs := [r0, r1, r2, r3, r4, r5, r6].map w32) (off := 1) rfl rfl rfl rfl rfl rfl (Srd.pt (off := 0) (n := 7) (cs := [r0, r1, r2, r3, r4, r5, r6, r7].map w32) rfl (fun j v h => pre7 h)) rfl (by simp) (w32_ones _) rfl) ?_ rfl rfl (by kernel_rfl)
    rintro _ _ ⟨rfl, rfl⟩
    refine Nx_pivot (by kernel_rfl) ?_
    refine D_done ?_ (by kernel_rfl)
    skip
    focus (refine S_seq rfl ?_; refine S_region rfl rfl ?_; (iterate 2 refine R_p rfl ?_ rfl rfl); refine R_take (T_w32 rfl rfl rfl) ?_ rfl rfl; refine R_take (T_ixaN rfl rfl rfl rfl rfl rfl (by omega)) ?_ rfl rfl; (refine R_eff0 (E_store1 rfl rfl rfl rfl rfl rfl (by first | decide | (simp; done) | (simp; omega) | assumption)) ?_ rfl; rintro _ _ rfl); refine R_nil ?_; refine S_region rfl rfl ?_; refine R_take (T_ixaN rfl rfl rfl rfl rfl rfl (by omega)) ?_ rfl rfl; refine R_take (T_load rfl rfl rfl rfl) ?_ rfl rfl; refine R_p rfl ?_ rfl rfl; refine R_take (T_w32 rfl rfl rfl) ?_ rfl rfl; refine R_take (T_ixaN rfl rfl rfl rfl rfl rfl (by omega)) ?_ rfl rfl; (refine R_eff0 (E_store1 rfl rfl rfl rfl rfl rfl (by first | decide | (simp; done) | (simp; omega) | assumption)) ?_ rfl; rintro _ _ rfl); refine R_nil ?_; refine RS_blk ?_; refine S_region rfl rfl ?_; refine R_take (T_addN rfl rfl (by unfold fits; omega)) ?_ rfl rfl; refine R_p rfl ?_ rfl rfl; refine R_nil ?_)
    exact hnext _ _ (by omega) (Sub.cons rfl (Sub.cons rfl (Sub.cons rfl (Sub.cons rfl Sub.nil)))) (fun w' hS => sub_st (H := [_, _, pt b4 86 ((rnd [r0, r1, r2, r3, r4, r5, r6, r7] (rootsL.getD t 0) ((sched l 64).getD t 0)).map w32), _]) w' hS) (by omega)
  obtain rfl : t = 64 := by omega
  have hR2 : ([r0, r1, r2, r3, r4, r5, r6, r7]).map w32 = (rounds rootsL (sched l 64) h 64).map w32 := by rw [hR]
  rw [hR2]
  obtain ⟨R, hRR⟩ : ∃ R, R = rounds rootsL (sched l 64) h 64 := ⟨_, rfl⟩
  have lR : R.length = 8 := by rw [hRR]; exact rounds_len lh 64
  have lR2 : (R.map w32).length = 8 := by simpa using lR
  rw [← hRR]
  clear hnext hJ hR2
  focus (refine R_take (T_loada (ds := R.map w32) rfl rfl rfl lR2 (fun j v h => by simpa using h)) ?_ rfl rfl; refine R_p rfl ?_ rfl rfl; refine R_nil ?_; refine S_block rfl ?_)
  refine S_loop (X := Nat) (fun j => [(0, .pointer (some ⟨gb, 0, none⟩)), (80, .agg (R.map w32).toArray), (81, .int .i64 (j : Int))]) (fun j => [pt gb 91 (pre (fun i => w32 (h.getD i 0 + R.getD i 0)) (fun i => w32 (h.getD i 0)) 8 j)]) (fun t => t ≤ 8) (fun t => 8 - t) rfl 0 (Nat.zero_le _) (Sub.cons rfl (Sub.cons rfl (Sub.cons rfl Sub.nil))) (by rw [pre_0, ← map_range w32 0 lh]; exact sub_st) ?_
  intro j hj J hJ
  focus (refine S_seq rfl ?_; refine S_region rfl rfl ?_; refine R_p rfl ?_ rfl rfl; refine R_nil ?_; refine S_seq rfl ?_; (refine S_if rfl rfl (fun hs => ?_) (fun hs => ?_)); refine S_skip rfl ?_; refine S_seq rfl ?_; refine S_block rfl ?_; refine S_seq rfl (S_region rfl rfl ?_); refine R_p rfl ?_ rfl rfl; refine R_take (T_ixv (q := j) (v := w32 (R.getD j 0)) rfl rfl rfl rfl rfl rfl rfl (by omega) (map_at w32 0 (by rw [lR]; omega))) ?_ rfl rfl; (iterate 2 refine R_p rfl ?_ rfl rfl); refine R_nil ?_; rotate_left; refine S_exit rfl rfl ?_; rotate_left)
  · skip
    refine S_draw ([pt gb 91 (pre (fun i => w32 (h.getD i 0 + R.getD i 0)) (fun i => w32 (h.getD i 0)) 8 j)]) sub_st (by kernel_rfl) rfl (by kernel_rfl) (by kernel_rfl : _ = 14) ?_
    refine D_take 0 rfl (pev_ok rfl) ?_ rfl rfl (by kernel_rfl) (by kernel_rfl)
    refine D_take 1 rfl (pev_ok rfl) ?_ rfl rfl (by kernel_rfl) (by kernel_rfl)
    refine D_take 2 rfl (T_nilCheck rfl) ?_ rfl rfl (by kernel_rfl) (by kernel_rfl)
    refine D_take 3 rfl (pev_ok rfl) ?_ rfl rfl (by kernel_rfl) (by kernel_rfl)
    refine D_take 4 rfl (pev_ok rfl) ?_ rfl rfl (by kernel_rfl) (by kernel_rfl)
    refine D_take 5 rfl (T_ixaN rfl rfl rfl rfl rfl rfl (by omega)) ?_ rfl rfl (by kernel_rfl) (by kernel_rfl)
    refine D_take 6 rfl (T_load rfl rfl rfl (pre_next (by omega))) ?_ rfl rfl (by kernel_rfl) (by kernel_rfl)
    refine D_take 7 rfl (pev_ok rfl) ?_ rfl rfl (by kernel_rfl) (by kernel_rfl)
    refine D_take 8 rfl (T_w32 rfl rfl rfl) ?_ rfl rfl (by kernel_rfl) (by kernel_rfl)
    refine D_take 9 rfl (T_nilCheck rfl) ?_ rfl rfl (by kernel_rfl) (by kernel_rfl)
    refine D_take 10 rfl (pev_ok rfl) ?_ rfl rfl (by kernel_rfl) (by kernel_rfl)
    refine D_take 11 rfl (pev_ok rfl) ?_ rfl rfl (by kernel_rfl) (by kernel_rfl)
    refine D_take 12 rfl (T_ixaN rfl rfl rfl rfl rfl rfl (by omega)) ?_ rfl rfl (by kernel_rfl) (by kernel_rfl)
    refine D_one 13 rfl (E_store1 rfl rfl rfl rfl rfl rfl (by rw [pre_len]; omega)) ?_ rfl rfl (by kernel_rfl)
    rintro _ _ rfl
    refine Nx_pivot (by kernel_rfl) ?_
    refine D_done ?_ (by kernel_rfl)
    skip
    focus (refine RS_blk ?_; refine S_region rfl rfl ?_; refine R_take (T_addN rfl rfl (by unfold fits; omega)) ?_ rfl rfl; refine R_p rfl ?_ rfl rfl; refine R_nil ?_)
    refine hJ (j + 1) _ _ (by omega) (Sub.cons rfl (Sub.cons rfl (Sub.cons rfl Sub.nil))) ?_ (by omega)
    rw [← pre_set (by omega)]
    exact fun _ h => h
  · obtain rfl : j = 8 := by omega
    rw [pre_all]
    refine hB _ _ fun w' hS => ⟨(), trivial, ?_⟩
    have e : (blockW h l).map w32 = (List.range 8).map fun i => w32 (h.getD i 0 + R.getD i 0) := by rw [blockW, hRR, List.map_map]; rfl
    rw [e]
    exact hS
end Go.Proofs.YtdbehejbeioboaaDoor

namespace Go.Proofs.YtdbehejbeioboaaDoor
open Go.RowKit
open Asn (pt row rb)
set_option linter.unusedVariables false
set_option linter.unusedSimpArgs false
--@use N

section
variable {P : Program} {n : Nat} {w0 : World} {M : Nat → Prop} {T : Slots} {H Hr : List Asn} {dd : Option Tmp} {tt : TypeId} {pos : String} {af : Array Edge} {g : Option (Nat × Bool)} {x y : Operand} {ts : Array TypeId}
theorem T_build1s {s : TypeId} {j : Nat} {v : Value} {cs : List Value} (hx : oget T x = some v) (hb : P.built s [(j, v)] = some cs.toArray) :
    Tk P n w0 M T H ⟨dd, .build s #[(j, x)], tt, pos, af, g⟩ (.agg cs.toArray) := .mk fun a w ha hS => by
  have hr := run_build (P := P) w s #[(j, v)] cs.toArray hb
  have e : (#[(j, x)].map fun (i, x) => (i, a.eval x)) = #[(j, v)] := by simp [ha.eval hx]
  simp only [execOp, e, Sem.run_bind, hr, Result.andThen_ok, Sem.run_pure]
/-- an array is read out of bytes -/
theorem T_ldarr [HasTab P] {s : TypeId} {A : Option Addr} {m c k : Nat} {bs : List UInt8} {i : Ti} (hx : oget T x = some (.pointer A)) (hs : ty P s = some i) (hi : aggB i.desc = true) (hr : Src w0 M H A m c bs) (hk : i.size = k) (h0 : 0 < k) (hm : k ≤ m) :
    Tk P n w0 M T H ⟨dd, .load s x, tt, pos, af, g⟩ (.agg ((bs.take k).map bv).toArray) := .mk fun a w ha hS => by
  have hb := hr.bs w hS
  obtain ⟨ad, rfl, _, hc⟩ := hb.rd.2 (by omega)
  have hl := hb.len
  have := loadVar_cells (P := P) (a := ad) hs hi (ds := (bs.take k).map bv) (by rw [List.length_map, List.length_take, hk]; omega) (fun q v hq => hc q v (by
    rw [List.getElem?_map, List.getElem?_take] at hq
    split at hq
    · rw [List.getElem?_map]; exact hq
    · cases hq))
  simp [execOp, ha.eval hx, Instr.loadAt, Instr.sureAddr, this]
end

def startL : List UInt32 := [0x6a09e667, 0xbb67ae85, 0x3c6ef372, 0xa54ff53a, 0x510e527f, 0x9b05688c, 0x1f83d9ab, 0x5be0cd19]

section
variable {n : Nat} {w0 : World} {M : Nat → Prop} {T : Slots} {H Hr : List Asn} {dd : Option Tmp} {tt : TypeId} {pos : String} {af : Array Edge} {g : Option (Nat × Bool)} {x y : Operand} {ts : Array TypeId}
theorem E_into {gb : Nat} {h : List UInt32} {l : List UInt8} (hx : oget T x = some (.pointer (some ⟨gb, 0, none⟩))) (hy : oget T y = some (.agg (l.map bv).toArray)) (hr : Roots w0) (hM : ¬ M 0) [hm : RemC H (pt gb 91 (h.map w32)) Hr] (lh : h.length = 8) (hl : l.length = 64) :
    Ef Tryd.prog n w0 M T H ⟨dd, .call ⟨.value (.func 57), #[x, y], ts⟩, tt, pos, af, g⟩ (fun u H' => u = .tuple #[] ∧ H' = pt gb 91 ((blockW h l).map w32) :: Hr) := by
  refine (E_call [pt gb 91 (h.map w32)] Hr (X := Unit) (fun _ => .tuple #[]) (fun _ => True) (fun _ => [pt gb 91 ((blockW h l).map w32)]) (vs := [.pointer (some ⟨gb, 0, none⟩), .agg (l.map bv).toArray]) (by simp [ogets, hx, hy]) ⟨_, Tryd.func57, rfl, by kernel_rfl⟩ (fun w hS => hS.perm hm.perm) fun w hS => ?_).mono ?_
  · have hg : gb ≠ 0 := fun h0 => by
      rcases ((hS.all (pt gb 91 (h.map w32)) (by simp)).2 gb rfl).1 with h1 | h1
      · exact hM (h0 ▸ h1)
      · have := hr.size
        omega
    exact into_any w gb h lh l hl (hr.kp hS.kp hM) hg (St.again (As := [pt gb 91 (h.map w32)]) hS)
  · rintro v H' ⟨_, _, rfl, rfl⟩ w hS
    exact ⟨_, _, rfl, ⟨rfl, rfl⟩, hS⟩
theorem E_put32 {A : Option Addr} {m c : Nat} {l : List UInt8} {z : Int} {X : Nat} (hx : oget T x = some (.slice A m c)) (hy : oget T y = some (.int .u32 z)) [hz : NatOf z X] (h : Src w0 M H A m c l) (hn : m ≤ 281474976710000) (hX : X < 256 ^ 4) :
    Ef Tryd.prog n w0 M T H ⟨dd, .call ⟨.value (.func 55), #[x, y], ts⟩, tt, pos, af, g⟩ (fun u H' => ∃ A' c', u = .slice A' (m + 4) c' ∧ H' = row 5 1 A' (m + 4) c' ((l ++ be 4 X).map bv) :: H) := by
  rw [hz.is] at hy
  exact E_g1 ⟨_, Tryd.func55, rfl, by kernel_rfl⟩ (vs := [.slice A m c, .int .u32 (X : Int)]) (by simp [ogets, hx, hy]) fun w hS => put_32 w A m c l X All (h.bs w hS) hn hX
theorem E_put64 {A : Option Addr} {m c : Nat} {l : List UInt8} {z : Int} {X : Nat} (hx : oget T x = some (.slice A m c)) (hy : oget T y = some (.int .u64 z)) [hz : NatOf z X] (h : Src w0 M H A m c l) (hn : m ≤ 281474976710000) (hX : X < 256 ^ 8) :
    Ef Tryd.prog n w0 M T H ⟨dd, .call ⟨.value (.func 50), #[x, y], ts⟩, tt, pos, af, g⟩ (fun u H' => ∃ A' c', u = .slice A' (m + 8) c' ∧ H' = row 5 1 A' (m + 8) c' ((l ++ be 8 X).map bv) :: H) := by
  rw [hz.is] at hy
  exact E_g1 ⟨_, Tryd.func50, rfl, by kernel_rfl⟩ (vs := [.slice A m c, .int .u64 (X : Int)]) (by simp [ogets, hx, hy]) fun w hS => put_64 w A m c l X All (h.bs w hS) hn hX
end

/-- bytes, filled up -/
def padL (l : List UInt8) : List UInt8 := l ++ 128 :: List.replicate ((l.length + 72) / 64 * 64 - 9 - l.length) 0 ++ be 8 (8 * l.length)
theorem padL_len (l : List UInt8) : (padL l).length = (l.length + 72) / 64 * 64 := by
  simp [padL, be_len]
  omega

set_option maxRecDepth 100000 in
set_option maxHeartbeats 4000000 in
theorem pad_any (w : World) (A : Option Addr) (n c : Nat) (l : List UInt8) (F : Nat → Prop) (h : Bs w F A n c l) (hn : n ≤ 100000) :
    Gives Tryd.prog 58 [.slice A n c] [] w (X := Option Addr × Nat) (fun x => .slice x.1 (padL l).length x.2) (fun _ => True) (fun x => [row 5 1 x.1 (padL l).length x.2 ((padL l).map bv)]) := by
  refine gives_S Tryd.func58 rfl Tryd.ntmps58 Tryd.results58 (by simp) (St.enter w) (fun B hB => ?_)
  have hl := h.len
  have hsrc : ∀ H, Srd w (owns []) H 1 A (l.map bv).length (l.map bv) := fun H => by
    rw [List.length_map, ← hl]
    exact (Src.old h fun k _ => noOwns k).rd
  have hsh : ∀ {T : Slots} {H : List Asn} {dd : Option Tmp} {t u : TypeId} {tt : TypeId} {pos : String} {af : Array Edge} {g : Option (Nat × Bool)} {x : Operand}, oget T x = some (.int .u64 (n : Int)) → Tk Tryd.prog 26 w (owns []) T H ⟨dd, .binOp .shl t x (.const (.int .u64 3)) u, tt, pos, af, g⟩ (.int .u64 ((8 * n : Nat) : Int)) := fun {T H dd t u tt pos af g x} hx => by
    have h1 := T_shl (P := Tryd.prog) (n := 26) (w0 := w) (M := owns []) (H := H) (dd := dd) (tt := tt) (pos := pos) (af := af) (g := g) (t := t) (u := u) hx (y := .const (.int .u64 3)) rfl (by decide)
    have e : IntKind.u64.wrap ((n : Int) * 2 ^ (min (3 : Int).toNat IntKind.u64.bits)) = ((8 * n : Nat) : Int) := by
      rw [show (2 : Int) ^ (min (3 : Int).toNat IntKind.u64.bits) = 8 from rfl, wrap_fits (by unfold fits; omega)]
      omega
    rwa [e] at h1
  focus (refine S_seq rfl ?_; refine S_region rfl rfl ?_; refine R_p rfl ?_ rfl rfl; refine R_nil (S_seq rfl (S_region rfl rfl ?_)); (iterate 2 refine R_p rfl ?_ rfl rfl); refine R_take (T_addN rfl rfl (by unfold fits; omega)) ?_ rfl rfl; refine R_take (T_divN rfl rfl (by omega) (by unfold fits; omega)) ?_ rfl rfl; refine R_take (T_mulN rfl rfl (by unfold fits; omega)) ?_ rfl rfl; refine R_p rfl ?_ rfl rfl; refine R_nil (S_seq rfl (S_region rfl rfl ?_)); refine R_p rfl ?_ rfl rfl; refine R_take (T_subN rfl rfl (by omega) (by unfold fits; omega)) ?_ rfl rfl; (refine R_eff (E_make1 (m := (n + 72) / 64 * 64 - 8) (c := (n + 72) / 64 * 64 - 8) rfl rfl rfl rfl rfl rfl rfl (Nat.le_refl _) (by simp only [ti5]; omega) (by unfold maxLen; omega)) ?_ rfl rfl; rintro _ _ ⟨b, rfl, rfl⟩); refine R_p rfl ?_ rfl rfl; refine R_nil (S_seq rfl (S_region rfl rfl ?_)); (iterate 2 refine R_p rfl ?_ rfl rfl); (refine R_eff (E_copyb (cs := l.map bv) (off := 0) rfl rfl rfl rfl rfl rfl (hsrc _) (by rw [List.length_map]; omega) (by rw [List.length_map, List.length_replicate]; omega) (bv_one _) rfl) ?_ rfl rfl; rintro _ _ ⟨rfl, rfl⟩); refine R_nil (S_seq rfl (S_region rfl rfl ?_)); (iterate 3 refine R_p rfl ?_ rfl rfl); refine R_take (T_ixNg rfl rfl rfl rfl rfl rfl (by omega)) ?_ rfl rfl; (refine R_eff0 (E_store1 rfl rfl rfl rfl rfl rfl (by first | decide | (simp; done) | (simp; omega) | assumption)) ?_ rfl; rintro _ _ rfl); refine R_nil (S_seq rfl (S_region rfl rfl ?_)); (iterate 3 refine R_p rfl ?_ rfl rfl); refine R_take (T_convf rfl rfl rfl rfl (by unfold fits; omega)) ?_ rfl rfl; refine R_take (hsh rfl) ?_ rfl rfl)
  have e1 : ((List.take 0 (List.replicate ((n + 72) / 64 * 64 - 8) ti5.zero) ++ l.map bv ++ List.drop (0 + (l.map bv).length) (List.replicate ((n + 72) / 64 * 64 - 8) ti5.zero)).set (0 + n) (Value.int .u8 128)) = (l ++ 128 :: List.replicate ((n + 72) / 64 * 64 - 9 - n) 0).map bv := by
    rw [List.take_zero, List.nil_append, List.length_map, Nat.zero_add, ← hl, List.drop_replicate, show (n + 72) / 64 * 64 - 8 - n = ((n + 72) / 64 * 64 - 9 - n) + 1 by omega, List.replicate_succ]
    rw [Nat.zero_add, List.set_append_right _ _ (by rw [List.length_map]; omega), List.length_map, ← hl, Nat.sub_self, List.set_cons_zero, List.map_append, List.map_cons, List.map_replicate]
    rfl
  rw [e1]
  focus ((refine R_eff (E_put64 (l := l ++ 128 :: List.replicate ((n + 72) / 64 * 64 - 9 - n) 0) rfl rfl (Src.pt (by simp; omega) (Nat.le_refl _) (by unfold maxLen; omega) (fun j v h => by simpa using h)) (by omega) (by omega)) ?_ rfl rfl; rintro _ _ ⟨A', c', rfl, rfl⟩); refine R_p rfl ?_ rfl rfl; refine R_nil ?_)
  have e2 : (n + 72) / 64 * 64 - 8 + 8 = (padL l).length := by rw [padL_len, ← hl]; omega
  have e3 : l ++ 128 :: List.replicate ((n + 72) / 64 * 64 - 9 - n) 0 ++ be 8 (8 * n) = padL l := by rw [hl]; rfl
  rw [e2, e3]
  exact hB _ _ _ _ _ rfl rfl fun w' hS => ⟨(A', c'), rfl, trivial, hS.sublist (List.Sublist.cons_cons _ (List.nil_sublist _))⟩
theorem row_cap {w : World} {e : TypeId} {s n c : Nat} {A : Option Addr} {xs : List Value} (h : (row e s A n c xs).holds w) : n ≤ c := by
  obtain ⟨A', c', hv, h1, _⟩ := own_form h
  injection hv with _ _ e3
  omega
theorem start_built : Tryd.prog.built 86 [(0, .int .u32 1779033703), (1, .int .u32 3144134277), (2, .int .u32 1013904242), (3, .int .u32 2773480762), (4, .int .u32 1359893119), (5, .int .u32 2600822924), (6, .int .u32 528734635), (7, .int .u32 1541459225)] = some (startL.map w32).toArray := by kernel_rfl
theorem T_built {P : Program} {n : Nat} {w0 : World} {M : Nat → Prop} {T : Slots} {H : List Asn} {dd : Option Tmp} {tt : TypeId} {pos : String} {af : Array Edge} {g : Option (Nat × Bool)} {s : TypeId} {xs : Array (Nat × Operand)} {vs : List (Nat × Value)} {cs : List Value} (hx : ∀ a, Tm n a T → xs.toList.map (fun x => (x.1, a.eval x.2)) = vs) (hb : P.built s vs = some cs.toArray) :
    Tk P n w0 M T H ⟨dd, .build s xs, tt, pos, af, g⟩ (.agg cs.toArray) := .mk fun a w ha hS => by
  have e : (xs.map fun x => (x.1, a.eval x.2)).toList = vs := by rw [Array.toList_map]; exact hx a ha
  have hr := run_build (P := P) w s (xs.map fun x => (x.1, a.eval x.2)) cs.toArray (by rw [e]; exact hb)
  simp only [execOp, Sem.run_bind, hr, Result.andThen_ok, Sem.run_pure]
set_option maxRecDepth 100000 in
set_option maxHeartbeats 4000000 in
theorem start_any (w : World) :
    Gives Tryd.prog 56 [] [] w (X := Unit) (fun _ => .agg (startL.map w32).toArray) (fun _ => True) (fun x => []) := by
  refine gives_C Tryd.func56 rfl Tryd.ntmps56 Tryd.results56 (by simp) (St.enter w) (fun B hB => ?_)
  focus (refine S_seq rfl ?_; refine S_region rfl rfl ?_; (refine R_eff (E_alloca rfl z8_alloc) ?_ rfl rfl; rintro _ _ ⟨b4, rfl, rfl⟩); refine R_nil (S_seq rfl (S_region rfl rfl ?_)); refine R_take (T_built (fun a ha => rfl) start_built) ?_ rfl rfl; (refine R_eff0 (E_storew (ds := startL.map w32) (cs := List.replicate 8 (.int .u32 0)) rfl rfl rfl rfl (w32_ones _) rfl) ?_ rfl; rintro _ _ rfl); refine R_nil ?_)
  exact hB _ _ _ _ _ rfl (.cell rfl rfl rfl inferInstance rfl .nil) fun w' hS => ⟨(), rfl, trivial, hS.sublist (List.nil_sublist _)⟩
section
variable {n : Nat} {w0 : World} {M : Nat → Prop} {T : Slots} {H Hr : List Asn} {dd : Option Tmp} {tt : TypeId} {pos : String} {af : Array Edge} {g : Option (Nat × Bool)} {x y : Operand} {ts : Array TypeId}
theorem E_start : Ef Tryd.prog n w0 M T H ⟨dd, .call ⟨.value (.func 56), #[], ts⟩, tt, pos, af, g⟩ (fun u H' => u = .agg (startL.map w32).toArray ∧ H' = H) := by
  refine (E_gv ⟨_, Tryd.func56, rfl, by kernel_rfl⟩ (vs := []) (by simp [ogets]) fun w hS => start_any w).mono ?_
  rintro v H' ⟨_, rfl, _, rfl⟩ w hS
  exact ⟨_, _, rfl, ⟨rfl, rfl⟩, hS⟩
theorem E_pad {A : Option Addr} {m c : Nat} {l : List UInt8} (hx : oget T x = some (.slice A m c)) (hs : Src w0 M H A m c l) (hm : m ≤ 100000) :
    Ef Tryd.prog n w0 M T H ⟨dd, .call ⟨.value (.func 58), #[x], ts⟩, tt, pos, af, g⟩ (fun u H' => ∃ A' c', (padL l).length ≤ c' ∧ u = .slice A' (padL l).length c' ∧ H' = row 5 1 A' (padL l).length c' ((padL l).map bv) :: H) := by
  refine (E_gv ⟨_, Tryd.func58, rfl, by kernel_rfl⟩ (vs := [.slice A m c]) (by simp [ogets, hx]) fun w hS => pad_any w A m c l All (hs.bs w hS) hm).mono ?_
  rintro v H' ⟨x, rfl, _, rfl⟩ w hS
  exact ⟨_, _, rfl, ⟨x.1, x.2, row_cap (hS.at_ (A := row 5 1 x.1 (padL l).length x.2 ((padL l).map bv)) (by simp)), rfl, rfl⟩, hS⟩
end
theorem going_built (h : List UInt32) (lh : h.length = 8) : Tryd.prog.built 89 [(0, .agg (h.map w32).toArray)] = some (h.map w32).toArray ∧ Tryd.prog.built 91 [(0, .agg (h.map w32).toArray)] = some (h.map w32).toArray := by
  obtain ⟨a, b, c, d, e, f, g, i, rfl⟩ := eight lh
  exact ⟨by kernel_rfl, by kernel_rfl⟩
theorem going_alloc : ti91.zero = .agg (List.replicate 8 (.int .u32 0)).toArray := by kernel_rfl

/-- the words behind the first blocks of bytes that are filled up -/
def sumW (p : List UInt8) : Nat → List UInt32
  | 0 => startL
  | i + 1 => blockW (sumW p i) ((p.drop (64 * i)).take 64)
theorem sumW_len (p : List UInt8) (i : Nat) : (sumW p i).length = 8 := by cases i <;> simp [sumW, startL, blockW_len]
def wordsB (h : List UInt32) : List UInt8 := h.flatMap fun x => be 4 x.toNat
theorem wordsB_len (h : List UInt32) : (wordsB h).length = 4 * h.length := by
  induction h with
  | nil => rfl
  | cons x h ih => simp [wordsB, List.flatMap_cons, be_len] at ih ⊢; omega
/-- the digest of bytes -/
def sumL (l : List UInt8) : List UInt8 := wordsB (sumW (padL l) ((padL l).length / 64))
theorem sumL_len (l : List UInt8) : (sumL l).length = 32 := by rw [sumL, wordsB_len, sumW_len]
end Go.Proofs.YtdbehejbeioboaaDoor

namespace Go.Proofs.YtdbehejbeioboaaDoor
open Go.RowKit
open Asn (pt row rb)
set_option linter.unusedVariables false
set_option linter.unusedSimpArgs false
--@use N
def noId : List UInt8 := List.replicate 32 0
theorem noId_alloc : ti48.zero = .agg (noId.map bv).toArray := by kernel_rfl
theorem wordsB_next (h : List UInt32) (j : Nat) (hj : j < h.length) : wordsB (h.take (j + 1)) = wordsB (h.take j) ++ be 4 (h.getD j 0).toNat := by
  simp only [wordsB]
  rw [List.take_succ_eq_append_getElem hj, List.flatMap_append]
  simp [hj]

set_option maxRecDepth 100000 in
set_option maxHeartbeats 4000000 in
theorem sum_any (w : World) (A : Option Addr) (n c : Nat) (l : List UInt8) (F : Nat → Prop) (h : Bs w F A n c l) (hn : n ≤ 100000) (hr : Roots w) :
    Gives Tryd.prog 23 [.slice A n c] [] w (X := Unit) (fun x => .agg ((sumL l).map bv).toArray) (fun _ => True) (fun x => []) := by
  refine gives_C Tryd.func23 rfl Tryd.ntmps23 Tryd.results23 (by simp) (St.enter w) (fun B hB => ?_)
  obtain ⟨hb1, hb2⟩ := going_built startL rfl
  focus (refine S_seq rfl ?_; refine S_region rfl rfl ?_; (refine R_eff (E_alloca rfl noId_alloc) ?_ rfl rfl; rintro _ _ ⟨b2, rfl, rfl⟩); refine R_nil (S_seq rfl (S_region rfl rfl ?_)); (refine R_eff E_start ?_ rfl rfl; rintro _ _ ⟨rfl, rfl⟩); refine R_take (T_build1s rfl hb1) ?_ rfl rfl; refine R_take (T_build1s rfl hb1) ?_ rfl rfl; (refine R_eff (E_alloca rfl going_alloc) ?_ rfl rfl; rintro _ _ ⟨b5, rfl, rfl⟩); (refine R_eff0 (E_storew (ds := startL.map w32) (cs := List.replicate 8 (.int .u32 0)) rfl rfl rfl rfl (w32_ones _) rfl) ?_ rfl; rintro _ _ rfl); refine R_nil (S_seq rfl (S_region rfl rfl ?_)); refine R_take (T_func (xs := [.pointer (some ⟨b5, 0, none⟩)]) (ys := []) rfl rfl) ?_ rfl rfl; refine R_p rfl ?_ rfl rfl; refine R_nil ?_; refine S_seq rfl ?_; refine S_seq rfl (S_region rfl rfl ?_); refine R_p rfl ?_ rfl rfl; (refine R_eff (E_pad rfl (Src.old h fun k _ => noOwns k) hn) ?_ rfl rfl; rintro _ _ ⟨A1, c1, hcc, rfl, rfl⟩); refine R_p rfl ?_ rfl rfl; refine R_nil ?_; refine S_block rfl ?_)
  have hN : (padL l).length % 64 = 0 := by rw [padL_len]; omega
  have hN1 : (padL l).length ≤ 100072 := by rw [padL_len]; have := h.len; omega
  have hsum : sumL l = wordsB (sumW (padL l) ((padL l).length / 64)) := rfl
  have hsl := sumL_len l
  obtain ⟨P, hP⟩ : ∃ P, padL l = P := ⟨_, rfl⟩
  rw [hP] at hN hN1 hsum hcc ⊢
  obtain ⟨N, hNP⟩ : ∃ N, P.length = N := ⟨_, rfl⟩
  rw [hNP] at hN hN1 hsum hcc ⊢
  refine S_loop (X := Nat × Option Addr × Nat) (fun x => [(2, .pointer (some ⟨b2, 0, none⟩)), (3, .pointer (some ⟨b5, 0, none⟩)), (4, .func (.func 57) #[.pointer (some ⟨b5, 0, none⟩)] #[]), (5, .slice x.2.1 (N - 64 * x.1) x.2.2)]) (fun x => [pt b5 91 ((sumW P x.1).map w32), row 5 1 A1 N c1 (P.map bv), pt b2 48 (noId.map bv)]) (fun x => 64 * x.1 ≤ N ∧ N - 64 * x.1 ≤ x.2.2 ∧ ∀ w, (row 5 1 A1 N c1 (P.map bv)).holds w → Bs w All x.2.1 (N - 64 * x.1) x.2.2 (P.drop (64 * x.1))) (fun x => N - 64 * x.1) rfl (0, A1, c1) ⟨Nat.zero_le _, hcc, fun w hw => (Bs.of_own hw).more fun _ _ => trivial⟩ (Sub.cons rfl (Sub.cons rfl (Sub.cons rfl (Sub.cons rfl Sub.nil)))) (by rw [show sumW P (0, A1, c1).1 = startL from rfl]; exact sub_st) ?_
  rintro ⟨i, A2, c2⟩ ⟨hi, hic, hI⟩ J hJ
  have hS2 : ∀ {H : List Asn} {Hr : List Asn} [HRow H A1 N c1 5 1 (P.map bv) Hr], Src w (owns []) H A2 (N - 64 * i) c2 (P.drop (64 * i)) := fun {H Hr} hm => ⟨fun w hS => hI w (hS.at_ hm.mem)⟩
  dsimp only at hi hic hI ⊢
  have h64 : 0 < ((N - 64 * i : Nat) : Int) → ((P.drop (64 * i)).take 64).length = 64 := fun hs => by rw [List.length_take, List.length_drop, hNP]; omega
  focus (refine S_seq rfl ?_; refine S_seq rfl (S_region rfl rfl ?_); (iterate 3 refine R_p rfl ?_ rfl rfl); refine R_nil ?_; (refine S_if rfl rfl (fun hs => ?_) (fun hs => ?_)); refine S_skip rfl ?_; refine S_seq rfl ?_; refine S_block rfl ?_; refine S_region rfl rfl ?_; (iterate 2 refine R_p rfl ?_ rfl rfl); refine R_take (T_slhm rfl rfl rfl rfl rfl rfl (by decide) (by omega)) ?_ rfl rfl; refine R_take (T_s2a rfl rfl rfl (by decide)) ?_ rfl rfl; refine R_take (T_ldarr (k := 64) rfl rfl rfl hS2 rfl (by decide) (by omega)) ?_ rfl rfl; (refine R_eff (E_clo1 (pre := [.pointer (some ⟨b5, 0, none⟩)]) rfl (E_into rfl rfl hr (noOwns 0) (sumW_len P i) (h64 hs))) ?_ rfl rfl; rintro _ _ ⟨rfl, rfl⟩); refine R_nil ?_; refine RS_blk ?_; refine S_region rfl rfl ?_; refine R_p rfl ?_ rfl rfl; refine R_take (T_sll (q := 64) rfl rfl rfl rfl rfl (by omega) hic) ?_ rfl rfl; refine R_p rfl ?_ rfl rfl; refine R_nil ?_; rotate_left; refine S_exit rfl rfl ?_; refine S_seq rfl (S_region rfl rfl ?_); refine R_p rfl ?_ rfl rfl; refine R_nil ?_; refine S_seq rfl ?_; refine S_seq rfl (S_region rfl rfl ?_); (iterate 2 refine R_p rfl ?_ rfl rfl); rotate_left)
  · rw [show N - 64 * i - 64 = N - 64 * (i + 1) by omega]
    refine hJ (i + 1, cutP A2 c2 64 1, c2 - 64) _ _ ⟨by dsimp only; omega, by dsimp only; omega, fun w hw => ?_⟩ (Sub.cons rfl (Sub.cons rfl (Sub.cons rfl (Sub.cons rfl Sub.nil)))) (by dsimp only [sumW]; exact sub_st) (by dsimp only; omega)
    have h1 := (hI w hw).cutP (k := 64) (by omega)
    rw [List.drop_drop, show N - 64 * i - 64 = N - 64 * (i + 1) by omega] at h1
    exact h1
  clear hS2 hI hJ h64
  have hi2 : i = N / 64 := by omega
  subst hi2
  have l8 := sumW_len P (N / 64)
  obtain ⟨h8, hh8⟩ : ∃ h8, sumW P (N / 64) = h8 := ⟨_, rfl⟩
  rw [hh8] at hsum l8 ⊢
  have lh2 : (h8.map w32).length = 8 := by simpa using l8
  focus (refine R_take (T_loada (ds := h8.map w32) rfl rfl rfl lh2 (fun j v h => by simpa using h)) ?_ rfl rfl; refine R_p rfl ?_ rfl rfl; refine R_nil ?_; refine S_block rfl ?_)
  refine RS_mem (fun w hS => hS.nilrow 5 1) ?_
  refine S_loop (X := Nat × Option Addr × Nat) (fun x => [(2, .pointer (some ⟨b2, 0, none⟩)), (6, .slice x.2.1 (4 * x.1) x.2.2), (28, .agg (h8.map w32).toArray), (29, .int .i64 (x.1 : Int))]) (fun x => [row 5 1 x.2.1 (4 * x.1) x.2.2 ((wordsB (h8.take x.1)).map bv), pt b2 48 (noId.map bv)]) (fun x => x.1 ≤ 8) (fun x => 8 - x.1) rfl (0, none, 0) (Nat.zero_le _) (Sub.cons rfl (Sub.cons rfl (Sub.cons rfl (Sub.cons rfl Sub.nil)))) (by rw [show (wordsB (h8.take 0)).map bv = [] from rfl]; exact sub_st) ?_
  rintro ⟨j, A3, c3⟩ hj J hJ
  dsimp only at hj ⊢
  focus (refine S_seq rfl ?_; refine S_region rfl rfl ?_; refine R_p rfl ?_ rfl rfl; refine R_nil ?_; refine S_seq rfl ?_; (refine S_if rfl rfl (fun hs => ?_) (fun hs => ?_)); refine S_skip rfl ?_; refine S_seq rfl ?_; refine S_block rfl ?_; refine S_seq rfl (S_region rfl rfl ?_); refine R_take (T_ixv (q := j) (v := w32 (h8.getD j 0)) rfl rfl rfl rfl rfl rfl rfl (by omega) (map_at w32 0 (by rw [l8]; omega))) ?_ rfl rfl; refine R_p rfl ?_ rfl rfl; refine R_nil ?_; refine S_region rfl rfl ?_; (iterate 2 refine R_p rfl ?_ rfl rfl); (refine R_eff (E_put32 (l := wordsB (h8.take j)) (X := (h8.getD j 0).toNat) rfl rfl Src.row (by omega) (UInt32.toNat_lt _)) ?_ rfl rfl; rintro _ _ ⟨A4, c4, rfl, rfl⟩); refine R_p rfl ?_ rfl rfl; refine R_nil ?_; refine RS_blk ?_; refine S_region rfl rfl ?_; refine R_take (T_addN rfl rfl (by unfold fits; omega)) ?_ rfl rfl; refine R_p rfl ?_ rfl rfl; refine R_nil ?_; rotate_left; refine S_exit rfl rfl ?_; refine S_seq rfl (S_region rfl rfl ?_); refine R_p rfl ?_ rfl rfl; refine R_take (T_s2a rfl rfl rfl (by omega)) ?_ rfl rfl; rotate_left)
  · rw [show 4 * j + 4 = 4 * (j + 1) by omega, ← wordsB_next _ _ (by omega)]
    exact hJ (j + 1, A4, c4) _ _ (by dsimp only; omega) (Sub.cons rfl (Sub.cons rfl (Sub.cons rfl (Sub.cons rfl Sub.nil)))) sub_st (by dsimp only; omega)
  · obtain rfl : j = 8 := by omega
    clear hJ
    have e : h8.take 8 = h8 := List.take_of_length_le (by omega)
    rw [e, ← hsum]
    have hl32 : ((sumL l).map bv).length = 32 := by simp [hsl]
    have e2 : (sumL l).take 32 = sumL l := List.take_of_length_le (by omega)
    focus (refine R_take (T_ldarr (k := 32) (m := 4 * 8) (c := c3) (bs := sumL l) rfl rfl rfl Src.row rfl (by decide) (by omega)) ?_ rfl rfl)
    rw [e2]
    focus ((refine R_eff0 (E_storew (ds := (sumL l).map bv) (cs := noId.map bv) rfl rfl rfl hl32 (bv_one _) hl32.symm) ?_ rfl; rintro _ _ rfl); refine R_nil ?_)
    exact hB _ _ _ _ _ rfl (.cell rfl rfl rfl inferInstance hl32 .nil) fun w' hS => ⟨(), rfl, trivial, hS.sublist (List.nil_sublist _)⟩
end Go.Proofs.YtdbehejbeioboaaDoor

namespace Go.Proofs.YtdbehejbeioboaaDoor
open Go.RowKit
open Asn (pt row rb)
set_option linter.unusedVariables false
set_option linter.unusedSimpArgs false
--@use N
/-! the order -/
end Go.Proofs.YtdbehejbeioboaaDoor

namespace Go.Proofs.YtdbehejbeioboaaDoor
open Go.RowKit
open Asn (pt row rb)
set_option linter.unusedVariables false
set_option linter.unusedSimpArgs false
--@use N
end Go.Proofs.YtdbehejbeioboaaDoor

namespace Go.Proofs.YtdbehejbeioboaaDoor
open Go.RowKit
open Asn (pt row rb)
set_option linter.unusedVariables false
set_option linter.unusedSimpArgs false
--@use N
section
variable {n : Nat} {w0 : World} {M : Nat → Prop} {T : Slots} {H Hr : List Asn} {dd : Option Tmp} {tt : TypeId} {pos : String} {af : Array Edge} {g : Option (Nat × Bool)} {x y : Operand} {ts : Array TypeId}
end
section
variable {n : Nat} {w0 : World} {M : Nat → Prop} {T : Slots} {H Hr : List Asn} {dd : Option Tmp} {tt : TypeId} {pos : String} {af : Array Edge} {g : Option (Nat × Bool)} {x y : Operand} {ts : Array TypeId}
end

end Go.Proofs.YtdbehejbeioboaaDoor

namespace Go.Proofs.YtdbehejbeioboaaDoor
open Go.RowKit
open Asn (pt row rb)
set_option linter.unusedVariables false
set_option linter.unusedSimpArgs false
--@use N
section
variable {P : Program} {n : Nat} {w0 : World} {M : Nat → Prop} {T : Slots} {H Hr : List Asn} {dd : Option Tmp} {tt : TypeId} {pos : String} {af : Array Edge} {g : Option (Nat × Bool)} {x y : Operand}
theorem T_wdiv {t u : TypeId} {a b : UInt32} (hx : oget T x = some (.int .u32 (a.toNat : Int))) (hy : oget T y = some (.int .u32 (b.toNat : Int))) (hb : 0 < b.toNat) :
    Tk P n w0 M T H ⟨dd, .binOp .quo t x y u, tt, pos, af, g⟩ (.int .u32 ((a / b).toNat : Int)) := by
  have ha := a.toNat_lt
  have h := T_divN (P := P) (n := n) (w0 := w0) (M := M) (H := H) (dd := dd) (tt := tt) (pos := pos) (af := af) (g := g) (t := t) (u := u) (p := a.toNat) (q := b.toNat) hx hy hb (by unfold fits; exact ⟨Int.natCast_nonneg _, Int.ofNat_le.2 (Nat.le_trans (Nat.div_le_self a.toNat b.toNat) (show a.toNat ≤ 4294967295 by omega))⟩)
  rwa [UInt32.toNat_div]
theorem T_wmod {t u : TypeId} {a b : UInt32} (hx : oget T x = some (.int .u32 (a.toNat : Int))) (hy : oget T y = some (.int .u32 (b.toNat : Int))) (hb : 0 < b.toNat) :
    Tk P n w0 M T H ⟨dd, .binOp .rem t x y u, tt, pos, af, g⟩ (.int .u32 ((a % b).toNat : Int)) := by
  have h := T_modN (P := P) (n := n) (w0 := w0) (M := M) (H := H) (dd := dd) (tt := tt) (pos := pos) (af := af) (g := g) (t := t) (u := u) (p := a.toNat) (q := b.toNat) hx hy hb
  rwa [UInt32.toNat_mod]
/-- by a power of two -/
theorem T_wdiv2 {t u : TypeId} {a : UInt32} {k : Nat} (hx : oget T x = some (.int .u32 (a.toNat : Int))) (hy : oget T y = some (.int .u32 ((2 ^ k : Nat) : Int))) :
    Tk P n w0 M T H ⟨dd, .binOp .quo t x y u, tt, pos, af, g⟩ (.int .u32 ((shr32 a k).toNat : Int)) := by
  have ha := a.toNat_lt
  have h := T_divN (P := P) (n := n) (w0 := w0) (M := M) (H := H) (dd := dd) (tt := tt) (pos := pos) (af := af) (g := g) (t := t) (u := u) (p := a.toNat) (q := 2 ^ k) hx hy (Nat.pow_pos (by decide)) (by unfold fits; exact ⟨Int.natCast_nonneg _, Int.ofNat_le.2 (Nat.le_trans (Nat.div_le_self a.toNat (2 ^ k)) (show a.toNat ≤ 4294967295 by omega))⟩)
  rwa [shr32_nat]
theorem T_buildl {s : TypeId} {xs : Array (Nat × Operand)} {is : List Nat} {us : List Value} {cs : List Value} (hx : ogets T (xs.toList.map (·.2)) = some us) (hi : xs.toList.map (·.1) = is) (hb : P.built s (is.zip us) = some cs.toArray) :
    Tk P n w0 M T H ⟨dd, .build s xs, tt, pos, af, g⟩ (.agg cs.toArray) := .mk fun a w ha hS => by
  have e : (xs.map fun x => (x.1, a.eval x.2)).toList = is.zip us := by
    have h1 := ha.evals hx
    rw [Array.toList_map, ← hi, ← h1]
    simp [List.zip_map']
  have hr := run_build (P := P) w s (xs.map fun x => (x.1, a.eval x.2)) cs.toArray (by rw [e]; exact hb)
  simp only [execOp, Sem.run_bind, hr, Result.andThen_ok, Sem.run_pure]
end
theorem one_shl {n : Nat} (h : n ≤ 31) : (shl32 1 n).toNat = 2 ^ n := by
  rw [shl32_nat, show (1 : UInt32).toNat = 1 from rfl, Nat.one_mul, Nat.mod_eq_of_lt]
  exact Nat.pow_lt_pow_right (by decide) (show n < 32 by omega)
theorem turned_eq (x : UInt32) (n : Nat) (h1 : 1 ≤ n) (h2 : n ≤ 31) : x / shl32 1 n + x % shl32 1 n * shl32 1 (32 - n) = turn x n := by
  apply UInt32.toNat_inj.1
  have hx := x.toNat_lt
  have e1 : (2 : Nat) ^ 32 = 2 ^ n * 2 ^ (32 - n) := by rw [← Nat.pow_add]; congr 1; omega
  have hlt : x.toNat / 2 ^ n < 2 ^ (32 - n) := by
    rw [Nat.div_lt_iff_lt_mul (Nat.pow_pos (by decide)), Nat.mul_comm, ← e1]
    exact hx
  have hm : x.toNat % 2 ^ n < 2 ^ n := Nat.mod_lt _ (Nat.pow_pos (by decide))
  have hb : x.toNat % 2 ^ n * 2 ^ (32 - n) + 2 ^ (32 - n) ≤ 2 ^ 32 := by
    rw [e1]
    have : (x.toNat % 2 ^ n + 1) * 2 ^ (32 - n) ≤ 2 ^ n * 2 ^ (32 - n) := Nat.mul_le_mul_right _ hm
    rwa [Nat.add_mul, Nat.one_mul] at this
  have hp : 0 < 2 ^ (32 - n) := Nat.pow_pos (by decide)
  have hb1 : x.toNat % 2 ^ n * 2 ^ (32 - n) < 2 ^ 32 := Nat.lt_of_lt_of_le (Nat.lt_add_of_pos_right hp) hb
  have hb2 : x.toNat / 2 ^ n + x.toNat % 2 ^ n * 2 ^ (32 - n) < 2 ^ 32 := Nat.lt_of_lt_of_le (by rw [Nat.add_comm]; exact Nat.add_lt_add_left hlt _) hb
  rw [UInt32.toNat_add, UInt32.toNat_mul, UInt32.toNat_div, UInt32.toNat_mod, one_shl (by omega), one_shl (by omega), Nat.mod_eq_of_lt (b := 2 ^ 32) (show x.toNat % 2 ^ n * 2 ^ (32 - n) < 2 ^ 32 from hb1), Nat.mod_eq_of_lt (show x.toNat / 2 ^ n + x.toNat % 2 ^ n * 2 ^ (32 - n) < 2 ^ 32 from hb2)]
  show _ = (shr32 x n ||| shl32 x (32 - n)).toNat
  rw [UInt32.toNat_or, shr32_nat, shl32_nat, show (4294967296 : Nat) = 2 ^ n * 2 ^ (32 - n) by rw [← e1], Nat.mul_mod_mul_right, Nat.or_comm, ← Nat.shiftLeft_eq (x.toNat % 2 ^ n), ← Nat.shiftLeft_add_eq_or_of_lt hlt, Nat.add_comm]

set_option maxRecDepth 100000 in
set_option maxHeartbeats 4000000 in
theorem turned_any (w : World) (x : UInt32) (n : Nat) (h1 : 1 ≤ n) (h2 : n ≤ 31) :
    Gives Tryd.prog 81 [.int .u32 (x.toNat : Int), .int .u64 (n : Int)] [] w (X := Unit) (fun _ => .int .u32 ((turn x n).toNat : Int)) (fun _ => True) (fun x => []) := by
  refine gives_S Tryd.func81 rfl Tryd.ntmps81 Tryd.results81 (by simp) (St.enter w) (fun B hB => ?_)
  have hp : 0 < (shl32 1 n).toNat := by rw [one_shl h2]; exact Nat.pow_pos (by decide)
  focus (refine S_seq rfl ?_; refine S_region rfl rfl ?_; refine R_p rfl ?_ rfl rfl; refine R_nil (S_seq rfl (S_region rfl rfl ?_)); (iterate 2 refine R_p rfl ?_ rfl rfl); refine R_take (T_wshl (a := 1) (q := n) rfl rfl (by omega)) ?_ rfl rfl; refine R_take (T_wmod rfl rfl hp) ?_ rfl rfl; refine R_p rfl ?_ rfl rfl; refine R_nil (S_seq rfl (S_region rfl rfl ?_)); (iterate 2 refine R_p rfl ?_ rfl rfl); refine R_take (T_wshl (a := 1) (q := n) rfl rfl (by omega)) ?_ rfl rfl; refine R_take (T_wdiv rfl rfl hp) ?_ rfl rfl; (iterate 2 refine R_p rfl ?_ rfl rfl); refine R_take (T_subN rfl rfl (by omega) (by unfold fits; omega)) ?_ rfl rfl; refine R_take (T_wshl (a := 1) (q := 32 - n) rfl rfl (by omega)) ?_ rfl rfl; refine R_take (T_w32 rfl rfl rfl) ?_ rfl rfl; refine R_take (T_w32 rfl rfl rfl) ?_ rfl rfl; refine R_p rfl ?_ rfl rfl; refine R_nil ?_)
  rw [turned_eq x n h1 h2]
  exact hB _ _ _ _ _ rfl rfl fun w' hS => ⟨(), rfl, trivial, hS⟩
section
variable {n : Nat} {w0 : World} {M : Nat → Prop} {T : Slots} {H Hr : List Asn} {dd : Option Tmp} {tt : TypeId} {pos : String} {af : Array Edge} {g : Option (Nat × Bool)} {x y z : Operand} {ts : Array TypeId}
theorem E_turned {a : UInt32} {z : Int} (q : Nat) (hx : oget T x = some (.int .u32 (a.toNat : Int))) (hy : oget T y = some (.int .u64 z)) [hz : NatOf z q] (h1 : 1 ≤ q) (h2 : q ≤ 31) :
    Ef Tryd.prog n w0 M T H ⟨dd, .call ⟨.value (.func 81), #[x, y], ts⟩, tt, pos, af, g⟩ (fun u H' => u = .int .u32 ((turn a q).toNat : Int) ∧ H' = H) := by
  rw [hz.is] at hy
  refine (E_gv ⟨_, Tryd.func81, rfl, by kernel_rfl⟩ (vs := [.int .u32 (a.toNat : Int), .int .u64 (q : Int)]) (by simp [ogets, hx, hy]) fun w hS => turned_any w a q h1 h2).mono ?_
  rintro v H' ⟨_, rfl, _, rfl⟩ w hS
  exact ⟨_, _, rfl, ⟨rfl, rfl⟩, hS⟩
theorem E_number {A : Option Addr} {m c : Nat} {l : List UInt8} (hx : oget T x = some (.slice A m c)) (hs : Src w0 M H A m c l) :
    Ef Tryd.prog n w0 M T H ⟨dd, .call ⟨.value (.func 46), #[x], ts⟩, tt, pos, af, g⟩ (fun u H' => u = .int .u64 (num64 l) ∧ H' = H) :=
  E_g0 ⟨_, Tryd.func46, rfl, by kernel_rfl⟩ (vs := [.slice A m c]) (by simp [ogets, hx]) fun w hS => (number_any w A m c l All (hs.bs w hS)).mono fun e w' ⟨he, hw⟩ => ⟨he, hw ▸ Kp.refl _ _⟩
end
theorem num64_4 {l : List UInt8} (h : l.length = 4) : num64 l = (UInt32.ofNat (num l)).toNat := by
  have := num_le l 4 (by omega)
  unfold num64 M64
  rw [UInt32.toNat_ofNat']
  omega
theorem mix2 (x : UInt32) (a b : Nat) : mixW x [a, b] = turn x a ^^^ turn x b := by simp [mixW]
theorem mix3 (x : UInt32) (a b c : Nat) : mixW x [a, b, c] = turn x a ^^^ turn x b ^^^ turn x c := by simp [mixW]
theorem sched_at {l : List UInt8} {t j : Nat} (h : j < t) : ((sched l t).map w32)[j]? = some (w32 ((sched l t).getD j 0)) := map_at w32 0 (by rw [sched_len]; exact h)
theorem sched_next16 {l : List UInt8} {t : Nat} (h : t < 16) : (sched l t).map w32 ++ [.int .u32 ((UInt32.ofNat (num ((l.drop (4 * t)).take 4))).toNat : Int)] = (sched l (t + 1)).map w32 := by
  rw [sched, List.map_append, nextW, if_pos h]
  rfl
theorem sched_next {l : List UInt8} {t : Nat} (h : ¬ t < 16) {v : UInt32} (hv : v = (turn ((sched l t).getD (t - 2) 0) 17 ^^^ turn ((sched l t).getD (t - 2) 0) 19 ^^^ shr32 ((sched l t).getD (t - 2) 0) 10) + (sched l t).getD (t - 7) 0 + (turn ((sched l t).getD (t - 15) 0) 7 ^^^ turn ((sched l t).getD (t - 15) 0) 18 ^^^ shr32 ((sched l t).getD (t - 15) 0) 3) + (sched l t).getD (t - 16) 0) : (sched l t).map w32 ++ [.int .u32 (v.toNat : Int)] = (sched l (t + 1)).map w32 := by
  rw [sched, List.map_append, nextW, if_neg h, mix2, mix2, hv]
  congr 1
  simp only [List.map_cons, List.map_nil, w32]
  congr 4
  ac_rfl
end Go.Proofs.YtdbehejbeioboaaDoor

namespace Go.Proofs.YtdbehejbeioboaaDoor
open Go.RowKit
open Asn (pt row rb)
set_option linter.unusedVariables false
set_option linter.unusedSimpArgs false
--@use N
set_option maxRecDepth 100000 in
set_option maxHeartbeats 4000000 in
theorem out_any (w : World) (A : Option Addr) (n c : Nat) (l : List UInt8) (F : Nat → Prop) (hA : Bs w F A n c l) (hl : l.length = 64) :
    Gives Tryd.prog 80 [.slice A n c] [] w (X := Option Addr × Nat) (fun x => .slice x.1 64 x.2) (fun _ => True) (fun x => [row 72 1 x.1 64 x.2 ((sched l 64).map w32)]) := by
  refine gives_S Tryd.func80 rfl Tryd.ntmps80 Tryd.results80 (by simp) (St.enter w) (fun B hB => ?_)
  have hln := hA.len
  have hcap := hA.cap
  focus (refine S_seq rfl ?_; refine S_region rfl rfl ?_; refine R_p rfl ?_ rfl rfl; refine R_nil (S_seq rfl (S_region rfl rfl ?_)); refine R_p rfl ?_ rfl rfl; refine R_nil ?_; refine S_seq rfl ?_; refine S_seq rfl (S_region rfl rfl ?_); refine R_p rfl ?_ rfl rfl; refine R_nil ?_; refine S_block rfl ?_)
  refine RS_mem (fun w hS => hS.nilrow 72 1) ?_
  refine S_loop (X := Nat × Option Addr × Nat) (fun x => [(0, .slice A n c), (3, .slice x.2.1 x.1 x.2.2), (4, .int .i64 (x.1 : Int))]) (fun x => [row 72 1 x.2.1 x.1 x.2.2 ((sched l x.1).map w32)]) (fun x => x.1 ≤ 64) (fun x => 64 - x.1) rfl (0, none, 0) (Nat.zero_le _) (Sub.cons rfl (Sub.cons rfl (Sub.cons rfl Sub.nil))) (fun w hS => sub_st (H := [row 72 1 none 0 0 []]) (H' := [row 72 1 none 0 0 []]) w hS) ?_
  rintro ⟨t, A3, c3⟩ ht J hJ
  dsimp only at ht ⊢
  refine RS_row A3 t c3 fun hrc hrm hne hrl => ?_
  have hP : t < 16 → Bs w F (cutP A c (4 * t) 1) (4 * t + 4 - 4 * t) (c - 4 * t) ((l.drop (4 * t)).take 4) := fun h => by
    have h1 := hA.part (q := 4 * t) (r := 4 * t + 4) (by omega) (by omega)
    rwa [show 4 * t + 4 - 4 * t = 4 by omega] at h1 ⊢
  have hlen : t < 16 → ((l.drop (4 * t)).take 4).length = 4 := fun h => by rw [List.length_take, List.length_drop]; omega
  obtain ⟨v, hv⟩ : ∃ v, v = UInt32.ofNat (num ((l.drop (4 * t)).take 4)) := ⟨_, rfl⟩
  have hv2 := v.toNat_lt
  focus (refine S_seq rfl ?_; refine S_seq rfl (S_region rfl rfl ?_); (iterate 2 refine R_p rfl ?_ rfl rfl); refine R_nil ?_; (refine S_if rfl rfl (fun hs => ?_) (fun hs => ?_)); refine S_skip rfl ?_; refine S_seq rfl ?_; refine S_block rfl ?_; refine S_seq rfl ?_; refine S_seq rfl (S_region rfl rfl ?_); (iterate 2 refine R_p rfl ?_ rfl rfl); refine R_nil ?_; (refine S_if rfl rfl (fun hs => ?_) (fun hs => ?_)); refine S_seq rfl (S_region rfl rfl ?_); (iterate 3 refine R_p rfl ?_ rfl rfl); refine R_take (T_mulN rfl rfl (by unfold fits; omega)) ?_ rfl rfl; refine R_p rfl ?_ rfl rfl; refine R_take (T_mulN rfl rfl (by unfold fits; omega)) ?_ rfl rfl; refine R_take (T_addN rfl rfl (by unfold fits; omega)) ?_ rfl rfl; refine R_take (T_slb (q := 4 * t) (r := 4 * t + 4) rfl rfl rfl rfl rfl rfl (by omega) (by omega)) ?_ rfl rfl; (refine R_eff (E_number (l := (l.drop (4 * t)).take 4) rfl (Src.old (hP (by omega)) fun k _ => noOwns k)) ?_ rfl rfl; rintro _ _ ⟨rfl, rfl⟩; rw [num64_4 (hlen (by omega)), ← hv]); refine R_take (T_convf rfl rfl rfl rfl (by unfold fits; omega)) ?_ rfl rfl; (refine R_eff (E_lit1 (vs := [.int .u32 (v.toNat : Int)]) rfl rfl rfl rfl rfl rfl rfl (by simp [Value.oneCell']) (by decide)) ?_ rfl rfl; rintro _ _ ⟨bl1, rfl, rfl⟩); (refine R_eff (E_app1 (m2 := 1) (news := [.int .u32 (v.toNat : Int)]) rfl rfl rfl rfl rfl rfl rfl (Srd.pt rfl (fun j v h => by simpa using h)) (by simp [Value.oneCell']) (by simp only [ti72]; omega) (by unfold maxLen; omega)) ?_ rfl rfl; rintro _ _ ⟨A4, c4, rfl, rfl⟩); refine R_p rfl ?_ rfl rfl; refine R_nil ?_; refine S_exit rfl rfl ?_; refine S_region rfl rfl ?_; refine R_p rfl ?_ rfl rfl; refine R_take (T_addN rfl rfl (by unfold fits; omega)) ?_ rfl rfl; refine R_p rfl ?_ rfl rfl; refine R_nil ?_; rotate_left; refine S_skip rfl ?_; refine S_seq rfl ?_; (refine S_draw _ (fun _ h => h) (by kernel_rfl) rfl (by kernel_rfl) (rfl : _ = 12) ?_; (refine D_take 0 rfl (pev_ok rfl) ?_ rfl rfl (by kernel_rfl) (by kernel_rfl)); (refine D_take 1 rfl (pev_ok rfl) ?_ rfl rfl (by kernel_rfl) (by kernel_rfl)); ((refine D_take 2 rfl (T_subN rfl rfl (by omega) (by unfold fits; omega)) ?_ rfl rfl (by kernel_rfl) (by kernel_rfl))); (refine D_take 3 rfl (T_ixN rfl rfl rfl rfl rfl rfl (by first | assumption | exact hne (by omega) | exact hne2 (by omega)) (by omega)) ?_ rfl rfl (by kernel_rfl) (by kernel_rfl)); (refine D_take 4 rfl (T_ldr (sz := 1) (m := t) (v := w32 ((sched l t).getD (t - 2) 0)) rfl rfl rfl (Srd.row (c := c3)) (by omega) (sched_at (j := t - 2) (by omega))) ?_ rfl rfl (by kernel_rfl) (by kernel_rfl)); (refine D_take 5 rfl (pev_ok rfl) ?_ rfl rfl (by kernel_rfl) (by kernel_rfl)); (refine D_take 6 rfl (pev_ok rfl) ?_ rfl rfl (by kernel_rfl) (by kernel_rfl)); ((refine D_take 7 rfl (T_subN rfl rfl (by omega) (by unfold fits; omega)) ?_ rfl rfl (by kernel_rfl) (by kernel_rfl))); (refine D_take 8 rfl (T_ixN rfl rfl rfl rfl rfl rfl (by first | assumption | exact hne (by omega) | exact hne2 (by omega)) (by omega)) ?_ rfl rfl (by kernel_rfl) (by kernel_rfl)); (refine D_take 9 rfl (T_ldr (sz := 1) (m := t) (v := w32 ((sched l t).getD (t - 15) 0)) rfl rfl rfl (Srd.row (c := c3)) (by omega) (sched_at (j := t - 15) (by omega))) ?_ rfl rfl (by kernel_rfl) (by kernel_rfl)); (refine D_take 10 rfl (pev_ok rfl) ?_ rfl rfl (by kernel_rfl) (by kernel_rfl)); (refine D_take 11 rfl (pev_ok rfl) ?_ rfl rfl (by kernel_rfl) (by kernel_rfl)); refine D_done ?_ (by kernel_rfl)); refine S_seq rfl (S_region rfl rfl ?_); refine R_p rfl ?_ rfl rfl; (refine R_eff (E_turned 17 rfl rfl (by decide) (by decide)) ?_ rfl rfl; rintro _ _ ⟨rfl, rfl⟩); refine R_p rfl ?_ rfl rfl; (refine R_eff (E_turned 19 rfl rfl (by decide) (by decide)) ?_ rfl rfl; rintro _ _ ⟨rfl, rfl⟩); refine R_take (T_w32 rfl rfl rfl) ?_ rfl rfl; refine R_p rfl ?_ rfl rfl; refine R_take (T_wdiv2 (k := 10) rfl rfl) ?_ rfl rfl; refine R_take (T_w32 rfl rfl rfl) ?_ rfl rfl; refine R_p rfl ?_ rfl rfl; refine R_nil (S_seq rfl (S_region rfl rfl ?_)); refine R_p rfl ?_ rfl rfl; (refine R_eff (E_turned 7 rfl rfl (by decide) (by decide)) ?_ rfl rfl; rintro _ _ ⟨rfl, rfl⟩); refine R_p rfl ?_ rfl rfl; (refine R_eff (E_turned 18 rfl rfl (by decide) (by decide)) ?_ rfl rfl; rintro _ _ ⟨rfl, rfl⟩); refine R_take (T_w32 rfl rfl rfl) ?_ rfl rfl; refine R_p rfl ?_ rfl rfl; refine R_take (T_wdiv2 (k := 3) rfl rfl) ?_ rfl rfl; refine R_take (T_w32 rfl rfl rfl) ?_ rfl rfl; refine R_p rfl ?_ rfl rfl; refine R_nil ?_; rotate_left; refine S_exit rfl rfl ?_; refine S_seq rfl (S_region rfl rfl ?_); (iterate 2 refine R_p rfl ?_ rfl rfl); refine R_nil ?_; rotate_left)
  · rw [hv, sched_next16 (by omega)]
    exact hJ (t + 1, A4, c4) _ _ (by dsimp only; omega) (Sub.cons rfl (Sub.cons rfl (Sub.cons rfl Sub.nil))) sub_st (by dsimp only; omega)
  · skip
    obtain ⟨u, hu⟩ : ∃ u, u = (turn ((sched l t).getD (t - 2) 0) 17 ^^^ turn ((sched l t).getD (t - 2) 0) 19 ^^^ shr32 ((sched l t).getD (t - 2) 0) 10) + (sched l t).getD (t - 7) 0 + (turn ((sched l t).getD (t - 15) 0) 7 ^^^ turn ((sched l t).getD (t - 15) 0) 18 ^^^ shr32 ((sched l t).getD (t - 15) 0) 3) + (sched l t).getD (t - 16) 0 := ⟨_, rfl⟩
    refine S_draw ([row 72 1 A3 t c3 ((sched l t).map w32)]) sub_st (by kernel_rfl) rfl (by kernel_rfl) (by kernel_rfl : _ = 19) ?_
    refine D_take 0 rfl (pev_ok rfl) ?_ rfl rfl (by kernel_rfl) (by kernel_rfl)
    refine D_take 1 rfl (pev_ok rfl) ?_ rfl rfl (by kernel_rfl) (by kernel_rfl)
    refine D_take 2 rfl (pev_ok rfl) ?_ rfl rfl (by kernel_rfl) (by kernel_rfl)
    refine D_take 3 rfl (pev_ok rfl) ?_ rfl rfl (by kernel_rfl) (by kernel_rfl)
    (refine D_take 4 rfl (T_subN rfl rfl (by omega) (by unfold fits; omega)) ?_ rfl rfl (by kernel_rfl) (by kernel_rfl))
    refine D_take 5 rfl (T_ixN rfl rfl rfl rfl rfl rfl (by first | assumption | exact hne (by omega) | exact hne2 (by omega)) (by omega)) ?_ rfl rfl (by kernel_rfl) (by kernel_rfl)
    refine D_take 6 rfl (T_ldr (sz := 1) (m := t) (v := w32 ((sched l t).getD (t - 7) 0)) rfl rfl rfl (Srd.row (c := c3)) (by omega) (sched_at (j := t - 7) (by omega))) ?_ rfl rfl (by kernel_rfl) (by kernel_rfl)
    refine D_take 7 rfl (T_w32 rfl rfl rfl) ?_ rfl rfl (by kernel_rfl) (by kernel_rfl)
    refine D_take 8 rfl (pev_ok rfl) ?_ rfl rfl (by kernel_rfl) (by kernel_rfl)
    refine D_take 9 rfl (T_w32 rfl rfl rfl) ?_ rfl rfl (by kernel_rfl) (by kernel_rfl)
    refine D_take 10 rfl (pev_ok rfl) ?_ rfl rfl (by kernel_rfl) (by kernel_rfl)
    refine D_take 11 rfl (pev_ok rfl) ?_ rfl rfl (by kernel_rfl) (by kernel_rfl)
    (refine D_take 12 rfl (T_subN rfl rfl (by omega) (by unfold fits; omega)) ?_ rfl rfl (by kernel_rfl) (by kernel_rfl))
    refine D_take 13 rfl (T_ixN rfl rfl rfl rfl rfl rfl (by first | assumption | exact hne (by omega) | exact hne2 (by omega)) (by omega)) ?_ rfl rfl (by kernel_rfl) (by kernel_rfl)
    refine D_take 14 rfl (T_ldr (sz := 1) (m := t) (v := w32 ((sched l t).getD (t - 16) 0)) rfl rfl rfl (Srd.row (c := c3)) (by omega) (sched_at (j := t - 16) (by omega))) ?_ rfl rfl (by kernel_rfl) (by kernel_rfl)
    refine D_take 15 rfl (T_w32 rfl rfl rfl) ?_ rfl rfl (by kernel_rfl) (by kernel_rfl)
    refine D_one 16 rfl (E_lit1 (vs := [.int .u32 (((turn ((sched l t).getD (t - 2) 0) 17 ^^^ turn ((sched l t).getD (t - 2) 0) 19 ^^^ shr32 ((sched l t).getD (t - 2) 0) 10) + (sched l t).getD (t - 7) 0 + (turn ((sched l t).getD (t - 15) 0) 7 ^^^ turn ((sched l t).getD (t - 15) 0) 18 ^^^ shr32 ((sched l t).getD (t - 15) 0) 3) + (sched l t).getD (t - 16) 0).toNat : Int)]) rfl rfl rfl rfl rfl rfl rfl (by simp [Value.oneCell']) (by decide)) ?_ rfl rfl (by kernel_rfl)
    rintro _ _ ⟨bl1, rfl, rfl⟩; rw [← hu]
    refine Nx_same sub_st ?_
    refine D_one 17 rfl (E_app1 (m2 := 1) (news := [.int .u32 (u.toNat : Int)]) rfl rfl rfl rfl rfl rfl rfl (Srd.pt rfl (fun j v h => by simpa using h)) (by simp [Value.oneCell']) (by simp only [ti72]; omega) (by unfold maxLen; omega)) ?_ rfl rfl (by kernel_rfl)
    rintro _ _ ⟨A4, c4, rfl, rfl⟩
    refine Nx_pivot (by kernel_rfl) ?_
    refine D_take 18 rfl (pev_ok rfl) ?_ rfl rfl (by kernel_rfl) (by kernel_rfl)
    refine D_done ?_ (by kernel_rfl)
    skip
    rw [sched_next (by omega) hu]
    focus (refine RS_blk ?_; refine S_region rfl rfl ?_; refine R_p rfl ?_ rfl rfl; refine R_take (T_addN rfl rfl (by unfold fits; omega)) ?_ rfl rfl; refine R_p rfl ?_ rfl rfl; refine R_nil ?_)
    exact hJ (t + 1, A4, c4) _ _ (by dsimp only; omega) (Sub.cons rfl (Sub.cons rfl (Sub.cons rfl Sub.nil))) sub_st (by dsimp only; omega)
  · obtain rfl : t = 64 := by omega
    exact hB _ _ _ _ _ rfl rfl fun w' hS => ⟨(A3, c3), rfl, trivial, hS⟩
end Go.Proofs.YtdbehejbeioboaaDoor

namespace Go.Proofs.YtdbehejbeioboaaDoor
open Go.RowKit
open Asn (pt row rb)
set_option linter.unusedVariables false
set_option linter.unusedSimpArgs false
--@use N
theorem u32_ext {a b : UInt32} (h : ∀ i, a.toBitVec.getLsbD i = b.toBitVec.getLsbD i) : a = b := by
  apply UInt32.toBitVec_inj.1
  apply BitVec.eq_of_getLsbD_eq
  intro i _
  exact h i
theorem not_sub (e : UInt32) : 4294967295 - e = ~~~e := by
  apply UInt32.toNat_inj.1
  have := e.toNat_lt
  rw [UInt32.toNat_sub, UInt32.toNat_not]
  show (2 ^ 32 - e.toNat + 4294967295) % 2 ^ 32 = 2 ^ 32 - 1 - e.toNat
  omega
theorem ch_eq (e f g : UInt32) : (e &&& f ||| (4294967295 - e) &&& g) = g ^^^ (e &&& (f ^^^ g)) := by
  rw [not_sub]
  apply u32_ext
  intro i
  simp only [UInt32.toBitVec_or, UInt32.toBitVec_and, UInt32.toBitVec_xor, UInt32.toBitVec_not, BitVec.getLsbD_or, BitVec.getLsbD_and, BitVec.getLsbD_xor, BitVec.getLsbD_not]
  by_cases hi : i < 32
  · cases e.toBitVec.getLsbD i <;> cases f.toBitVec.getLsbD i <;> cases g.toBitVec.getLsbD i <;> simp [hi]
  · have h : ∀ x : UInt32, x.toBitVec.getLsbD i = false := fun x => BitVec.getLsbD_of_ge _ _ (by omega)
    simp [h]
theorem maj_eq (a b c : UInt32) : (a &&& b ||| a &&& c ||| b &&& c) = (a &&& b ||| c &&& (a ||| b)) := by
  apply u32_ext
  intro i
  simp only [UInt32.toBitVec_or, UInt32.toBitVec_and, BitVec.getLsbD_or, BitVec.getLsbD_and]
  cases a.toBitVec.getLsbD i <;> cases b.toBitVec.getLsbD i <;> cases c.toBitVec.getLsbD i <;> rfl
theorem T_sub32 {P : Program} {n : Nat} {w0 : World} {M : Nat → Prop} {T : Slots} {H : List Asn} {dd : Option Tmp} {tt : TypeId} {pos : String} {af : Array Edge} {g : Option (Nat × Bool)} {y : Operand} {t u : TypeId} {b : UInt32} (hy : oget T y = some (.int .u32 (b.toNat : Int))) :
    Tk P n w0 M T H ⟨dd, .binOp .sub t (.const (.int .u32 4294967295)) y u, tt, pos, af, g⟩ (.int .u32 ((4294967295 - b).toNat : Int)) := T_w32 (a := 4294967295) (b := b) rfl hy rfl
theorem len8 (a b c d e f g h : UInt32) : ([a, b, c, d, e, f, g, h].map w32).length = 8 := rfl
theorem w8_built (a b c d e f g h : UInt32) : Tryd.prog.built 86 ([0, 1, 2, 3, 4, 5, 6, 7].zip [w32 a, w32 b, w32 c, w32 d, w32 e, w32 f, w32 g, w32 h]) = some ([a, b, c, d, e, f, g, h].map w32).toArray := by kernel_rfl
section
variable {n : Nat} {w0 : World} {M : Nat → Prop} {T : Slots} {H Hr : List Asn} {dd : Option Tmp} {tt : TypeId} {pos : String} {af : Array Edge} {g : Option (Nat × Bool)} {x y z : Operand} {ts : Array TypeId}
theorem E_out {A : Option Addr} {m c : Nat} {l : List UInt8} (hx : oget T x = some (.slice A m c)) (hs : Src w0 M H A m c l) (hl : l.length = 64) :
    Ef Tryd.prog n w0 M T H ⟨dd, .call ⟨.value (.func 80), #[x], ts⟩, tt, pos, af, g⟩ (fun u H' => ∃ A' c', A' ≠ none ∧ u = .slice A' 64 c' ∧ H' = row 72 1 A' 64 c' ((sched l 64).map w32) :: H) := by
  refine (E_gv ⟨_, Tryd.func80, rfl, by kernel_rfl⟩ (vs := [.slice A m c]) (by simp [ogets, hx]) fun w hS => out_any w A m c l All (hs.bs w hS) hl).mono ?_
  rintro v H' ⟨x, rfl, _, rfl⟩ w hS
  exact ⟨_, _, rfl, ⟨x.1, x.2, (row_facts (hS.at_ (A := row 72 1 x.1 64 x.2 ((sched l 64).map w32)) (by simp))).2.2.1 (by decide), rfl, rfl⟩, hS⟩
end

set_option maxRecDepth 100000 in
set_option maxHeartbeats 4000000 in
theorem refinto_any (w : World) (h : List UInt32) (lh : h.length = 8) (A : Option Addr) (n c : Nat) (l : List UInt8) (F : Nat → Prop) (hA : Bs w F A n c l) (hl : l.length = 64) (Ak : Option Addr) (ck : Nat) (hK : Rd w All 1 Ak 64 (rootsL.map w32)) :
    Gives Tryd.prog 65 [.agg (h.map w32).toArray, .slice A n c, .slice Ak 64 ck] [] w (X := Unit) (fun x => .agg ((blockW h l).map w32).toArray) (fun _ => True) (fun x => []) := by
  refine gives_C Tryd.func65 rfl Tryd.ntmps65 Tryd.results65 (by simp) (St.enter w) (fun B hB => ?_)
  have lh2 : (h.map w32).length = 8 := by simpa using lh
  have hneK : Ak ≠ none := by obtain ⟨ad, rfl, _⟩ := hK.2 (by decide); simp
  focus (refine S_seq rfl ?_; refine S_region rfl rfl ?_; (refine R_eff (E_boxa rfl) ?_ rfl rfl; rintro _ _ ⟨b3, rfl, rfl⟩); (refine R_eff (E_alloca rfl z8_alloc) ?_ rfl rfl; rintro _ _ ⟨_, rfl, rfl⟩); refine R_nil (S_seq rfl (S_region rfl rfl ?_)); refine R_p rfl ?_ rfl rfl; (refine R_eff (E_out rfl (Src.old hA fun k _ => noOwns k) hl) ?_ rfl rfl; rintro _ _ ⟨A7, c7, hne7, rfl, rfl⟩); refine R_p rfl ?_ rfl rfl; refine R_nil (S_seq rfl (S_region rfl rfl ?_)); refine R_take (T_loada (ds := h.map w32) rfl rfl rfl lh2 (fun j v h => by simpa using h)) ?_ rfl rfl; (refine R_eff (E_alloca rfl z8_alloc) ?_ rfl rfl; rintro _ _ ⟨_, rfl, rfl⟩); (refine R_eff0 (E_storew (ds := h.map w32) (cs := List.replicate 8 (.int .u32 0)) rfl rfl rfl lh2 (w32_ones _) lh2.symm) ?_ rfl; rintro _ _ rfl); refine R_nil ?_; refine S_seq rfl ?_; refine S_seq rfl (S_region rfl rfl ?_); refine R_p rfl ?_ rfl rfl; refine R_nil ?_; refine S_block rfl ?_)
  rename_i b6 b8 _
  refine S_loop (X := Nat) (fun t => [(2, .slice Ak 64 ck), (3, .pointer (some ⟨b3, 0, none⟩)), (6, .pointer (some ⟨b6, 0, none⟩)), (7, .slice A7 64 c7), (8, .pointer (some ⟨b8, 0, none⟩)), (9, .int .i64 (t : Int))]) (fun t => [pt b8 86 ((rounds rootsL (sched l 64) h t).map w32), row 72 1 A7 64 c7 ((sched l 64).map w32), pt b6 86 (List.replicate 8 (.int .u32 0)), pt b3 86 (h.map w32)]) (fun t => t ≤ 64) (fun t => 64 - t) rfl 0 (Nat.zero_le _) (Sub.cons rfl (Sub.cons rfl (Sub.cons rfl (Sub.cons rfl (Sub.cons rfl (Sub.cons rfl Sub.nil)))))) (by rw [show rounds rootsL (sched l 64) h 0 = h from rfl]; exact sub_st) ?_
  intro t ht J hJ
  obtain ⟨r0, r1, r2, r3, r4, r5, r6, r7, hR⟩ := eight (rounds_len (ks := rootsL) (ws := sched l 64) lh t)
  rw [hR]
  have hnext := hJ (t + 1)
  simp only [rounds, hR, rnd] at hnext
  focus (refine S_seq rfl ?_; refine S_seq rfl (S_region rfl rfl ?_); (iterate 2 refine R_p rfl ?_ rfl rfl); refine R_nil ?_; (refine S_if rfl rfl (fun hs => ?_) (fun hs => ?_)); refine S_skip rfl ?_; refine S_seq rfl ?_; refine S_block rfl ?_; refine S_seq rfl (S_region rfl rfl ?_); refine R_take (T_ixaN rfl rfl rfl rfl rfl rfl (by omega)) ?_ rfl rfl; refine R_take (T_load rfl rfl rfl rfl) ?_ rfl rfl; refine R_p rfl ?_ rfl rfl; refine R_nil ?_; refine S_seq rfl ?_; rotate_left; refine S_exit rfl rfl ?_; refine S_seq rfl ?_; refine S_seq rfl (S_region rfl rfl ?_); refine R_p rfl ?_ rfl rfl; refine R_nil ?_; refine S_block rfl ?_; rotate_left)
  · skip
    refine S_draw ([pt b8 86 ([r0, r1, r2, r3, r4, r5, r6, r7].map w32), row 72 1 A7 64 c7 ((sched l 64).map w32)]) sub_st (by kernel_rfl) rfl (by kernel_rfl) (by kernel_rfl : _ = 33) ?_
    refine D_take 0 rfl (T_ixaN rfl rfl rfl rfl rfl rfl (by omega)) ?_ rfl rfl (by kernel_rfl) (by kernel_rfl)
    refine D_take 1 rfl (T_load rfl rfl rfl rfl) ?_ rfl rfl (by kernel_rfl) (by kernel_rfl)
    refine D_take 2 rfl (pev_ok rfl) ?_ rfl rfl (by kernel_rfl) (by kernel_rfl)
    refine D_take 4 rfl (pev_ok rfl) ?_ rfl rfl (by kernel_rfl) (by kernel_rfl)
    refine D_take 7 rfl (pev_ok rfl) ?_ rfl rfl (by kernel_rfl) (by kernel_rfl)
    refine D_take 11 rfl (pev_ok rfl) ?_ rfl rfl (by kernel_rfl) (by kernel_rfl)
    refine D_take 12 rfl (T_ixaN rfl rfl rfl rfl rfl rfl (by omega)) ?_ rfl rfl (by kernel_rfl) (by kernel_rfl)
    refine D_take 13 rfl (T_load rfl rfl rfl rfl) ?_ rfl rfl (by kernel_rfl) (by kernel_rfl)
    refine D_take 14 rfl (T_w32 rfl rfl rfl) ?_ rfl rfl (by kernel_rfl) (by kernel_rfl)
    refine D_take 15 rfl (pev_ok rfl) ?_ rfl rfl (by kernel_rfl) (by kernel_rfl)
    refine D_take 16 rfl (T_sub32 rfl) ?_ rfl rfl (by kernel_rfl) (by kernel_rfl)
    refine D_take 17 rfl (T_ixaN rfl rfl rfl rfl rfl rfl (by omega)) ?_ rfl rfl (by kernel_rfl) (by kernel_rfl)
    refine D_take 18 rfl (T_load rfl rfl rfl rfl) ?_ rfl rfl (by kernel_rfl) (by kernel_rfl)
    refine D_take 19 rfl (T_w32 rfl rfl rfl) ?_ rfl rfl (by kernel_rfl) (by kernel_rfl)
    refine D_take 20 rfl (T_w32 rfl rfl rfl) ?_ rfl rfl (by kernel_rfl) (by kernel_rfl)
    refine D_take 22 rfl (pev_ok rfl) ?_ rfl rfl (by kernel_rfl) (by kernel_rfl)
    refine D_take 23 rfl (pev_ok rfl) ?_ rfl rfl (by kernel_rfl) (by kernel_rfl)
    refine D_take 24 rfl (T_ixN rfl rfl rfl rfl rfl rfl (by first | assumption | exact hne (by omega) | exact hne2 (by omega)) (by omega)) ?_ rfl rfl (by kernel_rfl) (by kernel_rfl)
    (refine D_take 25 rfl (T_loado (j := t) (v := w32 (rootsL.getD t 0)) rfl rfl rfl hK (map_at w32 0 (by rw [roots_len]; omega)) (fun k _ => noOwns k)) ?_ rfl rfl (by kernel_rfl) (by kernel_rfl))
    refine D_take 27 rfl (pev_ok rfl) ?_ rfl rfl (by kernel_rfl) (by kernel_rfl)
    refine D_take 28 rfl (pev_ok rfl) ?_ rfl rfl (by kernel_rfl) (by kernel_rfl)
    refine D_take 29 rfl (T_ixN rfl rfl rfl rfl rfl rfl (by first | assumption | exact hne (by omega) | exact hne2 (by omega)) (by omega)) ?_ rfl rfl (by kernel_rfl) (by kernel_rfl)
    refine D_take 30 rfl (T_ldr (sz := 1) (m := 64) (v := w32 ((sched l 64).getD t 0)) rfl rfl rfl (Srd.row (c := c7)) (by decide) (sched_at (by omega))) ?_ rfl rfl (by kernel_rfl) (by kernel_rfl)
    refine D_one 3 rfl (E_turned 6 rfl rfl (by decide) (by decide)) ?_ rfl rfl (by kernel_rfl)
    rintro _ _ ⟨rfl, rfl⟩
    refine Nx_same sub_st ?_
    refine D_one 5 rfl (E_turned 11 rfl rfl (by decide) (by decide)) ?_ rfl rfl (by kernel_rfl)
    rintro _ _ ⟨rfl, rfl⟩
    refine Nx_same sub_st ?_
    refine D_take 6 rfl (T_w32 rfl rfl rfl) ?_ rfl rfl (by kernel_rfl) (by kernel_rfl)
    refine D_one 8 rfl (E_turned 25 rfl rfl (by decide) (by decide)) ?_ rfl rfl (by kernel_rfl)
    rintro _ _ ⟨rfl, rfl⟩
    refine Nx_same sub_st ?_
    refine D_take 9 rfl (T_w32 rfl rfl rfl) ?_ rfl rfl (by kernel_rfl) (by kernel_rfl)
    refine D_take 10 rfl (T_w32 rfl rfl rfl) ?_ rfl rfl (by kernel_rfl) (by kernel_rfl)
    refine D_take 21 rfl (T_w32 rfl rfl rfl) ?_ rfl rfl (by kernel_rfl) (by kernel_rfl)
    refine D_take 26 rfl (T_w32 rfl rfl rfl) ?_ rfl rfl (by kernel_rfl) (by kernel_rfl)
    refine D_take 31 rfl (T_w32 rfl rfl rfl) ?_ rfl rfl (by kernel_rfl) (by kernel_rfl)
    refine D_take 32 rfl (pev_ok rfl) ?_ rfl rfl (by kernel_rfl) (by kernel_rfl)
    refine D_done ?_ (by kernel_rfl)
    skip
    focus (refine S_seq rfl ?_; refine S_region rfl rfl ?_; refine R_take (T_ixaN rfl rfl rfl rfl rfl rfl (by omega)) ?_ rfl rfl; refine R_take (T_load rfl rfl rfl rfl) ?_ rfl rfl; refine R_p rfl ?_ rfl rfl; refine R_nil ?_; refine S_seq rfl ?_)
    refine S_draw ([pt b8 86 ([r0, r1, r2, r3, r4, r5, r6, r7].map w32)]) sub_st (by kernel_rfl) rfl (by kernel_rfl) (by kernel_rfl : _ = 25) ?_
    refine D_take 0 rfl (pev_ok rfl) ?_ rfl rfl (by kernel_rfl) (by kernel_rfl)
    refine D_take 2 rfl (pev_ok rfl) ?_ rfl rfl (by kernel_rfl) (by kernel_rfl)
    refine D_take 5 rfl (pev_ok rfl) ?_ rfl rfl (by kernel_rfl) (by kernel_rfl)
    refine D_take 8 rfl (pev_ok rfl) ?_ rfl rfl (by kernel_rfl) (by kernel_rfl)
    refine D_take 9 rfl (T_ixaN rfl rfl rfl rfl rfl rfl (by omega)) ?_ rfl rfl (by kernel_rfl) (by kernel_rfl)
    refine D_take 10 rfl (T_load rfl rfl rfl rfl) ?_ rfl rfl (by kernel_rfl) (by kernel_rfl)
    refine D_take 11 rfl (T_w32 rfl rfl rfl) ?_ rfl rfl (by kernel_rfl) (by kernel_rfl)
    refine D_take 12 rfl (pev_ok rfl) ?_ rfl rfl (by kernel_rfl) (by kernel_rfl)
    refine D_take 13 rfl (T_ixaN rfl rfl rfl rfl rfl rfl (by omega)) ?_ rfl rfl (by kernel_rfl) (by kernel_rfl)
    refine D_take 14 rfl (T_load rfl rfl rfl rfl) ?_ rfl rfl (by kernel_rfl) (by kernel_rfl)
    refine D_take 15 rfl (T_w32 rfl rfl rfl) ?_ rfl rfl (by kernel_rfl) (by kernel_rfl)
    refine D_take 16 rfl (T_w32 rfl rfl rfl) ?_ rfl rfl (by kernel_rfl) (by kernel_rfl)
    refine D_take 17 rfl (T_ixaN rfl rfl rfl rfl rfl rfl (by omega)) ?_ rfl rfl (by kernel_rfl) (by kernel_rfl)
    refine D_take 18 rfl (T_load rfl rfl rfl rfl) ?_ rfl rfl (by kernel_rfl) (by kernel_rfl)
    refine D_take 19 rfl (T_ixaN rfl rfl rfl rfl rfl rfl (by omega)) ?_ rfl rfl (by kernel_rfl) (by kernel_rfl)
    refine D_take 20 rfl (T_load rfl rfl rfl rfl) ?_ rfl rfl (by kernel_rfl) (by kernel_rfl)
    refine D_take 21 rfl (T_w32 rfl rfl rfl) ?_ rfl rfl (by kernel_rfl) (by kernel_rfl)
    refine D_take 22 rfl (T_w32 rfl rfl rfl) ?_ rfl rfl (by kernel_rfl) (by kernel_rfl)
    refine D_one 1 rfl (E_turned 2 rfl rfl (by decide) (by decide)) ?_ rfl rfl (by kernel_rfl)
    rintro _ _ ⟨rfl, rfl⟩
    refine Nx_same sub_st ?_
    refine D_one 3 rfl (E_turned 13 rfl rfl (by decide) (by decide)) ?_ rfl rfl (by kernel_rfl)
    rintro _ _ ⟨rfl, rfl⟩
    refine Nx_same sub_st ?_
    refine D_take 4 rfl (T_w32 rfl rfl rfl) ?_ rfl rfl (by kernel_rfl) (by kernel_rfl)
    refine D_one 6 rfl (E_turned 22 rfl rfl (by decide) (by decide)) ?_ rfl rfl (by kernel_rfl)
    rintro _ _ ⟨rfl, rfl⟩
    refine Nx_same sub_st ?_
    refine D_take 7 rfl (T_w32 rfl rfl rfl) ?_ rfl rfl (by kernel_rfl) (by kernel_rfl)
    refine D_take 23 rfl (T_w32 rfl rfl rfl) ?_ rfl rfl (by kernel_rfl) (by kernel_rfl)
    refine D_take 24 rfl (pev_ok rfl) ?_ rfl rfl (by kernel_rfl) (by kernel_rfl)
    refine D_done ?_ (by kernel_rfl)
    skip
    focus (refine S_region rfl rfl ?_; (iterate 2 refine R_p rfl ?_ rfl rfl); refine R_take (T_w32 rfl rfl rfl) ?_ rfl rfl; refine R_take (T_ixaN rfl rfl rfl rfl rfl rfl (by omega)) ?_ rfl rfl; refine R_take (T_load rfl rfl rfl rfl) ?_ rfl rfl; refine R_take (T_ixaN rfl rfl rfl rfl rfl rfl (by omega)) ?_ rfl rfl; refine R_take (T_load rfl rfl rfl rfl) ?_ rfl rfl; refine R_take (T_ixaN rfl rfl rfl rfl rfl rfl (by omega)) ?_ rfl rfl; refine R_take (T_load rfl rfl rfl rfl) ?_ rfl rfl; refine R_take (T_ixaN rfl rfl rfl rfl rfl rfl (by omega)) ?_ rfl rfl; refine R_take (T_load rfl rfl rfl rfl) ?_ rfl rfl; refine R_p rfl ?_ rfl rfl; refine R_take (T_w32 rfl rfl rfl) ?_ rfl rfl; refine R_take (T_ixaN rfl rfl rfl rfl rfl rfl (by omega)) ?_ rfl rfl; refine R_take (T_load rfl rfl rfl rfl) ?_ rfl rfl; refine R_take (T_ixaN rfl rfl rfl rfl rfl rfl (by omega)) ?_ rfl rfl; refine R_take (T_load rfl rfl rfl rfl) ?_ rfl rfl; refine R_take (T_ixaN rfl rfl rfl rfl rfl rfl (by omega)) ?_ rfl rfl; refine R_take (T_load rfl rfl rfl rfl) ?_ rfl rfl)
    refine R_take (T_buildl (is := [0, 1, 2, 3, 4, 5, 6, 7]) (us := [w32 _, w32 _, w32 _, w32 _, w32 _, w32 _, w32 _, w32 _]) rfl rfl (w8_built _ _ _ _ _ _ _ _)) ?_ rfl rfl
    refine R_eff0 (E_storew (cs := [r0, r1, r2, r3, r4, r5, r6, r7].map w32) rfl rfl rfl (len8 _ _ _ _ _ _ _ _) (w32_ones _) ((len8 _ _ _ _ _ _ _ _).trans (len8 _ _ _ _ _ _ _ _).symm)) ?_ rfl
    rintro _ _ rfl
    focus (refine R_nil ?_; refine RS_blk ?_; refine S_region rfl rfl ?_; refine R_p rfl ?_ rfl rfl; refine R_take (T_addN rfl rfl (by unfold fits; omega)) ?_ rfl rfl; refine R_p rfl ?_ rfl rfl; refine R_nil ?_)
    rw [maj_eq, ch_eq, ← mix3, ← mix3]
    exact hnext _ _ (by omega) (Sub.cons rfl (Sub.cons rfl (Sub.cons rfl (Sub.cons rfl (Sub.cons rfl (Sub.cons rfl Sub.nil)))))) sub_st (by omega)
  obtain rfl : t = 64 := by omega
  have hR2 : ([r0, r1, r2, r3, r4, r5, r6, r7]).map w32 = (rounds rootsL (sched l 64) h 64).map w32 := by rw [hR]
  rw [hR2]
  obtain ⟨R, hRR⟩ : ∃ R, R = rounds rootsL (sched l 64) h 64 := ⟨_, rfl⟩
  have lR : R.length = 8 := by rw [hRR]; exact rounds_len lh 64
  have lR2 : (R.map w32).length = 8 := by simpa using lR
  rw [← hRR]
  clear hnext hJ hR2
  refine S_loop (X := Nat) (fun j => [(3, .pointer (some ⟨b3, 0, none⟩)), (6, .pointer (some ⟨b6, 0, none⟩)), (8, .pointer (some ⟨b8, 0, none⟩)), (14, .int .i64 (j : Int))]) (fun j => [pt b3 86 (pre (fun i => w32 (h.getD i 0 + R.getD i 0)) (fun i => w32 (h.getD i 0)) 8 j), pt b8 86 (R.map w32), pt b6 86 (List.replicate 8 (.int .u32 0))]) (fun t => t ≤ 8) (fun t => 8 - t) rfl 0 (Nat.zero_le _) (Sub.cons rfl (Sub.cons rfl (Sub.cons rfl (Sub.cons rfl Sub.nil)))) (by rw [pre_0, ← map_range w32 0 lh]; exact sub_st) ?_
  intro j hj J hJ
  have e : (List.range 8).map (fun i => w32 (h.getD i 0 + R.getD i 0)) = (blockW h l).map w32 := by rw [blockW, hRR, List.map_map]; rfl
  have lb2 : ((blockW h l).map w32).length = 8 := by simp [blockW_len]
  focus (refine S_seq rfl ?_; refine S_seq rfl (S_region rfl rfl ?_); (iterate 2 refine R_p rfl ?_ rfl rfl); refine R_nil ?_; (refine S_if rfl rfl (fun hs => ?_) (fun hs => ?_)); refine S_skip rfl ?_; refine S_seq rfl ?_; refine S_block rfl ?_; rotate_left; refine S_exit rfl rfl ?_; refine S_seq rfl (S_region rfl rfl ?_); rotate_left)
  · skip
    refine S_draw ([pt b3 86 (pre (fun i => w32 (h.getD i 0 + R.getD i 0)) (fun i => w32 (h.getD i 0)) 8 j), pt b8 86 (R.map w32)]) sub_st (by kernel_rfl) rfl (by kernel_rfl) (by kernel_rfl : _ = 10) ?_
    refine D_take 0 rfl (pev_ok rfl) ?_ rfl rfl (by kernel_rfl) (by kernel_rfl)
    refine D_take 1 rfl (pev_ok rfl) ?_ rfl rfl (by kernel_rfl) (by kernel_rfl)
    refine D_take 2 rfl (T_ixaN rfl rfl rfl rfl rfl rfl (by omega)) ?_ rfl rfl (by kernel_rfl) (by kernel_rfl)
    refine D_take 3 rfl (T_load rfl rfl rfl (pre_next (by omega))) ?_ rfl rfl (by kernel_rfl) (by kernel_rfl)
    refine D_take 4 rfl (pev_ok rfl) ?_ rfl rfl (by kernel_rfl) (by kernel_rfl)
    refine D_take 5 rfl (T_ixaN rfl rfl rfl rfl rfl rfl (by omega)) ?_ rfl rfl (by kernel_rfl) (by kernel_rfl)
    (refine D_take 6 rfl (T_load rfl rfl rfl (map_at0 w32 0 (by rw [lR]; omega))) ?_ rfl rfl (by kernel_rfl) (by kernel_rfl))
    refine D_take 7 rfl (T_w32 rfl rfl rfl) ?_ rfl rfl (by kernel_rfl) (by kernel_rfl)
    refine D_take 8 rfl (T_ixaN rfl rfl rfl rfl rfl rfl (by omega)) ?_ rfl rfl (by kernel_rfl) (by kernel_rfl)
    refine D_one 9 rfl (E_store1 rfl rfl rfl rfl rfl rfl (by rw [pre_len]; omega)) ?_ rfl rfl (by kernel_rfl)
    rintro _ _ rfl
    refine Nx_pivot (by kernel_rfl) ?_
    refine D_done ?_ (by kernel_rfl)
    skip
    focus (refine RS_blk ?_; refine S_region rfl rfl ?_; refine R_p rfl ?_ rfl rfl; refine R_take (T_addN rfl rfl (by unfold fits; omega)) ?_ rfl rfl; refine R_p rfl ?_ rfl rfl; refine R_nil ?_)
    refine hJ (j + 1) _ _ (by omega) (Sub.cons rfl (Sub.cons rfl (Sub.cons rfl (Sub.cons rfl Sub.nil)))) ?_ (by omega)
    rw [← pre_set (by omega)]
    exact fun _ h => h
  · obtain rfl : j = 8 := by omega
    rw [pre_all, e]
    focus (refine R_take (T_loada (ds := (blockW h l).map w32) rfl rfl rfl lb2 (fun q v hq => by rw [Nat.zero_add]; exact hq)) ?_ rfl rfl; (refine R_eff0 (E_storew (ds := (blockW h l).map w32) (cs := List.replicate 8 (.int .u32 0)) rfl rfl rfl lb2 (w32_ones _) lb2.symm) ?_ rfl; rintro _ _ rfl); refine R_nil ?_)
    refine hB _ _ _ _ _ rfl (.cell rfl rfl rfl inferInstance lb2 .nil) fun w' hS => ⟨(), rfl, trivial, hS.sublist (List.nil_sublist _)⟩
end Go.Proofs.YtdbehejbeioboaaDoor

namespace Go.Proofs.YtdbehejbeioboaaDoor
open Go.RowKit
open Asn (pt row rb)
set_option linter.unusedVariables false
set_option linter.unusedSimpArgs false
--@use N
set_option maxRecDepth 100000 in
set_option maxHeartbeats 4000000 in
theorem known_any (w : World) :
    Gives Tryd.prog 64 [] [] w (X := Nat) (fun g => .slice (some ⟨g, 0, none⟩) 64 64) (fun _ => True) (fun g => [pt g 72 (rootsL.map w32)]) := by
  refine gives_S Tryd.func64 rfl Tryd.ntmps64 Tryd.results64 (by simp) (St.enter w) (fun B hB => ?_)
  focus (refine S_seq rfl ?_; refine S_region rfl rfl ?_; refine R_p rfl ?_ rfl rfl; refine R_nil (S_seq rfl (S_region rfl rfl ?_)); (refine R_eff (E_lit1 (vs := rootsL.map w32) (by kernel_rfl) (by kernel_rfl) rfl rfl rfl rfl rfl (w32_ones _) (by decide)) ?_ rfl rfl; rintro _ _ ⟨bl1, rfl, rfl⟩); refine R_p rfl ?_ rfl rfl; refine R_nil ?_)
  exact hB _ _ _ _ _ rfl rfl fun w' hS => ⟨bl1, rfl, trivial, hS⟩

set_option maxRecDepth 100000 in
set_option maxHeartbeats 4000000 in
theorem refpad_any (w : World) (A : Option Addr) (n c : Nat) (l : List UInt8) (F : Nat → Prop) (h : Bs w F A n c l) (hn : n ≤ 100000) :
    Gives Tryd.prog 63 [.slice A n c] [] w (X := Option Addr × Nat) (fun x => .slice x.1 (padL l).length x.2) (fun _ => True) (fun x => [row 5 1 x.1 (padL l).length x.2 ((padL l).map bv)]) := by
  refine gives_S Tryd.func63 rfl Tryd.ntmps63 Tryd.results63 (by simp) (St.enter w) (fun B hB => ?_)
  have hl := h.len
  focus (refine S_seq rfl ?_; refine S_region rfl rfl ?_; refine R_p rfl ?_ rfl rfl; refine R_nil (S_seq rfl (S_region rfl rfl ?_)); refine R_p rfl ?_ rfl rfl; (refine R_eff (E_lit1 (vs := [bv 128]) rfl rfl rfl rfl rfl rfl rfl (by simp [bv, Value.oneCell']) (by decide)) ?_ rfl rfl; rintro _ _ ⟨bl1, rfl, rfl⟩); (refine R_eff (E_both (l1 := l) (l2 := [128]) rfl rfl (Src.old h fun k _ => noOwns k) (Src.pt rfl (by decide) (by decide) (fun j v h => by simpa using h)) (by omega)) ?_ rfl rfl; rintro _ _ ⟨A1, c1, rfl, rfl⟩); refine R_p rfl ?_ rfl rfl; refine R_nil ?_; refine S_seq rfl ?_; refine S_block rfl ?_)
  refine S_loop (X := Nat × Option Addr × Nat) (fun x => [(0, .slice A n c), (3, .slice x.2.1 (n + 1 + x.1) x.2.2)]) (fun x => [row 5 1 x.2.1 (n + 1 + x.1) x.2.2 ((l ++ 128 :: List.replicate x.1 0).map bv)]) (fun x => x.1 ≤ (n + 72) / 64 * 64 - 9 - n) (fun x => (n + 72) / 64 * 64 - 9 - n - x.1) rfl (0, A1, c1) (Nat.zero_le _) (Sub.cons rfl (Sub.cons rfl Sub.nil)) (fun w hS => sub_st (H' := [row 5 1 A1 (n + 1) c1 ((l ++ [128]).map bv)]) w hS) ?_
  rintro ⟨k, A2, c2⟩ hk J hJ
  dsimp only at hk ⊢
  focus (refine S_seq rfl ?_; refine S_seq rfl (S_region rfl rfl ?_); (iterate 2 refine R_p rfl ?_ rfl rfl); refine R_take (T_addN rfl rfl (by unfold fits; omega)) ?_ rfl rfl; refine R_take (T_modN rfl rfl (by omega)) ?_ rfl rfl; refine R_p rfl ?_ rfl rfl; refine R_nil ?_; (refine S_if rfl rfl (fun hs => ?_) (fun hs => ?_)); refine S_skip rfl ?_; refine S_block rfl ?_; refine S_region rfl rfl ?_; refine R_p rfl ?_ rfl rfl; (refine R_eff (E_lit1 (vs := [bv 0]) rfl rfl rfl rfl rfl rfl rfl (by simp [bv, Value.oneCell']) (by decide)) ?_ rfl rfl; rintro _ _ ⟨bl1, rfl, rfl⟩); (refine R_eff (E_appB (m2 := 1) (bs := l ++ 128 :: List.replicate k 0) (nb := [0]) rfl rfl rfl rfl rfl rfl (Src.pt rfl (by decide) (by decide) (fun j v h => by simpa using h)) (by omega)) ?_ rfl rfl; rintro _ _ ⟨A3, c3, rfl, rfl⟩); refine R_p rfl ?_ rfl rfl; refine R_nil ?_; refine RS_blk ?_; rotate_left; refine S_exit rfl rfl ?_; refine S_seq rfl (S_region rfl rfl ?_); (iterate 3 refine R_p rfl ?_ rfl rfl); refine R_take (T_convf rfl rfl rfl rfl (by unfold fits; omega)) ?_ rfl rfl; refine R_take (T_mulN rfl rfl (by unfold fits; omega)) ?_ rfl rfl; (refine R_eff (E_high (k := 8) (X := ((n * 8 : Nat) : Int)) rfl rfl (by omega) (by decide)) ?_ rfl rfl; rintro _ _ ⟨A4, c4, rfl, rfl⟩); (refine R_eff (E_both (l1 := l ++ 128 :: List.replicate k 0) rfl rfl Src.row Src.row (by omega)) ?_ rfl rfl; rintro _ _ ⟨A5, c5, rfl, rfl⟩); refine R_p rfl ?_ rfl rfl; refine R_nil ?_; rotate_left)
  · refine hJ (k + 1, A3, c3) _ _ (by dsimp only; omega) (Sub.cons rfl (Sub.cons rfl Sub.nil)) ?_ (by dsimp only; omega)
    dsimp only
    rw [show l ++ 128 :: List.replicate (k + 1) 0 = l ++ 128 :: List.replicate k 0 ++ [0] by rw [List.append_assoc, List.cons_append, ← List.replicate_succ']]
    exact sub_st
  · have hk2 : k = (n + 72) / 64 * 64 - 9 - n := by omega
    subst hk2
    have e2 : n + 1 + ((n + 72) / 64 * 64 - 9 - n) + 8 = (padL l).length := by rw [padL_len, ← hl]; omega
    have e3 : l ++ 128 :: List.replicate ((n + 72) / 64 * 64 - 9 - n) 0 ++ be 8 (((n * 8 : Nat) : Int)).toNat = padL l := by rw [Int.toNat_natCast, Nat.mul_comm n 8, hl]; rfl
    rw [e2, e3]
    exact hB _ _ _ _ _ rfl rfl fun w' hS => ⟨(A5, c5), rfl, trivial, hS.sublist (List.Sublist.cons_cons _ (List.nil_sublist _))⟩
section
variable {n : Nat} {w0 : World} {M : Nat → Prop} {T : Slots} {H Hr : List Asn} {dd : Option Tmp} {tt : TypeId} {pos : String} {af : Array Edge} {g : Option (Nat × Bool)} {x y z : Operand} {ts : Array TypeId}
theorem E_known : Ef Tryd.prog n w0 M T H ⟨dd, .call ⟨.value (.func 64), #[], ts⟩, tt, pos, af, g⟩ (fun u H' => ∃ gb, u = .slice (some ⟨gb, 0, none⟩) 64 64 ∧ H' = pt gb 72 (rootsL.map w32) :: H) := by
  refine (E_gv ⟨_, Tryd.func64, rfl, by kernel_rfl⟩ (vs := []) (by simp [ogets]) fun w hS => known_any w).mono ?_
  rintro v H' ⟨x, rfl, _, rfl⟩ w hS
  exact ⟨_, _, rfl, ⟨x, rfl, rfl⟩, hS⟩
theorem E_refpad {A : Option Addr} {m c : Nat} {l : List UInt8} (hx : oget T x = some (.slice A m c)) (hs : Src w0 M H A m c l) (hm : m ≤ 100000) :
    Ef Tryd.prog n w0 M T H ⟨dd, .call ⟨.value (.func 63), #[x], ts⟩, tt, pos, af, g⟩ (fun u H' => ∃ A' c', (padL l).length ≤ c' ∧ u = .slice A' (padL l).length c' ∧ H' = row 5 1 A' (padL l).length c' ((padL l).map bv) :: H) := by
  refine (E_gv ⟨_, Tryd.func63, rfl, by kernel_rfl⟩ (vs := [.slice A m c]) (by simp [ogets, hx]) fun w hS => refpad_any w A m c l All (hs.bs w hS) hm).mono ?_
  rintro v H' ⟨x, rfl, _, rfl⟩ w hS
  exact ⟨_, _, rfl, ⟨x.1, x.2, row_cap (hS.at_ (A := row 5 1 x.1 (padL l).length x.2 ((padL l).map bv)) (by simp)), rfl, rfl⟩, hS⟩
theorem E_refinto {h : List UInt32} {A Ak : Option Addr} {m c ck : Nat} {l : List UInt8} (hx : oget T x = some (.agg (h.map w32).toArray)) (hy : oget T y = some (.slice A m c)) (hz : oget T z = some (.slice Ak 64 ck)) (lh : h.length = 8) (hs : Src w0 M H A m c l) (hl : l.length = 64) (hk : Srd w0 M H 1 Ak 64 (rootsL.map w32)) :
    Ef Tryd.prog n w0 M T H ⟨dd, .call ⟨.value (.func 65), #[x, y, z], ts⟩, tt, pos, af, g⟩ (fun u H' => u = .agg ((blockW h l).map w32).toArray ∧ H' = H) := by
  refine (E_gv ⟨_, Tryd.func65, rfl, by kernel_rfl⟩ (vs := [.agg (h.map w32).toArray, .slice A m c, .slice Ak 64 ck]) (by simp [ogets, hx, hy, hz]) fun w hS => refinto_any w h lh A m c l All (hs.bs w hS) hl Ak ck (hk.rd w hS)).mono ?_
  rintro v H' ⟨_, rfl, _, rfl⟩ w hS
  exact ⟨_, _, rfl, ⟨rfl, rfl⟩, hS⟩
end
theorem wordsB_at {h : List UInt32} {i : Nat} (hi : i < 4 * h.length) : (wordsB h).getD i 0 = (be 4 (h.getD (i / 4) 0).toNat).getD (i % 4) 0 := by
  induction h generalizing i with
  | nil => simp at hi
  | cons x h ih =>
    have e : wordsB (x :: h) = be 4 x.toNat ++ wordsB h := rfl
    rw [e]
    simp only [List.length_cons] at hi
    rcases Nat.lt_or_ge i 4 with h4 | h4
    · rw [show i / 4 = 0 by omega, show i % 4 = i by omega]
      simp only [List.getD_eq_getElem?_getD]
      rw [List.getElem?_append_left (by rw [be_len]; exact h4)]
      rfl
    · have h1 := ih (i := i - 4) (by omega)
      rw [show i / 4 = (i - 4) / 4 + 1 by omega, show i % 4 = (i - 4) % 4 by omega]
      simp only [List.getD_eq_getElem?_getD] at h1 ⊢
      rw [List.getElem?_append_right (by rw [be_len]; exact h4), be_len, h1]
      rfl
end Go.Proofs.YtdbehejbeioboaaDoor

namespace Go.Proofs.YtdbehejbeioboaaDoor
open Go.RowKit
open Asn (pt row rb)
set_option linter.unusedVariables false
set_option linter.unusedSimpArgs false
--@use N
theorem Src.part {w0 : World} {M : Nat → Prop} {H : List Asn} {A : Option Addr} {n c : Nat} {l : List UInt8} (h : Src w0 M H A n c l) {q r : Nat} (hq : q ≤ r) (hr : r ≤ n) : Src w0 M H (cutP A c q 1) (r - q) (c - q) ((l.drop q).take (r - q)) := ⟨fun w hS => (h.bs w hS).part hq hr⟩
section
variable {n : Nat} {w0 : World} {M : Nat → Prop} {T : Slots} {H Hr : List Asn} {dd : Option Tmp} {tt : TypeId} {pos : String} {af : Array Edge} {g : Option (Nat × Bool)} {x y z : Operand} {ts : Array TypeId}
theorem E_highN {k X : Nat} {z : Int} (hx : oget T x = some (.int .u64 z)) (hz : z = (X : Int)) (hy : oget T y = some (.int .i64 (k : Int))) (hX : X < 18446744073709551616) (hk : k ≤ 1000) :
    Ef Tryd.prog n w0 M T H ⟨dd, .call ⟨.value (.func 62), #[x, y], ts⟩, tt, pos, af, g⟩ (fun u H' => ∃ A' c', (0 < k → A' ≠ none) ∧ u = .slice A' k c' ∧ H' = row 5 1 A' k c' ((be k X).map bv) :: H) := by
  subst hz
  refine (E_high (k := k) (X := (X : Int)) hx hy (by omega) hk).mono ?_
  rintro v H' ⟨A', c', rfl, rfl⟩ w hS
  rw [Int.toNat_natCast] at hS
  exact ⟨_, _, rfl, ⟨A', c', (row_facts (hS.at_ (A := row 5 1 A' k c' ((be k X).map bv)) (by simp))).2.2.1, rfl, rfl⟩, hS⟩
end
theorem pre_setv {f g : Nat → Value} {n j : Nat} {v : Value} (h : j < n) (hv : v = f j) : (pre f g n j).set (0 + j) v = pre f g n (j + 1) := by rw [hv, pre_set h]
theorem bl8 (h : List UInt32) (b : List UInt8) : ((blockW h b).map w32).length = 8 := by simp [blockW_len]
theorem sw8 (p : List UInt8) (k : Nat) : ((sumW p k).map w32).length = 8 := by simp [sumW_len]
set_option maxRecDepth 100000 in
set_option maxHeartbeats 4000000 in
theorem refsum_any (w : World) (A : Option Addr) (n c : Nat) (l : List UInt8) (F : Nat → Prop) (h : Bs w F A n c l) (hn : n ≤ 100000) :
    Gives Tryd.prog 34 [.slice A n c] [] w (X := Unit) (fun x => .agg ((sumL l).map bv).toArray) (fun _ => True) (fun x => []) := by
  refine gives_C Tryd.func34 rfl Tryd.ntmps34 Tryd.results34 (by simp) (St.enter w) (fun B hB => ?_)
  focus (refine S_seq rfl ?_; refine S_region rfl rfl ?_; (refine R_eff (E_alloca rfl noId_alloc) ?_ rfl rfl; rintro _ _ ⟨b2, rfl, rfl⟩); refine R_nil (S_seq rfl (S_region rfl rfl ?_)); refine R_take (T_built (fun a ha => rfl) start_built) ?_ rfl rfl; (refine R_eff (E_alloca rfl z8_alloc) ?_ rfl rfl; rintro _ _ ⟨b3, rfl, rfl⟩); (refine R_eff0 (E_storew (ds := startL.map w32) (cs := List.replicate 8 (.int .u32 0)) rfl rfl rfl rfl (w32_ones _) rfl) ?_ rfl; rintro _ _ rfl); refine R_nil (S_seq rfl (S_region rfl rfl ?_)); refine R_p rfl ?_ rfl rfl; (refine R_eff (E_refpad rfl (Src.old h fun k _ => noOwns k) hn) ?_ rfl rfl; rintro _ _ ⟨A1, c1, hcc, rfl, rfl⟩); refine R_p rfl ?_ rfl rfl; refine R_nil (S_seq rfl (S_region rfl rfl ?_)); (refine R_eff E_known ?_ rfl rfl; rintro _ _ ⟨gk, rfl, rfl⟩); refine R_p rfl ?_ rfl rfl; refine R_nil ?_; refine S_seq rfl ?_; refine S_seq rfl (S_region rfl rfl ?_); refine R_p rfl ?_ rfl rfl; refine R_nil ?_; refine S_block rfl ?_)
  have hN : (padL l).length % 64 = 0 := by rw [padL_len]; omega
  have hN1 : (padL l).length ≤ 100072 := by rw [padL_len]; have := h.len; omega
  have hsum : sumL l = wordsB (sumW (padL l) ((padL l).length / 64)) := rfl
  have hsl := sumL_len l
  obtain ⟨P, hP⟩ : ∃ P, padL l = P := ⟨_, rfl⟩
  rw [hP] at hN hN1 hsum hcc ⊢
  obtain ⟨N, hNP⟩ : ∃ N, P.length = N := ⟨_, rfl⟩
  rw [hNP] at hN hN1 hsum hcc ⊢
  refine S_loop (X := Nat) (fun k => [(2, .pointer (some ⟨b2, 0, none⟩)), (3, .pointer (some ⟨b3, 0, none⟩)), (4, .slice A1 N c1), (5, .slice (some ⟨gk, 0, none⟩) 64 64), (6, .int .i64 ((64 * k : Nat) : Int))]) (fun k => [pt b3 86 ((sumW P k).map w32), row 5 1 A1 N c1 (P.map bv), pt gk 72 (rootsL.map w32), pt b2 48 (noId.map bv)]) (fun k => 64 * k ≤ N) (fun k => N - 64 * k) rfl 0 (Nat.zero_le _) (Sub.cons rfl (Sub.cons rfl (Sub.cons rfl (Sub.cons rfl (Sub.cons rfl Sub.nil))))) (by rw [show sumW P 0 = startL from rfl]; exact sub_st) ?_
  intro k hk J hJ
  have hsrc : 64 * k + 64 ≤ N → ∀ {H Hr : List Asn} [HRow H A1 N c1 5 1 (P.map bv) Hr], Src w (owns []) H (cutP A1 c1 (64 * k) 1) (64 * k + 64 - 64 * k) (c1 - 64 * k) ((P.drop (64 * k)).take 64) := fun hk2 {H Hr} _ => by
    have h1 := (Src.row (w0 := w) (M := owns []) (H := H) (A := A1) (n := N) (c := c1) (l := P)).part (q := 64 * k) (r := 64 * k + 64) (by omega) hk2
    rwa [Nat.add_sub_cancel_left] at h1 ⊢
  have h64 : 64 * k + 64 ≤ N → ((P.drop (64 * k)).take 64).length = 64 := fun h => by rw [List.length_take, List.length_drop]; omega
  have hle : (64 * k : Nat) < N → 64 * k + 64 ≤ N := fun h => by omega
  focus (refine S_seq rfl ?_; refine S_seq rfl (S_region rfl rfl ?_); (iterate 4 refine R_p rfl ?_ rfl rfl); refine R_nil ?_; (refine S_if rfl rfl (fun hs => ?_) (fun hs => ?_)); refine S_skip rfl ?_; refine S_seq rfl ?_; refine S_block rfl ?_; rotate_left; refine S_exit rfl rfl ?_; refine S_seq rfl (S_region rfl rfl ?_); (refine R_eff (E_alloca rfl noId_alloc) ?_ rfl rfl; rintro _ _ ⟨b7, rfl, rfl⟩); refine R_nil ?_; refine S_seq rfl ?_; refine S_seq rfl (S_region rfl rfl ?_); refine R_p rfl ?_ rfl rfl; refine R_nil ?_; refine S_block rfl ?_; rotate_left)
  · have hle2 := hle (by omega)
    refine S_draw ([pt b3 86 ((sumW P k).map w32), row 5 1 A1 N c1 (P.map bv), pt gk 72 (rootsL.map w32)]) sub_st (by kernel_rfl) rfl (by kernel_rfl) (by kernel_rfl : _ = 9) ?_
    (refine D_take 0 rfl (T_loada (ds := (sumW P k).map w32) rfl rfl rfl (sw8 P k) (fun q v hq => by rw [Nat.zero_add]; exact hq)) ?_ rfl rfl (by kernel_rfl) (by kernel_rfl))
    refine D_take 1 rfl (pev_ok rfl) ?_ rfl rfl (by kernel_rfl) (by kernel_rfl)
    refine D_take 2 rfl (pev_ok rfl) ?_ rfl rfl (by kernel_rfl) (by kernel_rfl)
    refine D_take 3 rfl (pev_ok rfl) ?_ rfl rfl (by kernel_rfl) (by kernel_rfl)
    (refine D_take 4 rfl (T_addN rfl rfl (by unfold fits; omega)) ?_ rfl rfl (by kernel_rfl) (by kernel_rfl))
    refine D_take 5 rfl (T_slb (q := 64 * k) (r := 64 * k + 64) rfl rfl rfl rfl rfl rfl (by omega) (by omega)) ?_ rfl rfl (by kernel_rfl) (by kernel_rfl)
    refine D_take 6 rfl (pev_ok rfl) ?_ rfl rfl (by kernel_rfl) (by kernel_rfl)
    refine D_one 7 rfl (E_refinto (l := (P.drop (64 * k)).take 64) rfl rfl rfl (sumW_len P k) (hsrc hle2) (h64 hle2) (Srd.pt rfl (fun q v hq => by rw [Nat.zero_add]; exact hq))) ?_ rfl rfl (by kernel_rfl)
    rintro _ _ ⟨rfl, rfl⟩
    refine Nx_same sub_st ?_
    refine D_one 8 rfl (E_storew (cs := (sumW P k).map w32) rfl rfl rfl (bl8 _ _) (w32_ones _) ((sw8 P k).trans (bl8 _ _).symm)) ?_ rfl rfl (by kernel_rfl)
    rintro _ _ rfl
    refine Nx_pivot (by kernel_rfl) ?_
    refine D_done ?_ (by kernel_rfl)
    skip
    focus (refine RS_blk ?_; refine S_region rfl rfl ?_; refine R_p rfl ?_ rfl rfl; refine R_take (T_addN rfl rfl (by unfold fits; omega)) ?_ rfl rfl; refine R_p rfl ?_ rfl rfl; refine R_nil ?_)
    exact hJ (k + 1) _ _ (by omega) (Sub.cons rfl (Sub.cons rfl (Sub.cons rfl (Sub.cons rfl (Sub.cons rfl Sub.nil))))) (by dsimp only [sumW]; exact sub_st) (by omega)
  have hk2 : k = N / 64 := by omega
  subst hk2
  have l8 := sumW_len P (N / 64)
  obtain ⟨W, hW⟩ : ∃ W, sumW P (N / 64) = W := ⟨_, rfl⟩
  rw [hW] at hsum l8 ⊢
  clear hJ hsrc h64 hle
  refine S_loop (X := Nat) (fun j => [(2, .pointer (some ⟨b2, 0, none⟩)), (3, .pointer (some ⟨b3, 0, none⟩)), (7, .pointer (some ⟨b7, 0, none⟩)), (8, .int .i64 (j : Int))]) (fun j => [pt b7 48 (pre (fun i => bv ((sumL l).getD i 0)) (fun _ => bv 0) 32 j), pt b3 86 (W.map w32), pt b2 48 (noId.map bv)]) (fun t => t ≤ 32) (fun t => 32 - t) rfl 0 (Nat.zero_le _) (Sub.cons rfl (Sub.cons rfl (Sub.cons rfl (Sub.cons rfl Sub.nil)))) (by rw [pre_0, show (List.range 32).map (fun _ => bv 0) = noId.map bv from rfl]; exact sub_st) ?_
  intro j hj J hJ
  have hX := UInt32.toNat_lt (W.getD (j / 4) 0)
  have hsl2 : ((sumL l).map bv).length = 32 := by simp [hsl]
  focus (refine S_seq rfl ?_; refine S_seq rfl (S_region rfl rfl ?_); (iterate 2 refine R_p rfl ?_ rfl rfl); refine R_nil ?_; (refine S_if rfl rfl (fun hs => ?_) (fun hs => ?_)); refine S_skip rfl ?_; refine S_seq rfl ?_; refine S_block rfl ?_; refine S_region rfl rfl ?_; (iterate 2 refine R_p rfl ?_ rfl rfl); refine R_take (T_divN (p := j) (q := 4) rfl rfl (by omega) (by unfold fits; omega)) ?_ rfl rfl; refine R_take (T_ixaN (q := j / 4) rfl rfl rfl rfl rfl rfl (by omega)) ?_ rfl rfl; refine R_take (T_load rfl rfl rfl (map_at0 w32 0 (by rw [l8]; omega))) ?_ rfl rfl; refine R_take (T_convf rfl rfl rfl rfl (by unfold fits; omega)) ?_ rfl rfl; (refine R_eff (E_highN (k := 4) (X := (W.getD (j / 4) 0).toNat) rfl rfl rfl (by omega) (by decide)) ?_ rfl rfl; rintro _ _ ⟨Ah, ch, hneh, rfl, rfl⟩; have hneh := hneh (by decide)); refine R_p rfl ?_ rfl rfl; refine R_take (T_modN (p := j) (q := 4) rfl rfl (by omega)) ?_ rfl rfl; refine R_take (T_ixN rfl rfl rfl rfl rfl rfl (by first | assumption | exact hne (by omega) | exact hne2 (by omega)) (by omega)) ?_ rfl rfl; refine R_take (T_ldb (j := j % 4) (m := 4) (bs := be 4 (W.getD (j / 4) 0).toNat) rfl rfl rfl (Src.row (c := ch)) (by omega)) ?_ rfl rfl; refine R_take (T_ixaN rfl rfl rfl rfl rfl rfl (by omega)) ?_ rfl rfl; (refine R_eff0 (E_store1 rfl rfl rfl rfl rfl rfl (by rw [pre_len]; omega)) ?_ rfl; rintro _ _ rfl); refine R_nil ?_; refine RS_blk ?_; refine S_region rfl rfl ?_; refine R_p rfl ?_ rfl rfl; refine R_take (T_addN rfl rfl (by unfold fits; omega)) ?_ rfl rfl; refine R_p rfl ?_ rfl rfl; refine R_nil ?_; rotate_left; refine S_exit rfl rfl ?_; refine S_seq rfl (S_region rfl rfl ?_); rotate_left)
  · refine hJ (j + 1) _ _ (by omega) (Sub.cons rfl (Sub.cons rfl (Sub.cons rfl (Sub.cons rfl Sub.nil)))) ?_ (by omega)
    rw [pre_setv (f := fun i => bv ((sumL l).getD i 0)) (by omega) (by rw [hsum, wordsB_at (by omega)]; rfl)]
    exact sub_st
  · obtain rfl : j = 32 := by omega
    rw [pre_all, ← map_range bv 0 hsl]
    focus (refine R_take (T_loada (ds := (sumL l).map bv) rfl rfl rfl hsl2 (fun q v hq => by rw [Nat.zero_add]; exact hq)) ?_ rfl rfl; (refine R_eff0 (E_storew (ds := (sumL l).map bv) (cs := noId.map bv) rfl rfl rfl hsl2 (bv_one _) hsl2.symm) ?_ rfl; rintro _ _ rfl); refine R_nil ?_)
    exact hB _ _ _ _ _ rfl (.cell rfl rfl rfl inferInstance hsl2 .nil) fun w' hS => ⟨(), rfl, trivial, hS.sublist (List.nil_sublist _)⟩
end Go.Proofs.YtdbehejbeioboaaDoor
