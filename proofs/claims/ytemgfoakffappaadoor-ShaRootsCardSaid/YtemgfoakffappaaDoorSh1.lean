/- Digests: what the functions of the layer reckon, in plain Lean; a word turned; a block drawn out. -/
import Derived.Test.YtemgfoakffappaaDoorTab
import Derived.Test.YtemgfoakffappaaDoorRk8
import Derived.Test.YtemgfoakffappaaDoorRdC
namespace Go.Proofs.YtemgfoakffappaaDoor
open Go.RowKit
open Asn (pt row rb)
set_option linter.unusedVariables false
set_option linter.unusedSimpArgs false
--@use N

def turn (x : UInt32) (n : Nat) : UInt32 := shr32 x n ||| shl32 x (32 - n)
def mixW (x : UInt32) (ns : List Nat) : UInt32 := ns.foldl (fun o n => o ^^^ turn x n) 0
def iv (n : Nat) : Value := .int .i64 (n : Int)
theorem mixW_next (x : UInt32) (ns : List Nat) (j : Nat) (h : j < ns.length) : mixW x (ns.take (j + 1)) = mixW x (ns.take j) ^^^ turn x (ns.getD j 0) := by
  unfold mixW
  rw [List.take_succ_eq_append_getElem h, List.foldl_append]
  simp [h]

set_option maxRecDepth 100000 in
set_option maxHeartbeats 4000000 in
theorem mixed_any (w : World) (x : UInt32) (A : Option Addr) (n c : Nat) (ns : List Nat) (F : Nat → Prop) (h : Rd w F 1 A n (ns.map iv)) (hn : n ≤ 1000) (hb : ∀ k ∈ ns, k ≤ 32) :
    Gives Tryd.prog 49 [.int .u32 (x.toNat : Int), .slice A n c] [] w (X := Unit) (fun _ => .int .u32 ((mixW x ns).toNat : Int)) (fun _ => True) (fun _ => []) := by
  refine gives_S Tryd.func49 rfl Tryd.ntmps49 Tryd.results49 (by simp) (St.enter w) (fun B hB => ?_)
  have hl : ns.length = n := by have := h.1; simpa using this
  have hld : ∀ {j : Nat} {T : Slots} {H : List Asn} {dd : Option Tmp} {tt : TypeId} {pos : String} {af : Array Edge} {g : Option (Nat × Bool)} {x : Operand}, oget T x = some (.pointer (pa A j)) → j < n → Tk Tryd.prog 27 w (owns []) T H ⟨dd, .load 3 x, tt, pos, af, g⟩ (.int .i64 ((ns.getD j 0 : Nat) : Int)) := fun {j T H dd tt pos af g x} hx hj => T_loado hx rfl rfl h (by simp [hl, hj, iv, List.getD]) fun k _ => noOwns k
  have hne : 0 < n → A ≠ none := fun h0 => by obtain ⟨ad, rfl, _⟩ := h.2 h0; simp
  focus (refine S_seq rfl ?_; refine S_region rfl rfl ?_; refine R_p rfl ?_ rfl rfl; refine R_nil ?_; refine S_seq rfl ?_; refine S_region rfl rfl ?_; refine R_take (T_convf rfl rfl rfl rfl (by unfold fits; omega)) ?_ rfl rfl; refine R_p rfl ?_ rfl rfl; refine R_nil ?_; refine S_seq rfl ?_; refine S_seq rfl ?_; refine S_region rfl rfl ?_; refine R_p rfl ?_ rfl rfl; refine R_p rfl ?_ rfl rfl; refine R_p rfl ?_ rfl rfl; refine R_nil ?_; refine S_block rfl ?_)
  refine S_loop (X := Nat) (fun j => [(0, .int .u32 (x.toNat : Int)), (5, .int .u32 ((mixW x (ns.take j)).toNat : Int)), (9, .slice A n c), (10, .int .i64 (n : Int)), (11, .int .i64 (j : Int))]) (fun _ => _) (fun j => j ≤ n) (fun j => n - j) rfl 0 (Nat.zero_le _) (Sub.cons rfl (Sub.cons rfl (Sub.cons rfl (Sub.cons rfl (Sub.cons rfl Sub.nil))))) (fun _ h => h) ?_
  intro j hj J hJ
  have hk : ns.getD j 0 ≤ 32 := by
    rcases Nat.lt_or_ge j n with h0 | h0
    · exact hb _ (by simp [List.getD, hl, h0])
    · simp [List.getD, List.getElem?_eq_none (show ns.length ≤ j by omega)]
  focus (refine S_seq rfl ?_; refine S_region rfl rfl ?_; refine R_p rfl ?_ rfl rfl; refine R_nil ?_; refine S_seq rfl ?_; (refine S_if rfl rfl (fun hs => ?_) (fun hs => ?_)); refine S_skip rfl ?_; refine S_seq rfl ?_; refine S_block rfl ?_; refine S_seq rfl ?_; refine S_region rfl rfl ?_; refine R_take (T_ixN rfl rfl rfl rfl rfl rfl (by first | assumption | exact hne (by omega) | exact hne2 (by omega)) (by omega)) ?_ rfl rfl; refine R_take (hld rfl (by omega)) ?_ rfl rfl; refine R_p rfl ?_ rfl rfl; refine R_nil ?_; (refine S_draw _ (fun _ h => h) (by kernel_rfl) rfl (by kernel_rfl) (rfl : _ = 11) ?_; (refine D_take 0 rfl (pev_ok rfl) ?_ rfl rfl (by kernel_rfl) (by kernel_rfl)); (refine D_take 1 rfl (pev_ok rfl) ?_ rfl rfl (by kernel_rfl) (by kernel_rfl)); (refine D_take 2 rfl (pev_ok rfl) ?_ rfl rfl (by kernel_rfl) (by kernel_rfl)); (refine D_take 3 rfl (T_wshr rfl rfl (by omega)) ?_ rfl rfl (by kernel_rfl) (by kernel_rfl)); (refine D_take 4 rfl (pev_ok rfl) ?_ rfl rfl (by kernel_rfl) (by kernel_rfl)); (refine D_take 5 rfl (pev_ok rfl) ?_ rfl rfl (by kernel_rfl) (by kernel_rfl)); ((refine D_take 6 rfl (T_subN rfl rfl (by omega) (by unfold fits; omega)) ?_ rfl rfl (by kernel_rfl) (by kernel_rfl))); (refine D_take 7 rfl (T_wshl rfl rfl (by omega)) ?_ rfl rfl (by kernel_rfl) (by kernel_rfl)); (refine D_take 8 rfl (T_w32 rfl rfl rfl) ?_ rfl rfl (by kernel_rfl) (by kernel_rfl)); (refine D_take 9 rfl (T_w32 rfl rfl rfl) ?_ rfl rfl (by kernel_rfl) (by kernel_rfl)); (refine D_take 10 rfl (pev_ok rfl) ?_ rfl rfl (by kernel_rfl) (by kernel_rfl)); refine D_done ?_ (by kernel_rfl)); refine RS_blk ?_; refine S_region rfl rfl ?_; refine R_take (T_addN rfl rfl (by unfold fits; omega)) ?_ rfl rfl; refine R_p rfl ?_ rfl rfl; refine R_nil ?_; rotate_left; refine S_exit rfl rfl ?_; refine S_seq rfl ?_; refine S_region rfl rfl ?_; refine R_p rfl ?_ rfl rfl; refine R_p rfl ?_ rfl rfl; refine R_nil ?_; rotate_left)
  · refine hJ (j + 1) _ _ (by omega) ?_ (fun _ h => h) (by omega)
    rw [mixW_next x ns j (by omega)]
    exact (Sub.cons rfl (Sub.cons rfl (Sub.cons rfl (Sub.cons rfl (Sub.cons rfl Sub.nil)))))
  · obtain rfl : j = n := by omega
    rw [List.take_of_length_le (by omega)]
    exact hB _ _ _ _ _ rfl rfl fun w' hS => ⟨(), rfl, trivial, hS⟩
section
variable {n : Nat} {w0 : World} {M : Nat → Prop} {T : Slots} {H Hr : List Asn} {dd : Option Tmp} {tt : TypeId} {pos : String} {af : Array Edge} {g : Option (Nat × Bool)} {x y : Operand} {ts : Array TypeId}
theorem E_mixed (ns : List Nat) {a : UInt32} {gb t m c : Nat} (hx : oget T x = some (.int .u32 (a.toNat : Int))) (hy : oget T y = some (.slice (some ⟨gb, 0, none⟩) m c)) [hm : Hat H gb t (ns.map iv)] (hl : ns.length = m) (hn : m ≤ 1000) (hb : ∀ k ∈ ns, k ≤ 32) :
    Ef Tryd.prog n w0 M T H ⟨dd, .call ⟨.value (.func 49), #[x, y], ts⟩, tt, pos, af, g⟩ (fun u H' => u = .int .u32 ((mixW a ns).toNat : Int) ∧ H' = H) := by
  refine (E_gv ⟨_, Tryd.func49, rfl, by kernel_rfl⟩ (vs := [.int .u32 (a.toNat : Int), .slice (some ⟨gb, 0, none⟩) m c]) (by simp [ogets, hx, hy]) fun w hS => mixed_any w a _ m c ns All ((Srd.pt (n := m) (size := 1) (by simp [hl]) (fun j v h => by simpa using h)).rd w hS) hn hb).mono ?_
  rintro v H' ⟨_, rfl, _, rfl⟩ w hS
  exact ⟨_, _, rfl, ⟨rfl, rfl⟩, hS⟩
/-- a word is read -/
theorem E_u32w {gb : Nat} {F : Nat → Prop} {l : List UInt8} (hx : oget T x = some (.pointer (some ⟨gb, 0, none⟩))) [h : HRd H gb F l 0 Hr] (hl : 4 ≤ l.length) :
    Ef Tryd.prog n w0 M T H ⟨dd, .call ⟨.value (.func 33), #[x], ts⟩, tt, pos, af, g⟩ (fun u H' => u = .int .u32 ((UInt32.ofNat (num (l.take 4))).toNat : Int) ∧ H' = rdr gb F (l.drop 4) 0 :: Hr) := by
  refine (E_u32 (l := l) (why := 0) hx).mono ?_
  rintro v H' ⟨t, l1, y1, hr, hn, rfl, rfl⟩ w hS
  have e1 : t = l.take 4 := by rw [hr.ht]; congr 1; unfold tookN; rw [if_pos (by omega)]; rfl
  have e2 : l1 = l.drop 4 := by rw [hr.hl]; congr 1; unfold tookN; rw [if_pos (by omega)]; rfl
  have e3 : y1 = 0 := by rw [hr.hw]; unfold whyN; rw [if_pos rfl, if_neg (by omega), if_neg (by omega)]
  subst e1 e2 e3
  refine ⟨_, _, rfl, ⟨?_, rfl⟩, hS⟩
  rw [show (UInt32.ofNat (num (List.take 4 l))).toNat = num (List.take 4 l) by rw [UInt32.toNat_ofNat', Nat.mod_eq_of_lt hn]]
end

/-! a block, drawn out -/
def nextW (l : List UInt8) (s : List UInt32) (t : Nat) : UInt32 :=
  if t < 16 then UInt32.ofNat (num ((l.drop (4 * t)).take 4))
  else s.getD (t - 16) 0 + s.getD (t - 7) 0 + (mixW (s.getD (t - 2) 0) [17, 19] ^^^ shr32 (s.getD (t - 2) 0) 10) + (mixW (s.getD (t - 15) 0) [7, 18] ^^^ shr32 (s.getD (t - 15) 0) 3)
def sched (l : List UInt8) : Nat → List UInt32
  | 0 => []
  | t + 1 => sched l t ++ [nextW l (sched l t) t]
theorem sched_len (l : List UInt8) (t : Nat) : (sched l t).length = t := by
  induction t with
  | zero => rfl
  | succ t ih => simp [sched, ih]
def cellsS (l : List UInt8) (t : Nat) : List Value := (sched l t).map w32 ++ List.replicate (64 - t) (w32 0)
theorem cellsS_get {l : List UInt8} {t j : Nat} (h : j < t) : (cellsS l t)[0 + j]? = some (.int .u32 (((sched l t).getD j 0).toNat : Int)) := by
  have := sched_len l t
  simp [cellsS, List.getElem?_append_left (show j < ((sched l t).map w32).length by simp [this]; omega), this, h, w32, List.getD]
theorem cellsS_len {l : List UInt8} {t : Nat} (h : t ≤ 64) : (cellsS l t).length = 64 := by
  simp [cellsS, sched_len]; omega
theorem cellsS_set {l : List UInt8} {t : Nat} {x : UInt32} (h : t < 64) (hx : x = nextW l (sched l t) t) : (cellsS l t).set (0 + t) (.int .u32 (x.toNat : Int)) = cellsS l (t + 1) := by
  have e : 64 - t = (64 - (t + 1)) + 1 := by omega
  have hl := sched_len l t
  unfold cellsS
  rw [e, List.replicate_succ, Nat.zero_add, List.set_append_right _ _ (by simp [hl]), List.length_map, hl, Nat.sub_self, sched, List.map_append, List.append_assoc, hx]
  rfl
theorem cellsS_0 (l : List UInt8) : cellsS l 0 = List.replicate 64 (.int .u32 0) := rfl
theorem z64_alloc : ti48.zero = .agg (List.replicate 64 (.int .u32 0)).toArray := by kernel_rfl
theorem cellsS_64 (l : List UInt8) : cellsS l 64 = (sched l 64).map w32 := by simp [cellsS]

set_option maxRecDepth 100000 in
set_option maxHeartbeats 4000000 in
theorem drawn_any (w : World) (l : List UInt8) (hl : l.length = 64) :
    Gives Tryd.prog 48 [.agg (l.map bv).toArray] [] w (X := Unit) (fun _ => .agg ((sched l 64).map w32).toArray) (fun _ => True) (fun _ => []) := by
  refine gives_C Tryd.func48 rfl Tryd.ntmps48 Tryd.results48 (by simp) (St.enter w) (fun B hB => ?_)
  focus (refine S_seq rfl ?_; refine S_region rfl rfl ?_; (refine R_eff (E_boxa rfl) ?_ rfl rfl; rintro _ _ ⟨b, rfl, rfl⟩); (refine R_eff (E_alloca rfl z64_alloc) ?_ rfl rfl; rintro _ _ ⟨b, rfl, rfl⟩); refine R_nil ?_; refine S_seq rfl ?_; refine S_region rfl rfl ?_; refine R_take (T_slarr rfl rfl rfl rfl) ?_ rfl rfl; (refine R_eff (E_read (l := l) rfl (Src.pt hl (by decide) (by decide) (fun j v h => by simpa using h)) (by decide)) ?_ rfl rfl; rintro _ _ ⟨gb, F, rfl, rfl⟩); refine R_p rfl ?_ rfl rfl; refine R_nil ?_; refine S_seq rfl ?_; refine S_seq rfl ?_; refine S_region rfl rfl ?_; refine R_p rfl ?_ rfl rfl; refine R_nil ?_; refine S_block rfl ?_)
  refine S_loop (X := Nat) (fun t => [(2, .pointer (some ⟨b, 0, none⟩)), (3, .pointer (some ⟨gb, 0, none⟩)), (9, .int .i64 (t : Int))]) (fun t => [rdr gb F (l.drop (4 * min t 16)) 0, pt b 48 (cellsS l t)]) (fun t => t ≤ 64) (fun t => 64 - t) rfl 0 (Nat.zero_le _) (Sub.cons rfl (Sub.cons rfl (Sub.cons rfl Sub.nil))) (by rw [cellsS_0, show List.drop (4 * min 0 16) l = l from rfl]; exact sub_st) ?_
  intro t ht J hJ
  have hlt : ¬ (t : Int) < 64 ∨ 4 ≤ (l.drop (4 * min t 16)).length ∨ ¬ (t : Int) < 16 := by rw [List.length_drop]; omega
  have hlt : (t : Int) < 16 → 4 ≤ (l.drop (4 * min t 16)).length := fun h => by rw [List.length_drop]; omega
  focus (refine S_seq rfl ?_; refine S_region rfl rfl ?_; refine R_p rfl ?_ rfl rfl; refine R_nil ?_; refine S_seq rfl ?_; (refine S_if rfl rfl (fun hs => ?_) (fun hs => ?_)); refine S_skip rfl ?_; refine S_seq rfl ?_; refine S_block rfl ?_; refine S_seq rfl ?_; refine S_region rfl rfl ?_; refine R_p rfl ?_ rfl rfl; refine R_p rfl ?_ rfl rfl; refine R_nil ?_; refine S_seq rfl ?_; refine S_seq rfl ?_; refine S_region rfl rfl ?_; refine R_p rfl ?_ rfl rfl; refine R_p rfl ?_ rfl rfl; refine R_nil ?_; (refine S_if rfl rfl (fun hs => ?_) (fun hs => ?_)); refine S_seq rfl ?_; refine S_region rfl rfl ?_; refine R_p rfl ?_ rfl rfl; refine R_p rfl ?_ rfl rfl; rotate_left; refine S_skip rfl ?_; refine S_seq rfl ?_; (refine S_draw _ (fun _ h => h) (by kernel_rfl) rfl (by kernel_rfl) (rfl : _ = 10) ?_; (refine D_take 0 rfl (pev_ok rfl) ?_ rfl rfl (by kernel_rfl) (by kernel_rfl)); ((refine D_take 1 rfl (T_subN rfl rfl (by omega) (by unfold fits; omega)) ?_ rfl rfl (by kernel_rfl) (by kernel_rfl))); (refine D_take 2 rfl (T_ixaN rfl rfl rfl rfl rfl rfl (by omega)) ?_ rfl rfl (by kernel_rfl) (by kernel_rfl)); (refine D_take 3 rfl (T_load rfl rfl rfl (cellsS_get (j := t - 2) (by omega))) ?_ rfl rfl (by kernel_rfl) (by kernel_rfl)); (refine D_take 4 rfl (pev_ok rfl) ?_ rfl rfl (by kernel_rfl) (by kernel_rfl)); ((refine D_take 5 rfl (T_subN rfl rfl (by omega) (by unfold fits; omega)) ?_ rfl rfl (by kernel_rfl) (by kernel_rfl))); (refine D_take 6 rfl (T_ixaN rfl rfl rfl rfl rfl rfl (by omega)) ?_ rfl rfl (by kernel_rfl) (by kernel_rfl)); (refine D_take 7 rfl (T_load rfl rfl rfl (cellsS_get (j := t - 15) (by omega))) ?_ rfl rfl (by kernel_rfl) (by kernel_rfl)); (refine D_take 8 rfl (pev_ok rfl) ?_ rfl rfl (by kernel_rfl) (by kernel_rfl)); (refine D_take 9 rfl (pev_ok rfl) ?_ rfl rfl (by kernel_rfl) (by kernel_rfl)); refine D_done ?_ (by kernel_rfl)); rotate_left; refine S_exit rfl rfl ?_; refine S_seq rfl ?_; refine S_region rfl rfl ?_; rotate_left)
  · have hlt := hlt hs
    focus ((refine R_eff (E_u32w rfl hlt) ?_ rfl rfl; rintro _ _ ⟨rfl, rfl⟩); refine R_take (T_ixaN rfl rfl rfl rfl rfl rfl (by omega)) ?_ rfl rfl; (refine R_eff0 (E_store1 rfl rfl rfl rfl rfl rfl (by rw [cellsS_len ht]; omega)) ?_ rfl; rintro _ _ rfl); refine R_nil ?_; refine S_exit rfl rfl ?_; refine S_region rfl rfl ?_; refine R_take (T_addN rfl rfl (by unfold fits; omega)) ?_ rfl rfl; refine R_p rfl ?_ rfl rfl; refine R_nil ?_)
    refine hJ (t + 1) _ _ (by omega) (Sub.cons rfl (Sub.cons rfl (Sub.cons rfl Sub.nil))) ?_ (by omega)
    rw [List.drop_drop, cellsS_set (by omega) (by unfold nextW; rw [if_pos (by omega), show min t 16 = t by omega])]
    rw [show 4 * min t 16 + 4 = 4 * min (t + 1) 16 by omega]
    exact sub_st
  · skip
    refine S_draw ([pt b 48 (cellsS l t)]) sub_st (by kernel_rfl) rfl (by kernel_rfl) (by kernel_rfl : _ = 26) ?_
    refine D_take 0 rfl (pev_ok rfl) ?_ rfl rfl (by kernel_rfl) (by kernel_rfl)
    refine D_take 1 rfl (pev_ok rfl) ?_ rfl rfl (by kernel_rfl) (by kernel_rfl)
    (refine D_take 2 rfl (T_subN rfl rfl (by omega) (by unfold fits; omega)) ?_ rfl rfl (by kernel_rfl) (by kernel_rfl))
    refine D_take 3 rfl (T_ixaN rfl rfl rfl rfl rfl rfl (by omega)) ?_ rfl rfl (by kernel_rfl) (by kernel_rfl)
    refine D_take 4 rfl (T_load rfl rfl rfl (cellsS_get (j := t - 16) (by omega))) ?_ rfl rfl (by kernel_rfl) (by kernel_rfl)
    refine D_take 5 rfl (pev_ok rfl) ?_ rfl rfl (by kernel_rfl) (by kernel_rfl)
    (refine D_take 6 rfl (T_subN rfl rfl (by omega) (by unfold fits; omega)) ?_ rfl rfl (by kernel_rfl) (by kernel_rfl))
    refine D_take 7 rfl (T_ixaN rfl rfl rfl rfl rfl rfl (by omega)) ?_ rfl rfl (by kernel_rfl) (by kernel_rfl)
    refine D_take 8 rfl (T_load rfl rfl rfl (cellsS_get (j := t - 7) (by omega))) ?_ rfl rfl (by kernel_rfl) (by kernel_rfl)
    refine D_take 9 rfl (T_w32 rfl rfl rfl) ?_ rfl rfl (by kernel_rfl) (by kernel_rfl)
    refine D_take 10 rfl (pev_ok rfl) ?_ rfl rfl (by kernel_rfl) (by kernel_rfl)
    refine D_take 13 rfl (pev_ok rfl) ?_ rfl rfl (by kernel_rfl) (by kernel_rfl)
    refine D_take 14 rfl (T_wshr (q := 10) rfl rfl (by decide)) ?_ rfl rfl (by kernel_rfl) (by kernel_rfl)
    refine D_take 17 rfl (pev_ok rfl) ?_ rfl rfl (by kernel_rfl) (by kernel_rfl)
    refine D_take 20 rfl (pev_ok rfl) ?_ rfl rfl (by kernel_rfl) (by kernel_rfl)
    refine D_take 21 rfl (T_wshr (q := 3) rfl rfl (by decide)) ?_ rfl rfl (by kernel_rfl) (by kernel_rfl)
    refine D_two 11 18 (by decide) rfl rfl (E_lit1 (vs := [iv 17, iv 19]) rfl rfl rfl rfl rfl rfl rfl (by simp [Value.oneCell', iv]) (by decide)) (E_lit1 (vs := [iv 7, iv 18]) rfl rfl rfl rfl rfl rfl rfl (by simp [Value.oneCell', iv]) (by decide)) ?_ ?_ rfl rfl rfl rfl (by kernel_rfl)
    · rintro _ _ ⟨bl1, rfl, rfl⟩
      refine Nx_same sub_st ?_
      refine D_two 12 18 (by decide) rfl rfl (E_mixed [17, 19] rfl rfl rfl (by decide) (by decide)) (E_lit1 (vs := [iv 7, iv 18]) rfl rfl rfl rfl rfl rfl rfl (by simp [Value.oneCell', iv]) (by decide)) ?_ ?_ rfl rfl rfl rfl (by kernel_rfl)
      · rintro _ _ ⟨rfl, rfl⟩
        refine Nx_same sub_st ?_
        refine D_take 15 rfl (T_w32 rfl rfl rfl) ?_ rfl rfl (by kernel_rfl) (by kernel_rfl)
        refine D_take 16 rfl (T_w32 rfl rfl rfl) ?_ rfl rfl (by kernel_rfl) (by kernel_rfl)
        refine D_one 18 rfl (E_lit1 (vs := [iv 7, iv 18]) rfl rfl rfl rfl rfl rfl rfl (by simp [Value.oneCell', iv]) (by decide)) ?_ rfl rfl (by kernel_rfl)
        rintro _ _ ⟨bl2, rfl, rfl⟩
        refine Nx_same sub_st ?_
        refine D_one 19 rfl (E_mixed [7, 18] rfl rfl rfl (by decide) (by decide)) ?_ rfl rfl (by kernel_rfl)
        rintro _ _ ⟨rfl, rfl⟩
        refine Nx_same sub_st ?_
        refine D_take 22 rfl (T_w32 rfl rfl rfl) ?_ rfl rfl (by kernel_rfl) (by kernel_rfl)
        refine D_take 23 rfl (T_w32 rfl rfl rfl) ?_ rfl rfl (by kernel_rfl) (by kernel_rfl)
        refine D_take 24 rfl (T_ixaN rfl rfl rfl rfl rfl rfl (by omega)) ?_ rfl rfl (by kernel_rfl) (by kernel_rfl)
        refine D_one 25 rfl (E_store1 rfl rfl rfl rfl rfl rfl (by rw [cellsS_len ht]; omega)) ?_ rfl rfl (by kernel_rfl)
        rintro _ _ rfl
        refine Nx_pivot (by kernel_rfl) ?_
        refine D_done ?_ (by kernel_rfl)
        (rw [cellsS_set (by omega) (by unfold nextW; rw [if_neg (by omega)])]; (focus (refine RS_blk ?_; refine S_region rfl rfl ?_; refine R_take (T_addN rfl rfl (by unfold fits; omega)) ?_ rfl rfl; refine R_p rfl ?_ rfl rfl; refine R_nil ?_)); refine hJ (t + 1) _ _ (by omega) (Sub.cons rfl (Sub.cons rfl (Sub.cons rfl Sub.nil))) ?_ (by omega); rw [show min (t + 1) 16 = min t 16 by omega]; exact sub_st)
      · rintro _ _ ⟨bl2, rfl, rfl⟩
        refine Nx_same sub_st ?_
        refine D_one 12 rfl (E_mixed [17, 19] rfl rfl rfl (by decide) (by decide)) ?_ rfl rfl (by kernel_rfl)
        rintro _ _ ⟨rfl, rfl⟩
        refine Nx_same sub_st ?_
        refine D_take 15 rfl (T_w32 rfl rfl rfl) ?_ rfl rfl (by kernel_rfl) (by kernel_rfl)
        refine D_take 16 rfl (T_w32 rfl rfl rfl) ?_ rfl rfl (by kernel_rfl) (by kernel_rfl)
        refine D_one 19 rfl (E_mixed [7, 18] rfl rfl rfl (by decide) (by decide)) ?_ rfl rfl (by kernel_rfl)
        rintro _ _ ⟨rfl, rfl⟩
        refine Nx_same sub_st ?_
        refine D_take 22 rfl (T_w32 rfl rfl rfl) ?_ rfl rfl (by kernel_rfl) (by kernel_rfl)
        refine D_take 23 rfl (T_w32 rfl rfl rfl) ?_ rfl rfl (by kernel_rfl) (by kernel_rfl)
        refine D_take 24 rfl (T_ixaN rfl rfl rfl rfl rfl rfl (by omega)) ?_ rfl rfl (by kernel_rfl) (by kernel_rfl)
        refine D_one 25 rfl (E_store1 rfl rfl rfl rfl rfl rfl (by rw [cellsS_len ht]; omega)) ?_ rfl rfl (by kernel_rfl)
        rintro _ _ rfl
        refine Nx_pivot (by kernel_rfl) ?_
        refine D_done ?_ (by kernel_rfl)
        (rw [cellsS_set (by omega) (by unfold nextW; rw [if_neg (by omega)])]; (focus (refine RS_blk ?_; refine S_region rfl rfl ?_; refine R_take (T_addN rfl rfl (by unfold fits; omega)) ?_ rfl rfl; refine R_p rfl ?_ rfl rfl; refine R_nil ?_)); refine hJ (t + 1) _ _ (by omega) (Sub.cons rfl (Sub.cons rfl (Sub.cons rfl Sub.nil))) ?_ (by omega); rw [show min (t + 1) 16 = min t 16 by omega]; exact sub_st)
    · rintro _ _ ⟨bl2, rfl, rfl⟩
      refine Nx_same sub_st ?_
      refine D_one 11 rfl (E_lit1 (vs := [iv 17, iv 19]) rfl rfl rfl rfl rfl rfl rfl (by simp [Value.oneCell', iv]) (by decide)) ?_ rfl rfl (by kernel_rfl)
      rintro _ _ ⟨bl1, rfl, rfl⟩
      refine Nx_same sub_st ?_
      refine D_one 12 rfl (E_mixed [17, 19] rfl rfl rfl (by decide) (by decide)) ?_ rfl rfl (by kernel_rfl)
      rintro _ _ ⟨rfl, rfl⟩
      refine Nx_same sub_st ?_
      refine D_take 15 rfl (T_w32 rfl rfl rfl) ?_ rfl rfl (by kernel_rfl) (by kernel_rfl)
      refine D_take 16 rfl (T_w32 rfl rfl rfl) ?_ rfl rfl (by kernel_rfl) (by kernel_rfl)
      refine D_one 19 rfl (E_mixed [7, 18] rfl rfl rfl (by decide) (by decide)) ?_ rfl rfl (by kernel_rfl)
      rintro _ _ ⟨rfl, rfl⟩
      refine Nx_same sub_st ?_
      refine D_take 22 rfl (T_w32 rfl rfl rfl) ?_ rfl rfl (by kernel_rfl) (by kernel_rfl)
      refine D_take 23 rfl (T_w32 rfl rfl rfl) ?_ rfl rfl (by kernel_rfl) (by kernel_rfl)
      refine D_take 24 rfl (T_ixaN rfl rfl rfl rfl rfl rfl (by omega)) ?_ rfl rfl (by kernel_rfl) (by kernel_rfl)
      refine D_one 25 rfl (E_store1 rfl rfl rfl rfl rfl rfl (by rw [cellsS_len ht]; omega)) ?_ rfl rfl (by kernel_rfl)
      rintro _ _ rfl
      refine Nx_pivot (by kernel_rfl) ?_
      refine D_done ?_ (by kernel_rfl)
      (rw [cellsS_set (by omega) (by unfold nextW; rw [if_neg (by omega)])]; (focus (refine RS_blk ?_; refine S_region rfl rfl ?_; refine R_take (T_addN rfl rfl (by unfold fits; omega)) ?_ rfl rfl; refine R_p rfl ?_ rfl rfl; refine R_nil ?_)); refine hJ (t + 1) _ _ (by omega) (Sub.cons rfl (Sub.cons rfl (Sub.cons rfl Sub.nil))) ?_ (by omega); rw [show min (t + 1) 16 = min t 16 by omega]; exact sub_st)
  · obtain rfl : t = 64 := by omega
    rw [cellsS_64]
    focus (refine R_take (T_loada (ds := (sched l 64).map w32) rfl rfl rfl (by simp [sched_len]; rfl) (fun j v h => by simpa using h)) ?_ rfl rfl; (refine R_eff0 (E_storew (cs := (sched l 64).map w32) rfl rfl rfl (by simp [sched_len]; rfl) (fun u hu => by obtain ⟨x, _, rfl⟩ := List.mem_map.1 hu; rfl) rfl) ?_ rfl; rintro _ _ rfl); refine R_nil ?_)
    exact hB _ _ _ _ _ rfl (.cell rfl rfl rfl inferInstance (by simp [sched_len]; rfl) .nil) fun w' hS => ⟨(), rfl, trivial, hS.sublist (List.nil_sublist _)⟩
end Go.Proofs.YtemgfoakffappaaDoor
