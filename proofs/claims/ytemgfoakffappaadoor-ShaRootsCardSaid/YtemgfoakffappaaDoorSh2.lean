/- Digests: a block goes into the words. -/
import Derived.Test.YtemgfoakffappaaDoorSh1
namespace Go.Proofs.YtemgfoakffappaaDoor
open Go.RowKit
open Asn (pt row rb)
set_option linter.unusedVariables false
set_option linter.unusedSimpArgs false
--@use N

section
variable {P : Program} {n : Nat} {w0 : World} {M : Nat → Prop} {T : Slots} {H Hr : List Asn} {dd : Option Tmp} {tt : TypeId} {pos : String} {af : Array Edge} {g : Option (Nat × Bool)}
/-- arr[lo:], arr[:hi] -/
theorem T_slarrL [HasTab P] {x y : Operand} {s e : TypeId} {gb off m q : Nat} {z : Int} {kk : IntKind} {i ei : Ti} (hx : oget T x = some (.pointer (some ⟨gb, off, none⟩))) (hy : oget T y = some (.int kk z)) [hz : NatOf z q] (hs : ty P s = some i) (hi : i.desc = .array m e) (he : ty P e = some ei) (h1 : ei.size = 1) (hq : q < m) :
    Tk P n w0 M T H ⟨dd, .slice s x (some y) none none, tt, pos, af, g⟩ (.slice (some ⟨gb, off + q, none⟩) (m - q) (m - q)) := .mk fun a w ha hS => by
  rw [hz.is] at hy
  have hu := run_underlying (hi ▸ ty_ok hs) w
  have hle : q ≤ m := by omega
  have hne : ¬ m = q := by omega
  simp [execOp, ha.eval hx, ha.eval hy, Instr.sliceAt, hu, Instr.sureAddr, Instr.sliceBounds, Instr.sliceBound, asIntOf, ty_size he w, h1, hle, hne, add_plain]
theorem T_slarrH [HasTab P] {x y : Operand} {s e : TypeId} {gb off m q : Nat} {z : Int} {kk : IntKind} {i ei : Ti} (hx : oget T x = some (.pointer (some ⟨gb, off, none⟩))) (hy : oget T y = some (.int kk z)) [hz : NatOf z q] (hs : ty P s = some i) (hi : i.desc = .array m e) (he : ty P e = some ei) (hq : q ≤ m) :
    Tk P n w0 M T H ⟨dd, .slice s x none (some y) none, tt, pos, af, g⟩ (.slice (some ⟨gb, off, none⟩) q m) := .mk fun a w ha hS => by
  rw [hz.is] at hy
  have hu := run_underlying (hi ▸ ty_ok hs) w
  simp [execOp, ha.eval hx, ha.eval hy, Instr.sliceAt, hu, Instr.sureAddr, Instr.sliceBounds, Instr.sliceBound, asIntOf, ty_size he w, hq, Addr.add]
end
/-- n cells, the first j of them as f says, the others as g says -/
def pre (f g : Nat → Value) (n j : Nat) : List Value := (List.range n).map fun i => if i < j then f i else g i
theorem pre_len (f g : Nat → Value) (n j : Nat) : (pre f g n j).length = n := by simp [pre]
theorem pre_at {f g : Nat → Value} {n j i : Nat} (h : i < n) : (pre f g n j)[0 + i]? = some (if i < j then f i else g i) := by simp [pre, h]
theorem pre_next {f g : Nat → Value} {n j : Nat} (h : j < n) : (pre f g n j)[0 + j]? = some (g j) := by rw [pre_at h, if_neg (by omega)]
theorem pre_set {f g : Nat → Value} {n j : Nat} (h : j < n) : (pre f g n j).set (0 + j) (f j) = pre f g n (j + 1) := by
  apply List.ext_getElem?
  intro i
  rw [Nat.zero_add, List.getElem?_set]
  by_cases hi : i < n
  · simp only [pre, List.getElem?_map, List.getElem?_range hi, Option.map_some, List.length_map, List.length_range]
    by_cases hij : j = i
    · subst hij; rw [if_pos rfl, if_pos h, if_pos (by omega)]
    · rw [if_neg hij]
      by_cases h2 : i < j
      · rw [if_pos h2, if_pos (by omega)]
      · rw [if_neg h2, if_neg (by omega)]
  · have e1 : (pre f g n j)[i]? = none := List.getElem?_eq_none (by rw [pre_len]; omega)
    have e2 : (pre f g n (j + 1))[i]? = none := List.getElem?_eq_none (by rw [pre_len]; omega)
    rw [e1, e2]
    split
    · rename_i hij; subst hij; omega
    · rfl
theorem pre_0 (f g : Nat → Value) (n : Nat) : pre f g n 0 = (List.range n).map g := by simp [pre]
theorem pre_all (f g : Nat → Value) (n : Nat) : pre f g n n = (List.range n).map f := by
  apply List.map_congr_left
  intro i hi
  rw [if_pos (by simpa using hi)]
theorem map_range {α : Type} {l : List α} {n : Nat} (f : α → Value) (d : α) (h : l.length = n) : l.map f = (List.range n).map fun i => f (l.getD i d) := by
  apply List.ext_getElem (by simp [h])
  intro i h1 h2
  simp at h1
  simp [List.getD, h1]

theorem map_at {α : Type} (f : α → Value) (d : α) {l : List α} {j : Nat} (h : j < l.length) : (l.map f)[j]? = some (f (l.getD j d)) := by simp [List.getD, h]
theorem map_at0 {α : Type} (f : α → Value) (d : α) {l : List α} {j : Nat} (h : j < l.length) : (l.map f)[0 + j]? = some (f (l.getD j d)) := by rw [Nat.zero_add]; exact map_at f d h
/-- the constants -/
def rootsL : List UInt32 := [
  0x428a2f98, 0x71374491, 0xb5c0fbcf, 0xe9b5dba5, 0x3956c25b, 0x59f111f1, 0x923f82a4, 0xab1c5ed5,
  0xd807aa98, 0x12835b01, 0x243185be, 0x550c7dc3, 0x72be5d74, 0x80deb1fe, 0x9bdc06a7, 0xc19bf174,
  0xe49b69c1, 0xefbe4786, 0x0fc19dc6, 0x240ca1cc, 0x2de92c6f, 0x4a7484aa, 0x5cb0a9dc, 0x76f988da,
  0x983e5152, 0xa831c66d, 0xb00327c8, 0xbf597fc7, 0xc6e00bf3, 0xd5a79147, 0x06ca6351, 0x14292967,
  0x27b70a85, 0x2e1b2138, 0x4d2c6dfc, 0x53380d13, 0x650a7354, 0x766a0abb, 0x81c2c92e, 0x92722c85,
  0xa2bfe8a1, 0xa81a664b, 0xc24b8b70, 0xc76c51a3, 0xd192e819, 0xd6990624, 0xf40e3585, 0x106aa070,
  0x19a4c116, 0x1e376c08, 0x2748774c, 0x34b0bcb5, 0x391c0cb3, 0x4ed8aa4a, 0x5b9cca4f, 0x682e6ff3,
  0x748f82ee, 0x78a5636f, 0x84c87814, 0x8cc70208, 0x90befffa, 0xa4506ceb, 0xbef9a3f7, 0xc67178f2]
theorem roots_len : rootsL.length = 64 := rfl
/-- the variable that holds them lies in block 0 -/
def Roots (w : World) : Prop := Rd w (fun k => k = 0) 1 (some ⟨0, 0, none⟩) 64 (rootsL.map w32)
theorem Roots.kp {w w' : World} {F : Nat → Prop} (h : Roots w) (hk : Kp F w w') (hF : F 0) : Roots w' := Rd.keep h (hk.mono fun k hk _ => hk ▸ hF)
theorem Roots.size {w : World} (h : Roots w) : 0 < w.heap.size := by
  obtain ⟨ad, e, hb, hc⟩ := h.2 (by decide)
  have := World.block_lt_of_cell? w _ (hc 0 _ (by simp [rootsL]; rfl))
  rw [block_of_add, hb] at this
  exact this

/-- one round -/
def rnd (l : List UInt32) (k w : UInt32) : List UInt32 :=
  match l with
  | [a, b, c, d, e, f, g, h] =>
    let x := h + mixW e [6, 11, 25] + (g ^^^ (e &&& (f ^^^ g))) + k + w
    let y := mixW a [2, 13, 22] + (a &&& b ||| c &&& (a ||| b))
    [x + y, a, b, c, d + x, e, f, g]
  | l => l
def rounds (ks ws : List UInt32) (h : List UInt32) : Nat → List UInt32
  | 0 => h
  | t + 1 => rnd (rounds ks ws h t) (ks.getD t 0) (ws.getD t 0)
theorem eight {α : Type} {l : List α} (h : l.length = 8) : ∃ a b c d e f g i, l = [a, b, c, d, e, f, g, i] := by
  match l, h with
  | [a, b, c, d, e, f, g, i], _ => exact ⟨a, b, c, d, e, f, g, i, rfl⟩
theorem rnd_len {l : List UInt32} (h : l.length = 8) (k w : UInt32) : (rnd l k w).length = 8 := by
  obtain ⟨a, b, c, d, e, f, g, i, rfl⟩ := eight h
  rfl
theorem rounds_len {ks ws h : List UInt32} (hl : h.length = 8) (t : Nat) : (rounds ks ws h t).length = 8 := by
  induction t with
  | zero => exact hl
  | succ t ih => exact rnd_len ih _ _
/-- what words come to by a block -/
def blockW (h : List UInt32) (b : List UInt8) : List UInt32 := (List.range 8).map fun i => h.getD i 0 + (rounds rootsL (sched b 64) h 64).getD i 0
theorem blockW_len (h : List UInt32) (b : List UInt8) : (blockW h b).length = 8 := by simp [blockW]
theorem w32_ones (l : List UInt32) : ∀ u ∈ l.map w32, u.oneCell' = true := fun u hu => by obtain ⟨x, _, rfl⟩ := List.mem_map.1 hu; rfl
theorem z8_alloc : ti23.zero = .agg (List.replicate 8 (.int .u32 0)).toArray := by kernel_rfl

section
variable {n : Nat} {w0 : World} {M : Nat → Prop} {T : Slots} {H Hr : List Asn} {dd : Option Tmp} {tt : TypeId} {pos : String} {af : Array Edge} {g : Option (Nat × Bool)} {x y : Operand} {ts : Array TypeId}
theorem E_drawn {l : List UInt8} (hx : oget T x = some (.agg (l.map bv).toArray)) (hl : l.length = 64) :
    Ef Tryd.prog n w0 M T H ⟨dd, .call ⟨.value (.func 48), #[x], ts⟩, tt, pos, af, g⟩ (fun u H' => u = .agg ((sched l 64).map w32).toArray ∧ H' = H) := by
  refine (E_gv ⟨_, Tryd.func48, rfl, by kernel_rfl⟩ (vs := [.agg (l.map bv).toArray]) (by simp [ogets, hx]) fun w hS => drawn_any w l hl).mono ?_
  rintro v H' ⟨_, rfl, _, rfl⟩ w hS
  exact ⟨_, _, rfl, ⟨rfl, rfl⟩, hS⟩
end

theorem pre7 {r0 r1 r2 r3 r4 r5 r6 r7 : UInt32} {j : Nat} {v : Value} (h : ([r0, r1, r2, r3, r4, r5, r6].map w32)[j]? = some v) : ([r0, r1, r2, r3, r4, r5, r6, r7].map w32)[0 + j]? = some v := by
  have hj : j < ([r0, r1, r2, r3, r4, r5, r6].map w32).length := (List.getElem?_eq_some_iff.1 h).1
  rw [show [r0, r1, r2, r3, r4, r5, r6, r7] = [r0, r1, r2, r3, r4, r5, r6] ++ [r7] from rfl, List.map_append, Nat.zero_add, List.getElem?_append_left hj]
  exact h
set_option maxRecDepth 100000 in
set_option maxHeartbeats 4000000 in
theorem into_any (w : World) (gb : Nat) (h : List UInt32) (lh : h.length = 8) (l : List UInt8) (hl : l.length = 64) (hr : Roots w) (hg : gb ≠ 0) (hS : St w (owns [pt gb 63 (h.map w32)]) [pt gb 63 (h.map w32)] w) :
    Gives Tryd.prog 35 [.pointer (some ⟨gb, 0, none⟩), .agg (l.map bv).toArray] [pt gb 63 (h.map w32)] w (X := Unit) (fun _ => .tuple #[]) (fun _ => True) (fun _ => [pt gb 63 ((blockW h l).map w32)]) := by
  refine gives_N Tryd.func35 rfl Tryd.ntmps35 Tryd.results35 (by simp) hS (fun B hB => ?_)
  have lh2 : (h.map w32).length = 8 := by simpa using lh
  have ll2 : (l.map bv).length = 64 := by simpa using hl
  have lh3 : (List.replicate 8 (Value.int .u32 0)).length = (h.map w32).length := by rw [lh2]; rfl
  have hh : ∀ j v, (h.map w32)[j]? = some v → (h.map w32)[0 + 0 + 0 + j]? = some v := fun j v h => by simpa using h
  have hb : ∀ j v, (l.map bv)[j]? = some v → (l.map bv)[0 + j]? = some v := fun j v h => by simpa using h
  focus (refine S_seq rfl ?_; refine S_region rfl rfl ?_; (refine R_eff (E_boxa rfl) ?_ rfl rfl; rintro _ _ ⟨b1, rfl, rfl⟩); refine R_nil ?_; refine S_seq rfl ?_; refine S_region rfl rfl ?_; refine R_p rfl ?_ rfl rfl; refine R_take (T_nilCheck rfl) ?_ rfl rfl; refine R_p rfl ?_ rfl rfl; refine R_p rfl ?_ rfl rfl; refine R_take (T_loada (ds := h.map w32) rfl rfl rfl lh2 hh) ?_ rfl rfl; (refine R_eff (E_alloca rfl z8_alloc) ?_ rfl rfl; rintro _ _ ⟨b4, rfl, rfl⟩); (refine R_eff0 (E_storew (cs := List.replicate 8 (.int .u32 0)) rfl rfl rfl lh2 (w32_ones _) lh3) ?_ rfl; rintro _ _ rfl); refine R_nil ?_; refine S_seq rfl ?_; refine S_seq rfl ?_; refine S_region rfl rfl ?_; refine R_take (T_loada (ds := l.map bv) rfl rfl rfl ll2 hb) ?_ rfl rfl; (refine R_eff (E_drawn rfl hl) ?_ rfl rfl; rintro _ _ ⟨rfl, rfl⟩); refine R_p rfl ?_ rfl rfl; refine R_nil ?_; refine S_block rfl ?_)
  refine S_loop (X := Nat) (fun t => [(0, .pointer (some ⟨gb, 0, none⟩)), (4, .pointer (some ⟨b4, 0, none⟩)), (19, .agg ((sched l 64).map w32).toArray), (20, .int .i64 (t : Int))]) (fun t => [pt b4 23 ((rounds rootsL (sched l 64) h t).map w32), pt gb 63 (h.map w32)]) (fun t => t ≤ 64) (fun t => 64 - t) rfl 0 (Nat.zero_le _) (Sub.cons rfl (Sub.cons rfl (Sub.cons rfl (Sub.cons rfl Sub.nil)))) (by rw [show rounds rootsL (sched l 64) h 0 = h from rfl]; exact sub_st) ?_
  intro t ht J hJ
  obtain ⟨r0, r1, r2, r3, r4, r5, r6, r7, hR⟩ := eight (rounds_len (ks := rootsL) (ws := sched l 64) lh t)
  rw [hR]
  have hnext := hJ (t + 1)
  simp only [rounds, hR] at hnext
  have hR0 : ∀ k, k = 0 → ¬ owns [pt gb 63 (h.map w32)] k := fun k hk ⟨A, hA, hk'⟩ => by
    rcases List.mem_singleton.1 hA with rfl
    exact hg (hk'.symm.trans hk)
  focus (refine S_seq rfl ?_; refine S_region rfl rfl ?_; refine R_p rfl ?_ rfl rfl; refine R_nil ?_; refine S_seq rfl ?_; (refine S_if rfl rfl (fun hs => ?_) (fun hs => ?_)); refine S_skip rfl ?_; refine S_seq rfl ?_; refine S_block rfl ?_; refine S_seq rfl ?_; refine S_region rfl rfl ?_; refine R_p rfl ?_ rfl rfl; refine R_take (T_ixv (q := t) (v := w32 ((sched l 64).getD t 0)) rfl rfl rfl rfl rfl rfl rfl (by omega) (map_at w32 0 (by rw [sched_len]; omega))) ?_ rfl rfl; refine R_p rfl ?_ rfl rfl; refine R_p rfl ?_ rfl rfl; refine R_nil ?_; refine S_seq rfl ?_; (refine S_draw _ (fun _ h => h) (by kernel_rfl) rfl (by kernel_rfl) (rfl : _ = 6) ?_; (refine D_take 0 rfl (T_ixaN rfl rfl rfl rfl rfl rfl (by omega)) ?_ rfl rfl (by kernel_rfl) (by kernel_rfl)); (refine D_take 1 rfl (T_load rfl rfl rfl rfl) ?_ rfl rfl (by kernel_rfl) (by kernel_rfl)); (refine D_take 2 rfl (T_ixaN rfl rfl rfl rfl rfl rfl (by omega)) ?_ rfl rfl (by kernel_rfl) (by kernel_rfl)); (refine D_take 3 rfl (T_load rfl rfl rfl rfl) ?_ rfl rfl (by kernel_rfl) (by kernel_rfl)); (refine D_take 4 rfl (pev_ok rfl) ?_ rfl rfl (by kernel_rfl) (by kernel_rfl)); (refine D_take 5 rfl (pev_ok rfl) ?_ rfl rfl (by kernel_rfl) (by kernel_rfl)); refine D_done ?_ (by kernel_rfl)); refine S_seq rfl ?_; rotate_left; refine S_exit rfl rfl ?_; refine S_seq rfl ?_; refine S_region rfl rfl ?_; rotate_left)
  · skip
    refine S_draw ([pt b4 23 ([r0, r1, r2, r3, r4, r5, r6, r7].map w32)]) sub_st (by kernel_rfl) rfl (by kernel_rfl) (by kernel_rfl : _ = 24) ?_
    refine D_take 0 rfl (T_ixaN rfl rfl rfl rfl rfl rfl (by omega)) ?_ rfl rfl (by kernel_rfl) (by kernel_rfl)
    refine D_take 1 rfl (T_load rfl rfl rfl rfl) ?_ rfl rfl (by kernel_rfl) (by kernel_rfl)
    refine D_take 2 rfl (pev_ok rfl) ?_ rfl rfl (by kernel_rfl) (by kernel_rfl)
    refine D_take 6 rfl (T_ixaN rfl rfl rfl rfl rfl rfl (by omega)) ?_ rfl rfl (by kernel_rfl) (by kernel_rfl)
    refine D_take 7 rfl (T_load rfl rfl rfl rfl) ?_ rfl rfl (by kernel_rfl) (by kernel_rfl)
    refine D_take 8 rfl (pev_ok rfl) ?_ rfl rfl (by kernel_rfl) (by kernel_rfl)
    refine D_take 9 rfl (T_ixaN rfl rfl rfl rfl rfl rfl (by omega)) ?_ rfl rfl (by kernel_rfl) (by kernel_rfl)
    refine D_take 10 rfl (T_load rfl rfl rfl rfl) ?_ rfl rfl (by kernel_rfl) (by kernel_rfl)
    refine D_take 11 rfl (T_ixaN rfl rfl rfl rfl rfl rfl (by omega)) ?_ rfl rfl (by kernel_rfl) (by kernel_rfl)
    refine D_take 12 rfl (T_load rfl rfl rfl rfl) ?_ rfl rfl (by kernel_rfl) (by kernel_rfl)
    refine D_take 13 rfl (T_w32 rfl rfl rfl) ?_ rfl rfl (by kernel_rfl) (by kernel_rfl)
    refine D_take 14 rfl (T_w32 rfl rfl rfl) ?_ rfl rfl (by kernel_rfl) (by kernel_rfl)
    refine D_take 15 rfl (T_w32 rfl rfl rfl) ?_ rfl rfl (by kernel_rfl) (by kernel_rfl)
    refine D_take 17 rfl (pev_ok rfl) ?_ rfl rfl (by kernel_rfl) (by kernel_rfl)
    refine D_take 18 rfl (T_ixaN rfl rfl rfl rfl rfl rfl (by omega)) ?_ rfl rfl (by kernel_rfl) (by kernel_rfl)
    (refine D_take 19 rfl (T_loadg (v := w32 (rootsL.getD t 0)) rfl rfl rfl hr hR0 (map_at0 w32 0 (by rw [roots_len]; omega))) ?_ rfl rfl (by kernel_rfl) (by kernel_rfl))
    refine D_take 21 rfl (pev_ok rfl) ?_ rfl rfl (by kernel_rfl) (by kernel_rfl)
    refine D_one 3 rfl (E_lit1 (vs := [iv 6, iv 11, iv 25]) rfl rfl rfl rfl rfl rfl rfl (by simp [Value.oneCell', iv]) (by decide)) ?_ rfl rfl (by kernel_rfl)
    rintro _ _ ⟨bl1, rfl, rfl⟩
    refine Nx_same sub_st ?_
    refine D_one 4 rfl (E_mixed [6, 11, 25] rfl rfl (by decide) (by decide) (by decide)) ?_ rfl rfl (by kernel_rfl)
    rintro _ _ ⟨rfl, rfl⟩
    refine Nx_same sub_st ?_
    refine D_take 5 rfl (T_w32 rfl rfl rfl) ?_ rfl rfl (by kernel_rfl) (by kernel_rfl)
    refine D_take 16 rfl (T_w32 rfl rfl rfl) ?_ rfl rfl (by kernel_rfl) (by kernel_rfl)
    refine D_take 20 rfl (T_w32 rfl rfl rfl) ?_ rfl rfl (by kernel_rfl) (by kernel_rfl)
    refine D_take 22 rfl (T_w32 rfl rfl rfl) ?_ rfl rfl (by kernel_rfl) (by kernel_rfl)
    refine D_take 23 rfl (pev_ok rfl) ?_ rfl rfl (by kernel_rfl) (by kernel_rfl)
    refine D_done ?_ (by kernel_rfl)
    skip
    focus (refine S_seq rfl ?_)
    refine S_draw ([pt b4 23 ([r0, r1, r2, r3, r4, r5, r6, r7].map w32)]) sub_st (by kernel_rfl) rfl (by kernel_rfl) (by kernel_rfl : _ = 17) ?_
    refine D_take 0 rfl (pev_ok rfl) ?_ rfl rfl (by kernel_rfl) (by kernel_rfl)
    refine D_take 3 rfl (pev_ok rfl) ?_ rfl rfl (by kernel_rfl) (by kernel_rfl)
    refine D_take 4 rfl (T_ixaN rfl rfl rfl rfl rfl rfl (by omega)) ?_ rfl rfl (by kernel_rfl) (by kernel_rfl)
    refine D_take 5 rfl (T_load rfl rfl rfl rfl) ?_ rfl rfl (by kernel_rfl) (by kernel_rfl)
    refine D_take 6 rfl (T_w32 rfl rfl rfl) ?_ rfl rfl (by kernel_rfl) (by kernel_rfl)
    refine D_take 7 rfl (T_ixaN rfl rfl rfl rfl rfl rfl (by omega)) ?_ rfl rfl (by kernel_rfl) (by kernel_rfl)
    refine D_take 8 rfl (T_load rfl rfl rfl rfl) ?_ rfl rfl (by kernel_rfl) (by kernel_rfl)
    refine D_take 9 rfl (pev_ok rfl) ?_ rfl rfl (by kernel_rfl) (by kernel_rfl)
    refine D_take 10 rfl (T_ixaN rfl rfl rfl rfl rfl rfl (by omega)) ?_ rfl rfl (by kernel_rfl) (by kernel_rfl)
    refine D_take 11 rfl (T_load rfl rfl rfl rfl) ?_ rfl rfl (by kernel_rfl) (by kernel_rfl)
    refine D_take 12 rfl (T_w32 rfl rfl rfl) ?_ rfl rfl (by kernel_rfl) (by kernel_rfl)
    refine D_take 13 rfl (T_w32 rfl rfl rfl) ?_ rfl rfl (by kernel_rfl) (by kernel_rfl)
    refine D_take 14 rfl (T_w32 rfl rfl rfl) ?_ rfl rfl (by kernel_rfl) (by kernel_rfl)
    refine D_one 1 rfl (E_lit1 (vs := [iv 2, iv 13, iv 22]) rfl rfl rfl rfl rfl rfl rfl (by simp [Value.oneCell', iv]) (by decide)) ?_ rfl rfl (by kernel_rfl)
    rintro _ _ ⟨bl1, rfl, rfl⟩
    refine Nx_same sub_st ?_
    refine D_one 2 rfl (E_mixed [2, 13, 22] rfl rfl (by decide) (by decide) (by decide)) ?_ rfl rfl (by kernel_rfl)
    rintro _ _ ⟨rfl, rfl⟩
    refine Nx_same sub_st ?_
    refine D_take 15 rfl (T_w32 rfl rfl rfl) ?_ rfl rfl (by kernel_rfl) (by kernel_rfl)
    refine D_take 16 rfl (pev_ok rfl) ?_ rfl rfl (by kernel_rfl) (by kernel_rfl)
    refine D_done ?_ (by kernel_rfl)
    skip
    focus (refine S_seq rfl ?_)
    refine S_draw ([pt b4 23 ([r0, r1, r2, r3, r4, r5, r6, r7].map w32)]) sub_st (by kernel_rfl) rfl (by kernel_rfl) (by kernel_rfl : _ = 3) ?_
    refine D_take 0 rfl (T_slarrL rfl rfl rfl rfl rfl rfl (by decide)) ?_ rfl rfl (by kernel_rfl) (by kernel_rfl)
    refine D_take 1 rfl (T_slarrH rfl rfl rfl rfl rfl (by decide)) ?_ rfl rfl (by kernel_rfl) (by kernel_rfl)
    refine D_one 2 rfl (E_copyb (cur := [r0, r1, r2, r3, r4, r5, r6, r7].map w32) (cs := [r0, r1, r2, r3, r4, r5, r6].map w32) (off := 1) rfl rfl rfl rfl rfl rfl (Srd.pt (off := 0) (n := 7) (cs := [r0, r1, r2, r3, r4, r5, r6, r7].map w32) rfl (fun j v h => pre7 h)) rfl (by simp) (w32_ones _) rfl) ?_ rfl rfl (by kernel_rfl)
    rintro _ _ ⟨rfl, rfl⟩
    refine Nx_pivot (by kernel_rfl) ?_
    refine D_done ?_ (by kernel_rfl)
    skip
    focus (refine S_seq rfl ?_; refine S_region rfl rfl ?_; refine R_p rfl ?_ rfl rfl; refine R_p rfl ?_ rfl rfl; refine R_take (T_w32 rfl rfl rfl) ?_ rfl rfl; refine R_take (T_ixaN rfl rfl rfl rfl rfl rfl (by omega)) ?_ rfl rfl; (refine R_eff0 (E_store1 rfl rfl rfl rfl rfl rfl (by first | decide | (simp; done) | (simp; omega) | assumption)) ?_ rfl; rintro _ _ rfl); refine R_nil ?_; refine S_region rfl rfl ?_; refine R_take (T_ixaN rfl rfl rfl rfl rfl rfl (by omega)) ?_ rfl rfl; refine R_take (T_load rfl rfl rfl rfl) ?_ rfl rfl; refine R_p rfl ?_ rfl rfl; refine R_take (T_w32 rfl rfl rfl) ?_ rfl rfl; refine R_take (T_ixaN rfl rfl rfl rfl rfl rfl (by omega)) ?_ rfl rfl; (refine R_eff0 (E_store1 rfl rfl rfl rfl rfl rfl (by first | decide | (simp; done) | (simp; omega) | assumption)) ?_ rfl; rintro _ _ rfl); refine R_nil ?_; refine RS_blk ?_; refine S_region rfl rfl ?_; refine R_take (T_addN rfl rfl (by unfold fits; omega)) ?_ rfl rfl; refine R_p rfl ?_ rfl rfl; refine R_nil ?_)
    exact hnext _ _ (by omega) (Sub.cons rfl (Sub.cons rfl (Sub.cons rfl (Sub.cons rfl Sub.nil)))) (fun w' hS => sub_st (H := [_, _, pt b4 23 ((rnd [r0, r1, r2, r3, r4, r5, r6, r7] (rootsL.getD t 0) ((sched l 64).getD t 0)).map w32), _]) w' hS) (by omega)
  obtain rfl : t = 64 := by omega
  have hR2 : ([r0, r1, r2, r3, r4, r5, r6, r7]).map w32 = (rounds rootsL (sched l 64) h 64).map w32 := by rw [hR]
  rw [hR2]
  obtain ⟨R, hRR⟩ : ∃ R, R = rounds rootsL (sched l 64) h 64 := ⟨_, rfl⟩
  have lR : R.length = 8 := by rw [hRR]; exact rounds_len lh 64
  have lR2 : (R.map w32).length = 8 := by simpa using lR
  rw [← hRR]
  clear hnext hJ hR2
  focus (refine R_take (T_loada (ds := R.map w32) rfl rfl rfl lR2 (fun j v h => by simpa using h)) ?_ rfl rfl; refine R_p rfl ?_ rfl rfl; refine R_nil ?_; refine S_block rfl ?_)
  refine S_loop (X := Nat) (fun j => [(0, .pointer (some ⟨gb, 0, none⟩)), (80, .agg (R.map w32).toArray), (81, .int .i64 (j : Int))]) (fun j => [pt gb 63 (pre (fun i => w32 (h.getD i 0 + R.getD i 0)) (fun i => w32 (h.getD i 0)) 8 j)]) (fun t => t ≤ 8) (fun t => 8 - t) rfl 0 (Nat.zero_le _) (Sub.cons rfl (Sub.cons rfl (Sub.cons rfl Sub.nil))) (by rw [pre_0, ← map_range w32 0 lh]; exact sub_st) ?_
  intro j hj J hJ
  focus (refine S_seq rfl ?_; refine S_region rfl rfl ?_; refine R_p rfl ?_ rfl rfl; refine R_nil ?_; refine S_seq rfl ?_; (refine S_if rfl rfl (fun hs => ?_) (fun hs => ?_)); refine S_skip rfl ?_; refine S_seq rfl ?_; refine S_block rfl ?_; refine S_seq rfl ?_; refine S_region rfl rfl ?_; refine R_p rfl ?_ rfl rfl; refine R_take (T_ixv (q := j) (v := w32 (R.getD j 0)) rfl rfl rfl rfl rfl rfl rfl (by omega) (map_at w32 0 (by rw [lR]; omega))) ?_ rfl rfl; refine R_p rfl ?_ rfl rfl; refine R_p rfl ?_ rfl rfl; refine R_nil ?_; rotate_left; refine S_exit rfl rfl ?_; rotate_left)
  · skip
    refine S_draw ([pt gb 63 (pre (fun i => w32 (h.getD i 0 + R.getD i 0)) (fun i => w32 (h.getD i 0)) 8 j)]) sub_st (by kernel_rfl) rfl (by kernel_rfl) (by kernel_rfl : _ = 14) ?_
    refine D_take 0 rfl (pev_ok rfl) ?_ rfl rfl (by kernel_rfl) (by kernel_rfl)
    refine D_take 1 rfl (pev_ok rfl) ?_ rfl rfl (by kernel_rfl) (by kernel_rfl)
    refine D_take 2 rfl (T_nilCheck rfl) ?_ rfl rfl (by kernel_rfl) (by kernel_rfl)
    refine D_take 3 rfl (pev_ok rfl) ?_ rfl rfl (by kernel_rfl) (by kernel_rfl)
    refine D_take 4 rfl (pev_ok rfl) ?_ rfl rfl (by kernel_rfl) (by kernel_rfl)
    refine D_take 5 rfl (T_ixaN rfl rfl rfl rfl rfl rfl (by omega)) ?_ rfl rfl (by kernel_rfl) (by kernel_rfl)
    refine D_take 6 rfl (T_load rfl rfl rfl (pre_next (by omega))) ?_ rfl rfl (by kernel_rfl) (by kernel_rfl)
    refine D_take 7 rfl (pev_ok rfl) ?_ rfl rfl (by kernel_rfl) (by kernel_rfl)
    refine D_take 8 rfl (T_w32 rfl rfl rfl) ?_ rfl rfl (by kernel_rfl) (by kernel_rfl)
    refine D_take 9 rfl (T_nilCheck rfl) ?_ rfl rfl (by kernel_rfl) (by kernel_rfl)
    refine D_take 10 rfl (pev_ok rfl) ?_ rfl rfl (by kernel_rfl) (by kernel_rfl)
    refine D_take 11 rfl (pev_ok rfl) ?_ rfl rfl (by kernel_rfl) (by kernel_rfl)
    refine D_take 12 rfl (T_ixaN rfl rfl rfl rfl rfl rfl (by omega)) ?_ rfl rfl (by kernel_rfl) (by kernel_rfl)
    refine D_one 13 rfl (E_store1 rfl rfl rfl rfl rfl rfl (by rw [pre_len]; omega)) ?_ rfl rfl (by kernel_rfl)
    rintro _ _ rfl
    refine Nx_pivot (by kernel_rfl) ?_
    refine D_done ?_ (by kernel_rfl)
    skip
    focus (refine RS_blk ?_; refine S_region rfl rfl ?_; refine R_take (T_addN rfl rfl (by unfold fits; omega)) ?_ rfl rfl; refine R_p rfl ?_ rfl rfl; refine R_nil ?_)
    refine hJ (j + 1) _ _ (by omega) (Sub.cons rfl (Sub.cons rfl (Sub.cons rfl Sub.nil))) ?_ (by omega)
    rw [← pre_set (by omega)]
    exact fun _ h => h
  · obtain rfl : j = 8 := by omega
    rw [pre_all]
    refine hB _ _ fun w' hS => ⟨(), trivial, ?_⟩
    have e : (blockW h l).map w32 = (List.range 8).map fun i => w32 (h.getD i 0 + R.getD i 0) := by rw [blockW, hRR, List.map_map]; rfl
    rw [e]
    exact hS
end Go.Proofs.YtemgfoakffappaaDoor
