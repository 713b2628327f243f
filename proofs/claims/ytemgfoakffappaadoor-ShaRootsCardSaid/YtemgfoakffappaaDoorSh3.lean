/- Digests: bytes filled up; a block; the digest of bytes. -/
import Derived.Test.YtemgfoakffappaaDoorSh2
namespace Go.Proofs.YtemgfoakffappaaDoor
open Go.RowKit
open Asn (pt row rb)
set_option linter.unusedVariables false
set_option linter.unusedSimpArgs false
--@use N

section
variable {P : Program} {n : Nat} {w0 : World} {M : Nat → Prop} {T : Slots} {H Hr : List Asn} {dd : Option Tmp} {tt : TypeId} {pos : String} {af : Array Edge} {g : Option (Nat × Bool)} {x y : Operand} {ts : Array TypeId}
theorem T_build1 {s : TypeId} {j : Nat} {v : Value} {cs : List Value} (hx : oget T x = some v) (hb : P.built s [(j, v)] = some cs.toArray) :
    Tk P n w0 M T H ⟨dd, .build s #[(j, x)], tt, pos, af, g⟩ (.agg cs.toArray) := .mk fun a w ha hS => by
  have hr := run_build (P := P) w s #[(j, v)] cs.toArray hb
  have e : (#[(j, x)].map fun (i, x) => (i, a.eval x)) = #[(j, v)] := by simp [ha.eval hx]
  simp only [execOp, e, Sem.run_bind, hr, Result.andThen_ok, Sem.run_pure]
/-- an array is read out of bytes -/
theorem T_ldarr [HasTab P] {s : TypeId} {A : Option Addr} {m c k : Nat} {bs : List UInt8} {i : Ti} (hx : oget T x = some (.pointer A)) (hs : ty P s = some i) (hi : aggB i.desc = true) (hr : Src w0 M H A m c bs) (hk : i.size = k) (h0 : 0 < k) (hm : k ≤ m) :
    Tk P n w0 M T H ⟨dd, .load s x, tt, pos, af, g⟩ (.agg ((bs.take k).map bv).toArray) := .mk fun a w ha hS => by
  have hb := hr.bs w hS
  obtain ⟨ad, rfl, _, hc⟩ := hb.rd.2 (by omega)
  have hl := hb.len
  have := loadVar_cells (P := P) (a := ad) hs hi (ds := (bs.take k).map bv) (by rw [List.length_map, List.length_take, hk]; omega) (fun q v hq => hc q v (by
    rw [List.getElem?_map, List.getElem?_take] at hq
    split at hq
    · rw [List.getElem?_map]; exact hq
    · cases hq))
  simp [execOp, ha.eval hx, Instr.loadAt, Instr.sureAddr, this]
end

def startL : List UInt32 := [0x6a09e667, 0xbb67ae85, 0x3c6ef372, 0xa54ff53a, 0x510e527f, 0x9b05688c, 0x1f83d9ab, 0x5be0cd19]

section
variable {n : Nat} {w0 : World} {M : Nat → Prop} {T : Slots} {H Hr : List Asn} {dd : Option Tmp} {tt : TypeId} {pos : String} {af : Array Edge} {g : Option (Nat × Bool)} {x y : Operand} {ts : Array TypeId}
theorem E_into {gb : Nat} {h : List UInt32} {l : List UInt8} (hx : oget T x = some (.pointer (some ⟨gb, 0, none⟩))) (hy : oget T y = some (.agg (l.map bv).toArray)) (hr : Roots w0) (hM : ¬ M 0) [hm : RemC H (pt gb 63 (h.map w32)) Hr] (lh : h.length = 8) (hl : l.length = 64) :
    Ef Tryd.prog n w0 M T H ⟨dd, .call ⟨.value (.func 35), #[x, y], ts⟩, tt, pos, af, g⟩ (fun u H' => u = .tuple #[] ∧ H' = pt gb 63 ((blockW h l).map w32) :: Hr) := by
  refine (E_call [pt gb 63 (h.map w32)] Hr (X := Unit) (fun _ => .tuple #[]) (fun _ => True) (fun _ => [pt gb 63 ((blockW h l).map w32)]) (vs := [.pointer (some ⟨gb, 0, none⟩), .agg (l.map bv).toArray]) (by simp [ogets, hx, hy]) ⟨_, Tryd.func35, rfl, by kernel_rfl⟩ (fun w hS => hS.perm hm.perm) fun w hS => ?_).mono ?_
  · have hg : gb ≠ 0 := fun h0 => by
      rcases ((hS.all (pt gb 63 (h.map w32)) (by simp)).2 gb rfl).1 with h1 | h1
      · exact hM (h0 ▸ h1)
      · have := hr.size
        omega
    exact into_any w gb h lh l hl (hr.kp hS.kp hM) hg (St.again (As := [pt gb 63 (h.map w32)]) hS)
  · rintro v H' ⟨_, _, rfl, rfl⟩ w hS
    exact ⟨_, _, rfl, ⟨rfl, rfl⟩, hS⟩
theorem E_put32 {A : Option Addr} {m c : Nat} {l : List UInt8} {z : Int} {X : Nat} (hx : oget T x = some (.slice A m c)) (hy : oget T y = some (.int .u32 z)) [hz : NatOf z X] (h : Src w0 M H A m c l) (hn : m ≤ 281474976710000) (hX : X < 256 ^ 4) :
    Ef Tryd.prog n w0 M T H ⟨dd, .call ⟨.value (.func 40), #[x, y], ts⟩, tt, pos, af, g⟩ (fun u H' => ∃ A' c', u = .slice A' (m + 4) c' ∧ H' = row 5 1 A' (m + 4) c' ((l ++ be 4 X).map bv) :: H) := by
  rw [hz.is] at hy
  exact E_g1 ⟨_, Tryd.func40, rfl, by kernel_rfl⟩ (vs := [.slice A m c, .int .u32 (X : Int)]) (by simp [ogets, hx, hy]) fun w hS => put_32 w A m c l X All (h.bs w hS) hn hX
theorem E_put64 {A : Option Addr} {m c : Nat} {l : List UInt8} {z : Int} {X : Nat} (hx : oget T x = some (.slice A m c)) (hy : oget T y = some (.int .u64 z)) [hz : NatOf z X] (h : Src w0 M H A m c l) (hn : m ≤ 281474976710000) (hX : X < 256 ^ 8) :
    Ef Tryd.prog n w0 M T H ⟨dd, .call ⟨.value (.func 31), #[x, y], ts⟩, tt, pos, af, g⟩ (fun u H' => ∃ A' c', u = .slice A' (m + 8) c' ∧ H' = row 5 1 A' (m + 8) c' ((l ++ be 8 X).map bv) :: H) := by
  rw [hz.is] at hy
  exact E_g1 ⟨_, Tryd.func31, rfl, by kernel_rfl⟩ (vs := [.slice A m c, .int .u64 (X : Int)]) (by simp [ogets, hx, hy]) fun w hS => put_64 w A m c l X All (h.bs w hS) hn hX
end

/-- bytes, filled up -/
def padL (l : List UInt8) : List UInt8 := l ++ 128 :: List.replicate ((l.length + 72) / 64 * 64 - 9 - l.length) 0 ++ be 8 (8 * l.length)
theorem padL_len (l : List UInt8) : (padL l).length = (l.length + 72) / 64 * 64 := by
  simp [padL, be_len]
  omega

set_option maxRecDepth 100000 in
set_option maxHeartbeats 4000000 in
theorem pad_any (w : World) (A : Option Addr) (n c : Nat) (l : List UInt8) (F : Nat → Prop) (h : Bs w F A n c l) (hn : n ≤ 100000) :
    Gives Tryd.prog 20 [.slice A n c] [] w (X := Option Addr × Nat) (fun x => .slice x.1 (padL l).length x.2) (fun _ => True) (fun x => [row 5 1 x.1 (padL l).length x.2 ((padL l).map bv)]) := by
  refine gives_S Tryd.func20 rfl Tryd.ntmps20 Tryd.results20 (by simp) (St.enter w) (fun B hB => ?_)
  have hl := h.len
  have hsrc : ∀ H, Srd w (owns []) H 1 A (l.map bv).length (l.map bv) := fun H => by
    rw [List.length_map, ← hl]
    exact (Src.old h fun k _ => noOwns k).rd
  have hsh : ∀ {T : Slots} {H : List Asn} {dd : Option Tmp} {t u : TypeId} {tt : TypeId} {pos : String} {af : Array Edge} {g : Option (Nat × Bool)} {x : Operand}, oget T x = some (.int .u64 (n : Int)) → Tk Tryd.prog 26 w (owns []) T H ⟨dd, .binOp .shl t x (.const (.int .u64 3)) u, tt, pos, af, g⟩ (.int .u64 ((8 * n : Nat) : Int)) := fun {T H dd t u tt pos af g x} hx => by
    have h1 := T_shl (P := Tryd.prog) (n := 26) (w0 := w) (M := owns []) (H := H) (dd := dd) (tt := tt) (pos := pos) (af := af) (g := g) (t := t) (u := u) hx (y := .const (.int .u64 3)) rfl (by decide)
    have e : IntKind.u64.wrap ((n : Int) * 2 ^ (min (3 : Int).toNat IntKind.u64.bits)) = ((8 * n : Nat) : Int) := by
      rw [show (2 : Int) ^ (min (3 : Int).toNat IntKind.u64.bits) = 8 from rfl, wrap_fits (by unfold fits; omega)]
      omega
    rwa [e] at h1
  focus (refine S_seq rfl ?_; refine S_region rfl rfl ?_; refine R_p rfl ?_ rfl rfl; refine R_nil ?_; refine S_seq rfl ?_; refine S_region rfl rfl ?_; refine R_p rfl ?_ rfl rfl; refine R_p rfl ?_ rfl rfl; refine R_take (T_addN rfl rfl (by unfold fits; omega)) ?_ rfl rfl; refine R_take (T_divN rfl rfl (by omega) (by unfold fits; omega)) ?_ rfl rfl; refine R_take (T_mulN rfl rfl (by unfold fits; omega)) ?_ rfl rfl; refine R_p rfl ?_ rfl rfl; refine R_nil ?_; refine S_seq rfl ?_; refine S_region rfl rfl ?_; refine R_p rfl ?_ rfl rfl; refine R_take (T_subN rfl rfl (by omega) (by unfold fits; omega)) ?_ rfl rfl; (refine R_eff (E_make1 (m := (n + 72) / 64 * 64 - 8) (c := (n + 72) / 64 * 64 - 8) rfl rfl rfl rfl rfl rfl rfl (Nat.le_refl _) (by simp only [ti5]; omega) (by unfold maxLen; omega)) ?_ rfl rfl; rintro _ _ ⟨b, rfl, rfl⟩); refine R_p rfl ?_ rfl rfl; refine R_nil ?_; refine S_seq rfl ?_; refine S_region rfl rfl ?_; refine R_p rfl ?_ rfl rfl; refine R_p rfl ?_ rfl rfl; (refine R_eff (E_copyb (cs := l.map bv) (off := 0) rfl rfl rfl rfl rfl rfl (hsrc _) (by rw [List.length_map]; omega) (by rw [List.length_map, List.length_replicate]; omega) (bv_one _) rfl) ?_ rfl rfl; rintro _ _ ⟨rfl, rfl⟩); refine R_nil ?_; refine S_seq rfl ?_; refine S_region rfl rfl ?_; refine R_p rfl ?_ rfl rfl; refine R_p rfl ?_ rfl rfl; refine R_p rfl ?_ rfl rfl; refine R_take (T_ixNg rfl rfl rfl rfl rfl rfl (by omega)) ?_ rfl rfl; (refine R_eff0 (E_store1 rfl rfl rfl rfl rfl rfl (by first | decide | (simp; done) | (simp; omega) | assumption)) ?_ rfl; rintro _ _ rfl); refine R_nil ?_; refine S_seq rfl ?_; refine S_region rfl rfl ?_; refine R_p rfl ?_ rfl rfl; refine R_p rfl ?_ rfl rfl; refine R_p rfl ?_ rfl rfl; refine R_take (T_convf rfl rfl rfl rfl (by unfold fits; omega)) ?_ rfl rfl; refine R_take (hsh rfl) ?_ rfl rfl)
  have e1 : ((List.take 0 (List.replicate ((n + 72) / 64 * 64 - 8) ti5.zero) ++ l.map bv ++ List.drop (0 + (l.map bv).length) (List.replicate ((n + 72) / 64 * 64 - 8) ti5.zero)).set (0 + n) (Value.int .u8 128)) = (l ++ 128 :: List.replicate ((n + 72) / 64 * 64 - 9 - n) 0).map bv := by
    rw [List.take_zero, List.nil_append, List.length_map, Nat.zero_add, ← hl, List.drop_replicate, show (n + 72) / 64 * 64 - 8 - n = ((n + 72) / 64 * 64 - 9 - n) + 1 by omega, List.replicate_succ]
    rw [Nat.zero_add, List.set_append_right _ _ (by rw [List.length_map]; omega), List.length_map, ← hl, Nat.sub_self, List.set_cons_zero, List.map_append, List.map_cons, List.map_replicate]
    rfl
  rw [e1]
  focus ((refine R_eff (E_put64 (l := l ++ 128 :: List.replicate ((n + 72) / 64 * 64 - 9 - n) 0) rfl rfl (Src.pt (by simp; omega) (Nat.le_refl _) (by unfold maxLen; omega) (fun j v h => by simpa using h)) (by omega) (by omega)) ?_ rfl rfl; rintro _ _ ⟨A', c', rfl, rfl⟩); refine R_p rfl ?_ rfl rfl; refine R_nil ?_)
  have e2 : (n + 72) / 64 * 64 - 8 + 8 = (padL l).length := by rw [padL_len, ← hl]; omega
  have e3 : l ++ 128 :: List.replicate ((n + 72) / 64 * 64 - 9 - n) 0 ++ be 8 (8 * n) = padL l := by rw [hl]; rfl
  rw [e2, e3]
  exact hB _ _ _ _ _ rfl rfl fun w' hS => ⟨(A', c'), rfl, trivial, hS.sublist (List.Sublist.cons_cons _ (List.nil_sublist _))⟩
theorem row_cap {w : World} {e : TypeId} {s n c : Nat} {A : Option Addr} {xs : List Value} (h : (row e s A n c xs).holds w) : n ≤ c := by
  obtain ⟨A', c', hv, h1, _⟩ := own_form h
  injection hv with _ _ e3
  omega
theorem start_built : Tryd.prog.built 23 [(0, .int .u32 1779033703), (1, .int .u32 3144134277), (2, .int .u32 1013904242), (3, .int .u32 2773480762), (4, .int .u32 1359893119), (5, .int .u32 2600822924), (6, .int .u32 528734635), (7, .int .u32 1541459225)] = some (startL.map w32).toArray := by kernel_rfl
theorem T_built {P : Program} {n : Nat} {w0 : World} {M : Nat → Prop} {T : Slots} {H : List Asn} {dd : Option Tmp} {tt : TypeId} {pos : String} {af : Array Edge} {g : Option (Nat × Bool)} {s : TypeId} {xs : Array (Nat × Operand)} {vs : List (Nat × Value)} {cs : List Value} (hx : ∀ a, Tm n a T → xs.toList.map (fun x => (x.1, a.eval x.2)) = vs) (hb : P.built s vs = some cs.toArray) :
    Tk P n w0 M T H ⟨dd, .build s xs, tt, pos, af, g⟩ (.agg cs.toArray) := .mk fun a w ha hS => by
  have e : (xs.map fun x => (x.1, a.eval x.2)).toList = vs := by rw [Array.toList_map]; exact hx a ha
  have hr := run_build (P := P) w s (xs.map fun x => (x.1, a.eval x.2)) cs.toArray (by rw [e]; exact hb)
  simp only [execOp, Sem.run_bind, hr, Result.andThen_ok, Sem.run_pure]
set_option maxRecDepth 100000 in
set_option maxHeartbeats 4000000 in
theorem start_any (w : World) :
    Gives Tryd.prog 26 [] [] w (X := Unit) (fun _ => .agg (startL.map w32).toArray) (fun _ => True) (fun x => []) := by
  refine gives_C Tryd.func26 rfl Tryd.ntmps26 Tryd.results26 (by simp) (St.enter w) (fun B hB => ?_)
  focus (refine S_seq rfl ?_; refine S_region rfl rfl ?_; (refine R_eff (E_alloca rfl z8_alloc) ?_ rfl rfl; rintro _ _ ⟨b4, rfl, rfl⟩); refine R_nil ?_; refine S_seq rfl ?_; refine S_region rfl rfl ?_; refine R_take (T_built (fun a ha => rfl) start_built) ?_ rfl rfl; (refine R_eff0 (E_storew (ds := startL.map w32) (cs := List.replicate 8 (.int .u32 0)) rfl rfl rfl rfl (w32_ones _) rfl) ?_ rfl; rintro _ _ rfl); refine R_nil ?_)
  exact hB _ _ _ _ _ rfl (.cell rfl rfl rfl inferInstance rfl .nil) fun w' hS => ⟨(), rfl, trivial, hS.sublist (List.nil_sublist _)⟩
section
variable {n : Nat} {w0 : World} {M : Nat → Prop} {T : Slots} {H Hr : List Asn} {dd : Option Tmp} {tt : TypeId} {pos : String} {af : Array Edge} {g : Option (Nat × Bool)} {x y : Operand} {ts : Array TypeId}
theorem E_start : Ef Tryd.prog n w0 M T H ⟨dd, .call ⟨.value (.func 26), #[], ts⟩, tt, pos, af, g⟩ (fun u H' => u = .agg (startL.map w32).toArray ∧ H' = H) := by
  refine (E_gv ⟨_, Tryd.func26, rfl, by kernel_rfl⟩ (vs := []) (by simp [ogets]) fun w hS => start_any w).mono ?_
  rintro v H' ⟨_, rfl, _, rfl⟩ w hS
  exact ⟨_, _, rfl, ⟨rfl, rfl⟩, hS⟩
theorem E_pad {A : Option Addr} {m c : Nat} {l : List UInt8} (hx : oget T x = some (.slice A m c)) (hs : Src w0 M H A m c l) (hm : m ≤ 100000) :
    Ef Tryd.prog n w0 M T H ⟨dd, .call ⟨.value (.func 20), #[x], ts⟩, tt, pos, af, g⟩ (fun u H' => ∃ A' c', (padL l).length ≤ c' ∧ u = .slice A' (padL l).length c' ∧ H' = row 5 1 A' (padL l).length c' ((padL l).map bv) :: H) := by
  refine (E_gv ⟨_, Tryd.func20, rfl, by kernel_rfl⟩ (vs := [.slice A m c]) (by simp [ogets, hx]) fun w hS => pad_any w A m c l All (hs.bs w hS) hm).mono ?_
  rintro v H' ⟨x, rfl, _, rfl⟩ w hS
  exact ⟨_, _, rfl, ⟨x.1, x.2, row_cap (hS.at_ (A := row 5 1 x.1 (padL l).length x.2 ((padL l).map bv)) (by simp)), rfl, rfl⟩, hS⟩
end
theorem going_built (h : List UInt32) (lh : h.length = 8) : Tryd.prog.built 61 [(0, .agg (h.map w32).toArray)] = some (h.map w32).toArray ∧ Tryd.prog.built 63 [(0, .agg (h.map w32).toArray)] = some (h.map w32).toArray := by
  obtain ⟨a, b, c, d, e, f, g, i, rfl⟩ := eight lh
  exact ⟨by kernel_rfl, by kernel_rfl⟩
theorem going_alloc : ti63.zero = .agg (List.replicate 8 (.int .u32 0)).toArray := by kernel_rfl

set_option maxRecDepth 100000 in
set_option maxHeartbeats 4000000 in
theorem block_any (w : World) (h : List UInt32) (lh : h.length = 8) (l : List UInt8) (hl : l.length = 64) (hr : Roots w) :
    Gives Tryd.prog 11 [.agg (h.map w32).toArray, .agg (l.map bv).toArray] [] w (X := Unit) (fun _ => .agg ((blockW h l).map w32).toArray) (fun _ => True) (fun x => []) := by
  refine gives_C Tryd.func11 rfl Tryd.ntmps11 Tryd.results11 (by simp) (St.enter w) (fun B hB => ?_)
  have lh2 : (h.map w32).length = 8 := by simpa using lh
  have ll2 : (l.map bv).length = 64 := by simpa using hl
  have lw2 : ((blockW h l).map w32).length = 8 := by simp [blockW_len]
  have hh : ∀ j v, (h.map w32)[j]? = some v → (h.map w32)[0 + j]? = some v := fun j v h => by simpa using h
  have hw : ∀ j v, ((blockW h l).map w32)[j]? = some v → ((blockW h l).map w32)[0 + 0 + 0 + j]? = some v := fun j v h => by simpa using h
  have hb : ∀ j v, (l.map bv)[j]? = some v → (l.map bv)[0 + j]? = some v := fun j v h => by simpa using h
  obtain ⟨hb1, hb2⟩ := going_built h lh
  focus (refine S_seq rfl ?_; refine S_region rfl rfl ?_; (refine R_eff (E_boxa rfl) ?_ rfl rfl; rintro _ _ ⟨b1, rfl, rfl⟩); (refine R_eff (E_boxa rfl) ?_ rfl rfl; rintro _ _ ⟨b1, rfl, rfl⟩); (refine R_eff (E_alloca rfl z8_alloc) ?_ rfl rfl; rintro _ _ ⟨b4, rfl, rfl⟩); refine R_nil ?_; refine S_seq rfl ?_; refine S_region rfl rfl ?_; refine R_take (T_loada (ds := h.map w32) rfl rfl rfl lh2 hh) ?_ rfl rfl; refine R_take (T_build1 rfl hb1) ?_ rfl rfl; refine R_take (T_build1 rfl hb1) ?_ rfl rfl; (refine R_eff (E_alloca rfl z8_alloc) ?_ rfl rfl; rintro _ _ ⟨b4, rfl, rfl⟩); (refine R_eff0 (E_storew (ds := h.map w32) (cs := List.replicate 8 (.int .u32 0)) rfl rfl rfl lh2 (w32_ones _) lh2.symm) ?_ rfl; rintro _ _ rfl); refine R_nil ?_; refine S_seq rfl ?_; refine S_region rfl rfl ?_; refine R_take (T_loada (ds := l.map bv) rfl rfl rfl ll2 hb) ?_ rfl rfl; (refine R_eff (E_into rfl rfl hr (noOwns 0) lh hl) ?_ rfl rfl; rintro _ _ ⟨rfl, rfl⟩); refine R_nil ?_; refine S_seq rfl ?_; refine S_region rfl rfl ?_; refine R_p rfl ?_ rfl rfl; refine R_p rfl ?_ rfl rfl; refine R_take (T_loada (ds := (blockW h l).map w32) rfl rfl rfl lw2 hw) ?_ rfl rfl; (refine R_eff0 (E_storew (ds := (blockW h l).map w32) (cs := List.replicate 8 (.int .u32 0)) rfl rfl rfl lw2 (w32_ones _) lw2.symm) ?_ rfl; rintro _ _ rfl); refine R_nil ?_)
  exact hB _ _ _ _ _ rfl (.cell rfl rfl rfl inferInstance lw2 .nil) fun w' hS => ⟨(), rfl, trivial, hS.sublist (List.nil_sublist _)⟩

/-- the words behind the first blocks of bytes that are filled up -/
def sumW (p : List UInt8) : Nat → List UInt32
  | 0 => startL
  | i + 1 => blockW (sumW p i) ((p.drop (64 * i)).take 64)
theorem sumW_len (p : List UInt8) (i : Nat) : (sumW p i).length = 8 := by cases i <;> simp [sumW, startL, blockW_len]
def wordsB (h : List UInt32) : List UInt8 := h.flatMap fun x => be 4 x.toNat
theorem wordsB_len (h : List UInt32) : (wordsB h).length = 4 * h.length := by
  induction h with
  | nil => rfl
  | cons x h ih => simp [wordsB, List.flatMap_cons, be_len] at ih ⊢; omega
/-- the digest of bytes -/
def sumL (l : List UInt8) : List UInt8 := wordsB (sumW (padL l) ((padL l).length / 64))
theorem sumL_len (l : List UInt8) : (sumL l).length = 32 := by rw [sumL, wordsB_len, sumW_len]
end Go.Proofs.YtemgfoakffappaaDoor
