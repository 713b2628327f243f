/- Digests: texts parsed. -/
import Derived.Test.YtemgfoakffappaaDoorSh5
namespace Go.Proofs.YtemgfoakffappaaDoor
open Go.RowKit
open Asn (pt row rb)
set_option linter.unusedVariables false
set_option linter.unusedSimpArgs false
--@use N
/-- of which half of a byte a number is the sign; 16: of none -/
def digR (r : Nat) : Nat := (List.range 16).findIdx fun q => (sgn q).toNat == r
theorem digR_le (r : Nat) : digR r ≤ 16 := by
  have := List.findIdx_le_length (p := fun q => (sgn q).toNat == r) (xs := List.range 16)
  simpa [digR] using this
theorem digR_eq {r at_ : Nat} (h : at_ ≤ 16) (h1 : ∀ q, q < at_ → (sgn q).toNat ≠ r) (h2 : at_ < 16 → (sgn at_).toNat = r) : digR r = at_ := by
  unfold digR
  rcases Nat.lt_or_ge at_ 16 with h3 | h3
  · rw [List.findIdx_eq (by simpa using h3)]
    refine ⟨by simpa using h2 h3, fun j hj => by simpa using h1 j hj⟩
  · obtain rfl : at_ = 16 := by omega
    have h4 : (List.range 16).findIdx (fun q => (sgn q).toNat == r) = (List.range 16).length := List.findIdx_eq_length.2 (fun q hq => by simpa using h1 q (by simpa using hq))
    simpa using h4
theorem sgn_low {q : Nat} (h : q < 16) : (sgn q).toNat < 128 := by
  have : ∀ q : Fin 16, (sgn q).toNat < 128 := by decide
  exact this ⟨q, h⟩
theorem digR_high {r : Nat} (h : ¬ r < 128) : digR r = 16 := digR_eq (Nat.le_refl _) (fun q hq he => h (he ▸ sgn_low hq)) (fun h => by omega)
/-- what halves of bytes come to, the first j of them -/
def halves (ds : List Nat) (j : Nat) : List UInt8 := (List.range 32).map fun k => UInt8.ofNat (if 2 * k + 1 < j then 16 * ds.getD (2 * k) 0 + ds.getD (2 * k + 1) 0 else if 2 * k < j then ds.getD (2 * k) 0 else 0)
def digsL (l : List UInt8) : List Nat := l.map fun c => digR c.toNat
def okL (l : List UInt8) : Bool := l.length == 64 && l.all fun c => digR c.toNat < 16
def parseL (l : List UInt8) : Option (List UInt8) := if okL l then some (halves (digsL l) 64) else none
theorem halves_len (ds : List Nat) (j : Nat) : (halves ds j).length = 32 := by simp [halves]
theorem halves_0 (ds : List Nat) : halves ds 0 = noId := by simp [halves, noId]; rfl
theorem halves_at (ds : List Nat) {j k : Nat} (hk : k < 32) : (halves ds j).getD k 0 = UInt8.ofNat (if 2 * k + 1 < j then 16 * ds.getD (2 * k) 0 + ds.getD (2 * k + 1) 0 else if 2 * k < j then ds.getD (2 * k) 0 else 0) := by
  simp [halves, List.getD, hk]
theorem halves_set (ds : List Nat) {j : Nat} (hj : j < 64) {b : UInt8} (hb : b = UInt8.ofNat (if j % 2 = 1 then 16 * ds.getD (j - 1) 0 + ds.getD j 0 else ds.getD j 0)) : ((halves ds j).map bv).set (0 + j / 2) (bv b) = (halves ds (j + 1)).map bv := by
  rw [Nat.zero_add, ← List.map_set]
  congr 1
  apply List.ext_getElem?
  intro k
  rw [List.getElem?_set]
  by_cases hk : k < 32
  · have e : ∀ j, (halves ds j)[k]? = some (UInt8.ofNat (if 2 * k + 1 < j then 16 * ds.getD (2 * k) 0 + ds.getD (2 * k + 1) 0 else if 2 * k < j then ds.getD (2 * k) 0 else 0)) := fun j => by simp [halves, hk]
    rw [e, e, halves_len]
    by_cases h : j / 2 = k
    · rw [if_pos h, if_pos (by omega), hb]
      congr 2
      by_cases h2 : j % 2 = 1
      · rw [if_pos h2, if_pos (by omega), show 2 * k = j - 1 by omega, show j - 1 + 1 = j by omega]
      · rw [if_neg h2, if_neg (by omega), if_pos (by omega), show 2 * k = j by omega]
    · rw [if_neg h]
      congr 2
      by_cases h2 : 2 * k + 1 < j
      · rw [if_pos h2, if_pos (by omega)]
      · rw [if_neg h2, if_neg (by omega), if_neg (by omega), if_neg (by omega)]
  · have e : ∀ j, (halves ds j)[k]? = none := fun j => List.getElem?_eq_none (by rw [halves_len]; omega)
    rw [e, e]
    split
    · rename_i h; subst h; omega
    · rfl

theorem okL_bad {l : List UInt8} {j : Nat} (hj : j < l.length) (h : ¬ digR (l.getD j 0).toNat < 16) : okL l = false := by
  simp only [List.getD_eq_getElem?_getD, List.getElem?_eq_getElem hj, Option.getD_some] at h
  unfold okL
  rw [Bool.and_eq_false_iff]
  right
  rw [← Bool.not_eq_true, List.all_eq_true]
  intro h2
  have := h2 l[j] (List.getElem_mem hj)
  exact h (by simpa using this)
theorem okL_len {l : List UInt8} (h : ¬ l.length = 64) : okL l = false := by simp [okL, h]
theorem okL_good {l : List UInt8} (h : l.length = 64) (h2 : ∀ k, k < 64 → digR (l.getD k 0).toNat < 16) : okL l = true := by
  unfold okL
  rw [Bool.and_eq_true, List.all_eq_true]
  refine ⟨by simpa using h, fun c hc => ?_⟩
  obtain ⟨k, hk, rfl⟩ := List.getElem_of_mem hc
  have := h2 k (by omega)
  simp only [List.getD_eq_getElem?_getD, List.getElem?_eq_getElem hk, Option.getD_some] at this
  simpa using this
theorem digs_at {l : List UInt8} {j : Nat} (hj : j < l.length) : (digsL l).getD j 0 = digR (l.getD j 0).toNat := by
  simp [digsL, List.getD, hj]

set_option maxRecDepth 100000 in
set_option maxHeartbeats 4000000 in
theorem parse_any (w : World) (s : ByteArray) (hn : s.size ≤ 100000) :
    Gives Tryd.prog 14 [.string s] [] w (X := Unit) (fun x => .tuple #[.agg (((parseL (bl s)).getD noId).map bv).toArray, .int .i64 (if okL (bl s) then 0 else 130)]) (fun _ => True) (fun x => []) := by
  refine gives_C Tryd.func14 rfl Tryd.ntmps14 Tryd.results14 (by simp) (St.enter w) (fun B hB => ?_)
  have hls : (bl s).length = s.size := by simp [bl]
  focus (refine S_seq rfl ?_; refine S_region rfl rfl ?_; (refine R_eff (E_alloca rfl noId_alloc) ?_ rfl rfl; rintro _ _ ⟨_, rfl, rfl⟩); refine R_p rfl ?_ rfl rfl; refine R_nil ?_; refine S_scope rfl ?_; refine S_seq rfl ?_; refine S_region rfl rfl ?_; (refine R_eff (E_alloca rfl noId_alloc) ?_ rfl rfl; rintro _ _ ⟨_, rfl, rfl⟩); refine R_nil ?_; refine S_seq rfl ?_; refine S_region rfl rfl ?_; refine R_p rfl ?_ rfl rfl; refine R_p rfl ?_ rfl rfl; refine R_p rfl ?_ rfl rfl; refine R_p rfl ?_ rfl rfl; refine R_nil ?_; refine S_seq rfl ?_; refine S_label rfl ?_; refine S_seq rfl ?_; refine S_seq rfl ?_; refine S_region rfl rfl ?_; refine R_p rfl ?_ rfl rfl; (refine R_eff (E_range rfl rfl rfl) ?_ rfl rfl; rintro _ _ ⟨bi, rfl, rfl⟩); refine R_nil ?_; refine S_block rfl ?_)
  rename_i b2 b4
  refine S_loop (X := Nat) (fun j => [(2, .pointer (some ⟨b2, 0, none⟩)), (4, .pointer (some ⟨b4, 0, none⟩)), (5, .bool (decide ((s.size : Int) = 64))), (13, .pointer (some ⟨bi, 0, none⟩))]) (fun j => [itr bi s j, pt b4 33 ((halves (digsL (bl s)) j).map bv), pt b2 33 (noId.map bv)]) (fun j => j ≤ s.size ∧ (0 < j → s.size = 64) ∧ ∀ k, k < j → digR ((bl s).getD k 0).toNat < 16) (fun j => s.size - j) rfl 0 ⟨Nat.zero_le _, fun h => by omega, fun k hk => by omega⟩ (Sub.cons rfl (Sub.cons rfl (Sub.cons rfl (Sub.cons rfl Sub.nil)))) (by rw [halves_0]; exact sub_st) ?_
  rintro j ⟨hj, h64, hgood⟩ J hJ
  rcases Nat.lt_or_ge j s.size with hlt | hge
  · obtain ⟨r, hr⟩ : ∃ r, (Utf8.decode s j).1 = r := ⟨_, rfl⟩
    obtain ⟨wd, hwd⟩ : ∃ wd, (Utf8.decode s j).2 = wd := ⟨_, rfl⟩
    have hrd : digR r = digR ((bl s).getD j 0).toNat ∧ (digR r < 16 → wd = 1) := by
      by_cases hlow : ((bl s).getD j 0).toNat < 128
      · rw [decode_low s j hlt hlow] at hr hwd
        exact ⟨by rw [← hr], fun _ => hwd.symm⟩
      · have h1 := decode_high s j hlt hlow
        rw [hr] at h1
        rw [digR_high h1, digR_high hlow]
        exact ⟨rfl, fun h => by omega⟩
    obtain ⟨hrd, hw1⟩ := hrd
    focus (refine S_seq rfl ?_; refine S_region rfl rfl ?_; (refine R_eff (E_next (s := s) (p := j) rfl hlt .here) ?_ rfl rfl; rintro _ _ ⟨rfl, rfl⟩; rw [hr, hwd]); refine R_p rfl ?_ rfl rfl; refine R_nil ?_; refine S_seq rfl ?_; refine S_true rfl rfl ?_; refine S_skip rfl ?_; refine S_block rfl ?_; refine S_seq rfl ?_; refine S_region rfl rfl ?_; refine R_p rfl ?_ rfl rfl; refine R_p rfl ?_ rfl rfl; refine R_p rfl ?_ rfl rfl; refine R_p rfl ?_ rfl rfl; refine R_nil ?_; refine S_seq rfl ?_; refine S_region rfl rfl ?_; refine R_p rfl ?_ rfl rfl; refine R_nil ?_; refine S_seq rfl ?_; refine S_block rfl ?_)
    refine S_loop (X := Nat) (fun q => [(2, .pointer (some ⟨b2, 0, none⟩)), (4, .pointer (some ⟨b4, 0, none⟩)), (5, .bool (decide ((s.size : Int) = 64))), (6, .int .i64 (j : Int)), (7, .int .i32 (r : Int)), (8, .int .i64 (q : Int)), (13, .pointer (some ⟨bi, 0, none⟩))]) (fun q => _) (fun q => q ≤ 16 ∧ ∀ p, p < q → (sgn p).toNat ≠ r) (fun q => 16 - q) rfl 0 ⟨Nat.zero_le _, fun k hk => by omega⟩ (Sub.cons rfl (Sub.cons rfl (Sub.cons rfl (Sub.cons rfl (Sub.cons rfl (Sub.cons rfl (Sub.cons rfl Sub.nil))))))) (fun _ h => h) ?_
    rintro q ⟨hq, hne⟩ J2 hJ2
    have hb1 := UInt8.toNat_lt ((bl ⟨#[48, 49, 50, 51, 52, 53, 54, 55, 56, 57, 97, 98, 99, 100, 101, 102]⟩).getD q 0)
    have hbb : r < 16 → True := fun _ => trivial
    obtain ⟨b, hb⟩ : ∃ b, (halves (digsL (bl s)) j).getD (j / 2) 0 = b := ⟨_, rfl⟩
    have hb15 : s.size = 64 → b.toNat = (if j % 2 = 1 then (digsL (bl s)).getD (j - 1) 0 else 0) ∧ b.toNat ≤ 15 := fun h => by
      have h1 : (digsL (bl s)).getD (j - 1) 0 < 16 ∨ ¬ j % 2 = 1 := by
        rcases Nat.eq_zero_or_pos (j % 2) with h0 | h0
        · exact .inr (by omega)
        · have := hgood (j - 1) (by omega)
          left
          simp only [List.getD_eq_getElem?_getD, digsL, List.getElem?_map, List.getElem?_eq_getElem (show j - 1 < (bl s).length by omega), Option.map_some, Option.getD_some] at this ⊢
          exact this
      rw [halves_at _ (by omega)] at hb
      by_cases h2 : j % 2 = 1
      · rw [if_neg (by omega), if_pos (by omega), show 2 * (j / 2) = j - 1 by omega] at hb
        rw [if_pos h2, ← hb, UInt8.toNat_ofNat']
        omega
      · rw [if_neg (by omega), if_neg (by omega)] at hb
        rw [if_neg h2, ← hb]
        decide
    have hsh : ∀ {T : Slots} {H : List Asn} {dd : Option Tmp} {t u : TypeId} {tt : TypeId} {pos : String} {af : Array Edge} {g : Option (Nat × Bool)} {x : Operand}, oget T x = some (bv b) → s.size = 64 → Tk Tryd.prog 51 w (owns []) T H ⟨dd, .binOp .shl t x (.const (.int .u64 4)) u, tt, pos, af, g⟩ (.int .u8 ((16 * b.toNat : Nat) : Int)) := fun {T H dd t u tt pos af g x} hx h64 => by
      have h1 := T_shl (P := Tryd.prog) (n := 51) (w0 := w) (M := owns []) (H := H) (dd := dd) (tt := tt) (pos := pos) (af := af) (g := g) (t := t) (u := u) hx (y := .const (.int .u64 4)) rfl (by decide)
      have h2 := (hb15 h64).2
      have e : IntKind.u8.wrap ((b.toNat : Int) * 2 ^ (min (4 : Int).toNat IntKind.u8.bits)) = ((16 * b.toNat : Nat) : Int) := by
        rw [show (2 : Int) ^ (min (4 : Int).toNat IntKind.u8.bits) = 16 from rfl, wrap_fits (by unfold fits; omega)]
        omega
      rwa [e] at h1
    have hld : s.size = 64 → ((halves (digsL (bl s)) j).map bv)[0 + j / 2]? = some (bv b) := fun h => by rw [← hb]; exact map_at0 bv 0 (by rw [halves_len]; omega)
    focus (refine S_seq rfl ?_; refine S_seq rfl ?_; refine S_region rfl rfl ?_; refine R_p rfl ?_ rfl rfl; refine R_p rfl ?_ rfl rfl; refine R_p rfl ?_ rfl rfl; (refine R_splitd rfl rfl (fun hs => ?_) (fun hs => ?_)); refine R_p rfl ?_ rfl rfl; refine R_take (T_ixs (q := q) rfl rfl rfl rfl (by show _ < 16; omega)) ?_ rfl rfl; refine R_take (T_convf rfl rfl rfl rfl (by unfold fits; omega)) ?_ rfl rfl; refine R_p rfl ?_ rfl rfl; refine R_p rfl ?_ rfl rfl; refine R_p rfl ?_ rfl rfl; refine R_nil ?_; (refine S_if rfl rfl (fun hs => ?_) (fun hs => ?_)); refine S_skip rfl ?_; refine S_block rfl ?_; refine S_region rfl rfl ?_; refine R_p rfl ?_ rfl rfl; refine R_take (T_addN rfl rfl (by unfold fits; omega)) ?_ rfl rfl; refine R_p rfl ?_ rfl rfl; refine R_nil ?_; refine RS_blk ?_; rotate_left; refine S_exit rfl rfl ?_; refine S_seq rfl ?_; refine S_seq rfl ?_; refine S_region rfl rfl ?_; refine R_p rfl ?_ rfl rfl; refine R_p rfl ?_ rfl rfl; (refine R_splitd rfl rfl (fun hs => ?_) (fun hs => ?_)); refine R_p rfl ?_ rfl rfl; refine R_p rfl ?_ rfl rfl; refine R_p rfl ?_ rfl rfl; refine R_p rfl ?_ rfl rfl; refine R_nil ?_; refine S_seq rfl ?_; refine S_region rfl rfl ?_; refine R_p rfl ?_ rfl rfl; refine R_take (T_notd rfl) ?_ rfl rfl; refine R_nil ?_; (refine S_if rfl rfl (fun hs => ?_) (fun hs => ?_)); refine S_exit rfl rfl ?_; refine S_seq rfl ?_; refine S_seq rfl ?_; refine S_region rfl rfl ?_; refine R_p rfl ?_ rfl rfl; refine R_take (T_notd rfl) ?_ rfl rfl; refine R_nil ?_; (refine S_if rfl rfl (fun hs => ?_) (fun hs => ?_)); refine S_seq rfl ?_; refine S_region rfl rfl ?_; refine R_take (T_build0 noId_built) ?_ rfl rfl; (refine R_eff0 (E_storew (ds := noId.map bv) (cs := noId.map bv) rfl rfl rfl rfl (bv_one _) rfl) ?_ rfl; rintro _ _ rfl); refine R_p rfl ?_ rfl rfl; refine R_nil ?_; rotate_left; refine S_skip rfl ?_; refine S_seq rfl ?_; refine S_region rfl rfl ?_; rotate_left; refine S_skip rfl ?_; refine S_region rfl rfl ?_; refine R_p rfl ?_ rfl rfl; refine R_take (T_divN rfl rfl (by omega) (by unfold fits; omega)) ?_ rfl rfl; refine R_p rfl ?_ rfl rfl; refine R_take (T_divN rfl rfl (by omega) (by unfold fits; omega)) ?_ rfl rfl; refine R_take (T_ixaN rfl rfl rfl rfl rfl rfl (by omega)) ?_ rfl rfl; refine R_take (T_load rfl rfl rfl (hld (by omega))) ?_ rfl rfl; refine R_take (hsh rfl (by omega)) ?_ rfl rfl; refine R_p rfl ?_ rfl rfl; refine R_take (T_convf rfl rfl rfl rfl (by unfold fits; omega)) ?_ rfl rfl; refine R_take (T_addN rfl rfl (by unfold fits; omega)) ?_ rfl rfl; refine R_take (T_ixaN rfl rfl rfl rfl rfl rfl (by omega)) ?_ rfl rfl; rotate_left; refine R_skip ?_ rfl rfl; refine R_skip ?_ rfl rfl; refine R_p rfl ?_ rfl rfl; refine R_p rfl ?_ rfl rfl; refine R_nil ?_; refine S_seq rfl ?_; refine S_region rfl rfl ?_; refine R_p rfl ?_ rfl rfl; refine R_take (T_not rfl) ?_ rfl rfl; refine R_nil ?_; refine S_true rfl rfl ?_; refine S_exit rfl rfl ?_; refine S_seq rfl ?_; refine S_seq rfl ?_; refine S_region rfl rfl ?_; refine R_p rfl ?_ rfl rfl; refine R_take (T_not rfl) ?_ rfl rfl; refine R_nil ?_; refine S_true rfl rfl ?_; refine S_seq rfl ?_; refine S_region rfl rfl ?_; refine R_take (T_build0 noId_built) ?_ rfl rfl; (refine R_eff0 (E_storew (ds := noId.map bv) (cs := noId.map bv) rfl rfl rfl rfl (bv_one _) rfl) ?_ rfl; rintro _ _ rfl); refine R_p rfl ?_ rfl rfl; refine R_nil ?_; rotate_left; refine R_skip ?_ rfl rfl; refine R_skip ?_ rfl rfl; refine R_skip ?_ rfl rfl; refine R_skip ?_ rfl rfl; refine R_skip ?_ rfl rfl; refine R_p rfl ?_ rfl rfl; refine R_nil ?_; refine S_false rfl rfl ?_; refine S_exit rfl rfl ?_; refine S_seq rfl ?_; refine S_seq rfl ?_; refine S_region rfl rfl ?_; refine R_p rfl ?_ rfl rfl; refine R_p rfl ?_ rfl rfl; (refine R_splitd rfl rfl (fun hs => ?_) (fun hs => ?_)); refine R_p rfl ?_ rfl rfl; refine R_p rfl ?_ rfl rfl; refine R_p rfl ?_ rfl rfl; refine R_p rfl ?_ rfl rfl; refine R_nil ?_; refine S_seq rfl ?_; refine S_region rfl rfl ?_; refine R_p rfl ?_ rfl rfl; refine R_take (T_notd rfl) ?_ rfl rfl; refine R_nil ?_; (refine S_if rfl rfl (fun hs => ?_) (fun hs => ?_)); refine S_exit rfl rfl ?_; refine S_seq rfl ?_; refine S_seq rfl ?_; refine S_region rfl rfl ?_; refine R_p rfl ?_ rfl rfl; refine R_take (T_notd rfl) ?_ rfl rfl; refine R_nil ?_; (refine S_if rfl rfl (fun hs => ?_) (fun hs => ?_)); refine S_seq rfl ?_; refine S_region rfl rfl ?_; refine R_take (T_build0 noId_built) ?_ rfl rfl; (refine R_eff0 (E_storew (ds := noId.map bv) (cs := noId.map bv) rfl rfl rfl rfl (bv_one _) rfl) ?_ rfl; rintro _ _ rfl); refine R_p rfl ?_ rfl rfl; refine R_nil ?_; rotate_left; refine S_skip rfl ?_; refine S_seq rfl ?_; refine S_region rfl rfl ?_; rotate_left; refine S_skip rfl ?_; refine S_region rfl rfl ?_; refine R_p rfl ?_ rfl rfl; refine R_take (T_divN rfl rfl (by omega) (by unfold fits; omega)) ?_ rfl rfl; refine R_p rfl ?_ rfl rfl; refine R_take (T_divN rfl rfl (by omega) (by unfold fits; omega)) ?_ rfl rfl; refine R_take (T_ixaN rfl rfl rfl rfl rfl rfl (by omega)) ?_ rfl rfl; refine R_take (T_load rfl rfl rfl (hld (by omega))) ?_ rfl rfl; refine R_take (hsh rfl (by omega)) ?_ rfl rfl; refine R_p rfl ?_ rfl rfl; refine R_take (T_convf rfl rfl rfl rfl (by unfold fits; omega)) ?_ rfl rfl; refine R_take (T_addN rfl rfl (by unfold fits; omega)) ?_ rfl rfl; refine R_take (T_ixaN rfl rfl rfl rfl rfl rfl (by omega)) ?_ rfl rfl; (refine R_eff0 (E_store1 rfl rfl rfl rfl rfl rfl (by first | decide | (simp; done) | (simp; omega) | assumption)) ?_ rfl; rintro _ _ rfl); refine R_nil ?_; refine RS_blk ?_; rotate_left; refine R_skip ?_ rfl rfl; refine R_skip ?_ rfl rfl; refine R_p rfl ?_ rfl rfl; refine R_p rfl ?_ rfl rfl; refine R_nil ?_; refine S_seq rfl ?_; refine S_region rfl rfl ?_; refine R_p rfl ?_ rfl rfl; refine R_take (T_not rfl) ?_ rfl rfl; refine R_nil ?_; refine S_true rfl rfl ?_; refine S_exit rfl rfl ?_; refine S_seq rfl ?_; refine S_seq rfl ?_; refine S_region rfl rfl ?_; refine R_p rfl ?_ rfl rfl; refine R_take (T_not rfl) ?_ rfl rfl; refine R_nil ?_; refine S_true rfl rfl ?_; refine S_seq rfl ?_; refine S_region rfl rfl ?_; refine R_take (T_build0 noId_built) ?_ rfl rfl; (refine R_eff0 (E_storew (ds := noId.map bv) (cs := noId.map bv) rfl rfl rfl rfl (bv_one _) rfl) ?_ rfl; rintro _ _ rfl); refine R_p rfl ?_ rfl rfl; refine R_nil ?_; rotate_left)
    all_goals first | (exfalso; omega) | skip
    · refine hJ2 (q + 1) _ _ ⟨by omega, fun p hp => ?_⟩ (Sub.cons rfl (Sub.cons rfl (Sub.cons rfl (Sub.cons rfl (Sub.cons rfl (Sub.cons rfl (Sub.cons rfl Sub.nil))))))) (fun _ h => h) (by omega)
      rcases Nat.lt_or_ge p q with h | h
      · exact hne p h
      · obtain rfl : p = q := by omega
        unfold sgn
        omega
    · have hdq : digR r = q := digR_eq hq hne (fun _ => by unfold sgn; omega)
      have h1 := hw1 (by omega)
      subst h1
      have h2 := hb15 (by omega)
      refine R_eff0 (E_store1 rfl rfl rfl rfl rfl rfl (by rw [List.length_map, halves_len]; omega)) ?_ rfl
      rintro _ _ rfl
      rw [show Value.int .u8 ((16 * b.toNat + q : Nat) : Int) = bv (UInt8.ofNat (16 * b.toNat + q)) by rw [bv_ofNat]; congr 1; omega]
      rw [halves_set (digsL (bl s)) (by omega) (by
        rw [digs_at (l := bl s) (j := j) (by omega), ← hrd, hdq]
        congr 1
        rw [h2.1]
        split
        · rfl
        · omega)]
      focus (refine R_nil ?_; refine RS_blk ?_)
      have e5 : decide ((q : Int) < 16) = decide ((s.size : Int) = 64) := by rw [decide_eq_true (by omega), decide_eq_true (by omega)]
      refine hJ (j + 1) _ _ ⟨by omega, fun _ => by omega, fun k hk => ?_⟩ (Sub.cons rfl (Sub.cons rfl (Sub.cons (congrArg (fun b => some (Value.bool b)) e5) (Sub.cons rfl Sub.nil)))) sub_st (by omega)
      rcases Nat.lt_or_ge k j with h | h
      · exact hgood k h
      · obtain rfl : k = j := by omega
        omega
    all_goals
      refine hB _ _ _ _ _ rfl (.cell rfl rfl rfl inferInstance rfl (.tmp rfl .nil)) fun w' hS => ⟨(), ?_, trivial, hS.sublist (List.nil_sublist _)⟩
      have hok : okL (bl s) = false := by
        first
          | exact okL_len (by omega)
          | (have hdq : digR r = q := digR_eq hq hne (fun h => by exfalso; omega)
             exact okL_bad (j := j) (by omega) (by omega))
      simp [parseL, hok, retv]
  · obtain rfl : j = s.size := by omega
    have hal : ((halves (digsL (bl s)) s.size).map bv).length = 32 := by simp [halves_len]
    focus (refine S_seq rfl ?_; refine S_region rfl rfl ?_; (refine R_eff (E_nextEnd (s := s) (p := s.size) rfl (Nat.lt_irrefl _) (by simp)) ?_ rfl rfl; rintro _ _ ⟨rfl, rfl⟩); refine R_p rfl ?_ rfl rfl; refine R_nil ?_; refine S_seq rfl ?_; refine S_false rfl rfl ?_; refine S_exit rfl rfl ?_; refine S_seq rfl ?_; refine S_seq rfl ?_; refine S_region rfl rfl ?_; refine R_p rfl ?_ rfl rfl; refine R_take (T_notd rfl) ?_ rfl rfl; refine R_nil ?_; (refine S_if rfl rfl (fun hs => ?_) (fun hs => ?_)); refine S_seq rfl ?_; refine S_region rfl rfl ?_; refine R_take (T_build0 noId_built) ?_ rfl rfl; (refine R_eff0 (E_storew (ds := noId.map bv) (cs := noId.map bv) rfl rfl rfl rfl (bv_one _) rfl) ?_ rfl; rintro _ _ rfl); refine R_p rfl ?_ rfl rfl; refine R_nil ?_; rotate_left; refine S_skip rfl ?_; refine S_seq rfl ?_; refine S_region rfl rfl ?_; refine R_take (T_loada (ds := (halves (digsL (bl s)) s.size).map bv) rfl rfl rfl hal (fun j v h => by simpa using h)) ?_ rfl rfl; (refine R_eff0 (E_storew (ds := (halves (digsL (bl s)) s.size).map bv) (cs := noId.map bv) rfl rfl rfl hal (bv_one _) hal.symm) ?_ rfl; rintro _ _ rfl); refine R_p rfl ?_ rfl rfl; refine R_nil ?_; rotate_left)
    · refine hB _ _ _ _ _ rfl (.cell rfl rfl rfl inferInstance rfl (.tmp rfl .nil)) fun w' hS => ⟨(), ?_, trivial, hS.sublist (List.nil_sublist _)⟩
      have hok : okL (bl s) = false := okL_len (by omega)
      simp [parseL, hok, retv]
    · refine hB _ _ _ _ _ rfl (.cell rfl rfl rfl inferInstance hal (.tmp rfl .nil)) fun w' hS => ⟨(), ?_, trivial, hS.sublist (List.nil_sublist _)⟩
      have h64' : s.size = 64 := by omega
      have hok : okL (bl s) = true := okL_good (by omega) (fun k hk => hgood k (by omega))
      simp [parseL, hok, retv, h64']
end Go.Proofs.YtemgfoakffappaaDoor
