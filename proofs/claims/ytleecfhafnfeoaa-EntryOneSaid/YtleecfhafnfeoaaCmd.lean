/- Commands as values; entry.Check. -/
import Derived.Test.YtleecfhafnfeoaaId
import Derived.Test.YtleecfhafnfeoaaEn1
import Derived.Deep.DeepCutAuto
namespace Go.Proofs.Ytleecfhafnfeoaa
open Go.RowKit
open Go.Lib (hid)

/-- the cells of a command -/
structure Cd (C : Array Value) (k c : Int) (s : Nat) (br : ByteArray) (old new : List UInt8) (A : Option Addr) (n cp : Nat) : Prop where
  c0 : C[0]? = some (.int .i64 k)
  c1 : C[1]? = some (.int .i64 c)
  c2 : C[2]? = some (.int .u32 s)
  c3 : C[3]? = some (.string br)
  c68 : C[68]? = some (.slice A n cp)
  size : C.size = 69
  lo : old.length = 32
  ln : new.length = 32
  old : ∀ j v, (old.map bv)[j]? = some v → C[4 + j]? = some v
  new : ∀ j v, (new.map bv)[j]? = some v → C[36 + j]? = some v
  brm : br.size ≤ maxLen
  nm : n ≤ maxLen

/-- kind, client and number are in their bounds -/
def baseB (k c : Int) (s : Nat) : Bool := decide (1 ≤ k) && decide (k ≤ 4) && decide (1 ≤ c) && decide (c ≤ 3) && decide (0 < s)
/-- the Ids are there where they may be -/
def idsB (k : Int) (old new : List UInt8) : Bool := (decide (k = 2) || decide (old = zero32)) && (decide (k = 2) || decide (k = 3) || decide (new = zero32))
/-- name and data are there where they may be -/
def restB (k : Int) (br : List UInt8) (n : Nat) : Bool := if k = 4 then decide (br = []) && decide (1 ≤ n) && decide (n ≤ 800) else nameB br && decide (n = 0)
/-- which commands may be -/
def rightB (k c : Int) (s : Nat) (br : List UInt8) (old new : List UInt8) (n : Nat) : Bool := baseB k c s && idsB k old new && restB k br n

attribute [local go_sem] run_eq_id
set_option maxRecDepth 100000 in
set_option maxHeartbeats 1000000 in
theorem check_any (w : World) (C : Array Value) (k c : Int) (s : Nat) (br : ByteArray) (old new : List UInt8) (A : Option Addr) (n cp : Nat) (h : Cd C k c s br old new A n cp) :
    Calls Try.prog 11 #[.agg C] w fun e w' => e = .returned (.int .i64 (if rightB k c s br.data.toList old new n then 0 else 210)) ∧ Kp All w w' := by
  have h0 := h.c0
  have h1 := h.c1
  have h2 := h.c2
  have h3 := h.c3
  have h68 := h.c68
  have lo := h.lo
  have ln := h.ln
  have lz := zero32_len
  have r1 := range_of_blk (Blk.new w 27 C) 4 _ h.old
  have r2 := range_of_blk (Blk.new w 27 C) 36 _ h.new
  have hnm := h.nm
  unfold maxLen at hnm
  obtain ⟨R, hR⟩ : ∃ R, Hid (R = (if rightB k c s br.data.toList old new n then (0 : Int) else 210)) := ⟨_, hid rfl⟩
  rw [← hR.out]
  have cn := hid (fun W => name_any br W h.brm)
  clear h
  go_enter Try.func11, Try.ntmps11
  go_upto_region 1 with fail
  go_cut [3] (fun s3 wx => wx = w.alloc (.cells C 27) ∧ ∃ b : Bool, Hid (b = baseB k c s) ∧ s3 = .bool b)
  case first =>
    by_cases a1 : 1 ≤ k
    · by_cases a2 : k ≤ 4
      · by_cases a3 : 1 ≤ c
        · by_cases a4 : c ≤ 3
          · by_cases a5 : 0 < s
            · have e := hid (show true = baseB k c s by simp [baseB, a1, a2, a3, a4, a5])
              go_wp2
              go_meet
              exact ⟨rfl, _, e, rfl⟩
            · have e := hid (show false = baseB k c s by simp [baseB, a5])
              go_wp2
              go_meet
              exact ⟨rfl, _, e, rfl⟩
          · have e := hid (show false = baseB k c s by simp [baseB, a4])
            go_wp2
            go_meet
            exact ⟨rfl, _, e, rfl⟩
        · have e := hid (show false = baseB k c s by simp [baseB, a3])
          go_wp2
          go_meet
          exact ⟨rfl, _, e, rfl⟩
      · have e := hid (show false = baseB k c s by simp [baseB, a2])
        go_wp2
        go_meet
        exact ⟨rfl, _, e, rfl⟩
    · have e := hid (show false = baseB k c s by simp [baseB, a1])
      go_wp2
      go_meet
      exact ⟨rfl, _, e, rfl⟩
  obtain ⟨rfl, b1, hb1, rfl⟩ := hcut
  go_upto_region 2 with fail
  go_cut [4] (fun s4 wx => wx = w.alloc (.cells C 27) ∧ ∃ b : Bool, Hid (b = (decide (k = 2) || decide (k = 3))) ∧ s4 = .bool b)
  case first =>
    by_cases a1 : k = 2
    · have e := hid (show true = (decide (k = 2) || decide (k = 3)) by simp [a1])
      have a1' : (k == 2) = true := by simp [a1]
      clear a1
      go_wp2
      go_meet
      exact ⟨rfl, _, e, rfl⟩
    · have a1' : (k == 2) = false := by simp [a1]
      by_cases a2 : k = 3
      · have e := hid (show true = (decide (k = 2) || decide (k = 3)) by simp [a2])
        have a2' : (k == 3) = true := by simp [a2]
        clear a1 a2
        go_wp2
        go_meet
        exact ⟨rfl, _, e, rfl⟩
      · have e := hid (show false = (decide (k = 2) || decide (k = 3)) by simp [a1, a2])
        have a2' : (k == 3) = false := by simp [a2]
        clear a1 a2
        go_wp2
        go_meet
        exact ⟨rfl, _, e, rfl⟩
  obtain ⟨rfl, b2, hb2, rfl⟩ := hcut
  go_upto_region 3 with fail
  go_cut [3] (fun s3 wx => wx = w.alloc (.cells C 27) ∧ ∃ b : Bool, Hid (b = (baseB k c s && idsB k old new)) ∧ s3 = .bool b)
  case first =>
    cases b1
    · have e := hid (show false = (baseB k c s && idsB k old new) by rw [← hb1.out]; rfl)
      go_wp2
      go_meet
      exact ⟨rfl, _, e, rfl⟩
    · have E := hid (show ∀ b, b = idsB k old new → Hid (b = (baseB k c s && idsB k old new)) from fun b h => hid (by rw [← hb1.out, h]; rfl))
      by_cases a1 : k = 2
      · have e := E.out true (by simp [idsB, a1])
        obtain rfl : b2 = true := by rw [hb2.out]; simp [a1]
        have a1' : (k == 2) = true := by simp [a1]
        clear a1
        go_wp2
        go_meet
        exact ⟨rfl, _, e, rfl⟩
      · have a1' : (k == 2) = false := by simp [a1]
        by_cases a2 : old = zero32
        · have a2' : decide (old = zero32) = true := by simp [a2]
          cases b2
          · have a3 : k ≠ 3 := by have := hb2.out; simp at this; exact this.2
            by_cases a4 : new = zero32
            · have e := E.out true (by simp [idsB, a2, a4])
              have a4' : decide (new = zero32) = true := by simp [a4]
              clear a1 a2 a3 a4
              go_wp2_with (first | (refine ld_id rfl (.tmp 42) rfl _ _ rfl old lo r1 ?_) | (refine ld_id rfl (.tmp 51) rfl _ _ rfl new ln r2 ?_) | (refine mk_zero rfl rfl ?_))
              go_meet
              exact ⟨rfl, _, e, rfl⟩
            · have e := E.out false (by simp [idsB, a1, a3, a4])
              have a4' : decide (new = zero32) = false := by simp [a4]
              clear a1 a2 a3 a4
              go_wp2_with (first | (refine ld_id rfl (.tmp 42) rfl _ _ rfl old lo r1 ?_) | (refine ld_id rfl (.tmp 51) rfl _ _ rfl new ln r2 ?_) | (refine mk_zero rfl rfl ?_))
              go_meet
              exact ⟨rfl, _, e, rfl⟩
          · have e := E.out true (by have := hb2.out; simp at this; rcases this with h | h <;> simp [idsB, a2, h])
            clear a1 a2
            go_wp2_with (first | (refine ld_id rfl (.tmp 42) rfl _ _ rfl old lo r1 ?_) | (refine ld_id rfl (.tmp 51) rfl _ _ rfl new ln r2 ?_) | (refine mk_zero rfl rfl ?_))
            go_meet
            exact ⟨rfl, _, e, rfl⟩
        · have e := E.out false (by simp [idsB, a1, a2])
          have a2' : decide (old = zero32) = false := by simp [a2]
          clear a1 a2
          go_wp2_with (first | (refine ld_id rfl (.tmp 42) rfl _ _ rfl old lo r1 ?_) | (refine ld_id rfl (.tmp 51) rfl _ _ rfl new ln r2 ?_) | (refine mk_zero rfl rfl ?_))
          go_meet
          exact ⟨rfl, _, e, rfl⟩
  obtain ⟨rfl, b3, hb3, rfl⟩ := hcut
  have hRR := hid (show R = if b3 && restB k br.data.toList n then 0 else 210 by rw [hR.out, hb3.out]; rfl)
  clear hb1 hb2 hb3 hR r1 r2 lo ln lz
  by_cases a1 : k = 4
  · have a1' : (k == 4) = true := by simp [a1]
    have e0 : restB k br.data.toList n = (decide (br.data.toList = []) && decide (1 ≤ n) && decide (n ≤ 800)) := by simp [restB, a1]
    rw [e0] at hRR
    clear a1 e0
    cases b3
    · have HR := hid (show R = 210 from hRR.out)
      go_wp2
      go_ret
      rw [HR.out]
      exact ⟨rfl, Kp.alloc w _⟩
    · by_cases hbr : br.data.toList = []
      · have hbe : br.toList = [] := by rw [ByteArray.toList_eq]; exact hbr
        by_cases hn1 : 1 ≤ n
        · by_cases hn8 : n ≤ 800
          · have HR := hid (show R = 0 by rw [hRR.out]; simp [hbr, hn1, hn8])
            have d1 : decide ((n : Int) ≤ 800) = true := by simp; omega
            have d2 : decide ((1 : Int) ≤ (n : Int)) = true := by simp; omega
            clear hbr
            go_wp2
            go_ret
            rw [HR.out]
            exact ⟨rfl, Kp.alloc w _⟩
          · have HR := hid (show R = 210 by rw [hRR.out]; simp [hn8])
            have d1 : decide ((n : Int) ≤ 800) = false := by simp; omega
            have d2 : decide ((1 : Int) ≤ (n : Int)) = true := by simp; omega
            clear hbr
            go_wp2
            go_ret
            rw [HR.out]
            exact ⟨rfl, Kp.alloc w _⟩
        · have HR := hid (show R = 210 by rw [hRR.out]; simp [hn1])
          have d2 : decide ((1 : Int) ≤ (n : Int)) = false := by simp; omega
          clear hbr
          go_wp2
          go_ret
          rw [HR.out]
          exact ⟨rfl, Kp.alloc w _⟩
      · have HR := hid (show R = 210 by rw [hRR.out]; simp [hbr])
        have hbe : (br.toList == []) = false := by rw [ByteArray.toList_eq]; simpa using hbr
        have hbe2 : br.toList.isEmpty = false := by rw [ByteArray.toList_eq]; simpa using hbr
        have hbe3 : ¬ br.toList = [] := by rw [ByteArray.toList_eq]; exact hbr
        clear hbr
        go_wp2
        go_ret
        rw [HR.out]
        exact ⟨rfl, Kp.alloc w _⟩
  · have a1' : (k == 4) = false := by simp [a1]
    have e0 : restB k br.data.toList n = (nameB br.data.toList && decide (n = 0)) := by simp [restB, a1]
    rw [e0] at hRR
    clear a1 e0
    generalize hnb : nameB br.data.toList = nb at cn hRR
    clear hnb
    cases b3
    · have HR := hid (show R = 210 from hRR.out)
      go_wp2
      go_ret
      rw [HR.out]
      exact ⟨rfl, Kp.alloc w _⟩
    · cases nb
      · have HR := hid (show R = 210 from hRR.out)
        go_wp2_with (go_at_call 20; refine (cn.out _).mono ?_; rintro e w' ⟨rfl, kn⟩)
        go_ret
        rw [HR.out]
        exact ⟨rfl, (Kp.alloc w _).trans kn⟩
      · by_cases hn : n = 0
        · subst hn
          have HR := hid (show R = 0 from hRR.out)
          go_wp2_with (go_at_call 20; refine (cn.out _).mono ?_; rintro e w' ⟨rfl, kn⟩; have h68' : w'.cell? ⟨w.heap.size, 68, none⟩ = some (.slice A 0 cp) := kn.cell trivial (by rw [World.cell?_alloc_new]; exact h68))
          go_ret
          rw [HR.out]
          exact ⟨rfl, (Kp.alloc w _).trans kn⟩
        · have HR := hid (show R = 210 by rw [hRR.out]; simp [hn])
          have hn' : ((n : Int) == 0) = false := by simp; omega
          go_wp2_with (go_at_call 20; refine (cn.out _).mono ?_; rintro e w' ⟨rfl, kn⟩; have h68' : w'.cell? ⟨w.heap.size, 68, none⟩ = some (.slice A n cp) := kn.cell trivial (by rw [World.cell?_alloc_new]; exact h68))
          go_ret
          rw [HR.out]
          exact ⟨rfl, (Kp.alloc w _).trans kn⟩
end Go.Proofs.Ytleecfhafnfeoaa
