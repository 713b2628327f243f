/- Messages: what a reader makes of a message's bytes. -/
import Derived.Test.YtdbehejbeioboaaDoorFrC
namespace Go.Proofs.YtdbehejbeioboaaDoor
open Go.RowKit
open Asn (pt row rb)
set_option linter.unusedVariables false
set_option linter.unusedSimpArgs false
--@use N

def hasB (K : Int) (b : Nat) : Bool := decide ((fldN K &&& b) ≠ 0)
def r7 (x : Ms) : List UInt8 := []
def r6 (x : Ms) : List UInt8 := (if hasB x.K 64 = true then be 4 x.dt.length ++ x.dt else []) ++ r7 x
def r5 (x : Ms) : List UInt8 := (if hasB x.K 32 = true then [kb (x.cf.length : Int)] ++ x.cf.map kb else []) ++ r6 x
def r4 (x : Ms) : List UInt8 := (if hasB x.K 16 = true then be 8 x.ix else []) ++ r5 x
def r3 (x : Ms) : List UInt8 := (if hasB x.K 8 = true then be 8 x.cm else []) ++ r4 x
def r2 (x : Ms) : List UInt8 := (if hasB x.K 4 = true then [kb (x.es.length : Int)] ++ x.es.flatMap entB else []) ++ r3 x
def r1 (x : Ms) : List UInt8 := (if hasB x.K 2 = true then [okb x.ok] else []) ++ r2 x
def r0 (x : Ms) : List UInt8 := (if hasB x.K 1 = true then be 8 x.pl.1 ++ be 8 x.pl.2 else []) ++ r1 x
def tr0 (x : Ms) : Ms := ⟨x.K, x.F, x.T, x.tm, (0, 0), [], 0, false, 0, [], []⟩
def tr1 (x : Ms) : Ms := ⟨x.K, x.F, x.T, x.tm, x.pl, [], 0, false, 0, [], []⟩
def tr2 (x : Ms) : Ms := ⟨x.K, x.F, x.T, x.tm, x.pl, [], 0, x.ok, 0, [], []⟩
def tr3 (x : Ms) : Ms := ⟨x.K, x.F, x.T, x.tm, x.pl, x.es, 0, x.ok, 0, [], []⟩
def tr4 (x : Ms) : Ms := ⟨x.K, x.F, x.T, x.tm, x.pl, x.es, x.cm, x.ok, 0, [], []⟩
def tr5 (x : Ms) : Ms := ⟨x.K, x.F, x.T, x.tm, x.pl, x.es, x.cm, x.ok, x.ix, [], []⟩
def tr6 (x : Ms) : Ms := ⟨x.K, x.F, x.T, x.tm, x.pl, x.es, x.cm, x.ok, x.ix, x.cf, []⟩
def tr7 (x : Ms) : Ms := ⟨x.K, x.F, x.T, x.tm, x.pl, x.es, x.cm, x.ok, x.ix, x.cf, x.dt⟩
theorem plain_r {x : Ms} (h : MsOk x) : plainB x = [kb x.K] ++ ([kb x.F] ++ ([kb x.T] ++ (be 8 x.tm ++ r0 x))) := by
  have h1 := h.K1
  have h7 := h.K7
  unfold r0 r1 r2 r3 r4 r5 r6 r7
  rcases (by omega : x.K = 1 ∨ x.K = 2 ∨ x.K = 3 ∨ x.K = 4 ∨ x.K = 5 ∨ x.K = 6 ∨ x.K = 7) with hK | hK | hK | hK | hK | hK | hK
  · rw [plainB_1 x hK, hK]; simp [hasB, show fldN 1 = 1 from rfl]
  · rw [plainB_2 x hK, hK]; simp [hasB, show fldN 2 = 2 from rfl]
  · rw [plainB_3 x hK, hK]; simp [hasB, show fldN 3 = 1 from rfl]
  · rw [plainB_4 x hK, hK]; simp [hasB, show fldN 4 = 2 from rfl]
  · rw [plainB_5 x hK, hK]; simp [hasB, show fldN 5 = 13 from rfl]
  · rw [plainB_6 x hK, hK]; simp [hasB, show fldN 6 = 18 from rfl]
  · rw [plainB_7 x hK, hK]; simp [hasB, show fldN 7 = 97 from rfl]
theorem zer_pl {x : Ms} (h : MsOk x) (hb : hasB x.K 1 = false) : x.pl = (0, 0) := by
  have hz := h.zer
  have h1 := h.K1
  have h7 := h.K7
  rcases (by omega : x.K = 1 ∨ x.K = 2 ∨ x.K = 3 ∨ x.K = 4 ∨ x.K = 5 ∨ x.K = 6 ∨ x.K = 7) with hK | hK | hK | hK | hK | hK | hK
  · rw [hK] at hb; exact absurd hb (by decide)
  · simp [zerL, hK] at hz
    first | exact hz | exact hz.1 | exact hz.2 | exact hz.2.1 | exact hz.2.2 | exact hz.1.1 | exact hz.1.2 | exact hz.2.1.1 | exact hz.2.1.2 | exact hz.2.2.1 | exact hz.2.2.2 | exact hz.2.2.1.1 | exact hz.2.2.1.2 | exact hz.2.2.2.1 | exact hz.2.2.2.2 | simp_all
  · rw [hK] at hb; exact absurd hb (by decide)
  · simp [zerL, hK] at hz
    first | exact hz | exact hz.1 | exact hz.2 | exact hz.2.1 | exact hz.2.2 | exact hz.1.1 | exact hz.1.2 | exact hz.2.1.1 | exact hz.2.1.2 | exact hz.2.2.1 | exact hz.2.2.2 | exact hz.2.2.1.1 | exact hz.2.2.1.2 | exact hz.2.2.2.1 | exact hz.2.2.2.2 | simp_all
  · rw [hK] at hb; exact absurd hb (by decide)
  · simp [zerL, hK] at hz
    first | exact hz | exact hz.1 | exact hz.2 | exact hz.2.1 | exact hz.2.2 | exact hz.1.1 | exact hz.1.2 | exact hz.2.1.1 | exact hz.2.1.2 | exact hz.2.2.1 | exact hz.2.2.2 | exact hz.2.2.1.1 | exact hz.2.2.1.2 | exact hz.2.2.2.1 | exact hz.2.2.2.2 | simp_all
  · rw [hK] at hb; exact absurd hb (by decide)
theorem zer_ok {x : Ms} (h : MsOk x) (hb : hasB x.K 2 = false) : x.ok = false := by
  have hz := h.zer
  have h1 := h.K1
  have h7 := h.K7
  rcases (by omega : x.K = 1 ∨ x.K = 2 ∨ x.K = 3 ∨ x.K = 4 ∨ x.K = 5 ∨ x.K = 6 ∨ x.K = 7) with hK | hK | hK | hK | hK | hK | hK
  · simp [zerL, hK] at hz
    first | exact hz | exact hz.1 | exact hz.2 | exact hz.2.1 | exact hz.2.2 | exact hz.1.1 | exact hz.1.2 | exact hz.2.1.1 | exact hz.2.1.2 | exact hz.2.2.1 | exact hz.2.2.2 | exact hz.2.2.1.1 | exact hz.2.2.1.2 | exact hz.2.2.2.1 | exact hz.2.2.2.2 | simp_all
  · rw [hK] at hb; exact absurd hb (by decide)
  · simp [zerL, hK] at hz
    first | exact hz | exact hz.1 | exact hz.2 | exact hz.2.1 | exact hz.2.2 | exact hz.1.1 | exact hz.1.2 | exact hz.2.1.1 | exact hz.2.1.2 | exact hz.2.2.1 | exact hz.2.2.2 | exact hz.2.2.1.1 | exact hz.2.2.1.2 | exact hz.2.2.2.1 | exact hz.2.2.2.2 | simp_all
  · rw [hK] at hb; exact absurd hb (by decide)
  · simp [zerL, hK] at hz
    first | exact hz | exact hz.1 | exact hz.2 | exact hz.2.1 | exact hz.2.2 | exact hz.1.1 | exact hz.1.2 | exact hz.2.1.1 | exact hz.2.1.2 | exact hz.2.2.1 | exact hz.2.2.2 | exact hz.2.2.1.1 | exact hz.2.2.1.2 | exact hz.2.2.2.1 | exact hz.2.2.2.2 | simp_all
  · rw [hK] at hb; exact absurd hb (by decide)
  · simp [zerL, hK] at hz
    first | exact hz | exact hz.1 | exact hz.2 | exact hz.2.1 | exact hz.2.2 | exact hz.1.1 | exact hz.1.2 | exact hz.2.1.1 | exact hz.2.1.2 | exact hz.2.2.1 | exact hz.2.2.2 | exact hz.2.2.1.1 | exact hz.2.2.1.2 | exact hz.2.2.2.1 | exact hz.2.2.2.2 | simp_all
theorem zer_es {x : Ms} (h : MsOk x) (hb : hasB x.K 4 = false) : x.es = [] := by
  have hz := h.zer
  have h1 := h.K1
  have h7 := h.K7
  rcases (by omega : x.K = 1 ∨ x.K = 2 ∨ x.K = 3 ∨ x.K = 4 ∨ x.K = 5 ∨ x.K = 6 ∨ x.K = 7) with hK | hK | hK | hK | hK | hK | hK
  · simp [zerL, hK] at hz
    first | exact hz | exact hz.1 | exact hz.2 | exact hz.2.1 | exact hz.2.2 | exact hz.1.1 | exact hz.1.2 | exact hz.2.1.1 | exact hz.2.1.2 | exact hz.2.2.1 | exact hz.2.2.2 | exact hz.2.2.1.1 | exact hz.2.2.1.2 | exact hz.2.2.2.1 | exact hz.2.2.2.2 | simp_all
  · simp [zerL, hK] at hz
    first | exact hz | exact hz.1 | exact hz.2 | exact hz.2.1 | exact hz.2.2 | exact hz.1.1 | exact hz.1.2 | exact hz.2.1.1 | exact hz.2.1.2 | exact hz.2.2.1 | exact hz.2.2.2 | exact hz.2.2.1.1 | exact hz.2.2.1.2 | exact hz.2.2.2.1 | exact hz.2.2.2.2 | simp_all
  · simp [zerL, hK] at hz
    first | exact hz | exact hz.1 | exact hz.2 | exact hz.2.1 | exact hz.2.2 | exact hz.1.1 | exact hz.1.2 | exact hz.2.1.1 | exact hz.2.1.2 | exact hz.2.2.1 | exact hz.2.2.2 | exact hz.2.2.1.1 | exact hz.2.2.1.2 | exact hz.2.2.2.1 | exact hz.2.2.2.2 | simp_all
  · simp [zerL, hK] at hz
    first | exact hz | exact hz.1 | exact hz.2 | exact hz.2.1 | exact hz.2.2 | exact hz.1.1 | exact hz.1.2 | exact hz.2.1.1 | exact hz.2.1.2 | exact hz.2.2.1 | exact hz.2.2.2 | exact hz.2.2.1.1 | exact hz.2.2.1.2 | exact hz.2.2.2.1 | exact hz.2.2.2.2 | simp_all
  · rw [hK] at hb; exact absurd hb (by decide)
  · simp [zerL, hK] at hz
    first | exact hz | exact hz.1 | exact hz.2 | exact hz.2.1 | exact hz.2.2 | exact hz.1.1 | exact hz.1.2 | exact hz.2.1.1 | exact hz.2.1.2 | exact hz.2.2.1 | exact hz.2.2.2 | exact hz.2.2.1.1 | exact hz.2.2.1.2 | exact hz.2.2.2.1 | exact hz.2.2.2.2 | simp_all
  · simp [zerL, hK] at hz
    first | exact hz | exact hz.1 | exact hz.2 | exact hz.2.1 | exact hz.2.2 | exact hz.1.1 | exact hz.1.2 | exact hz.2.1.1 | exact hz.2.1.2 | exact hz.2.2.1 | exact hz.2.2.2 | exact hz.2.2.1.1 | exact hz.2.2.1.2 | exact hz.2.2.2.1 | exact hz.2.2.2.2 | simp_all
theorem zer_cm {x : Ms} (h : MsOk x) (hb : hasB x.K 8 = false) : x.cm = 0 := by
  have hz := h.zer
  have h1 := h.K1
  have h7 := h.K7
  rcases (by omega : x.K = 1 ∨ x.K = 2 ∨ x.K = 3 ∨ x.K = 4 ∨ x.K = 5 ∨ x.K = 6 ∨ x.K = 7) with hK | hK | hK | hK | hK | hK | hK
  · simp [zerL, hK] at hz
    first | exact hz | exact hz.1 | exact hz.2 | exact hz.2.1 | exact hz.2.2 | exact hz.1.1 | exact hz.1.2 | exact hz.2.1.1 | exact hz.2.1.2 | exact hz.2.2.1 | exact hz.2.2.2 | exact hz.2.2.1.1 | exact hz.2.2.1.2 | exact hz.2.2.2.1 | exact hz.2.2.2.2 | simp_all
  · simp [zerL, hK] at hz
    first | exact hz | exact hz.1 | exact hz.2 | exact hz.2.1 | exact hz.2.2 | exact hz.1.1 | exact hz.1.2 | exact hz.2.1.1 | exact hz.2.1.2 | exact hz.2.2.1 | exact hz.2.2.2 | exact hz.2.2.1.1 | exact hz.2.2.1.2 | exact hz.2.2.2.1 | exact hz.2.2.2.2 | simp_all
  · simp [zerL, hK] at hz
    first | exact hz | exact hz.1 | exact hz.2 | exact hz.2.1 | exact hz.2.2 | exact hz.1.1 | exact hz.1.2 | exact hz.2.1.1 | exact hz.2.1.2 | exact hz.2.2.1 | exact hz.2.2.2 | exact hz.2.2.1.1 | exact hz.2.2.1.2 | exact hz.2.2.2.1 | exact hz.2.2.2.2 | simp_all
  · simp [zerL, hK] at hz
    first | exact hz | exact hz.1 | exact hz.2 | exact hz.2.1 | exact hz.2.2 | exact hz.1.1 | exact hz.1.2 | exact hz.2.1.1 | exact hz.2.1.2 | exact hz.2.2.1 | exact hz.2.2.2 | exact hz.2.2.1.1 | exact hz.2.2.1.2 | exact hz.2.2.2.1 | exact hz.2.2.2.2 | simp_all
  · rw [hK] at hb; exact absurd hb (by decide)
  · simp [zerL, hK] at hz
    first | exact hz | exact hz.1 | exact hz.2 | exact hz.2.1 | exact hz.2.2 | exact hz.1.1 | exact hz.1.2 | exact hz.2.1.1 | exact hz.2.1.2 | exact hz.2.2.1 | exact hz.2.2.2 | exact hz.2.2.1.1 | exact hz.2.2.1.2 | exact hz.2.2.2.1 | exact hz.2.2.2.2 | simp_all
  · simp [zerL, hK] at hz
    first | exact hz | exact hz.1 | exact hz.2 | exact hz.2.1 | exact hz.2.2 | exact hz.1.1 | exact hz.1.2 | exact hz.2.1.1 | exact hz.2.1.2 | exact hz.2.2.1 | exact hz.2.2.2 | exact hz.2.2.1.1 | exact hz.2.2.1.2 | exact hz.2.2.2.1 | exact hz.2.2.2.2 | simp_all
theorem zer_ix {x : Ms} (h : MsOk x) (hb : hasB x.K 16 = false) : x.ix = 0 := by
  have hz := h.zer
  have h1 := h.K1
  have h7 := h.K7
  rcases (by omega : x.K = 1 ∨ x.K = 2 ∨ x.K = 3 ∨ x.K = 4 ∨ x.K = 5 ∨ x.K = 6 ∨ x.K = 7) with hK | hK | hK | hK | hK | hK | hK
  · simp [zerL, hK] at hz
    first | exact hz | exact hz.1 | exact hz.2 | exact hz.2.1 | exact hz.2.2 | exact hz.1.1 | exact hz.1.2 | exact hz.2.1.1 | exact hz.2.1.2 | exact hz.2.2.1 | exact hz.2.2.2 | exact hz.2.2.1.1 | exact hz.2.2.1.2 | exact hz.2.2.2.1 | exact hz.2.2.2.2 | simp_all
  · simp [zerL, hK] at hz
    first | exact hz | exact hz.1 | exact hz.2 | exact hz.2.1 | exact hz.2.2 | exact hz.1.1 | exact hz.1.2 | exact hz.2.1.1 | exact hz.2.1.2 | exact hz.2.2.1 | exact hz.2.2.2 | exact hz.2.2.1.1 | exact hz.2.2.1.2 | exact hz.2.2.2.1 | exact hz.2.2.2.2 | simp_all
  · simp [zerL, hK] at hz
    first | exact hz | exact hz.1 | exact hz.2 | exact hz.2.1 | exact hz.2.2 | exact hz.1.1 | exact hz.1.2 | exact hz.2.1.1 | exact hz.2.1.2 | exact hz.2.2.1 | exact hz.2.2.2 | exact hz.2.2.1.1 | exact hz.2.2.1.2 | exact hz.2.2.2.1 | exact hz.2.2.2.2 | simp_all
  · simp [zerL, hK] at hz
    first | exact hz | exact hz.1 | exact hz.2 | exact hz.2.1 | exact hz.2.2 | exact hz.1.1 | exact hz.1.2 | exact hz.2.1.1 | exact hz.2.1.2 | exact hz.2.2.1 | exact hz.2.2.2 | exact hz.2.2.1.1 | exact hz.2.2.1.2 | exact hz.2.2.2.1 | exact hz.2.2.2.2 | simp_all
  · simp [zerL, hK] at hz
    first | exact hz | exact hz.1 | exact hz.2 | exact hz.2.1 | exact hz.2.2 | exact hz.1.1 | exact hz.1.2 | exact hz.2.1.1 | exact hz.2.1.2 | exact hz.2.2.1 | exact hz.2.2.2 | exact hz.2.2.1.1 | exact hz.2.2.1.2 | exact hz.2.2.2.1 | exact hz.2.2.2.2 | simp_all
  · rw [hK] at hb; exact absurd hb (by decide)
  · simp [zerL, hK] at hz
    first | exact hz | exact hz.1 | exact hz.2 | exact hz.2.1 | exact hz.2.2 | exact hz.1.1 | exact hz.1.2 | exact hz.2.1.1 | exact hz.2.1.2 | exact hz.2.2.1 | exact hz.2.2.2 | exact hz.2.2.1.1 | exact hz.2.2.1.2 | exact hz.2.2.2.1 | exact hz.2.2.2.2 | simp_all
theorem zer_cf {x : Ms} (h : MsOk x) (hb : hasB x.K 32 = false) : x.cf = [] := by
  have hz := h.zer
  have h1 := h.K1
  have h7 := h.K7
  rcases (by omega : x.K = 1 ∨ x.K = 2 ∨ x.K = 3 ∨ x.K = 4 ∨ x.K = 5 ∨ x.K = 6 ∨ x.K = 7) with hK | hK | hK | hK | hK | hK | hK
  · simp [zerL, hK] at hz
    first | exact hz | exact hz.1 | exact hz.2 | exact hz.2.1 | exact hz.2.2 | exact hz.1.1 | exact hz.1.2 | exact hz.2.1.1 | exact hz.2.1.2 | exact hz.2.2.1 | exact hz.2.2.2 | exact hz.2.2.1.1 | exact hz.2.2.1.2 | exact hz.2.2.2.1 | exact hz.2.2.2.2 | simp_all
  · simp [zerL, hK] at hz
    first | exact hz | exact hz.1 | exact hz.2 | exact hz.2.1 | exact hz.2.2 | exact hz.1.1 | exact hz.1.2 | exact hz.2.1.1 | exact hz.2.1.2 | exact hz.2.2.1 | exact hz.2.2.2 | exact hz.2.2.1.1 | exact hz.2.2.1.2 | exact hz.2.2.2.1 | exact hz.2.2.2.2 | simp_all
  · simp [zerL, hK] at hz
    first | exact hz | exact hz.1 | exact hz.2 | exact hz.2.1 | exact hz.2.2 | exact hz.1.1 | exact hz.1.2 | exact hz.2.1.1 | exact hz.2.1.2 | exact hz.2.2.1 | exact hz.2.2.2 | exact hz.2.2.1.1 | exact hz.2.2.1.2 | exact hz.2.2.2.1 | exact hz.2.2.2.2 | simp_all
  · simp [zerL, hK] at hz
    first | exact hz | exact hz.1 | exact hz.2 | exact hz.2.1 | exact hz.2.2 | exact hz.1.1 | exact hz.1.2 | exact hz.2.1.1 | exact hz.2.1.2 | exact hz.2.2.1 | exact hz.2.2.2 | exact hz.2.2.1.1 | exact hz.2.2.1.2 | exact hz.2.2.2.1 | exact hz.2.2.2.2 | simp_all
  · simp [zerL, hK] at hz
    first | exact hz | exact hz.1 | exact hz.2 | exact hz.2.1 | exact hz.2.2 | exact hz.1.1 | exact hz.1.2 | exact hz.2.1.1 | exact hz.2.1.2 | exact hz.2.2.1 | exact hz.2.2.2 | exact hz.2.2.1.1 | exact hz.2.2.1.2 | exact hz.2.2.2.1 | exact hz.2.2.2.2 | simp_all
  · simp [zerL, hK] at hz
    first | exact hz | exact hz.1 | exact hz.2 | exact hz.2.1 | exact hz.2.2 | exact hz.1.1 | exact hz.1.2 | exact hz.2.1.1 | exact hz.2.1.2 | exact hz.2.2.1 | exact hz.2.2.2 | exact hz.2.2.1.1 | exact hz.2.2.1.2 | exact hz.2.2.2.1 | exact hz.2.2.2.2 | simp_all
  · rw [hK] at hb; exact absurd hb (by decide)
theorem zer_dt {x : Ms} (h : MsOk x) (hb : hasB x.K 64 = false) : x.dt = [] := by
  have hz := h.zer
  have h1 := h.K1
  have h7 := h.K7
  rcases (by omega : x.K = 1 ∨ x.K = 2 ∨ x.K = 3 ∨ x.K = 4 ∨ x.K = 5 ∨ x.K = 6 ∨ x.K = 7) with hK | hK | hK | hK | hK | hK | hK
  · simp [zerL, hK] at hz
    first | exact hz | exact hz.1 | exact hz.2 | exact hz.2.1 | exact hz.2.2 | exact hz.1.1 | exact hz.1.2 | exact hz.2.1.1 | exact hz.2.1.2 | exact hz.2.2.1 | exact hz.2.2.2 | exact hz.2.2.1.1 | exact hz.2.2.1.2 | exact hz.2.2.2.1 | exact hz.2.2.2.2 | simp_all
  · simp [zerL, hK] at hz
    first | exact hz | exact hz.1 | exact hz.2 | exact hz.2.1 | exact hz.2.2 | exact hz.1.1 | exact hz.1.2 | exact hz.2.1.1 | exact hz.2.1.2 | exact hz.2.2.1 | exact hz.2.2.2 | exact hz.2.2.1.1 | exact hz.2.2.1.2 | exact hz.2.2.2.1 | exact hz.2.2.2.2 | simp_all
  · simp [zerL, hK] at hz
    first | exact hz | exact hz.1 | exact hz.2 | exact hz.2.1 | exact hz.2.2 | exact hz.1.1 | exact hz.1.2 | exact hz.2.1.1 | exact hz.2.1.2 | exact hz.2.2.1 | exact hz.2.2.2 | exact hz.2.2.1.1 | exact hz.2.2.1.2 | exact hz.2.2.2.1 | exact hz.2.2.2.2 | simp_all
  · simp [zerL, hK] at hz
    first | exact hz | exact hz.1 | exact hz.2 | exact hz.2.1 | exact hz.2.2 | exact hz.1.1 | exact hz.1.2 | exact hz.2.1.1 | exact hz.2.1.2 | exact hz.2.2.1 | exact hz.2.2.2 | exact hz.2.2.1.1 | exact hz.2.2.1.2 | exact hz.2.2.2.1 | exact hz.2.2.2.2 | simp_all
  · simp [zerL, hK] at hz
    first | exact hz | exact hz.1 | exact hz.2 | exact hz.2.1 | exact hz.2.2 | exact hz.1.1 | exact hz.1.2 | exact hz.2.1.1 | exact hz.2.1.2 | exact hz.2.2.1 | exact hz.2.2.2 | exact hz.2.2.1.1 | exact hz.2.2.1.2 | exact hz.2.2.2.1 | exact hz.2.2.2.2 | simp_all
  · simp [zerL, hK] at hz
    first | exact hz | exact hz.1 | exact hz.2 | exact hz.2.1 | exact hz.2.2 | exact hz.1.1 | exact hz.1.2 | exact hz.2.1.1 | exact hz.2.1.2 | exact hz.2.2.1 | exact hz.2.2.2 | exact hz.2.2.1.1 | exact hz.2.2.1.2 | exact hz.2.2.2.1 | exact hz.2.2.2.2 | simp_all
  · rw [hK] at hb; exact absurd hb (by decide)
/-- if these are a message's bytes: so much of it is read -/
def Ag (front : List UInt8) (tr : Ms → Ms) (r : Ms → List UInt8) (m : Ms) (l : List UInt8) (why : Int) : Prop := ∀ x, MsOk x → MsU x → plainB x = front → why = 0 ∧ l = r x ∧ m = tr x
theorem ag_pl0 {front : List UInt8} {m : Ms} {l : List UInt8} {why : Int} (h : Ag front tr0 r0 m l why) (hb : hasB m.K 1 = false) : Ag front tr1 r1 m l why := fun x hx hu hp => by
  obtain ⟨h1, h2, h3⟩ := h x hx hu hp
  have hK : m.K = x.K := by rw [h3]; rfl
  rw [hK] at hb
  refine ⟨h1, ?_, ?_⟩
  · rw [h2, r0, if_neg (by rw [hb]; decide)]; rfl
  · rw [h3]; unfold tr0 tr1; rw [zer_pl hx hb]
theorem ag_ok0 {front : List UInt8} {m : Ms} {l : List UInt8} {why : Int} (h : Ag front tr1 r1 m l why) (hb : hasB m.K 2 = false) : Ag front tr2 r2 m l why := fun x hx hu hp => by
  obtain ⟨h1, h2, h3⟩ := h x hx hu hp
  have hK : m.K = x.K := by rw [h3]; rfl
  rw [hK] at hb
  refine ⟨h1, ?_, ?_⟩
  · rw [h2, r1, if_neg (by rw [hb]; decide)]; rfl
  · rw [h3]; unfold tr1 tr2; rw [zer_ok hx hb]
theorem ag_es0 {front : List UInt8} {m : Ms} {l : List UInt8} {why : Int} (h : Ag front tr2 r2 m l why) (hb : hasB m.K 4 = false) : Ag front tr3 r3 m l why := fun x hx hu hp => by
  obtain ⟨h1, h2, h3⟩ := h x hx hu hp
  have hK : m.K = x.K := by rw [h3]; rfl
  rw [hK] at hb
  refine ⟨h1, ?_, ?_⟩
  · rw [h2, r2, if_neg (by rw [hb]; decide)]; rfl
  · rw [h3]; unfold tr2 tr3; rw [zer_es hx hb]
theorem ag_cm0 {front : List UInt8} {m : Ms} {l : List UInt8} {why : Int} (h : Ag front tr3 r3 m l why) (hb : hasB m.K 8 = false) : Ag front tr4 r4 m l why := fun x hx hu hp => by
  obtain ⟨h1, h2, h3⟩ := h x hx hu hp
  have hK : m.K = x.K := by rw [h3]; rfl
  rw [hK] at hb
  refine ⟨h1, ?_, ?_⟩
  · rw [h2, r3, if_neg (by rw [hb]; decide)]; rfl
  · rw [h3]; unfold tr3 tr4; rw [zer_cm hx hb]
theorem ag_ix0 {front : List UInt8} {m : Ms} {l : List UInt8} {why : Int} (h : Ag front tr4 r4 m l why) (hb : hasB m.K 16 = false) : Ag front tr5 r5 m l why := fun x hx hu hp => by
  obtain ⟨h1, h2, h3⟩ := h x hx hu hp
  have hK : m.K = x.K := by rw [h3]; rfl
  rw [hK] at hb
  refine ⟨h1, ?_, ?_⟩
  · rw [h2, r4, if_neg (by rw [hb]; decide)]; rfl
  · rw [h3]; unfold tr4 tr5; rw [zer_ix hx hb]
theorem ag_cf0 {front : List UInt8} {m : Ms} {l : List UInt8} {why : Int} (h : Ag front tr5 r5 m l why) (hb : hasB m.K 32 = false) : Ag front tr6 r6 m l why := fun x hx hu hp => by
  obtain ⟨h1, h2, h3⟩ := h x hx hu hp
  have hK : m.K = x.K := by rw [h3]; rfl
  rw [hK] at hb
  refine ⟨h1, ?_, ?_⟩
  · rw [h2, r5, if_neg (by rw [hb]; decide)]; rfl
  · rw [h3]; unfold tr5 tr6; rw [zer_cf hx hb]
theorem ag_dt0 {front : List UInt8} {m : Ms} {l : List UInt8} {why : Int} (h : Ag front tr6 r6 m l why) (hb : hasB m.K 64 = false) : Ag front tr7 r7 m l why := fun x hx hu hp => by
  obtain ⟨h1, h2, h3⟩ := h x hx hu hp
  have hK : m.K = x.K := by rw [h3]; rfl
  rw [hK] at hb
  refine ⟨h1, ?_, ?_⟩
  · rw [h2, r6, if_neg (by rw [hb]; decide)]; rfl
  · rw [h3]; unfold tr6 tr7; rw [zer_dt hx hb]
theorem rs_at {l a b t l1 : List UInt8} {k : Nat} {why w1 : Int} (h : Rstep l why (k : Int) t l1 w1) (hw : why = 0) (hl : l = a ++ b) (ha : a.length = k) : t = a ∧ l1 = b ∧ w1 = 0 := by
  subst hw hl ha
  have e1 : tookN (a ++ b).length 0 (a.length : Int) = a.length := by unfold tookN; rw [if_pos (by simp; omega)]; omega
  have e2 : whyN (a ++ b).length 0 (a.length : Int) = 0 := by unfold whyN; rw [if_pos rfl, if_neg (by omega), if_neg (by simp; omega)]
  refine ⟨?_, ?_, ?_⟩
  · rw [h.ht, e1, List.take_left']; rfl
  · rw [h.hl, e1, List.drop_left']; rfl
  · rw [h.hw, e2]
theorem kb_nat {k : Int} (h : 0 ≤ k) (h2 : k < 256) : ((num [kb k] : Nat) : Int) = k := by
  unfold num kb
  simp
  omega
theorem num8 {X : Nat} (h : X < 18446744073709551616) : num (be 8 X) = X := by rw [num_be]; exact Nat.mod_eq_of_lt h
theorem ag_head {front t1 l1 t2 l2 t3 l3 t4 l4 : List UInt8} {w1 w2 w3 w4 : Int} (h1 : Rstep front 0 1 t1 l1 w1) (h2 : Rstep l1 w1 1 t2 l2 w2) (h3 : Rstep l2 w2 1 t3 l3 w3) (h4 : Rstep l3 w3 8 t4 l4 w4) :
    Ag front tr0 r0 ⟨(num t1 : Nat), (num t2 : Nat), (num t3 : Nat), num t4, (0, 0), [], 0, false, 0, [], []⟩ l4 w4 := fun x hx hu hp => by
  obtain ⟨e1, f1, g1⟩ := rs_at (k := 1) h1 rfl (hp.symm.trans (plain_r hx)) rfl
  obtain ⟨e2, f2, g2⟩ := rs_at (k := 1) h2 g1 f1 rfl
  obtain ⟨e3, f3, g3⟩ := rs_at (k := 1) h3 g2 f2 rfl
  obtain ⟨e4, f4, g4⟩ := rs_at (k := 8) h4 g3 f3 (be_len _ _)
  refine ⟨g4, f4, ?_⟩
  have a1 := hx.K1
  have a2 := hx.K7
  have a3 := hx.F1
  have a4 := hx.F5
  have a5 := hx.T1
  have a6 := hx.T5
  rw [e1, e2, e3, e4, kb_nat (by omega) (by omega), kb_nat (by omega) (by omega), kb_nat (by omega) (by omega), num8 hu.tm]
  rfl
theorem ag_K {front : List UInt8} {tr : Ms → Ms} {r : Ms → List UInt8} {m : Ms} {l : List UInt8} {why : Int} (h : Ag front tr r m l why) (htr : ∀ x, (tr x).K = x.K) {x : Ms} (hx : MsOk x) (hu : MsU x) (hp : plainB x = front) : m.K = x.K := by
  rw [(h x hx hu hp).2.2, htr]
theorem ag_pl {front l t1 l1 t2 l2 : List UInt8} {m : Ms} {why w1 w2 : Int} (h : Ag front tr0 r0 m l why) (hb : hasB m.K 1 = true) (h1 : Rstep l why 8 t1 l1 w1) (h2 : Rstep l1 w1 8 t2 l2 w2) : Ag front tr1 r1 ⟨m.K, m.F, m.T, m.tm, (num t1, num t2), m.es, m.cm, m.ok, m.ix, m.cf, m.dt⟩ l2 w2 := fun x hx hu hp => by
  obtain ⟨g0, f0, e0⟩ := h x hx hu hp
  rw [ag_K h (fun _ => rfl) hx hu hp] at hb
  rw [r0, if_pos hb, List.append_assoc] at f0
  obtain ⟨e1, f1, g1⟩ := rs_at (k := 8) h1 g0 f0 (be_len _ _)
  obtain ⟨e2, f2, g2⟩ := rs_at (k := 8) h2 g1 f1 (be_len _ _)
  refine ⟨g2, f2, ?_⟩
  rw [e1, e2, num8 hu.p1, num8 hu.p2, e0]
  rfl
theorem ag_ok {front l t1 l1 : List UInt8} {m : Ms} {why w1 : Int} (h : Ag front tr1 r1 m l why) (hb : hasB m.K 2 = true) (h1 : Rstep l why 1 t1 l1 w1) : Ag front tr2 r2 ⟨m.K, m.F, m.T, m.tm, m.pl, m.es, m.cm, decide (num t1 = 1), m.ix, m.cf, m.dt⟩ l1 w1 := fun x hx hu hp => by
  obtain ⟨g0, f0, e0⟩ := h x hx hu hp
  rw [ag_K h (fun _ => rfl) hx hu hp] at hb
  rw [r1, if_pos hb] at f0
  obtain ⟨e1, f1, g1⟩ := rs_at (k := 1) h1 g0 f0 rfl
  refine ⟨g1, f1, ?_⟩
  have e2 : decide (num [okb x.ok] = 1) = x.ok := by cases x.ok <;> rfl
  rw [e1, e2, e0]
  rfl
theorem ag_cm {front l t1 l1 : List UInt8} {m : Ms} {why w1 : Int} (h : Ag front tr3 r3 m l why) (hb : hasB m.K 8 = true) (h1 : Rstep l why 8 t1 l1 w1) : Ag front tr4 r4 ⟨m.K, m.F, m.T, m.tm, m.pl, m.es, num t1, m.ok, m.ix, m.cf, m.dt⟩ l1 w1 := fun x hx hu hp => by
  obtain ⟨g0, f0, e0⟩ := h x hx hu hp
  rw [ag_K h (fun _ => rfl) hx hu hp] at hb
  rw [r3, if_pos hb] at f0
  obtain ⟨e1, f1, g1⟩ := rs_at (k := 8) h1 g0 f0 (be_len _ _)
  refine ⟨g1, f1, ?_⟩
  rw [e1, num8 hu.cm, e0]
  rfl
theorem ag_ix {front l t1 l1 : List UInt8} {m : Ms} {why w1 : Int} (h : Ag front tr4 r4 m l why) (hb : hasB m.K 16 = true) (h1 : Rstep l why 8 t1 l1 w1) : Ag front tr5 r5 ⟨m.K, m.F, m.T, m.tm, m.pl, m.es, m.cm, m.ok, num t1, m.cf, m.dt⟩ l1 w1 := fun x hx hu hp => by
  obtain ⟨g0, f0, e0⟩ := h x hx hu hp
  rw [ag_K h (fun _ => rfl) hx hu hp] at hb
  rw [r4, if_pos hb] at f0
  obtain ⟨e1, f1, g1⟩ := rs_at (k := 8) h1 g0 f0 (be_len _ _)
  refine ⟨g1, f1, ?_⟩
  rw [e1, num8 hu.ix, e0]
  rfl
theorem num4 {X : Nat} (h : X < 4294967296) : num (be 4 X) = X := by rw [num_be]; exact Nat.mod_eq_of_lt h
theorem num2 {X : Nat} (h : X < 65536) : num (be 2 X) = X := by rw [num_be]; exact Nat.mod_eq_of_lt h
theorem ag_dt {front l t1 l1 t2 l2 : List UInt8} {m : Ms} {why w1 w2 : Int} (h : Ag front tr6 r6 m l why) (hb : hasB m.K 64 = true) (h1 : Rstep l why 4 t1 l1 w1) (h2 : Rstep l1 w1 (num t1 : Nat) t2 l2 w2) : Ag front tr7 r7 ⟨m.K, m.F, m.T, m.tm, m.pl, m.es, m.cm, m.ok, m.ix, m.cf, t2⟩ l2 w2 := fun x hx hu hp => by
  obtain ⟨g0, f0, e0⟩ := h x hx hu hp
  rw [ag_K h (fun _ => rfl) hx hu hp] at hb
  have hd := hx.d6
  rw [r6, if_pos hb, List.append_assoc] at f0
  obtain ⟨e1, f1, g1⟩ := rs_at (k := 4) h1 g0 f0 (be_len _ _)
  obtain ⟨e2, f2, g2⟩ := rs_at h2 g1 f1 (by rw [e1, num4 (by omega)])
  refine ⟨g2, f2, ?_⟩
  rw [e2, e0]
  rfl
/-- so many entries are read -/
def AgE (front : List UInt8) (m : Ms) (k j : Nat) (es : List En) (l : List UInt8) (why : Int) : Prop := ∀ x, MsOk x → MsU x → plainB x = front → why = 0 ∧ m = tr2 x ∧ k = x.es.length ∧ es = x.es.take j ∧ l = (x.es.drop j).flatMap entB ++ r3 x
theorem ag_es1 {front l t1 l1 : List UInt8} {m : Ms} {why w1 : Int} (h : Ag front tr2 r2 m l why) (hb : hasB m.K 4 = true) (h1 : Rstep l why 1 t1 l1 w1) : AgE front m (num t1) 0 [] l1 w1 := fun x hx hu hp => by
  obtain ⟨g0, f0, e0⟩ := h x hx hu hp
  rw [ag_K h (fun _ => rfl) hx hu hp] at hb
  have hn := hx.n8
  rw [r2, if_pos hb, List.append_assoc] at f0
  obtain ⟨e1, f1, g1⟩ := rs_at (k := 1) h1 g0 f0 rfl
  refine ⟨g1, e0, ?_, rfl, f1⟩
  have := kb_nat (k := (x.es.length : Int)) (by omega) (by omega)
  rw [e1]
  omega
theorem ag_es2 {front l t1 l1 t2 l2 t3 l3 t4 l4 : List UInt8} {m : Ms} {k j : Nat} {es : List En} {why w1 w2 w3 w4 : Int} (h : AgE front m k j es l why) (hj : j < k) (h1 : Rstep l why 8 t1 l1 w1) (h2 : Rstep l1 w1 1 t2 l2 w2) (h3 : Rstep l2 w2 2 t3 l3 w3) (h4 : Rstep l3 w3 (num t3 : Nat) t4 l4 w4) :
    AgE front m k (j + 1) (es ++ [(num t1, ((num t2 : Nat) : Int), t4)]) l4 w4 := fun x hx hu hp => by
  obtain ⟨g0, e0, hk, he, f0⟩ := h x hx hu hp
  have hjl : j < x.es.length := by omega
  have hdr : x.es.drop j = x.es[j] :: x.es.drop (j + 1) := List.drop_eq_getElem_cons hjl
  have hm : x.es[j] ∈ x.es := List.getElem_mem hjl
  have hpl := hx.pl_ _ hm
  have hlen := placed_len hpl
  have hkd := placed_kind hpl
  have hut := hu.es _ hm
  rw [hdr, List.flatMap_cons, List.append_assoc] at f0
  have htk : x.es.take (j + 1) = x.es.take j ++ [x.es[j]] := List.take_succ_eq_append_getElem hjl
  generalize x.es[j] = e at f0 hlen hkd hut htk
  obtain ⟨t, ki, d⟩ := e
  dsimp only at hlen hkd hut
  unfold entB at f0
  simp only [List.append_assoc] at f0
  obtain ⟨e1, f1, g1⟩ := rs_at (k := 8) h1 g0 f0 (be_len _ _)
  obtain ⟨e2, f2, g2⟩ := rs_at (k := 1) h2 g1 f1 rfl
  obtain ⟨e3, f3, g3⟩ := rs_at (k := 2) h3 g2 f2 (be_len _ _)
  obtain ⟨e4, f4, g4⟩ := rs_at h4 g3 f3 (by rw [e3, num2 (by omega)])
  refine ⟨g4, e0, hk, ?_, f4⟩
  rw [htk, he, e1, e2, e4, num8 hut, kb_nat (by omega) (by omega)]
theorem ag_es3 {front l : List UInt8} {m : Ms} {k : Nat} {es : List En} {why : Int} (h : AgE front m k k es l why) : Ag front tr3 r3 ⟨m.K, m.F, m.T, m.tm, m.pl, es, m.cm, m.ok, m.ix, m.cf, m.dt⟩ l why := fun x hx hu hp => by
  obtain ⟨g0, e0, hk, he, f0⟩ := h x hx hu hp
  subst hk
  rw [List.drop_length] at f0
  rw [List.take_length] at he
  refine ⟨g0, f0, ?_⟩
  rw [he, e0]
  rfl
/-- so many members are read -/
def AgC (front : List UInt8) (m : Ms) (k j : Nat) (cf : List Int) (l : List UInt8) (why : Int) : Prop := ∀ x, MsOk x → MsU x → plainB x = front → why = 0 ∧ m = tr5 x ∧ k = x.cf.length ∧ cf = x.cf.take j ∧ l = (x.cf.drop j).map kb ++ r6 x
theorem ag_cf1 {front l t1 l1 : List UInt8} {m : Ms} {why w1 : Int} (h : Ag front tr5 r5 m l why) (hb : hasB m.K 32 = true) (h1 : Rstep l why 1 t1 l1 w1) : AgC front m (num t1) 0 [] l1 w1 := fun x hx hu hp => by
  obtain ⟨g0, f0, e0⟩ := h x hx hu hp
  rw [ag_K h (fun _ => rfl) hx hu hp] at hb
  have hn := hx.c5
  rw [r5, if_pos hb, List.append_assoc] at f0
  obtain ⟨e1, f1, g1⟩ := rs_at (k := 1) h1 g0 f0 rfl
  refine ⟨g1, e0, ?_, rfl, f1⟩
  have := kb_nat (k := (x.cf.length : Int)) (by omega) (by omega)
  rw [e1]
  omega
theorem ag_cf2 {front l t1 l1 : List UInt8} {m : Ms} {k j : Nat} {cf : List Int} {why w1 : Int} (h : AgC front m k j cf l why) (hj : j < k) (h1 : Rstep l why 1 t1 l1 w1) : AgC front m k (j + 1) (cf ++ [((num t1 : Nat) : Int)]) l1 w1 := fun x hx hu hp => by
  obtain ⟨g0, e0, hk, he, f0⟩ := h x hx hu hp
  have hjl : j < x.cf.length := by omega
  have hdr : x.cf.drop j = x.cf[j] :: x.cf.drop (j + 1) := List.drop_eq_getElem_cons hjl
  have hm : x.cf[j] ∈ x.cf := List.getElem_mem hjl
  have hal := List.all_eq_true.1 hx.all _ hm
  simp only [Bool.and_eq_true, decide_eq_true_eq] at hal
  rw [hdr, List.map_cons, List.cons_append] at f0
  obtain ⟨e1, f1, g1⟩ := rs_at (k := 1) (a := [kb x.cf[j]]) h1 g0 f0 rfl
  refine ⟨g1, e0, hk, ?_, f1⟩
  rw [List.take_succ_eq_append_getElem hjl, he, e1, kb_nat (by omega) (by omega)]
theorem ag_cf3 {front l : List UInt8} {m : Ms} {k : Nat} {cf : List Int} {why : Int} (h : AgC front m k k cf l why) : Ag front tr6 r6 ⟨m.K, m.F, m.T, m.tm, m.pl, m.es, m.cm, m.ok, m.ix, cf, m.dt⟩ l why := fun x hx hu hp => by
  obtain ⟨g0, e0, hk, he, f0⟩ := h x hx hu hp
  subst hk
  rw [List.drop_length] at f0
  rw [List.take_length] at he
  refine ⟨g0, f0, ?_⟩
  rw [he, e0]
  rfl
end Go.Proofs.YtdbehejbeioboaaDoor
