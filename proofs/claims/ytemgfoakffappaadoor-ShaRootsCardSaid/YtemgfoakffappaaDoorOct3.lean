/- A reader: how bytes are taken off. -/
import Derived.Test.YtemgfoakffappaaDoorOct2
namespace Go.Proofs.YtemgfoakffappaaDoor
open Go.RowKit
open Go.Lib (hid)

/-- the reader in block g: what is there still, and its error -/
def Rdr (w : World) (g : Nat) (A : Option Addr) (n c : Nat) (why : Int) : Prop := Blk w g 78 #[.slice A n c, .int .i64 why]

theorem off_stop (w : World) (g : Nat) (A : Option Addr) (n c : Nat) (why k : Int) (h : Rdr w g A n c why) (hw : why ≠ 0) :
    Calls Tryd.prog 54 #[.pointer (some ⟨g, 0, none⟩), .int .i64 k] w fun e w' => e = .returned (.slice none 0 0) ∧ w = w' := by
  have hc0 : w.cell? ⟨g, 0, none⟩ = some (.slice A n c) := Blk.cell h 0
  have hc1 : w.cell? ⟨g, 1, none⟩ = some (.int .i64 why) := Blk.cell h 1
  have hne : (why != 0) = true := by simpa using hw
  go_enter Tryd.func54, Tryd.ntmps54
  go_wp2
  go_ret
  exact ⟨rfl, rfl⟩

theorem off_neg (w : World) (g : Nat) (A : Option Addr) (n c : Nat) (k : Int) (h : Rdr w g A n c 0) (hk : k < 0) :
    Calls Tryd.prog 54 #[.pointer (some ⟨g, 0, none⟩), .int .i64 k] w fun e w' => e = .returned (.slice none 0 0) ∧ w' = w.setCell ⟨g, 1, none⟩ (.int .i64 2) := by
  have hc0 : w.cell? ⟨g, 0, none⟩ = some (.slice A n c) := Blk.cell h 0
  have hc1 : w.cell? ⟨g, 1, none⟩ = some (.int .i64 0) := Blk.cell h 1
  have hf1 : w.frozen? ⟨g, 1, none⟩ = false := Blk.frozen h 1
  go_enter Tryd.func54, Tryd.ntmps54
  go_wp2
  go_ret
  exact ⟨rfl, rfl⟩

theorem off_short (w : World) (g : Nat) (A : Option Addr) (n c : Nat) (k : Int) (h : Rdr w g A n c 0) (hk : 0 ≤ k) (hn : (n : Int) < k) :
    Calls Tryd.prog 54 #[.pointer (some ⟨g, 0, none⟩), .int .i64 k] w fun e w' => e = .returned (.slice none 0 0) ∧ w' = w.setCell ⟨g, 1, none⟩ (.int .i64 7) := by
  have hc0 : w.cell? ⟨g, 0, none⟩ = some (.slice A n c) := Blk.cell h 0
  have hc1 : w.cell? ⟨g, 1, none⟩ = some (.int .i64 0) := Blk.cell h 1
  have hf1 : w.frozen? ⟨g, 1, none⟩ = false := Blk.frozen h 1
  go_enter Tryd.func54, Tryd.ntmps54
  go_wp2
  go_ret
  exact ⟨rfl, rfl⟩

theorem off_ok (w : World) (g : Nat) (A : Option Addr) (n c k : Nat) (h : Rdr w g A n c 0) (hk : k ≤ n) (hc : n ≤ c) :
    Calls Tryd.prog 54 #[.pointer (some ⟨g, 0, none⟩), .int .i64 k] w fun e w' => e = .returned (.slice A k k) ∧ w' = w.setCell ⟨g, 0, none⟩ (.slice (cutA A c k) (n - k) (c - k)) := by
  have hc0 : w.cell? ⟨g, 0, none⟩ = some (.slice A n c) := Blk.cell h 0
  have hc1 : w.cell? ⟨g, 1, none⟩ = some (.int .i64 0) := Blk.cell h 1
  have hf1 : w.frozen? ⟨g, 0, none⟩ = false := Blk.frozen h 0
  have hcut := fun w => run_cut_b w A n c k hk
  go_enter Tryd.func54, Tryd.ntmps54
  go_wp2
  go_ret
  exact ⟨rfl, rfl⟩
end Go.Proofs.YtemgfoakffappaaDoor
