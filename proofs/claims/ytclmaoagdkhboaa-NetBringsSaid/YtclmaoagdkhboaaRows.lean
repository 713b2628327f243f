/-
  No cell of these rows narrows 'for every input' (looked for: loops, veiled, ifaces, maps, wideKeys, modest, calm, conditions, laid).
  DERIVED. THE GIVEN ROWS OF THIS SEAT. 5 by the template 'for every input the law returns true; each argument reads behind the call as it read before'; 0 by the template 'total and deterministic' (their statements: YtclmaoagdkhboaaTotals.lean).
  GIVEN WITH THE SEED: the statements are not yours to turn. If you find one false, say at which input.
  Laid BY PROGRAM, IN A SANDBOX (cutbox-rows.mjs): the forced cells as the released guide's own fill.sh prints them over the translation baed2dcb1ce58f1c… (all of the seat's roots in one cut). By AI agents, Wed Nov 11 2026. No macro, syntax, notation, axiom, sorry.
-/
import Derived.Test.YtclmaoagdkhboaaChecked
import GoSem.Claim
import GoSem.ClaimJoined
import GoSem.ClaimMapViews
import Derived.JoinedTies
import Derived.KernelRfl
namespace Go.Proofs.Ytclmaoagdkhboaa
/- THE CELL 'sum', in the pinned program and in every row, IS THE sha256 OF THE DUMP (.gsa) THAT YtclmaoagdkhboaaProg.lean LOADS. Nothing in Lean hashes anything: it is a label: what it is worth is what the hold of that sum in a sandbox is worth. -/
noncomputable def Try.pinned : Pinned := { name := "ytclmaoagdkhboaa", sum := "baed2dcb1ce58f1c9c782b464186968a12df20916022c457cf9b21b2abd1e2a0", checked := Try.checked }
namespace Rows
def none {H : Type} : Left H := { results := [], args := [] }

/-- 'confluencelaw23.NetTakes': WHATEVER THE INPUT: true; the input reads as it did. -/
def netTakesSpec : ChangeSpec := { name := "netTakes", fn := fun _ => fun
  | [d1, d2] => { results := [.lit (.bool true)], args := [d1, d2] }
  | _ => none }
def netTakesRow : OpenClaim := { program := "ytclmaoagdkhboaa", sum := "baed2dcb1ce58f1c9c782b464186968a12df20916022c457cf9b21b2abd1e2a0", func := "confluence/confluencelaw23.NetTakes", spec := "netTakes", unfollowed := true, recurses := true, plainKeys := false, apart := false }
def NetTakesSaid : Prop := netTakesRow.holds Try.pinned (OpenSpec.ofChange netTakesSpec)

/-- ITS FALSE NEIGHBOUR: 'it returns false'. Refute it at one input. -/
def netTakesWrong : ChangeSpec := { name := "netTakes", fn := fun _ => fun
  | [d1, d2] => { results := [.lit (.bool false)], args := [d1, d2] }
  | _ => none }
def NetTakesWrongFalsely : Prop := netTakesRow.holds Try.pinned (OpenSpec.ofChange netTakesWrong)

/-- 'confluencelaw23.NetSends': WHATEVER THE INPUT: true; the input reads as it did. -/
def netSendsSpec : ChangeSpec := { name := "netSends", fn := fun _ => fun
  | [d1, d2, d3] => { results := [.lit (.bool true)], args := [d1, d2, d3] }
  | _ => none }
def netSendsRow : OpenClaim := { program := "ytclmaoagdkhboaa", sum := "baed2dcb1ce58f1c9c782b464186968a12df20916022c457cf9b21b2abd1e2a0", func := "confluence/confluencelaw23.NetSends", spec := "netSends", unfollowed := true, recurses := true, plainKeys := false, apart := false }
def NetSendsSaid : Prop := netSendsRow.holds Try.pinned (OpenSpec.ofChange netSendsSpec)

/-- ITS FALSE NEIGHBOUR: 'it returns false'. Refute it at one input. -/
def netSendsWrong : ChangeSpec := { name := "netSends", fn := fun _ => fun
  | [d1, d2, d3] => { results := [.lit (.bool false)], args := [d1, d2, d3] }
  | _ => none }
def NetSendsWrongFalsely : Prop := netSendsRow.holds Try.pinned (OpenSpec.ofChange netSendsWrong)

/-- 'confluencelaw23.NetCuts': WHATEVER THE INPUT: true; the input reads as it did. -/
def netCutsSpec : ChangeSpec := { name := "netCuts", fn := fun _ => fun
  | [d1, d2, d3] => { results := [.lit (.bool true)], args := [d1, d2, d3] }
  | _ => none }
def netCutsRow : OpenClaim := { program := "ytclmaoagdkhboaa", sum := "baed2dcb1ce58f1c9c782b464186968a12df20916022c457cf9b21b2abd1e2a0", func := "confluence/confluencelaw23.NetCuts", spec := "netCuts", inPlace := ["slices.overlaps[confluence/api.Cut]"], unfollowed := true, recurses := true, plainKeys := false, apart := false }
def NetCutsSaid : Prop := netCutsRow.holds Try.pinned (OpenSpec.ofChange netCutsSpec)

/-- ITS FALSE NEIGHBOUR: 'it returns false'. Refute it at one input. -/
def netCutsWrong : ChangeSpec := { name := "netCuts", fn := fun _ => fun
  | [d1, d2, d3] => { results := [.lit (.bool false)], args := [d1, d2, d3] }
  | _ => none }
def NetCutsWrongFalsely : Prop := netCutsRow.holds Try.pinned (OpenSpec.ofChange netCutsWrong)

/-- 'confluencelaw23.NetBrings': WHATEVER THE INPUT: true; the input reads as it did. -/
def netBringsSpec : ChangeSpec := { name := "netBrings", fn := fun _ => fun
  | [d] => { results := [.lit (.bool true)], args := [d] }
  | _ => none }
def netBringsRow : OpenClaim := { program := "ytclmaoagdkhboaa", sum := "baed2dcb1ce58f1c9c782b464186968a12df20916022c457cf9b21b2abd1e2a0", func := "confluence/confluencelaw23.NetBrings", spec := "netBrings", inPlace := ["slices.overlaps[confluence/api.Cut]"], unfollowed := true, recurses := true, plainKeys := false, apart := false }
def NetBringsSaid : Prop := netBringsRow.holds Try.pinned (OpenSpec.ofChange netBringsSpec)

/-- ITS FALSE NEIGHBOUR: 'it returns false'. Refute it at one input. -/
def netBringsWrong : ChangeSpec := { name := "netBrings", fn := fun _ => fun
  | [d] => { results := [.lit (.bool false)], args := [d] }
  | _ => none }
def NetBringsWrongFalsely : Prop := netBringsRow.holds Try.pinned (OpenSpec.ofChange netBringsWrong)

/-- 'confluencelaw23.NetBack': WHATEVER THE INPUT: true; the input reads as it did. -/
def netBackSpec : ChangeSpec := { name := "netBack", fn := fun _ => fun
  | [d1, d2, d3] => { results := [.lit (.bool true)], args := [d1, d2, d3] }
  | _ => none }
def netBackRow : OpenClaim := { program := "ytclmaoagdkhboaa", sum := "baed2dcb1ce58f1c9c782b464186968a12df20916022c457cf9b21b2abd1e2a0", func := "confluence/confluencelaw23.NetBack", spec := "netBack", inPlace := ["slices.overlaps[confluence/api.Cut]"], unfollowed := true, recurses := true, plainKeys := false, apart := false }
def NetBackSaid : Prop := netBackRow.holds Try.pinned (OpenSpec.ofChange netBackSpec)

/-- ITS FALSE NEIGHBOUR: 'it returns false'. Refute it at one input. -/
def netBackWrong : ChangeSpec := { name := "netBack", fn := fun _ => fun
  | [d1, d2, d3] => { results := [.lit (.bool false)], args := [d1, d2, d3] }
  | _ => none }
def NetBackWrongFalsely : Prop := netBackRow.holds Try.pinned (OpenSpec.ofChange netBackWrong)

/- THE SECOND FORM. 'bulk': how many values and letters a reading holds, each counted each time it is reached (what is shared counts as often as it is met; a slice's spare places count too). A statement '..UptoSaid' is the law's where the arguments, and the package variables that the reading takes, are together of bulk at most 1048576: NARROWER than '..Said'. Prove '..Said' where nothing that the law and all that it calls make is longer than what came in: it says more and counts as full. Else prove '..UptoSaid'. A law counts once. -/
mutual
def uptoBulk {H : Type} : DataW H → Nat
  | .lit (.string bytes) => bytes.length + 1
  | .lit _ => 1
  | .nil => 1
  | .ptr d => uptoBulk d + 1
  | .slice elems spare => uptoBulkAll elems + uptoBulkAll spare + 1
  | .agg parts => uptoBulkAll parts + 1
  | .iface _ d => uptoBulk d + 1
  | .map entries => uptoBulkEntries entries + 1
  | .held _ => 1
def uptoBulkAll {H : Type} : List (DataW H) → Nat
  | [] => 0
  | d :: r => uptoBulk d + uptoBulkAll r
def uptoBulkEntries {H : Type} : List (Lit × DataW H) → Nat
  | [] => 0
  | x :: r => uptoBulkEntry x + uptoBulkEntries r
def uptoBulkEntry {H : Type} : Lit × DataW H → Nat
  | (.string bytes, d) => bytes.length + uptoBulk d + 1
  | (_, d) => uptoBulk d + 1
 end
def uptoSmall : (H : Type) → List (DataW H) → Bool := fun _ ds => decide (uptoBulkAll ds ≤ 1048576)
def OpenSpec.upto (s : _root_.Go.ChangeSpec) : _root_.Go.OpenSpec := { _root_.Go.OpenSpec.ofChange s with cond := some uptoSmall }

/-- 'confluencelaw23.NetTakes', WHERE WHAT IT READS IS OF BULK AT MOST 1048576: true; the input reads as it did. -/
def netTakesUptoRow : OpenClaim := { program := "ytclmaoagdkhboaa", sum := "baed2dcb1ce58f1c9c782b464186968a12df20916022c457cf9b21b2abd1e2a0", func := "confluence/confluencelaw23.NetTakes", spec := "netTakes", unfollowed := true, recurses := true, plainKeys := false, apart := false, narrowed := true }
def NetTakesUptoSaid : Prop := netTakesUptoRow.holds Try.pinned (OpenSpec.upto netTakesSpec)

/-- 'confluencelaw23.NetSends', WHERE WHAT IT READS IS OF BULK AT MOST 1048576: true; the input reads as it did. -/
def netSendsUptoRow : OpenClaim := { program := "ytclmaoagdkhboaa", sum := "baed2dcb1ce58f1c9c782b464186968a12df20916022c457cf9b21b2abd1e2a0", func := "confluence/confluencelaw23.NetSends", spec := "netSends", unfollowed := true, recurses := true, plainKeys := false, apart := false, narrowed := true }
def NetSendsUptoSaid : Prop := netSendsUptoRow.holds Try.pinned (OpenSpec.upto netSendsSpec)

/-- 'confluencelaw23.NetCuts', WHERE WHAT IT READS IS OF BULK AT MOST 1048576: true; the input reads as it did. -/
def netCutsUptoRow : OpenClaim := { program := "ytclmaoagdkhboaa", sum := "baed2dcb1ce58f1c9c782b464186968a12df20916022c457cf9b21b2abd1e2a0", func := "confluence/confluencelaw23.NetCuts", spec := "netCuts", inPlace := ["slices.overlaps[confluence/api.Cut]"], unfollowed := true, recurses := true, plainKeys := false, apart := false, narrowed := true }
def NetCutsUptoSaid : Prop := netCutsUptoRow.holds Try.pinned (OpenSpec.upto netCutsSpec)

/-- 'confluencelaw23.NetBrings', WHERE WHAT IT READS IS OF BULK AT MOST 1048576: true; the input reads as it did. -/
def netBringsUptoRow : OpenClaim := { program := "ytclmaoagdkhboaa", sum := "baed2dcb1ce58f1c9c782b464186968a12df20916022c457cf9b21b2abd1e2a0", func := "confluence/confluencelaw23.NetBrings", spec := "netBrings", inPlace := ["slices.overlaps[confluence/api.Cut]"], unfollowed := true, recurses := true, plainKeys := false, apart := false, narrowed := true }
def NetBringsUptoSaid : Prop := netBringsUptoRow.holds Try.pinned (OpenSpec.upto netBringsSpec)

/-- 'confluencelaw23.NetBack', WHERE WHAT IT READS IS OF BULK AT MOST 1048576: true; the input reads as it did. -/
def netBackUptoRow : OpenClaim := { program := "ytclmaoagdkhboaa", sum := "baed2dcb1ce58f1c9c782b464186968a12df20916022c457cf9b21b2abd1e2a0", func := "confluence/confluencelaw23.NetBack", spec := "netBack", inPlace := ["slices.overlaps[confluence/api.Cut]"], unfollowed := true, recurses := true, plainKeys := false, apart := false, narrowed := true }
def NetBackUptoSaid : Prop := netBackUptoRow.holds Try.pinned (OpenSpec.upto netBackSpec)

end Rows
end Go.Proofs.Ytclmaoagdkhboaa
