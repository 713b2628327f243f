/-
  No cell of these rows narrows 'for every input' (looked for: loops, veiled, ifaces, maps, wideKeys, modest, calm, conditions, laid).
  DERIVED. THE GIVEN ROWS OF THIS SEAT. 6 by the template 'for every input the law returns true; each argument reads behind the call as it read before'; 0 by the template 'total and deterministic' (their statements: YtghfjfgpiomdhaaTotals.lean).
  GIVEN WITH THE SEED: the statements are not yours to turn. If you find one false, say at which input.
  Laid BY PROGRAM, IN A SANDBOX (cutbox-rows.mjs): the forced cells as the released guide's own fill.sh prints them over the translation 2edfe5583a9cd463… (all of the seat's roots in one cut). By AI agents, Wed Nov 11 2026. No macro, syntax, notation, axiom, sorry.
-/
import Derived.Test.YtghfjfgpiomdhaaChecked
import GoSem.Claim
import GoSem.ClaimJoined
import GoSem.ClaimMapViews
import Derived.JoinedTies
import Derived.KernelRfl
namespace Go.Proofs.Ytghfjfgpiomdhaa
/- THE CELL 'sum', in the pinned program and in every row, IS THE sha256 OF THE DUMP (.gsa) THAT YtghfjfgpiomdhaaProg.lean LOADS. Nothing in Lean hashes anything: it is a label: what it is worth is what the hold of that sum in a sandbox is worth. -/
noncomputable def Try.pinned : Pinned := { name := "ytghfjfgpiomdhaa", sum := "2edfe5583a9cd463cacaf61de5a62ac9a2190b9fb8af075ef6a139f83f587217", checked := Try.checked }
namespace Rows
def none {H : Type} : Left H := { results := [], args := [] }

/-- 'confluencelaw07.MergeMerges': WHATEVER THE INPUT: true; the input reads as it did. -/
def mergeMergesSpec : ChangeSpec := { name := "mergeMerges", fn := fun _ => fun
  | [d1, d2] => { results := [.lit (.bool true)], args := [d1, d2] }
  | _ => none }
def mergeMergesRow : OpenClaim := { program := "ytghfjfgpiomdhaa", sum := "2edfe5583a9cd463cacaf61de5a62ac9a2190b9fb8af075ef6a139f83f587217", func := "confluence/confluencelaw07.MergeMerges", spec := "mergeMerges", unfollowed := true, recurses := true, apart := false }
def MergeMergesSaid : Prop := mergeMergesRow.holds Try.pinned (OpenSpec.ofChange mergeMergesSpec)

/-- ITS FALSE NEIGHBOUR: 'it returns false'. Refute it at one input. -/
def mergeMergesWrong : ChangeSpec := { name := "mergeMerges", fn := fun _ => fun
  | [d1, d2] => { results := [.lit (.bool false)], args := [d1, d2] }
  | _ => none }
def MergeMergesWrongFalsely : Prop := mergeMergesRow.holds Try.pinned (OpenSpec.ofChange mergeMergesWrong)

/-- 'confluencelaw07.MergeTurns': WHATEVER THE INPUT: true; the input reads as it did. -/
def mergeTurnsSpec : ChangeSpec := { name := "mergeTurns", fn := fun _ => fun
  | [d] => { results := [.lit (.bool true)], args := [d] }
  | _ => none }
def mergeTurnsRow : OpenClaim := { program := "ytghfjfgpiomdhaa", sum := "2edfe5583a9cd463cacaf61de5a62ac9a2190b9fb8af075ef6a139f83f587217", func := "confluence/confluencelaw07.MergeTurns", spec := "mergeTurns", unfollowed := true, recurses := true, apart := false }
def MergeTurnsSaid : Prop := mergeTurnsRow.holds Try.pinned (OpenSpec.ofChange mergeTurnsSpec)

/-- ITS FALSE NEIGHBOUR: 'it returns false'. Refute it at one input. -/
def mergeTurnsWrong : ChangeSpec := { name := "mergeTurns", fn := fun _ => fun
  | [d] => { results := [.lit (.bool false)], args := [d] }
  | _ => none }
def MergeTurnsWrongFalsely : Prop := mergeTurnsRow.holds Try.pinned (OpenSpec.ofChange mergeTurnsWrong)

/-- 'confluencelaw07.MergeConflicts': WHATEVER THE INPUT: true; the input reads as it did. -/
def mergeConflictsSpec : ChangeSpec := { name := "mergeConflicts", fn := fun _ => fun
  | [d1, d2] => { results := [.lit (.bool true)], args := [d1, d2] }
  | _ => none }
def mergeConflictsRow : OpenClaim := { program := "ytghfjfgpiomdhaa", sum := "2edfe5583a9cd463cacaf61de5a62ac9a2190b9fb8af075ef6a139f83f587217", func := "confluence/confluencelaw07.MergeConflicts", spec := "mergeConflicts", unfollowed := true, recurses := true, apart := false }
def MergeConflictsSaid : Prop := mergeConflictsRow.holds Try.pinned (OpenSpec.ofChange mergeConflictsSpec)

/-- ITS FALSE NEIGHBOUR: 'it returns false'. Refute it at one input. -/
def mergeConflictsWrong : ChangeSpec := { name := "mergeConflicts", fn := fun _ => fun
  | [d1, d2] => { results := [.lit (.bool false)], args := [d1, d2] }
  | _ => none }
def MergeConflictsWrongFalsely : Prop := mergeConflictsRow.holds Try.pinned (OpenSpec.ofChange mergeConflictsWrong)

/-- 'confluencelaw07.MergeHas': WHATEVER THE INPUT: true; the input reads as it did. -/
def mergeHasSpec : ChangeSpec := { name := "mergeHas", fn := fun _ => fun
  | [d1, d2] => { results := [.lit (.bool true)], args := [d1, d2] }
  | _ => none }
def mergeHasRow : OpenClaim := { program := "ytghfjfgpiomdhaa", sum := "2edfe5583a9cd463cacaf61de5a62ac9a2190b9fb8af075ef6a139f83f587217", func := "confluence/confluencelaw07.MergeHas", spec := "mergeHas", unfollowed := true, recurses := true, apart := false }
def MergeHasSaid : Prop := mergeHasRow.holds Try.pinned (OpenSpec.ofChange mergeHasSpec)

/-- ITS FALSE NEIGHBOUR: 'it returns false'. Refute it at one input. -/
def mergeHasWrong : ChangeSpec := { name := "mergeHas", fn := fun _ => fun
  | [d1, d2] => { results := [.lit (.bool false)], args := [d1, d2] }
  | _ => none }
def MergeHasWrongFalsely : Prop := mergeHasRow.holds Try.pinned (OpenSpec.ofChange mergeHasWrong)

/-- 'confluencelaw07.MergeRebases': WHATEVER THE INPUT: true; the input reads as it did. -/
def mergeRebasesSpec : ChangeSpec := { name := "mergeRebases", fn := fun _ => fun
  | [d1, d2, d3] => { results := [.lit (.bool true)], args := [d1, d2, d3] }
  | _ => none }
def mergeRebasesRow : OpenClaim := { program := "ytghfjfgpiomdhaa", sum := "2edfe5583a9cd463cacaf61de5a62ac9a2190b9fb8af075ef6a139f83f587217", func := "confluence/confluencelaw07.MergeRebases", spec := "mergeRebases", inPlace := ["slices.overlaps[confluence/api.Row]"], unfollowed := true, recurses := true, apart := false }
def MergeRebasesSaid : Prop := mergeRebasesRow.holds Try.pinned (OpenSpec.ofChange mergeRebasesSpec)

/-- ITS FALSE NEIGHBOUR: 'it returns false'. Refute it at one input. -/
def mergeRebasesWrong : ChangeSpec := { name := "mergeRebases", fn := fun _ => fun
  | [d1, d2, d3] => { results := [.lit (.bool false)], args := [d1, d2, d3] }
  | _ => none }
def MergeRebasesWrongFalsely : Prop := mergeRebasesRow.holds Try.pinned (OpenSpec.ofChange mergeRebasesWrong)

/-- 'confluencelaw07.MergeBack': WHATEVER THE INPUT: true; the input reads as it did. -/
def mergeBackSpec : ChangeSpec := { name := "mergeBack", fn := fun _ => fun
  | [d1, d2] => { results := [.lit (.bool true)], args := [d1, d2] }
  | _ => none }
def mergeBackRow : OpenClaim := { program := "ytghfjfgpiomdhaa", sum := "2edfe5583a9cd463cacaf61de5a62ac9a2190b9fb8af075ef6a139f83f587217", func := "confluence/confluencelaw07.MergeBack", spec := "mergeBack", inPlace := ["slices.overlaps[confluence/api.Row]"], unfollowed := true, recurses := true, apart := false }
def MergeBackSaid : Prop := mergeBackRow.holds Try.pinned (OpenSpec.ofChange mergeBackSpec)

/-- ITS FALSE NEIGHBOUR: 'it returns false'. Refute it at one input. -/
def mergeBackWrong : ChangeSpec := { name := "mergeBack", fn := fun _ => fun
  | [d1, d2] => { results := [.lit (.bool false)], args := [d1, d2] }
  | _ => none }
def MergeBackWrongFalsely : Prop := mergeBackRow.holds Try.pinned (OpenSpec.ofChange mergeBackWrong)

/- THE SECOND FORM. 'bulk': how many values and letters a reading holds, each counted each time it is reached (what is shared counts as often as it is met; a slice's spare places count too). A statement '..UptoSaid' is the law's where the arguments, and the package variables that the reading takes, are together of bulk at most 1048576: NARROWER than '..Said'. Prove '..Said' where nothing that the law and all that it calls make is longer than what came in: it says more and counts as full. Else prove '..UptoSaid'. A law counts once. -/
mutual
def uptoBulk {H : Type} : DataW H → Nat
  | .lit (.string bytes) => bytes.length + 1
  | .lit _ => 1
  | .nil => 1
  | .ptr d => uptoBulk d + 1
  | .slice elems spare => uptoBulkAll elems + uptoBulkAll spare + 1
  | .agg parts => uptoBulkAll parts + 1
  | .iface _ d => uptoBulk d + 1
  | .map entries => uptoBulkEntries entries + 1
  | .held _ => 1
def uptoBulkAll {H : Type} : List (DataW H) → Nat
  | [] => 0
  | d :: r => uptoBulk d + uptoBulkAll r
def uptoBulkEntries {H : Type} : List (Lit × DataW H) → Nat
  | [] => 0
  | x :: r => uptoBulkEntry x + uptoBulkEntries r
def uptoBulkEntry {H : Type} : Lit × DataW H → Nat
  | (.string bytes, d) => bytes.length + uptoBulk d + 1
  | (_, d) => uptoBulk d + 1
 end
def uptoSmall : (H : Type) → List (DataW H) → Bool := fun _ ds => decide (uptoBulkAll ds ≤ 1048576)
def OpenSpec.upto (s : _root_.Go.ChangeSpec) : _root_.Go.OpenSpec := { _root_.Go.OpenSpec.ofChange s with cond := some uptoSmall }

/-- 'confluencelaw07.MergeMerges', WHERE WHAT IT READS IS OF BULK AT MOST 1048576: true; the input reads as it did. -/
def mergeMergesUptoRow : OpenClaim := { program := "ytghfjfgpiomdhaa", sum := "2edfe5583a9cd463cacaf61de5a62ac9a2190b9fb8af075ef6a139f83f587217", func := "confluence/confluencelaw07.MergeMerges", spec := "mergeMerges", unfollowed := true, recurses := true, apart := false, narrowed := true }
def MergeMergesUptoSaid : Prop := mergeMergesUptoRow.holds Try.pinned (OpenSpec.upto mergeMergesSpec)

/-- 'confluencelaw07.MergeTurns', WHERE WHAT IT READS IS OF BULK AT MOST 1048576: true; the input reads as it did. -/
def mergeTurnsUptoRow : OpenClaim := { program := "ytghfjfgpiomdhaa", sum := "2edfe5583a9cd463cacaf61de5a62ac9a2190b9fb8af075ef6a139f83f587217", func := "confluence/confluencelaw07.MergeTurns", spec := "mergeTurns", unfollowed := true, recurses := true, apart := false, narrowed := true }
def MergeTurnsUptoSaid : Prop := mergeTurnsUptoRow.holds Try.pinned (OpenSpec.upto mergeTurnsSpec)

/-- 'confluencelaw07.MergeConflicts', WHERE WHAT IT READS IS OF BULK AT MOST 1048576: true; the input reads as it did. -/
def mergeConflictsUptoRow : OpenClaim := { program := "ytghfjfgpiomdhaa", sum := "2edfe5583a9cd463cacaf61de5a62ac9a2190b9fb8af075ef6a139f83f587217", func := "confluence/confluencelaw07.MergeConflicts", spec := "mergeConflicts", unfollowed := true, recurses := true, apart := false, narrowed := true }
def MergeConflictsUptoSaid : Prop := mergeConflictsUptoRow.holds Try.pinned (OpenSpec.upto mergeConflictsSpec)

/-- 'confluencelaw07.MergeHas', WHERE WHAT IT READS IS OF BULK AT MOST 1048576: true; the input reads as it did. -/
def mergeHasUptoRow : OpenClaim := { program := "ytghfjfgpiomdhaa", sum := "2edfe5583a9cd463cacaf61de5a62ac9a2190b9fb8af075ef6a139f83f587217", func := "confluence/confluencelaw07.MergeHas", spec := "mergeHas", unfollowed := true, recurses := true, apart := false, narrowed := true }
def MergeHasUptoSaid : Prop := mergeHasUptoRow.holds Try.pinned (OpenSpec.upto mergeHasSpec)

/-- 'confluencelaw07.MergeRebases', WHERE WHAT IT READS IS OF BULK AT MOST 1048576: true; the input reads as it did. -/
def mergeRebasesUptoRow : OpenClaim := { program := "ytghfjfgpiomdhaa", sum := "2edfe5583a9cd463cacaf61de5a62ac9a2190b9fb8af075ef6a139f83f587217", func := "confluence/confluencelaw07.MergeRebases", spec := "mergeRebases", inPlace := ["slices.overlaps[confluence/api.Row]"], unfollowed := true, recurses := true, apart := false, narrowed := true }
def MergeRebasesUptoSaid : Prop := mergeRebasesUptoRow.holds Try.pinned (OpenSpec.upto mergeRebasesSpec)

/-- 'confluencelaw07.MergeBack', WHERE WHAT IT READS IS OF BULK AT MOST 1048576: true; the input reads as it did. -/
def mergeBackUptoRow : OpenClaim := { program := "ytghfjfgpiomdhaa", sum := "2edfe5583a9cd463cacaf61de5a62ac9a2190b9fb8af075ef6a139f83f587217", func := "confluence/confluencelaw07.MergeBack", spec := "mergeBack", inPlace := ["slices.overlaps[confluence/api.Row]"], unfollowed := true, recurses := true, apart := false, narrowed := true }
def MergeBackUptoSaid : Prop := mergeBackUptoRow.holds Try.pinned (OpenSpec.upto mergeBackSpec)

end Rows
end Go.Proofs.Ytghfjfgpiomdhaa
