/-
  No cell of these rows narrows 'for every input' (looked for: loops, veiled, ifaces, maps, wideKeys, modest, calm, conditions, laid).
  DERIVED. THE GIVEN ROWS OF THIS SEAT. 7 by the template 'for every input the law returns true; each argument reads behind the call as it read before'; 0 by the template 'total and deterministic' (their statements: YtkdpfnaaopimoaaTotals.lean).
  GIVEN WITH THE SEED: the statements are not yours to turn. If you find one false, say at which input.
  Laid BY PROGRAM, IN A SANDBOX (cutbox-rows.mjs): the forced cells as the released guide's own fill.sh prints them over the translation 1a8234f334a9c03f… (all of the seat's roots in one cut). By AI agents, Wed Nov 11 2026. No macro, syntax, notation, axiom, sorry.
-/
import Derived.Test.YtkdpfnaaopimoaaChecked
import GoSem.Claim
import GoSem.ClaimJoined
import GoSem.ClaimMapViews
import Derived.JoinedTies
import Derived.KernelRfl
namespace Go.Proofs.Ytkdpfnaaopimoaa
/- THE CELL 'sum', in the pinned program and in every row, IS THE sha256 OF THE DUMP (.gsa) THAT YtkdpfnaaopimoaaProg.lean LOADS. Nothing in Lean hashes anything: it is a label: what it is worth is what the hold of that sum in a sandbox is worth. -/
noncomputable def Try.pinned : Pinned := { name := "ytkdpfnaaopimoaa", sum := "1a8234f334a9c03f64b9908da7d8b049b453c8c95afca1012a704293a4c40996", checked := Try.checked }
namespace Rows
def none {H : Type} : Left H := { results := [], args := [] }

/-- 'confluencelaw12.LogSplices': WHATEVER THE INPUT: true; the input reads as it did. -/
def logSplicesSpec : ChangeSpec := { name := "logSplices", fn := fun _ => fun
  | [d1, d2] => { results := [.lit (.bool true)], args := [d1, d2] }
  | _ => none }
def logSplicesRow : OpenClaim := { program := "ytkdpfnaaopimoaa", sum := "1a8234f334a9c03f64b9908da7d8b049b453c8c95afca1012a704293a4c40996", func := "confluence/confluencelaw12.LogSplices", spec := "logSplices", unfollowed := true, recurses := true, apart := false }
def LogSplicesSaid : Prop := logSplicesRow.holds Try.pinned (OpenSpec.ofChange logSplicesSpec)

/-- ITS FALSE NEIGHBOUR: 'it returns false'. Refute it at one input. -/
def logSplicesWrong : ChangeSpec := { name := "logSplices", fn := fun _ => fun
  | [d1, d2] => { results := [.lit (.bool false)], args := [d1, d2] }
  | _ => none }
def LogSplicesWrongFalsely : Prop := logSplicesRow.holds Try.pinned (OpenSpec.ofChange logSplicesWrong)

/-- 'confluencelaw12.LogAppends': WHATEVER THE INPUT: true; the input reads as it did. -/
def logAppendsSpec : ChangeSpec := { name := "logAppends", fn := fun _ => fun
  | [d1, d2, d3] => { results := [.lit (.bool true)], args := [d1, d2, d3] }
  | _ => none }
def logAppendsRow : OpenClaim := { program := "ytkdpfnaaopimoaa", sum := "1a8234f334a9c03f64b9908da7d8b049b453c8c95afca1012a704293a4c40996", func := "confluence/confluencelaw12.LogAppends", spec := "logAppends", unfollowed := true, recurses := true, apart := false }
def LogAppendsSaid : Prop := logAppendsRow.holds Try.pinned (OpenSpec.ofChange logAppendsSpec)

/-- ITS FALSE NEIGHBOUR: 'it returns false'. Refute it at one input. -/
def logAppendsWrong : ChangeSpec := { name := "logAppends", fn := fun _ => fun
  | [d1, d2, d3] => { results := [.lit (.bool false)], args := [d1, d2, d3] }
  | _ => none }
def LogAppendsWrongFalsely : Prop := logAppendsRow.holds Try.pinned (OpenSpec.ofChange logAppendsWrong)

/-- 'confluencelaw12.LogCuts': WHATEVER THE INPUT: true; the input reads as it did. -/
def logCutsSpec : ChangeSpec := { name := "logCuts", fn := fun _ => fun
  | [d1, d2] => { results := [.lit (.bool true)], args := [d1, d2] }
  | _ => none }
def logCutsRow : OpenClaim := { program := "ytkdpfnaaopimoaa", sum := "1a8234f334a9c03f64b9908da7d8b049b453c8c95afca1012a704293a4c40996", func := "confluence/confluencelaw12.LogCuts", spec := "logCuts", unfollowed := true, recurses := true, apart := false }
def LogCutsSaid : Prop := logCutsRow.holds Try.pinned (OpenSpec.ofChange logCutsSpec)

/-- ITS FALSE NEIGHBOUR: 'it returns false'. Refute it at one input. -/
def logCutsWrong : ChangeSpec := { name := "logCuts", fn := fun _ => fun
  | [d1, d2] => { results := [.lit (.bool false)], args := [d1, d2] }
  | _ => none }
def LogCutsWrongFalsely : Prop := logCutsRow.holds Try.pinned (OpenSpec.ofChange logCutsWrong)

/-- 'confluencelaw12.LogMatches': WHATEVER THE INPUT: true; the input reads as it did. -/
def logMatchesSpec : ChangeSpec := { name := "logMatches", fn := fun _ => fun
  | [d] => { results := [.lit (.bool true)], args := [d] }
  | _ => none }
def logMatchesRow : OpenClaim := { program := "ytkdpfnaaopimoaa", sum := "1a8234f334a9c03f64b9908da7d8b049b453c8c95afca1012a704293a4c40996", func := "confluence/confluencelaw12.LogMatches", spec := "logMatches", unfollowed := true, recurses := true, apart := false }
def LogMatchesSaid : Prop := logMatchesRow.holds Try.pinned (OpenSpec.ofChange logMatchesSpec)

/-- ITS FALSE NEIGHBOUR: 'it returns false'. Refute it at one input. -/
def logMatchesWrong : ChangeSpec := { name := "logMatches", fn := fun _ => fun
  | [d] => { results := [.lit (.bool false)], args := [d] }
  | _ => none }
def LogMatchesWrongFalsely : Prop := logMatchesRow.holds Try.pinned (OpenSpec.ofChange logMatchesWrong)

/-- 'confluencelaw12.LogChecks': WHATEVER THE INPUT: true; the input reads as it did. -/
def logChecksSpec : ChangeSpec := { name := "logChecks", fn := fun _ => fun
  | [d1, d2] => { results := [.lit (.bool true)], args := [d1, d2] }
  | _ => none }
def logChecksRow : OpenClaim := { program := "ytkdpfnaaopimoaa", sum := "1a8234f334a9c03f64b9908da7d8b049b453c8c95afca1012a704293a4c40996", func := "confluence/confluencelaw12.LogChecks", spec := "logChecks", unfollowed := true, recurses := true, apart := false }
def LogChecksSaid : Prop := logChecksRow.holds Try.pinned (OpenSpec.ofChange logChecksSpec)

/-- ITS FALSE NEIGHBOUR: 'it returns false'. Refute it at one input. -/
def logChecksWrong : ChangeSpec := { name := "logChecks", fn := fun _ => fun
  | [d1, d2] => { results := [.lit (.bool false)], args := [d1, d2] }
  | _ => none }
def LogChecksWrongFalsely : Prop := logChecksRow.holds Try.pinned (OpenSpec.ofChange logChecksWrong)

/-- 'confluencelaw12.LogJoins': WHATEVER THE INPUT: true; the input reads as it did. -/
def logJoinsSpec : ChangeSpec := { name := "logJoins", fn := fun _ => fun
  | [d1, d2] => { results := [.lit (.bool true)], args := [d1, d2] }
  | _ => none }
def logJoinsRow : OpenClaim := { program := "ytkdpfnaaopimoaa", sum := "1a8234f334a9c03f64b9908da7d8b049b453c8c95afca1012a704293a4c40996", func := "confluence/confluencelaw12.LogJoins", spec := "logJoins", unfollowed := true, recurses := true, apart := false }
def LogJoinsSaid : Prop := logJoinsRow.holds Try.pinned (OpenSpec.ofChange logJoinsSpec)

/-- ITS FALSE NEIGHBOUR: 'it returns false'. Refute it at one input. -/
def logJoinsWrong : ChangeSpec := { name := "logJoins", fn := fun _ => fun
  | [d1, d2] => { results := [.lit (.bool false)], args := [d1, d2] }
  | _ => none }
def LogJoinsWrongFalsely : Prop := logJoinsRow.holds Try.pinned (OpenSpec.ofChange logJoinsWrong)

/-- 'confluencelaw12.LogTells': WHATEVER THE INPUT: true; the input reads as it did. -/
def logTellsSpec : ChangeSpec := { name := "logTells", fn := fun _ => fun
  | [d1, d2, d3] => { results := [.lit (.bool true)], args := [d1, d2, d3] }
  | _ => none }
def logTellsRow : OpenClaim := { program := "ytkdpfnaaopimoaa", sum := "1a8234f334a9c03f64b9908da7d8b049b453c8c95afca1012a704293a4c40996", func := "confluence/confluencelaw12.LogTells", spec := "logTells", unfollowed := true, recurses := true, apart := false }
def LogTellsSaid : Prop := logTellsRow.holds Try.pinned (OpenSpec.ofChange logTellsSpec)

/-- ITS FALSE NEIGHBOUR: 'it returns false'. Refute it at one input. -/
def logTellsWrong : ChangeSpec := { name := "logTells", fn := fun _ => fun
  | [d1, d2, d3] => { results := [.lit (.bool false)], args := [d1, d2, d3] }
  | _ => none }
def LogTellsWrongFalsely : Prop := logTellsRow.holds Try.pinned (OpenSpec.ofChange logTellsWrong)

/- THE SECOND FORM. 'bulk': how many values and letters a reading holds, each counted each time it is reached (what is shared counts as often as it is met; a slice's spare places count too). A statement '..UptoSaid' is the law's where the arguments, and the package variables that the reading takes, are together of bulk at most 1048576: NARROWER than '..Said'. Prove '..Said' where nothing that the law and all that it calls make is longer than what came in: it says more and counts as full. Else prove '..UptoSaid'. A law counts once. -/
mutual
def uptoBulk {H : Type} : DataW H → Nat
  | .lit (.string bytes) => bytes.length + 1
  | .lit _ => 1
  | .nil => 1
  | .ptr d => uptoBulk d + 1
  | .slice elems spare => uptoBulkAll elems + uptoBulkAll spare + 1
  | .agg parts => uptoBulkAll parts + 1
  | .iface _ d => uptoBulk d + 1
  | .map entries => uptoBulkEntries entries + 1
  | .held _ => 1
def uptoBulkAll {H : Type} : List (DataW H) → Nat
  | [] => 0
  | d :: r => uptoBulk d + uptoBulkAll r
def uptoBulkEntries {H : Type} : List (Lit × DataW H) → Nat
  | [] => 0
  | x :: r => uptoBulkEntry x + uptoBulkEntries r
def uptoBulkEntry {H : Type} : Lit × DataW H → Nat
  | (.string bytes, d) => bytes.length + uptoBulk d + 1
  | (_, d) => uptoBulk d + 1
 end
def uptoSmall : (H : Type) → List (DataW H) → Bool := fun _ ds => decide (uptoBulkAll ds ≤ 1048576)
def OpenSpec.upto (s : _root_.Go.ChangeSpec) : _root_.Go.OpenSpec := { _root_.Go.OpenSpec.ofChange s with cond := some uptoSmall }

/-- 'confluencelaw12.LogSplices', WHERE WHAT IT READS IS OF BULK AT MOST 1048576: true; the input reads as it did. -/
def logSplicesUptoRow : OpenClaim := { program := "ytkdpfnaaopimoaa", sum := "1a8234f334a9c03f64b9908da7d8b049b453c8c95afca1012a704293a4c40996", func := "confluence/confluencelaw12.LogSplices", spec := "logSplices", unfollowed := true, recurses := true, apart := false, narrowed := true }
def LogSplicesUptoSaid : Prop := logSplicesUptoRow.holds Try.pinned (OpenSpec.upto logSplicesSpec)

/-- 'confluencelaw12.LogAppends', WHERE WHAT IT READS IS OF BULK AT MOST 1048576: true; the input reads as it did. -/
def logAppendsUptoRow : OpenClaim := { program := "ytkdpfnaaopimoaa", sum := "1a8234f334a9c03f64b9908da7d8b049b453c8c95afca1012a704293a4c40996", func := "confluence/confluencelaw12.LogAppends", spec := "logAppends", unfollowed := true, recurses := true, apart := false, narrowed := true }
def LogAppendsUptoSaid : Prop := logAppendsUptoRow.holds Try.pinned (OpenSpec.upto logAppendsSpec)

/-- 'confluencelaw12.LogCuts', WHERE WHAT IT READS IS OF BULK AT MOST 1048576: true; the input reads as it did. -/
def logCutsUptoRow : OpenClaim := { program := "ytkdpfnaaopimoaa", sum := "1a8234f334a9c03f64b9908da7d8b049b453c8c95afca1012a704293a4c40996", func := "confluence/confluencelaw12.LogCuts", spec := "logCuts", unfollowed := true, recurses := true, apart := false, narrowed := true }
def LogCutsUptoSaid : Prop := logCutsUptoRow.holds Try.pinned (OpenSpec.upto logCutsSpec)

/-- 'confluencelaw12.LogMatches', WHERE WHAT IT READS IS OF BULK AT MOST 1048576: true; the input reads as it did. -/
def logMatchesUptoRow : OpenClaim := { program := "ytkdpfnaaopimoaa", sum := "1a8234f334a9c03f64b9908da7d8b049b453c8c95afca1012a704293a4c40996", func := "confluence/confluencelaw12.LogMatches", spec := "logMatches", unfollowed := true, recurses := true, apart := false, narrowed := true }
def LogMatchesUptoSaid : Prop := logMatchesUptoRow.holds Try.pinned (OpenSpec.upto logMatchesSpec)

/-- 'confluencelaw12.LogChecks', WHERE WHAT IT READS IS OF BULK AT MOST 1048576: true; the input reads as it did. -/
def logChecksUptoRow : OpenClaim := { program := "ytkdpfnaaopimoaa", sum := "1a8234f334a9c03f64b9908da7d8b049b453c8c95afca1012a704293a4c40996", func := "confluence/confluencelaw12.LogChecks", spec := "logChecks", unfollowed := true, recurses := true, apart := false, narrowed := true }
def LogChecksUptoSaid : Prop := logChecksUptoRow.holds Try.pinned (OpenSpec.upto logChecksSpec)

/-- 'confluencelaw12.LogJoins', WHERE WHAT IT READS IS OF BULK AT MOST 1048576: true; the input reads as it did. -/
def logJoinsUptoRow : OpenClaim := { program := "ytkdpfnaaopimoaa", sum := "1a8234f334a9c03f64b9908da7d8b049b453c8c95afca1012a704293a4c40996", func := "confluence/confluencelaw12.LogJoins", spec := "logJoins", unfollowed := true, recurses := true, apart := false, narrowed := true }
def LogJoinsUptoSaid : Prop := logJoinsUptoRow.holds Try.pinned (OpenSpec.upto logJoinsSpec)

/-- 'confluencelaw12.LogTells', WHERE WHAT IT READS IS OF BULK AT MOST 1048576: true; the input reads as it did. -/
def logTellsUptoRow : OpenClaim := { program := "ytkdpfnaaopimoaa", sum := "1a8234f334a9c03f64b9908da7d8b049b453c8c95afca1012a704293a4c40996", func := "confluence/confluencelaw12.LogTells", spec := "logTells", unfollowed := true, recurses := true, apart := false, narrowed := true }
def LogTellsUptoSaid : Prop := logTellsUptoRow.holds Try.pinned (OpenSpec.upto logTellsSpec)

end Rows
end Go.Proofs.Ytkdpfnaaopimoaa
