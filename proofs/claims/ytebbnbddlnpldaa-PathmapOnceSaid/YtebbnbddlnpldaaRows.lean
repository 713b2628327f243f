/-
  No cell of these rows narrows 'for every input' (looked for: loops, veiled, ifaces, maps, wideKeys, modest, calm, conditions, laid).
  DERIVED. THE GIVEN ROWS OF THIS SEAT. 6 by the template 'for every input the law returns true; each argument reads behind the call as it read before'; 0 by the template 'total and deterministic' (their statements: YtebbnbddlnpldaaTotals.lean).
  GIVEN WITH THE SEED: the statements are not yours to turn. If you find one false, say at which input.
  Laid BY PROGRAM, IN A SANDBOX (cutbox-rows.mjs): the forced cells as the released guide's own fill.sh prints them over the translation be2306e4e5b76728… (all of the seat's roots in one cut). By AI agents, Wed Nov 11 2026. No macro, syntax, notation, axiom, sorry.
-/
import Derived.Test.YtebbnbddlnpldaaChecked
import GoSem.Claim
import GoSem.ClaimJoined
import GoSem.ClaimMapViews
import Derived.JoinedTies
import Derived.KernelRfl
namespace Go.Proofs.Ytebbnbddlnpldaa
/- THE CELL 'sum', in the pinned program and in every row, IS THE sha256 OF THE DUMP (.gsa) THAT YtebbnbddlnpldaaProg.lean LOADS. Nothing in Lean hashes anything: it is a label: what it is worth is what the hold of that sum in a sandbox is worth. -/
noncomputable def Try.pinned : Pinned := { name := "ytebbnbddlnpldaa", sum := "be2306e4e5b76728a1481cd2b389e593d90e564f29e46c37822d7d298b014757", checked := Try.checked }
namespace Rows
def none {H : Type} : Left H := { results := [], args := [] }

/-- 'confluencelaw05.PathmapApplies': WHATEVER THE INPUT: true; the input reads as it did. -/
def pathmapAppliesSpec : ChangeSpec := { name := "pathmapApplies", fn := fun _ => fun
  | [d1, d2] => { results := [.lit (.bool true)], args := [d1, d2] }
  | _ => none }
def pathmapAppliesRow : OpenClaim := { program := "ytebbnbddlnpldaa", sum := "be2306e4e5b76728a1481cd2b389e593d90e564f29e46c37822d7d298b014757", func := "confluence/confluencelaw05.PathmapApplies", spec := "pathmapApplies", inPlace := ["slices.overlaps[confluence/api.Row]"], unfollowed := true, recurses := true, apart := false }
def PathmapAppliesSaid : Prop := pathmapAppliesRow.holds Try.pinned (OpenSpec.ofChange pathmapAppliesSpec)

/-- ITS FALSE NEIGHBOUR: 'it returns false'. Refute it at one input. -/
def pathmapAppliesWrong : ChangeSpec := { name := "pathmapApplies", fn := fun _ => fun
  | [d1, d2] => { results := [.lit (.bool false)], args := [d1, d2] }
  | _ => none }
def PathmapAppliesWrongFalsely : Prop := pathmapAppliesRow.holds Try.pinned (OpenSpec.ofChange pathmapAppliesWrong)

/-- 'confluencelaw05.PathmapChecks': WHATEVER THE INPUT: true; the input reads as it did. -/
def pathmapChecksSpec : ChangeSpec := { name := "pathmapChecks", fn := fun _ => fun
  | [d1, d2, d3] => { results := [.lit (.bool true)], args := [d1, d2, d3] }
  | _ => none }
def pathmapChecksRow : OpenClaim := { program := "ytebbnbddlnpldaa", sum := "be2306e4e5b76728a1481cd2b389e593d90e564f29e46c37822d7d298b014757", func := "confluence/confluencelaw05.PathmapChecks", spec := "pathmapChecks", inPlace := ["slices.overlaps[confluence/api.Row]"], unfollowed := true, recurses := true, apart := false }
def PathmapChecksSaid : Prop := pathmapChecksRow.holds Try.pinned (OpenSpec.ofChange pathmapChecksSpec)

/-- ITS FALSE NEIGHBOUR: 'it returns false'. Refute it at one input. -/
def pathmapChecksWrong : ChangeSpec := { name := "pathmapChecks", fn := fun _ => fun
  | [d1, d2, d3] => { results := [.lit (.bool false)], args := [d1, d2, d3] }
  | _ => none }
def PathmapChecksWrongFalsely : Prop := pathmapChecksRow.holds Try.pinned (OpenSpec.ofChange pathmapChecksWrong)

/-- 'confluencelaw05.PathmapDiffs': WHATEVER THE INPUT: true; the input reads as it did. -/
def pathmapDiffsSpec : ChangeSpec := { name := "pathmapDiffs", fn := fun _ => fun
  | [d1, d2] => { results := [.lit (.bool true)], args := [d1, d2] }
  | _ => none }
def pathmapDiffsRow : OpenClaim := { program := "ytebbnbddlnpldaa", sum := "be2306e4e5b76728a1481cd2b389e593d90e564f29e46c37822d7d298b014757", func := "confluence/confluencelaw05.PathmapDiffs", spec := "pathmapDiffs", inPlace := ["slices.overlaps[confluence/api.Row]"], unfollowed := true, recurses := true, apart := false }
def PathmapDiffsSaid : Prop := pathmapDiffsRow.holds Try.pinned (OpenSpec.ofChange pathmapDiffsSpec)

/-- ITS FALSE NEIGHBOUR: 'it returns false'. Refute it at one input. -/
def pathmapDiffsWrong : ChangeSpec := { name := "pathmapDiffs", fn := fun _ => fun
  | [d1, d2] => { results := [.lit (.bool false)], args := [d1, d2] }
  | _ => none }
def PathmapDiffsWrongFalsely : Prop := pathmapDiffsRow.holds Try.pinned (OpenSpec.ofChange pathmapDiffsWrong)

/-- 'confluencelaw05.PathmapLeads': WHATEVER THE INPUT: true; the input reads as it did. -/
def pathmapLeadsSpec : ChangeSpec := { name := "pathmapLeads", fn := fun _ => fun
  | [d1, d2] => { results := [.lit (.bool true)], args := [d1, d2] }
  | _ => none }
def pathmapLeadsRow : OpenClaim := { program := "ytebbnbddlnpldaa", sum := "be2306e4e5b76728a1481cd2b389e593d90e564f29e46c37822d7d298b014757", func := "confluence/confluencelaw05.PathmapLeads", spec := "pathmapLeads", inPlace := ["slices.overlaps[confluence/api.Row]"], unfollowed := true, recurses := true, apart := false }
def PathmapLeadsSaid : Prop := pathmapLeadsRow.holds Try.pinned (OpenSpec.ofChange pathmapLeadsSpec)

/-- ITS FALSE NEIGHBOUR: 'it returns false'. Refute it at one input. -/
def pathmapLeadsWrong : ChangeSpec := { name := "pathmapLeads", fn := fun _ => fun
  | [d1, d2] => { results := [.lit (.bool false)], args := [d1, d2] }
  | _ => none }
def PathmapLeadsWrongFalsely : Prop := pathmapLeadsRow.holds Try.pinned (OpenSpec.ofChange pathmapLeadsWrong)

/-- 'confluencelaw05.PathmapGets': WHATEVER THE INPUT: true; the input reads as it did. -/
def pathmapGetsSpec : ChangeSpec := { name := "pathmapGets", fn := fun _ => fun
  | [d1, d2, d3] => { results := [.lit (.bool true)], args := [d1, d2, d3] }
  | _ => none }
def pathmapGetsRow : OpenClaim := { program := "ytebbnbddlnpldaa", sum := "be2306e4e5b76728a1481cd2b389e593d90e564f29e46c37822d7d298b014757", func := "confluence/confluencelaw05.PathmapGets", spec := "pathmapGets", inPlace := ["slices.overlaps[confluence/api.Row]"], unfollowed := true, recurses := true, apart := false }
def PathmapGetsSaid : Prop := pathmapGetsRow.holds Try.pinned (OpenSpec.ofChange pathmapGetsSpec)

/-- ITS FALSE NEIGHBOUR: 'it returns false'. Refute it at one input. -/
def pathmapGetsWrong : ChangeSpec := { name := "pathmapGets", fn := fun _ => fun
  | [d1, d2, d3] => { results := [.lit (.bool false)], args := [d1, d2, d3] }
  | _ => none }
def PathmapGetsWrongFalsely : Prop := pathmapGetsRow.holds Try.pinned (OpenSpec.ofChange pathmapGetsWrong)

/-- 'confluencelaw05.PathmapOnce': WHATEVER THE INPUT: true; the input reads as it did. -/
def pathmapOnceSpec : ChangeSpec := { name := "pathmapOnce", fn := fun _ => fun
  | [d1, d2] => { results := [.lit (.bool true)], args := [d1, d2] }
  | _ => none }
def pathmapOnceRow : OpenClaim := { program := "ytebbnbddlnpldaa", sum := "be2306e4e5b76728a1481cd2b389e593d90e564f29e46c37822d7d298b014757", func := "confluence/confluencelaw05.PathmapOnce", spec := "pathmapOnce", inPlace := ["slices.overlaps[confluence/api.Row]"], unfollowed := true, recurses := true, apart := false }
def PathmapOnceSaid : Prop := pathmapOnceRow.holds Try.pinned (OpenSpec.ofChange pathmapOnceSpec)

/-- ITS FALSE NEIGHBOUR: 'it returns false'. Refute it at one input. -/
def pathmapOnceWrong : ChangeSpec := { name := "pathmapOnce", fn := fun _ => fun
  | [d1, d2] => { results := [.lit (.bool false)], args := [d1, d2] }
  | _ => none }
def PathmapOnceWrongFalsely : Prop := pathmapOnceRow.holds Try.pinned (OpenSpec.ofChange pathmapOnceWrong)

/- THE SECOND FORM. 'bulk': how many values and letters a reading holds, each counted each time it is reached (what is shared counts as often as it is met; a slice's spare places count too). A statement '..UptoSaid' is the law's where the arguments, and the package variables that the reading takes, are together of bulk at most 1048576: NARROWER than '..Said'. Prove '..Said' where nothing that the law and all that it calls make is longer than what came in: it says more and counts as full. Else prove '..UptoSaid'. A law counts once. -/
mutual
def uptoBulk {H : Type} : DataW H → Nat
  | .lit (.string bytes) => bytes.length + 1
  | .lit _ => 1
  | .nil => 1
  | .ptr d => uptoBulk d + 1
  | .slice elems spare => uptoBulkAll elems + uptoBulkAll spare + 1
  | .agg parts => uptoBulkAll parts + 1
  | .iface _ d => uptoBulk d + 1
  | .map entries => uptoBulkEntries entries + 1
  | .held _ => 1
def uptoBulkAll {H : Type} : List (DataW H) → Nat
  | [] => 0
  | d :: r => uptoBulk d + uptoBulkAll r
def uptoBulkEntries {H : Type} : List (Lit × DataW H) → Nat
  | [] => 0
  | x :: r => uptoBulkEntry x + uptoBulkEntries r
def uptoBulkEntry {H : Type} : Lit × DataW H → Nat
  | (.string bytes, d) => bytes.length + uptoBulk d + 1
  | (_, d) => uptoBulk d + 1
 end
def uptoSmall : (H : Type) → List (DataW H) → Bool := fun _ ds => decide (uptoBulkAll ds ≤ 1048576)
def OpenSpec.upto (s : _root_.Go.ChangeSpec) : _root_.Go.OpenSpec := { _root_.Go.OpenSpec.ofChange s with cond := some uptoSmall }

/-- 'confluencelaw05.PathmapApplies', WHERE WHAT IT READS IS OF BULK AT MOST 1048576: true; the input reads as it did. -/
def pathmapAppliesUptoRow : OpenClaim := { program := "ytebbnbddlnpldaa", sum := "be2306e4e5b76728a1481cd2b389e593d90e564f29e46c37822d7d298b014757", func := "confluence/confluencelaw05.PathmapApplies", spec := "pathmapApplies", inPlace := ["slices.overlaps[confluence/api.Row]"], unfollowed := true, recurses := true, apart := false, narrowed := true }
def PathmapAppliesUptoSaid : Prop := pathmapAppliesUptoRow.holds Try.pinned (OpenSpec.upto pathmapAppliesSpec)

/-- 'confluencelaw05.PathmapChecks', WHERE WHAT IT READS IS OF BULK AT MOST 1048576: true; the input reads as it did. -/
def pathmapChecksUptoRow : OpenClaim := { program := "ytebbnbddlnpldaa", sum := "be2306e4e5b76728a1481cd2b389e593d90e564f29e46c37822d7d298b014757", func := "confluence/confluencelaw05.PathmapChecks", spec := "pathmapChecks", inPlace := ["slices.overlaps[confluence/api.Row]"], unfollowed := true, recurses := true, apart := false, narrowed := true }
def PathmapChecksUptoSaid : Prop := pathmapChecksUptoRow.holds Try.pinned (OpenSpec.upto pathmapChecksSpec)

/-- 'confluencelaw05.PathmapDiffs', WHERE WHAT IT READS IS OF BULK AT MOST 1048576: true; the input reads as it did. -/
def pathmapDiffsUptoRow : OpenClaim := { program := "ytebbnbddlnpldaa", sum := "be2306e4e5b76728a1481cd2b389e593d90e564f29e46c37822d7d298b014757", func := "confluence/confluencelaw05.PathmapDiffs", spec := "pathmapDiffs", inPlace := ["slices.overlaps[confluence/api.Row]"], unfollowed := true, recurses := true, apart := false, narrowed := true }
def PathmapDiffsUptoSaid : Prop := pathmapDiffsUptoRow.holds Try.pinned (OpenSpec.upto pathmapDiffsSpec)

/-- 'confluencelaw05.PathmapLeads', WHERE WHAT IT READS IS OF BULK AT MOST 1048576: true; the input reads as it did. -/
def pathmapLeadsUptoRow : OpenClaim := { program := "ytebbnbddlnpldaa", sum := "be2306e4e5b76728a1481cd2b389e593d90e564f29e46c37822d7d298b014757", func := "confluence/confluencelaw05.PathmapLeads", spec := "pathmapLeads", inPlace := ["slices.overlaps[confluence/api.Row]"], unfollowed := true, recurses := true, apart := false, narrowed := true }
def PathmapLeadsUptoSaid : Prop := pathmapLeadsUptoRow.holds Try.pinned (OpenSpec.upto pathmapLeadsSpec)

/-- 'confluencelaw05.PathmapGets', WHERE WHAT IT READS IS OF BULK AT MOST 1048576: true; the input reads as it did. -/
def pathmapGetsUptoRow : OpenClaim := { program := "ytebbnbddlnpldaa", sum := "be2306e4e5b76728a1481cd2b389e593d90e564f29e46c37822d7d298b014757", func := "confluence/confluencelaw05.PathmapGets", spec := "pathmapGets", inPlace := ["slices.overlaps[confluence/api.Row]"], unfollowed := true, recurses := true, apart := false, narrowed := true }
def PathmapGetsUptoSaid : Prop := pathmapGetsUptoRow.holds Try.pinned (OpenSpec.upto pathmapGetsSpec)

/-- 'confluencelaw05.PathmapOnce', WHERE WHAT IT READS IS OF BULK AT MOST 1048576: true; the input reads as it did. -/
def pathmapOnceUptoRow : OpenClaim := { program := "ytebbnbddlnpldaa", sum := "be2306e4e5b76728a1481cd2b389e593d90e564f29e46c37822d7d298b014757", func := "confluence/confluencelaw05.PathmapOnce", spec := "pathmapOnce", inPlace := ["slices.overlaps[confluence/api.Row]"], unfollowed := true, recurses := true, apart := false, narrowed := true }
def PathmapOnceUptoSaid : Prop := pathmapOnceUptoRow.holds Try.pinned (OpenSpec.upto pathmapOnceSpec)

end Rows
end Go.Proofs.Ytebbnbddlnpldaa
