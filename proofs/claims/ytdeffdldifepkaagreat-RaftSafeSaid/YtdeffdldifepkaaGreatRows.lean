/-
  No cell of these rows narrows 'for every input' (looked for: loops, veiled, ifaces, maps, wideKeys, modest, calm, conditions, laid).
  DERIVED. THE GIVEN ROWS OF THIS SEAT. 6 by the template 'for every input the law returns true; each argument reads behind the call as it read before'; 0 by the template 'total and deterministic' (their statements: YtdeffdldifepkaaGreatTotals.lean).
  GIVEN WITH THE SEED: the statements are not yours to turn. If you find one false, say at which input.
  Laid BY PROGRAM, IN A SANDBOX (cutbox-rows.mjs): the forced cells as the released guide's own fill.sh prints them over the translation 0bee408c2d1c210d… (all of the seat's roots in one cut). By AI agents, Wed Nov 11 2026. No macro, syntax, notation, axiom, sorry.
-/
import Derived.Test.YtdeffdldifepkaaGreatChecked
import GoSem.Claim
import GoSem.ClaimJoined
import GoSem.ClaimMapViews
import Derived.JoinedTies
import Derived.KernelRfl
namespace Go.Proofs.YtdeffdldifepkaaGreat
/- THE CELL 'sum', in the pinned program and in every row, IS THE sha256 OF THE DUMP (.gsa) THAT YtdeffdldifepkaaGreatProg.lean LOADS. Nothing in Lean hashes anything: it is a label: what it is worth is what the hold of that sum in a sandbox is worth. -/
noncomputable def Tryz.pinned : Pinned := { name := "ytdeffdldifepkaagreat", sum := "0bee408c2d1c210d24a9dcb260b2ea8c1877311e45aedaee1000a0bca48a00d3", checked := Tryz.checked }
namespace Rows
def none {H : Type} : Left H := { results := [], args := [] }

/-- 'confluencelaw15.RaftSafe': WHATEVER THE INPUT: true; the input reads as it did. -/
def raftSafeSpec : ChangeSpec := { name := "raftSafe", fn := fun _ => fun
  | [d1, d2] => { results := [.lit (.bool true)], args := [d1, d2] }
  | _ => none }
def raftSafeRow : OpenClaim := { program := "ytdeffdldifepkaagreat", sum := "0bee408c2d1c210d24a9dcb260b2ea8c1877311e45aedaee1000a0bca48a00d3", func := "confluence/confluencelaw15.RaftSafe", spec := "raftSafe", inPlace := ["slices.overlaps[int]"], unfollowed := true, recurses := true, apart := false }
def RaftSafeSaid : Prop := raftSafeRow.holds Tryz.pinned (OpenSpec.ofChange raftSafeSpec)

/-- ITS FALSE NEIGHBOUR: 'it returns false'. Refute it at one input. -/
def raftSafeWrong : ChangeSpec := { name := "raftSafe", fn := fun _ => fun
  | [d1, d2] => { results := [.lit (.bool false)], args := [d1, d2] }
  | _ => none }
def RaftSafeWrongFalsely : Prop := raftSafeRow.holds Tryz.pinned (OpenSpec.ofChange raftSafeWrong)

/-- 'confluencelaw15.RaftQuiet': WHATEVER THE INPUT: true; the input reads as it did. -/
def raftQuietSpec : ChangeSpec := { name := "raftQuiet", fn := fun _ => fun
  | [d1, d2, d3] => { results := [.lit (.bool true)], args := [d1, d2, d3] }
  | _ => none }
def raftQuietRow : OpenClaim := { program := "ytdeffdldifepkaagreat", sum := "0bee408c2d1c210d24a9dcb260b2ea8c1877311e45aedaee1000a0bca48a00d3", func := "confluence/confluencelaw15.RaftQuiet", spec := "raftQuiet", inPlace := ["slices.overlaps[int]"], unfollowed := true, recurses := true, apart := false }
def RaftQuietSaid : Prop := raftQuietRow.holds Tryz.pinned (OpenSpec.ofChange raftQuietSpec)

/-- ITS FALSE NEIGHBOUR: 'it returns false'. Refute it at one input. -/
def raftQuietWrong : ChangeSpec := { name := "raftQuiet", fn := fun _ => fun
  | [d1, d2, d3] => { results := [.lit (.bool false)], args := [d1, d2, d3] }
  | _ => none }
def RaftQuietWrongFalsely : Prop := raftQuietRow.holds Tryz.pinned (OpenSpec.ofChange raftQuietWrong)

/-- 'confluencelaw15.RaftStarts': WHATEVER THE INPUT: true; the input reads as it did. -/
def raftStartsSpec : ChangeSpec := { name := "raftStarts", fn := fun _ => fun
  | [d] => { results := [.lit (.bool true)], args := [d] }
  | _ => none }
def raftStartsRow : OpenClaim := { program := "ytdeffdldifepkaagreat", sum := "0bee408c2d1c210d24a9dcb260b2ea8c1877311e45aedaee1000a0bca48a00d3", func := "confluence/confluencelaw15.RaftStarts", spec := "raftStarts", inPlace := ["slices.overlaps[int]"], unfollowed := true, recurses := true, apart := false }
def RaftStartsSaid : Prop := raftStartsRow.holds Tryz.pinned (OpenSpec.ofChange raftStartsSpec)

/-- ITS FALSE NEIGHBOUR: 'it returns false'. Refute it at one input. -/
def raftStartsWrong : ChangeSpec := { name := "raftStarts", fn := fun _ => fun
  | [d] => { results := [.lit (.bool false)], args := [d] }
  | _ => none }
def RaftStartsWrongFalsely : Prop := raftStartsRow.holds Tryz.pinned (OpenSpec.ofChange raftStartsWrong)

/-- 'confluencelaw15.RaftTakes': WHATEVER THE INPUT: true; the input reads as it did. -/
def raftTakesSpec : ChangeSpec := { name := "raftTakes", fn := fun _ => fun
  | [d1, d2] => { results := [.lit (.bool true)], args := [d1, d2] }
  | _ => none }
def raftTakesRow : OpenClaim := { program := "ytdeffdldifepkaagreat", sum := "0bee408c2d1c210d24a9dcb260b2ea8c1877311e45aedaee1000a0bca48a00d3", func := "confluence/confluencelaw15.RaftTakes", spec := "raftTakes", inPlace := ["slices.overlaps[int]"], unfollowed := true, recurses := true, apart := false }
def RaftTakesSaid : Prop := raftTakesRow.holds Tryz.pinned (OpenSpec.ofChange raftTakesSpec)

/-- ITS FALSE NEIGHBOUR: 'it returns false'. Refute it at one input. -/
def raftTakesWrong : ChangeSpec := { name := "raftTakes", fn := fun _ => fun
  | [d1, d2] => { results := [.lit (.bool false)], args := [d1, d2] }
  | _ => none }
def RaftTakesWrongFalsely : Prop := raftTakesRow.holds Tryz.pinned (OpenSpec.ofChange raftTakesWrong)

/-- 'confluencelaw15.RaftMay': WHATEVER THE INPUT: true; the input reads as it did. -/
def raftMaySpec : ChangeSpec := { name := "raftMay", fn := fun _ => fun
  | [d1, d2] => { results := [.lit (.bool true)], args := [d1, d2] }
  | _ => none }
def raftMayRow : OpenClaim := { program := "ytdeffdldifepkaagreat", sum := "0bee408c2d1c210d24a9dcb260b2ea8c1877311e45aedaee1000a0bca48a00d3", func := "confluence/confluencelaw15.RaftMay", spec := "raftMay", inPlace := ["slices.overlaps[int]"], unfollowed := true, recurses := true, apart := false }
def RaftMaySaid : Prop := raftMayRow.holds Tryz.pinned (OpenSpec.ofChange raftMaySpec)

/-- ITS FALSE NEIGHBOUR: 'it returns false'. Refute it at one input. -/
def raftMayWrong : ChangeSpec := { name := "raftMay", fn := fun _ => fun
  | [d1, d2] => { results := [.lit (.bool false)], args := [d1, d2] }
  | _ => none }
def RaftMayWrongFalsely : Prop := raftMayRow.holds Tryz.pinned (OpenSpec.ofChange raftMayWrong)

/-- 'confluencelaw15.RaftProposes': WHATEVER THE INPUT: true; the input reads as it did. -/
def raftProposesSpec : ChangeSpec := { name := "raftProposes", fn := fun _ => fun
  | [d1, d2, d3] => { results := [.lit (.bool true)], args := [d1, d2, d3] }
  | _ => none }
def raftProposesRow : OpenClaim := { program := "ytdeffdldifepkaagreat", sum := "0bee408c2d1c210d24a9dcb260b2ea8c1877311e45aedaee1000a0bca48a00d3", func := "confluence/confluencelaw15.RaftProposes", spec := "raftProposes", inPlace := ["slices.overlaps[int]"], unfollowed := true, recurses := true, apart := false }
def RaftProposesSaid : Prop := raftProposesRow.holds Tryz.pinned (OpenSpec.ofChange raftProposesSpec)

/-- ITS FALSE NEIGHBOUR: 'it returns false'. Refute it at one input. -/
def raftProposesWrong : ChangeSpec := { name := "raftProposes", fn := fun _ => fun
  | [d1, d2, d3] => { results := [.lit (.bool false)], args := [d1, d2, d3] }
  | _ => none }
def RaftProposesWrongFalsely : Prop := raftProposesRow.holds Tryz.pinned (OpenSpec.ofChange raftProposesWrong)

/- THE SECOND FORM. 'bulk': how many values and letters a reading holds, each counted each time it is reached (what is shared counts as often as it is met; a slice's spare places count too). A statement '..UptoSaid' is the law's where the arguments, and the package variables that the reading takes, are together of bulk at most 1048576: NARROWER than '..Said'. Prove '..Said' where nothing that the law and all that it calls make is longer than what came in: it says more and counts as full. Else prove '..UptoSaid'. A law counts once. -/
mutual
def uptoBulk {H : Type} : DataW H → Nat
  | .lit (.string bytes) => bytes.length + 1
  | .lit _ => 1
  | .nil => 1
  | .ptr d => uptoBulk d + 1
  | .slice elems spare => uptoBulkAll elems + uptoBulkAll spare + 1
  | .agg parts => uptoBulkAll parts + 1
  | .iface _ d => uptoBulk d + 1
  | .map entries => uptoBulkEntries entries + 1
  | .held _ => 1
def uptoBulkAll {H : Type} : List (DataW H) → Nat
  | [] => 0
  | d :: r => uptoBulk d + uptoBulkAll r
def uptoBulkEntries {H : Type} : List (Lit × DataW H) → Nat
  | [] => 0
  | x :: r => uptoBulkEntry x + uptoBulkEntries r
def uptoBulkEntry {H : Type} : Lit × DataW H → Nat
  | (.string bytes, d) => bytes.length + uptoBulk d + 1
  | (_, d) => uptoBulk d + 1
 end
def uptoSmall : (H : Type) → List (DataW H) → Bool := fun _ ds => decide (uptoBulkAll ds ≤ 1048576)
def OpenSpec.upto (s : _root_.Go.ChangeSpec) : _root_.Go.OpenSpec := { _root_.Go.OpenSpec.ofChange s with cond := some uptoSmall }

/-- 'confluencelaw15.RaftSafe', WHERE WHAT IT READS IS OF BULK AT MOST 1048576: true; the input reads as it did. -/
def raftSafeUptoRow : OpenClaim := { program := "ytdeffdldifepkaagreat", sum := "0bee408c2d1c210d24a9dcb260b2ea8c1877311e45aedaee1000a0bca48a00d3", func := "confluence/confluencelaw15.RaftSafe", spec := "raftSafe", inPlace := ["slices.overlaps[int]"], unfollowed := true, recurses := true, apart := false, narrowed := true }
def RaftSafeUptoSaid : Prop := raftSafeUptoRow.holds Tryz.pinned (OpenSpec.upto raftSafeSpec)

/-- 'confluencelaw15.RaftQuiet', WHERE WHAT IT READS IS OF BULK AT MOST 1048576: true; the input reads as it did. -/
def raftQuietUptoRow : OpenClaim := { program := "ytdeffdldifepkaagreat", sum := "0bee408c2d1c210d24a9dcb260b2ea8c1877311e45aedaee1000a0bca48a00d3", func := "confluence/confluencelaw15.RaftQuiet", spec := "raftQuiet", inPlace := ["slices.overlaps[int]"], unfollowed := true, recurses := true, apart := false, narrowed := true }
def RaftQuietUptoSaid : Prop := raftQuietUptoRow.holds Tryz.pinned (OpenSpec.upto raftQuietSpec)

/-- 'confluencelaw15.RaftStarts', WHERE WHAT IT READS IS OF BULK AT MOST 1048576: true; the input reads as it did. -/
def raftStartsUptoRow : OpenClaim := { program := "ytdeffdldifepkaagreat", sum := "0bee408c2d1c210d24a9dcb260b2ea8c1877311e45aedaee1000a0bca48a00d3", func := "confluence/confluencelaw15.RaftStarts", spec := "raftStarts", inPlace := ["slices.overlaps[int]"], unfollowed := true, recurses := true, apart := false, narrowed := true }
def RaftStartsUptoSaid : Prop := raftStartsUptoRow.holds Tryz.pinned (OpenSpec.upto raftStartsSpec)

/-- 'confluencelaw15.RaftTakes', WHERE WHAT IT READS IS OF BULK AT MOST 1048576: true; the input reads as it did. -/
def raftTakesUptoRow : OpenClaim := { program := "ytdeffdldifepkaagreat", sum := "0bee408c2d1c210d24a9dcb260b2ea8c1877311e45aedaee1000a0bca48a00d3", func := "confluence/confluencelaw15.RaftTakes", spec := "raftTakes", inPlace := ["slices.overlaps[int]"], unfollowed := true, recurses := true, apart := false, narrowed := true }
def RaftTakesUptoSaid : Prop := raftTakesUptoRow.holds Tryz.pinned (OpenSpec.upto raftTakesSpec)

/-- 'confluencelaw15.RaftMay', WHERE WHAT IT READS IS OF BULK AT MOST 1048576: true; the input reads as it did. -/
def raftMayUptoRow : OpenClaim := { program := "ytdeffdldifepkaagreat", sum := "0bee408c2d1c210d24a9dcb260b2ea8c1877311e45aedaee1000a0bca48a00d3", func := "confluence/confluencelaw15.RaftMay", spec := "raftMay", inPlace := ["slices.overlaps[int]"], unfollowed := true, recurses := true, apart := false, narrowed := true }
def RaftMayUptoSaid : Prop := raftMayUptoRow.holds Tryz.pinned (OpenSpec.upto raftMaySpec)

/-- 'confluencelaw15.RaftProposes', WHERE WHAT IT READS IS OF BULK AT MOST 1048576: true; the input reads as it did. -/
def raftProposesUptoRow : OpenClaim := { program := "ytdeffdldifepkaagreat", sum := "0bee408c2d1c210d24a9dcb260b2ea8c1877311e45aedaee1000a0bca48a00d3", func := "confluence/confluencelaw15.RaftProposes", spec := "raftProposes", inPlace := ["slices.overlaps[int]"], unfollowed := true, recurses := true, apart := false, narrowed := true }
def RaftProposesUptoSaid : Prop := raftProposesUptoRow.holds Tryz.pinned (OpenSpec.upto raftProposesSpec)

end Rows
end Go.Proofs.YtdeffdldifepkaaGreat
