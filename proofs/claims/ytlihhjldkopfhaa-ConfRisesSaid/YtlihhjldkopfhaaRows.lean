/-
  No cell of these rows narrows 'for every input' (looked for: loops, veiled, ifaces, maps, wideKeys, modest, calm, conditions, laid).
  DERIVED. THE GIVEN ROWS OF THIS SEAT. 7 by the template 'for every input the law returns true; each argument reads behind the call as it read before'; 0 by the template 'total and deterministic' (their statements: YtlihhjldkopfhaaTotals.lean).
  GIVEN WITH THE SEED: the statements are not yours to turn. If you find one false, say at which input.
  Laid BY PROGRAM, IN A SANDBOX (cutbox-rows.mjs): the forced cells as the released guide's own fill.sh prints them over the translation 649a4622acd4859b… (all of the seat's roots in one cut). By AI agents, Wed Nov 11 2026. No macro, syntax, notation, axiom, sorry.
-/
import Derived.Test.YtlihhjldkopfhaaChecked
import GoSem.Claim
import GoSem.ClaimJoined
import GoSem.ClaimMapViews
import Derived.JoinedTies
import Derived.KernelRfl
namespace Go.Proofs.Ytlihhjldkopfhaa
/- THE CELL 'sum', in the pinned program and in every row, IS THE sha256 OF THE DUMP (.gsa) THAT YtlihhjldkopfhaaProg.lean LOADS. Nothing in Lean hashes anything: it is a label: what it is worth is what the hold of that sum in a sandbox is worth. -/
noncomputable def Try.pinned : Pinned := { name := "ytlihhjldkopfhaa", sum := "649a4622acd4859bec648ced73d3c415b6f6b949d9c30ccf1a72cad77e6b91d1", checked := Try.checked }
namespace Rows
def none {H : Type} : Left H := { results := [], args := [] }

/-- 'confluencelaw14.ConfChanges': WHATEVER THE INPUT: true; the input reads as it did. -/
def confChangesSpec : ChangeSpec := { name := "confChanges", fn := fun _ => fun
  | [d1, d2] => { results := [.lit (.bool true)], args := [d1, d2] }
  | _ => none }
def confChangesRow : OpenClaim := { program := "ytlihhjldkopfhaa", sum := "649a4622acd4859bec648ced73d3c415b6f6b949d9c30ccf1a72cad77e6b91d1", func := "confluence/confluencelaw14.ConfChanges", spec := "confChanges", inPlace := ["slices.overlaps[int]"], unfollowed := true, recurses := true, apart := false }
def ConfChangesSaid : Prop := confChangesRow.holds Try.pinned (OpenSpec.ofChange confChangesSpec)

/-- ITS FALSE NEIGHBOUR: 'it returns false'. Refute it at one input. -/
def confChangesWrong : ChangeSpec := { name := "confChanges", fn := fun _ => fun
  | [d1, d2] => { results := [.lit (.bool false)], args := [d1, d2] }
  | _ => none }
def ConfChangesWrongFalsely : Prop := confChangesRow.holds Try.pinned (OpenSpec.ofChange confChangesWrong)

/-- 'confluencelaw14.ConfBytes': WHATEVER THE INPUT: true; the input reads as it did. -/
def confBytesSpec : ChangeSpec := { name := "confBytes", fn := fun _ => fun
  | [d1, d2] => { results := [.lit (.bool true)], args := [d1, d2] }
  | _ => none }
def confBytesRow : OpenClaim := { program := "ytlihhjldkopfhaa", sum := "649a4622acd4859bec648ced73d3c415b6f6b949d9c30ccf1a72cad77e6b91d1", func := "confluence/confluencelaw14.ConfBytes", spec := "confBytes", inPlace := ["slices.overlaps[int]"], unfollowed := true, recurses := true, apart := false }
def ConfBytesSaid : Prop := confBytesRow.holds Try.pinned (OpenSpec.ofChange confBytesSpec)

/-- ITS FALSE NEIGHBOUR: 'it returns false'. Refute it at one input. -/
def confBytesWrong : ChangeSpec := { name := "confBytes", fn := fun _ => fun
  | [d1, d2] => { results := [.lit (.bool false)], args := [d1, d2] }
  | _ => none }
def ConfBytesWrongFalsely : Prop := confBytesRow.holds Try.pinned (OpenSpec.ofChange confBytesWrong)

/-- 'confluencelaw14.ConfSteps': WHATEVER THE INPUT: true; the input reads as it did. -/
def confStepsSpec : ChangeSpec := { name := "confSteps", fn := fun _ => fun
  | [d] => { results := [.lit (.bool true)], args := [d] }
  | _ => none }
def confStepsRow : OpenClaim := { program := "ytlihhjldkopfhaa", sum := "649a4622acd4859bec648ced73d3c415b6f6b949d9c30ccf1a72cad77e6b91d1", func := "confluence/confluencelaw14.ConfSteps", spec := "confSteps", inPlace := ["slices.overlaps[int]"], unfollowed := true, recurses := true, apart := false }
def ConfStepsSaid : Prop := confStepsRow.holds Try.pinned (OpenSpec.ofChange confStepsSpec)

/-- ITS FALSE NEIGHBOUR: 'it returns false'. Refute it at one input. -/
def confStepsWrong : ChangeSpec := { name := "confSteps", fn := fun _ => fun
  | [d] => { results := [.lit (.bool false)], args := [d] }
  | _ => none }
def ConfStepsWrongFalsely : Prop := confStepsRow.holds Try.pinned (OpenSpec.ofChange confStepsWrong)

/-- 'confluencelaw14.ConfMeets': WHATEVER THE INPUT: true; the input reads as it did. -/
def confMeetsSpec : ChangeSpec := { name := "confMeets", fn := fun _ => fun
  | [d1, d2, d3] => { results := [.lit (.bool true)], args := [d1, d2, d3] }
  | _ => none }
def confMeetsRow : OpenClaim := { program := "ytlihhjldkopfhaa", sum := "649a4622acd4859bec648ced73d3c415b6f6b949d9c30ccf1a72cad77e6b91d1", func := "confluence/confluencelaw14.ConfMeets", spec := "confMeets", inPlace := ["slices.overlaps[int]"], unfollowed := true, recurses := true, apart := false }
def ConfMeetsSaid : Prop := confMeetsRow.holds Try.pinned (OpenSpec.ofChange confMeetsSpec)

/-- ITS FALSE NEIGHBOUR: 'it returns false'. Refute it at one input. -/
def confMeetsWrong : ChangeSpec := { name := "confMeets", fn := fun _ => fun
  | [d1, d2, d3] => { results := [.lit (.bool false)], args := [d1, d2, d3] }
  | _ => none }
def ConfMeetsWrongFalsely : Prop := confMeetsRow.holds Try.pinned (OpenSpec.ofChange confMeetsWrong)

/-- 'confluencelaw14.ConfBack': WHATEVER THE INPUT: true; the input reads as it did. -/
def confBackSpec : ChangeSpec := { name := "confBack", fn := fun _ => fun
  | [d1, d2, d3] => { results := [.lit (.bool true)], args := [d1, d2, d3] }
  | _ => none }
def confBackRow : OpenClaim := { program := "ytlihhjldkopfhaa", sum := "649a4622acd4859bec648ced73d3c415b6f6b949d9c30ccf1a72cad77e6b91d1", func := "confluence/confluencelaw14.ConfBack", spec := "confBack", inPlace := ["slices.overlaps[int]"], unfollowed := true, recurses := true, apart := false }
def ConfBackSaid : Prop := confBackRow.holds Try.pinned (OpenSpec.ofChange confBackSpec)

/-- ITS FALSE NEIGHBOUR: 'it returns false'. Refute it at one input. -/
def confBackWrong : ChangeSpec := { name := "confBack", fn := fun _ => fun
  | [d1, d2, d3] => { results := [.lit (.bool false)], args := [d1, d2, d3] }
  | _ => none }
def ConfBackWrongFalsely : Prop := confBackRow.holds Try.pinned (OpenSpec.ofChange confBackWrong)

/-- 'confluencelaw14.ConfAgrees': WHATEVER THE INPUT: true; the input reads as it did. -/
def confAgreesSpec : ChangeSpec := { name := "confAgrees", fn := fun _ => fun
  | [d1, d2, d3] => { results := [.lit (.bool true)], args := [d1, d2, d3] }
  | _ => none }
def confAgreesRow : OpenClaim := { program := "ytlihhjldkopfhaa", sum := "649a4622acd4859bec648ced73d3c415b6f6b949d9c30ccf1a72cad77e6b91d1", func := "confluence/confluencelaw14.ConfAgrees", spec := "confAgrees", inPlace := ["slices.overlaps[int]"], unfollowed := true, recurses := true, apart := false }
def ConfAgreesSaid : Prop := confAgreesRow.holds Try.pinned (OpenSpec.ofChange confAgreesSpec)

/-- ITS FALSE NEIGHBOUR: 'it returns false'. Refute it at one input. -/
def confAgreesWrong : ChangeSpec := { name := "confAgrees", fn := fun _ => fun
  | [d1, d2, d3] => { results := [.lit (.bool false)], args := [d1, d2, d3] }
  | _ => none }
def ConfAgreesWrongFalsely : Prop := confAgreesRow.holds Try.pinned (OpenSpec.ofChange confAgreesWrong)

/-- 'confluencelaw14.ConfRises': WHATEVER THE INPUT: true; the input reads as it did. -/
def confRisesSpec : ChangeSpec := { name := "confRises", fn := fun _ => fun
  | [d1, d2, d3] => { results := [.lit (.bool true)], args := [d1, d2, d3] }
  | _ => none }
def confRisesRow : OpenClaim := { program := "ytlihhjldkopfhaa", sum := "649a4622acd4859bec648ced73d3c415b6f6b949d9c30ccf1a72cad77e6b91d1", func := "confluence/confluencelaw14.ConfRises", spec := "confRises", inPlace := ["slices.overlaps[int]"], unfollowed := true, recurses := true, apart := false }
def ConfRisesSaid : Prop := confRisesRow.holds Try.pinned (OpenSpec.ofChange confRisesSpec)

/-- ITS FALSE NEIGHBOUR: 'it returns false'. Refute it at one input. -/
def confRisesWrong : ChangeSpec := { name := "confRises", fn := fun _ => fun
  | [d1, d2, d3] => { results := [.lit (.bool false)], args := [d1, d2, d3] }
  | _ => none }
def ConfRisesWrongFalsely : Prop := confRisesRow.holds Try.pinned (OpenSpec.ofChange confRisesWrong)

/- THE SECOND FORM. 'bulk': how many values and letters a reading holds, each counted each time it is reached (what is shared counts as often as it is met; a slice's spare places count too). A statement '..UptoSaid' is the law's where the arguments, and the package variables that the reading takes, are together of bulk at most 1048576: NARROWER than '..Said'. Prove '..Said' where nothing that the law and all that it calls make is longer than what came in: it says more and counts as full. Else prove '..UptoSaid'. A law counts once. -/
mutual
def uptoBulk {H : Type} : DataW H → Nat
  | .lit (.string bytes) => bytes.length + 1
  | .lit _ => 1
  | .nil => 1
  | .ptr d => uptoBulk d + 1
  | .slice elems spare => uptoBulkAll elems + uptoBulkAll spare + 1
  | .agg parts => uptoBulkAll parts + 1
  | .iface _ d => uptoBulk d + 1
  | .map entries => uptoBulkEntries entries + 1
  | .held _ => 1
def uptoBulkAll {H : Type} : List (DataW H) → Nat
  | [] => 0
  | d :: r => uptoBulk d + uptoBulkAll r
def uptoBulkEntries {H : Type} : List (Lit × DataW H) → Nat
  | [] => 0
  | x :: r => uptoBulkEntry x + uptoBulkEntries r
def uptoBulkEntry {H : Type} : Lit × DataW H → Nat
  | (.string bytes, d) => bytes.length + uptoBulk d + 1
  | (_, d) => uptoBulk d + 1
 end
def uptoSmall : (H : Type) → List (DataW H) → Bool := fun _ ds => decide (uptoBulkAll ds ≤ 1048576)
def OpenSpec.upto (s : _root_.Go.ChangeSpec) : _root_.Go.OpenSpec := { _root_.Go.OpenSpec.ofChange s with cond := some uptoSmall }

/-- 'confluencelaw14.ConfChanges', WHERE WHAT IT READS IS OF BULK AT MOST 1048576: true; the input reads as it did. -/
def confChangesUptoRow : OpenClaim := { program := "ytlihhjldkopfhaa", sum := "649a4622acd4859bec648ced73d3c415b6f6b949d9c30ccf1a72cad77e6b91d1", func := "confluence/confluencelaw14.ConfChanges", spec := "confChanges", inPlace := ["slices.overlaps[int]"], unfollowed := true, recurses := true, apart := false, narrowed := true }
def ConfChangesUptoSaid : Prop := confChangesUptoRow.holds Try.pinned (OpenSpec.upto confChangesSpec)

/-- 'confluencelaw14.ConfBytes', WHERE WHAT IT READS IS OF BULK AT MOST 1048576: true; the input reads as it did. -/
def confBytesUptoRow : OpenClaim := { program := "ytlihhjldkopfhaa", sum := "649a4622acd4859bec648ced73d3c415b6f6b949d9c30ccf1a72cad77e6b91d1", func := "confluence/confluencelaw14.ConfBytes", spec := "confBytes", inPlace := ["slices.overlaps[int]"], unfollowed := true, recurses := true, apart := false, narrowed := true }
def ConfBytesUptoSaid : Prop := confBytesUptoRow.holds Try.pinned (OpenSpec.upto confBytesSpec)

/-- 'confluencelaw14.ConfSteps', WHERE WHAT IT READS IS OF BULK AT MOST 1048576: true; the input reads as it did. -/
def confStepsUptoRow : OpenClaim := { program := "ytlihhjldkopfhaa", sum := "649a4622acd4859bec648ced73d3c415b6f6b949d9c30ccf1a72cad77e6b91d1", func := "confluence/confluencelaw14.ConfSteps", spec := "confSteps", inPlace := ["slices.overlaps[int]"], unfollowed := true, recurses := true, apart := false, narrowed := true }
def ConfStepsUptoSaid : Prop := confStepsUptoRow.holds Try.pinned (OpenSpec.upto confStepsSpec)

/-- 'confluencelaw14.ConfMeets', WHERE WHAT IT READS IS OF BULK AT MOST 1048576: true; the input reads as it did. -/
def confMeetsUptoRow : OpenClaim := { program := "ytlihhjldkopfhaa", sum := "649a4622acd4859bec648ced73d3c415b6f6b949d9c30ccf1a72cad77e6b91d1", func := "confluence/confluencelaw14.ConfMeets", spec := "confMeets", inPlace := ["slices.overlaps[int]"], unfollowed := true, recurses := true, apart := false, narrowed := true }
def ConfMeetsUptoSaid : Prop := confMeetsUptoRow.holds Try.pinned (OpenSpec.upto confMeetsSpec)

/-- 'confluencelaw14.ConfBack', WHERE WHAT IT READS IS OF BULK AT MOST 1048576: true; the input reads as it did. -/
def confBackUptoRow : OpenClaim := { program := "ytlihhjldkopfhaa", sum := "649a4622acd4859bec648ced73d3c415b6f6b949d9c30ccf1a72cad77e6b91d1", func := "confluence/confluencelaw14.ConfBack", spec := "confBack", inPlace := ["slices.overlaps[int]"], unfollowed := true, recurses := true, apart := false, narrowed := true }
def ConfBackUptoSaid : Prop := confBackUptoRow.holds Try.pinned (OpenSpec.upto confBackSpec)

/-- 'confluencelaw14.ConfAgrees', WHERE WHAT IT READS IS OF BULK AT MOST 1048576: true; the input reads as it did. -/
def confAgreesUptoRow : OpenClaim := { program := "ytlihhjldkopfhaa", sum := "649a4622acd4859bec648ced73d3c415b6f6b949d9c30ccf1a72cad77e6b91d1", func := "confluence/confluencelaw14.ConfAgrees", spec := "confAgrees", inPlace := ["slices.overlaps[int]"], unfollowed := true, recurses := true, apart := false, narrowed := true }
def ConfAgreesUptoSaid : Prop := confAgreesUptoRow.holds Try.pinned (OpenSpec.upto confAgreesSpec)

/-- 'confluencelaw14.ConfRises', WHERE WHAT IT READS IS OF BULK AT MOST 1048576: true; the input reads as it did. -/
def confRisesUptoRow : OpenClaim := { program := "ytlihhjldkopfhaa", sum := "649a4622acd4859bec648ced73d3c415b6f6b949d9c30ccf1a72cad77e6b91d1", func := "confluence/confluencelaw14.ConfRises", spec := "confRises", inPlace := ["slices.overlaps[int]"], unfollowed := true, recurses := true, apart := false, narrowed := true }
def ConfRisesUptoSaid : Prop := confRisesUptoRow.holds Try.pinned (OpenSpec.upto confRisesSpec)

end Rows
end Go.Proofs.Ytlihhjldkopfhaa
