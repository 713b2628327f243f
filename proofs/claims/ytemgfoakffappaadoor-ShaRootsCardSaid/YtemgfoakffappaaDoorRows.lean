/-
  NARROWER THAN 'FOR EVERY INPUT', by the rows' own cells (each row's printed sentence says how): ShaBlocks: laid · ShaTexts: laid · ShaBack: laid · ShaOrder: laid · ShaDigests: laid · ShaRoots: laid · ShaFolds: laid.
  DERIVED. THE GIVEN ROWS OF THIS SEAT. 7 by the template 'for every input the law returns true; each argument reads behind the call as it read before'; 0 by the template 'total and deterministic' (their statements: YtemgfoakffappaaDoorTotals.lean).
  GIVEN WITH THE SEED: the statements are not yours to turn. If you find one false, say at which input.
  Laid BY PROGRAM, IN A SANDBOX (cutbox-rows.mjs): the forced cells as the released guide's own fill.sh prints them over the translation 73da3b9b57a7a4a5… (all of the seat's roots in one cut). By AI agents, Wed Nov 11 2026. No macro, syntax, notation, axiom, sorry.
-/
import Derived.Test.YtemgfoakffappaaDoorChecked
import GoSem.Claim
import GoSem.ClaimJoined
import GoSem.ClaimMapViews
import Derived.JoinedTies
import Derived.KernelRfl
namespace Go.Proofs.YtemgfoakffappaaDoor
/- THE CELL 'sum', in the pinned program and in every row, IS THE sha256 OF THE DUMP (.gsa) THAT YtemgfoakffappaaDoorProg.lean LOADS. Nothing in Lean hashes anything: it is a label: what it is worth is what the hold of that sum in a sandbox is worth. -/
noncomputable def Tryd.pinned : Pinned := { name := "ytemgfoakffappaadoor", sum := "73da3b9b57a7a4a552e70aed643da13bd762fcbb6ef70989d1dc099f89b5d041", checked := Tryd.checked }
namespace Rows
def none {H : Type} : Left H := { results := [], args := [] }

/- WHAT THE LISTED PACKAGE-LEVEL VARIABLES READ AS WHEN THE CALL BEGINS. Each datum BY PROGRAM (the guide's laid-datum.mjs) off the statement by which the dump's own 'gosem.cut.vars' lays the variable. In a bare row this is a premise. The card (YtemgfoakffappaaDoorCards.lean) ties it to the program's text. -/
def laid_confluence_sha_roots {H : Type} : DataW H := .agg [.lit (.int .u32 1116352408), .lit (.int .u32 1899447441), .lit (.int .u32 3049323471), .lit (.int .u32 3921009573), .lit (.int .u32 961987163), .lit (.int .u32 1508970993), .lit (.int .u32 2453635748), .lit (.int .u32 2870763221), .lit (.int .u32 3624381080), .lit (.int .u32 310598401), .lit (.int .u32 607225278), .lit (.int .u32 1426881987), .lit (.int .u32 1925078388), .lit (.int .u32 2162078206), .lit (.int .u32 2614888103), .lit (.int .u32 3248222580), .lit (.int .u32 3835390401), .lit (.int .u32 4022224774), .lit (.int .u32 264347078), .lit (.int .u32 604807628), .lit (.int .u32 770255983), .lit (.int .u32 1249150122), .lit (.int .u32 1555081692), .lit (.int .u32 1996064986), .lit (.int .u32 2554220882), .lit (.int .u32 2821834349), .lit (.int .u32 2952996808), .lit (.int .u32 3210313671), .lit (.int .u32 3336571891), .lit (.int .u32 3584528711), .lit (.int .u32 113926993), .lit (.int .u32 338241895), .lit (.int .u32 666307205), .lit (.int .u32 773529912), .lit (.int .u32 1294757372), .lit (.int .u32 1396182291), .lit (.int .u32 1695183700), .lit (.int .u32 1986661051), .lit (.int .u32 2177026350), .lit (.int .u32 2456956037), .lit (.int .u32 2730485921), .lit (.int .u32 2820302411), .lit (.int .u32 3259730800), .lit (.int .u32 3345764771), .lit (.int .u32 3516065817), .lit (.int .u32 3600352804), .lit (.int .u32 4094571909), .lit (.int .u32 275423344), .lit (.int .u32 430227734), .lit (.int .u32 506948616), .lit (.int .u32 659060556), .lit (.int .u32 883997877), .lit (.int .u32 958139571), .lit (.int .u32 1322822218), .lit (.int .u32 1537002063), .lit (.int .u32 1747873779), .lit (.int .u32 1955562222), .lit (.int .u32 2024104815), .lit (.int .u32 2227730452), .lit (.int .u32 2361852424), .lit (.int .u32 2428436474), .lit (.int .u32 2756734187), .lit (.int .u32 3204031479), .lit (.int .u32 3329325298)]

/-- 'confluencelaw03.ShaBlocks': WHATEVER THE INPUT: true; the input reads as it did. -/
def shaBlocksSpec : ChangeSpec := { name := "shaBlocks", fn := fun _ => fun
  | [d1, d2] => { results := [.lit (.bool true)], args := [d1, d2] }
  | _ => none }
def shaBlocksRow : OpenClaim := { program := "ytemgfoakffappaadoor", sum := "73da3b9b57a7a4a552e70aed643da13bd762fcbb6ef70989d1dc099f89b5d041", func := "confluence/confluencelaw03.ShaBlocks", spec := "shaBlocks", unfollowed := true, recurses := true, named := ["confluence/sha.roots"], apart := false, laid := [("confluence/sha.roots", laid_confluence_sha_roots)] }
def ShaBlocksSaid : Prop := shaBlocksRow.holds Tryd.pinned (OpenSpec.ofChange shaBlocksSpec)

/-- ITS FALSE NEIGHBOUR: 'it returns false'. Refute it at one input. -/
def shaBlocksWrong : ChangeSpec := { name := "shaBlocks", fn := fun _ => fun
  | [d1, d2] => { results := [.lit (.bool false)], args := [d1, d2] }
  | _ => none }
def ShaBlocksWrongFalsely : Prop := shaBlocksRow.holds Tryd.pinned (OpenSpec.ofChange shaBlocksWrong)

/-- 'confluencelaw03.ShaTexts': WHATEVER THE INPUT: true; the input reads as it did. -/
def shaTextsSpec : ChangeSpec := { name := "shaTexts", fn := fun _ => fun
  | [d1, d2] => { results := [.lit (.bool true)], args := [d1, d2] }
  | _ => none }
def shaTextsRow : OpenClaim := { program := "ytemgfoakffappaadoor", sum := "73da3b9b57a7a4a552e70aed643da13bd762fcbb6ef70989d1dc099f89b5d041", func := "confluence/confluencelaw03.ShaTexts", spec := "shaTexts", unfollowed := true, recurses := true, named := ["confluence/sha.roots"], apart := false, laid := [("confluence/sha.roots", laid_confluence_sha_roots)] }
def ShaTextsSaid : Prop := shaTextsRow.holds Tryd.pinned (OpenSpec.ofChange shaTextsSpec)

/-- ITS FALSE NEIGHBOUR: 'it returns false'. Refute it at one input. -/
def shaTextsWrong : ChangeSpec := { name := "shaTexts", fn := fun _ => fun
  | [d1, d2] => { results := [.lit (.bool false)], args := [d1, d2] }
  | _ => none }
def ShaTextsWrongFalsely : Prop := shaTextsRow.holds Tryd.pinned (OpenSpec.ofChange shaTextsWrong)

/-- 'confluencelaw03.ShaBack': WHATEVER THE INPUT: true; the input reads as it did. -/
def shaBackSpec : ChangeSpec := { name := "shaBack", fn := fun _ => fun
  | [d1, d2] => { results := [.lit (.bool true)], args := [d1, d2] }
  | _ => none }
def shaBackRow : OpenClaim := { program := "ytemgfoakffappaadoor", sum := "73da3b9b57a7a4a552e70aed643da13bd762fcbb6ef70989d1dc099f89b5d041", func := "confluence/confluencelaw03.ShaBack", spec := "shaBack", unfollowed := true, recurses := true, named := ["confluence/sha.roots"], apart := false, laid := [("confluence/sha.roots", laid_confluence_sha_roots)] }
def ShaBackSaid : Prop := shaBackRow.holds Tryd.pinned (OpenSpec.ofChange shaBackSpec)

/-- ITS FALSE NEIGHBOUR: 'it returns false'. Refute it at one input. -/
def shaBackWrong : ChangeSpec := { name := "shaBack", fn := fun _ => fun
  | [d1, d2] => { results := [.lit (.bool false)], args := [d1, d2] }
  | _ => none }
def ShaBackWrongFalsely : Prop := shaBackRow.holds Tryd.pinned (OpenSpec.ofChange shaBackWrong)

/-- 'confluencelaw03.ShaOrder': WHATEVER THE INPUT: true; the input reads as it did. -/
def shaOrderSpec : ChangeSpec := { name := "shaOrder", fn := fun _ => fun
  | [d1, d2, d3] => { results := [.lit (.bool true)], args := [d1, d2, d3] }
  | _ => none }
def shaOrderRow : OpenClaim := { program := "ytemgfoakffappaadoor", sum := "73da3b9b57a7a4a552e70aed643da13bd762fcbb6ef70989d1dc099f89b5d041", func := "confluence/confluencelaw03.ShaOrder", spec := "shaOrder", unfollowed := true, recurses := true, named := ["confluence/sha.roots"], apart := false, laid := [("confluence/sha.roots", laid_confluence_sha_roots)] }
def ShaOrderSaid : Prop := shaOrderRow.holds Tryd.pinned (OpenSpec.ofChange shaOrderSpec)

/-- ITS FALSE NEIGHBOUR: 'it returns false'. Refute it at one input. -/
def shaOrderWrong : ChangeSpec := { name := "shaOrder", fn := fun _ => fun
  | [d1, d2, d3] => { results := [.lit (.bool false)], args := [d1, d2, d3] }
  | _ => none }
def ShaOrderWrongFalsely : Prop := shaOrderRow.holds Tryd.pinned (OpenSpec.ofChange shaOrderWrong)

/-- 'confluencelaw03.ShaDigests': WHATEVER THE INPUT: true; the input reads as it did. -/
def shaDigestsSpec : ChangeSpec := { name := "shaDigests", fn := fun _ => fun
  | [d] => { results := [.lit (.bool true)], args := [d] }
  | _ => none }
def shaDigestsRow : OpenClaim := { program := "ytemgfoakffappaadoor", sum := "73da3b9b57a7a4a552e70aed643da13bd762fcbb6ef70989d1dc099f89b5d041", func := "confluence/confluencelaw03.ShaDigests", spec := "shaDigests", unfollowed := true, recurses := true, named := ["confluence/sha.roots"], apart := false, laid := [("confluence/sha.roots", laid_confluence_sha_roots)] }
def ShaDigestsSaid : Prop := shaDigestsRow.holds Tryd.pinned (OpenSpec.ofChange shaDigestsSpec)

/-- ITS FALSE NEIGHBOUR: 'it returns false'. Refute it at one input. -/
def shaDigestsWrong : ChangeSpec := { name := "shaDigests", fn := fun _ => fun
  | [d] => { results := [.lit (.bool false)], args := [d] }
  | _ => none }
def ShaDigestsWrongFalsely : Prop := shaDigestsRow.holds Tryd.pinned (OpenSpec.ofChange shaDigestsWrong)

/-- 'confluencelaw03.ShaRoots': WHATEVER THE INPUT: true; the input reads as it did. -/
def shaRootsSpec : ChangeSpec := { name := "shaRoots", fn := fun _ => fun
  | [d] => { results := [.lit (.bool true)], args := [d] }
  | _ => none }
def shaRootsRow : OpenClaim := { program := "ytemgfoakffappaadoor", sum := "73da3b9b57a7a4a552e70aed643da13bd762fcbb6ef70989d1dc099f89b5d041", func := "confluence/confluencelaw03.ShaRoots", spec := "shaRoots", unfollowed := true, recurses := true, named := ["confluence/sha.roots"], apart := false, laid := [("confluence/sha.roots", laid_confluence_sha_roots)] }
def ShaRootsSaid : Prop := shaRootsRow.holds Tryd.pinned (OpenSpec.ofChange shaRootsSpec)

/-- ITS FALSE NEIGHBOUR: 'it returns false'. Refute it at one input. -/
def shaRootsWrong : ChangeSpec := { name := "shaRoots", fn := fun _ => fun
  | [d] => { results := [.lit (.bool false)], args := [d] }
  | _ => none }
def ShaRootsWrongFalsely : Prop := shaRootsRow.holds Tryd.pinned (OpenSpec.ofChange shaRootsWrong)

/-- 'confluencelaw03.ShaFolds': WHATEVER THE INPUT: true; the input reads as it did. -/
def shaFoldsSpec : ChangeSpec := { name := "shaFolds", fn := fun _ => fun
  | [d] => { results := [.lit (.bool true)], args := [d] }
  | _ => none }
def shaFoldsRow : OpenClaim := { program := "ytemgfoakffappaadoor", sum := "73da3b9b57a7a4a552e70aed643da13bd762fcbb6ef70989d1dc099f89b5d041", func := "confluence/confluencelaw03.ShaFolds", spec := "shaFolds", unfollowed := true, recurses := true, named := ["confluence/sha.roots"], apart := false, laid := [("confluence/sha.roots", laid_confluence_sha_roots)] }
def ShaFoldsSaid : Prop := shaFoldsRow.holds Tryd.pinned (OpenSpec.ofChange shaFoldsSpec)

/-- ITS FALSE NEIGHBOUR: 'it returns false'. Refute it at one input. -/
def shaFoldsWrong : ChangeSpec := { name := "shaFolds", fn := fun _ => fun
  | [d] => { results := [.lit (.bool false)], args := [d] }
  | _ => none }
def ShaFoldsWrongFalsely : Prop := shaFoldsRow.holds Tryd.pinned (OpenSpec.ofChange shaFoldsWrong)

/- THE SECOND FORM. 'bulk': how many values and letters a reading holds, each counted each time it is reached (what is shared counts as often as it is met; a slice's spare places count too). A statement '..UptoSaid' is the law's where the arguments, and the package variables that the reading takes, are together of bulk at most 1048576: NARROWER than '..Said'. Prove '..Said' where nothing that the law and all that it calls make is longer than what came in: it says more and counts as full. Else prove '..UptoSaid'. A law counts once. -/
mutual
def uptoBulk {H : Type} : DataW H → Nat
  | .lit (.string bytes) => bytes.length + 1
  | .lit _ => 1
  | .nil => 1
  | .ptr d => uptoBulk d + 1
  | .slice elems spare => uptoBulkAll elems + uptoBulkAll spare + 1
  | .agg parts => uptoBulkAll parts + 1
  | .iface _ d => uptoBulk d + 1
  | .map entries => uptoBulkEntries entries + 1
  | .held _ => 1
def uptoBulkAll {H : Type} : List (DataW H) → Nat
  | [] => 0
  | d :: r => uptoBulk d + uptoBulkAll r
def uptoBulkEntries {H : Type} : List (Lit × DataW H) → Nat
  | [] => 0
  | x :: r => uptoBulkEntry x + uptoBulkEntries r
def uptoBulkEntry {H : Type} : Lit × DataW H → Nat
  | (.string bytes, d) => bytes.length + uptoBulk d + 1
  | (_, d) => uptoBulk d + 1
 end
def uptoSmall : (H : Type) → List (DataW H) → Bool := fun _ ds => decide (uptoBulkAll ds ≤ 1048576)
def OpenSpec.upto (s : _root_.Go.ChangeSpec) : _root_.Go.OpenSpec := { _root_.Go.OpenSpec.ofChange s with cond := some uptoSmall }

/-- 'confluencelaw03.ShaBlocks', WHERE WHAT IT READS IS OF BULK AT MOST 1048576: true; the input reads as it did. -/
def shaBlocksUptoRow : OpenClaim := { program := "ytemgfoakffappaadoor", sum := "73da3b9b57a7a4a552e70aed643da13bd762fcbb6ef70989d1dc099f89b5d041", func := "confluence/confluencelaw03.ShaBlocks", spec := "shaBlocks", unfollowed := true, recurses := true, named := ["confluence/sha.roots"], apart := false, laid := [("confluence/sha.roots", laid_confluence_sha_roots)], narrowed := true }
def ShaBlocksUptoSaid : Prop := shaBlocksUptoRow.holds Tryd.pinned (OpenSpec.upto shaBlocksSpec)

/-- 'confluencelaw03.ShaTexts', WHERE WHAT IT READS IS OF BULK AT MOST 1048576: true; the input reads as it did. -/
def shaTextsUptoRow : OpenClaim := { program := "ytemgfoakffappaadoor", sum := "73da3b9b57a7a4a552e70aed643da13bd762fcbb6ef70989d1dc099f89b5d041", func := "confluence/confluencelaw03.ShaTexts", spec := "shaTexts", unfollowed := true, recurses := true, named := ["confluence/sha.roots"], apart := false, laid := [("confluence/sha.roots", laid_confluence_sha_roots)], narrowed := true }
def ShaTextsUptoSaid : Prop := shaTextsUptoRow.holds Tryd.pinned (OpenSpec.upto shaTextsSpec)

/-- 'confluencelaw03.ShaBack', WHERE WHAT IT READS IS OF BULK AT MOST 1048576: true; the input reads as it did. -/
def shaBackUptoRow : OpenClaim := { program := "ytemgfoakffappaadoor", sum := "73da3b9b57a7a4a552e70aed643da13bd762fcbb6ef70989d1dc099f89b5d041", func := "confluence/confluencelaw03.ShaBack", spec := "shaBack", unfollowed := true, recurses := true, named := ["confluence/sha.roots"], apart := false, laid := [("confluence/sha.roots", laid_confluence_sha_roots)], narrowed := true }
def ShaBackUptoSaid : Prop := shaBackUptoRow.holds Tryd.pinned (OpenSpec.upto shaBackSpec)

/-- 'confluencelaw03.ShaOrder', WHERE WHAT IT READS IS OF BULK AT MOST 1048576: true; the input reads as it did. -/
def shaOrderUptoRow : OpenClaim := { program := "ytemgfoakffappaadoor", sum := "73da3b9b57a7a4a552e70aed643da13bd762fcbb6ef70989d1dc099f89b5d041", func := "confluence/confluencelaw03.ShaOrder", spec := "shaOrder", unfollowed := true, recurses := true, named := ["confluence/sha.roots"], apart := false, laid := [("confluence/sha.roots", laid_confluence_sha_roots)], narrowed := true }
def ShaOrderUptoSaid : Prop := shaOrderUptoRow.holds Tryd.pinned (OpenSpec.upto shaOrderSpec)

/-- 'confluencelaw03.ShaDigests', WHERE WHAT IT READS IS OF BULK AT MOST 1048576: true; the input reads as it did. -/
def shaDigestsUptoRow : OpenClaim := { program := "ytemgfoakffappaadoor", sum := "73da3b9b57a7a4a552e70aed643da13bd762fcbb6ef70989d1dc099f89b5d041", func := "confluence/confluencelaw03.ShaDigests", spec := "shaDigests", unfollowed := true, recurses := true, named := ["confluence/sha.roots"], apart := false, laid := [("confluence/sha.roots", laid_confluence_sha_roots)], narrowed := true }
def ShaDigestsUptoSaid : Prop := shaDigestsUptoRow.holds Tryd.pinned (OpenSpec.upto shaDigestsSpec)

/-- 'confluencelaw03.ShaRoots', WHERE WHAT IT READS IS OF BULK AT MOST 1048576: true; the input reads as it did. -/
def shaRootsUptoRow : OpenClaim := { program := "ytemgfoakffappaadoor", sum := "73da3b9b57a7a4a552e70aed643da13bd762fcbb6ef70989d1dc099f89b5d041", func := "confluence/confluencelaw03.ShaRoots", spec := "shaRoots", unfollowed := true, recurses := true, named := ["confluence/sha.roots"], apart := false, laid := [("confluence/sha.roots", laid_confluence_sha_roots)], narrowed := true }
def ShaRootsUptoSaid : Prop := shaRootsUptoRow.holds Tryd.pinned (OpenSpec.upto shaRootsSpec)

/-- 'confluencelaw03.ShaFolds', WHERE WHAT IT READS IS OF BULK AT MOST 1048576: true; the input reads as it did. -/
def shaFoldsUptoRow : OpenClaim := { program := "ytemgfoakffappaadoor", sum := "73da3b9b57a7a4a552e70aed643da13bd762fcbb6ef70989d1dc099f89b5d041", func := "confluence/confluencelaw03.ShaFolds", spec := "shaFolds", unfollowed := true, recurses := true, named := ["confluence/sha.roots"], apart := false, laid := [("confluence/sha.roots", laid_confluence_sha_roots)], narrowed := true }
def ShaFoldsUptoSaid : Prop := shaFoldsUptoRow.holds Tryd.pinned (OpenSpec.upto shaFoldsSpec)

end Rows
end Go.Proofs.YtemgfoakffappaaDoor
