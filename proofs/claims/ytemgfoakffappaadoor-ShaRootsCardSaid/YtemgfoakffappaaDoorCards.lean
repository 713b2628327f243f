/-
  DERIVED. GIVEN WITH THE SEED: THE CARDS: each row of YtemgfoakffappaaDoorRows.lean that lists a variable, with what it lists TIED to the program's text (the seventh form; the later family's looks); each row that meets fmt, with fmt's text TOLD by the authors' own Lean function (tested against real Go, not proved from fmt's source: count such statements apart). THE CARD IS WHAT COUNTS. Prove the row's statement (the work); the ties are given (YtemgfoakffappaaDoorTie.lean); close each card by the builder's one call (the guide's Derived/Test/ToyasCard.lean, 'card_holds'). Laid BY PROGRAM, IN A SANDBOX (cutbox-door.mjs). By AI agents, Wed Nov 11 2026. No macro, syntax, notation, axiom, sorry.
-/
import Derived.Test.YtemgfoakffappaaDoorRows
import GoSem.ClaimSeven
namespace Go.Proofs.YtemgfoakffappaaDoor
namespace Rows

/-- THE TIED CARD OF 'confluencelaw03.ShaBlocks'. -/
def shaBlocksCard : Claim7 := { stood := { row := shaBlocksRow, standIns := [], harness := (true, "78cbd4771aa1dff829916d8673dc8a51d1e0d9b8f93673c3d9e1ec8a75fb90e7"), looks := false }, kinds := [], alts := [], laidByText := true, laidKinds := [.data], laidTests := true, laidLooks := .later }
def ShaBlocksCardSaid : Prop := Claim7.holds Tryd.pinned (.plain (OpenSpec.ofChange shaBlocksSpec)) shaBlocksCard

/-- THE TIED CARD OF 'confluencelaw03.ShaTexts'. -/
def shaTextsCard : Claim7 := { stood := { row := shaTextsRow, standIns := [], harness := (true, "78cbd4771aa1dff829916d8673dc8a51d1e0d9b8f93673c3d9e1ec8a75fb90e7"), looks := false }, kinds := [], alts := [], laidByText := true, laidKinds := [.data], laidTests := true, laidLooks := .later }
def ShaTextsCardSaid : Prop := Claim7.holds Tryd.pinned (.plain (OpenSpec.ofChange shaTextsSpec)) shaTextsCard

/-- THE TIED CARD OF 'confluencelaw03.ShaBack'. -/
def shaBackCard : Claim7 := { stood := { row := shaBackRow, standIns := [], harness := (true, "78cbd4771aa1dff829916d8673dc8a51d1e0d9b8f93673c3d9e1ec8a75fb90e7"), looks := false }, kinds := [], alts := [], laidByText := true, laidKinds := [.data], laidTests := true, laidLooks := .later }
def ShaBackCardSaid : Prop := Claim7.holds Tryd.pinned (.plain (OpenSpec.ofChange shaBackSpec)) shaBackCard

/-- THE TIED CARD OF 'confluencelaw03.ShaOrder'. -/
def shaOrderCard : Claim7 := { stood := { row := shaOrderRow, standIns := [], harness := (true, "78cbd4771aa1dff829916d8673dc8a51d1e0d9b8f93673c3d9e1ec8a75fb90e7"), looks := false }, kinds := [], alts := [], laidByText := true, laidKinds := [.data], laidTests := true, laidLooks := .later }
def ShaOrderCardSaid : Prop := Claim7.holds Tryd.pinned (.plain (OpenSpec.ofChange shaOrderSpec)) shaOrderCard

/-- THE TIED CARD OF 'confluencelaw03.ShaDigests'. -/
def shaDigestsCard : Claim7 := { stood := { row := shaDigestsRow, standIns := [], harness := (true, "78cbd4771aa1dff829916d8673dc8a51d1e0d9b8f93673c3d9e1ec8a75fb90e7"), looks := false }, kinds := [], alts := [], laidByText := true, laidKinds := [.data], laidTests := true, laidLooks := .later }
def ShaDigestsCardSaid : Prop := Claim7.holds Tryd.pinned (.plain (OpenSpec.ofChange shaDigestsSpec)) shaDigestsCard

/-- THE TIED CARD OF 'confluencelaw03.ShaRoots'. -/
def shaRootsCard : Claim7 := { stood := { row := shaRootsRow, standIns := [], harness := (true, "78cbd4771aa1dff829916d8673dc8a51d1e0d9b8f93673c3d9e1ec8a75fb90e7"), looks := false }, kinds := [], alts := [], laidByText := true, laidKinds := [.data], laidTests := true, laidLooks := .later }
def ShaRootsCardSaid : Prop := Claim7.holds Tryd.pinned (.plain (OpenSpec.ofChange shaRootsSpec)) shaRootsCard

/-- THE TIED CARD OF 'confluencelaw03.ShaFolds'. -/
def shaFoldsCard : Claim7 := { stood := { row := shaFoldsRow, standIns := [], harness := (true, "78cbd4771aa1dff829916d8673dc8a51d1e0d9b8f93673c3d9e1ec8a75fb90e7"), looks := false }, kinds := [], alts := [], laidByText := true, laidKinds := [.data], laidTests := true, laidLooks := .later }
def ShaFoldsCardSaid : Prop := Claim7.holds Tryd.pinned (.plain (OpenSpec.ofChange shaFoldsSpec)) shaFoldsCard

/-- THE SECOND FORM's CARD OF 'confluencelaw03.ShaBlocks'. -/
def shaBlocksUptoCard : Claim7 := { stood := { row := shaBlocksUptoRow, standIns := [], harness := (true, "78cbd4771aa1dff829916d8673dc8a51d1e0d9b8f93673c3d9e1ec8a75fb90e7"), looks := false }, kinds := [], alts := [], laidByText := true, laidKinds := [.data], laidTests := true, laidLooks := .later }
def ShaBlocksUptoCardSaid : Prop := Claim7.holds Tryd.pinned (.plain (OpenSpec.upto shaBlocksSpec)) shaBlocksUptoCard

/-- THE SECOND FORM's CARD OF 'confluencelaw03.ShaTexts'. -/
def shaTextsUptoCard : Claim7 := { stood := { row := shaTextsUptoRow, standIns := [], harness := (true, "78cbd4771aa1dff829916d8673dc8a51d1e0d9b8f93673c3d9e1ec8a75fb90e7"), looks := false }, kinds := [], alts := [], laidByText := true, laidKinds := [.data], laidTests := true, laidLooks := .later }
def ShaTextsUptoCardSaid : Prop := Claim7.holds Tryd.pinned (.plain (OpenSpec.upto shaTextsSpec)) shaTextsUptoCard

/-- THE SECOND FORM's CARD OF 'confluencelaw03.ShaBack'. -/
def shaBackUptoCard : Claim7 := { stood := { row := shaBackUptoRow, standIns := [], harness := (true, "78cbd4771aa1dff829916d8673dc8a51d1e0d9b8f93673c3d9e1ec8a75fb90e7"), looks := false }, kinds := [], alts := [], laidByText := true, laidKinds := [.data], laidTests := true, laidLooks := .later }
def ShaBackUptoCardSaid : Prop := Claim7.holds Tryd.pinned (.plain (OpenSpec.upto shaBackSpec)) shaBackUptoCard

/-- THE SECOND FORM's CARD OF 'confluencelaw03.ShaOrder'. -/
def shaOrderUptoCard : Claim7 := { stood := { row := shaOrderUptoRow, standIns := [], harness := (true, "78cbd4771aa1dff829916d8673dc8a51d1e0d9b8f93673c3d9e1ec8a75fb90e7"), looks := false }, kinds := [], alts := [], laidByText := true, laidKinds := [.data], laidTests := true, laidLooks := .later }
def ShaOrderUptoCardSaid : Prop := Claim7.holds Tryd.pinned (.plain (OpenSpec.upto shaOrderSpec)) shaOrderUptoCard

/-- THE SECOND FORM's CARD OF 'confluencelaw03.ShaDigests'. -/
def shaDigestsUptoCard : Claim7 := { stood := { row := shaDigestsUptoRow, standIns := [], harness := (true, "78cbd4771aa1dff829916d8673dc8a51d1e0d9b8f93673c3d9e1ec8a75fb90e7"), looks := false }, kinds := [], alts := [], laidByText := true, laidKinds := [.data], laidTests := true, laidLooks := .later }
def ShaDigestsUptoCardSaid : Prop := Claim7.holds Tryd.pinned (.plain (OpenSpec.upto shaDigestsSpec)) shaDigestsUptoCard

/-- THE SECOND FORM's CARD OF 'confluencelaw03.ShaRoots'. -/
def shaRootsUptoCard : Claim7 := { stood := { row := shaRootsUptoRow, standIns := [], harness := (true, "78cbd4771aa1dff829916d8673dc8a51d1e0d9b8f93673c3d9e1ec8a75fb90e7"), looks := false }, kinds := [], alts := [], laidByText := true, laidKinds := [.data], laidTests := true, laidLooks := .later }
def ShaRootsUptoCardSaid : Prop := Claim7.holds Tryd.pinned (.plain (OpenSpec.upto shaRootsSpec)) shaRootsUptoCard

/-- THE SECOND FORM's CARD OF 'confluencelaw03.ShaFolds'. -/
def shaFoldsUptoCard : Claim7 := { stood := { row := shaFoldsUptoRow, standIns := [], harness := (true, "78cbd4771aa1dff829916d8673dc8a51d1e0d9b8f93673c3d9e1ec8a75fb90e7"), looks := false }, kinds := [], alts := [], laidByText := true, laidKinds := [.data], laidTests := true, laidLooks := .later }
def ShaFoldsUptoCardSaid : Prop := Claim7.holds Tryd.pinned (.plain (OpenSpec.upto shaFoldsSpec)) shaFoldsUptoCard
end Rows
end Go.Proofs.YtemgfoakffappaaDoor
