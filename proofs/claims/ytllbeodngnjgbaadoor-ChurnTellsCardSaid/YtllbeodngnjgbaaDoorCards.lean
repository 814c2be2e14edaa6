/-
  DERIVED. GIVEN WITH THE SEED: THE CARDS: each row of YtllbeodngnjgbaaDoorRows.lean that lists a variable, with what it lists TIED to the program's text (the seventh form; the later family's looks); each row that meets fmt, with fmt's text TOLD by the authors' own Lean function (tested against real Go, not proved from fmt's source: count such statements apart). THE CARD IS WHAT COUNTS. Prove the row's statement (the work); the ties are given (YtllbeodngnjgbaaDoorTie.lean); close each card by the builder's one call (the guide's Derived/Test/ToyasCard.lean, 'card_holds'). Laid BY PROGRAM, IN A SANDBOX (cutbox-door.mjs). By AI agents, Wed Nov 11 2026. No macro, syntax, notation, axiom, sorry.
-/
import Derived.Test.YtllbeodngnjgbaaDoorRows
import GoSem.ClaimSeven
namespace Go.Proofs.YtllbeodngnjgbaaDoor
namespace Rows

/-- THE TIED CARD OF 'mootbelllaw04.ChurnBack'. -/
def churnBackCard : Claim7 := { stood := { row := churnBackRow, standIns := [], harness := (true, "976488144d58316ba6ec561b046aea471bd6b2148e7a467dfe2e449aa2cae7b8"), looks := false }, kinds := [], alts := [], laidByText := true, laidKinds := [.data], laidTests := true, laidLooks := .later }
def ChurnBackCardSaid : Prop := Claim7.holds Tryd.pinned (.plain (OpenSpec.ofChange churnBackSpec)) churnBackCard

/-- THE TIED CARD OF 'mootbelllaw04.ChurnParts'. -/
def churnPartsCard : Claim7 := { stood := { row := churnPartsRow, standIns := [], harness := (true, "976488144d58316ba6ec561b046aea471bd6b2148e7a467dfe2e449aa2cae7b8"), looks := false }, kinds := [], alts := [], laidByText := true, laidKinds := [.data], laidTests := true, laidLooks := .later }
def ChurnPartsCardSaid : Prop := Claim7.holds Tryd.pinned (.plain (OpenSpec.ofChange churnPartsSpec)) churnPartsCard

/-- THE TIED CARD OF 'mootbelllaw04.ChurnOne'. -/
def churnOneCard : Claim7 := { stood := { row := churnOneRow, standIns := [], harness := (true, "976488144d58316ba6ec561b046aea471bd6b2148e7a467dfe2e449aa2cae7b8"), looks := false }, kinds := [], alts := [], laidByText := true, laidKinds := [.data], laidTests := true, laidLooks := .later }
def ChurnOneCardSaid : Prop := Claim7.holds Tryd.pinned (.plain (OpenSpec.ofChange churnOneSpec)) churnOneCard

/-- THE TIED CARD OF 'mootbelllaw04.ChurnTells'. -/
def churnTellsCard : Claim7 := { stood := { row := churnTellsRow, standIns := [], harness := (true, "976488144d58316ba6ec561b046aea471bd6b2148e7a467dfe2e449aa2cae7b8"), looks := false }, kinds := [], alts := [], laidByText := true, laidKinds := [.data], laidTests := true, laidLooks := .later }
def ChurnTellsCardSaid : Prop := Claim7.holds Tryd.pinned (.plain (OpenSpec.ofChange churnTellsSpec)) churnTellsCard

/-- THE TIED CARD OF 'mootbelllaw04.ChurnDraw'. -/
def churnDrawCard : Claim7 := { stood := { row := churnDrawRow, standIns := [], harness := (true, "976488144d58316ba6ec561b046aea471bd6b2148e7a467dfe2e449aa2cae7b8"), looks := false }, kinds := [], alts := [], laidByText := true, laidKinds := [.data], laidTests := true, laidLooks := .later }
def ChurnDrawCardSaid : Prop := Claim7.holds Tryd.pinned (.plain (OpenSpec.ofChange churnDrawSpec)) churnDrawCard

/-- THE SECOND FORM's CARD OF 'mootbelllaw04.ChurnBack'. -/
def churnBackUptoCard : Claim7 := { stood := { row := churnBackUptoRow, standIns := [], harness := (true, "976488144d58316ba6ec561b046aea471bd6b2148e7a467dfe2e449aa2cae7b8"), looks := false }, kinds := [], alts := [], laidByText := true, laidKinds := [.data], laidTests := true, laidLooks := .later }
def ChurnBackUptoCardSaid : Prop := Claim7.holds Tryd.pinned (.plain (OpenSpec.upto churnBackSpec)) churnBackUptoCard

/-- THE SECOND FORM's CARD OF 'mootbelllaw04.ChurnParts'. -/
def churnPartsUptoCard : Claim7 := { stood := { row := churnPartsUptoRow, standIns := [], harness := (true, "976488144d58316ba6ec561b046aea471bd6b2148e7a467dfe2e449aa2cae7b8"), looks := false }, kinds := [], alts := [], laidByText := true, laidKinds := [.data], laidTests := true, laidLooks := .later }
def ChurnPartsUptoCardSaid : Prop := Claim7.holds Tryd.pinned (.plain (OpenSpec.upto churnPartsSpec)) churnPartsUptoCard

/-- THE SECOND FORM's CARD OF 'mootbelllaw04.ChurnOne'. -/
def churnOneUptoCard : Claim7 := { stood := { row := churnOneUptoRow, standIns := [], harness := (true, "976488144d58316ba6ec561b046aea471bd6b2148e7a467dfe2e449aa2cae7b8"), looks := false }, kinds := [], alts := [], laidByText := true, laidKinds := [.data], laidTests := true, laidLooks := .later }
def ChurnOneUptoCardSaid : Prop := Claim7.holds Tryd.pinned (.plain (OpenSpec.upto churnOneSpec)) churnOneUptoCard

/-- THE SECOND FORM's CARD OF 'mootbelllaw04.ChurnTells'. -/
def churnTellsUptoCard : Claim7 := { stood := { row := churnTellsUptoRow, standIns := [], harness := (true, "976488144d58316ba6ec561b046aea471bd6b2148e7a467dfe2e449aa2cae7b8"), looks := false }, kinds := [], alts := [], laidByText := true, laidKinds := [.data], laidTests := true, laidLooks := .later }
def ChurnTellsUptoCardSaid : Prop := Claim7.holds Tryd.pinned (.plain (OpenSpec.upto churnTellsSpec)) churnTellsUptoCard

/-- THE SECOND FORM's CARD OF 'mootbelllaw04.ChurnDraw'. -/
def churnDrawUptoCard : Claim7 := { stood := { row := churnDrawUptoRow, standIns := [], harness := (true, "976488144d58316ba6ec561b046aea471bd6b2148e7a467dfe2e449aa2cae7b8"), looks := false }, kinds := [], alts := [], laidByText := true, laidKinds := [.data], laidTests := true, laidLooks := .later }
def ChurnDrawUptoCardSaid : Prop := Claim7.holds Tryd.pinned (.plain (OpenSpec.upto churnDrawSpec)) churnDrawUptoCard
end Rows
end Go.Proofs.YtllbeodngnjgbaaDoor
