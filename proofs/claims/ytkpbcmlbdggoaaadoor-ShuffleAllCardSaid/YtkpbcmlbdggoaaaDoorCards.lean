/-
  DERIVED. GIVEN WITH THE SEED: THE CARDS: each row of YtkpbcmlbdggoaaaDoorRows.lean that lists a variable, with what it lists TIED to the program's text (the seventh form; the later family's looks); each row that meets fmt, with fmt's text TOLD by the authors' own Lean function (tested against real Go, not proved from fmt's source: count such statements apart). THE CARD IS WHAT COUNTS. Prove the row's statement (the work); the ties are given (YtkpbcmlbdggoaaaDoorTie.lean); close each card by the builder's one call (the guide's Derived/Test/ToyasCard.lean, 'card_holds'). Laid BY PROGRAM, IN A SANDBOX (cutbox-door.mjs). By AI agents, Wed Nov 11 2026. No macro, syntax, notation, axiom, sorry.
-/
import Derived.Test.YtkpbcmlbdggoaaaDoorRows
import GoSem.ClaimSeven
namespace Go.Proofs.YtkpbcmlbdggoaaaDoor
namespace Rows

/-- THE TIED CARD OF 'mootbelllaw09.ShuffleTells'. -/
def shuffleTellsCard : Claim7 := { stood := { row := shuffleTellsRow, standIns := [], harness := (true, "ad9f1004cedb4bc7c2371e68acc3085cc2cad7a500822f0522e11316d8754be0"), looks := false }, kinds := [], alts := [], laidByText := true, laidKinds := [.data], laidTests := true, laidLooks := .later }
def ShuffleTellsCardSaid : Prop := Claim7.holds Tryd.pinned (.plain (OpenSpec.ofChange shuffleTellsSpec)) shuffleTellsCard

/-- THE TIED CARD OF 'mootbelllaw09.ShuffleRound'. -/
def shuffleRoundCard : Claim7 := { stood := { row := shuffleRoundRow, standIns := [], harness := (true, "ad9f1004cedb4bc7c2371e68acc3085cc2cad7a500822f0522e11316d8754be0"), looks := false }, kinds := [], alts := [], laidByText := true, laidKinds := [.data], laidTests := true, laidLooks := .later }
def ShuffleRoundCardSaid : Prop := Claim7.holds Tryd.pinned (.plain (OpenSpec.ofChange shuffleRoundSpec)) shuffleRoundCard

/-- THE TIED CARD OF 'mootbelllaw09.ShuffleBack'. -/
def shuffleBackCard : Claim7 := { stood := { row := shuffleBackRow, standIns := [], harness := (true, "ad9f1004cedb4bc7c2371e68acc3085cc2cad7a500822f0522e11316d8754be0"), looks := false }, kinds := [], alts := [], laidByText := true, laidKinds := [.data], laidTests := true, laidLooks := .later }
def ShuffleBackCardSaid : Prop := Claim7.holds Tryd.pinned (.plain (OpenSpec.ofChange shuffleBackSpec)) shuffleBackCard

/-- THE TIED CARD OF 'mootbelllaw09.ShuffleAll'. -/
def shuffleAllCard : Claim7 := { stood := { row := shuffleAllRow, standIns := [], harness := (true, "ad9f1004cedb4bc7c2371e68acc3085cc2cad7a500822f0522e11316d8754be0"), looks := false }, kinds := [], alts := [], laidByText := true, laidKinds := [.data], laidTests := true, laidLooks := .later }
def ShuffleAllCardSaid : Prop := Claim7.holds Tryd.pinned (.plain (OpenSpec.ofChange shuffleAllSpec)) shuffleAllCard

/-- THE TIED CARD OF 'mootbelllaw09.ShuffleNext'. -/
def shuffleNextCard : Claim7 := { stood := { row := shuffleNextRow, standIns := [], harness := (true, "ad9f1004cedb4bc7c2371e68acc3085cc2cad7a500822f0522e11316d8754be0"), looks := false }, kinds := [], alts := [], laidByText := true, laidKinds := [.data], laidTests := true, laidLooks := .later }
def ShuffleNextCardSaid : Prop := Claim7.holds Tryd.pinned (.plain (OpenSpec.ofChange shuffleNextSpec)) shuffleNextCard

/-- THE SECOND FORM's CARD OF 'mootbelllaw09.ShuffleTells'. -/
def shuffleTellsUptoCard : Claim7 := { stood := { row := shuffleTellsUptoRow, standIns := [], harness := (true, "ad9f1004cedb4bc7c2371e68acc3085cc2cad7a500822f0522e11316d8754be0"), looks := false }, kinds := [], alts := [], laidByText := true, laidKinds := [.data], laidTests := true, laidLooks := .later }
def ShuffleTellsUptoCardSaid : Prop := Claim7.holds Tryd.pinned (.plain (OpenSpec.upto shuffleTellsSpec)) shuffleTellsUptoCard

/-- THE SECOND FORM's CARD OF 'mootbelllaw09.ShuffleRound'. -/
def shuffleRoundUptoCard : Claim7 := { stood := { row := shuffleRoundUptoRow, standIns := [], harness := (true, "ad9f1004cedb4bc7c2371e68acc3085cc2cad7a500822f0522e11316d8754be0"), looks := false }, kinds := [], alts := [], laidByText := true, laidKinds := [.data], laidTests := true, laidLooks := .later }
def ShuffleRoundUptoCardSaid : Prop := Claim7.holds Tryd.pinned (.plain (OpenSpec.upto shuffleRoundSpec)) shuffleRoundUptoCard

/-- THE SECOND FORM's CARD OF 'mootbelllaw09.ShuffleBack'. -/
def shuffleBackUptoCard : Claim7 := { stood := { row := shuffleBackUptoRow, standIns := [], harness := (true, "ad9f1004cedb4bc7c2371e68acc3085cc2cad7a500822f0522e11316d8754be0"), looks := false }, kinds := [], alts := [], laidByText := true, laidKinds := [.data], laidTests := true, laidLooks := .later }
def ShuffleBackUptoCardSaid : Prop := Claim7.holds Tryd.pinned (.plain (OpenSpec.upto shuffleBackSpec)) shuffleBackUptoCard

/-- THE SECOND FORM's CARD OF 'mootbelllaw09.ShuffleAll'. -/
def shuffleAllUptoCard : Claim7 := { stood := { row := shuffleAllUptoRow, standIns := [], harness := (true, "ad9f1004cedb4bc7c2371e68acc3085cc2cad7a500822f0522e11316d8754be0"), looks := false }, kinds := [], alts := [], laidByText := true, laidKinds := [.data], laidTests := true, laidLooks := .later }
def ShuffleAllUptoCardSaid : Prop := Claim7.holds Tryd.pinned (.plain (OpenSpec.upto shuffleAllSpec)) shuffleAllUptoCard

/-- THE SECOND FORM's CARD OF 'mootbelllaw09.ShuffleNext'. -/
def shuffleNextUptoCard : Claim7 := { stood := { row := shuffleNextUptoRow, standIns := [], harness := (true, "ad9f1004cedb4bc7c2371e68acc3085cc2cad7a500822f0522e11316d8754be0"), looks := false }, kinds := [], alts := [], laidByText := true, laidKinds := [.data], laidTests := true, laidLooks := .later }
def ShuffleNextUptoCardSaid : Prop := Claim7.holds Tryd.pinned (.plain (OpenSpec.upto shuffleNextSpec)) shuffleNextUptoCard
end Rows
end Go.Proofs.YtkpbcmlbdggoaaaDoor
