/-
  DERIVED. GIVEN WITH THE SEED: THE CARDS: each row of YtejfjbfkbdcmnaaDoorRows.lean that lists a variable, with what it lists TIED to the program's text (the seventh form; the later family's looks); each row that meets fmt, with fmt's text TOLD by the authors' own Lean function (tested against real Go, not proved from fmt's source: count such statements apart). THE CARD IS WHAT COUNTS. Prove the row's statement (the work); the ties are given (YtejfjbfkbdcmnaaDoorTie.lean); close each card by the builder's one call (the guide's Derived/Test/ToyasCard.lean, 'card_holds'). Laid BY PROGRAM, IN A SANDBOX (cutbox-door.mjs). By AI agents, Wed Nov 11 2026. No macro, syntax, notation, axiom, sorry.
-/
import Derived.Test.YtejfjbfkbdcmnaaDoorRows
import GoSem.ClaimSeven
namespace Go.Proofs.YtejfjbfkbdcmnaaDoor
namespace Rows

/-- THE TIED CARD OF 'mootbelllaw11.SchedTells'. -/
def schedTellsCard : Claim7 := { stood := { row := schedTellsRow, standIns := [], harness := (true, "0ddeac45a7b70d49f8df9f462b7721ed8eafdaa6662d0bdb8e444e0da0cb2087"), looks := false }, kinds := [], alts := [], laidByText := true, laidKinds := [.data, .data], laidTests := true, laidLooks := .later }
def SchedTellsCardSaid : Prop := Claim7.holds Tryd.pinned (.plain (OpenSpec.ofChange schedTellsSpec)) schedTellsCard

/-- THE TIED CARD OF 'mootbelllaw11.SchedStays'. -/
def schedStaysCard : Claim7 := { stood := { row := schedStaysRow, standIns := [], harness := (true, "0ddeac45a7b70d49f8df9f462b7721ed8eafdaa6662d0bdb8e444e0da0cb2087"), looks := false }, kinds := [], alts := [], laidByText := true, laidKinds := [.data, .data], laidTests := true, laidLooks := .later }
def SchedStaysCardSaid : Prop := Claim7.holds Tryd.pinned (.plain (OpenSpec.ofChange schedStaysSpec)) schedStaysCard

/-- THE TIED CARD OF 'mootbelllaw11.SchedMany'. -/
def schedManyCard : Claim7 := { stood := { row := schedManyRow, standIns := [], harness := (true, "0ddeac45a7b70d49f8df9f462b7721ed8eafdaa6662d0bdb8e444e0da0cb2087"), looks := false }, kinds := [], alts := [], laidByText := true, laidKinds := [.data, .data], laidTests := true, laidLooks := .later }
def SchedManyCardSaid : Prop := Claim7.holds Tryd.pinned (.plain (OpenSpec.ofChange schedManySpec)) schedManyCard

/-- THE TIED CARD OF 'mootbelllaw11.SchedRecord'. -/
def schedRecordCard : Claim7 := { stood := { row := schedRecordRow, standIns := [], harness := (true, "0ddeac45a7b70d49f8df9f462b7721ed8eafdaa6662d0bdb8e444e0da0cb2087"), looks := false }, kinds := [], alts := [], laidByText := true, laidKinds := [.data, .data], laidTests := true, laidLooks := .later }
def SchedRecordCardSaid : Prop := Claim7.holds Tryd.pinned (.plain (OpenSpec.ofChange schedRecordSpec)) schedRecordCard

/-- THE TIED CARD OF 'mootbelllaw11.SchedAll'. -/
def schedAllCard : Claim7 := { stood := { row := schedAllRow, standIns := [], harness := (true, "0ddeac45a7b70d49f8df9f462b7721ed8eafdaa6662d0bdb8e444e0da0cb2087"), looks := false }, kinds := [], alts := [], laidByText := true, laidKinds := [.data, .data], laidTests := true, laidLooks := .later }
def SchedAllCardSaid : Prop := Claim7.holds Tryd.pinned (.plain (OpenSpec.ofChange schedAllSpec)) schedAllCard

/-- THE SECOND FORM's CARD OF 'mootbelllaw11.SchedTells'. -/
def schedTellsUptoCard : Claim7 := { stood := { row := schedTellsUptoRow, standIns := [], harness := (true, "0ddeac45a7b70d49f8df9f462b7721ed8eafdaa6662d0bdb8e444e0da0cb2087"), looks := false }, kinds := [], alts := [], laidByText := true, laidKinds := [.data, .data], laidTests := true, laidLooks := .later }
def SchedTellsUptoCardSaid : Prop := Claim7.holds Tryd.pinned (.plain (OpenSpec.upto schedTellsSpec)) schedTellsUptoCard

/-- THE SECOND FORM's CARD OF 'mootbelllaw11.SchedStays'. -/
def schedStaysUptoCard : Claim7 := { stood := { row := schedStaysUptoRow, standIns := [], harness := (true, "0ddeac45a7b70d49f8df9f462b7721ed8eafdaa6662d0bdb8e444e0da0cb2087"), looks := false }, kinds := [], alts := [], laidByText := true, laidKinds := [.data, .data], laidTests := true, laidLooks := .later }
def SchedStaysUptoCardSaid : Prop := Claim7.holds Tryd.pinned (.plain (OpenSpec.upto schedStaysSpec)) schedStaysUptoCard

/-- THE SECOND FORM's CARD OF 'mootbelllaw11.SchedMany'. -/
def schedManyUptoCard : Claim7 := { stood := { row := schedManyUptoRow, standIns := [], harness := (true, "0ddeac45a7b70d49f8df9f462b7721ed8eafdaa6662d0bdb8e444e0da0cb2087"), looks := false }, kinds := [], alts := [], laidByText := true, laidKinds := [.data, .data], laidTests := true, laidLooks := .later }
def SchedManyUptoCardSaid : Prop := Claim7.holds Tryd.pinned (.plain (OpenSpec.upto schedManySpec)) schedManyUptoCard

/-- THE SECOND FORM's CARD OF 'mootbelllaw11.SchedRecord'. -/
def schedRecordUptoCard : Claim7 := { stood := { row := schedRecordUptoRow, standIns := [], harness := (true, "0ddeac45a7b70d49f8df9f462b7721ed8eafdaa6662d0bdb8e444e0da0cb2087"), looks := false }, kinds := [], alts := [], laidByText := true, laidKinds := [.data, .data], laidTests := true, laidLooks := .later }
def SchedRecordUptoCardSaid : Prop := Claim7.holds Tryd.pinned (.plain (OpenSpec.upto schedRecordSpec)) schedRecordUptoCard

/-- THE SECOND FORM's CARD OF 'mootbelllaw11.SchedAll'. -/
def schedAllUptoCard : Claim7 := { stood := { row := schedAllUptoRow, standIns := [], harness := (true, "0ddeac45a7b70d49f8df9f462b7721ed8eafdaa6662d0bdb8e444e0da0cb2087"), looks := false }, kinds := [], alts := [], laidByText := true, laidKinds := [.data, .data], laidTests := true, laidLooks := .later }
def SchedAllUptoCardSaid : Prop := Claim7.holds Tryd.pinned (.plain (OpenSpec.upto schedAllSpec)) schedAllUptoCard
end Rows
end Go.Proofs.YtejfjbfkbdcmnaaDoor
