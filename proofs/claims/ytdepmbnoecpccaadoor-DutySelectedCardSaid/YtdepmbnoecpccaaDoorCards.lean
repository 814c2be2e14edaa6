/-
  DERIVED. GIVEN WITH THE SEED: THE CARDS: each row of YtdepmbnoecpccaaDoorRows.lean that lists a variable, with what it lists TIED to the program's text (the seventh form; the later family's looks); each row that meets fmt, with fmt's text TOLD by the authors' own Lean function (tested against real Go, not proved from fmt's source: count such statements apart). THE CARD IS WHAT COUNTS. Prove the row's statement (the work); the ties are given (YtdepmbnoecpccaaDoorTie.lean); close each card by the builder's one call (the guide's Derived/Test/ToyasCard.lean, 'card_holds'). Laid BY PROGRAM, IN A SANDBOX (cutbox-door.mjs). By AI agents, Wed Nov 11 2026. No macro, syntax, notation, axiom, sorry.
-/
import Derived.Test.YtdepmbnoecpccaaDoorRows
import GoSem.ClaimSeven
namespace Go.Proofs.YtdepmbnoecpccaaDoor
namespace Rows

/-- THE TIED CARD OF 'mootbelllaw10.DutyTells'. -/
def dutyTellsCard : Claim7 := { stood := { row := dutyTellsRow, standIns := [], harness := (true, "2c5e98a607cbcae62023d210d94be34bd3150b76f193fa61f209550e3e68dd04"), looks := false }, kinds := [], alts := [], laidByText := true, laidKinds := [.data, .data], laidTests := true, laidLooks := .later }
def DutyTellsCardSaid : Prop := Claim7.holds Tryd.pinned (.plain (OpenSpec.ofChange dutyTellsSpec)) dutyTellsCard

/-- THE TIED CARD OF 'mootbelllaw10.DutyWhere'. -/
def dutyWhereCard : Claim7 := { stood := { row := dutyWhereRow, standIns := [], harness := (true, "2c5e98a607cbcae62023d210d94be34bd3150b76f193fa61f209550e3e68dd04"), looks := false }, kinds := [], alts := [], laidByText := true, laidKinds := [.data, .data], laidTests := true, laidLooks := .later }
def DutyWhereCardSaid : Prop := Claim7.holds Tryd.pinned (.plain (OpenSpec.ofChange dutyWhereSpec)) dutyWhereCard

/-- THE TIED CARD OF 'mootbelllaw10.DutyParts'. -/
def dutyPartsCard : Claim7 := { stood := { row := dutyPartsRow, standIns := [], harness := (true, "2c5e98a607cbcae62023d210d94be34bd3150b76f193fa61f209550e3e68dd04"), looks := false }, kinds := [], alts := [], laidByText := true, laidKinds := [.data, .data], laidTests := true, laidLooks := .later }
def DutyPartsCardSaid : Prop := Claim7.holds Tryd.pinned (.plain (OpenSpec.ofChange dutyPartsSpec)) dutyPartsCard

/-- THE TIED CARD OF 'mootbelllaw10.DutySubnet'. -/
def dutySubnetCard : Claim7 := { stood := { row := dutySubnetRow, standIns := [], harness := (true, "2c5e98a607cbcae62023d210d94be34bd3150b76f193fa61f209550e3e68dd04"), looks := false }, kinds := [], alts := [], laidByText := true, laidKinds := [.data, .data], laidTests := true, laidLooks := .later }
def DutySubnetCardSaid : Prop := Claim7.holds Tryd.pinned (.plain (OpenSpec.ofChange dutySubnetSpec)) dutySubnetCard

/-- THE TIED CARD OF 'mootbelllaw10.DutySelected'. -/
def dutySelectedCard : Claim7 := { stood := { row := dutySelectedRow, standIns := [], harness := (true, "2c5e98a607cbcae62023d210d94be34bd3150b76f193fa61f209550e3e68dd04"), looks := false }, kinds := [], alts := [], laidByText := true, laidKinds := [.data, .data], laidTests := true, laidLooks := .later }
def DutySelectedCardSaid : Prop := Claim7.holds Tryd.pinned (.plain (OpenSpec.ofChange dutySelectedSpec)) dutySelectedCard

/-- THE TIED CARD OF 'mootbelllaw10.DutyAll'. -/
def dutyAllCard : Claim7 := { stood := { row := dutyAllRow, standIns := [], harness := (true, "2c5e98a607cbcae62023d210d94be34bd3150b76f193fa61f209550e3e68dd04"), looks := false }, kinds := [], alts := [], laidByText := true, laidKinds := [.data, .data], laidTests := true, laidLooks := .later }
def DutyAllCardSaid : Prop := Claim7.holds Tryd.pinned (.plain (OpenSpec.ofChange dutyAllSpec)) dutyAllCard

/-- THE SECOND FORM's CARD OF 'mootbelllaw10.DutyTells'. -/
def dutyTellsUptoCard : Claim7 := { stood := { row := dutyTellsUptoRow, standIns := [], harness := (true, "2c5e98a607cbcae62023d210d94be34bd3150b76f193fa61f209550e3e68dd04"), looks := false }, kinds := [], alts := [], laidByText := true, laidKinds := [.data, .data], laidTests := true, laidLooks := .later }
def DutyTellsUptoCardSaid : Prop := Claim7.holds Tryd.pinned (.plain (OpenSpec.upto dutyTellsSpec)) dutyTellsUptoCard

/-- THE SECOND FORM's CARD OF 'mootbelllaw10.DutyWhere'. -/
def dutyWhereUptoCard : Claim7 := { stood := { row := dutyWhereUptoRow, standIns := [], harness := (true, "2c5e98a607cbcae62023d210d94be34bd3150b76f193fa61f209550e3e68dd04"), looks := false }, kinds := [], alts := [], laidByText := true, laidKinds := [.data, .data], laidTests := true, laidLooks := .later }
def DutyWhereUptoCardSaid : Prop := Claim7.holds Tryd.pinned (.plain (OpenSpec.upto dutyWhereSpec)) dutyWhereUptoCard

/-- THE SECOND FORM's CARD OF 'mootbelllaw10.DutyParts'. -/
def dutyPartsUptoCard : Claim7 := { stood := { row := dutyPartsUptoRow, standIns := [], harness := (true, "2c5e98a607cbcae62023d210d94be34bd3150b76f193fa61f209550e3e68dd04"), looks := false }, kinds := [], alts := [], laidByText := true, laidKinds := [.data, .data], laidTests := true, laidLooks := .later }
def DutyPartsUptoCardSaid : Prop := Claim7.holds Tryd.pinned (.plain (OpenSpec.upto dutyPartsSpec)) dutyPartsUptoCard

/-- THE SECOND FORM's CARD OF 'mootbelllaw10.DutySubnet'. -/
def dutySubnetUptoCard : Claim7 := { stood := { row := dutySubnetUptoRow, standIns := [], harness := (true, "2c5e98a607cbcae62023d210d94be34bd3150b76f193fa61f209550e3e68dd04"), looks := false }, kinds := [], alts := [], laidByText := true, laidKinds := [.data, .data], laidTests := true, laidLooks := .later }
def DutySubnetUptoCardSaid : Prop := Claim7.holds Tryd.pinned (.plain (OpenSpec.upto dutySubnetSpec)) dutySubnetUptoCard

/-- THE SECOND FORM's CARD OF 'mootbelllaw10.DutySelected'. -/
def dutySelectedUptoCard : Claim7 := { stood := { row := dutySelectedUptoRow, standIns := [], harness := (true, "2c5e98a607cbcae62023d210d94be34bd3150b76f193fa61f209550e3e68dd04"), looks := false }, kinds := [], alts := [], laidByText := true, laidKinds := [.data, .data], laidTests := true, laidLooks := .later }
def DutySelectedUptoCardSaid : Prop := Claim7.holds Tryd.pinned (.plain (OpenSpec.upto dutySelectedSpec)) dutySelectedUptoCard

/-- THE SECOND FORM's CARD OF 'mootbelllaw10.DutyAll'. -/
def dutyAllUptoCard : Claim7 := { stood := { row := dutyAllUptoRow, standIns := [], harness := (true, "2c5e98a607cbcae62023d210d94be34bd3150b76f193fa61f209550e3e68dd04"), looks := false }, kinds := [], alts := [], laidByText := true, laidKinds := [.data, .data], laidTests := true, laidLooks := .later }
def DutyAllUptoCardSaid : Prop := Claim7.holds Tryd.pinned (.plain (OpenSpec.upto dutyAllSpec)) dutyAllUptoCard
end Rows
end Go.Proofs.YtdepmbnoecpccaaDoor
