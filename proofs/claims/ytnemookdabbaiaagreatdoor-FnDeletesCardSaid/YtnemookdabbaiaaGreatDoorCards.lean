/-
  DERIVED. GIVEN WITH THE SEED: THE CARDS: each row of YtnemookdabbaiaaGreatDoorRows.lean that lists a variable, with what it lists TIED to the program's text (the seventh form; the later family's looks); each row that meets fmt, with fmt's text TOLD by the authors' own Lean function (tested against real Go, not proved from fmt's source: count such statements apart). THE CARD IS WHAT COUNTS. Prove the row's statement (the work); the ties are given (YtnemookdabbaiaaGreatDoorTie.lean); close each card by the builder's one call (the guide's Derived/Test/ToyasCard.lean, 'card_holds'). Laid BY PROGRAM, IN A SANDBOX (cutbox-door.mjs). By AI agents, Wed Nov 11 2026. No macro, syntax, notation, axiom, sorry.
-/
import Derived.Test.YtnemookdabbaiaaGreatDoorRows
import GoSem.ClaimSeven
namespace Go.Proofs.YtnemookdabbaiaaGreatDoor
namespace Rows

/-- THE TIED CARD OF 'laws.FnCounted'. -/
def fnCountedCard : Claim7 := { stood := { row := fnCountedRow, standIns := [], harness := (true, "3fb557fa729faaca30da29cd43f6cec920fccce7b13d4175707add449f0e3c36"), looks := true }, kinds := [], alts := [], laidByText := true, laidKinds := [.data, .data, .data, .sentinel, .sentinel], laidTests := true, laidLooks := .later }
def FnCountedCardSaid : Prop := Claim7.holds Tryz.pinned (.plain (OpenSpec.ofChange fnCountedSpec)) fnCountedCard

/-- THE TIED CARD OF 'laws.FnDeletes'. -/
def fnDeletesCard : Claim7 := { stood := { row := fnDeletesRow, standIns := [], harness := (true, "3fb557fa729faaca30da29cd43f6cec920fccce7b13d4175707add449f0e3c36"), looks := true }, kinds := [], alts := [], laidByText := true, laidKinds := [.data, .data, .data, .sentinel, .sentinel], laidTests := true, laidLooks := .later }
def FnDeletesCardSaid : Prop := Claim7.holds Tryz.pinned (.plain (OpenSpec.ofChange fnDeletesSpec)) fnDeletesCard

/-- THE TIED CARD OF 'laws.FnExits'. -/
def fnExitsCard : Claim7 := { stood := { row := fnExitsRow, standIns := [], harness := (true, "3fb557fa729faaca30da29cd43f6cec920fccce7b13d4175707add449f0e3c36"), looks := true }, kinds := [], alts := [], laidByText := true, laidKinds := [.data, .data, .data, .sentinel, .sentinel], laidTests := true, laidLooks := .later }
def FnExitsCardSaid : Prop := Claim7.holds Tryz.pinned (.plain (OpenSpec.ofChange fnExitsSpec)) fnExitsCard

/-- THE TIED CARD OF 'laws.FnFactorial'. -/
def fnFactorialCard : Claim7 := { stood := { row := fnFactorialRow, standIns := [], harness := (true, "3fb557fa729faaca30da29cd43f6cec920fccce7b13d4175707add449f0e3c36"), looks := true }, kinds := [], alts := [], laidByText := true, laidKinds := [.data, .data, .data, .sentinel, .sentinel], laidTests := true, laidLooks := .later }
def FnFactorialCardSaid : Prop := Claim7.holds Tryz.pinned (.plain (OpenSpec.ofChange fnFactorialSpec)) fnFactorialCard

/-- THE TIED CARD OF 'laws.FnFaults'. -/
def fnFaultsCard : Claim7 := { stood := { row := fnFaultsRow, standIns := [], harness := (true, "3fb557fa729faaca30da29cd43f6cec920fccce7b13d4175707add449f0e3c36"), looks := true }, kinds := [], alts := [], laidByText := true, laidKinds := [.data, .data, .data, .sentinel, .sentinel], laidTests := true, laidLooks := .later }
def FnFaultsCardSaid : Prop := Claim7.holds Tryz.pinned (.plain (OpenSpec.ofChange fnFaultsSpec)) fnFaultsCard

/-- THE TIED CARD OF 'laws.FnLoops'. -/
def fnLoopsCard : Claim7 := { stood := { row := fnLoopsRow, standIns := [], harness := (true, "3fb557fa729faaca30da29cd43f6cec920fccce7b13d4175707add449f0e3c36"), looks := true }, kinds := [], alts := [], laidByText := true, laidKinds := [.data, .data, .data, .sentinel, .sentinel], laidTests := true, laidLooks := .later }
def FnLoopsCardSaid : Prop := Claim7.holds Tryz.pinned (.plain (OpenSpec.ofChange fnLoopsSpec)) fnLoopsCard

/-- THE TIED CARD OF 'laws.FnParams'. -/
def fnParamsCard : Claim7 := { stood := { row := fnParamsRow, standIns := [], harness := (true, "3fb557fa729faaca30da29cd43f6cec920fccce7b13d4175707add449f0e3c36"), looks := true }, kinds := [], alts := [], laidByText := true, laidKinds := [.data, .data, .data, .sentinel, .sentinel], laidTests := true, laidLooks := .later }
def FnParamsCardSaid : Prop := Claim7.holds Tryz.pinned (.plain (OpenSpec.ofChange fnParamsSpec)) fnParamsCard

/-- THE TIED CARD OF 'laws.FnSummed'. -/
def fnSummedCard : Claim7 := { stood := { row := fnSummedRow, standIns := [], harness := (true, "3fb557fa729faaca30da29cd43f6cec920fccce7b13d4175707add449f0e3c36"), looks := true }, kinds := [], alts := [], laidByText := true, laidKinds := [.data, .data, .data, .sentinel, .sentinel], laidTests := true, laidLooks := .later }
def FnSummedCardSaid : Prop := Claim7.holds Tryz.pinned (.plain (OpenSpec.ofChange fnSummedSpec)) fnSummedCard

/-- THE SECOND FORM's CARD OF 'laws.FnCounted'. -/
def fnCountedUptoCard : Claim7 := { stood := { row := fnCountedUptoRow, standIns := [], harness := (true, "3fb557fa729faaca30da29cd43f6cec920fccce7b13d4175707add449f0e3c36"), looks := true }, kinds := [], alts := [], laidByText := true, laidKinds := [.data, .data, .data, .sentinel, .sentinel], laidTests := true, laidLooks := .later }
def FnCountedUptoCardSaid : Prop := Claim7.holds Tryz.pinned (.plain (OpenSpec.upto fnCountedSpec)) fnCountedUptoCard

/-- THE SECOND FORM's CARD OF 'laws.FnDeletes'. -/
def fnDeletesUptoCard : Claim7 := { stood := { row := fnDeletesUptoRow, standIns := [], harness := (true, "3fb557fa729faaca30da29cd43f6cec920fccce7b13d4175707add449f0e3c36"), looks := true }, kinds := [], alts := [], laidByText := true, laidKinds := [.data, .data, .data, .sentinel, .sentinel], laidTests := true, laidLooks := .later }
def FnDeletesUptoCardSaid : Prop := Claim7.holds Tryz.pinned (.plain (OpenSpec.upto fnDeletesSpec)) fnDeletesUptoCard

/-- THE SECOND FORM's CARD OF 'laws.FnExits'. -/
def fnExitsUptoCard : Claim7 := { stood := { row := fnExitsUptoRow, standIns := [], harness := (true, "3fb557fa729faaca30da29cd43f6cec920fccce7b13d4175707add449f0e3c36"), looks := true }, kinds := [], alts := [], laidByText := true, laidKinds := [.data, .data, .data, .sentinel, .sentinel], laidTests := true, laidLooks := .later }
def FnExitsUptoCardSaid : Prop := Claim7.holds Tryz.pinned (.plain (OpenSpec.upto fnExitsSpec)) fnExitsUptoCard

/-- THE SECOND FORM's CARD OF 'laws.FnFactorial'. -/
def fnFactorialUptoCard : Claim7 := { stood := { row := fnFactorialUptoRow, standIns := [], harness := (true, "3fb557fa729faaca30da29cd43f6cec920fccce7b13d4175707add449f0e3c36"), looks := true }, kinds := [], alts := [], laidByText := true, laidKinds := [.data, .data, .data, .sentinel, .sentinel], laidTests := true, laidLooks := .later }
def FnFactorialUptoCardSaid : Prop := Claim7.holds Tryz.pinned (.plain (OpenSpec.upto fnFactorialSpec)) fnFactorialUptoCard

/-- THE SECOND FORM's CARD OF 'laws.FnFaults'. -/
def fnFaultsUptoCard : Claim7 := { stood := { row := fnFaultsUptoRow, standIns := [], harness := (true, "3fb557fa729faaca30da29cd43f6cec920fccce7b13d4175707add449f0e3c36"), looks := true }, kinds := [], alts := [], laidByText := true, laidKinds := [.data, .data, .data, .sentinel, .sentinel], laidTests := true, laidLooks := .later }
def FnFaultsUptoCardSaid : Prop := Claim7.holds Tryz.pinned (.plain (OpenSpec.upto fnFaultsSpec)) fnFaultsUptoCard

/-- THE SECOND FORM's CARD OF 'laws.FnLoops'. -/
def fnLoopsUptoCard : Claim7 := { stood := { row := fnLoopsUptoRow, standIns := [], harness := (true, "3fb557fa729faaca30da29cd43f6cec920fccce7b13d4175707add449f0e3c36"), looks := true }, kinds := [], alts := [], laidByText := true, laidKinds := [.data, .data, .data, .sentinel, .sentinel], laidTests := true, laidLooks := .later }
def FnLoopsUptoCardSaid : Prop := Claim7.holds Tryz.pinned (.plain (OpenSpec.upto fnLoopsSpec)) fnLoopsUptoCard

/-- THE SECOND FORM's CARD OF 'laws.FnParams'. -/
def fnParamsUptoCard : Claim7 := { stood := { row := fnParamsUptoRow, standIns := [], harness := (true, "3fb557fa729faaca30da29cd43f6cec920fccce7b13d4175707add449f0e3c36"), looks := true }, kinds := [], alts := [], laidByText := true, laidKinds := [.data, .data, .data, .sentinel, .sentinel], laidTests := true, laidLooks := .later }
def FnParamsUptoCardSaid : Prop := Claim7.holds Tryz.pinned (.plain (OpenSpec.upto fnParamsSpec)) fnParamsUptoCard

/-- THE SECOND FORM's CARD OF 'laws.FnSummed'. -/
def fnSummedUptoCard : Claim7 := { stood := { row := fnSummedUptoRow, standIns := [], harness := (true, "3fb557fa729faaca30da29cd43f6cec920fccce7b13d4175707add449f0e3c36"), looks := true }, kinds := [], alts := [], laidByText := true, laidKinds := [.data, .data, .data, .sentinel, .sentinel], laidTests := true, laidLooks := .later }
def FnSummedUptoCardSaid : Prop := Claim7.holds Tryz.pinned (.plain (OpenSpec.upto fnSummedSpec)) fnSummedUptoCard
end Rows
end Go.Proofs.YtnemookdabbaiaaGreatDoor
