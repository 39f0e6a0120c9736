/-
  DERIVED. GIVEN WITH THE SEED: THE CARDS: each row of YtaghdopickgpgaaDoorRows.lean that lists a variable, with what it lists TIED to the program's text (the seventh form; the later family's looks); each row that meets fmt, with fmt's text TOLD by the authors' own Lean function (tested against real Go, not proved from fmt's source: count such statements apart). THE CARD IS WHAT COUNTS. Prove the row's statement (the work); the ties are given (YtaghdopickgpgaaDoorTie.lean); close each card by the builder's one call (the guide's Derived/Test/ToyasCard.lean, 'card_holds'). Laid BY PROGRAM, IN A SANDBOX (cutbox-door.mjs). By AI agents, Wed Nov 11 2026. No macro, syntax, notation, axiom, sorry.
-/
import Derived.Test.YtaghdopickgpgaaDoorRows
import GoSem.ClaimSeven
namespace Go.Proofs.YtaghdopickgpgaaDoor
namespace Rows

/-- THE TIED CARD OF 'skylarklaw02.DiskSafe'. -/
def diskSafeCard : Claim7 := { stood := { row := diskSafeRow, standIns := [], harness := (true, "a135075640c8df6c9a098032b9c538dc75fcec1de056fba4a9145c9b5704596d"), looks := false }, kinds := [], alts := [], laidByText := true, laidKinds := [.data, .pinned], laidTests := true, laidLooks := .later }
def DiskSafeCardSaid : Prop := Claim7.holds Tryd.pinned (.plain (OpenSpec.ofChange diskSafeSpec)) diskSafeCard

/-- THE TIED CARD OF 'skylarklaw02.DiskTurns'. -/
def diskTurnsCard : Claim7 := { stood := { row := diskTurnsRow, standIns := [], harness := (true, "a135075640c8df6c9a098032b9c538dc75fcec1de056fba4a9145c9b5704596d"), looks := false }, kinds := [], alts := [], laidByText := true, laidKinds := [.data, .pinned], laidTests := true, laidLooks := .later }
def DiskTurnsCardSaid : Prop := Claim7.holds Tryd.pinned (.plain (OpenSpec.ofChange diskTurnsSpec)) diskTurnsCard

/-- THE TIED CARD OF 'skylarklaw02.DiskSwap'. -/
def diskSwapCard : Claim7 := { stood := { row := diskSwapRow, standIns := [], harness := (true, "a135075640c8df6c9a098032b9c538dc75fcec1de056fba4a9145c9b5704596d"), looks := false }, kinds := [], alts := [], laidByText := true, laidKinds := [.data, .pinned], laidTests := true, laidLooks := .later }
def DiskSwapCardSaid : Prop := Claim7.holds Tryd.pinned (.plain (OpenSpec.ofChange diskSwapSpec)) diskSwapCard

/-- THE TIED CARD OF 'skylarklaw02.DiskRoom'. -/
def diskRoomCard : Claim7 := { stood := { row := diskRoomRow, standIns := [], harness := (true, "a135075640c8df6c9a098032b9c538dc75fcec1de056fba4a9145c9b5704596d"), looks := false }, kinds := [], alts := [], laidByText := true, laidKinds := [.data, .pinned], laidTests := true, laidLooks := .later }
def DiskRoomCardSaid : Prop := Claim7.holds Tryd.pinned (.plain (OpenSpec.ofChange diskRoomSpec)) diskRoomCard

/-- THE TIED CARD OF 'skylarklaw02.DiskSynced'. -/
def diskSyncedCard : Claim7 := { stood := { row := diskSyncedRow, standIns := [], harness := (true, "a135075640c8df6c9a098032b9c538dc75fcec1de056fba4a9145c9b5704596d"), looks := false }, kinds := [], alts := [], laidByText := true, laidKinds := [.data, .pinned], laidTests := true, laidLooks := .later }
def DiskSyncedCardSaid : Prop := Claim7.holds Tryd.pinned (.plain (OpenSpec.ofChange diskSyncedSpec)) diskSyncedCard

/-- THE TIED CARD OF 'skylarklaw02.DiskBacks'. -/
def diskBacksCard : Claim7 := { stood := { row := diskBacksRow, standIns := [], harness := (true, "a135075640c8df6c9a098032b9c538dc75fcec1de056fba4a9145c9b5704596d"), looks := false }, kinds := [], alts := [], laidByText := true, laidKinds := [.data, .pinned], laidTests := true, laidLooks := .later }
def DiskBacksCardSaid : Prop := Claim7.holds Tryd.pinned (.plain (OpenSpec.ofChange diskBacksSpec)) diskBacksCard

/-- THE TIED CARD OF 'skylarklaw02.DiskPlays'. -/
def diskPlaysCard : Claim7 := { stood := { row := diskPlaysRow, standIns := [], harness := (true, "a135075640c8df6c9a098032b9c538dc75fcec1de056fba4a9145c9b5704596d"), looks := false }, kinds := [], alts := [], laidByText := true, laidKinds := [.data, .pinned], laidTests := true, laidLooks := .later }
def DiskPlaysCardSaid : Prop := Claim7.holds Tryd.pinned (.plain (OpenSpec.ofChange diskPlaysSpec)) diskPlaysCard

/-- THE SECOND FORM's CARD OF 'skylarklaw02.DiskSafe'. -/
def diskSafeUptoCard : Claim7 := { stood := { row := diskSafeUptoRow, standIns := [], harness := (true, "a135075640c8df6c9a098032b9c538dc75fcec1de056fba4a9145c9b5704596d"), looks := false }, kinds := [], alts := [], laidByText := true, laidKinds := [.data, .pinned], laidTests := true, laidLooks := .later }
def DiskSafeUptoCardSaid : Prop := Claim7.holds Tryd.pinned (.plain (OpenSpec.upto diskSafeSpec)) diskSafeUptoCard

/-- THE SECOND FORM's CARD OF 'skylarklaw02.DiskTurns'. -/
def diskTurnsUptoCard : Claim7 := { stood := { row := diskTurnsUptoRow, standIns := [], harness := (true, "a135075640c8df6c9a098032b9c538dc75fcec1de056fba4a9145c9b5704596d"), looks := false }, kinds := [], alts := [], laidByText := true, laidKinds := [.data, .pinned], laidTests := true, laidLooks := .later }
def DiskTurnsUptoCardSaid : Prop := Claim7.holds Tryd.pinned (.plain (OpenSpec.upto diskTurnsSpec)) diskTurnsUptoCard

/-- THE SECOND FORM's CARD OF 'skylarklaw02.DiskSwap'. -/
def diskSwapUptoCard : Claim7 := { stood := { row := diskSwapUptoRow, standIns := [], harness := (true, "a135075640c8df6c9a098032b9c538dc75fcec1de056fba4a9145c9b5704596d"), looks := false }, kinds := [], alts := [], laidByText := true, laidKinds := [.data, .pinned], laidTests := true, laidLooks := .later }
def DiskSwapUptoCardSaid : Prop := Claim7.holds Tryd.pinned (.plain (OpenSpec.upto diskSwapSpec)) diskSwapUptoCard

/-- THE SECOND FORM's CARD OF 'skylarklaw02.DiskRoom'. -/
def diskRoomUptoCard : Claim7 := { stood := { row := diskRoomUptoRow, standIns := [], harness := (true, "a135075640c8df6c9a098032b9c538dc75fcec1de056fba4a9145c9b5704596d"), looks := false }, kinds := [], alts := [], laidByText := true, laidKinds := [.data, .pinned], laidTests := true, laidLooks := .later }
def DiskRoomUptoCardSaid : Prop := Claim7.holds Tryd.pinned (.plain (OpenSpec.upto diskRoomSpec)) diskRoomUptoCard

/-- THE SECOND FORM's CARD OF 'skylarklaw02.DiskSynced'. -/
def diskSyncedUptoCard : Claim7 := { stood := { row := diskSyncedUptoRow, standIns := [], harness := (true, "a135075640c8df6c9a098032b9c538dc75fcec1de056fba4a9145c9b5704596d"), looks := false }, kinds := [], alts := [], laidByText := true, laidKinds := [.data, .pinned], laidTests := true, laidLooks := .later }
def DiskSyncedUptoCardSaid : Prop := Claim7.holds Tryd.pinned (.plain (OpenSpec.upto diskSyncedSpec)) diskSyncedUptoCard

/-- THE SECOND FORM's CARD OF 'skylarklaw02.DiskBacks'. -/
def diskBacksUptoCard : Claim7 := { stood := { row := diskBacksUptoRow, standIns := [], harness := (true, "a135075640c8df6c9a098032b9c538dc75fcec1de056fba4a9145c9b5704596d"), looks := false }, kinds := [], alts := [], laidByText := true, laidKinds := [.data, .pinned], laidTests := true, laidLooks := .later }
def DiskBacksUptoCardSaid : Prop := Claim7.holds Tryd.pinned (.plain (OpenSpec.upto diskBacksSpec)) diskBacksUptoCard

/-- THE SECOND FORM's CARD OF 'skylarklaw02.DiskPlays'. -/
def diskPlaysUptoCard : Claim7 := { stood := { row := diskPlaysUptoRow, standIns := [], harness := (true, "a135075640c8df6c9a098032b9c538dc75fcec1de056fba4a9145c9b5704596d"), looks := false }, kinds := [], alts := [], laidByText := true, laidKinds := [.data, .pinned], laidTests := true, laidLooks := .later }
def DiskPlaysUptoCardSaid : Prop := Claim7.holds Tryd.pinned (.plain (OpenSpec.upto diskPlaysSpec)) diskPlaysUptoCard
end Rows
end Go.Proofs.YtaghdopickgpgaaDoor
