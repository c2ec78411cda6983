/-
  DERIVED. GIVEN WITH THE SEED: THE CARDS: each row of YtdlfkbpddfeenaaGreatDoorRows.lean that lists a variable, with what it lists TIED to the program's text (the seventh form; the later family's looks); each row that meets fmt, with fmt's text TOLD by the authors' own Lean function (tested against real Go, not proved from fmt's source: count such statements apart). THE CARD IS WHAT COUNTS. Prove the row's statement (the work); the ties are given (YtdlfkbpddfeenaaGreatDoorTie.lean); close each card by the builder's one call (the guide's Derived/Test/ToyasCard.lean, 'card_holds'). Laid BY PROGRAM, IN A SANDBOX (cutbox-door.mjs). By AI agents, Wed Nov 11 2026. No macro, syntax, notation, axiom, sorry.
-/
import Derived.Test.YtdlfkbpddfeenaaGreatDoorRows
import GoSem.ClaimSeven
namespace Go.Proofs.YtdlfkbpddfeenaaGreatDoor
namespace Rows

/-- THE TIED CARD OF 'pennyfalllaw12.SeasonBooks'. -/
def seasonBooksCard : Claim7 := { stood := { row := seasonBooksRow, standIns := [], harness := (true, "6995127973fa9d6a5f95c87759e67b76f3a98163e0d497ee3cf0cdf4ba704b30"), looks := true }, kinds := [], alts := [], laidByText := true, laidKinds := [.data, .data, .data, .data, .sentinel, .sentinel, .pinned], laidTests := true, laidLooks := .later }
def SeasonBooksCardSaid : Prop := Claim7.holds Tryz.pinned (.plain (OpenSpec.ofChange seasonBooksSpec)) seasonBooksCard

/-- THE TIED CARD OF 'pennyfalllaw12.SeasonMarks'. -/
def seasonMarksCard : Claim7 := { stood := { row := seasonMarksRow, standIns := [], harness := (true, "6995127973fa9d6a5f95c87759e67b76f3a98163e0d497ee3cf0cdf4ba704b30"), looks := true }, kinds := [], alts := [], laidByText := true, laidKinds := [.data, .data, .data, .data, .sentinel, .sentinel, .pinned], laidTests := true, laidLooks := .later }
def SeasonMarksCardSaid : Prop := Claim7.holds Tryz.pinned (.plain (OpenSpec.ofChange seasonMarksSpec)) seasonMarksCard

/-- THE TIED CARD OF 'pennyfalllaw12.SeasonReplays'. -/
def seasonReplaysCard : Claim7 := { stood := { row := seasonReplaysRow, standIns := [], harness := (true, "6995127973fa9d6a5f95c87759e67b76f3a98163e0d497ee3cf0cdf4ba704b30"), looks := true }, kinds := [], alts := [], laidByText := true, laidKinds := [.data, .data, .data, .data, .sentinel, .sentinel, .pinned], laidTests := true, laidLooks := .later }
def SeasonReplaysCardSaid : Prop := Claim7.holds Tryz.pinned (.plain (OpenSpec.ofChange seasonReplaysSpec)) seasonReplaysCard

/-- THE TIED CARD OF 'pennyfalllaw12.SeasonFiles'. -/
def seasonFilesCard : Claim7 := { stood := { row := seasonFilesRow, standIns := [], harness := (true, "6995127973fa9d6a5f95c87759e67b76f3a98163e0d497ee3cf0cdf4ba704b30"), looks := true }, kinds := [], alts := [], laidByText := true, laidKinds := [.data, .data, .data, .data, .sentinel, .sentinel, .pinned], laidTests := true, laidLooks := .later }
def SeasonFilesCardSaid : Prop := Claim7.holds Tryz.pinned (.plain (OpenSpec.ofChange seasonFilesSpec)) seasonFilesCard

/-- THE TIED CARD OF 'pennyfalllaw12.SeasonOrder'. -/
def seasonOrderCard : Claim7 := { stood := { row := seasonOrderRow, standIns := [], harness := (true, "6995127973fa9d6a5f95c87759e67b76f3a98163e0d497ee3cf0cdf4ba704b30"), looks := true }, kinds := [], alts := [], laidByText := true, laidKinds := [.data, .data, .data, .data, .sentinel, .sentinel, .pinned], laidTests := true, laidLooks := .later }
def SeasonOrderCardSaid : Prop := Claim7.holds Tryz.pinned (.plain (OpenSpec.ofChange seasonOrderSpec)) seasonOrderCard

/-- THE TIED CARD OF 'pennyfalllaw12.SeasonJoined'. -/
def seasonJoinedCard : Claim7 := { stood := { row := seasonJoinedRow, standIns := [], harness := (true, "6995127973fa9d6a5f95c87759e67b76f3a98163e0d497ee3cf0cdf4ba704b30"), looks := true }, kinds := [], alts := [], laidByText := true, laidKinds := [.data, .data, .data, .data, .sentinel, .sentinel, .pinned], laidTests := true, laidLooks := .later }
def SeasonJoinedCardSaid : Prop := Claim7.holds Tryz.pinned (.plain (OpenSpec.ofChange seasonJoinedSpec)) seasonJoinedCard

/-- THE TIED CARD OF 'pennyfalllaw12.SeasonSynced'. -/
def seasonSyncedCard : Claim7 := { stood := { row := seasonSyncedRow, standIns := [], harness := (true, "6995127973fa9d6a5f95c87759e67b76f3a98163e0d497ee3cf0cdf4ba704b30"), looks := true }, kinds := [], alts := [], laidByText := true, laidKinds := [.data, .data, .data, .data, .sentinel, .sentinel, .pinned], laidTests := true, laidLooks := .later }
def SeasonSyncedCardSaid : Prop := Claim7.holds Tryz.pinned (.plain (OpenSpec.ofChange seasonSyncedSpec)) seasonSyncedCard

/-- THE TIED CARD OF 'pennyfalllaw12.SeasonKept'. -/
def seasonKeptCard : Claim7 := { stood := { row := seasonKeptRow, standIns := [], harness := (true, "6995127973fa9d6a5f95c87759e67b76f3a98163e0d497ee3cf0cdf4ba704b30"), looks := true }, kinds := [], alts := [], laidByText := true, laidKinds := [.data, .data, .data, .data, .sentinel, .sentinel, .pinned], laidTests := true, laidLooks := .later }
def SeasonKeptCardSaid : Prop := Claim7.holds Tryz.pinned (.plain (OpenSpec.ofChange seasonKeptSpec)) seasonKeptCard

/-- THE TIED CARD OF 'pennyfalllaw12.SeasonGrows'. -/
def seasonGrowsCard : Claim7 := { stood := { row := seasonGrowsRow, standIns := [], harness := (true, "6995127973fa9d6a5f95c87759e67b76f3a98163e0d497ee3cf0cdf4ba704b30"), looks := true }, kinds := [], alts := [], laidByText := true, laidKinds := [.data, .data, .data, .data, .sentinel, .sentinel, .pinned], laidTests := true, laidLooks := .later }
def SeasonGrowsCardSaid : Prop := Claim7.holds Tryz.pinned (.plain (OpenSpec.ofChange seasonGrowsSpec)) seasonGrowsCard

/-- THE TIED CARD OF 'pennyfalllaw12.SeasonTaken'. -/
def seasonTakenCard : Claim7 := { stood := { row := seasonTakenRow, standIns := [], harness := (true, "6995127973fa9d6a5f95c87759e67b76f3a98163e0d497ee3cf0cdf4ba704b30"), looks := true }, kinds := [], alts := [], laidByText := true, laidKinds := [.data, .data, .data, .data, .sentinel, .sentinel, .pinned], laidTests := true, laidLooks := .later }
def SeasonTakenCardSaid : Prop := Claim7.holds Tryz.pinned (.plain (OpenSpec.ofChange seasonTakenSpec)) seasonTakenCard

/-- THE TIED CARD OF 'pennyfalllaw12.SeasonApart'. -/
def seasonApartCard : Claim7 := { stood := { row := seasonApartRow, standIns := [], harness := (true, "6995127973fa9d6a5f95c87759e67b76f3a98163e0d497ee3cf0cdf4ba704b30"), looks := true }, kinds := [], alts := [], laidByText := true, laidKinds := [.data, .data, .data, .data, .sentinel, .sentinel, .pinned], laidTests := true, laidLooks := .later }
def SeasonApartCardSaid : Prop := Claim7.holds Tryz.pinned (.plain (OpenSpec.ofChange seasonApartSpec)) seasonApartCard

/-- THE TIED CARD OF 'pennyfalllaw12.SeasonFiled'. -/
def seasonFiledCard : Claim7 := { stood := { row := seasonFiledRow, standIns := [], harness := (true, "6995127973fa9d6a5f95c87759e67b76f3a98163e0d497ee3cf0cdf4ba704b30"), looks := true }, kinds := [], alts := [], laidByText := true, laidKinds := [.data, .data, .data, .data, .sentinel, .sentinel, .pinned], laidTests := true, laidLooks := .later }
def SeasonFiledCardSaid : Prop := Claim7.holds Tryz.pinned (.plain (OpenSpec.ofChange seasonFiledSpec)) seasonFiledCard

/-- THE TIED CARD OF 'pennyfalllaw12.SeasonMissing'. -/
def seasonMissingCard : Claim7 := { stood := { row := seasonMissingRow, standIns := [], harness := (true, "6995127973fa9d6a5f95c87759e67b76f3a98163e0d497ee3cf0cdf4ba704b30"), looks := true }, kinds := [], alts := [], laidByText := true, laidKinds := [.data, .data, .data, .data, .sentinel, .sentinel, .pinned], laidTests := true, laidLooks := .later }
def SeasonMissingCardSaid : Prop := Claim7.holds Tryz.pinned (.plain (OpenSpec.ofChange seasonMissingSpec)) seasonMissingCard

/-- THE TIED CARD OF 'pennyfalllaw12.SeasonKnown'. -/
def seasonKnownCard : Claim7 := { stood := { row := seasonKnownRow, standIns := [], harness := (true, "6995127973fa9d6a5f95c87759e67b76f3a98163e0d497ee3cf0cdf4ba704b30"), looks := true }, kinds := [], alts := [], laidByText := true, laidKinds := [.data, .data, .data, .data, .sentinel, .sentinel, .pinned], laidTests := true, laidLooks := .later }
def SeasonKnownCardSaid : Prop := Claim7.holds Tryz.pinned (.plain (OpenSpec.ofChange seasonKnownSpec)) seasonKnownCard

/-- THE SECOND FORM's CARD OF 'pennyfalllaw12.SeasonBooks'. -/
def seasonBooksUptoCard : Claim7 := { stood := { row := seasonBooksUptoRow, standIns := [], harness := (true, "6995127973fa9d6a5f95c87759e67b76f3a98163e0d497ee3cf0cdf4ba704b30"), looks := true }, kinds := [], alts := [], laidByText := true, laidKinds := [.data, .data, .data, .data, .sentinel, .sentinel, .pinned], laidTests := true, laidLooks := .later }
def SeasonBooksUptoCardSaid : Prop := Claim7.holds Tryz.pinned (.plain (OpenSpec.upto seasonBooksSpec)) seasonBooksUptoCard

/-- THE SECOND FORM's CARD OF 'pennyfalllaw12.SeasonMarks'. -/
def seasonMarksUptoCard : Claim7 := { stood := { row := seasonMarksUptoRow, standIns := [], harness := (true, "6995127973fa9d6a5f95c87759e67b76f3a98163e0d497ee3cf0cdf4ba704b30"), looks := true }, kinds := [], alts := [], laidByText := true, laidKinds := [.data, .data, .data, .data, .sentinel, .sentinel, .pinned], laidTests := true, laidLooks := .later }
def SeasonMarksUptoCardSaid : Prop := Claim7.holds Tryz.pinned (.plain (OpenSpec.upto seasonMarksSpec)) seasonMarksUptoCard

/-- THE SECOND FORM's CARD OF 'pennyfalllaw12.SeasonReplays'. -/
def seasonReplaysUptoCard : Claim7 := { stood := { row := seasonReplaysUptoRow, standIns := [], harness := (true, "6995127973fa9d6a5f95c87759e67b76f3a98163e0d497ee3cf0cdf4ba704b30"), looks := true }, kinds := [], alts := [], laidByText := true, laidKinds := [.data, .data, .data, .data, .sentinel, .sentinel, .pinned], laidTests := true, laidLooks := .later }
def SeasonReplaysUptoCardSaid : Prop := Claim7.holds Tryz.pinned (.plain (OpenSpec.upto seasonReplaysSpec)) seasonReplaysUptoCard

/-- THE SECOND FORM's CARD OF 'pennyfalllaw12.SeasonFiles'. -/
def seasonFilesUptoCard : Claim7 := { stood := { row := seasonFilesUptoRow, standIns := [], harness := (true, "6995127973fa9d6a5f95c87759e67b76f3a98163e0d497ee3cf0cdf4ba704b30"), looks := true }, kinds := [], alts := [], laidByText := true, laidKinds := [.data, .data, .data, .data, .sentinel, .sentinel, .pinned], laidTests := true, laidLooks := .later }
def SeasonFilesUptoCardSaid : Prop := Claim7.holds Tryz.pinned (.plain (OpenSpec.upto seasonFilesSpec)) seasonFilesUptoCard

/-- THE SECOND FORM's CARD OF 'pennyfalllaw12.SeasonOrder'. -/
def seasonOrderUptoCard : Claim7 := { stood := { row := seasonOrderUptoRow, standIns := [], harness := (true, "6995127973fa9d6a5f95c87759e67b76f3a98163e0d497ee3cf0cdf4ba704b30"), looks := true }, kinds := [], alts := [], laidByText := true, laidKinds := [.data, .data, .data, .data, .sentinel, .sentinel, .pinned], laidTests := true, laidLooks := .later }
def SeasonOrderUptoCardSaid : Prop := Claim7.holds Tryz.pinned (.plain (OpenSpec.upto seasonOrderSpec)) seasonOrderUptoCard

/-- THE SECOND FORM's CARD OF 'pennyfalllaw12.SeasonJoined'. -/
def seasonJoinedUptoCard : Claim7 := { stood := { row := seasonJoinedUptoRow, standIns := [], harness := (true, "6995127973fa9d6a5f95c87759e67b76f3a98163e0d497ee3cf0cdf4ba704b30"), looks := true }, kinds := [], alts := [], laidByText := true, laidKinds := [.data, .data, .data, .data, .sentinel, .sentinel, .pinned], laidTests := true, laidLooks := .later }
def SeasonJoinedUptoCardSaid : Prop := Claim7.holds Tryz.pinned (.plain (OpenSpec.upto seasonJoinedSpec)) seasonJoinedUptoCard

/-- THE SECOND FORM's CARD OF 'pennyfalllaw12.SeasonSynced'. -/
def seasonSyncedUptoCard : Claim7 := { stood := { row := seasonSyncedUptoRow, standIns := [], harness := (true, "6995127973fa9d6a5f95c87759e67b76f3a98163e0d497ee3cf0cdf4ba704b30"), looks := true }, kinds := [], alts := [], laidByText := true, laidKinds := [.data, .data, .data, .data, .sentinel, .sentinel, .pinned], laidTests := true, laidLooks := .later }
def SeasonSyncedUptoCardSaid : Prop := Claim7.holds Tryz.pinned (.plain (OpenSpec.upto seasonSyncedSpec)) seasonSyncedUptoCard

/-- THE SECOND FORM's CARD OF 'pennyfalllaw12.SeasonKept'. -/
def seasonKeptUptoCard : Claim7 := { stood := { row := seasonKeptUptoRow, standIns := [], harness := (true, "6995127973fa9d6a5f95c87759e67b76f3a98163e0d497ee3cf0cdf4ba704b30"), looks := true }, kinds := [], alts := [], laidByText := true, laidKinds := [.data, .data, .data, .data, .sentinel, .sentinel, .pinned], laidTests := true, laidLooks := .later }
def SeasonKeptUptoCardSaid : Prop := Claim7.holds Tryz.pinned (.plain (OpenSpec.upto seasonKeptSpec)) seasonKeptUptoCard

/-- THE SECOND FORM's CARD OF 'pennyfalllaw12.SeasonGrows'. -/
def seasonGrowsUptoCard : Claim7 := { stood := { row := seasonGrowsUptoRow, standIns := [], harness := (true, "6995127973fa9d6a5f95c87759e67b76f3a98163e0d497ee3cf0cdf4ba704b30"), looks := true }, kinds := [], alts := [], laidByText := true, laidKinds := [.data, .data, .data, .data, .sentinel, .sentinel, .pinned], laidTests := true, laidLooks := .later }
def SeasonGrowsUptoCardSaid : Prop := Claim7.holds Tryz.pinned (.plain (OpenSpec.upto seasonGrowsSpec)) seasonGrowsUptoCard

/-- THE SECOND FORM's CARD OF 'pennyfalllaw12.SeasonTaken'. -/
def seasonTakenUptoCard : Claim7 := { stood := { row := seasonTakenUptoRow, standIns := [], harness := (true, "6995127973fa9d6a5f95c87759e67b76f3a98163e0d497ee3cf0cdf4ba704b30"), looks := true }, kinds := [], alts := [], laidByText := true, laidKinds := [.data, .data, .data, .data, .sentinel, .sentinel, .pinned], laidTests := true, laidLooks := .later }
def SeasonTakenUptoCardSaid : Prop := Claim7.holds Tryz.pinned (.plain (OpenSpec.upto seasonTakenSpec)) seasonTakenUptoCard

/-- THE SECOND FORM's CARD OF 'pennyfalllaw12.SeasonApart'. -/
def seasonApartUptoCard : Claim7 := { stood := { row := seasonApartUptoRow, standIns := [], harness := (true, "6995127973fa9d6a5f95c87759e67b76f3a98163e0d497ee3cf0cdf4ba704b30"), looks := true }, kinds := [], alts := [], laidByText := true, laidKinds := [.data, .data, .data, .data, .sentinel, .sentinel, .pinned], laidTests := true, laidLooks := .later }
def SeasonApartUptoCardSaid : Prop := Claim7.holds Tryz.pinned (.plain (OpenSpec.upto seasonApartSpec)) seasonApartUptoCard

/-- THE SECOND FORM's CARD OF 'pennyfalllaw12.SeasonFiled'. -/
def seasonFiledUptoCard : Claim7 := { stood := { row := seasonFiledUptoRow, standIns := [], harness := (true, "6995127973fa9d6a5f95c87759e67b76f3a98163e0d497ee3cf0cdf4ba704b30"), looks := true }, kinds := [], alts := [], laidByText := true, laidKinds := [.data, .data, .data, .data, .sentinel, .sentinel, .pinned], laidTests := true, laidLooks := .later }
def SeasonFiledUptoCardSaid : Prop := Claim7.holds Tryz.pinned (.plain (OpenSpec.upto seasonFiledSpec)) seasonFiledUptoCard

/-- THE SECOND FORM's CARD OF 'pennyfalllaw12.SeasonMissing'. -/
def seasonMissingUptoCard : Claim7 := { stood := { row := seasonMissingUptoRow, standIns := [], harness := (true, "6995127973fa9d6a5f95c87759e67b76f3a98163e0d497ee3cf0cdf4ba704b30"), looks := true }, kinds := [], alts := [], laidByText := true, laidKinds := [.data, .data, .data, .data, .sentinel, .sentinel, .pinned], laidTests := true, laidLooks := .later }
def SeasonMissingUptoCardSaid : Prop := Claim7.holds Tryz.pinned (.plain (OpenSpec.upto seasonMissingSpec)) seasonMissingUptoCard

/-- THE SECOND FORM's CARD OF 'pennyfalllaw12.SeasonKnown'. -/
def seasonKnownUptoCard : Claim7 := { stood := { row := seasonKnownUptoRow, standIns := [], harness := (true, "6995127973fa9d6a5f95c87759e67b76f3a98163e0d497ee3cf0cdf4ba704b30"), looks := true }, kinds := [], alts := [], laidByText := true, laidKinds := [.data, .data, .data, .data, .sentinel, .sentinel, .pinned], laidTests := true, laidLooks := .later }
def SeasonKnownUptoCardSaid : Prop := Claim7.holds Tryz.pinned (.plain (OpenSpec.upto seasonKnownSpec)) seasonKnownUptoCard
end Rows
end Go.Proofs.YtdlfkbpddfeenaaGreatDoor
