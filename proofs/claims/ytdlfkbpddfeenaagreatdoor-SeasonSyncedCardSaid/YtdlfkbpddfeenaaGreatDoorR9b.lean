/- The closed facts of a row. -/
import Derived.Test.YtdlfkbpddfeenaaGreatDoorCards
import Derived.ProofKit
import Derived.Stop.Joined
set_option linter.all false
namespace Go.Proofs.YtdlfkbpddfeenaaGreatDoor
open Go.ChangeShapes Go.WideShapes Go.ChangeAt Go.RowKit

theorem seasonSynced_facts : joinedFacts Tryz.prog 9 Tryz.f9 Rows.seasonSyncedSpec Rows.seasonSyncedRow = true := by kernel_rfl

end Go.Proofs.YtdlfkbpddfeenaaGreatDoor
