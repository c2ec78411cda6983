/- The closed facts of a row. -/
import Derived.Test.YtdlfkbpddfeenaaGreatDoorCards
import Derived.ProofKit
import Derived.Stop.Joined
set_option linter.all false
namespace Go.Proofs.YtdlfkbpddfeenaaGreatDoor
open Go.ChangeShapes Go.WideShapes Go.ChangeAt Go.RowKit

theorem seasonMissing_facts : joinedFacts Tryz.prog 15 Tryz.f15 Rows.seasonMissingSpec Rows.seasonMissingRow = true := by kernel_rfl

end Go.Proofs.YtdlfkbpddfeenaaGreatDoor
