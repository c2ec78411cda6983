/- The closed facts of a row. -/
import Derived.Test.YtdlfkbpddfeenaaGreatDoorCards
import Derived.ProofKit
import Derived.Stop.Joined
set_option linter.all false
namespace Go.Proofs.YtdlfkbpddfeenaaGreatDoor
open Go.ChangeShapes Go.WideShapes Go.ChangeAt Go.RowKit

theorem seasonOrder_facts : joinedFacts Tryz.prog 7 Tryz.f7 Rows.seasonOrderSpec Rows.seasonOrderRow = true := by kernel_rfl

end Go.Proofs.YtdlfkbpddfeenaaGreatDoor
