/- The closed facts of a row. -/
import Derived.Test.YtdlfkbpddfeenaaGreatDoorCards
import Derived.ProofKit
import Derived.Stop.Joined
set_option linter.all false
namespace Go.Proofs.YtdlfkbpddfeenaaGreatDoor
open Go.ChangeShapes Go.WideShapes Go.ChangeAt Go.RowKit

theorem seasonJoined_facts : joinedFacts Tryz.prog 8 Tryz.f8 Rows.seasonJoinedSpec Rows.seasonJoinedRow = true := by kernel_rfl

end Go.Proofs.YtdlfkbpddfeenaaGreatDoor
