/- The closed facts of a row. -/
import Derived.Test.YtdlfkbpddfeenaaGreatDoorCards
import Derived.ProofKit
import Derived.Stop.Joined
set_option linter.all false
namespace Go.Proofs.YtdlfkbpddfeenaaGreatDoor
open Go.ChangeShapes Go.WideShapes Go.ChangeAt Go.RowKit

theorem seasonFiles_facts : joinedFacts Tryz.prog 6 Tryz.f6 Rows.seasonFilesSpec Rows.seasonFilesRow = true := by kernel_rfl

end Go.Proofs.YtdlfkbpddfeenaaGreatDoor
