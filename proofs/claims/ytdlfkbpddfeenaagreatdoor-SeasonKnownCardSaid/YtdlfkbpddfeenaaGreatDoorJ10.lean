/- The closed facts of a row. -/
import Derived.Test.YtdlfkbpddfeenaaGreatDoorJ9
import Derived.Test.YtdlfkbpddfeenaaGreatDoorCards
import Derived.ProofKit
import Derived.Stop.Joined

set_option linter.all false

namespace Go.Proofs.YtdlfkbpddfeenaaGreatDoor
open Go.ChangeShapes Go.WideShapes Go.ChangeAt Go.RowKit
theorem seasonKnown_facts : joinedFacts Tryz.prog 16 Tryz.f16 Rows.seasonKnownSpec Rows.seasonKnownRow = true := by kernel_rfl
end Go.Proofs.YtdlfkbpddfeenaaGreatDoor
