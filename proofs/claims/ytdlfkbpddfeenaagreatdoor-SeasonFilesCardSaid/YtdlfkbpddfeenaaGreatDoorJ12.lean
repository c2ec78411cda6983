/- The row. For every season and file: the file of a season, and the season of a file, are what the document's definitions say, or the error: the function SeasonFiles answers true. -/
import Derived.Test.YtdlfkbpddfeenaaGreatDoorJ11
import Derived.Test.YtdlfkbpddfeenaaGreatDoorR6b

set_option linter.all false

namespace Go.Proofs.YtdlfkbpddfeenaaGreatDoor
open Go.ChangeShapes Go.WideShapes Go.ChangeAt Go.RowKit Go.E
theorem seasonFiles_row : Rows.SeasonFilesSaid :=
 OpenClaim.holds_of_wide 6 Tryz.f6 rfl rfl rfl rfl rfl rfl rfl ⟨rfl, rfl, rfl, rfl, rfl⟩ rfl rfl rfl rfl rfl (by kernel_rfl) Tryz.func6 seasonFiles_facts
  (of_decide_eq_true (by kernel_rfl)) (by unfold Func.isWrapper; first | (rw [if_pos (by decide +kernel)]; kernel_rfl) | (rw [if_neg (by decide +kernel)]; exact ⟨rfl, rfl⟩))
  (fun os started H enc _ => seasonFiles_lifted os started H enc)
end Go.Proofs.YtdlfkbpddfeenaaGreatDoor
