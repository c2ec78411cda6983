/- The row. For every valid season and two machines: the entries of one machine, as another one's, have its state there, and those of one machine alone have it, too: the function SeasonApart answers true. -/
import Derived.Test.YtdlfkbpddfeenaaGreatDoorJ11
import Derived.Test.YtdlfkbpddfeenaaGreatDoorR13b

set_option linter.all false

namespace Go.Proofs.YtdlfkbpddfeenaaGreatDoor
open Go.ChangeShapes Go.WideShapes Go.ChangeAt Go.RowKit Go.E
theorem seasonApart_row : Rows.SeasonApartSaid :=
 OpenClaim.holds_of_wide 13 Tryz.f13 rfl rfl rfl rfl rfl rfl rfl ⟨rfl, rfl, rfl, rfl, rfl⟩ rfl rfl rfl rfl rfl (by kernel_rfl) Tryz.func13 seasonApart_facts
  (of_decide_eq_true (by kernel_rfl)) (by unfold Func.isWrapper; first | (rw [if_pos (by decide +kernel)]; kernel_rfl) | (rw [if_neg (by decide +kernel)]; exact ⟨rfl, rfl⟩))
  (fun os started H enc _ => seasonApart_lifted os started H enc)
end Go.Proofs.YtdlfkbpddfeenaaGreatDoor
