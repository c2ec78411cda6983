/- The row. For every valid season and every entry: with one more entry no mark becomes less, only that of its machine becomes greater, and states stay if marks do: the function SeasonGrows answers true. -/
import Derived.Test.YtdlfkbpddfeenaaGreatDoorJ11
import Derived.Test.YtdlfkbpddfeenaaGreatDoorR11b

set_option linter.all false

namespace Go.Proofs.YtdlfkbpddfeenaaGreatDoor
open Go.ChangeShapes Go.WideShapes Go.ChangeAt Go.RowKit Go.E
theorem seasonGrows_row : Rows.SeasonGrowsSaid :=
 OpenClaim.holds_of_wide 11 Tryz.f11 rfl rfl rfl rfl rfl rfl rfl ⟨rfl, rfl, rfl, rfl, rfl⟩ rfl rfl rfl rfl rfl (by kernel_rfl) Tryz.func11 seasonGrows_facts
  (of_decide_eq_true (by kernel_rfl)) (by unfold Func.isWrapper; first | (rw [if_pos (by decide +kernel)]; kernel_rfl) | (rw [if_neg (by decide +kernel)]; exact ⟨rfl, rfl⟩))
  (fun os started H enc _ => seasonGrows_lifted os started H enc)
end Go.Proofs.YtdlfkbpddfeenaaGreatDoor
