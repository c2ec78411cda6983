/- The row. For every season and machine: the state of a machine, and the takings, are what the document's definitions say, or the error: the function SeasonReplays answers true. -/
import Derived.Test.YtdlfkbpddfeenaaGreatDoorJ11
import Derived.Test.YtdlfkbpddfeenaaGreatDoorR5b

set_option linter.all false

namespace Go.Proofs.YtdlfkbpddfeenaaGreatDoor
open Go.ChangeShapes Go.WideShapes Go.ChangeAt Go.RowKit Go.E
theorem seasonReplays_row : Rows.SeasonReplaysSaid :=
 OpenClaim.holds_of_wide 5 Tryz.f5 rfl rfl rfl rfl rfl rfl rfl ⟨rfl, rfl, rfl, rfl, rfl⟩ rfl rfl rfl rfl rfl (by kernel_rfl) Tryz.func5 seasonReplays_facts
  (of_decide_eq_true (by kernel_rfl)) (by unfold Func.isWrapper; first | (rw [if_pos (by decide +kernel)]; kernel_rfl) | (rw [if_neg (by decide +kernel)]; exact ⟨rfl, rfl⟩))
  (fun os started H enc _ => seasonReplays_lifted os started H enc)
end Go.Proofs.YtdlfkbpddfeenaaGreatDoor
