/- The row. For every two valid seasons: what is sent behind the marks of the one, joined to it, gives what joining the whole other one gives, if they can be joined: the function SeasonSynced answers true. -/
import Derived.Test.YtdlfkbpddfeenaaGreatDoorJ11
import Derived.Test.YtdlfkbpddfeenaaGreatDoorR9b

set_option linter.all false

namespace Go.Proofs.YtdlfkbpddfeenaaGreatDoor
open Go.ChangeShapes Go.WideShapes Go.ChangeAt Go.RowKit Go.E
theorem seasonSynced_row : Rows.SeasonSyncedSaid :=
 OpenClaim.holds_of_wide 9 Tryz.f9 rfl rfl rfl rfl rfl rfl rfl ⟨rfl, rfl, rfl, rfl, rfl⟩ rfl rfl rfl rfl rfl (by kernel_rfl) Tryz.func9 seasonSynced_facts
  (of_decide_eq_true (by kernel_rfl)) (by unfold Func.isWrapper; first | (rw [if_pos (by decide +kernel)]; kernel_rfl) | (rw [if_neg (by decide +kernel)]; exact ⟨rfl, rfl⟩))
  (fun os started H enc _ => seasonSynced_lifted os started H enc)
end Go.Proofs.YtdlfkbpddfeenaaGreatDoor
