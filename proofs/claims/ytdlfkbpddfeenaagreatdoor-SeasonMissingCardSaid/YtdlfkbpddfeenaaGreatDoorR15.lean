/- The tied card. For every valid season and machine: the mark is one less than the first number that is missing, or the greatest number, and an entry with the first missing number makes it greater: the function SeasonMissing answers true. -/
import Derived.Test.YtdlfkbpddfeenaaGreatDoorJ12

set_option linter.all false

namespace Go.Proofs.YtdlfkbpddfeenaaGreatDoor
open Go.ChangeShapes Go.WideShapes Go.ChangeAt Go.RowKit Go.E
theorem seasonMissing_holds : Rows.SeasonMissingCardSaid :=
 Claim7.holds_tied_plain_at .later [] [.data, .data, .data, .data, .sentinel, .sentinel, .pinned] true (true, "6995127973fa9d6a5f95c87759e67b76f3a98163e0d497ee3cf0cdf4ba704b30") true seasonMissing_row (fun _ h => by cases h) (by kernel_rfl) (fun _ h => by cases h) seasonMissing_row_tie rfl ⟨rfl, rfl⟩ (by kernel_rfl) rfl
  (fun f fn hf hfn => by
   obtain rfl : f = 15 := Option.some.inj ((show Tryz.prog.funcNamed "pennyfall/pennyfalllaw12.SeasonMissing" = some 15 by kernel_rfl).symm.trans hf) |>.symm
   obtain rfl : fn = Tryz.f15 := (Option.some.inj (Tryz.func15.symm.trans hfn)).symm
   exact ⟨by kernel_rfl, fun j t ht => by
    rw [Tryz.params15] at ht;have hm : t ∈ [24, 5] := by simpa using Array.mem_of_getElem? ht
    have hall : ([24, 5].all fun u => !Tryz.prog.wantsStandIn u) = true := by kernel_rfl
    exact (show Tryz.prog.wantsStandIn t = false by simpa using List.all_eq_true.1 hall t hm)⟩)
  (by kernel_rfl)
end Go.Proofs.YtdlfkbpddfeenaaGreatDoor
