/- The tied card. For every valid season and three parts of it: seasons are joined in whatever order to the same one, and a season joined with itself, or with a part of it, is the season: the function SeasonJoined answers true. -/
import Derived.Test.YtdlfkbpddfeenaaGreatDoorJ12

set_option linter.all false

namespace Go.Proofs.YtdlfkbpddfeenaaGreatDoor
open Go.ChangeShapes Go.WideShapes Go.ChangeAt Go.RowKit Go.E
theorem seasonJoined_holds : Rows.SeasonJoinedCardSaid :=
 Claim7.holds_tied_plain_at .later [] [.data, .data, .data, .data, .sentinel, .sentinel, .pinned] true (true, "6995127973fa9d6a5f95c87759e67b76f3a98163e0d497ee3cf0cdf4ba704b30") true seasonJoined_row (fun _ h => by cases h) (by kernel_rfl) (fun _ h => by cases h) seasonJoined_row_tie rfl ⟨rfl, rfl⟩ (by kernel_rfl) rfl
  (fun f fn hf hfn => by
   obtain rfl : f = 8 := Option.some.inj ((show Tryz.prog.funcNamed "pennyfall/pennyfalllaw12.SeasonJoined" = some 8 by kernel_rfl).symm.trans hf) |>.symm
   obtain rfl : fn = Tryz.f8 := (Option.some.inj (Tryz.func8.symm.trans hfn)).symm
   exact ⟨by kernel_rfl, fun j t ht => by
    rw [Tryz.params8] at ht;have hm : t ∈ [24, 59, 59, 59] := by simpa using Array.mem_of_getElem? ht
    have hall : ([24, 59, 59, 59].all fun u => !Tryz.prog.wantsStandIn u) = true := by kernel_rfl
    exact (show Tryz.prog.wantsStandIn t = false by simpa using List.all_eq_true.1 hall t hm)⟩)
  (by kernel_rfl)
end Go.Proofs.YtdlfkbpddfeenaaGreatDoor
