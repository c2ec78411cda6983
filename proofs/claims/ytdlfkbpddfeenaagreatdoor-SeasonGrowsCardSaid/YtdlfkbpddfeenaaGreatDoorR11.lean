/- The tied card. For every valid season and every entry: with one more entry no mark becomes less, only that of its machine becomes greater, and states stay if marks do: the function SeasonGrows answers true. -/
import Derived.Test.YtdlfkbpddfeenaaGreatDoorJ12

set_option linter.all false

namespace Go.Proofs.YtdlfkbpddfeenaaGreatDoor
open Go.ChangeShapes Go.WideShapes Go.ChangeAt Go.RowKit Go.E
theorem seasonGrows_holds : Rows.SeasonGrowsCardSaid :=
 Claim7.holds_tied_plain_at .later [] [.data, .data, .data, .data, .sentinel, .sentinel, .pinned] true (true, "6995127973fa9d6a5f95c87759e67b76f3a98163e0d497ee3cf0cdf4ba704b30") true seasonGrows_row (fun _ h => by cases h) (by kernel_rfl) (fun _ h => by cases h) seasonGrows_row_tie rfl ⟨rfl, rfl⟩ (by kernel_rfl) rfl
  (fun f fn hf hfn => by
   obtain rfl : f = 11 := Option.some.inj ((show Tryz.prog.funcNamed "pennyfall/pennyfalllaw12.SeasonGrows" = some 11 by kernel_rfl).symm.trans hf) |>.symm
   obtain rfl : fn = Tryz.f11 := (Option.some.inj (Tryz.func11.symm.trans hfn)).symm
   exact ⟨by kernel_rfl, fun j t ht => by
    rw [Tryz.params11] at ht;have hm : t ∈ [24, 26] := by simpa using Array.mem_of_getElem? ht
    have hall : ([24, 26].all fun u => !Tryz.prog.wantsStandIn u) = true := by kernel_rfl
    exact (show Tryz.prog.wantsStandIn t = false by simpa using List.all_eq_true.1 hall t hm)⟩)
  (by kernel_rfl)
end Go.Proofs.YtdlfkbpddfeenaaGreatDoor
