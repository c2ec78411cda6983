/- The tied card. For every valid season and machine: if the last entry is settled, and not one that takes back, and a next one takes it back, the machine's state is what it was before both: the function SeasonTaken answers true. -/
import Derived.Test.YtdlfkbpddfeenaaGreatDoorJ12

set_option linter.all false

namespace Go.Proofs.YtdlfkbpddfeenaaGreatDoor
open Go.ChangeShapes Go.WideShapes Go.ChangeAt Go.RowKit Go.E
theorem seasonTaken_holds : Rows.SeasonTakenCardSaid :=
 Claim7.holds_tied_plain_at .later [] [.data, .data, .data, .data, .sentinel, .sentinel, .pinned] true (true, "6995127973fa9d6a5f95c87759e67b76f3a98163e0d497ee3cf0cdf4ba704b30") true seasonTaken_row (fun _ h => by cases h) (by kernel_rfl) (fun _ h => by cases h) seasonTaken_row_tie rfl ⟨rfl, rfl⟩ (by kernel_rfl) rfl
  (fun f fn hf hfn => by
   obtain rfl : f = 12 := Option.some.inj ((show Tryz.prog.funcNamed "pennyfall/pennyfalllaw12.SeasonTaken" = some 12 by kernel_rfl).symm.trans hf) |>.symm
   obtain rfl : fn = Tryz.f12 := (Option.some.inj (Tryz.func12.symm.trans hfn)).symm
   exact ⟨by kernel_rfl, fun j t ht => by
    rw [Tryz.params12] at ht;have hm : t ∈ [24, 5] := by simpa using Array.mem_of_getElem? ht
    have hall : ([24, 5].all fun u => !Tryz.prog.wantsStandIn u) = true := by kernel_rfl
    exact (show Tryz.prog.wantsStandIn t = false by simpa using List.all_eq_true.1 hall t hm)⟩)
  (by kernel_rfl)
end Go.Proofs.YtdlfkbpddfeenaaGreatDoor
