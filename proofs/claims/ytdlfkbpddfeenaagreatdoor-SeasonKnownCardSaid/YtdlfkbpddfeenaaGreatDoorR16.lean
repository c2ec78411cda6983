/- The examples of the chapter on the season hold: the tied card. -/
import Derived.Test.YtdlfkbpddfeenaaGreatDoorJ11

set_option linter.all false

namespace Go.Proofs.YtdlfkbpddfeenaaGreatDoor
open Go.ChangeShapes Go.WideShapes Go.ChangeAt Go.RowKit Go.E
theorem seasonKnown_holds : Rows.SeasonKnownCardSaid :=
 Claim7.holds_tied_plain_at .later [] [.data, .data, .data, .data, .sentinel, .sentinel, .pinned] true (true, "6995127973fa9d6a5f95c87759e67b76f3a98163e0d497ee3cf0cdf4ba704b30") true seasonKnown_row (fun _ h => by cases h) (by kernel_rfl) (fun _ h => by cases h) seasonKnown_row_tie rfl ⟨rfl, rfl⟩ (by kernel_rfl) rfl
  (fun f fn hf hfn => by
   obtain rfl : f = 16 := Option.some.inj ((show Tryz.prog.funcNamed "pennyfall/pennyfalllaw12.SeasonKnown" = some 16 by kernel_rfl).symm.trans hf) |>.symm
   obtain rfl : fn = Tryz.f16 := (Option.some.inj (Tryz.func16.symm.trans hfn)).symm
   exact ⟨by kernel_rfl, fun j t ht => by
    rw [Tryz.params16] at ht;simp at ht⟩)
  (by kernel_rfl)
end Go.Proofs.YtdlfkbpddfeenaaGreatDoor
