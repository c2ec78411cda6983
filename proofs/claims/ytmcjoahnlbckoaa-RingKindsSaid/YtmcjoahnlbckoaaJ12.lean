/- The code of a law in the value semantics. -/
import Derived.Test.YtmcjoahnlbckoaaJ11

set_option linter.all false

namespace Go.Proofs.Ytmcjoahnlbckoaa.Sk
open Go Go.E
def c6r0 : List AOper := [
 oP 3 (.boxS (.t 0)),
 oP 6 (.mov bF)]
def c6r1 : List AOper := [
 oP 11 (.load 2 true (.t 3)),
 oP 12 (.call 17 [(.t 11)])]
def c6r2 : List AOper := [
 oP 13 (.call 18 []),
 oM 6 13]
def c6r3 : List AOper := [
 oP 15 (.load 2 true (.t 3)),
 oM 16 1,
 oM 17 2,
 oP 18 (.call 43 [(.t 15), (.t 16), (.t 17)]),
 oM 14 18,
 oP 19 (.ext (.t 14) 0),
 oP 20 (.ext (.t 14) 1),
 oM 7 19,
 oM 8 20]
def c6r4 : List AOper := [
 oP 22 (.load 2 true (.t 3)),
 oM 23 1,
 oM 24 2,
 oP 25 (.call 44 [(.t 22), (.t 23), (.t 24)]),
 oM 21 25,
 oP 26 (.ext (.t 21) 0),
 oP 27 (.ext (.t 21) 1),
 oM 9 26,
 oM 10 27]
def c6r5 : List AOper := [
 oM 28 7,
 oM 29 9,
 oP 30 (.cmp .eql (.t 28) (.t 29)),
 oM 31 30,
 oH 32 31 true 8,
 oH 33 31 true 10,
 oG 34 31 true (.cmp .eql (.t 32) (.t 33)),
 oP 35 (.pick (.t 31) (.t 34) bF),
 oM 36 35,
 oG 37 36 true (.call 18 []),
 oP 38 (.pick (.t 36) (.t 37) bF),
 oM 6 38]
def f6 : FRow := ⟨(.seq (.reg 0 c6r0) (.seq (.seq (.reg 0 c6r1) (.cond (.t 12) (.seq (.reg 0 c6r2) .ret) .skip)) (.seq (.reg 0 c6r3) (.seq (.reg 0 c6r4) (.seq (.reg 0 c6r5) .ret))))), [.tmp 6], 39⟩
theorem okf6 : f6.Ok Try.prog 6 := ⟨_, _, Try.func6, rfl, by kernel_rfl, by kernel_rfl, by kernel_rfl⟩
end Go.Proofs.Ytmcjoahnlbckoaa.Sk

/- RingKinds, reckoned: at every book and two keys it answers true. -/
namespace Go.Proofs.Ytmcjoahnlbckoaa.Sk
open Go Go.E Go.E.Sm
set_option maxRecDepth 10000
theorem law6 {K Q : List (Int × Int)} {one two : Int} : E.Fn Try.prog 6 [bk K Q, .int .i64 one, .int .i64 two] [.bool true] := by
 refine fn_of_row okf6 ?_
 simp only [FRow.start, f6, c6r0, c6r1, bk, SV.cells, go_sem, Nat.reduceAdd, Nat.reduceSub]
 refine callK_of (by simp only [bk, go_sem]) (k17 (K := K) (Q := Q)) (.inl rfl) ?_
 cases hg : greatB K Q with
 | true =>
  simp only [c6r2, go_sem]
  refine wk ?_
  simp only [go_sem]
 | false =>
  have h44 := k44 (K := K) (Q := Q) (one := one) (two := two)
  rw [kndR_eq] at h44
  simp only [c6r3, go_sem, Nat.reduceAdd]
  refine callK_of (by simp only [bk, go_sem]) (k43 (K := K) (Q := Q) (one := one) (two := two)) (.inl rfl) ?_
  simp only [c6r4, go_sem, Nat.reduceAdd]
  refine callK_of (by simp only [bk, go_sem]) h44 (.inl rfl) ?_
  simp only [c6r5, go_sem]
  refine wk ?_
  simp only [go_sem]
end Go.Proofs.Ytmcjoahnlbckoaa.Sk
