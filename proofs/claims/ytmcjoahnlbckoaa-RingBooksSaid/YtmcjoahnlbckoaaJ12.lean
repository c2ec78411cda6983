/- The code of a law in the value semantics. -/
import Derived.Test.YtmcjoahnlbckoaaJ11

set_option linter.all false

namespace Go.Proofs.Ytmcjoahnlbckoaa.Sk
open Go Go.E
def c3r0 : List AOper := [
 oP 4 (.boxS (.t 0)),
 oP 8 (.mov bF)]
def c3r1 : List AOper := [
 oP 19 (.load 2 true (.t 4)),
 oP 20 (.call 17 [(.t 19)]),
 oM 21 20,
 oH 22 21 false 3,
 oG 23 21 false (.len false (.t 22)),
 oG 24 21 false (.cmp .gtr (.t 23) (nI 20)),
 oP 25 (.pick (.t 21) bT (.t 24))]
def c3r2 : List AOper := [
 oP 26 (.call 18 []),
 oM 8 26]
def c3r3 : List AOper := [
 oP 28 (.load 2 true (.t 4)),
 oM 29 3,
 oP 30 (.call 19 [(.t 28), (.t 29)]),
 oM 27 30,
 oP 31 (.ext (.t 27) 0),
 oP 32 (.ext (.t 27) 1),
 oM 9 31,
 oM 10 32]
def c3r4 : List AOper := [
 oP 34 (.load 2 true (.t 4)),
 oM 35 3,
 oP 36 (.call 20 [(.t 34), (.t 35)]),
 oM 33 36,
 oP 37 (.ext (.t 33) 0),
 oP 38 (.ext (.t 33) 1),
 oM 11 37,
 oM 12 38]
def c3r5 : List AOper := [
 oP 40 (.load 2 true (.t 4)),
 oP 41 (.call 21 [(.t 40)]),
 oM 39 41,
 oP 42 (.ext (.t 39) 0),
 oP 43 (.ext (.t 39) 1),
 oP 44 (.ext (.t 39) 2),
 oM 13 42,
 oM 14 43,
 oM 15 44]
def c3r6 : List AOper := [
 oP 46 (.load 2 true (.t 4)),
 oP 47 (.call 22 [(.t 46)]),
 oM 45 47,
 oP 48 (.ext (.t 45) 0),
 oP 49 (.ext (.t 45) 1),
 oP 50 (.ext (.t 45) 2),
 oM 16 48,
 oM 17 49,
 oM 18 50]
def c3r7 : List AOper := [
 oP 51 (.load 2 true (.t 4)),
 oP 52 (.call 23 [(.t 51)]),
 oP 53 (.load 2 true (.t 4)),
 oP 54 (.call 24 [(.t 53)]),
 oP 55 (.cmp .eql (.t 52) (.t 54)),
 oM 56 55,
 oG 57 56 true (.load 2 true (.t 4)),
 oH 58 56 true 1,
 oH 59 56 true 2,
 oG 60 56 true (.call 25 [(.t 57), (.t 58), (.t 59)]),
 oG 61 56 true (.load 2 true (.t 4)),
 oH 62 56 true 1,
 oH 63 56 true 2,
 oG 64 56 true (.call 26 [(.t 61), (.t 62), (.t 63)]),
 oG 65 56 true (.cmp .eql (.t 60) (.t 64)),
 oP 66 (.pick (.t 56) (.t 65) bF),
 oM 67 66,
 oH 68 67 true 9,
 oH 69 67 true 11,
 oG 70 67 true (.cmp .eql (.t 68) (.t 69)),
 oP 71 (.pick (.t 67) (.t 70) bF),
 oM 72 71,
 oH 73 72 true 10,
 oH 74 72 true 12,
 oG 75 72 true (.cmp .eql (.t 73) (.t 74)),
 oP 76 (.pick (.t 72) (.t 75) bF),
 oM 77 76,
 oH 78 77 true 13,
 oH 79 77 true 16,
 oG 80 77 true (.cmp .eql (.t 78) (.t 79)),
 oP 81 (.pick (.t 77) (.t 80) bF),
 oM 82 81,
 oH 83 82 true 14,
 oH 84 82 true 17,
 oG 85 82 true (.cmp .eql (.t 83) (.t 84)),
 oP 86 (.pick (.t 82) (.t 85) bF),
 oM 87 86,
 oH 88 87 true 15,
 oH 89 87 true 18,
 oG 90 87 true (.cmp .eql (.t 88) (.t 89)),
 oP 91 (.pick (.t 87) (.t 90) bF),
 oM 92 91,
 oG 93 92 true (.call 18 []),
 oP 94 (.pick (.t 92) (.t 93) bF),
 oM 8 94]
def f3 : FRow := ⟨(.seq (.reg 0 c3r0) (.seq (.seq (.reg 0 c3r1) (.cond (.t 25) (.seq (.reg 0 c3r2) .ret) .skip)) (.seq (.reg 0 c3r3) (.seq (.reg 0 c3r4) (.seq (.reg 0 c3r5) (.seq (.reg 0 c3r6) (.seq (.reg 0 c3r7) .ret))))))), [.tmp 8], 95⟩
theorem okf3 : f3.Ok Try.prog 3 := ⟨_, _, Try.func3, rfl, by kernel_rfl, by kernel_rfl, by kernel_rfl⟩
end Go.Proofs.Ytmcjoahnlbckoaa.Sk

/- RingBooks, reckoned: at every book, two keys and rings it answers true. -/
namespace Go.Proofs.Ytmcjoahnlbckoaa.Sk
open Go Go.E Go.E.Sm
set_option maxRecDepth 10000
theorem law3 {K Q : List (Int × Int)} {one two : Int} {rings : List Int} : E.Fn Try.prog 3 [bk K Q, .int .i64 one, .int .i64 two, ints rings] [.bool true] := by
 refine fn_of_row okf3 ?_
 simp only [FRow.start, f3, c3r0, c3r1, bk, SV.cells, go_sem, ↓reduceIte, reduceCtorEq, Nat.reduceAdd, Nat.reduceSub, Nat.reduceLT, Nat.reduceLeDiff, Int.reduceLE, Int.reduceLT, Int.reduceToNat, Nat.reduceMul, Int.reduceNeg]
 refine callK_of (by simp only [bk, go_sem, ↓reduceIte, reduceCtorEq, Nat.reduceAdd, Nat.reduceSub, Nat.reduceLT, Nat.reduceLeDiff, Int.reduceLE, Int.reduceLT, Int.reduceToNat, Nat.reduceMul, Int.reduceNeg]) (k17 (K := K) (Q := Q)) (.inl rfl) ?_
 have hgo : ∀ (fr : List LV), True := fun _ => trivial
 cases hg : greatB K Q with
 | true =>
  simp only [c3r2, go_sem, ↓reduceIte, reduceCtorEq, Nat.reduceAdd, Nat.reduceSub, Nat.reduceLT, Nat.reduceLeDiff, Int.reduceLE, Int.reduceLT, Int.reduceToNat, Nat.reduceMul, Int.reduceNeg]
  refine wk ?_
  simp only [go_sem, ↓reduceIte, reduceCtorEq, Nat.reduceAdd, Nat.reduceSub, Nat.reduceLT, Nat.reduceLeDiff, Int.reduceLE, Int.reduceLT, Int.reduceToNat, Nat.reduceMul, Int.reduceNeg]
 | false =>
  simp only [ints, go_sem, ↓reduceIte, reduceCtorEq, Nat.reduceAdd, Nat.reduceSub, Nat.reduceLT, Nat.reduceLeDiff, Int.reduceLE, Int.reduceLT, Int.reduceToNat, Nat.reduceMul, Int.reduceNeg]
  intro _
  refine ⟨fun h1 => ?_, fun h1 => ?_⟩
  ·simp only [c3r2, go_sem, ↓reduceIte, reduceCtorEq, Nat.reduceAdd, Nat.reduceSub, Nat.reduceLT, Nat.reduceLeDiff, Int.reduceLE, Int.reduceLT, Int.reduceToNat, Nat.reduceMul, Int.reduceNeg]
   refine wk ?_
   simp only [go_sem, ↓reduceIte, reduceCtorEq, Nat.reduceAdd, Nat.reduceSub, Nat.reduceLT, Nat.reduceLeDiff, Int.reduceLE, Int.reduceLT, Int.reduceToNat, Nat.reduceMul, Int.reduceNeg]
  ·have hd1 := k21 (K := K) (Q := Q)
   have hd2 := k22 (K := K) (Q := Q)
   rw [dayR_eq] at hd2
   obtain ⟨a, b, c, hd⟩ : ∃ a b c : Int, dayR K Q = [.int .i64 a, .int .i64 b, .int .i64 c] := by
    unfold dayR
    split
    ·exact ⟨_, _, _, rfl⟩
    ·exact ⟨_, _, _, rfl⟩
   rw [hd] at hd1 hd2
   simp only [c3r3, go_sem, ↓reduceIte, reduceCtorEq, Nat.reduceAdd, Nat.reduceSub, Nat.reduceLT, Nat.reduceLeDiff, Int.reduceLE, Int.reduceLT, Int.reduceToNat, Nat.reduceMul, Int.reduceNeg]
   refine callK_of (by simp only [bk, ints, go_sem, ↓reduceIte, reduceCtorEq, Nat.reduceAdd, Nat.reduceSub, Nat.reduceLT, Nat.reduceLeDiff, Int.reduceLE, Int.reduceLT, Int.reduceToNat, Nat.reduceMul, Int.reduceNeg]) (k19 (K := K) (Q := Q) (rings := rings)) (.inl rfl) ?_
   simp only [c3r4, go_sem, ↓reduceIte, reduceCtorEq, Nat.reduceAdd, Nat.reduceSub, Nat.reduceLT, Nat.reduceLeDiff, Int.reduceLE, Int.reduceLT, Int.reduceToNat, Nat.reduceMul, Int.reduceNeg]
   refine callK_of (by simp only [bk, ints, go_sem, ↓reduceIte, reduceCtorEq, Nat.reduceAdd, Nat.reduceSub, Nat.reduceLT, Nat.reduceLeDiff, Int.reduceLE, Int.reduceLT, Int.reduceToNat, Nat.reduceMul, Int.reduceNeg]) (k20 (K := K) (Q := Q) (rings := rings)) (.inl rfl) ?_
   simp only [c3r5, go_sem, ↓reduceIte, reduceCtorEq, Nat.reduceAdd, Nat.reduceSub, Nat.reduceLT, Nat.reduceLeDiff, Int.reduceLE, Int.reduceLT, Int.reduceToNat, Nat.reduceMul, Int.reduceNeg]
   refine callK_of (by simp only [bk, go_sem, ↓reduceIte, reduceCtorEq, Nat.reduceAdd, Nat.reduceSub, Nat.reduceLT, Nat.reduceLeDiff, Int.reduceLE, Int.reduceLT, Int.reduceToNat, Nat.reduceMul, Int.reduceNeg]) hd1 (.inl rfl) ?_
   simp only [c3r6, go_sem, ↓reduceIte, reduceCtorEq, Nat.reduceAdd, Nat.reduceSub, Nat.reduceLT, Nat.reduceLeDiff, Int.reduceLE, Int.reduceLT, Int.reduceToNat, Nat.reduceMul, Int.reduceNeg]
   refine callK_of (by simp only [bk, go_sem, ↓reduceIte, reduceCtorEq, Nat.reduceAdd, Nat.reduceSub, Nat.reduceLT, Nat.reduceLeDiff, Int.reduceLE, Int.reduceLT, Int.reduceToNat, Nat.reduceMul, Int.reduceNeg]) hd2 (.inl rfl) ?_
   simp only [c3r7, go_sem, ↓reduceIte, reduceCtorEq, Nat.reduceAdd, Nat.reduceSub, Nat.reduceLT, Nat.reduceLeDiff, Int.reduceLE, Int.reduceLT, Int.reduceToNat, Nat.reduceMul, Int.reduceNeg]
   refine callK_of (by simp only [bk, go_sem, ↓reduceIte, reduceCtorEq, Nat.reduceAdd, Nat.reduceSub, Nat.reduceLT, Nat.reduceLeDiff, Int.reduceLE, Int.reduceLT, Int.reduceToNat, Nat.reduceMul, Int.reduceNeg]) (k23 (K := K) (Q := Q)) (.inl rfl) ?_
   simp only [go_sem, ↓reduceIte, reduceCtorEq, Nat.reduceAdd, Nat.reduceSub, Nat.reduceLT, Nat.reduceLeDiff, Int.reduceLE, Int.reduceLT, Int.reduceToNat, Nat.reduceMul, Int.reduceNeg]
   refine callK_of (by simp only [bk, go_sem, ↓reduceIte, reduceCtorEq, Nat.reduceAdd, Nat.reduceSub, Nat.reduceLT, Nat.reduceLeDiff, Int.reduceLE, Int.reduceLT, Int.reduceToNat, Nat.reduceMul, Int.reduceNeg]) (k24 (K := K) (Q := Q)) (.inl rfl) ?_
   simp only [go_sem, ↓reduceIte, reduceCtorEq, Nat.reduceAdd, Nat.reduceSub, Nat.reduceLT, Nat.reduceLeDiff, Int.reduceLE, Int.reduceLT, Int.reduceToNat, Nat.reduceMul, Int.reduceNeg]
   refine callK_of (by simp only [bk, go_sem, ↓reduceIte, reduceCtorEq, Nat.reduceAdd, Nat.reduceSub, Nat.reduceLT, Nat.reduceLeDiff, Int.reduceLE, Int.reduceLT, Int.reduceToNat, Nat.reduceMul, Int.reduceNeg]) (k25 (K := K) (Q := Q) (one := one) (two := two)) (.inl rfl) ?_
   simp only [go_sem, ↓reduceIte, reduceCtorEq, Nat.reduceAdd, Nat.reduceSub, Nat.reduceLT, Nat.reduceLeDiff, Int.reduceLE, Int.reduceLT, Int.reduceToNat, Nat.reduceMul, Int.reduceNeg]
   refine callK_of (by simp only [bk, go_sem, ↓reduceIte, reduceCtorEq, Nat.reduceAdd, Nat.reduceSub, Nat.reduceLT, Nat.reduceLeDiff, Int.reduceLE, Int.reduceLT, Int.reduceToNat, Nat.reduceMul, Int.reduceNeg]) (k26 (K := K) (Q := Q) (one := one) (two := two)) (.inl rfl) ?_
   simp only [go_sem, ↓reduceIte, reduceCtorEq, Nat.reduceAdd, Nat.reduceSub, Nat.reduceLT, Nat.reduceLeDiff, Int.reduceLE, Int.reduceLT, Int.reduceToNat, Nat.reduceMul, Int.reduceNeg]
   refine wk ?_
   simp only [go_sem, ↓reduceIte, reduceCtorEq, Nat.reduceAdd, Nat.reduceSub, Nat.reduceLT, Nat.reduceLeDiff, Int.reduceLE, Int.reduceLT, Int.reduceToNat, Nat.reduceMul, Int.reduceNeg]
end Go.Proofs.Ytmcjoahnlbckoaa.Sk
