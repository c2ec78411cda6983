/- The code of a law in the value semantics. -/
import Derived.Test.YtmcjoahnlbckoaaJ11

set_option linter.all false

namespace Go.Proofs.Ytmcjoahnlbckoaa.Sk
open Go Go.E
def c4r0 : List AOper := [
 oP 2 (.boxS (.t 0)),
 oP 4 (.mov bF)]
def c4r1 : List AOper := [
 oP 17 (.load 2 true (.t 2)),
 oP 18 (.call 17 [(.t 17)])]
def c4r2 : List AOper := [
 oP 19 (.call 18 []),
 oM 4 19]
def c4r3 : List AOper := [
 oP 21 (.load 2 true (.t 2)),
 oP 22 (.call 27 [(.t 21)]),
 oM 20 22,
 oP 23 (.ext (.t 20) 0),
 oP 24 (.ext (.t 20) 1),
 oM 5 23,
 oM 6 24]
def c4r4 : List AOper := [
 oP 26 (.load 2 true (.t 2)),
 oP 27 (.call 28 [(.t 26)]),
 oM 25 27,
 oP 28 (.ext (.t 25) 0),
 oP 29 (.ext (.t 25) 1),
 oM 7 28,
 oM 8 29]
def c4r5 : List AOper := [
 oP 31 (.load 2 true (.t 2)),
 oP 32 (.call 29 [(.t 31)]),
 oM 30 32,
 oP 33 (.ext (.t 30) 0),
 oP 34 (.ext (.t 30) 1),
 oM 9 33,
 oM 10 34]
def c4r6 : List AOper := [
 oP 36 (.load 2 true (.t 2)),
 oP 37 (.call 30 [(.t 36)]),
 oM 35 37,
 oP 38 (.ext (.t 35) 0),
 oP 39 (.ext (.t 35) 1),
 oM 11 38,
 oM 12 39]
def c4r7 : List AOper := [
 oP 41 (.load 2 true (.t 2)),
 oM 42 1,
 oP 43 (.call 31 [(.t 41), (.t 42)]),
 oM 40 43,
 oP 44 (.ext (.t 40) 0),
 oP 45 (.ext (.t 40) 1),
 oM 13 44,
 oM 14 45]
def c4r8 : List AOper := [
 oP 47 (.load 2 true (.t 2)),
 oM 48 1,
 oP 49 (.call 32 [(.t 47), (.t 48)]),
 oM 46 49,
 oP 50 (.ext (.t 46) 0),
 oP 51 (.ext (.t 46) 1),
 oM 15 50,
 oM 16 51]
def c4r9 : List AOper := [
 oM 52 5,
 oM 53 7,
 oP 54 (.cmp .eql (.t 52) (.t 53)),
 oM 55 54,
 oH 56 55 true 6,
 oH 57 55 true 8,
 oG 58 55 true (.cmp .eql (.t 56) (.t 57)),
 oP 59 (.pick (.t 55) (.t 58) bF),
 oM 60 59,
 oH 61 60 true 9,
 oH 62 60 true 11,
 oG 63 60 true (.call 33 [(.t 61), (.t 62)]),
 oP 64 (.pick (.t 60) (.t 63) bF),
 oM 65 64,
 oH 66 65 true 10,
 oH 67 65 true 12,
 oG 68 65 true (.cmp .eql (.t 66) (.t 67)),
 oP 69 (.pick (.t 65) (.t 68) bF),
 oM 70 69,
 oH 71 70 true 13,
 oH 72 70 true 15,
 oG 73 70 true (.cmp .eql (.t 71) (.t 72)),
 oP 74 (.pick (.t 70) (.t 73) bF),
 oM 75 74,
 oH 76 75 true 14,
 oH 77 75 true 16,
 oG 78 75 true (.cmp .eql (.t 76) (.t 77)),
 oP 79 (.pick (.t 75) (.t 78) bF),
 oM 80 79,
 oG 81 80 true (.call 18 []),
 oP 82 (.pick (.t 80) (.t 81) bF),
 oM 4 82]
def f4 : FRow := ⟨(.seq (.reg 0 c4r0) (.seq (.seq (.reg 0 c4r1) (.cond (.t 18) (.seq (.reg 0 c4r2) .ret) .skip)) (.seq (.reg 0 c4r3) (.seq (.reg 0 c4r4) (.seq (.reg 0 c4r5) (.seq (.reg 0 c4r6) (.seq (.reg 0 c4r7) (.seq (.reg 0 c4r8) (.seq (.reg 0 c4r9) .ret))))))))), [.tmp 4], 83⟩
theorem okf4 : f4.Ok Try.prog 4 := ⟨_, _, Try.func4, rfl, by kernel_rfl, by kernel_rfl, by kernel_rfl⟩
end Go.Proofs.Ytmcjoahnlbckoaa.Sk

/- RingFewests, reckoned: at every book and number of rings it answers true. -/
namespace Go.Proofs.Ytmcjoahnlbckoaa.Sk
open Go Go.E Go.E.Sm
set_option maxRecDepth 10000
theorem law4 {K Q : List (Int × Int)} {m : Int} : E.Fn Try.prog 4 [bk K Q, .int .i64 m] [.bool true] := by
 refine fn_of_row okf4 ?_
 simp only [FRow.start, f4, c4r0, c4r1, bk, SV.cells, go_sem, Nat.reduceAdd, Nat.reduceSub]
 refine callK_of (by simp only [bk, go_sem]) (k17 (K := K) (Q := Q)) (.inl rfl) ?_
 cases hg : greatB K Q with
 | true =>
  simp only [c4r2, go_sem]
  refine wk ?_
  simp only [go_sem]
 | false =>
  have h28 := k28 (K := K) (Q := Q)
  have h29 := k29 (K := K) (Q := Q)
  have h30 := k30 (K := K) (Q := Q)
  have h32 := k32 (K := K) (Q := Q) (m := m)
  rw [fewR_eq] at h28
  rw [rngR_eq] at h30
  rw [couR_eq] at h32
  obtain ⟨l, e, hd⟩ : ∃ (l : List Int) (e : Int), rngR K Q = [ints l, .int .i64 e] := by
   unfold rngR
   split
   ·exact ⟨_, _, rfl⟩
   ·exact ⟨[], _, rfl⟩
  rw [hd] at h29 h30
  simp only [c4r3, go_sem, Nat.reduceAdd]
  refine callK_of (by simp only [bk, go_sem]) (k27 (K := K) (Q := Q)) (.inl rfl) ?_
  simp only [c4r4, go_sem, Nat.reduceAdd]
  refine callK_of (by simp only [bk, go_sem]) h28 (.inl rfl) ?_
  simp only [c4r5, go_sem, Nat.reduceAdd]
  refine callK_of (by simp only [bk, go_sem]) h29 (.inr (by simp only [bk, go_sem])) ?_
  simp only [c4r6, go_sem, Nat.reduceAdd]
  refine callK_of (by simp only [bk, go_sem]) h30 (.inr (by simp only [bk, go_sem])) ?_
  simp only [c4r7, go_sem, Nat.reduceAdd]
  refine callK_of (by simp only [bk, go_sem]) (k31 (K := K) (Q := Q) (m := m)) (.inl rfl) ?_
  simp only [c4r8, go_sem, Nat.reduceAdd]
  refine callK_of (by simp only [bk, go_sem]) h32 (.inl rfl) ?_
  simp only [c4r9, go_sem]
  refine callK_of (by simp only [go_sem]) (k33 (xs := l) (ys := l)) (.inl rfl) ?_
  simp only [go_sem]
  refine wk ?_
  simp only [go_sem]
end Go.Proofs.Ytmcjoahnlbckoaa.Sk
