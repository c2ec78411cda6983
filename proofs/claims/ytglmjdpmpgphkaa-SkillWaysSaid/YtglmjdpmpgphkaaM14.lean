/- The code of a law in the value semantics. -/
import Derived.Test.YtglmjdpmpgphkaaM13

set_option linter.all false

namespace Go.Proofs.Ytglmjdpmpgphkaa.Sk
open Go Go.E

/-! 5 pennyfall/pennyfalllaw03.SkillWays, 3 and 0 -/
def c5r0 : List AOper := [
 ⟨some 3, none, .boxS (.t 0)⟩,
 ⟨some 6, none, .mov (.c (.s (.bool false)))⟩]
def c5r1 : List AOper := [
 ⟨some 15, none, .load 3 true (.t 3)⟩,
 ⟨some 16, none, .call 16 [(.t 15)]⟩,
 ⟨some 17, none, .mov (.t 16)⟩,
 ⟨some 18, some (17, false), .mov (.t 2)⟩,
 ⟨some 19, some (17, false), .len false (.t 18)⟩,
 ⟨some 20, some (17, false), .cmp .gtr (.t 19) (.c (.s (.int .i64 20)))⟩,
 ⟨some 21, none, .pick (.t 17) (.c (.s (.bool true))) (.t 20)⟩]
def c5r2 : List AOper := [
 ⟨some 22, none, .call 17 []⟩,
 ⟨some 6, none, .mov (.t 22)⟩]
def c5r3 : List AOper := [
 ⟨some 24, none, .load 3 true (.t 3)⟩,
 ⟨some 25, none, .call 29 [(.t 24)]⟩,
 ⟨some 23, none, .mov (.t 25)⟩,
 ⟨some 26, none, .ext (.t 23) 0⟩,
 ⟨some 27, none, .ext (.t 23) 1⟩,
 ⟨some 7, none, .mov (.t 26)⟩,
 ⟨some 8, none, .mov (.t 27)⟩]
def c5r4 : List AOper := [
 ⟨some 29, none, .load 3 true (.t 3)⟩,
 ⟨some 30, none, .call 30 [(.t 29)]⟩,
 ⟨some 28, none, .mov (.t 30)⟩,
 ⟨some 31, none, .ext (.t 28) 0⟩,
 ⟨some 32, none, .ext (.t 28) 1⟩,
 ⟨some 9, none, .mov (.t 31)⟩,
 ⟨some 10, none, .mov (.t 32)⟩]
def c5r5 : List AOper := [
 ⟨some 34, none, .load 3 true (.t 3)⟩,
 ⟨some 35, none, .call 31 [(.t 34)]⟩,
 ⟨some 33, none, .mov (.t 35)⟩,
 ⟨some 36, none, .ext (.t 33) 0⟩,
 ⟨some 37, none, .ext (.t 33) 1⟩,
 ⟨some 11, none, .mov (.t 36)⟩,
 ⟨some 12, none, .mov (.t 37)⟩]
def c5r6 : List AOper := [
 ⟨some 39, none, .load 3 true (.t 3)⟩,
 ⟨some 40, none, .call 32 [(.t 39)]⟩,
 ⟨some 38, none, .mov (.t 40)⟩,
 ⟨some 41, none, .ext (.t 38) 0⟩,
 ⟨some 42, none, .ext (.t 38) 1⟩,
 ⟨some 13, none, .mov (.t 41)⟩,
 ⟨some 14, none, .mov (.t 42)⟩]
def c5r7 : List AOper := [
 ⟨some 43, none, .load 3 true (.t 3)⟩,
 ⟨some 44, none, .mov (.t 1)⟩,
 ⟨some 45, none, .mov (.t 2)⟩,
 ⟨some 46, none, .call 33 [(.t 43), (.t 44), (.t 45)]⟩,
 ⟨some 47, none, .load 3 true (.t 3)⟩,
 ⟨some 48, none, .mov (.t 1)⟩,
 ⟨some 49, none, .mov (.t 2)⟩,
 ⟨some 50, none, .call 34 [(.t 47), (.t 48), (.t 49)]⟩,
 ⟨some 51, none, .cmp .eql (.t 46) (.t 50)⟩,
 ⟨some 52, none, .mov (.t 51)⟩,
 ⟨some 53, some (52, true), .mov (.t 7)⟩,
 ⟨some 54, some (52, true), .mov (.t 9)⟩,
 ⟨some 55, some (52, true), .call 22 [(.t 53), (.t 54)]⟩,
 ⟨some 56, none, .pick (.t 52) (.t 55) (.c (.s (.bool false)))⟩,
 ⟨some 57, none, .mov (.t 56)⟩,
 ⟨some 58, some (57, true), .mov (.t 8)⟩,
 ⟨some 59, some (57, true), .mov (.t 10)⟩,
 ⟨some 60, some (57, true), .cmp .eql (.t 58) (.t 59)⟩,
 ⟨some 61, none, .pick (.t 57) (.t 60) (.c (.s (.bool false)))⟩,
 ⟨some 62, none, .mov (.t 61)⟩,
 ⟨some 63, some (62, true), .mov (.t 11)⟩,
 ⟨some 64, some (62, true), .mov (.t 13)⟩,
 ⟨some 65, some (62, true), .call 22 [(.t 63), (.t 64)]⟩,
 ⟨some 66, none, .pick (.t 62) (.t 65) (.c (.s (.bool false)))⟩,
 ⟨some 67, none, .mov (.t 66)⟩,
 ⟨some 68, some (67, true), .mov (.t 12)⟩,
 ⟨some 69, some (67, true), .mov (.t 14)⟩,
 ⟨some 70, some (67, true), .cmp .eql (.t 68) (.t 69)⟩,
 ⟨some 71, none, .pick (.t 67) (.t 70) (.c (.s (.bool false)))⟩,
 ⟨some 72, none, .mov (.t 71)⟩,
 ⟨some 73, some (72, true), .call 17 []⟩,
 ⟨some 74, none, .pick (.t 72) (.t 73) (.c (.s (.bool false)))⟩,
 ⟨some 6, none, .mov (.t 74)⟩]
def f5 : FRow := ⟨(.seq (.reg 0 c5r0) (.seq (.seq (.reg 0 c5r1) (.cond (.t 21) (.seq (.reg 0 c5r2) .ret) .skip)) (.seq (.reg 0 c5r3) (.seq (.reg 0 c5r4) (.seq (.reg 0 c5r5) (.seq (.reg 0 c5r6) (.seq (.reg 0 c5r7) .ret))))))), [.tmp 6], 75⟩
theorem okf5 : f5.Ok Try.prog 5 := ⟨_, _, Try.func5, rfl, by kernel_rfl, by kernel_rfl, by kernel_rfl⟩


end Go.Proofs.Ytglmjdpmpgphkaa.Sk

/- SkillWays, reckoned: at every machine and way it answers true. -/
namespace Go.Proofs.Ytglmjdpmpgphkaa.Sk
open Go Go.E Go.E.Sm
set_option maxRecDepth 10000

theorem law5 {pl wn : List Bool} {mv : List (List Int)} {p : Bool} {Y : List Int} : E.Fn Try.prog 5 [mach pl mv wn, .bool p, ints Y] [.bool true] := by
  refine fn_of_row okf5 ?_
  simp only [FRow.start, f5, c5r0, c5r1, mach, bools, ints, go_sem, ↓reduceIte, reduceCtorEq, Nat.reduceAdd, Nat.reduceSub, Nat.reduceLT, Nat.reduceLeDiff]
  refine callK_of rfl (k16 (pl := pl) (mv := mv) (wn := wn)) (.inl rfl) ?_
  have wk : ∀ k : AK, k (LV.ofResults [.bool true]) [] none True → callK Try.prog [] 17 [] k := fun k hk => callK_of rfl works_ok (.inl rfl) hk
  cases hg : greatB pl mv wn with
  | true =>
    simp only [c5r2, go_sem, ↓reduceIte, reduceCtorEq, Nat.reduceAdd, Nat.reduceSub, Nat.reduceLT, Nat.reduceLeDiff]
    refine wk _ ?_
    simp only [go_sem, ↓reduceIte, reduceCtorEq, Nat.reduceAdd, Nat.reduceSub, Nat.reduceLT, Nat.reduceLeDiff]
  | false =>
    simp only [go_sem, ↓reduceIte, reduceCtorEq, Nat.reduceAdd, Nat.reduceSub, Nat.reduceLT, Nat.reduceLeDiff]
    intro _
    refine ⟨fun hR => ?_, fun hR => ?_⟩
    · simp only [c5r2, go_sem, ↓reduceIte, reduceCtorEq, Nat.reduceAdd, Nat.reduceSub, Nat.reduceLT, Nat.reduceLeDiff]
      refine wk _ ?_
      simp only [go_sem, ↓reduceIte, reduceCtorEq, Nat.reduceAdd, Nat.reduceSub, Nat.reduceLT, Nat.reduceLeDiff]
    · obtain ⟨D, e, hd⟩ := waysR_eq pl mv wn true
      obtain ⟨D2, e2, hd2⟩ := waysR_eq pl mv wn false
      simp only [c5r3, go_sem, ↓reduceIte, reduceCtorEq, Nat.reduceAdd, Nat.reduceSub, Nat.reduceLT, Nat.reduceLeDiff]
      refine callK_of rfl (k29 (pl := pl) (mv := mv) (wn := wn)) (.inr rfl) ?_
      rw [hd]
      simp only [c5r4, go_sem, ↓reduceIte, reduceCtorEq, Nat.reduceAdd, Nat.reduceSub, Nat.reduceLT, Nat.reduceLeDiff]
      refine callK_of rfl (k30 (pl := pl) (mv := mv) (wn := wn)) (.inr rfl) ?_
      rw [hd]
      simp only [c5r5, go_sem, ↓reduceIte, reduceCtorEq, Nat.reduceAdd, Nat.reduceSub, Nat.reduceLT, Nat.reduceLeDiff]
      refine callK_of rfl (k31 (pl := pl) (mv := mv) (wn := wn)) (.inr rfl) ?_
      rw [hd2]
      simp only [c5r6, go_sem, ↓reduceIte, reduceCtorEq, Nat.reduceAdd, Nat.reduceSub, Nat.reduceLT, Nat.reduceLeDiff]
      refine callK_of rfl (k32 (pl := pl) (mv := mv) (wn := wn)) (.inr rfl) ?_
      rw [hd2]
      simp only [c5r7, go_sem, ↓reduceIte, reduceCtorEq, Nat.reduceAdd, Nat.reduceSub, Nat.reduceLT, Nat.reduceLeDiff]
      refine callK_of rfl (k33 (pl := pl) (mv := mv) (wn := wn) (p := p) (Y := Y)) (.inl rfl) ?_
      simp only [go_sem, ↓reduceIte, reduceCtorEq, Nat.reduceAdd, Nat.reduceSub, Nat.reduceLT, Nat.reduceLeDiff]
      refine callK_of rfl (k34 (pl := pl) (mv := mv) (wn := wn) (p := p) (Y := Y)) (.inl rfl) ?_
      simp only [go_sem, ↓reduceIte, reduceCtorEq, Nat.reduceAdd, Nat.reduceSub, Nat.reduceLT, Nat.reduceLeDiff]
      refine callK_of rfl (k22 (a := D) (b := D)) (.inl rfl) ?_
      simp only [go_sem, ↓reduceIte, reduceCtorEq, Nat.reduceAdd, Nat.reduceSub, Nat.reduceLT, Nat.reduceLeDiff]
      refine callK_of rfl (k22 (a := D2) (b := D2)) (.inl rfl) ?_
      simp only [go_sem, ↓reduceIte, reduceCtorEq, Nat.reduceAdd, Nat.reduceSub, Nat.reduceLT, Nat.reduceLeDiff]
      refine wk _ ?_
      simp only [go_sem, ↓reduceIte, reduceCtorEq, Nat.reduceAdd, Nat.reduceSub, Nat.reduceLT, Nat.reduceLeDiff]
end Go.Proofs.Ytglmjdpmpgphkaa.Sk
