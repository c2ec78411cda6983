/- The code of a law in the value semantics. -/
import Derived.Test.YtglmjdpmpgphkaaM13

set_option linter.all false

namespace Go.Proofs.Ytglmjdpmpgphkaa.Sk
open Go Go.E

/-! 4 pennyfall/pennyfalllaw03.SkillRanks, 3 and 0 -/
def c4r0 : List AOper := [
 ⟨some 3, none, .boxS (.t 0)⟩,
 ⟨some 6, none, .mov (.c (.s (.bool false)))⟩]
def c4r1 : List AOper := [
 ⟨some 15, none, .load 3 true (.t 3)⟩,
 ⟨some 16, none, .call 16 [(.t 15)]⟩,
 ⟨some 17, none, .mov (.t 16)⟩,
 ⟨some 18, some (17, false), .mov (.t 1)⟩,
 ⟨some 19, some (17, false), .len false (.t 18)⟩,
 ⟨some 20, some (17, false), .cmp .gtr (.t 19) (.c (.s (.int .i64 20)))⟩,
 ⟨some 21, none, .pick (.t 17) (.c (.s (.bool true))) (.t 20)⟩,
 ⟨some 22, none, .mov (.t 21)⟩,
 ⟨some 23, some (22, false), .mov (.t 2)⟩,
 ⟨some 24, some (22, false), .len false (.t 23)⟩,
 ⟨some 25, some (22, false), .cmp .gtr (.t 24) (.c (.s (.int .i64 20)))⟩,
 ⟨some 26, none, .pick (.t 22) (.c (.s (.bool true))) (.t 25)⟩]
def c4r2 : List AOper := [
 ⟨some 27, none, .call 17 []⟩,
 ⟨some 6, none, .mov (.t 27)⟩]
def c4r3 : List AOper := [
 ⟨some 29, none, .load 3 true (.t 3)⟩,
 ⟨some 30, none, .mov (.t 1)⟩,
 ⟨some 31, none, .call 23 [(.t 29), (.t 30)]⟩,
 ⟨some 28, none, .mov (.t 31)⟩,
 ⟨some 32, none, .ext (.t 28) 0⟩,
 ⟨some 33, none, .ext (.t 28) 1⟩,
 ⟨some 7, none, .mov (.t 32)⟩,
 ⟨some 8, none, .mov (.t 33)⟩]
def c4r4 : List AOper := [
 ⟨some 35, none, .load 3 true (.t 3)⟩,
 ⟨some 36, none, .mov (.t 1)⟩,
 ⟨some 37, none, .call 24 [(.t 35), (.t 36)]⟩,
 ⟨some 34, none, .mov (.t 37)⟩,
 ⟨some 38, none, .ext (.t 34) 0⟩,
 ⟨some 39, none, .ext (.t 34) 1⟩,
 ⟨some 9, none, .mov (.t 38)⟩,
 ⟨some 10, none, .mov (.t 39)⟩]
def c4r5 : List AOper := [
 ⟨some 41, none, .load 3 true (.t 3)⟩,
 ⟨some 42, none, .call 25 [(.t 41)]⟩,
 ⟨some 40, none, .mov (.t 42)⟩,
 ⟨some 43, none, .ext (.t 40) 0⟩,
 ⟨some 44, none, .ext (.t 40) 1⟩,
 ⟨some 11, none, .mov (.t 43)⟩,
 ⟨some 12, none, .mov (.t 44)⟩]
def c4r6 : List AOper := [
 ⟨some 46, none, .load 3 true (.t 3)⟩,
 ⟨some 47, none, .call 26 [(.t 46)]⟩,
 ⟨some 45, none, .mov (.t 47)⟩,
 ⟨some 48, none, .ext (.t 45) 0⟩,
 ⟨some 49, none, .ext (.t 45) 1⟩,
 ⟨some 13, none, .mov (.t 48)⟩,
 ⟨some 14, none, .mov (.t 49)⟩]
def c4r7 : List AOper := [
 ⟨some 50, none, .mov (.t 7)⟩,
 ⟨some 51, none, .mov (.t 9)⟩,
 ⟨some 52, none, .call 22 [(.t 50), (.t 51)]⟩,
 ⟨some 53, none, .mov (.t 52)⟩,
 ⟨some 54, some (53, true), .mov (.t 8)⟩,
 ⟨some 55, some (53, true), .mov (.t 10)⟩,
 ⟨some 56, some (53, true), .cmp .eql (.t 54) (.t 55)⟩,
 ⟨some 57, none, .pick (.t 53) (.t 56) (.c (.s (.bool false)))⟩,
 ⟨some 58, none, .mov (.t 57)⟩,
 ⟨some 59, some (58, true), .mov (.t 11)⟩,
 ⟨some 60, some (58, true), .mov (.t 13)⟩,
 ⟨some 61, some (58, true), .call 22 [(.t 59), (.t 60)]⟩,
 ⟨some 62, none, .pick (.t 58) (.t 61) (.c (.s (.bool false)))⟩,
 ⟨some 63, none, .mov (.t 62)⟩,
 ⟨some 64, some (63, true), .mov (.t 12)⟩,
 ⟨some 65, some (63, true), .mov (.t 14)⟩,
 ⟨some 66, some (63, true), .cmp .eql (.t 64) (.t 65)⟩,
 ⟨some 67, none, .pick (.t 63) (.t 66) (.c (.s (.bool false)))⟩,
 ⟨some 68, none, .mov (.t 67)⟩,
 ⟨some 69, some (68, true), .load 3 true (.t 3)⟩,
 ⟨some 70, some (68, true), .mov (.t 2)⟩,
 ⟨some 71, some (68, true), .call 27 [(.t 69), (.t 70)]⟩,
 ⟨some 72, some (68, true), .load 3 true (.t 3)⟩,
 ⟨some 73, some (68, true), .mov (.t 2)⟩,
 ⟨some 74, some (68, true), .call 28 [(.t 72), (.t 73)]⟩,
 ⟨some 75, some (68, true), .cmp .eql (.t 71) (.t 74)⟩,
 ⟨some 76, none, .pick (.t 68) (.t 75) (.c (.s (.bool false)))⟩,
 ⟨some 77, none, .mov (.t 76)⟩,
 ⟨some 78, some (77, true), .call 17 []⟩,
 ⟨some 79, none, .pick (.t 77) (.t 78) (.c (.s (.bool false)))⟩,
 ⟨some 6, none, .mov (.t 79)⟩]
def f4 : FRow := ⟨(.seq (.reg 0 c4r0) (.seq (.seq (.reg 0 c4r1) (.cond (.t 26) (.seq (.reg 0 c4r2) .ret) .skip)) (.seq (.reg 0 c4r3) (.seq (.reg 0 c4r4) (.seq (.reg 0 c4r5) (.seq (.reg 0 c4r6) (.seq (.reg 0 c4r7) .ret))))))), [.tmp 6], 80⟩
theorem okf4 : f4.Ok Try.prog 4 := ⟨_, _, Try.func4, rfl, by kernel_rfl, by kernel_rfl, by kernel_rfl⟩


end Go.Proofs.Ytglmjdpmpgphkaa.Sk

/- SkillRanks, reckoned: at every machine, ranks and keep it answers true. -/
namespace Go.Proofs.Ytglmjdpmpgphkaa.Sk
open Go Go.E Go.E.Sm
set_option maxRecDepth 10000

theorem ranksR_eq (pl : List Bool) (mv : List (List Int)) (wn : List Bool) (R : List Int) : ∃ (D : List Int) (e : Int), ranksR pl mv wn R = [ints D, .int .i64 e] := by
  unfold ranksR
  split
  · exact ⟨[], _, rfl⟩
  · split
    · exact ⟨[], _, rfl⟩
    · split
      · exact ⟨[], _, rfl⟩
      · split
        · exact ⟨_, _, rfl⟩
        · exact ⟨[], _, rfl⟩
theorem keepR_eq (pl : List Bool) (mv : List (List Int)) (wn : List Bool) : ∃ (D : List Int) (e : Int), keepR pl mv wn = [ints D, .int .i64 e] := by
  unfold keepR
  split
  · exact ⟨_, _, rfl⟩
  · exact ⟨[], _, rfl⟩

theorem law4 {pl wn : List Bool} {mv : List (List Int)} {R K : List Int} : E.Fn Try.prog 4 [mach pl mv wn, ints R, ints K] [.bool true] := by
  refine fn_of_row okf4 ?_
  simp only [FRow.start, f4, c4r0, c4r1, mach, bools, ints, go_sem, ↓reduceIte, reduceCtorEq, Nat.reduceAdd, Nat.reduceSub, Nat.reduceLT, Nat.reduceLeDiff]
  refine callK_of rfl (k16 (pl := pl) (mv := mv) (wn := wn)) (.inl rfl) ?_
  have wk : ∀ k : AK, k (LV.ofResults [.bool true]) [] none True → callK Try.prog [] 17 [] k := fun k hk => callK_of rfl works_ok (.inl rfl) hk
  cases hg : greatB pl mv wn with
  | true =>
    simp only [c4r2, go_sem, ↓reduceIte, reduceCtorEq, Nat.reduceAdd, Nat.reduceSub, Nat.reduceLT, Nat.reduceLeDiff]
    refine wk _ ?_
    simp only [go_sem, ↓reduceIte, reduceCtorEq, Nat.reduceAdd, Nat.reduceSub, Nat.reduceLT, Nat.reduceLeDiff]
  | false =>
    simp only [go_sem, ↓reduceIte, reduceCtorEq, Nat.reduceAdd, Nat.reduceSub, Nat.reduceLT, Nat.reduceLeDiff]
    refine ⟨fun hR _ => ?_, fun hR _ => ⟨fun hK => ?_, fun hK => ?_⟩⟩
    · simp only [c4r2, go_sem, ↓reduceIte, reduceCtorEq, Nat.reduceAdd, Nat.reduceSub, Nat.reduceLT, Nat.reduceLeDiff]
      refine wk _ ?_
      simp only [go_sem, ↓reduceIte, reduceCtorEq, Nat.reduceAdd, Nat.reduceSub, Nat.reduceLT, Nat.reduceLeDiff]
    · simp only [c4r2, go_sem, ↓reduceIte, reduceCtorEq, Nat.reduceAdd, Nat.reduceSub, Nat.reduceLT, Nat.reduceLeDiff]
      refine wk _ ?_
      simp only [go_sem, ↓reduceIte, reduceCtorEq, Nat.reduceAdd, Nat.reduceSub, Nat.reduceLT, Nat.reduceLeDiff]
    · obtain ⟨D, e, hd⟩ := ranksR_eq pl mv wn R
      obtain ⟨D2, e2, hd2⟩ := keepR_eq pl mv wn
      simp only [c4r3, go_sem, ↓reduceIte, reduceCtorEq, Nat.reduceAdd, Nat.reduceSub, Nat.reduceLT, Nat.reduceLeDiff]
      refine callK_of rfl (k23 (pl := pl) (mv := mv) (wn := wn) (R := R)) (.inr rfl) ?_
      rw [hd]
      simp only [c4r4, go_sem, ↓reduceIte, reduceCtorEq, Nat.reduceAdd, Nat.reduceSub, Nat.reduceLT, Nat.reduceLeDiff]
      refine callK_of rfl (k24 (pl := pl) (mv := mv) (wn := wn) (R := R)) (.inr rfl) ?_
      rw [hd]
      simp only [c4r5, go_sem, ↓reduceIte, reduceCtorEq, Nat.reduceAdd, Nat.reduceSub, Nat.reduceLT, Nat.reduceLeDiff]
      refine callK_of rfl (k25 (pl := pl) (mv := mv) (wn := wn)) (.inr rfl) ?_
      rw [hd2]
      simp only [c4r6, go_sem, ↓reduceIte, reduceCtorEq, Nat.reduceAdd, Nat.reduceSub, Nat.reduceLT, Nat.reduceLeDiff]
      refine callK_of rfl (k26 (pl := pl) (mv := mv) (wn := wn)) (.inr rfl) ?_
      rw [hd2]
      simp only [c4r7, go_sem, ↓reduceIte, reduceCtorEq, Nat.reduceAdd, Nat.reduceSub, Nat.reduceLT, Nat.reduceLeDiff]
      refine callK_of rfl (k22 (a := D) (b := D)) (.inl rfl) ?_
      simp only [go_sem, ↓reduceIte, reduceCtorEq, Nat.reduceAdd, Nat.reduceSub, Nat.reduceLT, Nat.reduceLeDiff]
      refine callK_of rfl (k22 (a := D2) (b := D2)) (.inl rfl) ?_
      simp only [go_sem, ↓reduceIte, reduceCtorEq, Nat.reduceAdd, Nat.reduceSub, Nat.reduceLT, Nat.reduceLeDiff]
      refine callK_of rfl (k27 (pl := pl) (mv := mv) (wn := wn) (K := K)) (.inl rfl) ?_
      simp only [go_sem, ↓reduceIte, reduceCtorEq, Nat.reduceAdd, Nat.reduceSub, Nat.reduceLT, Nat.reduceLeDiff]
      refine callK_of rfl (k28 (pl := pl) (mv := mv) (wn := wn) (K := K)) (.inl rfl) ?_
      simp only [go_sem, ↓reduceIte, reduceCtorEq, Nat.reduceAdd, Nat.reduceSub, Nat.reduceLT, Nat.reduceLeDiff]
      refine wk _ ?_
      simp only [go_sem, ↓reduceIte, reduceCtorEq, Nat.reduceAdd, Nat.reduceSub, Nat.reduceLT, Nat.reduceLeDiff]
end Go.Proofs.Ytglmjdpmpgphkaa.Sk
