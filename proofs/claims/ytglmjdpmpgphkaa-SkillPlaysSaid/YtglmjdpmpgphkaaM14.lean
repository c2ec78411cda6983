/- The code of a law in the value semantics. -/
import Derived.Test.YtglmjdpmpgphkaaM13

set_option linter.all false

namespace Go.Proofs.Ytglmjdpmpgphkaa.Sk
open Go Go.E

/-! 6 pennyfall/pennyfalllaw03.SkillPlays, 4 and 0 -/
def c6r0 : List AOper := [
 ⟨some 4, none, .boxS (.t 0)⟩,
 ⟨some 8, none, .mov (.c (.s (.bool false)))⟩]
def c6r1 : List AOper := [
 ⟨some 23, none, .load 3 true (.t 4)⟩,
 ⟨some 24, none, .call 16 [(.t 23)]⟩,
 ⟨some 25, none, .mov (.t 24)⟩,
 ⟨some 26, some (25, false), .mov (.t 1)⟩,
 ⟨some 27, some (25, false), .len false (.t 26)⟩,
 ⟨some 28, some (25, false), .cmp .gtr (.t 27) (.c (.s (.int .i64 20)))⟩,
 ⟨some 29, none, .pick (.t 25) (.c (.s (.bool true))) (.t 28)⟩,
 ⟨some 30, none, .mov (.t 29)⟩,
 ⟨some 31, some (30, false), .mov (.t 2)⟩,
 ⟨some 32, some (30, false), .len false (.t 31)⟩,
 ⟨some 33, some (30, false), .cmp .gtr (.t 32) (.c (.s (.int .i64 20)))⟩,
 ⟨some 34, none, .pick (.t 30) (.c (.s (.bool true))) (.t 33)⟩]
def c6r2 : List AOper := [
 ⟨some 35, none, .call 17 []⟩,
 ⟨some 8, none, .mov (.t 35)⟩]
def c6r3 : List AOper := [
 ⟨some 37, none, .load 3 true (.t 4)⟩,
 ⟨some 38, none, .mov (.t 1)⟩,
 ⟨some 39, none, .mov (.t 2)⟩,
 ⟨some 40, none, .mov (.t 3)⟩,
 ⟨some 41, none, .call 35 [(.t 37), (.t 38), (.t 39), (.t 40)]⟩,
 ⟨some 36, none, .mov (.t 41)⟩,
 ⟨some 42, none, .ext (.t 36) 0⟩,
 ⟨some 43, none, .ext (.t 36) 1⟩,
 ⟨some 44, none, .ext (.t 36) 2⟩,
 ⟨some 9, none, .mov (.t 42)⟩,
 ⟨some 10, none, .mov (.t 43)⟩,
 ⟨some 11, none, .mov (.t 44)⟩]
def c6r4 : List AOper := [
 ⟨some 46, none, .load 3 true (.t 4)⟩,
 ⟨some 47, none, .mov (.t 1)⟩,
 ⟨some 48, none, .mov (.t 2)⟩,
 ⟨some 49, none, .mov (.t 3)⟩,
 ⟨some 50, none, .call 36 [(.t 46), (.t 47), (.t 48), (.t 49)]⟩,
 ⟨some 45, none, .mov (.t 50)⟩,
 ⟨some 51, none, .ext (.t 45) 0⟩,
 ⟨some 52, none, .ext (.t 45) 1⟩,
 ⟨some 53, none, .ext (.t 45) 2⟩,
 ⟨some 12, none, .mov (.t 51)⟩,
 ⟨some 13, none, .mov (.t 52)⟩,
 ⟨some 14, none, .mov (.t 53)⟩]
def c6r5 : List AOper := [
 ⟨some 55, none, .load 3 true (.t 4)⟩,
 ⟨some 56, none, .mov (.t 1)⟩,
 ⟨some 57, none, .mov (.t 3)⟩,
 ⟨some 58, none, .call 37 [(.t 55), (.t 56), (.t 57)]⟩,
 ⟨some 54, none, .mov (.t 58)⟩,
 ⟨some 59, none, .ext (.t 54) 0⟩,
 ⟨some 60, none, .ext (.t 54) 1⟩,
 ⟨some 15, none, .mov (.t 59)⟩,
 ⟨some 16, none, .mov (.t 60)⟩]
def c6r6 : List AOper := [
 ⟨some 62, none, .load 3 true (.t 4)⟩,
 ⟨some 63, none, .mov (.t 1)⟩,
 ⟨some 64, none, .mov (.t 3)⟩,
 ⟨some 65, none, .call 38 [(.t 62), (.t 63), (.t 64)]⟩,
 ⟨some 61, none, .mov (.t 65)⟩,
 ⟨some 66, none, .ext (.t 61) 0⟩,
 ⟨some 67, none, .ext (.t 61) 1⟩,
 ⟨some 17, none, .mov (.t 66)⟩,
 ⟨some 18, none, .mov (.t 67)⟩]
def c6r7 : List AOper := [
 ⟨some 69, none, .load 3 true (.t 4)⟩,
 ⟨some 70, none, .mov (.t 3)⟩,
 ⟨some 71, none, .call 39 [(.t 69), (.t 70)]⟩,
 ⟨some 68, none, .mov (.t 71)⟩,
 ⟨some 72, none, .ext (.t 68) 0⟩,
 ⟨some 73, none, .ext (.t 68) 1⟩,
 ⟨some 19, none, .mov (.t 72)⟩,
 ⟨some 20, none, .mov (.t 73)⟩]
def c6r8 : List AOper := [
 ⟨some 75, none, .load 3 true (.t 4)⟩,
 ⟨some 76, none, .mov (.t 3)⟩,
 ⟨some 77, none, .call 40 [(.t 75), (.t 76)]⟩,
 ⟨some 74, none, .mov (.t 77)⟩,
 ⟨some 78, none, .ext (.t 74) 0⟩,
 ⟨some 79, none, .ext (.t 74) 1⟩,
 ⟨some 21, none, .mov (.t 78)⟩,
 ⟨some 22, none, .mov (.t 79)⟩]
def c6r9 : List AOper := [
 ⟨some 80, none, .mov (.t 9)⟩,
 ⟨some 81, none, .mov (.t 12)⟩,
 ⟨some 82, none, .call 22 [(.t 80), (.t 81)]⟩,
 ⟨some 83, none, .mov (.t 82)⟩,
 ⟨some 84, some (83, true), .mov (.t 10)⟩,
 ⟨some 85, some (83, true), .mov (.t 13)⟩,
 ⟨some 86, some (83, true), .eql false [.bool] false (.t 84) (.t 85)⟩,
 ⟨some 87, none, .pick (.t 83) (.t 86) (.c (.s (.bool false)))⟩,
 ⟨some 88, none, .mov (.t 87)⟩,
 ⟨some 89, some (88, true), .mov (.t 11)⟩,
 ⟨some 90, some (88, true), .mov (.t 14)⟩,
 ⟨some 91, some (88, true), .cmp .eql (.t 89) (.t 90)⟩,
 ⟨some 92, none, .pick (.t 88) (.t 91) (.c (.s (.bool false)))⟩,
 ⟨some 93, none, .mov (.t 92)⟩,
 ⟨some 94, some (93, true), .mov (.t 15)⟩,
 ⟨some 95, some (93, true), .mov (.t 17)⟩,
 ⟨some 96, some (93, true), .eql false [.bool] false (.t 94) (.t 95)⟩,
 ⟨some 97, none, .pick (.t 93) (.t 96) (.c (.s (.bool false)))⟩,
 ⟨some 98, none, .mov (.t 97)⟩,
 ⟨some 99, some (98, true), .mov (.t 16)⟩,
 ⟨some 100, some (98, true), .mov (.t 18)⟩,
 ⟨some 101, some (98, true), .cmp .eql (.t 99) (.t 100)⟩,
 ⟨some 102, none, .pick (.t 98) (.t 101) (.c (.s (.bool false)))⟩,
 ⟨some 103, none, .mov (.t 102)⟩,
 ⟨some 104, some (103, true), .mov (.t 19)⟩,
 ⟨some 105, some (103, true), .mov (.t 21)⟩,
 ⟨some 106, some (103, true), .cmp .eql (.t 104) (.t 105)⟩,
 ⟨some 107, none, .pick (.t 103) (.t 106) (.c (.s (.bool false)))⟩,
 ⟨some 108, none, .mov (.t 107)⟩,
 ⟨some 109, some (108, true), .mov (.t 20)⟩,
 ⟨some 110, some (108, true), .mov (.t 22)⟩,
 ⟨some 111, some (108, true), .cmp .eql (.t 109) (.t 110)⟩,
 ⟨some 112, none, .pick (.t 108) (.t 111) (.c (.s (.bool false)))⟩,
 ⟨some 113, none, .mov (.t 112)⟩,
 ⟨some 114, some (113, true), .call 17 []⟩,
 ⟨some 115, none, .pick (.t 113) (.t 114) (.c (.s (.bool false)))⟩,
 ⟨some 8, none, .mov (.t 115)⟩]
def f6 : FRow := ⟨(.seq (.reg 0 c6r0) (.seq (.seq (.reg 0 c6r1) (.cond (.t 34) (.seq (.reg 0 c6r2) .ret) .skip)) (.seq (.reg 0 c6r3) (.seq (.reg 0 c6r4) (.seq (.reg 0 c6r5) (.seq (.reg 0 c6r6) (.seq (.reg 0 c6r7) (.seq (.reg 0 c6r8) (.seq (.reg 0 c6r9) .ret))))))))), [.tmp 8], 116⟩
theorem okf6 : f6.Ok Try.prog 6 := ⟨_, _, Try.func6, rfl, by kernel_rfl, by kernel_rfl, by kernel_rfl⟩


end Go.Proofs.Ytglmjdpmpgphkaa.Sk

/- SkillPlays, reckoned: at every machine, two ways and position it answers true. -/
namespace Go.Proofs.Ytglmjdpmpgphkaa.Sk
open Go Go.E Go.E.Sm
set_option maxRecDepth 10000

theorem playR_eq (pl : List Bool) (mv : List (List Int)) (wn : List Bool) (a b : List Int) (x : Int) : ∃ (D : List Int) (w : Bool) (e : Int), playR pl mv wn a b x = [ints D, .bool w, .int .i64 e] := by
  unfold playR
  split
  · exact ⟨[], _, _, rfl⟩
  · split
    · exact ⟨[], _, _, rfl⟩
    · split
      · exact ⟨[], _, _, rfl⟩
      · exact ⟨_, _, _, rfl⟩
theorem beatsR_eq (pl : List Bool) (mv : List (List Int)) (wn : List Bool) (a : List Int) (x : Int) : ∃ (w : Bool) (e : Int), beatsR pl mv wn a x = [.bool w, .int .i64 e] := by
  unfold beatsR
  split
  · exact ⟨_, _, rfl⟩
  · split <;> exact ⟨_, _, rfl⟩
theorem sureR_eq (pl : List Bool) (mv : List (List Int)) (wn : List Bool) (x : Int) : ∃ (d : Int) (e : Int), sureR pl mv wn x = [.int .i64 d, .int .i64 e] := by
  unfold sureR
  split
  · exact ⟨_, _, rfl⟩
  · split
    · exact ⟨_, _, rfl⟩
    · split <;> exact ⟨_, _, rfl⟩

theorem law6 {pl wn : List Bool} {mv : List (List Int)} {A B : List Int} {x : Int} : E.Fn Try.prog 6 [mach pl mv wn, ints A, ints B, .int .i64 x] [.bool true] := by
  refine fn_of_row okf6 ?_
  simp only [FRow.start, f6, c6r0, c6r1, mach, bools, ints, go_sem, ↓reduceIte, reduceCtorEq, Nat.reduceAdd, Nat.reduceSub, Nat.reduceLT, Nat.reduceLeDiff]
  refine callK_of rfl (k16 (pl := pl) (mv := mv) (wn := wn)) (.inl rfl) ?_
  have wk : ∀ k : AK, k (LV.ofResults [.bool true]) [] none True → callK Try.prog [] 17 [] k := fun k hk => callK_of rfl works_ok (.inl rfl) hk
  cases hg : greatB pl mv wn with
  | true =>
    simp only [c6r2, go_sem, ↓reduceIte, reduceCtorEq, Nat.reduceAdd, Nat.reduceSub, Nat.reduceLT, Nat.reduceLeDiff]
    refine wk _ ?_
    simp only [go_sem, ↓reduceIte, reduceCtorEq, Nat.reduceAdd, Nat.reduceSub, Nat.reduceLT, Nat.reduceLeDiff]
  | false =>
    simp only [go_sem, ↓reduceIte, reduceCtorEq, Nat.reduceAdd, Nat.reduceSub, Nat.reduceLT, Nat.reduceLeDiff]
    refine ⟨fun hR _ => ?_, fun hR _ => ⟨fun hK => ?_, fun hK => ?_⟩⟩
    · simp only [c6r2, go_sem, ↓reduceIte, reduceCtorEq, Nat.reduceAdd, Nat.reduceSub, Nat.reduceLT, Nat.reduceLeDiff]
      refine wk _ ?_
      simp only [go_sem, ↓reduceIte, reduceCtorEq, Nat.reduceAdd, Nat.reduceSub, Nat.reduceLT, Nat.reduceLeDiff]
    · simp only [c6r2, go_sem, ↓reduceIte, reduceCtorEq, Nat.reduceAdd, Nat.reduceSub, Nat.reduceLT, Nat.reduceLeDiff]
      refine wk _ ?_
      simp only [go_sem, ↓reduceIte, reduceCtorEq, Nat.reduceAdd, Nat.reduceSub, Nat.reduceLT, Nat.reduceLeDiff]
    · obtain ⟨D, w, e, hd⟩ := playR_eq pl mv wn A B x
      obtain ⟨w2, e2, hd2⟩ := beatsR_eq pl mv wn A x
      obtain ⟨d3, e3, hd3⟩ := sureR_eq pl mv wn x
      simp only [c6r3, go_sem, ↓reduceIte, reduceCtorEq, Nat.reduceAdd, Nat.reduceSub, Nat.reduceLT, Nat.reduceLeDiff]
      refine callK_of rfl (k35 (pl := pl) (mv := mv) (wn := wn) (own := A) (other := B) (x := x)) (.inr rfl) ?_
      rw [hd]
      simp only [c6r4, go_sem, ↓reduceIte, reduceCtorEq, Nat.reduceAdd, Nat.reduceSub, Nat.reduceLT, Nat.reduceLeDiff]
      refine callK_of rfl (k36 (pl := pl) (mv := mv) (wn := wn) (own := A) (other := B) (x := x)) (.inr rfl) ?_
      rw [hd]
      simp only [c6r5, go_sem, ↓reduceIte, reduceCtorEq, Nat.reduceAdd, Nat.reduceSub, Nat.reduceLT, Nat.reduceLeDiff]
      refine callK_of rfl (k37 (pl := pl) (mv := mv) (wn := wn) (Y := A) (x := x)) (.inr rfl) ?_
      rw [hd2]
      simp only [c6r6, go_sem, ↓reduceIte, reduceCtorEq, Nat.reduceAdd, Nat.reduceSub, Nat.reduceLT, Nat.reduceLeDiff]
      refine callK_of rfl (k38 (pl := pl) (mv := mv) (wn := wn) (Y := A) (x := x)) (.inr rfl) ?_
      rw [hd2]
      simp only [c6r7, go_sem, ↓reduceIte, reduceCtorEq, Nat.reduceAdd, Nat.reduceSub, Nat.reduceLT, Nat.reduceLeDiff]
      refine callK_of rfl (k39 (pl := pl) (mv := mv) (wn := wn) (x := x)) (.inr rfl) ?_
      rw [hd3]
      simp only [c6r8, go_sem, ↓reduceIte, reduceCtorEq, Nat.reduceAdd, Nat.reduceSub, Nat.reduceLT, Nat.reduceLeDiff]
      refine callK_of rfl (k40 (pl := pl) (mv := mv) (wn := wn) (x := x)) (.inr rfl) ?_
      rw [hd3]
      simp only [c6r9, go_sem, ↓reduceIte, reduceCtorEq, Nat.reduceAdd, Nat.reduceSub, Nat.reduceLT, Nat.reduceLeDiff]
      refine callK_of rfl (k22 (a := D) (b := D)) (.inl rfl) ?_
      simp only [go_sem, ↓reduceIte, reduceCtorEq, Nat.reduceAdd, Nat.reduceSub, Nat.reduceLT, Nat.reduceLeDiff]
      refine wk _ ?_
      simp only [go_sem, ↓reduceIte, reduceCtorEq, Nat.reduceAdd, Nat.reduceSub, Nat.reduceLT, Nat.reduceLeDiff]
end Go.Proofs.Ytglmjdpmpgphkaa.Sk
