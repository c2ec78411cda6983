/- The code of functions in the value semantics, and that it stands for theirs. -/
import Derived.Test.YtglmjdpmpgphkaaM5
import Derived.Test.YtglmjdpmpgphkaaProg

set_option linter.all false

namespace Go.Proofs.Ytglmjdpmpgphkaa.Sk
open Go Go.E

/-! 48 pennyfall/pennyfalllaw03.distances, 1 and 0 -/
def c48r0 : List AOper := [
 ⟨some 1, none, .boxS (.t 0)⟩,
 ⟨some 2, none, .mov (.c (.full []))⟩,
 ⟨some 3, none, .mov (.c (.s (.bool false)))⟩]
def c48r1 : List AOper := [
 ⟨some 8, none, .load 3 true (.t 1)⟩,
 ⟨some 9, none, .call 18 [(.t 8)]⟩,
 ⟨some 7, none, .mov (.t 9)⟩,
 ⟨some 10, none, .ext (.t 7) 0⟩,
 ⟨some 11, none, .ext (.t 7) 1⟩,
 ⟨some 4, none, .mov (.t 10)⟩,
 ⟨some 5, none, .mov (.t 11)⟩]
def c48r2 : List AOper := [
 ⟨some 12, none, .mov (.t 5)⟩,
 ⟨some 13, none, .cmp .neq (.t 12) (.c (.s (.int .i64 0)))⟩,
 ⟨some 14, none, .mov (.t 13)⟩,
 ⟨some 15, some (14, false), .mov (.t 4)⟩,
 ⟨some 16, some (14, false), .len false (.t 15)⟩,
 ⟨some 17, some (14, false), .fieldAddr 1 (.t 1)⟩,
 ⟨some 18, some (14, false), .load 1 false (.t 17)⟩,
 ⟨some 19, some (14, false), .len false (.t 18)⟩,
 ⟨some 20, some (14, false), .cmp .neq (.t 16) (.t 19)⟩,
 ⟨some 21, none, .pick (.t 14) (.c (.s (.bool true))) (.t 20)⟩]
def c48r3 : List AOper := [
 ⟨some 2, none, .mov (.c (.full []))⟩,
 ⟨some 3, none, .mov (.c (.s (.bool false)))⟩]
def c48r4 : List AOper := [
 ⟨some 6, none, .mov (.c (.s (.int .i64 0)))⟩]
def c48r5 : List AOper := [
 ⟨some 22, none, .mov (.t 6)⟩,
 ⟨some 23, none, .mov (.t 4)⟩,
 ⟨some 24, none, .len false (.t 23)⟩,
 ⟨some 25, none, .cmp .lss (.t 22) (.t 24)⟩]
def c48r6 : List AOper := [
 ⟨some 28, none, .mov (.t 4)⟩,
 ⟨some 29, none, .mov (.t 6)⟩,
 ⟨some 30, none, .idxA 1 (.t 28) (.t 29)⟩,
 ⟨some 31, none, .load 1 false (.t 30)⟩,
 ⟨some 32, none, .cmp .lss (.t 31) (.c (.s (.int .i64 (-1))))⟩,
 ⟨some 33, none, .mov (.t 32)⟩,
 ⟨some 34, some (33, false), .mov (.t 4)⟩,
 ⟨some 35, some (33, false), .mov (.t 6)⟩,
 ⟨some 36, some (33, false), .idxA 1 (.t 34) (.t 35)⟩,
 ⟨some 37, some (33, false), .load 1 false (.t 36)⟩,
 ⟨some 38, some (33, false), .mov (.t 4)⟩,
 ⟨some 39, some (33, false), .len false (.t 38)⟩,
 ⟨some 40, some (33, false), .cmp .geq (.t 37) (.t 39)⟩,
 ⟨some 41, none, .pick (.t 33) (.c (.s (.bool true))) (.t 40)⟩,
 ⟨some 42, none, .mov (.t 41)⟩,
 ⟨some 43, some (42, false), .mov (.t 4)⟩,
 ⟨some 44, some (42, false), .mov (.t 6)⟩,
 ⟨some 45, some (42, false), .idxA 1 (.t 43) (.t 44)⟩,
 ⟨some 46, some (42, false), .load 1 false (.t 45)⟩,
 ⟨some 47, some (42, false), .cmp .eql (.t 46) (.c (.s (.int .i64 0)))⟩,
 ⟨some 48, some (42, false), .fieldAddr 2 (.t 1)⟩,
 ⟨some 49, some (42, false), .load 1 false (.t 48)⟩,
 ⟨some 50, some (42, false), .mov (.t 6)⟩,
 ⟨some 51, some (42, false), .idxA 1 (.t 49) (.t 50)⟩,
 ⟨some 52, some (42, false), .load 1 false (.t 51)⟩,
 ⟨some 53, some (42, false), .eql false [.bool] true (.t 47) (.t 52)⟩,
 ⟨some 54, none, .pick (.t 42) (.c (.s (.bool true))) (.t 53)⟩]
def c48r7 : List AOper := [
 ⟨some 2, none, .mov (.c (.full []))⟩,
 ⟨some 3, none, .mov (.c (.s (.bool false)))⟩]
def c48r8 : List AOper := [
 ⟨some 26, none, .mov (.t 6)⟩,
 ⟨some 27, none, .arith .add (.t 26) (.c (.s (.int .i64 1)))⟩,
 ⟨some 6, none, .mov (.t 27)⟩]
def c48l9 : ACode := (.seq (.seq (.reg 0 c48r5) (.cond (.t 25) .skip (.exit 0))) (.seq (.block 1 (.seq (.reg 0 c48r6) (.cond (.t 54) (.seq (.reg 0 c48r7) .ret) .skip))) (.reg 0 c48r8)))
def c48l9m : List Bool := [false, true, false, false, true, false, true, false, false, false, false, false, false, false, false, false, false, false, false, false, false, false, false, false, false, false, false, false, false, false, false, false, false, false, false, false, false, false, false, false, false, false, false, false, false, false, false, false, false, false, false, false, false, false, false, false]
def c48r10 : List AOper := [
 ⟨some 55, none, .mov (.t 4)⟩,
 ⟨some 2, none, .mov (.t 55)⟩,
 ⟨some 3, none, .mov (.c (.s (.bool true)))⟩]
def f48 : FRow := ⟨(.seq (.reg 0 c48r0) (.seq (.reg 0 c48r1) (.seq (.seq (.reg 0 c48r2) (.cond (.t 21) (.seq (.reg 0 c48r3) .ret) .skip)) (.seq (.seq (.reg 0 c48r4) (.block 0 (.loop c48l9m [] c48l9))) (.seq (.reg 0 c48r10) .ret))))), [.tmp 2, .tmp 3], 56⟩
theorem okf48 : f48.Ok Try.prog 48 := ⟨_, _, Try.func48, rfl, by kernel_rfl, by kernel_rfl, by kernel_rfl⟩

/-! 49 pennyfall/pennyfallref03.Has, 2 and 0 -/
def c49r0 : List AOper := [
 ⟨some 4, none, .mov (.c (.s (.bool false)))⟩]
def c49r1 : List AOper := [
 ⟨some 5, none, .mov (.c (.s (.int .i64 0)))⟩]
def c49r2 : List AOper := [
 ⟨some 6, none, .mov (.t 5)⟩,
 ⟨some 7, none, .mov (.t 0)⟩,
 ⟨some 8, none, .len false (.t 7)⟩,
 ⟨some 9, none, .cmp .lss (.t 6) (.t 8)⟩]
def c49r3 : List AOper := [
 ⟨some 12, none, .mov (.t 0)⟩,
 ⟨some 13, none, .mov (.t 5)⟩,
 ⟨some 14, none, .idxA 1 (.t 12) (.t 13)⟩,
 ⟨some 15, none, .load 1 false (.t 14)⟩,
 ⟨some 16, none, .mov (.t 1)⟩,
 ⟨some 17, none, .cmp .eql (.t 15) (.t 16)⟩]
def c49r4 : List AOper := [
 ⟨some 4, none, .mov (.c (.s (.bool true)))⟩]
def c49r5 : List AOper := [
 ⟨some 10, none, .mov (.t 5)⟩,
 ⟨some 11, none, .arith .add (.t 10) (.c (.s (.int .i64 1)))⟩,
 ⟨some 5, none, .mov (.t 11)⟩]
def c49l6 : ACode := (.seq (.seq (.reg 0 c49r2) (.cond (.t 9) .skip (.exit 0))) (.seq (.block 1 (.seq (.reg 0 c49r3) (.cond (.t 17) (.seq (.reg 0 c49r4) .ret) .skip))) (.reg 0 c49r5)))
def c49l6m : List Bool := [true, true, false, false, false, true, false, false, false, false, false, false, false, false, false, false, false, false]
def c49r7 : List AOper := [
 ⟨some 4, none, .mov (.c (.s (.bool false)))⟩]
def f49 : FRow := ⟨(.seq (.reg 0 c49r0) (.seq (.seq (.reg 0 c49r1) (.block 0 (.loop c49l6m [] c49l6))) (.seq (.reg 0 c49r7) .ret))), [.tmp 4], 18⟩
theorem okf49 : f49.Ok Try.prog 49 := ⟨_, _, Try.func49, rfl, by kernel_rfl, by kernel_rfl, by kernel_rfl⟩

/-! 50 pennyfall/pennyfalllaw03.Chosen, 3 and 0 -/
def c50r0 : List AOper := [
 ⟨some 3, none, .boxS (.t 0)⟩,
 ⟨some 6, none, .mov (.c (.full []))⟩]
def c50r1 : List AOper := [
 ⟨some 7, none, .mov (.c (.full []))⟩]
def c50r2 : List AOper := [
 ⟨some 8, none, .mov (.c (.s (.int .i64 0)))⟩]
def c50r3 : List AOper := [
 ⟨some 11, none, .mov (.t 8)⟩,
 ⟨some 12, none, .fieldAddr 1 (.t 3)⟩,
 ⟨some 13, none, .load 1 false (.t 12)⟩,
 ⟨some 14, none, .len false (.t 13)⟩,
 ⟨some 15, none, .cmp .lss (.t 11) (.t 14)⟩]
def c50r4 : List AOper := [
 ⟨some 9, none, .mov (.c (.s (.int .i64 (-1))))⟩]
def c50r5 : List AOper := [
 ⟨some 18, none, .fieldAddr 0 (.t 3)⟩,
 ⟨some 19, none, .load 1 false (.t 18)⟩,
 ⟨some 20, none, .mov (.t 8)⟩,
 ⟨some 21, none, .idxA 1 (.t 19) (.t 20)⟩,
 ⟨some 22, none, .load 1 false (.t 21)⟩,
 ⟨some 23, none, .mov (.t 1)⟩,
 ⟨some 24, none, .eql false [.bool] false (.t 22) (.t 23)⟩,
 ⟨some 25, none, .mov (.t 24)⟩,
 ⟨some 26, some (25, true), .fieldAddr 2 (.t 3)⟩,
 ⟨some 27, some (25, true), .load 1 false (.t 26)⟩,
 ⟨some 28, some (25, true), .mov (.t 8)⟩,
 ⟨some 29, some (25, true), .idxA 1 (.t 27) (.t 28)⟩,
 ⟨some 30, some (25, true), .load 1 false (.t 29)⟩,
 ⟨some 31, some (25, true), .not (.t 30)⟩,
 ⟨some 32, none, .pick (.t 25) (.t 31) (.c (.s (.bool false)))⟩,
 ⟨some 33, none, .mov (.t 32)⟩,
 ⟨some 34, some (33, true), .mov (.t 2)⟩,
 ⟨some 35, some (33, true), .len false (.t 34)⟩,
 ⟨some 36, some (33, true), .cmp .gtr (.t 35) (.c (.s (.int .i64 0)))⟩,
 ⟨some 37, none, .pick (.t 33) (.t 36) (.c (.s (.bool false)))⟩,
 ⟨some 38, none, .mov (.t 37)⟩,
 ⟨some 39, some (38, true), .fieldAddr 1 (.t 3)⟩,
 ⟨some 40, some (38, true), .load 1 false (.t 39)⟩,
 ⟨some 41, some (38, true), .mov (.t 8)⟩,
 ⟨some 42, some (38, true), .idxA 1 (.t 40) (.t 41)⟩,
 ⟨some 43, some (38, true), .load 1 false (.t 42)⟩,
 ⟨some 44, some (38, true), .len false (.t 43)⟩,
 ⟨some 45, some (38, true), .cmp .gtr (.t 44) (.c (.s (.int .i64 0)))⟩,
 ⟨some 46, none, .pick (.t 38) (.t 45) (.c (.s (.bool false)))⟩]
def c50r6 : List AOper := [
 ⟨some 47, none, .mov (.t 2)⟩,
 ⟨some 48, none, .mov (.t 8)⟩,
 ⟨some 49, none, .mov (.t 2)⟩,
 ⟨some 50, none, .len false (.t 49)⟩,
 ⟨some 51, none, .div .rem (.t 48) (.t 50)⟩,
 ⟨some 52, none, .idxA 1 (.t 47) (.t 51)⟩,
 ⟨some 53, none, .load 1 false (.t 52)⟩,
 ⟨some 54, none, .conv .i64 (.t 53)⟩,
 ⟨some 55, none, .fieldAddr 1 (.t 3)⟩,
 ⟨some 56, none, .load 1 false (.t 55)⟩,
 ⟨some 57, none, .mov (.t 8)⟩,
 ⟨some 58, none, .idxA 1 (.t 56) (.t 57)⟩,
 ⟨some 59, none, .load 1 false (.t 58)⟩,
 ⟨some 60, none, .len false (.t 59)⟩,
 ⟨some 61, none, .arith .add (.t 60) (.c (.s (.int .i64 1)))⟩,
 ⟨some 62, none, .div .rem (.t 54) (.t 61)⟩,
 ⟨some 10, none, .mov (.t 62)⟩]
def c50r7 : List AOper := [
 ⟨some 63, none, .mov (.t 10)⟩,
 ⟨some 64, none, .cmp .gtr (.t 63) (.c (.s (.int .i64 0)))⟩]
def c50r8 : List AOper := [
 ⟨some 65, none, .fieldAddr 1 (.t 3)⟩,
 ⟨some 66, none, .load 1 false (.t 65)⟩,
 ⟨some 67, none, .mov (.t 8)⟩,
 ⟨some 68, none, .idxA 1 (.t 66) (.t 67)⟩,
 ⟨some 69, none, .load 1 false (.t 68)⟩,
 ⟨some 70, none, .mov (.t 10)⟩,
 ⟨some 71, none, .arith .sub (.t 70) (.c (.s (.int .i64 1)))⟩,
 ⟨some 72, none, .idxA 1 (.t 69) (.t 71)⟩,
 ⟨some 73, none, .load 1 false (.t 72)⟩,
 ⟨some 9, none, .mov (.t 73)⟩]
def c50r9 : List AOper := [
 ⟨some 74, none, .mov (.t 7)⟩,
 ⟨some 75, none, .mov (.t 9)⟩,
 ⟨some 76, none, .buildSl 1 1 (.int .i64 0) [(0, (.t 75))]⟩,
 ⟨some 77, none, .append 1 8 (.t 74) (.t 76)⟩,
 ⟨some 7, none, .mov (.t 77)⟩]
def c50r10 : List AOper := [
 ⟨some 16, none, .mov (.t 8)⟩,
 ⟨some 17, none, .arith .add (.t 16) (.c (.s (.int .i64 1)))⟩,
 ⟨some 8, none, .mov (.t 17)⟩]
def c50l11 : ACode := (.seq (.seq (.reg 0 c50r3) (.cond (.t 15) .skip (.exit 0))) (.seq (.block 1 (.seq (.reg 0 c50r4) (.seq (.seq (.reg 0 c50r5) (.cond (.t 46) (.seq (.reg 0 c50r6) (.seq (.reg 0 c50r7) (.cond (.t 64) (.reg 0 c50r8) .skip))) .skip)) (.reg 1 c50r9)))) (.reg 0 c50r10)))
def c50l11m : List Bool := [false, true, true, true, false, false, false, true, true, false, false, false, false, false, false, false, false, false, false, false, false, false, false, false, false, false, false, false, false, false, false, false, false, false, false, false, false, false, false, false, false, false, false, false, false, false, false, false, false, false, false, false, false, false, false, false, false, false, false, false, false, false, false, false, false, false, false, false, false, false, false, false, false, false, false, false, false, false, false]
def c50r12 : List AOper := [
 ⟨some 78, none, .mov (.t 7)⟩,
 ⟨some 6, none, .mov (.t 78)⟩]
def f50 : FRow := ⟨(.seq (.reg 0 c50r0) (.seq (.reg 0 c50r1) (.seq (.seq (.reg 0 c50r2) (.block 0 (.loop c50l11m [(7, none, 0)] c50l11))) (.seq (.reg 0 c50r12) .ret)))), [.tmp 6], 79⟩
theorem okf50 : f50.Ok Try.prog 50 := ⟨_, _, Try.func50, rfl, by kernel_rfl, by kernel_rfl, by kernel_rfl⟩

/-! 51 pennyfall/pennyfalllaw03.with, 2 and 0 -/
def c51r0 : List AOper := [
 ⟨some 4, none, .mov (.c (.full []))⟩]
def c51r1 : List AOper := [
 ⟨some 5, none, .mov (.c (.full []))⟩]
def c51r2 : List AOper := [
 ⟨some 6, none, .mov (.c (.s (.int .i64 0)))⟩]
def c51r3 : List AOper := [
 ⟨some 7, none, .mov (.t 6)⟩,
 ⟨some 8, none, .cmp .lss (.t 7) (.c (.s (.int .i64 20)))⟩]
def c51r4 : List AOper := [
 ⟨some 11, none, .mov (.t 6)⟩,
 ⟨some 12, none, .mov (.t 1)⟩,
 ⟨some 13, none, .cmp .eql (.t 11) (.t 12)⟩,
 ⟨some 14, none, .mov (.t 13)⟩,
 ⟨some 15, some (14, false), .mov (.t 0)⟩,
 ⟨some 16, some (14, false), .mov (.t 6)⟩,
 ⟨some 17, some (14, false), .call 49 [(.t 15), (.t 16)]⟩,
 ⟨some 18, none, .pick (.t 14) (.c (.s (.bool true))) (.t 17)⟩]
def c51r5 : List AOper := [
 ⟨some 19, none, .mov (.t 5)⟩,
 ⟨some 20, none, .mov (.t 6)⟩,
 ⟨some 21, none, .buildSl 1 1 (.int .i64 0) [(0, (.t 20))]⟩,
 ⟨some 22, none, .append 1 8 (.t 19) (.t 21)⟩,
 ⟨some 5, none, .mov (.t 22)⟩]
def c51r6 : List AOper := [
 ⟨some 9, none, .mov (.t 6)⟩,
 ⟨some 10, none, .arith .add (.t 9) (.c (.s (.int .i64 1)))⟩,
 ⟨some 6, none, .mov (.t 10)⟩]
def c51l7 : ACode := (.seq (.seq (.reg 0 c51r3) (.cond (.t 8) .skip (.exit 0))) (.seq (.block 1 (.seq (.reg 0 c51r4) (.cond (.t 18) (.reg 1 c51r5) .skip))) (.reg 0 c51r6)))
def c51l7m : List Bool := [true, true, false, false, false, true, true, false, false, false, false, false, false, false, false, false, false, false, false, false, false, false, false, false]
def c51r8 : List AOper := [
 ⟨some 23, none, .mov (.t 5)⟩,
 ⟨some 4, none, .mov (.t 23)⟩]
def f51 : FRow := ⟨(.seq (.reg 0 c51r0) (.seq (.reg 0 c51r1) (.seq (.seq (.reg 0 c51r2) (.block 0 (.loop c51l7m [(5, none, 0)] c51l7))) (.seq (.reg 0 c51r8) .ret)))), [.tmp 4], 24⟩
theorem okf51 : f51.Ok Try.prog 51 := ⟨_, _, Try.func51, rfl, by kernel_rfl, by kernel_rfl, by kernel_rfl⟩

/-! 52 pennyfall/pennyfalllaw03.nearer, 2 and 0 -/
def c52r0 : List AOper := [
 ⟨some 4, none, .mov (.c (.s (.bool false)))⟩]
def c52r1 : List AOper := [
 ⟨some 5, none, .mov (.c (.s (.int .i64 0)))⟩]
def c52r2 : List AOper := [
 ⟨some 6, none, .mov (.t 5)⟩,
 ⟨some 7, none, .mov (.t 0)⟩,
 ⟨some 8, none, .len false (.t 7)⟩,
 ⟨some 9, none, .cmp .lss (.t 6) (.t 8)⟩]
def c52r3 : List AOper := [
 ⟨some 12, none, .mov (.t 0)⟩,
 ⟨some 13, none, .mov (.t 5)⟩,
 ⟨some 14, none, .idxA 1 (.t 12) (.t 13)⟩,
 ⟨some 15, none, .load 1 false (.t 14)⟩,
 ⟨some 16, none, .cmp .geq (.t 15) (.c (.s (.int .i64 0)))⟩,
 ⟨some 17, none, .mov (.t 16)⟩,
 ⟨some 18, some (17, true), .mov (.t 1)⟩,
 ⟨some 19, some (17, true), .mov (.t 5)⟩,
 ⟨some 20, some (17, true), .idxA 1 (.t 18) (.t 19)⟩,
 ⟨some 21, some (17, true), .load 1 false (.t 20)⟩,
 ⟨some 22, some (17, true), .cmp .lss (.t 21) (.c (.s (.int .i64 0)))⟩,
 ⟨some 23, some (17, true), .mov (.t 22)⟩,
 ⟨some 24, some (23, false), .mov (.t 1)⟩,
 ⟨some 25, some (23, false), .mov (.t 5)⟩,
 ⟨some 26, some (23, false), .idxA 1 (.t 24) (.t 25)⟩,
 ⟨some 27, some (23, false), .load 1 false (.t 26)⟩,
 ⟨some 28, some (23, false), .mov (.t 0)⟩,
 ⟨some 29, some (23, false), .mov (.t 5)⟩,
 ⟨some 30, some (23, false), .idxA 1 (.t 28) (.t 29)⟩,
 ⟨some 31, some (23, false), .load 1 false (.t 30)⟩,
 ⟨some 32, some (23, false), .cmp .gtr (.t 27) (.t 31)⟩,
 ⟨some 33, some (17, true), .pick (.t 23) (.c (.s (.bool true))) (.t 32)⟩,
 ⟨some 34, none, .pick (.t 17) (.t 33) (.c (.s (.bool false)))⟩]
def c52r4 : List AOper := [
 ⟨some 4, none, .mov (.c (.s (.bool false)))⟩]
def c52r5 : List AOper := [
 ⟨some 10, none, .mov (.t 5)⟩,
 ⟨some 11, none, .arith .add (.t 10) (.c (.s (.int .i64 1)))⟩,
 ⟨some 5, none, .mov (.t 11)⟩]
def c52l6 : ACode := (.seq (.seq (.reg 0 c52r2) (.cond (.t 9) .skip (.exit 0))) (.seq (.block 1 (.seq (.reg 0 c52r3) (.cond (.t 34) (.seq (.reg 0 c52r4) .ret) .skip))) (.reg 0 c52r5)))
def c52l6m : List Bool := [true, true, false, false, false, true, false, false, false, false, false, false, false, false, false, false, false, false, false, false, false, false, false, false, false, false, false, false, false, false, false, false, false, false, false]
def c52r7 : List AOper := [
 ⟨some 4, none, .mov (.c (.s (.bool true)))⟩]
def f52 : FRow := ⟨(.seq (.reg 0 c52r0) (.seq (.seq (.reg 0 c52r1) (.block 0 (.loop c52l6m [] c52l6))) (.seq (.reg 0 c52r7) .ret))), [.tmp 4], 35⟩
theorem okf52 : f52.Ok Try.prog 52 := ⟨_, _, Try.func52, rfl, by kernel_rfl, by kernel_rfl, by kernel_rfl⟩

/-! 53 pennyfall/pennyfallref03.KeepOf, 1 and 0 -/
def c53r0 : List AOper := [
 ⟨some 1, none, .boxS (.t 0)⟩,
 ⟨some 2, none, .mov (.c (.full []))⟩]
def c53r1 : List AOper := [
 ⟨some 6, none, .load 3 true (.t 1)⟩,
 ⟨some 7, none, .call 59 [(.t 6)]⟩,
 ⟨some 3, none, .mov (.t 7)⟩]
def c53r2 : List AOper := [
 ⟨some 4, none, .mov (.c (.full []))⟩]
def c53r3 : List AOper := [
 ⟨some 5, none, .mov (.c (.s (.int .i64 0)))⟩]
def c53r4 : List AOper := [
 ⟨some 8, none, .mov (.t 5)⟩,
 ⟨some 9, none, .mov (.t 3)⟩,
 ⟨some 10, none, .len false (.t 9)⟩,
 ⟨some 11, none, .cmp .lss (.t 8) (.t 10)⟩]
def c53r5 : List AOper := [
 ⟨some 14, none, .mov (.t 3)⟩,
 ⟨some 15, none, .mov (.t 5)⟩,
 ⟨some 16, none, .idxA 1 (.t 14) (.t 15)⟩,
 ⟨some 17, none, .load 1 false (.t 16)⟩,
 ⟨some 18, none, .cmp .lss (.t 17) (.c (.s (.int .i64 0)))⟩]
def c53r6 : List AOper := [
 ⟨some 19, none, .mov (.t 4)⟩,
 ⟨some 20, none, .mov (.t 5)⟩,
 ⟨some 21, none, .buildSl 1 1 (.int .i64 0) [(0, (.t 20))]⟩,
 ⟨some 22, none, .append 1 8 (.t 19) (.t 21)⟩,
 ⟨some 4, none, .mov (.t 22)⟩]
def c53r7 : List AOper := [
 ⟨some 12, none, .mov (.t 5)⟩,
 ⟨some 13, none, .arith .add (.t 12) (.c (.s (.int .i64 1)))⟩,
 ⟨some 5, none, .mov (.t 13)⟩]
def c53l8 : ACode := (.seq (.seq (.reg 0 c53r4) (.cond (.t 11) .skip (.exit 0))) (.seq (.block 1 (.seq (.reg 0 c53r5) (.cond (.t 18) (.reg 1 c53r6) .skip))) (.reg 0 c53r7)))
def c53l8m : List Bool := [false, false, false, true, true, true, false, false, false, false, false, false, false, false, false, false, false, false, false, false, false, false, false, false]
def c53r9 : List AOper := [
 ⟨some 23, none, .mov (.t 4)⟩,
 ⟨some 2, none, .mov (.t 23)⟩]
def f53 : FRow := ⟨(.seq (.reg 0 c53r0) (.seq (.reg 0 c53r1) (.seq (.reg 0 c53r2) (.seq (.seq (.reg 0 c53r3) (.block 0 (.loop c53l8m [(4, none, 0)] c53l8))) (.seq (.reg 0 c53r9) .ret))))), [.tmp 2], 24⟩
theorem okf53 : f53.Ok Try.prog 53 := ⟨_, _, Try.func53, rfl, by kernel_rfl, by kernel_rfl, by kernel_rfl⟩

/-! 54 pennyfall/pennyfallref03.Without, 2 and 0 -/
def c54r0 : List AOper := [
 ⟨some 2, none, .boxS (.t 0)⟩,
 ⟨some 4, none, .alloc [(.full []), (.full []), (.full [])]⟩]
def c54r1 : List AOper := [
 ⟨some 11, none, .fieldAddr 0 (.t 2)⟩,
 ⟨some 12, none, .load 1 false (.t 11)⟩,
 ⟨some 13, none, .fieldAddr 2 (.t 2)⟩,
 ⟨some 14, none, .load 1 false (.t 13)⟩,
 ⟨some 15, none, .build [(.full []), (.full []), (.full [])] [(0, 1, (.t 12)), (2, 1, (.t 14))]⟩,
 ⟨some 5, none, .alloc [(.full []), (.full []), (.full [])]⟩,
 ⟨none, none, .store 3 (.t 5) (.t 15)⟩]
def c54r2 : List AOper := [
 ⟨some 6, none, .mov (.c (.s (.int .i64 0)))⟩]
def c54r3 : List AOper := [
 ⟨some 16, none, .mov (.t 6)⟩,
 ⟨some 17, none, .fieldAddr 1 (.t 2)⟩,
 ⟨some 18, none, .load 1 false (.t 17)⟩,
 ⟨some 19, none, .len false (.t 18)⟩,
 ⟨some 20, none, .cmp .lss (.t 16) (.t 19)⟩]
def c54r4 : List AOper := [
 ⟨some 7, none, .mov (.c (.full []))⟩]
def c54r5 : List AOper := [
 ⟨some 8, none, .mov (.c (.s (.int .i64 0)))⟩]
def c54r6 : List AOper := [
 ⟨some 23, none, .mov (.t 8)⟩,
 ⟨some 24, none, .fieldAddr 1 (.t 2)⟩,
 ⟨some 25, none, .load 1 false (.t 24)⟩,
 ⟨some 26, none, .mov (.t 6)⟩,
 ⟨some 27, none, .idxA 1 (.t 25) (.t 26)⟩,
 ⟨some 28, none, .load 1 false (.t 27)⟩,
 ⟨some 29, none, .len false (.t 28)⟩,
 ⟨some 30, none, .cmp .lss (.t 23) (.t 29)⟩]
def c54r7 : List AOper := [
 ⟨some 9, none, .mov (.c (.s (.bool false)))⟩]
def c54r8 : List AOper := [
 ⟨some 10, none, .mov (.c (.s (.int .i64 0)))⟩]
def c54r9 : List AOper := [
 ⟨some 33, none, .mov (.t 10)⟩,
 ⟨some 34, none, .mov (.t 1)⟩,
 ⟨some 35, none, .len false (.t 34)⟩,
 ⟨some 36, none, .cmp .lss (.t 33) (.t 35)⟩]
def c54r10 : List AOper := [
 ⟨some 39, none, .mov (.t 9)⟩,
 ⟨some 40, none, .mov (.t 39)⟩,
 ⟨some 41, some (40, false), .mov (.t 1)⟩,
 ⟨some 42, some (40, false), .mov (.t 10)⟩,
 ⟨some 43, some (40, false), .idxA 2 (.t 41) (.t 42)⟩,
 ⟨some 44, some (40, false), .load 2 true (.t 43)⟩,
 ⟨some 45, some (40, false), .mov (.t 6)⟩,
 ⟨some 46, some (40, false), .fieldAddr 1 (.t 2)⟩,
 ⟨some 47, some (40, false), .load 1 false (.t 46)⟩,
 ⟨some 48, some (40, false), .mov (.t 6)⟩,
 ⟨some 49, some (40, false), .idxA 1 (.t 47) (.t 48)⟩,
 ⟨some 50, some (40, false), .load 1 false (.t 49)⟩,
 ⟨some 51, some (40, false), .mov (.t 8)⟩,
 ⟨some 52, some (40, false), .idxA 1 (.t 50) (.t 51)⟩,
 ⟨some 53, some (40, false), .load 1 false (.t 52)⟩,
 ⟨some 54, some (40, false), .build [(.s (.int .i64 0)), (.s (.int .i64 0))] [(0, 1, (.t 45)), (1, 1, (.t 53))]⟩,
 ⟨some 55, some (40, false), .eql true [(.int .i64), (.int .i64)] false (.t 44) (.t 54)⟩,
 ⟨some 56, none, .pick (.t 40) (.c (.s (.bool true))) (.t 55)⟩,
 ⟨some 9, none, .mov (.t 56)⟩]
def c54r11 : List AOper := [
 ⟨some 37, none, .mov (.t 10)⟩,
 ⟨some 38, none, .arith .add (.t 37) (.c (.s (.int .i64 1)))⟩,
 ⟨some 10, none, .mov (.t 38)⟩]
def c54l12 : ACode := (.seq (.seq (.reg 0 c54r9) (.cond (.t 36) .skip (.exit 4))) (.seq (.block 5 (.reg 0 c54r10)) (.reg 0 c54r11)))
def c54l12m : List Bool := [false, true, true, false, true, true, true, true, true, true, true, false, false, false, false, false, false, false, false, false, false, false, false, false, false, false, false, false, false, false, false, false, false, false, false, false, false, false, false, false, false, false, false, false, false, false, false, false, false, false, false, false, false, false, false, false, false, false, false, false, false, false, false, false, false, false, false, false, false, false, false, false, false, false, false, false, false]
def c54r13 : List AOper := [
 ⟨some 57, none, .mov (.t 9)⟩,
 ⟨some 58, none, .not (.t 57)⟩]
def c54r14 : List AOper := [
 ⟨some 59, none, .mov (.t 7)⟩,
 ⟨some 60, none, .fieldAddr 1 (.t 2)⟩,
 ⟨some 61, none, .load 1 false (.t 60)⟩,
 ⟨some 62, none, .mov (.t 6)⟩,
 ⟨some 63, none, .idxA 1 (.t 61) (.t 62)⟩,
 ⟨some 64, none, .load 1 false (.t 63)⟩,
 ⟨some 65, none, .mov (.t 8)⟩,
 ⟨some 66, none, .idxA 1 (.t 64) (.t 65)⟩,
 ⟨some 67, none, .load 1 false (.t 66)⟩,
 ⟨some 68, none, .buildSl 1 1 (.int .i64 0) [(0, (.t 67))]⟩,
 ⟨some 69, none, .append 1 8 (.t 59) (.t 68)⟩,
 ⟨some 7, none, .mov (.t 69)⟩]
def c54r15 : List AOper := [
 ⟨some 31, none, .mov (.t 8)⟩,
 ⟨some 32, none, .arith .add (.t 31) (.c (.s (.int .i64 1)))⟩,
 ⟨some 8, none, .mov (.t 32)⟩]
def c54l16 : ACode := (.seq (.seq (.reg 0 c54r6) (.cond (.t 30) .skip (.exit 2))) (.seq (.block 3 (.seq (.reg 0 c54r7) (.seq (.seq (.reg 0 c54r8) (.block 4 (.loop c54l12m [] c54l12))) (.seq (.reg 0 c54r13) (.cond (.t 58) (.reg 1 c54r14) .skip))))) (.reg 0 c54r15)))
def c54l16m : List Bool := [false, true, true, false, true, true, true, true, true, false, false, false, false, false, false, false, false, false, false, false, false, false, false, false, false, false, false, false, false, false, false, false, false, false, false, false, false, false, false, false, false, false, false, false, false, false, false, false, false, false, false, false, false, false, false, false, false, false, false, false, false, false, false, false, false, false, false, false, false, false, false, false, false, false, false, false, false]
def c54r17 : List AOper := [
 ⟨some 70, none, .fieldAddr 1 (.t 5)⟩,
 ⟨some 71, none, .load 1 false (.t 70)⟩,
 ⟨some 72, none, .frzv (.t 7)⟩,
 ⟨some 73, none, .buildSl 1 1 (.slice []) [(0, (.t 72))]⟩,
 ⟨some 74, none, .append 1 24 (.t 71) (.t 73)⟩,
 ⟨some 75, none, .fieldAddr 1 (.t 5)⟩,
 ⟨none, none, .store 1 (.t 75) (.t 74)⟩]
def c54r18 : List AOper := [
 ⟨some 21, none, .mov (.t 6)⟩,
 ⟨some 22, none, .arith .add (.t 21) (.c (.s (.int .i64 1)))⟩,
 ⟨some 6, none, .mov (.t 22)⟩]
def c54l19 : ACode := (.seq (.seq (.reg 0 c54r3) (.cond (.t 20) .skip (.exit 0))) (.seq (.block 1 (.seq (.reg 0 c54r4) (.seq (.seq (.reg 0 c54r5) (.block 2 (.loop c54l16m [(7, none, 0)] c54l16))) (.reg 1 c54r17)))) (.reg 0 c54r18)))
def c54l19m : List Bool := [false, true, true, false, true, true, true, false, false, false, false, false, false, false, false, false, false, false, false, false, false, false, false, false, false, false, false, false, false, false, false, false, false, false, false, false, false, false, false, false, false, false, false, false, false, false, false, false, false, false, false, false, false, false, false, false, false, false, false, false, false, false, false, false, false, false, false, false, false, false, false, false, false, false, false, false, false]
def c54r20 : List AOper := [
 ⟨some 76, none, .load 3 true (.t 5)⟩,
 ⟨none, none, .store 3 (.t 4) (.t 76)⟩]
def f54 : FRow := ⟨(.seq (.reg 1 c54r0) (.seq (.reg 1 c54r1) (.seq (.seq (.reg 0 c54r2) (.block 0 (.loop c54l19m [(5, some 1, 0)] c54l19))) (.seq (.reg 0 c54r20) .ret)))), [.cell 4 3 true], 77⟩
theorem okf54 : f54.Ok Try.prog 54 := ⟨_, _, Try.func54, rfl, by kernel_rfl, by kernel_rfl, by kernel_rfl⟩

/-! 55 pennyfall/pennyfalllaw03.example, 1 and 0 -/
def c55r0 : List AOper := [
 ⟨some 2, none, .alloc [(.full []), (.full []), (.full [])]⟩]
def c55r1 : List AOper := [
 ⟨some 3, none, .buildSl 1 6 (.int .i64 0) [(0, (.c (.s (.int .i64 1)))), (1, (.c (.s (.int .i64 0)))), (2, (.c (.s (.int .i64 0)))), (3, (.c (.s (.int .i64 1)))), (4, (.c (.s (.int .i64 1)))), (5, (.c (.s (.int .i64 1))))]⟩,
 ⟨some 4, none, .call 56 [(.t 3)]⟩,
 ⟨some 5, none, .buildSl 1 6 (.int .i64 0) [(0, (.c (.s (.int .i64 0)))), (1, (.c (.s (.int .i64 0)))), (2, (.c (.s (.int .i64 0)))), (3, (.c (.s (.int .i64 0)))), (4, (.c (.s (.int .i64 0)))), (5, (.c (.s (.int .i64 1))))]⟩,
 ⟨some 6, none, .call 56 [(.t 5)]⟩,
 ⟨some 7, none, .buildSl 1 2 (.int .i64 0) [(0, (.c (.s (.int .i64 1)))), (1, (.c (.s (.int .i64 2))))]⟩,
 ⟨some 8, none, .call 56 [(.t 7)]⟩,
 ⟨some 9, none, .buildSl 1 2 (.int .i64 0) [(0, (.c (.s (.int .i64 3)))), (1, (.c (.s (.int .i64 4))))]⟩,
 ⟨some 10, none, .call 56 [(.t 9)]⟩,
 ⟨some 11, none, .buildSl 1 2 (.int .i64 0) [(0, (.c (.s (.int .i64 0)))), (1, (.c (.s (.int .i64 5))))]⟩,
 ⟨some 12, none, .call 56 [(.t 11)]⟩,
 ⟨some 13, none, .buildSl 1 1 (.int .i64 0) [(0, (.c (.s (.int .i64 5))))]⟩,
 ⟨some 14, none, .call 56 [(.t 13)]⟩,
 ⟨some 15, none, .frzv (.t 0)⟩,
 ⟨some 16, none, .buildSl 1 6 (.slice []) [(0, (.t 8)), (1, (.t 10)), (2, (.t 12)), (3, (.t 14)), (4, (.t 15)), (5, (.c (.full [])))]⟩,
 ⟨some 17, none, .call 82 [(.t 4), (.t 6), (.t 16)]⟩,
 ⟨none, none, .store 3 (.t 2) (.t 17)⟩]
def f55 : FRow := ⟨(.seq (.reg 1 c55r0) (.seq (.reg 0 c55r1) .ret)), [.cell 2 3 true], 18⟩
theorem okf55 : f55.Ok Try.prog 55 := ⟨_, _, Try.func55, rfl, by kernel_rfl, by kernel_rfl, by kernel_rfl⟩

/-! 56 pennyfall/pennyfalllaw03.of, 1 and 0 -/
def c56r0 : List AOper := [
 ⟨some 2, none, .mov (.c (.full []))⟩]
def c56r1 : List AOper := [
 ⟨some 3, none, .mov (.t 0)⟩,
 ⟨some 2, none, .mov (.t 3)⟩]
def f56 : FRow := ⟨(.seq (.reg 0 c56r0) (.seq (.reg 0 c56r1) .ret)), [.tmp 2], 4⟩
theorem okf56 : f56.Ok Try.prog 56 := ⟨_, _, Try.func56, rfl, by kernel_rfl, by kernel_rfl, by kernel_rfl⟩

/-! 57 pennyfall/pennyfalllaw03.pairs, 1 and 0 -/
def c57r0 : List AOper := [
 ⟨some 2, none, .mov (.c (.full []))⟩]
def c57r1 : List AOper := [
 ⟨some 3, none, .mov (.t 0)⟩,
 ⟨some 2, none, .mov (.t 3)⟩]
def f57 : FRow := ⟨(.seq (.reg 0 c57r0) (.seq (.reg 0 c57r1) .ret)), [.tmp 2], 4⟩
theorem okf57 : f57.Ok Try.prog 57 := ⟨_, _, Try.func57, rfl, by kernel_rfl, by kernel_rfl, by kernel_rfl⟩

/-! 58 pennyfall/skill.open, 2 and 0 -/
def c58r0 : List AOper := [
 ⟨some 2, none, .boxS (.t 0)⟩,
 ⟨some 4, none, .mov (.c (.s .nilp))⟩,
 ⟨some 5, none, .mov (.c (.s (.int .i64 0)))⟩]
def c58r1 : List AOper := [
 ⟨some 7, none, .load 3 true (.t 2)⟩,
 ⟨some 8, none, .call 20 [(.t 7)]⟩,
 ⟨some 6, none, .mov (.t 8)⟩]
def c58r2 : List AOper := [
 ⟨some 10, none, .mov (.t 6)⟩,
 ⟨some 11, none, .cmp .neq (.t 10) (.c (.s (.int .i64 0)))⟩,
 ⟨some 9, none, .mov (.t 11)⟩]
def c58r3 : List AOper := [
 ⟨some 12, none, .mov (.t 6)⟩,
 ⟨some 4, none, .mov (.c (.s .nilp))⟩,
 ⟨some 5, none, .mov (.t 12)⟩]
def c58r4 : List AOper := [
 ⟨some 14, none, .fieldAddr 1 (.t 2)⟩,
 ⟨some 15, none, .load 1 false (.t 14)⟩,
 ⟨some 16, none, .len false (.t 15)⟩,
 ⟨some 17, none, .arith .sub (.t 16) (.c (.s (.int .i64 1)))⟩,
 ⟨some 18, none, .mov (.t 1)⟩,
 ⟨some 19, none, .call 60 [(.c (.s (.int .i64 0))), (.t 17), (.t 18)]⟩,
 ⟨some 20, none, .not (.t 19)⟩,
 ⟨some 13, none, .mov (.t 20)⟩]
def c58r5 : List AOper := [
 ⟨some 4, none, .mov (.c (.s .nilp))⟩,
 ⟨some 5, none, .mov (.c (.s (.int .i64 2)))⟩]
def c58r6 : List AOper := [
 ⟨some 21, none, .load 3 true (.t 2)⟩,
 ⟨some 22, none, .call 80 [(.t 21)]⟩,
 ⟨some 4, none, .mov (.t 22)⟩,
 ⟨some 5, none, .mov (.c (.s (.int .i64 0)))⟩]
def f58 : FRow := ⟨(.seq (.reg 0 c58r0) (.seq (.reg 0 c58r1) (.seq (.block 0 (.seq (.reg 0 c58r2) (.cond (.t 9) (.seq (.reg 0 c58r3) .ret) (.seq (.reg 0 c58r4) (.cond (.t 13) (.seq (.reg 0 c58r5) .ret) .skip))))) (.seq (.reg 0 c58r6) .ret)))), [.tmp 4, .tmp 5], 23⟩
theorem okf58 : f58.Ok Try.prog 58 := ⟨_, _, Try.func58, rfl, by kernel_rfl, by kernel_rfl, by kernel_rfl⟩

/-! 59 pennyfall/pennyfallref03.DistancesOf, 1 and 0 -/
def c59r0 : List AOper := [
 ⟨some 1, none, .boxS (.t 0)⟩,
 ⟨some 2, none, .mov (.c (.full []))⟩]
def c59r1 : List AOper := [
 ⟨some 9, none, .fieldAddr 1 (.t 1)⟩,
 ⟨some 10, none, .load 1 false (.t 9)⟩,
 ⟨some 11, none, .len false (.t 10)⟩,
 ⟨some 3, none, .mov (.t 11)⟩]
def c59r2 : List AOper := [
 ⟨some 12, none, .mov (.t 3)⟩,
 ⟨some 13, none, .mkslice 1 8 [(.int .i64 0)] (.t 12) (.t 12)⟩,
 ⟨some 4, none, .mov (.t 13)⟩]
def c59r3 : List AOper := [
 ⟨some 5, none, .mov (.c (.s (.int .i64 0)))⟩]
def c59r4 : List AOper := [
 ⟨some 14, none, .mov (.t 5)⟩,
 ⟨some 15, none, .mov (.t 3)⟩,
 ⟨some 16, none, .cmp .lss (.t 14) (.t 15)⟩]
def c59r5 : List AOper := [
 ⟨some 19, none, .mov (.t 4)⟩,
 ⟨some 20, none, .mov (.t 5)⟩,
 ⟨some 21, none, .idxA 1 (.t 19) (.t 20)⟩,
 ⟨none, none, .store 1 (.t 21) (.c (.s (.int .i64 (-1))))⟩]
def c59r6 : List AOper := [
 ⟨some 22, none, .fieldAddr 2 (.t 1)⟩,
 ⟨some 23, none, .load 1 false (.t 22)⟩,
 ⟨some 24, none, .mov (.t 5)⟩,
 ⟨some 25, none, .idxA 1 (.t 23) (.t 24)⟩,
 ⟨some 26, none, .load 1 false (.t 25)⟩]
def c59r7 : List AOper := [
 ⟨some 27, none, .mov (.t 4)⟩,
 ⟨some 28, none, .mov (.t 5)⟩,
 ⟨some 29, none, .idxA 1 (.t 27) (.t 28)⟩,
 ⟨none, none, .store 1 (.t 29) (.c (.s (.int .i64 0)))⟩]
def c59r8 : List AOper := [
 ⟨some 17, none, .mov (.t 5)⟩,
 ⟨some 18, none, .arith .add (.t 17) (.c (.s (.int .i64 1)))⟩,
 ⟨some 5, none, .mov (.t 18)⟩]
def c59l9 : ACode := (.seq (.seq (.reg 0 c59r4) (.cond (.t 16) .skip (.exit 0))) (.seq (.block 1 (.seq (.reg 0 c59r5) (.seq (.reg 0 c59r6) (.cond (.t 26) (.reg 0 c59r7) .skip)))) (.reg 0 c59r8)))
def c59l9m : List Bool := [false, true, false, true, true, true, false, false, false, false, false, false, false, false, false, false, false, false, false, false, false, false, false, false, false, false, false, false, false, false, false, false, false, false, false, false, false, false, false, false, false, false, false, false, false, false, false, false, false, false, false, false, false, false, false, false, false, false, false, false]
def c59r10 : List AOper := [
 ⟨some 6, none, .mov (.c (.s (.int .i64 1)))⟩]
def c59r11 : List AOper := [
 ⟨some 30, none, .mov (.t 6)⟩,
 ⟨some 31, none, .mov (.t 3)⟩,
 ⟨some 32, none, .cmp .leq (.t 30) (.t 31)⟩]
def c59r12 : List AOper := [
 ⟨some 35, none, .buildSl 1 0 (.int .i64 0) []⟩,
 ⟨some 36, none, .mov (.t 4)⟩,
 ⟨some 37, none, .appendN 1 8 (.t 35) (.t 36)⟩,
 ⟨some 7, none, .mov (.t 37)⟩]
def c59r13 : List AOper := [
 ⟨some 8, none, .mov (.c (.s (.int .i64 0)))⟩]
def c59r14 : List AOper := [
 ⟨some 38, none, .mov (.t 8)⟩,
 ⟨some 39, none, .mov (.t 3)⟩,
 ⟨some 40, none, .cmp .lss (.t 38) (.t 39)⟩]
def c59r15 : List AOper := [
 ⟨some 43, none, .mov (.t 7)⟩,
 ⟨some 44, none, .mov (.t 8)⟩,
 ⟨some 45, none, .idxA 1 (.t 43) (.t 44)⟩,
 ⟨some 46, none, .load 1 false (.t 45)⟩,
 ⟨some 47, none, .cmp .lss (.t 46) (.c (.s (.int .i64 0)))⟩,
 ⟨some 48, none, .mov (.t 47)⟩,
 ⟨some 49, some (48, true), .load 3 true (.t 1)⟩,
 ⟨some 50, some (48, true), .mov (.t 8)⟩,
 ⟨some 51, some (48, true), .mov (.t 7)⟩,
 ⟨some 52, some (48, true), .call 83 [(.t 49), (.t 50), (.t 51)]⟩,
 ⟨some 53, some (48, true), .cmp .geq (.t 52) (.c (.s (.int .i64 0)))⟩,
 ⟨some 54, none, .pick (.t 48) (.t 53) (.c (.s (.bool false)))⟩]
def c59r16 : List AOper := [
 ⟨some 55, none, .mov (.t 4)⟩,
 ⟨some 56, none, .mov (.t 8)⟩,
 ⟨some 57, none, .mov (.t 6)⟩,
 ⟨some 58, none, .idxA 1 (.t 55) (.t 56)⟩,
 ⟨none, none, .store 1 (.t 58) (.t 57)⟩]
def c59r17 : List AOper := [
 ⟨some 41, none, .mov (.t 8)⟩,
 ⟨some 42, none, .arith .add (.t 41) (.c (.s (.int .i64 1)))⟩,
 ⟨some 8, none, .mov (.t 42)⟩]
def c59l18 : ACode := (.seq (.seq (.reg 0 c59r14) (.cond (.t 40) .skip (.exit 4))) (.seq (.block 5 (.seq (.reg 0 c59r15) (.cond (.t 54) (.reg 0 c59r16) .skip))) (.reg 0 c59r17)))
def c59l18m : List Bool := [false, true, false, true, true, false, true, true, true, false, false, false, false, false, false, false, false, false, false, false, false, false, false, false, false, false, false, false, false, false, false, false, false, false, false, false, false, false, false, false, false, false, false, false, false, false, false, false, false, false, false, false, false, false, false, false, false, false, false, false]
def c59r19 : List AOper := [
 ⟨some 33, none, .mov (.t 6)⟩,
 ⟨some 34, none, .arith .add (.t 33) (.c (.s (.int .i64 1)))⟩,
 ⟨some 6, none, .mov (.t 34)⟩]
def c59l20 : ACode := (.seq (.seq (.reg 0 c59r11) (.cond (.t 32) .skip (.exit 2))) (.seq (.block 3 (.seq (.reg 1 c59r12) (.seq (.reg 0 c59r13) (.block 4 (.loop c59l18m [] c59l18))))) (.reg 0 c59r19)))
def c59l20m : List Bool := [false, true, false, true, true, false, true, false, false, false, false, false, false, false, false, false, false, false, false, false, false, false, false, false, false, false, false, false, false, false, false, false, false, false, false, false, false, false, false, false, false, false, false, false, false, false, false, false, false, false, false, false, false, false, false, false, false, false, false, false]
def c59r21 : List AOper := [
 ⟨some 59, none, .mov (.t 4)⟩,
 ⟨some 2, none, .mov (.t 59)⟩]
def f59 : FRow := ⟨(.seq (.reg 0 c59r0) (.seq (.reg 0 c59r1) (.seq (.reg 1 c59r2) (.seq (.seq (.reg 0 c59r3) (.block 0 (.loop c59l9m [] c59l9))) (.seq (.seq (.reg 0 c59r10) (.block 2 (.loop c59l20m [] c59l20))) (.seq (.reg 0 c59r21) .ret)))))), [.tmp 2], 60⟩
theorem okf59 : f59.Ok Try.prog 59 := ⟨_, _, Try.func59, rfl, by kernel_rfl, by kernel_rfl, by kernel_rfl⟩

/-! 60 pennyfall/skill.within, 3 and 0 -/
def c60r0 : List AOper := [
 ⟨some 3, none, .boxS (.t 0)⟩,
 ⟨some 4, none, .boxS (.t 1)⟩,
 ⟨some 6, none, .mov (.c (.s (.bool false)))⟩]
def c60r1 : List AOper := [
 ⟨some 7, none, .mov (.t 2)⟩,
 ⟨some 8, none, .mkfn 85 [] [(.t 3), (.t 4)]⟩,
 ⟨some 9, none, .call 84 [(.t 7), (.t 8)]⟩,
 ⟨some 10, none, .not (.t 9)⟩,
 ⟨some 6, none, .mov (.t 10)⟩]
def f60 : FRow := ⟨(.seq (.reg 0 c60r0) (.seq (.reg 0 c60r1) .ret)), [.tmp 6], 11⟩
theorem okf60 : f60.Ok Try.prog 60 := ⟨_, _, Try.func60, rfl, by kernel_rfl, by kernel_rfl, by kernel_rfl⟩

/-! 61 slices.ContainsFunc[[][]int,[]int], 2 and 0 -/
def c61r0 : List AOper := [
 ⟨some 4, none, .mov (.c (.s (.bool false)))⟩]
def c61r1 : List AOper := [
 ⟨some 5, none, .mov (.t 0)⟩,
 ⟨some 6, none, .mov (.t 1)⟩,
 ⟨some 7, none, .call 86 [(.t 5), (.t 6)]⟩,
 ⟨some 8, none, .cmp .geq (.t 7) (.c (.s (.int .i64 0)))⟩,
 ⟨some 4, none, .mov (.t 8)⟩]
def f61 : FRow := ⟨(.seq (.reg 0 c61r0) (.seq (.reg 0 c61r1) .ret)), [.tmp 4], 9⟩
theorem okf61 : f61.Ok Try.prog 61 := ⟨_, _, Try.func61, rfl, by kernel_rfl, by kernel_rfl, by kernel_rfl⟩

/-! 62 pennyfall/skill.CheckMachine$1, 1 and 1 -/
def c62r0 : List AOper := [
 ⟨some 3, none, .mov (.c (.s (.bool false)))⟩]
def c62r1 : List AOper := [
 ⟨some 4, none, .mov (.t 0)⟩,
 ⟨some 5, none, .load 1 false (.t 1)⟩,
 ⟨some 6, none, .call 63 [(.t 4), (.t 5)]⟩,
 ⟨some 7, none, .not (.t 6)⟩,
 ⟨some 3, none, .mov (.t 7)⟩]
def f62 : FRow := ⟨(.seq (.reg 0 c62r0) (.seq (.reg 0 c62r1) .ret)), [.tmp 3], 8⟩
theorem okf62 : f62.Ok Try.prog 62 := ⟨_, _, Try.func62, rfl, by kernel_rfl, by kernel_rfl, by kernel_rfl⟩

/-! 63 pennyfall/skill.rising, 2 and 0 -/
def c63r0 : List AOper := [
 ⟨some 4, none, .mov (.c (.s (.bool false)))⟩]
def c63r1 : List AOper := [
 ⟨some 5, none, .mov (.c (.s (.int .i64 0)))⟩]
def c63r2 : List AOper := [
 ⟨some 8, none, .mov (.t 0)⟩,
 ⟨some 9, none, .len false (.t 8)⟩,
 ⟨some 10, none, .mov (.c (.s (.int .i64 0)))⟩]
def c63r3 : List AOper := [
 ⟨some 11, none, .cmp .lss (.t 10) (.t 9)⟩]
def c63r4 : List AOper := [
 ⟨some 12, none, .idxA 1 (.t 8) (.t 10)⟩,
 ⟨some 13, none, .load 1 false (.t 12)⟩,
 ⟨some 7, none, .mov (.t 13)⟩]
def c63r5 : List AOper := [
 ⟨some 14, none, .mov (.t 5)⟩,
 ⟨some 15, none, .mov (.t 1)⟩,
 ⟨some 16, none, .arith .sub (.t 15) (.c (.s (.int .i64 1)))⟩,
 ⟨some 17, none, .mov (.t 7)⟩,
 ⟨some 18, none, .buildSl 1 1 (.int .i64 0) [(0, (.t 17))]⟩,
 ⟨some 19, none, .call 60 [(.t 14), (.t 16), (.t 18)]⟩,
 ⟨some 20, none, .not (.t 19)⟩]
def c63r6 : List AOper := [
 ⟨some 4, none, .mov (.c (.s (.bool false)))⟩]
def c63r7 : List AOper := [
 ⟨some 21, none, .mov (.t 7)⟩,
 ⟨some 22, none, .arith .add (.t 21) (.c (.s (.int .i64 1)))⟩,
 ⟨some 5, none, .mov (.t 22)⟩]
def c63r8 : List AOper := [
 ⟨some 23, none, .arith .add (.t 10) (.c (.s (.int .i64 1)))⟩,
 ⟨some 10, none, .mov (.t 23)⟩]
def c63l9 : ACode := (.seq (.reg 0 c63r3) (.seq (.cond (.t 11) .skip (.exit 0)) (.seq (.block 1 (.seq (.reg 0 c63r4) (.seq (.seq (.reg 0 c63r5) (.cond (.t 20) (.seq (.reg 0 c63r6) .ret) .skip)) (.reg 0 c63r7)))) (.reg 0 c63r8))))
def c63l9m : List Bool := [false, true, false, false, false, true, false, false, true, true, true, false, false, false, false, false, false, false, false, false, false, false, false, false]
def c63r10 : List AOper := [
 ⟨some 4, none, .mov (.c (.s (.bool true)))⟩]
def f63 : FRow := ⟨(.seq (.reg 0 c63r0) (.seq (.reg 0 c63r1) (.seq (.seq (.reg 0 c63r2) (.block 0 (.loop c63l9m [] c63l9))) (.seq (.reg 0 c63r10) .ret)))), [.tmp 4], 24⟩
theorem okf63 : f63.Ok Try.prog 63 := ⟨_, _, Try.func63, rfl, by kernel_rfl, by kernel_rfl, by kernel_rfl⟩

/-! 64 pennyfall/pennyfallref03.isList, 2 and 0 -/
def c64r0 : List AOper := [
 ⟨some 4, none, .mov (.c (.s (.bool false)))⟩]
def c64r1 : List AOper := [
 ⟨some 5, none, .mov (.c (.s (.int .i64 0)))⟩]
def c64r2 : List AOper := [
 ⟨some 6, none, .mov (.t 5)⟩,
 ⟨some 7, none, .mov (.t 0)⟩,
 ⟨some 8, none, .len false (.t 7)⟩,
 ⟨some 9, none, .cmp .lss (.t 6) (.t 8)⟩]
def c64r3 : List AOper := [
 ⟨some 12, none, .mov (.t 0)⟩,
 ⟨some 13, none, .mov (.t 5)⟩,
 ⟨some 14, none, .idxA 1 (.t 12) (.t 13)⟩,
 ⟨some 15, none, .load 1 false (.t 14)⟩,
 ⟨some 16, none, .cmp .lss (.t 15) (.c (.s (.int .i64 0)))⟩,
 ⟨some 17, none, .mov (.t 16)⟩,
 ⟨some 18, some (17, false), .mov (.t 0)⟩,
 ⟨some 19, some (17, false), .mov (.t 5)⟩,
 ⟨some 20, some (17, false), .idxA 1 (.t 18) (.t 19)⟩,
 ⟨some 21, some (17, false), .load 1 false (.t 20)⟩,
 ⟨some 22, some (17, false), .mov (.t 1)⟩,
 ⟨some 23, some (17, false), .cmp .geq (.t 21) (.t 22)⟩,
 ⟨some 24, none, .pick (.t 17) (.c (.s (.bool true))) (.t 23)⟩,
 ⟨some 25, none, .mov (.t 24)⟩,
 ⟨some 26, some (25, false), .mov (.t 5)⟩,
 ⟨some 27, some (25, false), .cmp .gtr (.t 26) (.c (.s (.int .i64 0)))⟩,
 ⟨some 28, some (25, false), .mov (.t 27)⟩,
 ⟨some 29, some (28, true), .mov (.t 0)⟩,
 ⟨some 30, some (28, true), .mov (.t 5)⟩,
 ⟨some 31, some (28, true), .idxA 1 (.t 29) (.t 30)⟩,
 ⟨some 32, some (28, true), .load 1 false (.t 31)⟩,
 ⟨some 33, some (28, true), .mov (.t 0)⟩,
 ⟨some 34, some (28, true), .mov (.t 5)⟩,
 ⟨some 35, some (28, true), .arith .sub (.t 34) (.c (.s (.int .i64 1)))⟩,
 ⟨some 36, some (28, true), .idxA 1 (.t 33) (.t 35)⟩,
 ⟨some 37, some (28, true), .load 1 false (.t 36)⟩,
 ⟨some 38, some (28, true), .cmp .leq (.t 32) (.t 37)⟩,
 ⟨some 39, some (25, false), .pick (.t 28) (.t 38) (.c (.s (.bool false)))⟩,
 ⟨some 40, none, .pick (.t 25) (.c (.s (.bool true))) (.t 39)⟩]
def c64r4 : List AOper := [
 ⟨some 4, none, .mov (.c (.s (.bool false)))⟩]
def c64r5 : List AOper := [
 ⟨some 10, none, .mov (.t 5)⟩,
 ⟨some 11, none, .arith .add (.t 10) (.c (.s (.int .i64 1)))⟩,
 ⟨some 5, none, .mov (.t 11)⟩]
def c64l6 : ACode := (.seq (.seq (.reg 0 c64r2) (.cond (.t 9) .skip (.exit 0))) (.seq (.block 1 (.seq (.reg 0 c64r3) (.cond (.t 40) (.seq (.reg 0 c64r4) .ret) .skip))) (.reg 0 c64r5)))
def c64l6m : List Bool := [true, true, false, false, false, true, false, false, false, false, false, false, false, false, false, false, false, false, false, false, false, false, false, false, false, false, false, false, false, false, false, false, false, false, false, false, false, false, false, false, false]
def c64r7 : List AOper := [
 ⟨some 4, none, .mov (.c (.s (.bool true)))⟩]
def f64 : FRow := ⟨(.seq (.reg 0 c64r0) (.seq (.seq (.reg 0 c64r1) (.block 0 (.loop c64l6m [] c64l6))) (.seq (.reg 0 c64r7) .ret))), [.tmp 4], 41⟩
theorem okf64 : f64.Ok Try.prog 64 := ⟨_, _, Try.func64, rfl, by kernel_rfl, by kernel_rfl, by kernel_rfl⟩

/-! 65 pennyfall/skill.CheckRanks$1, 1 and 2 -/
def c65r0 : List AOper := [
 ⟨some 4, none, .mov (.c (.s (.bool false)))⟩]
def c65r1 : List AOper := [
 ⟨some 5, none, .load 1 false (.t 1)⟩,
 ⟨some 6, none, .arith .sub (.t 5) (.c (.s (.int .i64 1)))⟩,
 ⟨some 7, none, .load 1 false (.t 2)⟩,
 ⟨some 8, none, .mov (.t 0)⟩,
 ⟨some 9, none, .idxA 1 (.t 7) (.t 8)⟩,
 ⟨some 10, none, .load 1 false (.t 9)⟩,
 ⟨some 11, none, .buildSl 1 1 (.int .i64 0) [(0, (.t 10))]⟩,
 ⟨some 12, none, .call 60 [(.c (.s (.int .i64 0))), (.t 6), (.t 11)]⟩,
 ⟨some 4, none, .mov (.t 12)⟩]
def f65 : FRow := ⟨(.seq (.reg 0 c65r0) (.seq (.reg 0 c65r1) .ret)), [.tmp 4], 13⟩
theorem okf65 : f65.Ok Try.prog 65 := ⟨_, _, Try.func65, rfl, by kernel_rfl, by kernel_rfl, by kernel_rfl⟩

/-! 66 (*pennyfall/skill.board).wins, 3 and 0 -/
def c66r0 : List AOper := [
 ⟨some 5, none, .boxS (.t 2)⟩,
 ⟨some 6, none, .mov (.c (.s (.bool false)))⟩]
def c66r1 : List AOper := [
 ⟨some 8, none, .mkfn 87 [] [(.t 5)]⟩,
 ⟨some 7, none, .mov (.t 8)⟩]
def c66r2 : List AOper := [
 ⟨some 9, none, .mov (.t 0)⟩,
 ⟨some 10, none, .nilck (.t 9)⟩,
 ⟨some 11, none, .fieldAddr 0 (.t 10)⟩,
 ⟨some 12, none, .fieldAddr 0 (.t 11)⟩,
 ⟨some 13, none, .load 1 false (.t 12)⟩,
 ⟨some 14, none, .mov (.t 1)⟩,
 ⟨some 15, none, .idxA 1 (.t 13) (.t 14)⟩,
 ⟨some 16, none, .load 1 false (.t 15)⟩]
def c66r3 : List AOper := [
 ⟨some 17, none, .mov (.t 0)⟩,
 ⟨some 18, none, .nilck (.t 17)⟩,
 ⟨some 19, none, .fieldAddr 0 (.t 18)⟩,
 ⟨some 20, none, .fieldAddr 1 (.t 19)⟩,
 ⟨some 21, none, .load 1 false (.t 20)⟩,
 ⟨some 22, none, .mov (.t 1)⟩,
 ⟨some 23, none, .idxA 1 (.t 21) (.t 22)⟩,
 ⟨some 24, none, .load 1 false (.t 23)⟩,
 ⟨some 25, none, .load 1 false (.t 5)⟩,
 ⟨some 26, none, .call 84 [(.t 24), (.t 25)]⟩,
 ⟨some 6, none, .mov (.t 26)⟩]
def c66r4 : List AOper := [
 ⟨some 27, none, .mov (.t 0)⟩,
 ⟨some 28, none, .nilck (.t 27)⟩,
 ⟨some 29, none, .fieldAddr 0 (.t 28)⟩,
 ⟨some 30, none, .fieldAddr 1 (.t 29)⟩,
 ⟨some 31, none, .load 1 false (.t 30)⟩,
 ⟨some 32, none, .mov (.t 1)⟩,
 ⟨some 33, none, .idxA 1 (.t 31) (.t 32)⟩,
 ⟨some 34, none, .load 1 false (.t 33)⟩,
 ⟨some 35, none, .len false (.t 34)⟩,
 ⟨some 36, none, .cmp .gtr (.t 35) (.c (.s (.int .i64 0)))⟩,
 ⟨some 37, none, .mov (.t 36)⟩,
 ⟨some 38, some (37, true), .mov (.t 0)⟩,
 ⟨some 39, some (37, true), .nilck (.t 38)⟩,
 ⟨some 40, some (37, true), .fieldAddr 0 (.t 39)⟩,
 ⟨some 41, some (37, true), .fieldAddr 1 (.t 40)⟩,
 ⟨some 42, some (37, true), .load 1 false (.t 41)⟩,
 ⟨some 43, some (37, true), .mov (.t 1)⟩,
 ⟨some 44, some (37, true), .idxA 1 (.t 42) (.t 43)⟩,
 ⟨some 45, some (37, true), .load 1 false (.t 44)⟩,
 ⟨some 46, some (37, true), .mov (.t 7)⟩,
 ⟨some 47, some (37, true), .call 84 [(.t 45), (.t 46)]⟩,
 ⟨some 48, some (37, true), .not (.t 47)⟩,
 ⟨some 49, none, .pick (.t 37) (.t 48) (.c (.s (.bool false)))⟩,
 ⟨some 6, none, .mov (.t 49)⟩]
def f66 : FRow := ⟨(.seq (.reg 0 c66r0) (.seq (.reg 0 c66r1) (.seq (.seq (.reg 0 c66r2) (.cond (.t 16) (.seq (.reg 0 c66r3) .ret) .skip)) (.seq (.reg 0 c66r4) .ret)))), [.tmp 6], 50⟩
theorem okf66 : f66.Ok Try.prog 66 := ⟨_, _, Try.func66, rfl, by kernel_rfl, by kernel_rfl, by kernel_rfl⟩

/-! 67 pennyfall/pennyfallref03.lesser, 3 and 0 -/
def c67r0 : List AOper := [
 ⟨some 6, none, .mov (.c (.s (.bool false)))⟩]
def c67r1 : List AOper := [
 ⟨some 7, none, .mov (.t 0)⟩,
 ⟨some 8, none, .mov (.t 1)⟩,
 ⟨some 9, none, .idxA 1 (.t 7) (.t 8)⟩,
 ⟨some 10, none, .load 1 false (.t 9)⟩,
 ⟨some 11, none, .cmp .geq (.t 10) (.c (.s (.int .i64 0)))⟩,
 ⟨some 12, none, .mov (.t 11)⟩,
 ⟨some 13, some (12, true), .mov (.t 0)⟩,
 ⟨some 14, some (12, true), .mov (.t 1)⟩,
 ⟨some 15, some (12, true), .idxA 1 (.t 13) (.t 14)⟩,
 ⟨some 16, some (12, true), .load 1 false (.t 15)⟩,
 ⟨some 17, some (12, true), .mov (.t 2)⟩,
 ⟨some 18, some (12, true), .cmp .lss (.t 16) (.t 17)⟩,
 ⟨some 19, none, .pick (.t 12) (.t 18) (.c (.s (.bool false)))⟩,
 ⟨some 6, none, .mov (.t 19)⟩]
def f67 : FRow := ⟨(.seq (.reg 0 c67r0) (.seq (.reg 0 c67r1) .ret)), [.tmp 6], 20⟩
theorem okf67 : f67.Ok Try.prog 67 := ⟨_, _, Try.func67, rfl, by kernel_rfl, by kernel_rfl, by kernel_rfl⟩

/-! 68 pennyfall/skill.CheckKeep$1, 1 and 1 -/
def c68r0 : List AOper := [
 ⟨some 3, none, .mov (.c (.s (.bool false)))⟩]
def c68r1 : List AOper := [
 ⟨some 4, none, .load 1 false (.t 1)⟩,
 ⟨some 5, none, .mov (.t 0)⟩,
 ⟨some 6, none, .call 69 [(.t 4), (.t 5)]⟩,
 ⟨some 7, none, .not (.t 6)⟩,
 ⟨some 3, none, .mov (.t 7)⟩]
def f68 : FRow := ⟨(.seq (.reg 0 c68r0) (.seq (.reg 0 c68r1) .ret)), [.tmp 3], 8⟩
theorem okf68 : f68.Ok Try.prog 68 := ⟨_, _, Try.func68, rfl, by kernel_rfl, by kernel_rfl, by kernel_rfl⟩

/-! 69 slices.Contains[[]int,int], 2 and 0 -/
def c69r0 : List AOper := [
 ⟨some 4, none, .mov (.c (.s (.bool false)))⟩]
def c69r1 : List AOper := [
 ⟨some 5, none, .mov (.t 0)⟩,
 ⟨some 6, none, .mov (.t 1)⟩,
 ⟨some 7, none, .call 88 [(.t 5), (.t 6)]⟩,
 ⟨some 8, none, .cmp .geq (.t 7) (.c (.s (.int .i64 0)))⟩,
 ⟨some 4, none, .mov (.t 8)⟩]
def f69 : FRow := ⟨(.seq (.reg 0 c69r0) (.seq (.reg 0 c69r1) .ret)), [.tmp 4], 9⟩
theorem okf69 : f69.Ok Try.prog 69 := ⟨_, _, Try.func69, rfl, by kernel_rfl, by kernel_rfl, by kernel_rfl⟩

/-! 70 (*pennyfall/skill.board).way, 2 and 0 -/
def c70r0 : List AOper := [
 ⟨some 2, none, .boxS (.t 0)⟩,
 ⟨some 4, none, .mov (.c (.full []))⟩]
def c70r1 : List AOper := [
 ⟨some 11, none, .load 1 false (.t 2)⟩,
 ⟨some 12, none, .nilck (.t 11)⟩,
 ⟨some 13, none, .fieldAddr 0 (.t 12)⟩,
 ⟨some 14, none, .fieldAddr 1 (.t 13)⟩,
 ⟨some 15, none, .load 1 false (.t 14)⟩,
 ⟨some 16, none, .len false (.t 15)⟩,
 ⟨some 17, none, .mkslice 1 8 [(.int .i64 0)] (.t 16) (.t 16)⟩,
 ⟨some 5, none, .mov (.t 17)⟩]
def c70r2 : List AOper := [
 ⟨some 18, none, .load 1 false (.t 2)⟩,
 ⟨some 19, none, .nilck (.t 18)⟩,
 ⟨some 20, none, .fieldAddr 0 (.t 19)⟩,
 ⟨some 21, none, .fieldAddr 1 (.t 20)⟩,
 ⟨some 22, none, .load 1 false (.t 21)⟩,
 ⟨some 23, none, .len false (.t 22)⟩,
 ⟨some 24, none, .mov (.c (.s (.int .i64 0)))⟩]
def c70r3 : List AOper := [
 ⟨some 25, none, .cmp .lss (.t 24) (.t 23)⟩]
def c70r4 : List AOper := [
 ⟨some 26, none, .mov (.t 24)⟩,
 ⟨some 27, none, .idxA 1 (.t 22) (.t 24)⟩,
 ⟨some 28, none, .load 1 false (.t 27)⟩,
 ⟨some 6, none, .mov (.t 26)⟩,
 ⟨some 7, none, .mov (.t 28)⟩]
def c70r5 : List AOper := [
 ⟨some 29, none, .mov (.t 5)⟩,
 ⟨some 30, none, .mov (.t 6)⟩,
 ⟨some 31, none, .idxA 1 (.t 29) (.t 30)⟩,
 ⟨none, none, .store 1 (.t 31) (.c (.s (.int .i64 (-1))))⟩]
def c70r6 : List AOper := [
 ⟨some 32, none, .load 1 false (.t 2)⟩,
 ⟨some 33, none, .mov (.t 6)⟩,
 ⟨some 34, none, .nilck (.t 32)⟩,
 ⟨some 35, none, .fieldAddr 3 (.t 34)⟩,
 ⟨some 36, none, .idxArrA 14 1 (.t 35) (.t 33)⟩,
 ⟨some 37, none, .load 1 false (.t 36)⟩,
 ⟨some 38, none, .arith .sub (.t 37) (.c (.s (.int .i64 1)))⟩,
 ⟨some 8, none, .alloc [(.s (.int .i64 0))]⟩,
 ⟨none, none, .store 1 (.t 8) (.t 38)⟩]
def c70r7 : List AOper := [
 ⟨some 40, none, .load 1 false (.t 2)⟩,
 ⟨some 41, none, .nilck (.t 40)⟩,
 ⟨some 42, none, .fieldAddr 0 (.t 41)⟩,
 ⟨some 43, none, .fieldAddr 0 (.t 42)⟩,
 ⟨some 44, none, .load 1 false (.t 43)⟩,
 ⟨some 45, none, .mov (.t 6)⟩,
 ⟨some 46, none, .idxA 1 (.t 44) (.t 45)⟩,
 ⟨some 47, none, .load 1 false (.t 46)⟩,
 ⟨some 48, none, .mov (.t 1)⟩,
 ⟨some 49, none, .eql false [.bool] true (.t 47) (.t 48)⟩,
 ⟨some 50, none, .mov (.t 49)⟩,
 ⟨some 51, some (50, false), .load 1 false (.t 2)⟩,
 ⟨some 52, some (50, false), .mov (.t 6)⟩,
 ⟨some 53, some (50, false), .nilck (.t 51)⟩,
 ⟨some 54, some (50, false), .fieldAddr 3 (.t 53)⟩,
 ⟨some 55, some (50, false), .idxArrA 14 1 (.t 54) (.t 52)⟩,
 ⟨some 56, some (50, false), .load 1 false (.t 55)⟩,
 ⟨some 57, some (50, false), .cmp .eql (.t 56) (.c (.s (.int .i64 0)))⟩,
 ⟨some 58, none, .pick (.t 50) (.c (.s (.bool true))) (.t 57)⟩,
 ⟨some 59, none, .mov (.t 58)⟩,
 ⟨some 60, some (59, false), .mov (.t 1)⟩,
 ⟨some 61, some (59, false), .mov (.t 60)⟩,
 ⟨some 62, some (61, true), .load 1 false (.t 2)⟩,
 ⟨some 63, some (61, true), .mov (.t 6)⟩,
 ⟨some 64, some (61, true), .nilck (.t 62)⟩,
 ⟨some 65, some (61, true), .fieldAddr 3 (.t 64)⟩,
 ⟨some 66, some (61, true), .idxArrA 14 1 (.t 65) (.t 63)⟩,
 ⟨some 67, some (61, true), .load 1 false (.t 66)⟩,
 ⟨some 68, some (61, true), .cmp .lss (.t 67) (.c (.s (.int .i64 0)))⟩,
 ⟨some 69, some (59, false), .pick (.t 61) (.t 68) (.c (.s (.bool false)))⟩,
 ⟨some 70, none, .pick (.t 59) (.c (.s (.bool true))) (.t 69)⟩,
 ⟨some 39, none, .mov (.t 70)⟩]
def c70r8 : List AOper := [
 ⟨some 72, none, .load 1 false (.t 2)⟩,
 ⟨some 73, none, .mov (.t 6)⟩,
 ⟨some 74, none, .nilck (.t 72)⟩,
 ⟨some 75, none, .fieldAddr 3 (.t 74)⟩,
 ⟨some 76, none, .idxArrA 14 1 (.t 75) (.t 73)⟩,
 ⟨some 77, none, .load 1 false (.t 76)⟩,
 ⟨some 78, none, .cmp .lss (.t 77) (.c (.s (.int .i64 0)))⟩,
 ⟨some 71, none, .mov (.t 78)⟩]
def c70r9 : List AOper := [
 ⟨none, none, .store 1 (.t 8) (.c (.s (.int .i64 (-1))))⟩]
def c70r10 : List AOper := [
 ⟨some 80, none, .mov (.t 7)⟩,
 ⟨some 81, none, .mkfn 90 [] [(.t 2), (.t 8)]⟩,
 ⟨some 82, none, .call 89 [(.t 80), (.t 81)]⟩,
 ⟨some 79, none, .mov (.t 82)⟩,
 ⟨some 83, none, .ext (.t 79) 0⟩,
 ⟨some 84, none, .ext (.t 79) 1⟩,
 ⟨some 9, none, .mov (.t 83)⟩,
 ⟨some 10, none, .mov (.t 84)⟩]
def c70r11 : List AOper := [
 ⟨some 85, none, .mov (.t 10)⟩]
def c70r12 : List AOper := [
 ⟨some 86, none, .mov (.t 5)⟩,
 ⟨some 87, none, .mov (.t 6)⟩,
 ⟨some 88, none, .mov (.t 9)⟩,
 ⟨some 89, none, .idxA 1 (.t 86) (.t 87)⟩,
 ⟨none, none, .store 1 (.t 89) (.t 88)⟩]
def c70r13 : List AOper := [
 ⟨some 90, none, .arith .add (.t 24) (.c (.s (.int .i64 1)))⟩,
 ⟨some 24, none, .mov (.t 90)⟩]
def c70l14 : ACode := (.seq (.reg 0 c70r3) (.seq (.cond (.t 25) .skip (.exit 0)) (.seq (.block 1 (.seq (.reg 0 c70r4) (.seq (.reg 0 c70r5) (.seq (.reg 1 c70r6) (.seq (.block 2 (.seq (.reg 0 c70r7) (.cond (.t 39) (.exit 1) (.seq (.reg 0 c70r8) (.cond (.t 71) (.reg 0 c70r9) .skip))))) (.seq (.reg 0 c70r10) (.seq (.reg 0 c70r11) (.cond (.t 85) (.reg 0 c70r12) .skip)))))))) (.reg 0 c70r13))))
def c70l14m : List Bool := [false, true, true, false, false, true, false, false, false, false, false, false, false, false, false, false, false, false, false, false, false, false, true, true, true, false, false, false, false, false, false, false, false, false, false, false, false, false, false, false, false, false, false, false, false, false, false, false, false, false, false, false, false, false, false, false, false, false, false, false, false, false, false, false, false, false, false, false, false, false, false, false, false, false, false, false, false, false, false, false, false, false, false, false, false, false, false, false, false, false, false, false]
def c70r15 : List AOper := [
 ⟨some 91, none, .mov (.t 5)⟩,
 ⟨some 4, none, .mov (.t 91)⟩]
def f70 : FRow := ⟨(.seq (.reg 0 c70r0) (.seq (.reg 1 c70r1) (.seq (.seq (.reg 0 c70r2) (.block 0 (.loop c70l14m [] c70l14))) (.seq (.reg 0 c70r15) .ret)))), [.tmp 4], 92⟩
theorem okf70 : f70.Ok Try.prog 70 := ⟨_, _, Try.func70, rfl, by kernel_rfl, by kernel_rfl, by kernel_rfl⟩

/-! 71 pennyfall/pennyfallref03.WayOf, 1 and 0 -/
def c71r0 : List AOper := [
 ⟨some 1, none, .boxS (.t 0)⟩,
 ⟨some 2, none, .mov (.c (.full []))⟩]
def c71r1 : List AOper := [
 ⟨some 7, none, .load 3 true (.t 1)⟩,
 ⟨some 8, none, .call 59 [(.t 7)]⟩,
 ⟨some 3, none, .mov (.t 8)⟩]
def c71r2 : List AOper := [
 ⟨some 4, none, .mov (.c (.full []))⟩]
def c71r3 : List AOper := [
 ⟨some 5, none, .mov (.c (.s (.int .i64 0)))⟩]
def c71r4 : List AOper := [
 ⟨some 9, none, .mov (.t 5)⟩,
 ⟨some 10, none, .mov (.t 3)⟩,
 ⟨some 11, none, .len false (.t 10)⟩,
 ⟨some 12, none, .cmp .lss (.t 9) (.t 11)⟩]
def c71r5 : List AOper := [
 ⟨some 6, none, .mov (.c (.s (.int .i64 (-1))))⟩]
def c71r6 : List AOper := [
 ⟨some 15, none, .fieldAddr 0 (.t 1)⟩,
 ⟨some 16, none, .load 1 false (.t 15)⟩,
 ⟨some 17, none, .mov (.t 5)⟩,
 ⟨some 18, none, .idxA 1 (.t 16) (.t 17)⟩,
 ⟨some 19, none, .load 1 false (.t 18)⟩,
 ⟨some 20, none, .mov (.t 19)⟩,
 ⟨some 21, some (20, true), .mov (.t 3)⟩,
 ⟨some 22, some (20, true), .mov (.t 5)⟩,
 ⟨some 23, some (20, true), .idxA 1 (.t 21) (.t 22)⟩,
 ⟨some 24, some (20, true), .load 1 false (.t 23)⟩,
 ⟨some 25, some (20, true), .cmp .gtr (.t 24) (.c (.s (.int .i64 0)))⟩,
 ⟨some 26, none, .pick (.t 20) (.t 25) (.c (.s (.bool false)))⟩]
def c71r7 : List AOper := [
 ⟨some 27, none, .load 3 true (.t 1)⟩,
 ⟨some 28, none, .mov (.t 5)⟩,
 ⟨some 29, none, .mov (.t 3)⟩,
 ⟨some 30, none, .mov (.t 5)⟩,
 ⟨some 31, none, .idxA 1 (.t 29) (.t 30)⟩,
 ⟨some 32, none, .load 1 false (.t 31)⟩,
 ⟨some 33, none, .arith .sub (.t 32) (.c (.s (.int .i64 1)))⟩,
 ⟨some 34, none, .mov (.t 3)⟩,
 ⟨some 35, none, .call 91 [(.t 27), (.t 28), (.t 33), (.t 34)]⟩,
 ⟨some 6, none, .mov (.t 35)⟩]
def c71r8 : List AOper := [
 ⟨some 36, none, .mov (.t 4)⟩,
 ⟨some 37, none, .mov (.t 6)⟩,
 ⟨some 38, none, .buildSl 1 1 (.int .i64 0) [(0, (.t 37))]⟩,
 ⟨some 39, none, .append 1 8 (.t 36) (.t 38)⟩,
 ⟨some 4, none, .mov (.t 39)⟩]
def c71r9 : List AOper := [
 ⟨some 13, none, .mov (.t 5)⟩,
 ⟨some 14, none, .arith .add (.t 13) (.c (.s (.int .i64 1)))⟩,
 ⟨some 5, none, .mov (.t 14)⟩]
def c71l10 : ACode := (.seq (.seq (.reg 0 c71r4) (.cond (.t 12) .skip (.exit 0))) (.seq (.block 1 (.seq (.reg 0 c71r5) (.seq (.seq (.reg 0 c71r6) (.cond (.t 26) (.reg 0 c71r7) .skip)) (.reg 1 c71r8)))) (.reg 0 c71r9)))
def c71l10m : List Bool := [false, true, false, true, true, true, false, false, false, false, false, false, false, false, false, false, false, false, false, false, false, false, false, false, false, false, false, false, false, false, false, false, false, false, false, false, false, false, false, false, false]
def c71r11 : List AOper := [
 ⟨some 40, none, .mov (.t 4)⟩,
 ⟨some 2, none, .mov (.t 40)⟩]
def f71 : FRow := ⟨(.seq (.reg 0 c71r0) (.seq (.reg 0 c71r1) (.seq (.reg 0 c71r2) (.seq (.seq (.reg 0 c71r3) (.block 0 (.loop c71l10m [(4, none, 0)] c71l10))) (.seq (.reg 0 c71r11) .ret))))), [.tmp 2], 41⟩
theorem okf71 : f71.Ok Try.prog 71 := ⟨_, _, Try.func71, rfl, by kernel_rfl, by kernel_rfl, by kernel_rfl⟩

/-! 72 pennyfall/pennyfallref03.AnswerOf, 1 and 0 -/
def c72r0 : List AOper := [
 ⟨some 1, none, .boxS (.t 0)⟩,
 ⟨some 2, none, .mov (.c (.full []))⟩]
def c72r1 : List AOper := [
 ⟨some 7, none, .load 3 true (.t 1)⟩,
 ⟨some 8, none, .call 59 [(.t 7)]⟩,
 ⟨some 3, none, .mov (.t 8)⟩]
def c72r2 : List AOper := [
 ⟨some 4, none, .mov (.c (.full []))⟩]
def c72r3 : List AOper := [
 ⟨some 5, none, .mov (.c (.s (.int .i64 0)))⟩]
def c72r4 : List AOper := [
 ⟨some 9, none, .mov (.t 5)⟩,
 ⟨some 10, none, .mov (.t 3)⟩,
 ⟨some 11, none, .len false (.t 10)⟩,
 ⟨some 12, none, .cmp .lss (.t 9) (.t 11)⟩]
def c72r5 : List AOper := [
 ⟨some 6, none, .mov (.c (.s (.int .i64 (-1))))⟩]
def c72r6 : List AOper := [
 ⟨some 15, none, .fieldAddr 0 (.t 1)⟩,
 ⟨some 16, none, .load 1 false (.t 15)⟩,
 ⟨some 17, none, .mov (.t 5)⟩,
 ⟨some 18, none, .idxA 1 (.t 16) (.t 17)⟩,
 ⟨some 19, none, .load 1 false (.t 18)⟩,
 ⟨some 20, none, .not (.t 19)⟩,
 ⟨some 21, none, .mov (.t 20)⟩,
 ⟨some 22, some (21, true), .mov (.t 3)⟩,
 ⟨some 23, some (21, true), .mov (.t 5)⟩,
 ⟨some 24, some (21, true), .idxA 1 (.t 22) (.t 23)⟩,
 ⟨some 25, some (21, true), .load 1 false (.t 24)⟩,
 ⟨some 26, some (21, true), .cmp .neq (.t 25) (.c (.s (.int .i64 0)))⟩,
 ⟨some 27, none, .pick (.t 21) (.t 26) (.c (.s (.bool false)))⟩]
def c72r7 : List AOper := [
 ⟨some 28, none, .load 3 true (.t 1)⟩,
 ⟨some 29, none, .mov (.t 5)⟩,
 ⟨some 30, none, .mov (.t 3)⟩,
 ⟨some 31, none, .mov (.t 5)⟩,
 ⟨some 32, none, .idxA 1 (.t 30) (.t 31)⟩,
 ⟨some 33, none, .load 1 false (.t 32)⟩,
 ⟨some 34, none, .arith .sub (.t 33) (.c (.s (.int .i64 1)))⟩,
 ⟨some 35, none, .max [(.c (.s (.int .i64 (-1)))), (.t 34)]⟩,
 ⟨some 36, none, .mov (.t 3)⟩,
 ⟨some 37, none, .call 91 [(.t 28), (.t 29), (.t 35), (.t 36)]⟩,
 ⟨some 6, none, .mov (.t 37)⟩]
def c72r8 : List AOper := [
 ⟨some 38, none, .mov (.t 4)⟩,
 ⟨some 39, none, .mov (.t 6)⟩,
 ⟨some 40, none, .buildSl 1 1 (.int .i64 0) [(0, (.t 39))]⟩,
 ⟨some 41, none, .append 1 8 (.t 38) (.t 40)⟩,
 ⟨some 4, none, .mov (.t 41)⟩]
def c72r9 : List AOper := [
 ⟨some 13, none, .mov (.t 5)⟩,
 ⟨some 14, none, .arith .add (.t 13) (.c (.s (.int .i64 1)))⟩,
 ⟨some 5, none, .mov (.t 14)⟩]
def c72l10 : ACode := (.seq (.seq (.reg 0 c72r4) (.cond (.t 12) .skip (.exit 0))) (.seq (.block 1 (.seq (.reg 0 c72r5) (.seq (.seq (.reg 0 c72r6) (.cond (.t 27) (.reg 0 c72r7) .skip)) (.reg 1 c72r8)))) (.reg 0 c72r9)))
def c72l10m : List Bool := [false, true, false, true, true, true, false, false, false, false, false, false, false, false, false, false, false, false, false, false, false, false, false, false, false, false, false, false, false, false, false, false, false, false, false, false, false, false, false, false, false, false, false]
def c72r11 : List AOper := [
 ⟨some 42, none, .mov (.t 4)⟩,
 ⟨some 2, none, .mov (.t 42)⟩]
def f72 : FRow := ⟨(.seq (.reg 0 c72r0) (.seq (.reg 0 c72r1) (.seq (.reg 0 c72r2) (.seq (.seq (.reg 0 c72r3) (.block 0 (.loop c72l10m [(4, none, 0)] c72l10))) (.seq (.reg 0 c72r11) .ret))))), [.tmp 2], 43⟩
theorem okf72 : f72.Ok Try.prog 72 := ⟨_, _, Try.func72, rfl, by kernel_rfl, by kernel_rfl, by kernel_rfl⟩

/-! 73 slices.Clone[[][]int,[]int], 1 and 0 -/
def c73r0 : List AOper := [
 ⟨some 2, none, .mov (.c (.full []))⟩]
def c73r1 : List AOper := [
 ⟨some 3, none, .mov (.t 0)⟩,
 ⟨some 4, none, .eqNil false (.t 3)⟩]
def c73r2 : List AOper := [
 ⟨some 2, none, .mov (.c (.full []))⟩]
def c73r3 : List AOper := [
 ⟨some 5, none, .buildSl 1 0 (.slice []) []⟩,
 ⟨some 6, none, .mov (.t 0)⟩,
 ⟨some 7, none, .appendN 1 24 (.t 5) (.t 6)⟩,
 ⟨some 2, none, .mov (.t 7)⟩]
def f73 : FRow := ⟨(.seq (.reg 0 c73r0) (.seq (.seq (.reg 0 c73r1) (.cond (.t 4) (.seq (.reg 0 c73r2) .ret) .skip)) (.seq (.reg 1 c73r3) .ret))), [.tmp 2], 8⟩
theorem okf73 : f73.Ok Try.prog 73 := ⟨_, _, Try.func73, rfl, by kernel_rfl, by kernel_rfl, by kernel_rfl⟩

/-! 74 slices.DeleteFunc[[]int,int], 2 and 0 -/
def c74r0 : List AOper := [
 ⟨some 4, none, .mov (.c (.full []))⟩]
def c74r1 : List AOper := [
 ⟨some 8, none, .mov (.t 0)⟩,
 ⟨some 9, none, .mov (.t 1)⟩,
 ⟨some 10, none, .call 92 [(.t 8), (.t 9)]⟩,
 ⟨some 5, none, .mov (.t 10)⟩]
def c74r2 : List AOper := [
 ⟨some 11, none, .mov (.t 5)⟩,
 ⟨some 12, none, .cmp .eql (.t 11) (.c (.s (.int .i64 (-1))))⟩]
def c74r3 : List AOper := [
 ⟨some 13, none, .mov (.t 0)⟩,
 ⟨some 4, none, .mov (.t 13)⟩]
def c74r4 : List AOper := [
 ⟨some 14, none, .mov (.t 5)⟩,
 ⟨some 15, none, .arith .add (.t 14) (.c (.s (.int .i64 1)))⟩,
 ⟨some 6, none, .mov (.t 15)⟩]
def c74r5 : List AOper := [
 ⟨some 16, none, .mov (.t 6)⟩,
 ⟨some 17, none, .mov (.t 0)⟩,
 ⟨some 18, none, .len false (.t 17)⟩,
 ⟨some 19, none, .cmp .lss (.t 16) (.t 18)⟩]
def c74r6 : List AOper := [
 ⟨some 22, none, .mov (.t 0)⟩,
 ⟨some 23, none, .mov (.t 6)⟩,
 ⟨some 24, none, .idxA 1 (.t 22) (.t 23)⟩,
 ⟨some 25, none, .load 1 false (.t 24)⟩,
 ⟨some 7, none, .mov (.t 25)⟩]
def c74r7 : List AOper := [
 ⟨some 26, none, .mov (.t 1)⟩,
 ⟨some 27, none, .mov (.t 7)⟩,
 ⟨some 28, none, .callv (.t 26) [(.t 27)]⟩,
 ⟨some 29, none, .not (.t 28)⟩]
def c74r8 : List AOper := [
 ⟨some 30, none, .mov (.t 0)⟩,
 ⟨some 31, none, .mov (.t 5)⟩,
 ⟨some 32, none, .mov (.t 7)⟩,
 ⟨some 33, none, .idxA 1 (.t 30) (.t 31)⟩,
 ⟨none, none, .store 1 (.t 33) (.t 32)⟩]
def c74r9 : List AOper := [
 ⟨some 34, none, .mov (.t 5)⟩,
 ⟨some 35, none, .arith .add (.t 34) (.c (.s (.int .i64 1)))⟩,
 ⟨some 5, none, .mov (.t 35)⟩]
def c74r10 : List AOper := [
 ⟨some 20, none, .mov (.t 6)⟩,
 ⟨some 21, none, .arith .add (.t 20) (.c (.s (.int .i64 1)))⟩,
 ⟨some 6, none, .mov (.t 21)⟩]
def c74l11 : ACode := (.seq (.seq (.reg 0 c74r5) (.cond (.t 19) .skip (.exit 0))) (.seq (.block 1 (.seq (.reg 0 c74r6) (.seq (.reg 0 c74r7) (.cond (.t 29) (.seq (.reg 0 c74r8) (.reg 0 c74r9)) .skip)))) (.reg 0 c74r10)))
def c74l11m : List Bool := [true, true, false, false, false, true, true, false, false, false, false, false, false, false, false, false, false, false, false, false, false, false, false, false, false, false, false, false, false, false, false, false, false, false, false, false, false, false, false, false, false, false]
def c74r12 : List AOper := [
 ⟨some 36, none, .mov (.t 0)⟩,
 ⟨some 37, none, .mov (.t 5)⟩,
 ⟨some 38, none, .slice 1 (.t 36) (some (.t 37)) none none⟩,
 ⟨none, none, .clear 1 [(.int .i64 0)] (.t 38)⟩]
def c74r13 : List AOper := [
 ⟨some 39, none, .mov (.t 0)⟩,
 ⟨some 40, none, .mov (.t 5)⟩,
 ⟨some 41, none, .slice 1 (.t 39) none (some (.t 40)) none⟩,
 ⟨some 4, none, .mov (.t 41)⟩]
def f74 : FRow := ⟨(.seq (.reg 0 c74r0) (.seq (.reg 0 c74r1) (.seq (.seq (.reg 0 c74r2) (.cond (.t 12) (.seq (.reg 0 c74r3) .ret) .skip)) (.seq (.seq (.reg 0 c74r4) (.block 0 (.loop c74l11m [] c74l11))) (.seq (.reg 0 c74r12) (.seq (.reg 0 c74r13) .ret)))))), [.tmp 4], 42⟩
theorem okf74 : f74.Ok Try.prog 74 := ⟨_, _, Try.func74, rfl, by kernel_rfl, by kernel_rfl, by kernel_rfl⟩

/-! 75 slices.Clone[[]int,int], 1 and 0 -/
def c75r0 : List AOper := [
 ⟨some 2, none, .mov (.c (.full []))⟩]
def c75r1 : List AOper := [
 ⟨some 3, none, .mov (.t 0)⟩,
 ⟨some 4, none, .eqNil false (.t 3)⟩]
def c75r2 : List AOper := [
 ⟨some 2, none, .mov (.c (.full []))⟩]
def c75r3 : List AOper := [
 ⟨some 5, none, .buildSl 1 0 (.int .i64 0) []⟩,
 ⟨some 6, none, .mov (.t 0)⟩,
 ⟨some 7, none, .appendN 1 8 (.t 5) (.t 6)⟩,
 ⟨some 2, none, .mov (.t 7)⟩]
def f75 : FRow := ⟨(.seq (.reg 0 c75r0) (.seq (.seq (.reg 0 c75r1) (.cond (.t 4) (.seq (.reg 0 c75r2) .ret) .skip)) (.seq (.reg 1 c75r3) .ret))), [.tmp 2], 8⟩
theorem okf75 : f75.Ok Try.prog 75 := ⟨_, _, Try.func75, rfl, by kernel_rfl, by kernel_rfl, by kernel_rfl⟩

/-! 76 pennyfall/skill.Beats$1, 1 and 1 -/
def c76r0 : List AOper := [
 ⟨some 3, none, .mov (.c (.s (.bool false)))⟩]
def c76r1 : List AOper := [
 ⟨some 4, none, .mov (.t 0)⟩,
 ⟨some 5, none, .load 1 false (.t 1)⟩,
 ⟨some 6, none, .cmp .neq (.t 4) (.t 5)⟩,
 ⟨some 3, none, .mov (.t 6)⟩]
def f76 : FRow := ⟨(.seq (.reg 0 c76r0) (.seq (.reg 0 c76r1) .ret)), [.tmp 3], 7⟩
theorem okf76 : f76.Ok Try.prog 76 := ⟨_, _, Try.func76, rfl, by kernel_rfl, by kernel_rfl, by kernel_rfl⟩

/-! 77 pennyfall/pennyfallref03.By, 2 and 0 -/
def c77r0 : List AOper := [
 ⟨some 2, none, .boxS (.t 0)⟩,
 ⟨some 4, none, .alloc [(.full []), (.full []), (.full [])]⟩]
def c77r1 : List AOper := [
 ⟨some 8, none, .fieldAddr 0 (.t 2)⟩,
 ⟨some 9, none, .load 1 false (.t 8)⟩,
 ⟨some 10, none, .fieldAddr 2 (.t 2)⟩,
 ⟨some 11, none, .load 1 false (.t 10)⟩,
 ⟨some 12, none, .build [(.full []), (.full []), (.full [])] [(0, 1, (.t 9)), (2, 1, (.t 11))]⟩,
 ⟨some 5, none, .alloc [(.full []), (.full []), (.full [])]⟩,
 ⟨none, none, .store 3 (.t 5) (.t 12)⟩]
def c77r2 : List AOper := [
 ⟨some 6, none, .mov (.c (.s (.int .i64 0)))⟩]
def c77r3 : List AOper := [
 ⟨some 13, none, .mov (.t 6)⟩,
 ⟨some 14, none, .fieldAddr 1 (.t 2)⟩,
 ⟨some 15, none, .load 1 false (.t 14)⟩,
 ⟨some 16, none, .len false (.t 15)⟩,
 ⟨some 17, none, .cmp .lss (.t 13) (.t 16)⟩]
def c77r4 : List AOper := [
 ⟨some 20, none, .fieldAddr 1 (.t 2)⟩,
 ⟨some 21, none, .load 1 false (.t 20)⟩,
 ⟨some 22, none, .mov (.t 6)⟩,
 ⟨some 23, none, .idxA 1 (.t 21) (.t 22)⟩,
 ⟨some 24, none, .load 1 false (.t 23)⟩,
 ⟨some 7, none, .mov (.t 24)⟩]
def c77r5 : List AOper := [
 ⟨some 25, none, .fieldAddr 0 (.t 2)⟩,
 ⟨some 26, none, .load 1 false (.t 25)⟩,
 ⟨some 27, none, .mov (.t 6)⟩,
 ⟨some 28, none, .idxA 1 (.t 26) (.t 27)⟩,
 ⟨some 29, none, .load 1 false (.t 28)⟩]
def c77r6 : List AOper := [
 ⟨some 7, none, .mov (.c (.full []))⟩]
def c77r7 : List AOper := [
 ⟨some 30, none, .mov (.t 1)⟩,
 ⟨some 31, none, .mov (.t 6)⟩,
 ⟨some 32, none, .idxA 1 (.t 30) (.t 31)⟩,
 ⟨some 33, none, .load 1 false (.t 32)⟩,
 ⟨some 34, none, .cmp .geq (.t 33) (.c (.s (.int .i64 0)))⟩]
def c77r8 : List AOper := [
 ⟨some 35, none, .mov (.t 1)⟩,
 ⟨some 36, none, .mov (.t 6)⟩,
 ⟨some 37, none, .idxA 1 (.t 35) (.t 36)⟩,
 ⟨some 38, none, .load 1 false (.t 37)⟩,
 ⟨some 39, none, .buildSl 1 1 (.int .i64 0) [(0, (.t 38))]⟩,
 ⟨some 7, none, .mov (.t 39)⟩]
def c77r9 : List AOper := [
 ⟨some 40, none, .fieldAddr 1 (.t 5)⟩,
 ⟨some 41, none, .load 1 false (.t 40)⟩,
 ⟨some 42, none, .frzv (.t 7)⟩,
 ⟨some 43, none, .buildSl 1 1 (.slice []) [(0, (.t 42))]⟩,
 ⟨some 44, none, .append 1 24 (.t 41) (.t 43)⟩,
 ⟨some 45, none, .fieldAddr 1 (.t 5)⟩,
 ⟨none, none, .store 1 (.t 45) (.t 44)⟩]
def c77r10 : List AOper := [
 ⟨some 18, none, .mov (.t 6)⟩,
 ⟨some 19, none, .arith .add (.t 18) (.c (.s (.int .i64 1)))⟩,
 ⟨some 6, none, .mov (.t 19)⟩]
def c77l11 : ACode := (.seq (.seq (.reg 0 c77r3) (.cond (.t 17) .skip (.exit 0))) (.seq (.block 1 (.seq (.reg 0 c77r4) (.seq (.seq (.reg 0 c77r5) (.cond (.t 29) (.seq (.reg 0 c77r6) (.seq (.reg 0 c77r7) (.cond (.t 34) (.reg 0 c77r8) .skip))) .skip)) (.reg 1 c77r9)))) (.reg 0 c77r10)))
def c77l11m : List Bool := [false, true, true, false, true, true, true, false, false, false, false, false, false, false, false, false, false, false, false, false, false, false, false, false, false, false, false, false, false, false, false, false, false, false, false, false, false, false, false, false, false, false, false, false, false, false, false]
def c77r12 : List AOper := [
 ⟨some 46, none, .load 3 true (.t 5)⟩,
 ⟨none, none, .store 3 (.t 4) (.t 46)⟩]
def f77 : FRow := ⟨(.seq (.reg 1 c77r0) (.seq (.reg 1 c77r1) (.seq (.seq (.reg 0 c77r2) (.block 0 (.loop c77l11m [(5, some 1, 0)] c77l11))) (.seq (.reg 0 c77r12) .ret)))), [.cell 4 3 true], 47⟩
theorem okf77 : f77.Ok Try.prog 77 := ⟨_, _, Try.func77, rfl, by kernel_rfl, by kernel_rfl, by kernel_rfl⟩

/-! 78 (*pennyfall/skill.board).fewest, 2 and 0 -/
def c78r0 : List AOper := [
 ⟨some 4, none, .mov (.c (.full []))⟩,
 ⟨some 5, none, .mov (.c (.s (.bool false)))⟩]
def c78r1 : List AOper := [
 ⟨some 23, none, .mov (.t 0)⟩,
 ⟨some 24, none, .nilck (.t 23)⟩,
 ⟨some 25, none, .fieldAddr 0 (.t 24)⟩,
 ⟨some 26, none, .fieldAddr 1 (.t 25)⟩,
 ⟨some 27, none, .loadO 1 false (.t 26)⟩,
 ⟨some 28, none, .len false (.t 27)⟩,
 ⟨some 6, none, .mov (.t 28)⟩]
def c78r2 : List AOper := [
 ⟨some 29, none, .mov (.t 6)⟩,
 ⟨some 30, none, .shift .shl (.c (.s (.int .i64 1))) (.t 29)⟩,
 ⟨some 31, none, .mkslice 1 8 [(.int .i64 0)] (.t 30) (.t 30)⟩,
 ⟨some 32, none, .mov (.t 6)⟩,
 ⟨some 33, none, .shift .shl (.c (.s (.int .i64 1))) (.t 32)⟩,
 ⟨some 34, none, .mkslice 1 8 [(.int .i64 0)] (.t 33) (.t 33)⟩,
 ⟨some 35, none, .build [(.full []), (.full [])] [(0, 1, (.t 31)), (1, 1, (.t 34))]⟩,
 ⟨some 7, none, .alloc [(.full []), (.full [])]⟩,
 ⟨none, none, .store 2 (.t 7) (.t 35)⟩]
def c78r3 : List AOper := [
 ⟨some 36, none, .fieldAddr 0 (.t 7)⟩,
 ⟨some 37, none, .loadO 1 false (.t 36)⟩,
 ⟨some 38, none, .len false (.t 37)⟩,
 ⟨some 39, none, .mov (.c (.s (.int .i64 0)))⟩]
def c78r4 : List AOper := [
 ⟨some 40, none, .cmp .lss (.t 39) (.t 38)⟩]
def c78r5 : List AOper := [
 ⟨some 41, none, .mov (.t 39)⟩,
 ⟨some 8, none, .mov (.t 41)⟩]
def c78r6 : List AOper := [
 ⟨some 42, none, .fieldAddr 0 (.t 7)⟩,
 ⟨some 43, none, .loadO 1 false (.t 42)⟩,
 ⟨some 44, none, .mov (.t 8)⟩,
 ⟨some 45, none, .idxA 1 (.t 43) (.t 44)⟩,
 ⟨none, none, .storeR 1 (.t 45) (.c (.s (.int .i64 (-1))))⟩]
def c78r7 : List AOper := [
 ⟨some 46, none, .arith .add (.t 39) (.c (.s (.int .i64 1)))⟩,
 ⟨some 39, none, .mov (.t 46)⟩]
def c78l8 : ACode := (.seq (.reg 0 c78r4) (.seq (.cond (.t 40) .skip (.exit 0)) (.seq (.block 1 (.seq (.reg 0 c78r5) (.reg 0 c78r6))) (.reg 0 c78r7))))
def c78l8m : List Bool := [true, true, false, false, false, false, true, true, false, false, false, false, false, false, false, false, false, false, false, false, false, false, false, false, false, false, false, false, false, false, false, false, false, false, false, false, false, false, true, true, false, false, false, false, false, false, false, false, false, false, false, false, false, false, false, false, false, false, false, false, false, false, false, false, false, false, false, false, false, false, false, false, false, false, false, false, false, false, false, false, false, false, false, false, false, false, false, false, false, false, false, false, false, false, false, false, false, false, false, false, false, false, false, false, false, false, false, false, false, false, false, false, false, false, false, false, false, false, false, false, false, false, false, false, false, false, false, false, false, false, false, false, false, false, false, false, false, false, false, false, false, false, false, false, false, false, false, false, false, false, false, false, false, false, false, false, false, false, false, false, false, false, false, false, false, false, false, false, false, false, false, false, false, false, false, false, false, false, false, false, false, false, false, false, false, false, false, false, false, false, false, false, false, false, false, false, false, false, false, false, false, false, false, false, false, false, false, false]
def c78r9 : List AOper := [
 ⟨some 9, none, .mov (.c (.s (.int .i64 0)))⟩]
def c78r10 : List AOper := [
 ⟨some 47, none, .mov (.t 0)⟩,
 ⟨some 48, none, .nilck (.t 47)⟩,
 ⟨some 49, none, .fieldAddr 0 (.t 48)⟩,
 ⟨some 50, none, .fieldAddr 2 (.t 49)⟩,
 ⟨some 51, none, .loadO 1 false (.t 50)⟩,
 ⟨some 52, none, .len false (.t 51)⟩,
 ⟨some 53, none, .mov (.c (.s (.int .i64 0)))⟩]
def c78r11 : List AOper := [
 ⟨some 54, none, .cmp .lss (.t 53) (.t 52)⟩]
def c78r12 : List AOper := [
 ⟨some 55, none, .mov (.t 53)⟩,
 ⟨some 56, none, .idxA 1 (.t 51) (.t 53)⟩,
 ⟨some 57, none, .load 1 false (.t 56)⟩,
 ⟨some 10, none, .mov (.t 55)⟩,
 ⟨some 11, none, .mov (.t 57)⟩]
def c78r13 : List AOper := [
 ⟨some 58, none, .mov (.t 11)⟩]
def c78r14 : List AOper := [
 ⟨some 59, none, .mov (.t 9)⟩,
 ⟨some 60, none, .mov (.t 10)⟩,
 ⟨some 61, none, .shift .shl (.c (.s (.int .i64 1))) (.t 60)⟩,
 ⟨some 62, none, .bits .or (.t 59) (.t 61)⟩,
 ⟨some 9, none, .mov (.t 62)⟩]
def c78r15 : List AOper := [
 ⟨some 63, none, .arith .add (.t 53) (.c (.s (.int .i64 1)))⟩,
 ⟨some 53, none, .mov (.t 63)⟩]
def c78l16 : ACode := (.seq (.reg 0 c78r11) (.seq (.cond (.t 54) .skip (.exit 2)) (.seq (.block 3 (.seq (.reg 0 c78r12) (.seq (.reg 0 c78r13) (.cond (.t 58) (.reg 0 c78r14) .skip)))) (.reg 0 c78r15))))
def c78l16m : List Bool := [true, true, false, false, false, false, true, true, false, true, false, false, false, false, false, false, false, false, false, false, false, false, false, false, false, false, false, false, false, false, false, false, false, false, false, false, false, false, false, false, false, false, false, false, false, false, false, false, false, false, false, true, true, true, false, false, false, false, false, false, false, false, false, false, false, false, false, false, false, false, false, false, false, false, false, false, false, false, false, false, false, false, false, false, false, false, false, false, false, false, false, false, false, false, false, false, false, false, false, false, false, false, false, false, false, false, false, false, false, false, false, false, false, false, false, false, false, false, false, false, false, false, false, false, false, false, false, false, false, false, false, false, false, false, false, false, false, false, false, false, false, false, false, false, false, false, false, false, false, false, false, false, false, false, false, false, false, false, false, false, false, false, false, false, false, false, false, false, false, false, false, false, false, false, false, false, false, false, false, false, false, false, false, false, false, false, false, false, false, false, false, false, false, false, false, false, false, false, false, false, false, false, false, false, false, false, false, false]
def c78r17 : List AOper := [
 ⟨some 64, none, .fieldAddr 0 (.t 7)⟩,
 ⟨some 65, none, .loadO 1 false (.t 64)⟩,
 ⟨some 66, none, .mov (.t 9)⟩,
 ⟨some 67, none, .idxA 1 (.t 65) (.t 66)⟩,
 ⟨none, none, .storeR 1 (.t 67) (.c (.s (.int .i64 0)))⟩]
def c78r18 : List AOper := [
 ⟨some 12, none, .mov (.c (.s (.int .i64 (-1))))⟩]
def c78r19 : List AOper := [
 ⟨some 68, none, .fieldAddr 0 (.t 7)⟩,
 ⟨some 69, none, .loadO 1 false (.t 68)⟩,
 ⟨some 70, none, .len false (.t 69)⟩,
 ⟨some 71, none, .mov (.c (.s (.int .i64 0)))⟩]
def c78r20 : List AOper := [
 ⟨some 72, none, .cmp .lss (.t 71) (.t 70)⟩]
def c78r21 : List AOper := [
 ⟨some 73, none, .mov (.t 71)⟩,
 ⟨some 13, none, .mov (.t 73)⟩]
def c78r22 : List AOper := [
 ⟨some 74, none, .fieldAddr 0 (.t 7)⟩,
 ⟨some 75, none, .loadO 1 false (.t 74)⟩,
 ⟨some 76, none, .mov (.t 13)⟩,
 ⟨some 77, none, .idxA 1 (.t 75) (.t 76)⟩,
 ⟨some 78, none, .load 1 false (.t 77)⟩,
 ⟨some 14, none, .mov (.t 78)⟩]
def c78r23 : List AOper := [
 ⟨some 79, none, .mov (.t 14)⟩,
 ⟨some 80, none, .cmp .lss (.t 79) (.c (.s (.int .i64 0)))⟩]
def c78r24 : List AOper := [
 ⟨some 81, none, .mov (.t 13)⟩,
 ⟨some 82, none, .mov (.t 1)⟩,
 ⟨some 83, none, .shift .shr (.t 81) (.t 82)⟩,
 ⟨some 84, none, .bits .and (.t 83) (.c (.s (.int .i64 1)))⟩,
 ⟨some 85, none, .cmp .eql (.t 84) (.c (.s (.int .i64 1)))⟩,
 ⟨some 86, none, .mov (.t 85)⟩,
 ⟨some 87, some (86, true), .mov (.t 12)⟩,
 ⟨some 88, some (86, true), .cmp .lss (.t 87) (.c (.s (.int .i64 0)))⟩,
 ⟨some 89, some (86, true), .mov (.t 88)⟩,
 ⟨some 90, some (89, false), .mov (.t 14)⟩,
 ⟨some 91, some (89, false), .fieldAddr 0 (.t 7)⟩,
 ⟨some 92, some (89, false), .loadO 1 false (.t 91)⟩,
 ⟨some 93, some (89, false), .mov (.t 12)⟩,
 ⟨some 94, some (89, false), .idxA 1 (.t 92) (.t 93)⟩,
 ⟨some 95, some (89, false), .load 1 false (.t 94)⟩,
 ⟨some 96, some (89, false), .cmp .lss (.t 90) (.t 95)⟩,
 ⟨some 97, some (86, true), .pick (.t 89) (.c (.s (.bool true))) (.t 96)⟩,
 ⟨some 98, none, .pick (.t 86) (.t 97) (.c (.s (.bool false)))⟩]
def c78r25 : List AOper := [
 ⟨some 99, none, .mov (.t 13)⟩,
 ⟨some 12, none, .mov (.t 99)⟩]
def c78r26 : List AOper := [
 ⟨some 100, none, .mov (.t 6)⟩,
 ⟨some 101, none, .mov (.c (.s (.int .i64 0)))⟩]
def c78r27 : List AOper := [
 ⟨some 102, none, .cmp .lss (.t 101) (.t 100)⟩]
def c78r28 : List AOper := [
 ⟨some 103, none, .mov (.t 101)⟩,
 ⟨some 15, none, .mov (.t 103)⟩]
def c78r29 : List AOper := [
 ⟨some 104, none, .mov (.t 0)⟩,
 ⟨some 105, none, .mov (.t 15)⟩,
 ⟨some 106, none, .mov (.t 13)⟩,
 ⟨some 107, none, .call 93 [(.t 104), (.t 105), (.t 106)]⟩,
 ⟨some 16, none, .mov (.t 107)⟩]
def c78r30 : List AOper := [
 ⟨some 108, none, .mov (.t 13)⟩,
 ⟨some 109, none, .mov (.t 15)⟩,
 ⟨some 110, none, .shift .shr (.t 108) (.t 109)⟩,
 ⟨some 111, none, .bits .and (.t 110) (.c (.s (.int .i64 1)))⟩,
 ⟨some 112, none, .cmp .eql (.t 111) (.c (.s (.int .i64 1)))⟩,
 ⟨some 113, none, .mov (.t 112)⟩,
 ⟨some 114, some (113, false), .mov (.t 16)⟩,
 ⟨some 115, some (113, false), .cmp .lss (.t 114) (.c (.s (.int .i64 0)))⟩,
 ⟨some 116, none, .pick (.t 113) (.c (.s (.bool true))) (.t 115)⟩]
def c78r31 : List AOper := [
 ⟨some 117, none, .fieldAddr 0 (.t 7)⟩,
 ⟨some 118, none, .loadO 1 false (.t 117)⟩,
 ⟨some 119, none, .mov (.t 13)⟩,
 ⟨some 120, none, .mov (.t 15)⟩,
 ⟨some 121, none, .shift .shl (.c (.s (.int .i64 1))) (.t 120)⟩,
 ⟨some 122, none, .bits .or (.t 119) (.t 121)⟩,
 ⟨some 123, none, .idxA 1 (.t 118) (.t 122)⟩,
 ⟨some 124, none, .load 1 false (.t 123)⟩,
 ⟨some 17, none, .mov (.t 124)⟩]
def c78r32 : List AOper := [
 ⟨some 125, none, .mov (.t 17)⟩,
 ⟨some 126, none, .cmp .lss (.t 125) (.c (.s (.int .i64 0)))⟩,
 ⟨some 127, none, .mov (.t 126)⟩,
 ⟨some 128, some (127, false), .mov (.t 14)⟩,
 ⟨some 129, some (127, false), .mov (.t 16)⟩,
 ⟨some 130, some (127, false), .arith .add (.t 128) (.t 129)⟩,
 ⟨some 131, some (127, false), .mov (.t 17)⟩,
 ⟨some 132, some (127, false), .cmp .lss (.t 130) (.t 131)⟩,
 ⟨some 133, none, .pick (.t 127) (.c (.s (.bool true))) (.t 132)⟩]
def c78r33 : List AOper := [
 ⟨some 134, none, .fieldAddr 0 (.t 7)⟩,
 ⟨some 135, none, .loadO 1 false (.t 134)⟩,
 ⟨some 136, none, .mov (.t 13)⟩,
 ⟨some 137, none, .mov (.t 15)⟩,
 ⟨some 138, none, .shift .shl (.c (.s (.int .i64 1))) (.t 137)⟩,
 ⟨some 139, none, .bits .or (.t 136) (.t 138)⟩,
 ⟨some 140, none, .fieldAddr 1 (.t 7)⟩,
 ⟨some 141, none, .loadO 1 false (.t 140)⟩,
 ⟨some 142, none, .mov (.t 13)⟩,
 ⟨some 143, none, .mov (.t 15)⟩,
 ⟨some 144, none, .shift .shl (.c (.s (.int .i64 1))) (.t 143)⟩,
 ⟨some 145, none, .bits .or (.t 142) (.t 144)⟩,
 ⟨some 146, none, .mov (.t 14)⟩,
 ⟨some 147, none, .mov (.t 16)⟩,
 ⟨some 148, none, .arith .add (.t 146) (.t 147)⟩,
 ⟨some 149, none, .mov (.t 15)⟩,
 ⟨some 150, none, .idxA 1 (.t 135) (.t 139)⟩,
 ⟨none, none, .storeR 1 (.t 150) (.t 148)⟩,
 ⟨some 151, none, .idxA 1 (.t 141) (.t 145)⟩,
 ⟨none, none, .storeR 1 (.t 151) (.t 149)⟩]
def c78r34 : List AOper := [
 ⟨some 152, none, .arith .add (.t 101) (.c (.s (.int .i64 1)))⟩,
 ⟨some 101, none, .mov (.t 152)⟩]
def c78l35 : ACode := (.seq (.reg 0 c78r27) (.seq (.cond (.t 102) .skip (.exit 6)) (.seq (.block 7 (.seq (.reg 0 c78r28) (.seq (.reg 0 c78r29) (.seq (.seq (.reg 0 c78r30) (.cond (.t 116) (.exit 7) .skip)) (.seq (.reg 0 c78r31) (.seq (.reg 0 c78r32) (.cond (.t 133) (.reg 0 c78r33) .skip))))))) (.reg 0 c78r34))))
def c78l35m : List Bool := [true, true, false, false, false, false, true, true, false, true, false, false, true, true, true, false, false, false, false, false, false, false, false, false, false, false, false, false, false, false, false, false, false, false, false, false, false, false, false, false, false, false, false, false, false, false, false, false, false, false, false, false, false, false, false, false, false, false, false, false, false, false, false, false, false, false, false, false, false, false, true, true, false, false, false, false, false, false, false, false, false, false, false, false, false, false, false, false, false, false, false, false, false, false, false, false, false, false, false, false, true, true, false, false, false, false, false, false, false, false, false, false, false, false, false, false, false, false, false, false, false, false, false, false, false, false, false, false, false, false, false, false, false, false, false, false, false, false, false, false, false, false, false, false, false, false, false, false, false, false, false, false, false, false, false, false, false, false, false, false, false, false, false, false, false, false, false, false, false, false, false, false, false, false, false, false, false, false, false, false, false, false, false, false, false, false, false, false, false, false, false, false, false, false, false, false, false, false, false, false, false, false, false, false, false, false, false, false]
def c78r36 : List AOper := [
 ⟨some 153, none, .arith .add (.t 71) (.c (.s (.int .i64 1)))⟩,
 ⟨some 71, none, .mov (.t 153)⟩]
def c78l37 : ACode := (.seq (.reg 0 c78r20) (.seq (.cond (.t 72) .skip (.exit 4)) (.seq (.block 5 (.seq (.reg 0 c78r21) (.scope (.seq (.reg 0 c78r22) (.seq (.seq (.reg 0 c78r23) (.cond (.t 80) (.exit 5) .skip)) (.seq (.seq (.reg 0 c78r24) (.cond (.t 98) (.reg 0 c78r25) .skip)) (.seq (.label 0) (.seq (.reg 0 c78r26) (.block 6 (.loop c78l35m [] c78l35)))))))))) (.reg 0 c78r36))))
def c78l37m : List Bool := [true, true, false, false, false, false, true, true, false, true, false, false, true, false, false, false, false, false, false, false, false, false, false, false, false, false, false, false, false, false, false, false, false, false, false, false, false, false, false, false, false, false, false, false, false, false, false, false, false, false, false, false, false, false, false, false, false, false, false, false, false, false, false, false, false, false, false, false, false, false, true, true, false, false, false, false, false, false, false, false, false, false, false, false, false, false, false, false, false, false, false, false, false, false, false, false, false, false, false, false, false, false, false, false, false, false, false, false, false, false, false, false, false, false, false, false, false, false, false, false, false, false, false, false, false, false, false, false, false, false, false, false, false, false, false, false, false, false, false, false, false, false, false, false, false, false, false, false, false, false, false, false, false, false, false, false, false, false, false, false, false, false, false, false, false, false, false, false, false, false, false, false, false, false, false, false, false, false, false, false, false, false, false, false, false, false, false, false, false, false, false, false, false, false, false, false, false, false, false, false, false, false, false, false, false, false, false, false]
def c78r38 : List AOper := [
 ⟨some 154, none, .mov (.t 12)⟩,
 ⟨some 155, none, .cmp .lss (.t 154) (.c (.s (.int .i64 0)))⟩]
def c78r39 : List AOper := [
 ⟨some 4, none, .mov (.c (.full []))⟩,
 ⟨some 5, none, .mov (.c (.s (.bool false)))⟩]
def c78r40 : List AOper := [
 ⟨some 18, none, .mov (.c (.full []))⟩]
def c78r41 : List AOper := [
 ⟨some 156, none, .mov (.t 12)⟩,
 ⟨some 19, none, .mov (.t 156)⟩]
def c78r42 : List AOper := [
 ⟨some 157, none, .mov (.t 19)⟩,
 ⟨some 158, none, .mov (.t 9)⟩,
 ⟨some 159, none, .cmp .neq (.t 157) (.t 158)⟩]
def c78r43 : List AOper := [
 ⟨some 160, none, .fieldAddr 1 (.t 7)⟩,
 ⟨some 161, none, .loadO 1 false (.t 160)⟩,
 ⟨some 162, none, .mov (.t 19)⟩,
 ⟨some 163, none, .idxA 1 (.t 161) (.t 162)⟩,
 ⟨some 164, none, .load 1 false (.t 163)⟩,
 ⟨some 20, none, .mov (.t 164)⟩]
def c78r44 : List AOper := [
 ⟨some 165, none, .mov (.t 19)⟩,
 ⟨some 166, none, .mov (.t 20)⟩,
 ⟨some 167, none, .shift .shl (.c (.s (.int .i64 1))) (.t 166)⟩,
 ⟨some 168, none, .bits .andNot (.t 165) (.t 167)⟩,
 ⟨some 19, none, .mov (.t 168)⟩]
def c78r45 : List AOper := [
 ⟨some 169, none, .mov (.t 0)⟩,
 ⟨some 170, none, .nilck (.t 169)⟩,
 ⟨some 171, none, .fieldAddr 0 (.t 170)⟩,
 ⟨some 172, none, .fieldAddr 1 (.t 171)⟩,
 ⟨some 173, none, .loadO 1 false (.t 172)⟩,
 ⟨some 174, none, .mov (.t 20)⟩,
 ⟨some 175, none, .idxA 1 (.t 173) (.t 174)⟩,
 ⟨some 176, none, .load 1 false (.t 175)⟩,
 ⟨some 177, none, .len false (.t 176)⟩,
 ⟨some 178, none, .mov (.c (.s (.int .i64 0)))⟩]
def c78r46 : List AOper := [
 ⟨some 179, none, .cmp .lss (.t 178) (.t 177)⟩]
def c78r47 : List AOper := [
 ⟨some 180, none, .idxA 1 (.t 176) (.t 178)⟩,
 ⟨some 181, none, .load 1 false (.t 180)⟩,
 ⟨some 22, none, .mov (.t 181)⟩]
def c78r48 : List AOper := [
 ⟨some 182, none, .mov (.t 0)⟩,
 ⟨some 183, none, .nilck (.t 182)⟩,
 ⟨some 184, none, .fieldAddr 0 (.t 183)⟩,
 ⟨some 185, none, .fieldAddr 0 (.t 184)⟩,
 ⟨some 186, none, .loadO 1 false (.t 185)⟩,
 ⟨some 187, none, .mov (.t 20)⟩,
 ⟨some 188, none, .idxA 1 (.t 186) (.t 187)⟩,
 ⟨some 189, none, .load 1 false (.t 188)⟩,
 ⟨some 190, none, .not (.t 189)⟩,
 ⟨some 191, none, .mov (.t 190)⟩,
 ⟨some 192, some (191, true), .mov (.t 19)⟩,
 ⟨some 193, some (191, true), .mov (.t 22)⟩,
 ⟨some 194, some (191, true), .shift .shr (.t 192) (.t 193)⟩,
 ⟨some 195, some (191, true), .bits .and (.t 194) (.c (.s (.int .i64 1)))⟩,
 ⟨some 196, some (191, true), .cmp .eql (.t 195) (.c (.s (.int .i64 0)))⟩,
 ⟨some 197, none, .pick (.t 191) (.t 196) (.c (.s (.bool false)))⟩]
def c78r49 : List AOper := [
 ⟨some 198, none, .mov (.t 18)⟩,
 ⟨some 199, none, .mov (.t 20)⟩,
 ⟨some 200, none, .mov (.t 22)⟩,
 ⟨some 201, none, .build [(.s (.int .i64 0)), (.s (.int .i64 0))] [(0, 1, (.t 199)), (1, 1, (.t 200))]⟩,
 ⟨some 202, none, .buildSl 2 1 (.agg [(.int .i64 0), (.int .i64 0)]) [(0, (.t 201))]⟩,
 ⟨some 203, none, .append 2 16 (.t 198) (.t 202)⟩,
 ⟨some 18, none, .mov (.t 203)⟩]
def c78r50 : List AOper := [
 ⟨some 204, none, .arith .add (.t 178) (.c (.s (.int .i64 1)))⟩,
 ⟨some 178, none, .mov (.t 204)⟩]
def c78l51 : ACode := (.seq (.reg 0 c78r46) (.seq (.cond (.t 179) .skip (.exit 10)) (.seq (.block 11 (.seq (.reg 0 c78r47) (.seq (.reg 0 c78r48) (.cond (.t 197) (.reg 1 c78r49) .skip)))) (.reg 0 c78r50))))
def c78l51m : List Bool := [true, false, false, false, false, false, false, true, false, true, false, false, false, false, false, false, false, false, true, true, true, false, false, false, false, false, false, false, false, false, false, false, false, false, false, false, false, false, false, false, false, false, false, false, false, false, false, false, false, false, false, false, false, false, false, false, false, false, false, false, false, false, false, false, false, false, false, false, false, false, false, false, false, false, false, false, false, false, false, false, false, false, false, false, false, false, false, false, false, false, false, false, false, false, false, false, false, false, false, false, false, false, false, false, false, false, false, false, false, false, false, false, false, false, false, false, false, false, false, false, false, false, false, false, false, false, false, false, false, false, false, false, false, false, false, false, false, false, false, false, false, false, false, false, false, false, false, false, false, false, false, false, false, false, false, false, false, false, false, false, false, false, false, false, false, false, false, false, false, false, false, false, false, false, false, false, true, true, true, false, false, false, false, false, false, false, false, false, false, false, false, false, false, false, false, false, false, false, false, false, false, false, false, false, false, false, false, false]
def c78l52 : ACode := (.seq (.seq (.reg 0 c78r42) (.cond (.t 159) .skip (.exit 8))) (.block 9 (.seq (.reg 0 c78r43) (.seq (.reg 0 c78r44) (.seq (.reg 0 c78r45) (.block 10 (.loop c78l51m [(18, none, 1)] c78l51)))))))
def c78l52m : List Bool := [true, false, false, false, false, false, false, true, false, true, false, false, false, false, false, false, false, false, true, true, false, false, false, false, false, false, false, false, false, false, false, false, false, false, false, false, false, false, false, false, false, false, false, false, false, false, false, false, false, false, false, false, false, false, false, false, false, false, false, false, false, false, false, false, false, false, false, false, false, false, false, false, false, false, false, false, false, false, false, false, false, false, false, false, false, false, false, false, false, false, false, false, false, false, false, false, false, false, false, false, false, false, false, false, false, false, false, false, false, false, false, false, false, false, false, false, false, false, false, false, false, false, false, false, false, false, false, false, false, false, false, false, false, false, false, false, false, false, false, false, false, false, false, false, false, false, false, false, false, false, false, false, false, false, false, false, false, false, false, false, false, false, false, false, false, false, false, false, false, false, false, false, false, false, false, false, false, false, false, false, false, false, false, false, false, false, false, false, false, false, false, false, false, false, false, false, false, false, false, false, false, false, false, false, false, false, false, false]
def c78r53 : List AOper := [
 ⟨some 205, none, .mov (.t 18)⟩,
 ⟨some 206, none, .callI 94 [(.t 205), (.c (.s (.fn 95 [] [])))]⟩]
def c78r54 : List AOper := [
 ⟨some 207, none, .mov (.t 18)⟩,
 ⟨some 4, none, .mov (.t 207)⟩,
 ⟨some 5, none, .mov (.c (.s (.bool true)))⟩]
def f78 : FRow := ⟨(.seq (.reg 0 c78r0) (.seq (.reg 0 c78r1) (.seq (.reg 3 c78r2) (.seq (.seq (.reg 0 c78r3) (.block 0 (.loop c78l8m [] c78l8))) (.seq (.reg 0 c78r9) (.seq (.seq (.reg 0 c78r10) (.block 2 (.loop c78l16m [] c78l16))) (.seq (.reg 0 c78r17) (.seq (.reg 0 c78r18) (.seq (.seq (.reg 0 c78r19) (.block 4 (.loop c78l37m [] c78l37))) (.seq (.seq (.reg 0 c78r38) (.cond (.t 155) (.seq (.reg 0 c78r39) .ret) .skip)) (.seq (.reg 0 c78r40) (.seq (.seq (.reg 0 c78r41) (.block 8 (.loop c78l52m [(18, none, 1)] c78l52))) (.seq (.reg 0 c78r53) (.seq (.reg 0 c78r54) .ret)))))))))))))), [.tmp 4, .tmp 5], 208⟩
theorem okf78 : f78.Ok Try.prog 78 := ⟨_, _, Try.func78, rfl, by kernel_rfl, by kernel_rfl, by kernel_rfl⟩

/-! 79 (*pennyfall/skill.board).without, 2 and 0 -/
def c79r0 : List AOper := [
 ⟨some 4, none, .alloc [(.full []), (.full []), (.full [])]⟩,
 ⟨some 5, none, .alloc [(.s (.bool false))]⟩]
def c79r1 : List AOper := [
 ⟨some 12, none, .mkmap⟩,
 ⟨some 6, none, .alloc [(.s (.map [] []))]⟩,
 ⟨none, none, .store 1 (.t 6) (.t 12)⟩]
def c79r2 : List AOper := [
 ⟨some 13, none, .build [(.s (.int .i64 0)), (.s (.int .i64 0))] [(0, 1, (.c (.s (.int .i64 (-1))))), (1, 1, (.c (.s (.int .i64 (-1)))))]⟩,
 ⟨some 7, none, .alloc [(.s (.int .i64 0)), (.s (.int .i64 0))]⟩,
 ⟨none, none, .store 2 (.t 7) (.t 13)⟩]
def c79r3 : List AOper := [
 ⟨some 14, none, .mov (.t 1)⟩,
 ⟨some 15, none, .len false (.t 14)⟩,
 ⟨some 16, none, .mov (.c (.s (.int .i64 0)))⟩]
def c79r4 : List AOper := [
 ⟨some 17, none, .cmp .lss (.t 16) (.t 15)⟩]
def c79r5 : List AOper := [
 ⟨some 18, none, .idxA 2 (.t 14) (.t 16)⟩,
 ⟨some 19, none, .load 2 true (.t 18)⟩,
 ⟨some 9, none, .alloc [(.s (.int .i64 0)), (.s (.int .i64 0))]⟩,
 ⟨none, none, .store 2 (.t 9) (.t 19)⟩]
def c79r6 : List AOper := [
 ⟨some 20, none, .sliceArr 2 1 (.t 7) none none⟩,
 ⟨some 21, none, .sliceArr 2 1 (.t 9) none none⟩,
 ⟨some 22, none, .call 96 [(.t 20), (.t 21)]⟩,
 ⟨some 23, none, .cmp .geq (.t 22) (.c (.s (.int .i64 0)))⟩]
def c79r7 : List AOper := [
 ⟨some 24, none, .build [(.full []), (.full []), (.full [])] []⟩,
 ⟨none, none, .store 3 (.t 4) (.t 24)⟩,
 ⟨none, none, .store 1 (.t 5) (.c (.s (.bool false)))⟩]
def c79r8 : List AOper := [
 ⟨some 25, none, .loadO 1 false (.t 6)⟩,
 ⟨some 26, none, .idxArrA 2 1 (.t 9) (.c (.s (.int .i64 0)))⟩,
 ⟨some 27, none, .loadO 1 false (.t 26)⟩,
 ⟨some 28, none, .idxArrA 2 1 (.t 9) (.c (.s (.int .i64 1)))⟩,
 ⟨some 29, none, .loadO 1 false (.t 28)⟩,
 ⟨some 30, none, .build [(.s (.int .i64 0)), (.s (.int .i64 0))] [(0, 1, (.t 27)), (1, 1, (.t 29))]⟩,
 ⟨none, none, .mset [(.int .i64), (.int .i64)] (.t 25) (.t 30) (.c (.s (.int .i64 1)))⟩]
def c79r9 : List AOper := [
 ⟨some 31, none, .loadO 2 true (.t 9)⟩,
 ⟨none, none, .store 2 (.t 7) (.t 31)⟩]
def c79r10 : List AOper := [
 ⟨some 32, none, .arith .add (.t 16) (.c (.s (.int .i64 1)))⟩,
 ⟨some 16, none, .mov (.t 32)⟩]
def c79l11 : ACode := (.seq (.reg 0 c79r4) (.seq (.cond (.t 17) .skip (.exit 0)) (.seq (.block 1 (.seq (.reg 1 c79r5) (.seq (.seq (.reg 0 c79r6) (.cond (.t 23) (.seq (.reg 0 c79r7) .ret) .skip)) (.seq (.reg 0 c79r8) (.reg 0 c79r9))))) (.reg 0 c79r10))))
def c79l11m : List Bool := [true, false, false, false, true, true, true, true, false, false, false, false, false, false, true, true, true, false, false, false, false, false, false, false, false, false, false, false, false, false, false, false, false, false, false, false, false, false, false, false, false, false, false, false, false, false, false, false, false, false, false, false, true, false, false, false, false, false, false, false, false, false, false, false, false, false, false, false, false, false, false, false, false, false, false, false, false, false, false, false, false, false, false, false, false, false]
def c79r12 : List AOper := [
 ⟨some 33, none, .mov (.t 0)⟩,
 ⟨some 34, none, .nilck (.t 33)⟩,
 ⟨some 35, none, .fieldAddr 0 (.t 34)⟩,
 ⟨some 36, none, .fieldAddr 0 (.t 35)⟩,
 ⟨some 37, none, .loadO 1 false (.t 36)⟩,
 ⟨some 38, none, .mov (.t 0)⟩,
 ⟨some 39, none, .nilck (.t 38)⟩,
 ⟨some 40, none, .fieldAddr 0 (.t 39)⟩,
 ⟨some 41, none, .fieldAddr 2 (.t 40)⟩,
 ⟨some 42, none, .loadO 1 false (.t 41)⟩,
 ⟨some 43, none, .mov (.t 0)⟩,
 ⟨some 44, none, .nilck (.t 43)⟩,
 ⟨some 45, none, .fieldAddr 0 (.t 44)⟩,
 ⟨some 46, none, .fieldAddr 1 (.t 45)⟩,
 ⟨some 47, none, .loadO 1 false (.t 46)⟩,
 ⟨some 48, none, .callN 1 73 [(.t 47)]⟩,
 ⟨some 49, none, .build [(.full []), (.full []), (.full [])] [(0, 1, (.t 37)), (2, 1, (.t 42)), (1, 1, (.t 48))]⟩,
 ⟨some 10, none, .alloc [(.full []), (.full []), (.full [])]⟩,
 ⟨none, none, .store 3 (.t 10) (.t 49)⟩]
def c79r13 : List AOper := [
 ⟨some 50, none, .mov (.t 0)⟩,
 ⟨some 51, none, .call 97 [(.t 50)]⟩]
def c79r14 : List AOper := [
 ⟨some 11, none, .alloc [(.s (.int .i64 0)), (.s (.int .i64 0))]⟩,
 ⟨none, none, .store 2 (.t 11) (.t 52)⟩]
def c79r15 : List AOper := [
 ⟨some 53, none, .loadO 1 false (.t 6)⟩,
 ⟨some 54, none, .loadO 2 true (.t 11)⟩,
 ⟨some 55, none, .mget false [(.int .i64), (.int .i64)] (.int .i64 0) (.t 53) (.t 54)⟩,
 ⟨some 56, none, .cmp .eql (.t 55) (.c (.s (.int .i64 0)))⟩]
def c79r16 : List AOper := [
 ⟨some 57, none, .fieldAddr 1 (.t 10)⟩,
 ⟨some 58, none, .loadO 1 false (.t 57)⟩,
 ⟨some 59, none, .fieldAddr 0 (.t 11)⟩,
 ⟨some 60, none, .loadO 1 false (.t 59)⟩,
 ⟨some 61, none, .fieldAddr 1 (.t 10)⟩,
 ⟨some 62, none, .loadO 1 false (.t 61)⟩,
 ⟨some 63, none, .fieldAddr 0 (.t 11)⟩,
 ⟨some 64, none, .loadO 1 false (.t 63)⟩,
 ⟨some 65, none, .idxA 1 (.t 62) (.t 64)⟩,
 ⟨some 66, none, .load 1 false (.t 65)⟩,
 ⟨some 67, none, .callN 1 75 [(.t 66)]⟩,
 ⟨some 68, none, .mkfn 98 [] [(.t 11)]⟩,
 ⟨some 69, none, .callF 74 (.t 67) [(.t 68)]⟩,
 ⟨some 70, none, .idxA 1 (.t 58) (.t 60)⟩,
 ⟨none, none, .storeR 1 (.t 70) (.t 69)⟩]
def c79r17 : List AOper := [
 ⟨some 71, none, .loadO 1 false (.t 6)⟩,
 ⟨some 72, none, .loadO 2 true (.t 11)⟩,
 ⟨none, none, .mdel [(.int .i64), (.int .i64)] (.t 71) (.t 72)⟩]
def c79r18 : List AOper := [
 ⟨some 73, none, .fieldAddr 1 (.t 10)⟩,
 ⟨some 74, none, .loadO 1 false (.t 73)⟩,
 ⟨some 75, none, .fieldAddr 0 (.t 11)⟩,
 ⟨some 76, none, .loadO 1 false (.t 75)⟩,
 ⟨some 77, none, .idxA 1 (.t 74) (.t 76)⟩,
 ⟨some 78, none, .load 1 false (.t 77)⟩,
 ⟨some 79, none, .len false (.t 78)⟩,
 ⟨some 80, none, .cmp .eql (.t 79) (.c (.s (.int .i64 0)))⟩]
def c79r19 : List AOper := [
 ⟨some 81, none, .build [(.full []), (.full []), (.full [])] []⟩,
 ⟨none, none, .store 3 (.t 4) (.t 81)⟩,
 ⟨none, none, .store 1 (.t 5) (.c (.s (.bool false)))⟩]
def c79b20 : ACode := (.block 3 (.seq (.seq (.reg 0 c79r15) (.cond (.t 56) (.exit 3) .skip)) (.seq (.reg 1 c79r16) (.seq (.reg 0 c79r17) (.seq (.reg 0 c79r18) (.cond (.t 80) (.seq (.reg 0 c79r19) .ret) .skip))))))
def c79r21 : List AOper := [
 ⟨some 82, none, .loadO 3 true (.t 10)⟩,
 ⟨some 83, none, .loadO 1 false (.t 6)⟩,
 ⟨some 84, none, .mlen (.t 83)⟩,
 ⟨some 85, none, .cmp .eql (.t 84) (.c (.s (.int .i64 0)))⟩,
 ⟨none, none, .store 3 (.t 4) (.t 82)⟩,
 ⟨none, none, .store 1 (.t 5) (.t 85)⟩]
def t79 : TRow := ⟨(.seq (.reg 2 c79r0) (.seq (.reg 2 c79r1) (.seq (.reg 1 c79r2) (.seq (.seq (.reg 0 c79r3) (.block 0 (.loop c79l11m [] c79l11))) (.seq (.reg 2 c79r12) (.rangeF (.reg 0 c79r13) 2 (.t 51) 52 (.reg 1 c79r14) c79b20 (.seq (.reg 0 c79r21) (.code .ret)))))))), [.cell 4 3 true, .cell 5 1 false], 86⟩
theorem okt79 : t79.Ok Try.prog 79 := ⟨_, _, Try.func79, rfl, by kernel_rfl, by kernel_rfl, by kernel_rfl⟩

/-! 80 pennyfall/skill.newBoard, 1 and 0 -/
def c80r0 : List AOper := [
 ⟨some 1, none, .boxS (.t 0)⟩,
 ⟨some 2, none, .mov (.c (.s .nilp))⟩]
def c80r1 : List AOper := [
 ⟨some 11, none, .load 3 true (.t 1)⟩,
 ⟨some 12, none, .build [(.full []), (.full []), (.full []), (.s (.int .i64 0)), (.s (.int .i64 0)), (.s (.int .i64 0)), (.s (.int .i64 0)), (.s (.int .i64 0)), (.s (.int .i64 0)), (.s (.int .i64 0)), (.s (.int .i64 0)), (.s (.int .i64 0)), (.s (.int .i64 0)), (.s (.int .i64 0)), (.s (.int .i64 0)), (.s (.int .i64 0)), (.s (.int .i64 0))] [(0, 3, (.t 11))]⟩,
 ⟨some 13, none, .boxM (.t 12)⟩,
 ⟨some 3, none, .mov (.t 13)⟩]
def c80r2 : List AOper := [
 ⟨some 14, none, .mov (.c (.s (.int .i64 0)))⟩]
def c80r3 : List AOper := [
 ⟨some 15, none, .cmp .lss (.t 14) (.c (.s (.int .i64 14)))⟩]
def c80r4 : List AOper := [
 ⟨some 16, none, .mov (.t 14)⟩,
 ⟨some 4, none, .mov (.t 16)⟩]
def c80r5 : List AOper := [
 ⟨some 17, none, .mov (.t 3)⟩,
 ⟨some 18, none, .mov (.t 4)⟩,
 ⟨some 19, none, .nilck (.t 17)⟩,
 ⟨some 20, none, .fieldAddr 3 (.t 19)⟩,
 ⟨some 21, none, .idxArrA 14 1 (.t 20) (.t 18)⟩,
 ⟨none, none, .store 1 (.t 21) (.c (.s (.int .i64 (-1))))⟩]
def c80r6 : List AOper := [
 ⟨some 22, none, .arith .add (.t 14) (.c (.s (.int .i64 1)))⟩,
 ⟨some 14, none, .mov (.t 22)⟩]
def c80l7 : ACode := (.seq (.reg 0 c80r3) (.seq (.cond (.t 15) .skip (.exit 0)) (.seq (.block 1 (.seq (.reg 0 c80r4) (.reg 0 c80r5))) (.reg 0 c80r6))))
def c80l7m : List Bool := [false, false, false, true, false, false, false, false, false, false, false, false, false, false, true, false, false, false, false, false, false, false, false, false, false, false, false, false, false, false, false, false, false, false, false, false, false, false, false, false, false, false, false, false, false, false, false, false, false, false, false, false, false, false, false, false, false, false, false, false, false, false, false, false, false, false, false, false, false, false, false, false, false, false, false, false, false, false, false, false, false]
def c80r8 : List AOper := [
 ⟨some 23, none, .mov (.t 3)⟩,
 ⟨some 24, none, .nilck (.t 23)⟩,
 ⟨some 25, none, .fieldAddr 0 (.t 24)⟩,
 ⟨some 26, none, .fieldAddr 2 (.t 25)⟩,
 ⟨some 27, none, .load 1 false (.t 26)⟩,
 ⟨some 28, none, .len false (.t 27)⟩,
 ⟨some 29, none, .mov (.c (.s (.int .i64 0)))⟩]
def c80r9 : List AOper := [
 ⟨some 30, none, .cmp .lss (.t 29) (.t 28)⟩]
def c80r10 : List AOper := [
 ⟨some 31, none, .mov (.t 29)⟩,
 ⟨some 32, none, .idxA 1 (.t 27) (.t 29)⟩,
 ⟨some 33, none, .load 1 false (.t 32)⟩,
 ⟨some 5, none, .mov (.t 31)⟩,
 ⟨some 6, none, .mov (.t 33)⟩]
def c80r11 : List AOper := [
 ⟨some 34, none, .mov (.t 6)⟩]
def c80r12 : List AOper := [
 ⟨some 35, none, .mov (.t 3)⟩,
 ⟨some 36, none, .mov (.t 5)⟩,
 ⟨some 37, none, .nilck (.t 35)⟩,
 ⟨some 38, none, .fieldAddr 3 (.t 37)⟩,
 ⟨some 39, none, .idxArrA 14 1 (.t 38) (.t 36)⟩,
 ⟨none, none, .store 1 (.t 39) (.c (.s (.int .i64 0)))⟩]
def c80r13 : List AOper := [
 ⟨some 40, none, .arith .add (.t 29) (.c (.s (.int .i64 1)))⟩,
 ⟨some 29, none, .mov (.t 40)⟩]
def c80l14 : ACode := (.seq (.reg 0 c80r9) (.seq (.cond (.t 30) .skip (.exit 2)) (.seq (.block 3 (.seq (.reg 0 c80r10) (.seq (.reg 0 c80r11) (.cond (.t 34) (.reg 0 c80r12) .skip)))) (.reg 0 c80r13))))
def c80l14m : List Bool := [false, false, false, true, false, false, false, false, false, false, false, false, false, false, false, false, false, false, false, false, false, false, false, false, false, false, false, true, true, true, false, false, false, false, false, false, false, false, false, false, false, false, false, false, false, false, false, false, false, false, false, false, false, false, false, false, false, false, false, false, false, false, false, false, false, false, false, false, false, false, false, false, false, false, false, false, false, false, false, false, false]
def c80r15 : List AOper := [
 ⟨some 7, none, .mov (.c (.s (.int .i64 1)))⟩]
def c80r16 : List AOper := [
 ⟨some 43, none, .mov (.t 3)⟩,
 ⟨some 44, none, .nilck (.t 43)⟩,
 ⟨some 45, none, .fieldAddr 3 (.t 44)⟩,
 ⟨some 46, none, .load 14 true (.t 45)⟩,
 ⟨some 8, none, .alloc [(.s (.int .i64 0)), (.s (.int .i64 0)), (.s (.int .i64 0)), (.s (.int .i64 0)), (.s (.int .i64 0)), (.s (.int .i64 0)), (.s (.int .i64 0)), (.s (.int .i64 0)), (.s (.int .i64 0)), (.s (.int .i64 0)), (.s (.int .i64 0)), (.s (.int .i64 0)), (.s (.int .i64 0)), (.s (.int .i64 0))]⟩,
 ⟨none, none, .store 14 (.t 8) (.t 46)⟩]
def c80r17 : List AOper := [
 ⟨some 47, none, .mkfn 99 [] [(.t 8)]⟩,
 ⟨some 9, none, .mov (.t 47)⟩]
def c80r18 : List AOper := [
 ⟨some 48, none, .mov (.t 3)⟩,
 ⟨some 49, none, .nilck (.t 48)⟩,
 ⟨some 50, none, .fieldAddr 0 (.t 49)⟩,
 ⟨some 51, none, .fieldAddr 1 (.t 50)⟩,
 ⟨some 52, none, .load 1 false (.t 51)⟩,
 ⟨some 53, none, .len false (.t 52)⟩,
 ⟨some 54, none, .mov (.c (.s (.int .i64 0)))⟩]
def c80r19 : List AOper := [
 ⟨some 55, none, .cmp .lss (.t 54) (.t 53)⟩]
def c80r20 : List AOper := [
 ⟨some 56, none, .mov (.t 54)⟩,
 ⟨some 10, none, .mov (.t 56)⟩]
def c80r21 : List AOper := [
 ⟨some 57, none, .mov (.t 10)⟩,
 ⟨some 58, none, .idxArrA 14 1 (.t 8) (.t 57)⟩,
 ⟨some 59, none, .load 1 false (.t 58)⟩,
 ⟨some 60, none, .cmp .lss (.t 59) (.c (.s (.int .i64 0)))⟩,
 ⟨some 61, none, .mov (.t 60)⟩,
 ⟨some 62, some (61, true), .mov (.t 3)⟩,
 ⟨some 63, some (61, true), .mov (.t 10)⟩,
 ⟨some 64, some (61, true), .mov (.t 9)⟩,
 ⟨some 65, some (61, true), .call 66 [(.t 62), (.t 63), (.t 64)]⟩,
 ⟨some 66, none, .pick (.t 61) (.t 65) (.c (.s (.bool false)))⟩]
def c80r22 : List AOper := [
 ⟨some 67, none, .mov (.t 3)⟩,
 ⟨some 68, none, .mov (.t 10)⟩,
 ⟨some 69, none, .mov (.t 7)⟩,
 ⟨some 70, none, .nilck (.t 67)⟩,
 ⟨some 71, none, .fieldAddr 3 (.t 70)⟩,
 ⟨some 72, none, .idxArrA 14 1 (.t 71) (.t 68)⟩,
 ⟨none, none, .store 1 (.t 72) (.t 69)⟩]
def c80r23 : List AOper := [
 ⟨some 73, none, .arith .add (.t 54) (.c (.s (.int .i64 1)))⟩,
 ⟨some 54, none, .mov (.t 73)⟩]
def c80l24 : ACode := (.seq (.reg 0 c80r19) (.seq (.cond (.t 55) .skip (.exit 6)) (.seq (.block 7 (.seq (.reg 0 c80r20) (.seq (.reg 0 c80r21) (.cond (.t 66) (.reg 0 c80r22) .skip)))) (.reg 0 c80r23))))
def c80l24m : List Bool := [false, false, false, true, false, false, false, true, true, true, false, false, false, false, false, false, false, false, false, false, false, false, false, false, false, false, false, false, false, false, false, false, false, false, false, false, false, false, false, false, false, false, false, false, false, false, false, false, false, false, false, false, false, true, true, false, false, false, false, false, false, false, false, false, false, false, false, false, false, false, false, false, false, false, false, false, false, false, false, false, false]
def c80r25 : List AOper := [
 ⟨some 74, none, .mov (.t 3)⟩,
 ⟨some 75, none, .nilck (.t 74)⟩,
 ⟨some 76, none, .fieldAddr 3 (.t 75)⟩,
 ⟨some 77, none, .load 14 true (.t 76)⟩,
 ⟨some 78, none, .load 14 true (.t 8)⟩,
 ⟨some 79, none, .eql true [(.int .i64), (.int .i64), (.int .i64), (.int .i64), (.int .i64), (.int .i64), (.int .i64), (.int .i64), (.int .i64), (.int .i64), (.int .i64), (.int .i64), (.int .i64), (.int .i64)] false (.t 77) (.t 78)⟩]
def c80r26 : List AOper := [
 ⟨some 80, none, .mov (.t 3)⟩,
 ⟨some 2, none, .mov (.t 80)⟩]
def c80r27 : List AOper := [
 ⟨some 41, none, .mov (.t 7)⟩,
 ⟨some 42, none, .arith .add (.t 41) (.c (.s (.int .i64 1)))⟩,
 ⟨some 7, none, .mov (.t 42)⟩]
def c80l28 : ACode := (.seq (.block 5 (.seq (.reg 1 c80r16) (.seq (.reg 0 c80r17) (.seq (.seq (.reg 0 c80r18) (.block 6 (.loop c80l24m [] c80l24))) (.seq (.reg 0 c80r25) (.cond (.t 79) (.seq (.reg 0 c80r26) .ret) .skip)))))) (.reg 0 c80r27))
def c80l28m : List Bool := [false, false, false, true, false, false, false, true, false, false, false, false, false, false, false, false, false, false, false, false, false, false, false, false, false, false, false, false, false, false, false, false, false, false, false, false, false, false, false, false, false, false, false, false, false, false, false, false, false, false, false, false, false, false, false, false, false, false, false, false, false, false, false, false, false, false, false, false, false, false, false, false, false, false, false, false, false, false, false, false, false]
def f80 : FRow := ⟨(.seq (.reg 0 c80r0) (.seq (.reg 1 c80r1) (.seq (.seq (.reg 0 c80r2) (.block 0 (.loop c80l7m [] c80l7))) (.seq (.seq (.reg 0 c80r8) (.block 2 (.loop c80l14m [] c80l14))) (.seq (.reg 0 c80r15) (.block 4 (.loop c80l28m [] c80l28))))))), [.tmp 2], 81⟩
theorem okf80 : f80.Ok Try.prog 80 := ⟨_, _, Try.func80, rfl, by kernel_rfl, by kernel_rfl, by kernel_rfl⟩

/-! 81 pennyfall/pennyfallref03.IsTaken, 2 and 0 -/
def c81r0 : List AOper := [
 ⟨some 2, none, .boxS (.t 0)⟩,
 ⟨some 4, none, .mov (.c (.s (.bool false)))⟩]
def c81r1 : List AOper := [
 ⟨some 9, none, .fieldAddr 1 (.t 2)⟩,
 ⟨some 10, none, .load 1 false (.t 9)⟩,
 ⟨some 11, none, .len false (.t 10)⟩,
 ⟨some 12, none, .mkslice 1 8 [(.int .i64 0)] (.t 11) (.t 11)⟩,
 ⟨some 5, none, .mov (.t 12)⟩]
def c81r2 : List AOper := [
 ⟨some 6, none, .mov (.c (.s (.int .i64 0)))⟩]
def c81r3 : List AOper := [
 ⟨some 13, none, .mov (.t 6)⟩,
 ⟨some 14, none, .mov (.t 1)⟩,
 ⟨some 15, none, .len false (.t 14)⟩,
 ⟨some 16, none, .cmp .lss (.t 13) (.t 15)⟩]
def c81r4 : List AOper := [
 ⟨some 19, none, .mov (.t 1)⟩,
 ⟨some 20, none, .mov (.t 6)⟩,
 ⟨some 21, none, .idxA 2 (.t 19) (.t 20)⟩,
 ⟨some 22, none, .idxArrA 2 1 (.t 21) (.c (.s (.int .i64 0)))⟩,
 ⟨some 23, none, .load 1 false (.t 22)⟩,
 ⟨some 24, none, .mov (.t 1)⟩,
 ⟨some 25, none, .mov (.t 6)⟩,
 ⟨some 26, none, .idxA 2 (.t 24) (.t 25)⟩,
 ⟨some 27, none, .idxArrA 2 1 (.t 26) (.c (.s (.int .i64 1)))⟩,
 ⟨some 28, none, .load 1 false (.t 27)⟩,
 ⟨some 7, none, .mov (.t 23)⟩,
 ⟨some 8, none, .mov (.t 28)⟩]
def c81r5 : List AOper := [
 ⟨some 29, none, .mov (.t 7)⟩,
 ⟨some 30, none, .cmp .lss (.t 29) (.c (.s (.int .i64 0)))⟩,
 ⟨some 31, none, .mov (.t 30)⟩,
 ⟨some 32, some (31, false), .mov (.t 7)⟩,
 ⟨some 33, some (31, false), .fieldAddr 1 (.t 2)⟩,
 ⟨some 34, some (31, false), .load 1 false (.t 33)⟩,
 ⟨some 35, some (31, false), .len false (.t 34)⟩,
 ⟨some 36, some (31, false), .cmp .geq (.t 32) (.t 35)⟩,
 ⟨some 37, none, .pick (.t 31) (.c (.s (.bool true))) (.t 36)⟩,
 ⟨some 38, none, .mov (.t 37)⟩,
 ⟨some 39, some (38, false), .fieldAddr 0 (.t 2)⟩,
 ⟨some 40, some (38, false), .load 1 false (.t 39)⟩,
 ⟨some 41, some (38, false), .mov (.t 7)⟩,
 ⟨some 42, some (38, false), .idxA 1 (.t 40) (.t 41)⟩,
 ⟨some 43, some (38, false), .load 1 false (.t 42)⟩,
 ⟨some 44, none, .pick (.t 38) (.c (.s (.bool true))) (.t 43)⟩,
 ⟨some 45, none, .mov (.t 44)⟩,
 ⟨some 46, some (45, false), .fieldAddr 2 (.t 2)⟩,
 ⟨some 47, some (45, false), .load 1 false (.t 46)⟩,
 ⟨some 48, some (45, false), .mov (.t 7)⟩,
 ⟨some 49, some (45, false), .idxA 1 (.t 47) (.t 48)⟩,
 ⟨some 50, some (45, false), .load 1 false (.t 49)⟩,
 ⟨some 51, none, .pick (.t 45) (.c (.s (.bool true))) (.t 50)⟩,
 ⟨some 52, none, .mov (.t 51)⟩,
 ⟨some 53, some (52, false), .fieldAddr 1 (.t 2)⟩,
 ⟨some 54, some (52, false), .load 1 false (.t 53)⟩,
 ⟨some 55, some (52, false), .mov (.t 7)⟩,
 ⟨some 56, some (52, false), .idxA 1 (.t 54) (.t 55)⟩,
 ⟨some 57, some (52, false), .load 1 false (.t 56)⟩,
 ⟨some 58, some (52, false), .mov (.t 8)⟩,
 ⟨some 59, some (52, false), .call 49 [(.t 57), (.t 58)]⟩,
 ⟨some 60, some (52, false), .not (.t 59)⟩,
 ⟨some 61, none, .pick (.t 52) (.c (.s (.bool true))) (.t 60)⟩]
def c81r6 : List AOper := [
 ⟨some 4, none, .mov (.c (.s (.bool false)))⟩]
def c81r7 : List AOper := [
 ⟨some 62, none, .mov (.t 6)⟩,
 ⟨some 63, none, .cmp .gtr (.t 62) (.c (.s (.int .i64 0)))⟩,
 ⟨some 64, none, .mov (.t 63)⟩,
 ⟨some 65, some (64, true), .mov (.t 7)⟩,
 ⟨some 66, some (64, true), .mov (.t 1)⟩,
 ⟨some 67, some (64, true), .mov (.t 6)⟩,
 ⟨some 68, some (64, true), .arith .sub (.t 67) (.c (.s (.int .i64 1)))⟩,
 ⟨some 69, some (64, true), .idxA 2 (.t 66) (.t 68)⟩,
 ⟨some 70, some (64, true), .idxArrA 2 1 (.t 69) (.c (.s (.int .i64 0)))⟩,
 ⟨some 71, some (64, true), .load 1 false (.t 70)⟩,
 ⟨some 72, some (64, true), .cmp .lss (.t 65) (.t 71)⟩,
 ⟨some 73, some (64, true), .mov (.t 72)⟩,
 ⟨some 74, some (73, false), .mov (.t 7)⟩,
 ⟨some 75, some (73, false), .mov (.t 1)⟩,
 ⟨some 76, some (73, false), .mov (.t 6)⟩,
 ⟨some 77, some (73, false), .arith .sub (.t 76) (.c (.s (.int .i64 1)))⟩,
 ⟨some 78, some (73, false), .idxA 2 (.t 75) (.t 77)⟩,
 ⟨some 79, some (73, false), .idxArrA 2 1 (.t 78) (.c (.s (.int .i64 0)))⟩,
 ⟨some 80, some (73, false), .load 1 false (.t 79)⟩,
 ⟨some 81, some (73, false), .cmp .eql (.t 74) (.t 80)⟩,
 ⟨some 82, some (73, false), .mov (.t 81)⟩,
 ⟨some 83, some (82, true), .mov (.t 8)⟩,
 ⟨some 84, some (82, true), .mov (.t 1)⟩,
 ⟨some 85, some (82, true), .mov (.t 6)⟩,
 ⟨some 86, some (82, true), .arith .sub (.t 85) (.c (.s (.int .i64 1)))⟩,
 ⟨some 87, some (82, true), .idxA 2 (.t 84) (.t 86)⟩,
 ⟨some 88, some (82, true), .idxArrA 2 1 (.t 87) (.c (.s (.int .i64 1)))⟩,
 ⟨some 89, some (82, true), .load 1 false (.t 88)⟩,
 ⟨some 90, some (82, true), .cmp .leq (.t 83) (.t 89)⟩,
 ⟨some 91, some (73, false), .pick (.t 82) (.t 90) (.c (.s (.bool false)))⟩,
 ⟨some 92, some (64, true), .pick (.t 73) (.c (.s (.bool true))) (.t 91)⟩,
 ⟨some 93, none, .pick (.t 64) (.t 92) (.c (.s (.bool false)))⟩]
def c81r8 : List AOper := [
 ⟨some 4, none, .mov (.c (.s (.bool false)))⟩]
def c81r9 : List AOper := [
 ⟨some 94, none, .mov (.t 5)⟩,
 ⟨some 95, none, .mov (.t 7)⟩,
 ⟨some 96, none, .idxA 1 (.t 94) (.t 95)⟩,
 ⟨some 97, none, .load 1 false (.t 96)⟩,
 ⟨some 98, none, .arith .add (.t 97) (.c (.s (.int .i64 1)))⟩,
 ⟨some 99, none, .idxA 1 (.t 94) (.t 95)⟩,
 ⟨none, none, .store 1 (.t 99) (.t 98)⟩]
def c81r10 : List AOper := [
 ⟨some 100, none, .mov (.t 5)⟩,
 ⟨some 101, none, .mov (.t 7)⟩,
 ⟨some 102, none, .idxA 1 (.t 100) (.t 101)⟩,
 ⟨some 103, none, .load 1 false (.t 102)⟩,
 ⟨some 104, none, .fieldAddr 1 (.t 2)⟩,
 ⟨some 105, none, .load 1 false (.t 104)⟩,
 ⟨some 106, none, .mov (.t 7)⟩,
 ⟨some 107, none, .idxA 1 (.t 105) (.t 106)⟩,
 ⟨some 108, none, .load 1 false (.t 107)⟩,
 ⟨some 109, none, .len false (.t 108)⟩,
 ⟨some 110, none, .cmp .eql (.t 103) (.t 109)⟩]
def c81r11 : List AOper := [
 ⟨some 4, none, .mov (.c (.s (.bool false)))⟩]
def c81r12 : List AOper := [
 ⟨some 17, none, .mov (.t 6)⟩,
 ⟨some 18, none, .arith .add (.t 17) (.c (.s (.int .i64 1)))⟩,
 ⟨some 6, none, .mov (.t 18)⟩]
def c81l13 : ACode := (.seq (.seq (.reg 0 c81r3) (.cond (.t 16) .skip (.exit 0))) (.seq (.block 1 (.seq (.reg 0 c81r4) (.seq (.seq (.reg 0 c81r5) (.cond (.t 61) (.seq (.reg 0 c81r6) .ret) .skip)) (.seq (.seq (.reg 0 c81r7) (.cond (.t 93) (.seq (.reg 0 c81r8) .ret) .skip)) (.seq (.reg 0 c81r9) (.seq (.reg 0 c81r10) (.cond (.t 110) (.seq (.reg 0 c81r11) .ret) .skip))))))) (.reg 0 c81r12)))
def c81l13m : List Bool := [false, true, true, false, false, true, true, false, false, false, false, false, false, false, false, false, false, false, false, false, false, false, false, false, false, false, false, false, false, false, false, false, false, false, false, false, false, false, false, false, false, false, false, false, false, false, false, false, false, false, false, false, false, false, false, false, false, false, false, false, false, false, false, false, false, false, false, false, false, false, false, false, false, false, false, false, false, false, false, false, false, false, false, false, false, false, false, false, false, false, false, false, false, false, false, false, false, false, false, false, false, false, false, false, false, false, false, false, false, false, false]
def c81r14 : List AOper := [
 ⟨some 4, none, .mov (.c (.s (.bool true)))⟩]
def f81 : FRow := ⟨(.seq (.reg 0 c81r0) (.seq (.reg 1 c81r1) (.seq (.seq (.reg 0 c81r2) (.block 0 (.loop c81l13m [] c81l13))) (.seq (.reg 0 c81r14) .ret)))), [.tmp 4], 111⟩
theorem okf81 : f81.Ok Try.prog 81 := ⟨_, _, Try.func81, rfl, by kernel_rfl, by kernel_rfl, by kernel_rfl⟩

/-! 82 pennyfall/pennyfalllaw03.Machine, 3 and 0 -/
def c82r0 : List AOper := [
 ⟨some 6, none, .alloc [(.full []), (.full []), (.full [])]⟩]
def c82r1 : List AOper := [
 ⟨some 10, none, .mov (.t 2)⟩,
 ⟨some 11, none, .build [(.full []), (.full []), (.full [])] [(1, 1, (.t 10))]⟩,
 ⟨some 7, none, .alloc [(.full []), (.full []), (.full [])]⟩,
 ⟨none, none, .store 3 (.t 7) (.t 11)⟩]
def c82r2 : List AOper := [
 ⟨some 8, none, .mov (.c (.s (.int .i64 0)))⟩]
def c82r3 : List AOper := [
 ⟨some 12, none, .mov (.t 8)⟩,
 ⟨some 13, none, .mov (.t 0)⟩,
 ⟨some 14, none, .len false (.t 13)⟩,
 ⟨some 15, none, .cmp .lss (.t 12) (.t 14)⟩]
def c82r4 : List AOper := [
 ⟨some 18, none, .fieldAddr 0 (.t 7)⟩,
 ⟨some 19, none, .load 1 false (.t 18)⟩,
 ⟨some 20, none, .mov (.t 0)⟩,
 ⟨some 21, none, .mov (.t 8)⟩,
 ⟨some 22, none, .idxA 1 (.t 20) (.t 21)⟩,
 ⟨some 23, none, .load 1 false (.t 22)⟩,
 ⟨some 24, none, .cmp .eql (.t 23) (.c (.s (.int .i64 1)))⟩,
 ⟨some 25, none, .buildSl 1 1 (.bool false) [(0, (.t 24))]⟩,
 ⟨some 26, none, .append 1 1 (.t 19) (.t 25)⟩,
 ⟨some 27, none, .fieldAddr 0 (.t 7)⟩,
 ⟨none, none, .store 1 (.t 27) (.t 26)⟩]
def c82r5 : List AOper := [
 ⟨some 16, none, .mov (.t 8)⟩,
 ⟨some 17, none, .arith .add (.t 16) (.c (.s (.int .i64 1)))⟩,
 ⟨some 8, none, .mov (.t 17)⟩]
def c82l6 : ACode := (.seq (.seq (.reg 0 c82r3) (.cond (.t 15) .skip (.exit 0))) (.seq (.block 1 (.reg 1 c82r4)) (.reg 0 c82r5)))
def c82l6m : List Bool := [true, true, false, false, false, false, true, true, true, false, false, false, false, false, false, false, false, false, false, false, false, false, false, false, false, false, false, false, false, false, false, false, false, false, false, false, false, false, false, false, false, false, false, false, false]
def c82r7 : List AOper := [
 ⟨some 9, none, .mov (.c (.s (.int .i64 0)))⟩]
def c82r8 : List AOper := [
 ⟨some 28, none, .mov (.t 9)⟩,
 ⟨some 29, none, .mov (.t 1)⟩,
 ⟨some 30, none, .len false (.t 29)⟩,
 ⟨some 31, none, .cmp .lss (.t 28) (.t 30)⟩]
def c82r9 : List AOper := [
 ⟨some 34, none, .fieldAddr 2 (.t 7)⟩,
 ⟨some 35, none, .load 1 false (.t 34)⟩,
 ⟨some 36, none, .mov (.t 1)⟩,
 ⟨some 37, none, .mov (.t 9)⟩,
 ⟨some 38, none, .idxA 1 (.t 36) (.t 37)⟩,
 ⟨some 39, none, .load 1 false (.t 38)⟩,
 ⟨some 40, none, .cmp .eql (.t 39) (.c (.s (.int .i64 1)))⟩,
 ⟨some 41, none, .buildSl 1 1 (.bool false) [(0, (.t 40))]⟩,
 ⟨some 42, none, .append 1 1 (.t 35) (.t 41)⟩,
 ⟨some 43, none, .fieldAddr 2 (.t 7)⟩,
 ⟨none, none, .store 1 (.t 43) (.t 42)⟩]
def c82r10 : List AOper := [
 ⟨some 32, none, .mov (.t 9)⟩,
 ⟨some 33, none, .arith .add (.t 32) (.c (.s (.int .i64 1)))⟩,
 ⟨some 9, none, .mov (.t 33)⟩]
def c82l11 : ACode := (.seq (.seq (.reg 0 c82r8) (.cond (.t 31) .skip (.exit 2))) (.seq (.block 3 (.reg 1 c82r9)) (.reg 0 c82r10)))
def c82l11m : List Bool := [false, true, false, false, false, false, true, true, false, true, false, false, false, false, false, false, false, false, false, false, false, false, false, false, false, false, false, false, false, false, false, false, false, false, false, false, false, false, false, false, false, false, false, false, false]
def c82r12 : List AOper := [
 ⟨some 44, none, .load 3 true (.t 7)⟩,
 ⟨none, none, .store 3 (.t 6) (.t 44)⟩]
def f82 : FRow := ⟨(.seq (.reg 1 c82r0) (.seq (.reg 1 c82r1) (.seq (.seq (.reg 0 c82r2) (.block 0 (.loop c82l6m [(7, some 0, 0)] c82l6))) (.seq (.seq (.reg 0 c82r7) (.block 2 (.loop c82l11m [(7, some 2, 0)] c82l11))) (.seq (.reg 0 c82r12) .ret))))), [.cell 6 3 true], 45⟩
theorem okf82 : f82.Ok Try.prog 82 := ⟨_, _, Try.func82, rfl, by kernel_rfl, by kernel_rfl, by kernel_rfl⟩

/-! 83 pennyfall/pennyfallref03.next, 3 and 0 -/
def c83r0 : List AOper := [
 ⟨some 3, none, .boxS (.t 0)⟩,
 ⟨some 6, none, .mov (.c (.s (.int .i64 0)))⟩]
def c83r1 : List AOper := [
 ⟨some 13, none, .fieldAddr 1 (.t 3)⟩,
 ⟨some 14, none, .load 1 false (.t 13)⟩,
 ⟨some 15, none, .mov (.t 1)⟩,
 ⟨some 16, none, .idxA 1 (.t 14) (.t 15)⟩,
 ⟨some 17, none, .load 1 false (.t 16)⟩,
 ⟨some 7, none, .mov (.t 17)⟩]
def c83r2 : List AOper := [
 ⟨some 8, none, .mov (.c (.s (.int .i64 (-1))))⟩,
 ⟨some 9, none, .mov (.c (.s (.int .i64 (-1))))⟩,
 ⟨some 10, none, .mov (.c (.s (.bool false)))⟩]
def c83r3 : List AOper := [
 ⟨some 11, none, .mov (.c (.s (.int .i64 0)))⟩]
def c83r4 : List AOper := [
 ⟨some 18, none, .mov (.t 11)⟩,
 ⟨some 19, none, .mov (.t 7)⟩,
 ⟨some 20, none, .len false (.t 19)⟩,
 ⟨some 21, none, .cmp .lss (.t 18) (.t 20)⟩]
def c83r5 : List AOper := [
 ⟨some 24, none, .mov (.t 2)⟩,
 ⟨some 25, none, .mov (.t 7)⟩,
 ⟨some 26, none, .mov (.t 11)⟩,
 ⟨some 27, none, .idxA 1 (.t 25) (.t 26)⟩,
 ⟨some 28, none, .load 1 false (.t 27)⟩,
 ⟨some 29, none, .idxA 1 (.t 24) (.t 28)⟩,
 ⟨some 30, none, .load 1 false (.t 29)⟩,
 ⟨some 12, none, .mov (.t 30)⟩]
def c83r6 : List AOper := [
 ⟨some 31, none, .mov (.t 12)⟩,
 ⟨some 32, none, .cmp .lss (.t 31) (.c (.s (.int .i64 0)))⟩]
def c83r7 : List AOper := [
 ⟨some 10, none, .mov (.c (.s (.bool true)))⟩]
def c83r8 : List AOper := [
 ⟨some 33, none, .mov (.t 8)⟩,
 ⟨some 34, none, .cmp .lss (.t 33) (.c (.s (.int .i64 0)))⟩,
 ⟨some 35, none, .mov (.t 34)⟩,
 ⟨some 36, some (35, false), .mov (.t 12)⟩,
 ⟨some 37, some (35, false), .mov (.t 8)⟩,
 ⟨some 38, some (35, false), .cmp .lss (.t 36) (.t 37)⟩,
 ⟨some 39, none, .pick (.t 35) (.c (.s (.bool true))) (.t 38)⟩]
def c83r9 : List AOper := [
 ⟨some 40, none, .mov (.t 12)⟩,
 ⟨some 8, none, .mov (.t 40)⟩]
def c83r10 : List AOper := [
 ⟨some 41, none, .mov (.t 9)⟩,
 ⟨some 42, none, .mov (.t 12)⟩,
 ⟨some 43, none, .max [(.t 41), (.t 42)]⟩,
 ⟨some 9, none, .mov (.t 43)⟩]
def c83r11 : List AOper := [
 ⟨some 22, none, .mov (.t 11)⟩,
 ⟨some 23, none, .arith .add (.t 22) (.c (.s (.int .i64 1)))⟩,
 ⟨some 11, none, .mov (.t 23)⟩]
def c83l12 : ACode := (.seq (.seq (.reg 0 c83r4) (.cond (.t 21) .skip (.exit 0))) (.seq (.block 1 (.seq (.reg 0 c83r5) (.seq (.seq (.reg 0 c83r6) (.cond (.t 32) (.seq (.reg 0 c83r7) (.exit 1)) .skip)) (.seq (.seq (.reg 0 c83r8) (.cond (.t 39) (.reg 0 c83r9) .skip)) (.reg 0 c83r10))))) (.reg 0 c83r11)))
def c83l12m : List Bool := [false, true, true, true, false, false, false, true, true, true, true, true, false, false, false, false, false, false, false, false, false, false, false, false, false, false, false, false, false, false, false, false, false, false, false, false, false, false, false, false, false, false, false, false, false, false, false, false, false, false, false, false, false, false, false, false, false, false, false, false, false, false, false, false, false, false]
def c83r13 : List AOper := [
 ⟨some 44, none, .mov (.t 8)⟩,
 ⟨some 45, none, .cmp .lss (.t 44) (.c (.s (.int .i64 0)))⟩,
 ⟨some 46, none, .mov (.t 45)⟩,
 ⟨some 47, some (46, false), .fieldAddr 0 (.t 3)⟩,
 ⟨some 48, some (46, false), .load 1 false (.t 47)⟩,
 ⟨some 49, some (46, false), .mov (.t 1)⟩,
 ⟨some 50, some (46, false), .idxA 1 (.t 48) (.t 49)⟩,
 ⟨some 51, some (46, false), .load 1 false (.t 50)⟩,
 ⟨some 52, some (46, false), .not (.t 51)⟩,
 ⟨some 53, some (46, false), .mov (.t 52)⟩,
 ⟨some 54, some (53, true), .mov (.t 10)⟩,
 ⟨some 55, some (46, false), .pick (.t 53) (.t 54) (.c (.s (.bool false)))⟩,
 ⟨some 56, none, .pick (.t 46) (.c (.s (.bool true))) (.t 55)⟩]
def c83r14 : List AOper := [
 ⟨some 6, none, .mov (.c (.s (.int .i64 (-1))))⟩]
def c83r15 : List AOper := [
 ⟨some 57, none, .fieldAddr 0 (.t 3)⟩,
 ⟨some 58, none, .load 1 false (.t 57)⟩,
 ⟨some 59, none, .mov (.t 1)⟩,
 ⟨some 60, none, .idxA 1 (.t 58) (.t 59)⟩,
 ⟨some 61, none, .load 1 false (.t 60)⟩]
def c83r16 : List AOper := [
 ⟨some 62, none, .mov (.t 8)⟩,
 ⟨some 63, none, .arith .add (.t 62) (.c (.s (.int .i64 1)))⟩,
 ⟨some 6, none, .mov (.t 63)⟩]
def c83r17 : List AOper := [
 ⟨some 64, none, .mov (.t 9)⟩,
 ⟨some 65, none, .arith .add (.t 64) (.c (.s (.int .i64 1)))⟩,
 ⟨some 6, none, .mov (.t 65)⟩]
def f83 : FRow := ⟨(.seq (.reg 0 c83r0) (.seq (.reg 0 c83r1) (.seq (.reg 0 c83r2) (.seq (.seq (.reg 0 c83r3) (.block 0 (.loop c83l12m [] c83l12))) (.seq (.seq (.reg 0 c83r13) (.cond (.t 56) (.seq (.reg 0 c83r14) .ret) .skip)) (.seq (.seq (.reg 0 c83r15) (.cond (.t 61) (.seq (.reg 0 c83r16) .ret) .skip)) (.seq (.reg 0 c83r17) .ret))))))), [.tmp 6], 66⟩
theorem okf83 : f83.Ok Try.prog 83 := ⟨_, _, Try.func83, rfl, by kernel_rfl, by kernel_rfl, by kernel_rfl⟩

/-! 84 slices.ContainsFunc[[]int,int], 2 and 0 -/
def c84r0 : List AOper := [
 ⟨some 4, none, .mov (.c (.s (.bool false)))⟩]
def c84r1 : List AOper := [
 ⟨some 5, none, .mov (.t 0)⟩,
 ⟨some 6, none, .mov (.t 1)⟩,
 ⟨some 7, none, .call 92 [(.t 5), (.t 6)]⟩,
 ⟨some 8, none, .cmp .geq (.t 7) (.c (.s (.int .i64 0)))⟩,
 ⟨some 4, none, .mov (.t 8)⟩]
def f84 : FRow := ⟨(.seq (.reg 0 c84r0) (.seq (.reg 0 c84r1) .ret)), [.tmp 4], 9⟩
theorem okf84 : f84.Ok Try.prog 84 := ⟨_, _, Try.func84, rfl, by kernel_rfl, by kernel_rfl, by kernel_rfl⟩

/-! 85 pennyfall/skill.within$1, 1 and 2 -/
def c85r0 : List AOper := [
 ⟨some 4, none, .mov (.c (.s (.bool false)))⟩]
def c85r1 : List AOper := [
 ⟨some 5, none, .mov (.t 0)⟩,
 ⟨some 6, none, .load 1 false (.t 1)⟩,
 ⟨some 7, none, .cmp .lss (.t 5) (.t 6)⟩,
 ⟨some 8, none, .mov (.t 7)⟩,
 ⟨some 9, some (8, false), .mov (.t 0)⟩,
 ⟨some 10, some (8, false), .load 1 false (.t 2)⟩,
 ⟨some 11, some (8, false), .cmp .gtr (.t 9) (.t 10)⟩,
 ⟨some 12, none, .pick (.t 8) (.c (.s (.bool true))) (.t 11)⟩,
 ⟨some 4, none, .mov (.t 12)⟩]
def f85 : FRow := ⟨(.seq (.reg 0 c85r0) (.seq (.reg 0 c85r1) .ret)), [.tmp 4], 13⟩
theorem okf85 : f85.Ok Try.prog 85 := ⟨_, _, Try.func85, rfl, by kernel_rfl, by kernel_rfl, by kernel_rfl⟩

/-! 86 slices.IndexFunc[[][]int,[]int], 2 and 0 -/
def c86r0 : List AOper := [
 ⟨some 4, none, .mov (.c (.s (.int .i64 0)))⟩]
def c86r1 : List AOper := [
 ⟨some 6, none, .mov (.t 0)⟩,
 ⟨some 7, none, .len false (.t 6)⟩,
 ⟨some 8, none, .mov (.c (.s (.int .i64 0)))⟩]
def c86r2 : List AOper := [
 ⟨some 9, none, .cmp .lss (.t 8) (.t 7)⟩]
def c86r3 : List AOper := [
 ⟨some 10, none, .mov (.t 8)⟩,
 ⟨some 5, none, .mov (.t 10)⟩]
def c86r4 : List AOper := [
 ⟨some 11, none, .mov (.t 1)⟩,
 ⟨some 12, none, .mov (.t 0)⟩,
 ⟨some 13, none, .mov (.t 5)⟩,
 ⟨some 14, none, .idxA 1 (.t 12) (.t 13)⟩,
 ⟨some 15, none, .load 1 false (.t 14)⟩,
 ⟨some 16, none, .callv (.t 11) [(.t 15)]⟩]
def c86r5 : List AOper := [
 ⟨some 17, none, .mov (.t 5)⟩,
 ⟨some 4, none, .mov (.t 17)⟩]
def c86r6 : List AOper := [
 ⟨some 18, none, .arith .add (.t 8) (.c (.s (.int .i64 1)))⟩,
 ⟨some 8, none, .mov (.t 18)⟩]
def c86l7 : ACode := (.seq (.reg 0 c86r2) (.seq (.cond (.t 9) .skip (.exit 0)) (.seq (.block 1 (.seq (.reg 0 c86r3) (.seq (.reg 0 c86r4) (.cond (.t 16) (.seq (.reg 0 c86r5) .ret) .skip)))) (.reg 0 c86r6))))
def c86l7m : List Bool := [true, true, false, false, false, false, false, true, true, false, false, false, false, false, false, false, false, false, false]
def c86r8 : List AOper := [
 ⟨some 4, none, .mov (.c (.s (.int .i64 (-1))))⟩]
def f86 : FRow := ⟨(.seq (.reg 0 c86r0) (.seq (.seq (.reg 0 c86r1) (.block 0 (.loop c86l7m [] c86l7))) (.seq (.reg 0 c86r8) .ret))), [.tmp 4], 19⟩
theorem okf86 : f86.Ok Try.prog 86 := ⟨_, _, Try.func86, rfl, by kernel_rfl, by kernel_rfl, by kernel_rfl⟩

/-! 87 (*pennyfall/skill.board).wins$1, 1 and 1 -/
def c87r0 : List AOper := [
 ⟨some 3, none, .mov (.c (.s (.bool false)))⟩]
def c87r1 : List AOper := [
 ⟨some 4, none, .load 1 false (.t 1)⟩,
 ⟨some 5, none, .mov (.t 0)⟩,
 ⟨some 6, none, .callv (.t 4) [(.t 5)]⟩,
 ⟨some 7, none, .not (.t 6)⟩,
 ⟨some 3, none, .mov (.t 7)⟩]
def f87 : FRow := ⟨(.seq (.reg 0 c87r0) (.seq (.reg 0 c87r1) .ret)), [.tmp 3], 8⟩
theorem okf87 : f87.Ok Try.prog 87 := ⟨_, _, Try.func87, rfl, by kernel_rfl, by kernel_rfl, by kernel_rfl⟩

/-! 88 slices.Index[[]int,int], 2 and 0 -/
def c88r0 : List AOper := [
 ⟨some 4, none, .mov (.c (.s (.int .i64 0)))⟩]
def c88r1 : List AOper := [
 ⟨some 6, none, .mov (.t 0)⟩,
 ⟨some 7, none, .len false (.t 6)⟩,
 ⟨some 8, none, .mov (.c (.s (.int .i64 0)))⟩]
def c88r2 : List AOper := [
 ⟨some 9, none, .cmp .lss (.t 8) (.t 7)⟩]
def c88r3 : List AOper := [
 ⟨some 10, none, .mov (.t 8)⟩,
 ⟨some 5, none, .mov (.t 10)⟩]
def c88r4 : List AOper := [
 ⟨some 11, none, .mov (.t 1)⟩,
 ⟨some 12, none, .mov (.t 0)⟩,
 ⟨some 13, none, .mov (.t 5)⟩,
 ⟨some 14, none, .idxA 1 (.t 12) (.t 13)⟩,
 ⟨some 15, none, .load 1 false (.t 14)⟩,
 ⟨some 16, none, .cmp .eql (.t 11) (.t 15)⟩]
def c88r5 : List AOper := [
 ⟨some 17, none, .mov (.t 5)⟩,
 ⟨some 4, none, .mov (.t 17)⟩]
def c88r6 : List AOper := [
 ⟨some 18, none, .arith .add (.t 8) (.c (.s (.int .i64 1)))⟩,
 ⟨some 8, none, .mov (.t 18)⟩]
def c88l7 : ACode := (.seq (.reg 0 c88r2) (.seq (.cond (.t 9) .skip (.exit 0)) (.seq (.block 1 (.seq (.reg 0 c88r3) (.seq (.reg 0 c88r4) (.cond (.t 16) (.seq (.reg 0 c88r5) .ret) .skip)))) (.reg 0 c88r6))))
def c88l7m : List Bool := [true, true, false, false, false, false, false, true, true, false, false, false, false, false, false, false, false, false, false]
def c88r8 : List AOper := [
 ⟨some 4, none, .mov (.c (.s (.int .i64 (-1))))⟩]
def f88 : FRow := ⟨(.seq (.reg 0 c88r0) (.seq (.seq (.reg 0 c88r1) (.block 0 (.loop c88l7m [] c88l7))) (.seq (.reg 0 c88r8) .ret))), [.tmp 4], 19⟩
theorem okf88 : f88.Ok Try.prog 88 := ⟨_, _, Try.func88, rfl, by kernel_rfl, by kernel_rfl, by kernel_rfl⟩


end Go.Proofs.Ytglmjdpmpgphkaa.Sk

/- The code of functions in the value semantics, and that it stands for theirs. -/
namespace Go.Proofs.Ytglmjdpmpgphkaa.Sk
open Go Go.E

/-! 89 pennyfall/skill.find[int], 2 and 0 -/
def c89r0 : List AOper := [
 ⟨some 4, none, .mov (.c (.s (.int .i64 0)))⟩,
 ⟨some 5, none, .mov (.c (.s (.bool false)))⟩]
def c89r1 : List AOper := [
 ⟨some 9, none, .mov (.t 0)⟩,
 ⟨some 10, none, .len false (.t 9)⟩,
 ⟨some 11, none, .mov (.c (.s (.int .i64 0)))⟩]
def c89r2 : List AOper := [
 ⟨some 12, none, .cmp .lss (.t 11) (.t 10)⟩]
def c89r3 : List AOper := [
 ⟨some 13, none, .idxA 1 (.t 9) (.t 11)⟩,
 ⟨some 14, none, .load 1 false (.t 13)⟩,
 ⟨some 7, none, .mov (.t 14)⟩]
def c89r4 : List AOper := [
 ⟨some 15, none, .mov (.t 1)⟩,
 ⟨some 16, none, .mov (.t 7)⟩,
 ⟨some 17, none, .callv (.t 15) [(.t 16)]⟩]
def c89r5 : List AOper := [
 ⟨some 18, none, .mov (.t 7)⟩,
 ⟨some 4, none, .mov (.t 18)⟩,
 ⟨some 5, none, .mov (.c (.s (.bool true)))⟩]
def c89r6 : List AOper := [
 ⟨some 19, none, .arith .add (.t 11) (.c (.s (.int .i64 1)))⟩,
 ⟨some 11, none, .mov (.t 19)⟩]
def c89l7 : ACode := (.seq (.reg 0 c89r2) (.seq (.cond (.t 12) .skip (.exit 0)) (.seq (.block 1 (.seq (.reg 0 c89r3) (.seq (.reg 0 c89r4) (.cond (.t 17) (.seq (.reg 0 c89r5) .ret) .skip)))) (.reg 0 c89r6))))
def c89l7m : List Bool := [false, true, false, false, false, false, false, false, false, true, true, true, false, false, false, false, false, false, false, false, false]
def c89r8 : List AOper := [
 ⟨some 8, none, .mov (.c (.s (.int .i64 0)))⟩]
def c89r9 : List AOper := [
 ⟨some 20, none, .mov (.t 8)⟩,
 ⟨some 4, none, .mov (.t 20)⟩,
 ⟨some 5, none, .mov (.c (.s (.bool false)))⟩]
def f89 : FRow := ⟨(.seq (.reg 0 c89r0) (.seq (.seq (.reg 0 c89r1) (.block 0 (.loop c89l7m [] c89l7))) (.seq (.reg 0 c89r8) (.seq (.reg 0 c89r9) .ret)))), [.tmp 4, .tmp 5], 21⟩
theorem okf89 : f89.Ok Try.prog 89 := ⟨_, _, Try.func89, rfl, by kernel_rfl, by kernel_rfl, by kernel_rfl⟩

/-! 90 (*pennyfall/skill.board).way$1, 1 and 2 -/
def c90r0 : List AOper := [
 ⟨some 4, none, .mov (.c (.s (.bool false)))⟩]
def c90r1 : List AOper := [
 ⟨some 5, none, .load 1 false (.t 1)⟩,
 ⟨some 6, none, .mov (.t 0)⟩,
 ⟨some 7, none, .nilck (.t 5)⟩,
 ⟨some 8, none, .fieldAddr 3 (.t 7)⟩,
 ⟨some 9, none, .idxArrA 14 1 (.t 8) (.t 6)⟩,
 ⟨some 10, none, .load 1 false (.t 9)⟩,
 ⟨some 11, none, .load 1 false (.t 2)⟩,
 ⟨some 12, none, .cmp .eql (.t 10) (.t 11)⟩,
 ⟨some 4, none, .mov (.t 12)⟩]
def f90 : FRow := ⟨(.seq (.reg 0 c90r0) (.seq (.reg 0 c90r1) .ret)), [.tmp 4], 13⟩
theorem okf90 : f90.Ok Try.prog 90 := ⟨_, _, Try.func90, rfl, by kernel_rfl, by kernel_rfl, by kernel_rfl⟩

/-! 91 pennyfall/pennyfallref03.to, 4 and 0 -/
def c91r0 : List AOper := [
 ⟨some 4, none, .boxS (.t 0)⟩,
 ⟨some 8, none, .mov (.c (.s (.int .i64 0)))⟩]
def c91r1 : List AOper := [
 ⟨some 9, none, .mov (.c (.s (.int .i64 0)))⟩]
def c91r2 : List AOper := [
 ⟨some 10, none, .mov (.t 9)⟩,
 ⟨some 11, none, .fieldAddr 1 (.t 4)⟩,
 ⟨some 12, none, .load 1 false (.t 11)⟩,
 ⟨some 13, none, .mov (.t 1)⟩,
 ⟨some 14, none, .idxA 1 (.t 12) (.t 13)⟩,
 ⟨some 15, none, .load 1 false (.t 14)⟩,
 ⟨some 16, none, .len false (.t 15)⟩,
 ⟨some 17, none, .cmp .lss (.t 10) (.t 16)⟩]
def c91r3 : List AOper := [
 ⟨some 20, none, .mov (.t 3)⟩,
 ⟨some 21, none, .fieldAddr 1 (.t 4)⟩,
 ⟨some 22, none, .load 1 false (.t 21)⟩,
 ⟨some 23, none, .mov (.t 1)⟩,
 ⟨some 24, none, .idxA 1 (.t 22) (.t 23)⟩,
 ⟨some 25, none, .load 1 false (.t 24)⟩,
 ⟨some 26, none, .mov (.t 9)⟩,
 ⟨some 27, none, .idxA 1 (.t 25) (.t 26)⟩,
 ⟨some 28, none, .load 1 false (.t 27)⟩,
 ⟨some 29, none, .idxA 1 (.t 20) (.t 28)⟩,
 ⟨some 30, none, .load 1 false (.t 29)⟩,
 ⟨some 31, none, .mov (.t 2)⟩,
 ⟨some 32, none, .cmp .eql (.t 30) (.t 31)⟩]
def c91r4 : List AOper := [
 ⟨some 33, none, .fieldAddr 1 (.t 4)⟩,
 ⟨some 34, none, .load 1 false (.t 33)⟩,
 ⟨some 35, none, .mov (.t 1)⟩,
 ⟨some 36, none, .idxA 1 (.t 34) (.t 35)⟩,
 ⟨some 37, none, .load 1 false (.t 36)⟩,
 ⟨some 38, none, .mov (.t 9)⟩,
 ⟨some 39, none, .idxA 1 (.t 37) (.t 38)⟩,
 ⟨some 40, none, .load 1 false (.t 39)⟩,
 ⟨some 8, none, .mov (.t 40)⟩]
def c91r5 : List AOper := [
 ⟨some 18, none, .mov (.t 9)⟩,
 ⟨some 19, none, .arith .add (.t 18) (.c (.s (.int .i64 1)))⟩,
 ⟨some 9, none, .mov (.t 19)⟩]
def c91l6 : ACode := (.seq (.seq (.reg 0 c91r2) (.cond (.t 17) .skip (.exit 0))) (.seq (.block 1 (.seq (.reg 0 c91r3) (.cond (.t 32) (.seq (.reg 0 c91r4) .ret) .skip))) (.reg 0 c91r5)))
def c91l6m : List Bool := [false, true, true, true, true, false, false, false, false, true, false, false, false, false, false, false, false, false, false, false, false, false, false, false, false, false, false, false, false, false, false, false, false, false, false, false, false, false, false, false, false]
def c91r7 : List AOper := [
 ⟨some 8, none, .mov (.c (.s (.int .i64 (-1))))⟩]
def f91 : FRow := ⟨(.seq (.reg 0 c91r0) (.seq (.seq (.reg 0 c91r1) (.block 0 (.loop c91l6m [] c91l6))) (.seq (.reg 0 c91r7) .ret))), [.tmp 8], 41⟩
theorem okf91 : f91.Ok Try.prog 91 := ⟨_, _, Try.func91, rfl, by kernel_rfl, by kernel_rfl, by kernel_rfl⟩

/-! 92 slices.IndexFunc[[]int,int], 2 and 0 -/
def c92r0 : List AOper := [
 ⟨some 4, none, .mov (.c (.s (.int .i64 0)))⟩]
def c92r1 : List AOper := [
 ⟨some 6, none, .mov (.t 0)⟩,
 ⟨some 7, none, .len false (.t 6)⟩,
 ⟨some 8, none, .mov (.c (.s (.int .i64 0)))⟩]
def c92r2 : List AOper := [
 ⟨some 9, none, .cmp .lss (.t 8) (.t 7)⟩]
def c92r3 : List AOper := [
 ⟨some 10, none, .mov (.t 8)⟩,
 ⟨some 5, none, .mov (.t 10)⟩]
def c92r4 : List AOper := [
 ⟨some 11, none, .mov (.t 1)⟩,
 ⟨some 12, none, .mov (.t 0)⟩,
 ⟨some 13, none, .mov (.t 5)⟩,
 ⟨some 14, none, .idxA 1 (.t 12) (.t 13)⟩,
 ⟨some 15, none, .load 1 false (.t 14)⟩,
 ⟨some 16, none, .callv (.t 11) [(.t 15)]⟩]
def c92r5 : List AOper := [
 ⟨some 17, none, .mov (.t 5)⟩,
 ⟨some 4, none, .mov (.t 17)⟩]
def c92r6 : List AOper := [
 ⟨some 18, none, .arith .add (.t 8) (.c (.s (.int .i64 1)))⟩,
 ⟨some 8, none, .mov (.t 18)⟩]
def c92l7 : ACode := (.seq (.reg 0 c92r2) (.seq (.cond (.t 9) .skip (.exit 0)) (.seq (.block 1 (.seq (.reg 0 c92r3) (.seq (.reg 0 c92r4) (.cond (.t 16) (.seq (.reg 0 c92r5) .ret) .skip)))) (.reg 0 c92r6))))
def c92l7m : List Bool := [true, true, false, false, false, false, false, true, true, false, false, false, false, false, false, false, false, false, false]
def c92r8 : List AOper := [
 ⟨some 4, none, .mov (.c (.s (.int .i64 (-1))))⟩]
def f92 : FRow := ⟨(.seq (.reg 0 c92r0) (.seq (.seq (.reg 0 c92r1) (.block 0 (.loop c92l7m [] c92l7))) (.seq (.reg 0 c92r8) .ret))), [.tmp 4], 19⟩
theorem okf92 : f92.Ok Try.prog 92 := ⟨_, _, Try.func92, rfl, by kernel_rfl, by kernel_rfl, by kernel_rfl⟩

/-! 93 (*pennyfall/skill.board).cost, 3 and 0 -/
def c93r0 : List AOper := [
 ⟨some 6, none, .mov (.c (.s (.int .i64 0)))⟩]
def c93r1 : List AOper := [
 ⟨some 8, none, .mov (.t 0)⟩,
 ⟨some 9, none, .nilck (.t 8)⟩,
 ⟨some 10, none, .fieldAddr 0 (.t 9)⟩,
 ⟨some 11, none, .fieldAddr 1 (.t 10)⟩,
 ⟨some 12, none, .load 1 false (.t 11)⟩,
 ⟨some 13, none, .mov (.t 1)⟩,
 ⟨some 14, none, .idxA 1 (.t 12) (.t 13)⟩,
 ⟨some 15, none, .load 1 false (.t 14)⟩,
 ⟨some 16, none, .mov (.t 2)⟩,
 ⟨some 17, none, .call 100 [(.t 15), (.t 16)]⟩,
 ⟨some 7, none, .mov (.t 17)⟩]
def c93r2 : List AOper := [
 ⟨some 19, none, .mov (.t 7)⟩,
 ⟨some 20, none, .cmp .eql (.t 19) (.c (.s (.int .i64 0)))⟩,
 ⟨some 18, none, .mov (.t 20)⟩]
def c93r3 : List AOper := [
 ⟨some 6, none, .mov (.c (.s (.int .i64 (-1))))⟩]
def c93r4 : List AOper := [
 ⟨some 22, none, .mov (.t 0)⟩,
 ⟨some 23, none, .nilck (.t 22)⟩,
 ⟨some 24, none, .fieldAddr 0 (.t 23)⟩,
 ⟨some 25, none, .fieldAddr 0 (.t 24)⟩,
 ⟨some 26, none, .load 1 false (.t 25)⟩,
 ⟨some 27, none, .mov (.t 1)⟩,
 ⟨some 28, none, .idxA 1 (.t 26) (.t 27)⟩,
 ⟨some 29, none, .load 1 false (.t 28)⟩,
 ⟨some 21, none, .mov (.t 29)⟩]
def c93r5 : List AOper := [
 ⟨some 6, none, .mov (.c (.s (.int .i64 0)))⟩]
def c93r6 : List AOper := [
 ⟨some 30, none, .mov (.t 0)⟩,
 ⟨some 31, none, .nilck (.t 30)⟩,
 ⟨some 32, none, .fieldAddr 0 (.t 31)⟩,
 ⟨some 33, none, .fieldAddr 1 (.t 32)⟩,
 ⟨some 34, none, .load 1 false (.t 33)⟩,
 ⟨some 35, none, .mov (.t 1)⟩,
 ⟨some 36, none, .idxA 1 (.t 34) (.t 35)⟩,
 ⟨some 37, none, .load 1 false (.t 36)⟩,
 ⟨some 38, none, .len false (.t 37)⟩,
 ⟨some 39, none, .mov (.t 7)⟩,
 ⟨some 40, none, .arith .sub (.t 38) (.t 39)⟩,
 ⟨some 6, none, .mov (.t 40)⟩]
def f93 : FRow := ⟨(.seq (.reg 0 c93r0) (.seq (.reg 0 c93r1) (.seq (.block 0 (.seq (.reg 0 c93r2) (.cond (.t 18) (.seq (.reg 0 c93r3) .ret) (.seq (.reg 0 c93r4) (.cond (.t 21) (.seq (.reg 0 c93r5) .ret) .skip))))) (.seq (.reg 0 c93r6) .ret)))), [.tmp 6], 41⟩
theorem okf93 : f93.Ok Try.prog 93 := ⟨_, _, Try.func93, rfl, by kernel_rfl, by kernel_rfl, by kernel_rfl⟩

/-! 94 slices.SortFunc[[][2]int,[2]int], 2 and 0 -/
def c94r0 : List AOper := [
 ⟨some 5, none, .mov (.t 0)⟩,
 ⟨some 6, none, .len false (.t 5)⟩,
 ⟨some 4, none, .mov (.t 6)⟩]
def c94r1 : List AOper := [
 ⟨some 7, none, .mov (.t 0)⟩,
 ⟨some 8, none, .mov (.t 4)⟩,
 ⟨some 9, none, .mov (.t 4)⟩,
 ⟨some 10, none, .conv .u64 (.t 9)⟩,
 ⟨some 11, none, .call 102 [(.t 10)]⟩,
 ⟨some 12, none, .mov (.t 1)⟩,
 ⟨some 13, none, .callI 101 [(.t 7), (.c (.s (.int .i64 0))), (.t 8), (.t 11), (.t 12)]⟩]
def f94 : FRow := ⟨(.seq (.reg 0 c94r0) (.reg 0 c94r1)), [], 14⟩
theorem okf94 : f94.Ok Try.prog 94 := ⟨_, _, Try.func94, rfl, by kernel_rfl, by kernel_rfl, by kernel_rfl⟩

/-! 95 (*pennyfall/skill.board).fewest$1, 2 and 0 -/
def c95r0 : List AOper := [
 ⟨some 2, none, .boxS (.t 0)⟩,
 ⟨some 3, none, .boxS (.t 1)⟩,
 ⟨some 4, none, .mov (.c (.s (.int .i64 0)))⟩]
def c95r1 : List AOper := [
 ⟨some 5, none, .sliceArr 2 1 (.t 2) none none⟩,
 ⟨some 6, none, .sliceArr 2 1 (.t 3) none none⟩,
 ⟨some 7, none, .call 96 [(.t 5), (.t 6)]⟩,
 ⟨some 4, none, .mov (.t 7)⟩]
def f95 : FRow := ⟨(.seq (.reg 0 c95r0) (.seq (.reg 0 c95r1) .ret)), [.tmp 4], 8⟩
theorem okf95 : f95.Ok Try.prog 95 := ⟨_, _, Try.func95, rfl, by kernel_rfl, by kernel_rfl, by kernel_rfl⟩

/-! 96 slices.Compare[[]int,int], 2 and 0 -/
def c96r0 : List AOper := [
 ⟨some 4, none, .mov (.c (.s (.int .i64 0)))⟩]
def c96r1 : List AOper := [
 ⟨some 9, none, .mov (.t 0)⟩,
 ⟨some 10, none, .len false (.t 9)⟩,
 ⟨some 11, none, .mov (.c (.s (.int .i64 0)))⟩]
def c96r2 : List AOper := [
 ⟨some 12, none, .cmp .lss (.t 11) (.t 10)⟩]
def c96r3 : List AOper := [
 ⟨some 13, none, .mov (.t 11)⟩,
 ⟨some 14, none, .idxA 1 (.t 9) (.t 11)⟩,
 ⟨some 15, none, .load 1 false (.t 14)⟩,
 ⟨some 5, none, .mov (.t 13)⟩,
 ⟨some 6, none, .mov (.t 15)⟩]
def c96r4 : List AOper := [
 ⟨some 16, none, .mov (.t 5)⟩,
 ⟨some 17, none, .mov (.t 1)⟩,
 ⟨some 18, none, .len false (.t 17)⟩,
 ⟨some 19, none, .cmp .geq (.t 16) (.t 18)⟩]
def c96r5 : List AOper := [
 ⟨some 4, none, .mov (.c (.s (.int .i64 1)))⟩]
def c96r6 : List AOper := [
 ⟨some 20, none, .mov (.t 1)⟩,
 ⟨some 21, none, .mov (.t 5)⟩,
 ⟨some 22, none, .idxA 1 (.t 20) (.t 21)⟩,
 ⟨some 23, none, .load 1 false (.t 22)⟩,
 ⟨some 7, none, .mov (.t 23)⟩]
def c96r7 : List AOper := [
 ⟨some 24, none, .mov (.t 6)⟩,
 ⟨some 25, none, .mov (.t 7)⟩,
 ⟨some 26, none, .call 103 [(.t 24), (.t 25)]⟩,
 ⟨some 8, none, .mov (.t 26)⟩]
def c96r8 : List AOper := [
 ⟨some 27, none, .mov (.t 8)⟩,
 ⟨some 28, none, .cmp .neq (.t 27) (.c (.s (.int .i64 0)))⟩]
def c96r9 : List AOper := [
 ⟨some 29, none, .mov (.t 8)⟩,
 ⟨some 4, none, .mov (.t 29)⟩]
def c96r10 : List AOper := [
 ⟨some 30, none, .arith .add (.t 11) (.c (.s (.int .i64 1)))⟩,
 ⟨some 11, none, .mov (.t 30)⟩]
def c96l11 : ACode := (.seq (.reg 0 c96r2) (.seq (.cond (.t 12) .skip (.exit 0)) (.seq (.block 1 (.seq (.reg 0 c96r3) (.seq (.seq (.reg 0 c96r4) (.cond (.t 19) (.seq (.reg 0 c96r5) .ret) .skip)) (.seq (.reg 0 c96r6) (.seq (.reg 0 c96r7) (.seq (.reg 0 c96r8) (.cond (.t 28) (.seq (.reg 0 c96r9) .ret) .skip))))))) (.reg 0 c96r10))))
def c96l11m : List Bool := [true, true, false, false, false, false, false, false, false, true, true, true, false, false, false, false, false, false, false, false, false, false, false, false, false, false, false, false, false, false, false, false, false, false, false, false]
def c96r12 : List AOper := [
 ⟨some 31, none, .mov (.t 0)⟩,
 ⟨some 32, none, .len false (.t 31)⟩,
 ⟨some 33, none, .mov (.t 1)⟩,
 ⟨some 34, none, .len false (.t 33)⟩,
 ⟨some 35, none, .cmp .lss (.t 32) (.t 34)⟩]
def c96r13 : List AOper := [
 ⟨some 4, none, .mov (.c (.s (.int .i64 (-1))))⟩]
def c96r14 : List AOper := [
 ⟨some 4, none, .mov (.c (.s (.int .i64 0)))⟩]
def f96 : FRow := ⟨(.seq (.reg 0 c96r0) (.seq (.seq (.reg 0 c96r1) (.block 0 (.loop c96l11m [] c96l11))) (.seq (.seq (.reg 0 c96r12) (.cond (.t 35) (.seq (.reg 0 c96r13) .ret) .skip)) (.seq (.reg 0 c96r14) .ret)))), [.tmp 4], 36⟩
theorem okf96 : f96.Ok Try.prog 96 := ⟨_, _, Try.func96, rfl, by kernel_rfl, by kernel_rfl, by kernel_rfl⟩

/-! 97 (*pennyfall/skill.board).answers, 1 and 0 -/
def c97r0 : List AOper := [
 ⟨some 1, none, .boxS (.t 0)⟩,
 ⟨some 2, none, .mov (.c .any)⟩]
def c97r1 : List AOper := [
 ⟨some 3, none, .mkfn 104 [] [(.t 1)]⟩,
 ⟨some 2, none, .mov (.t 3)⟩]
def f97 : FRow := ⟨(.seq (.reg 0 c97r0) (.seq (.reg 0 c97r1) .ret)), [.tmp 2], 4⟩
theorem okf97 : f97.Ok Try.prog 97 := ⟨_, _, Try.func97, rfl, by kernel_rfl, by kernel_rfl, by kernel_rfl⟩

/-! 98 (*pennyfall/skill.board).without$1, 1 and 1 -/
def c98r0 : List AOper := [
 ⟨some 3, none, .mov (.c (.s (.bool false)))⟩]
def c98r1 : List AOper := [
 ⟨some 4, none, .mov (.t 0)⟩,
 ⟨some 5, none, .fieldAddr 1 (.t 1)⟩,
 ⟨some 6, none, .load 1 false (.t 5)⟩,
 ⟨some 7, none, .cmp .eql (.t 4) (.t 6)⟩,
 ⟨some 3, none, .mov (.t 7)⟩]
def f98 : FRow := ⟨(.seq (.reg 0 c98r0) (.seq (.reg 0 c98r1) .ret)), [.tmp 3], 8⟩
theorem okf98 : f98.Ok Try.prog 98 := ⟨_, _, Try.func98, rfl, by kernel_rfl, by kernel_rfl, by kernel_rfl⟩

/-! 99 pennyfall/skill.newBoard$1, 1 and 1 -/
def c99r0 : List AOper := [
 ⟨some 3, none, .mov (.c (.s (.bool false)))⟩]
def c99r1 : List AOper := [
 ⟨some 4, none, .mov (.t 0)⟩,
 ⟨some 5, none, .idxArrA 14 1 (.t 1) (.t 4)⟩,
 ⟨some 6, none, .load 1 false (.t 5)⟩,
 ⟨some 7, none, .cmp .geq (.t 6) (.c (.s (.int .i64 0)))⟩,
 ⟨some 3, none, .mov (.t 7)⟩]
def f99 : FRow := ⟨(.seq (.reg 0 c99r0) (.seq (.reg 0 c99r1) .ret)), [.tmp 3], 8⟩
theorem okf99 : f99.Ok Try.prog 99 := ⟨_, _, Try.func99, rfl, by kernel_rfl, by kernel_rfl, by kernel_rfl⟩

/-! 100 pennyfall/skill.marks, 2 and 0 -/
def c100r0 : List AOper := [
 ⟨some 4, none, .mov (.c (.s (.int .i64 0)))⟩]
def c100r1 : List AOper := [
 ⟨some 10, none, .mov (.t 0)⟩,
 ⟨some 11, none, .len false (.t 10)⟩,
 ⟨some 12, none, .mkslice 1 8 [(.int .i64 0)] (.t 11) (.t 11)⟩,
 ⟨some 5, none, .mov (.t 12)⟩]
def c100r2 : List AOper := [
 ⟨some 13, none, .mov (.t 5)⟩,
 ⟨none, none, .clear 1 [(.int .i64 0)] (.t 13)⟩]
def c100r3 : List AOper := [
 ⟨some 14, none, .mov (.t 1)⟩,
 ⟨some 15, none, .mkfn 105 [(.t 14)] []⟩,
 ⟨some 6, none, .mov (.t 15)⟩]
def c100r4 : List AOper := [
 ⟨some 7, none, .mov (.c (.s (.int .i64 0)))⟩]
def c100r5 : List AOper := [
 ⟨some 16, none, .mov (.t 0)⟩,
 ⟨some 17, none, .len false (.t 16)⟩,
 ⟨some 18, none, .mov (.c (.s (.int .i64 0)))⟩]
def c100r6 : List AOper := [
 ⟨some 19, none, .cmp .lss (.t 18) (.t 17)⟩]
def c100r7 : List AOper := [
 ⟨some 20, none, .mov (.t 18)⟩,
 ⟨some 21, none, .idxA 1 (.t 16) (.t 18)⟩,
 ⟨some 22, none, .load 1 false (.t 21)⟩,
 ⟨some 8, none, .mov (.t 20)⟩,
 ⟨some 9, none, .mov (.t 22)⟩]
def c100r8 : List AOper := [
 ⟨some 23, none, .mov (.t 6)⟩,
 ⟨some 24, none, .mov (.t 9)⟩,
 ⟨some 25, none, .callv (.t 23) [(.t 24)]⟩]
def c100r9 : List AOper := [
 ⟨some 26, none, .mov (.t 5)⟩,
 ⟨some 27, none, .mov (.t 8)⟩,
 ⟨some 28, none, .idxA 1 (.t 26) (.t 27)⟩,
 ⟨some 29, none, .load 1 false (.t 28)⟩,
 ⟨some 30, none, .arith .add (.t 29) (.c (.s (.int .i64 1)))⟩,
 ⟨some 31, none, .idxA 1 (.t 26) (.t 27)⟩,
 ⟨none, none, .store 1 (.t 31) (.t 30)⟩]
def c100r10 : List AOper := [
 ⟨some 32, none, .mov (.t 7)⟩,
 ⟨some 33, none, .mov (.t 5)⟩,
 ⟨some 34, none, .mov (.t 8)⟩,
 ⟨some 35, none, .idxA 1 (.t 33) (.t 34)⟩,
 ⟨some 36, none, .load 1 false (.t 35)⟩,
 ⟨some 37, none, .arith .add (.t 32) (.t 36)⟩,
 ⟨some 7, none, .mov (.t 37)⟩]
def c100r11 : List AOper := [
 ⟨some 38, none, .arith .add (.t 18) (.c (.s (.int .i64 1)))⟩,
 ⟨some 18, none, .mov (.t 38)⟩]
def c100l12 : ACode := (.seq (.reg 0 c100r6) (.seq (.cond (.t 19) .skip (.exit 0)) (.seq (.block 1 (.seq (.reg 0 c100r7) (.seq (.seq (.reg 0 c100r8) (.cond (.t 25) (.reg 0 c100r9) .skip)) (.reg 0 c100r10)))) (.reg 0 c100r11))))
def c100l12m : List Bool := [false, false, false, false, false, true, true, true, false, false, false, false, false, false, false, false, true, true, true, false, false, false, false, false, false, false, false, false, false, false, false, false, false, false, false, false, false, false, false, false]
def c100r13 : List AOper := [
 ⟨some 39, none, .mov (.t 7)⟩,
 ⟨some 4, none, .mov (.t 39)⟩]
def f100 : FRow := ⟨(.seq (.reg 0 c100r0) (.seq (.reg 1 c100r1) (.seq (.reg 0 c100r2) (.seq (.reg 0 c100r3) (.seq (.reg 0 c100r4) (.seq (.seq (.reg 0 c100r5) (.block 0 (.loop c100l12m [] c100l12))) (.seq (.reg 0 c100r13) .ret))))))), [.tmp 4], 40⟩
theorem okf100 : f100.Ok Try.prog 100 := ⟨_, _, Try.func100, rfl, by kernel_rfl, by kernel_rfl, by kernel_rfl⟩

/-! 101 slices.pdqsortCmpFunc[[2]int], 5 and 0 -/
def c101r0 : List AOper := [
 ⟨some 10, none, .mov (.c (.s (.bool true)))⟩]
def c101r1 : List AOper := [
 ⟨some 11, none, .mov (.c (.s (.bool true)))⟩]
def c101r2 : List AOper := [
 ⟨some 21, none, .mov (.t 2)⟩,
 ⟨some 22, none, .mov (.t 1)⟩,
 ⟨some 23, none, .arith .sub (.t 21) (.t 22)⟩,
 ⟨some 12, none, .mov (.t 23)⟩]
def c101r3 : List AOper := [
 ⟨some 24, none, .mov (.t 12)⟩,
 ⟨some 25, none, .cmp .leq (.t 24) (.c (.s (.int .i64 12)))⟩]
def c101r4 : List AOper := [
 ⟨some 26, none, .mov (.t 0)⟩,
 ⟨some 27, none, .mov (.t 1)⟩,
 ⟨some 28, none, .mov (.t 2)⟩,
 ⟨some 29, none, .mov (.t 4)⟩,
 ⟨some 30, none, .callI 106 [(.t 26), (.t 27), (.t 28), (.t 29)]⟩]
def c101r5 : List AOper := [
 ⟨some 31, none, .mov (.t 3)⟩,
 ⟨some 32, none, .cmp .eql (.t 31) (.c (.s (.int .i64 0)))⟩]
def c101r6 : List AOper := [
 ⟨some 33, none, .mov (.t 0)⟩,
 ⟨some 34, none, .mov (.t 1)⟩,
 ⟨some 35, none, .mov (.t 2)⟩,
 ⟨some 36, none, .mov (.t 4)⟩,
 ⟨some 37, none, .callI 107 [(.t 33), (.t 34), (.t 35), (.t 36)]⟩]
def c101r7 : List AOper := [
 ⟨some 38, none, .mov (.t 10)⟩,
 ⟨some 39, none, .not (.t 38)⟩]
def c101r8 : List AOper := [
 ⟨some 40, none, .mov (.t 0)⟩,
 ⟨some 41, none, .mov (.t 1)⟩,
 ⟨some 42, none, .mov (.t 2)⟩,
 ⟨some 43, none, .mov (.t 4)⟩,
 ⟨some 44, none, .callI 108 [(.t 40), (.t 41), (.t 42), (.t 43)]⟩]
def c101r9 : List AOper := [
 ⟨some 45, none, .mov (.t 3)⟩,
 ⟨some 46, none, .arith .sub (.t 45) (.c (.s (.int .i64 1)))⟩,
 ⟨some 3, none, .mov (.t 46)⟩]
def c101r10 : List AOper := [
 ⟨some 48, none, .mov (.t 0)⟩,
 ⟨some 49, none, .mov (.t 1)⟩,
 ⟨some 50, none, .mov (.t 2)⟩,
 ⟨some 51, none, .mov (.t 4)⟩,
 ⟨some 52, none, .callI 109 [(.t 48), (.t 49), (.t 50), (.t 51)]⟩,
 ⟨some 47, none, .mov (.t 52)⟩,
 ⟨some 53, none, .ext (.t 47) 0⟩,
 ⟨some 54, none, .ext (.t 47) 1⟩,
 ⟨some 13, none, .mov (.t 53)⟩,
 ⟨some 14, none, .mov (.t 54)⟩]
def c101r11 : List AOper := [
 ⟨some 55, none, .mov (.t 14)⟩,
 ⟨some 56, none, .cmp .eql (.t 55) (.c (.s (.int .i64 2)))⟩]
def c101r12 : List AOper := [
 ⟨some 57, none, .mov (.t 0)⟩,
 ⟨some 58, none, .mov (.t 1)⟩,
 ⟨some 59, none, .mov (.t 2)⟩,
 ⟨some 60, none, .mov (.t 4)⟩,
 ⟨some 61, none, .callI 110 [(.t 57), (.t 58), (.t 59), (.t 60)]⟩]
def c101r13 : List AOper := [
 ⟨some 62, none, .mov (.t 2)⟩,
 ⟨some 63, none, .arith .sub (.t 62) (.c (.s (.int .i64 1)))⟩,
 ⟨some 64, none, .mov (.t 13)⟩,
 ⟨some 65, none, .mov (.t 1)⟩,
 ⟨some 66, none, .arith .sub (.t 64) (.t 65)⟩,
 ⟨some 67, none, .arith .sub (.t 63) (.t 66)⟩,
 ⟨some 13, none, .mov (.t 67)⟩]
def c101r14 : List AOper := [
 ⟨some 14, none, .mov (.c (.s (.int .i64 1)))⟩]
def c101r15 : List AOper := [
 ⟨some 68, none, .mov (.t 10)⟩,
 ⟨some 69, none, .mov (.t 68)⟩,
 ⟨some 70, some (69, true), .mov (.t 11)⟩,
 ⟨some 71, none, .pick (.t 69) (.t 70) (.c (.s (.bool false)))⟩,
 ⟨some 72, none, .mov (.t 71)⟩,
 ⟨some 73, some (72, true), .mov (.t 14)⟩,
 ⟨some 74, some (72, true), .cmp .eql (.t 73) (.c (.s (.int .i64 1)))⟩,
 ⟨some 75, none, .pick (.t 72) (.t 74) (.c (.s (.bool false)))⟩]
def c101r16 : List AOper := [
 ⟨some 76, none, .mov (.t 0)⟩,
 ⟨some 77, none, .mov (.t 1)⟩,
 ⟨some 78, none, .mov (.t 2)⟩,
 ⟨some 79, none, .mov (.t 4)⟩,
 ⟨some 80, none, .callI 111 [(.t 76), (.t 77), (.t 78), (.t 79)]⟩]
def c101r17 : List AOper := [
 ⟨some 81, none, .mov (.t 1)⟩,
 ⟨some 82, none, .cmp .gtr (.t 81) (.c (.s (.int .i64 0)))⟩,
 ⟨some 83, none, .mov (.t 82)⟩,
 ⟨some 84, some (83, true), .mov (.t 4)⟩,
 ⟨some 85, some (83, true), .mov (.t 0)⟩,
 ⟨some 86, some (83, true), .mov (.t 1)⟩,
 ⟨some 87, some (83, true), .arith .sub (.t 86) (.c (.s (.int .i64 1)))⟩,
 ⟨some 88, some (83, true), .idxA 2 (.t 85) (.t 87)⟩,
 ⟨some 89, some (83, true), .load 2 true (.t 88)⟩,
 ⟨some 90, some (83, true), .mov (.t 0)⟩,
 ⟨some 91, some (83, true), .mov (.t 13)⟩,
 ⟨some 92, some (83, true), .idxA 2 (.t 90) (.t 91)⟩,
 ⟨some 93, some (83, true), .load 2 true (.t 92)⟩,
 ⟨some 94, some (83, true), .callv (.t 84) [(.t 89), (.t 93)]⟩,
 ⟨some 95, some (83, true), .cmp .lss (.t 94) (.c (.s (.int .i64 0)))⟩,
 ⟨some 96, some (83, true), .not (.t 95)⟩,
 ⟨some 97, none, .pick (.t 83) (.t 96) (.c (.s (.bool false)))⟩]
def c101r18 : List AOper := [
 ⟨some 98, none, .mov (.t 0)⟩,
 ⟨some 99, none, .mov (.t 1)⟩,
 ⟨some 100, none, .mov (.t 2)⟩,
 ⟨some 101, none, .mov (.t 13)⟩,
 ⟨some 102, none, .mov (.t 4)⟩,
 ⟨some 103, none, .callI 112 [(.t 98), (.t 99), (.t 100), (.t 101), (.t 102)]⟩,
 ⟨some 15, none, .mov (.t 103)⟩]
def c101r19 : List AOper := [
 ⟨some 104, none, .mov (.t 15)⟩,
 ⟨some 1, none, .mov (.t 104)⟩]
def c101r20 : List AOper := [
 ⟨some 106, none, .mov (.t 0)⟩,
 ⟨some 107, none, .mov (.t 1)⟩,
 ⟨some 108, none, .mov (.t 2)⟩,
 ⟨some 109, none, .mov (.t 13)⟩,
 ⟨some 110, none, .mov (.t 4)⟩,
 ⟨some 111, none, .callI 113 [(.t 106), (.t 107), (.t 108), (.t 109), (.t 110)]⟩,
 ⟨some 105, none, .mov (.t 111)⟩,
 ⟨some 112, none, .ext (.t 105) 0⟩,
 ⟨some 113, none, .ext (.t 105) 1⟩,
 ⟨some 16, none, .mov (.t 112)⟩,
 ⟨some 17, none, .mov (.t 113)⟩]
def c101r21 : List AOper := [
 ⟨some 114, none, .mov (.t 17)⟩,
 ⟨some 11, none, .mov (.t 114)⟩]
def c101r22 : List AOper := [
 ⟨some 115, none, .mov (.t 16)⟩,
 ⟨some 116, none, .mov (.t 1)⟩,
 ⟨some 117, none, .arith .sub (.t 115) (.t 116)⟩,
 ⟨some 118, none, .mov (.t 2)⟩,
 ⟨some 119, none, .mov (.t 16)⟩,
 ⟨some 120, none, .arith .sub (.t 118) (.t 119)⟩,
 ⟨some 18, none, .mov (.t 117)⟩,
 ⟨some 19, none, .mov (.t 120)⟩]
def c101r23 : List AOper := [
 ⟨some 121, none, .mov (.t 12)⟩,
 ⟨some 122, none, .div .quo (.t 121) (.c (.s (.int .i64 8)))⟩,
 ⟨some 20, none, .mov (.t 122)⟩]
def c101r24 : List AOper := [
 ⟨some 123, none, .mov (.t 18)⟩,
 ⟨some 124, none, .mov (.t 19)⟩,
 ⟨some 125, none, .cmp .lss (.t 123) (.t 124)⟩]
def c101r25 : List AOper := [
 ⟨some 126, none, .mov (.t 18)⟩,
 ⟨some 127, none, .mov (.t 20)⟩,
 ⟨some 128, none, .cmp .geq (.t 126) (.t 127)⟩,
 ⟨some 10, none, .mov (.t 128)⟩]
def c101r26 : List AOper := [
 ⟨some 129, none, .mov (.t 0)⟩,
 ⟨some 130, none, .mov (.t 1)⟩,
 ⟨some 131, none, .mov (.t 16)⟩,
 ⟨some 132, none, .mov (.t 3)⟩,
 ⟨some 133, none, .mov (.t 4)⟩,
 ⟨some 134, none, .callI 101 [(.t 129), (.t 130), (.t 131), (.t 132), (.t 133)]⟩]
def c101r27 : List AOper := [
 ⟨some 135, none, .mov (.t 16)⟩,
 ⟨some 136, none, .arith .add (.t 135) (.c (.s (.int .i64 1)))⟩,
 ⟨some 1, none, .mov (.t 136)⟩]
def c101r28 : List AOper := [
 ⟨some 137, none, .mov (.t 19)⟩,
 ⟨some 138, none, .mov (.t 20)⟩,
 ⟨some 139, none, .cmp .geq (.t 137) (.t 138)⟩,
 ⟨some 10, none, .mov (.t 139)⟩]
def c101r29 : List AOper := [
 ⟨some 140, none, .mov (.t 0)⟩,
 ⟨some 141, none, .mov (.t 16)⟩,
 ⟨some 142, none, .arith .add (.t 141) (.c (.s (.int .i64 1)))⟩,
 ⟨some 143, none, .mov (.t 2)⟩,
 ⟨some 144, none, .mov (.t 3)⟩,
 ⟨some 145, none, .mov (.t 4)⟩,
 ⟨some 146, none, .callI 101 [(.t 140), (.t 142), (.t 143), (.t 144), (.t 145)]⟩]
def c101r30 : List AOper := [
 ⟨some 147, none, .mov (.t 16)⟩,
 ⟨some 2, none, .mov (.t 147)⟩]
def c101l31 : ACode := (.block 1 (.seq (.reg 0 c101r2) (.seq (.seq (.reg 0 c101r3) (.cond (.t 25) (.seq (.reg 0 c101r4) .ret) .skip)) (.seq (.seq (.reg 0 c101r5) (.cond (.t 32) (.seq (.reg 0 c101r6) .ret) .skip)) (.seq (.seq (.reg 0 c101r7) (.cond (.t 39) (.seq (.reg 0 c101r8) (.reg 0 c101r9)) .skip)) (.seq (.reg 0 c101r10) (.seq (.seq (.reg 0 c101r11) (.cond (.t 56) (.seq (.reg 0 c101r12) (.seq (.reg 0 c101r13) (.reg 0 c101r14))) .skip)) (.seq (.seq (.reg 0 c101r15) (.cond (.t 75) (.seq (.reg 0 c101r16) (.cond (.t 80) .ret .skip)) .skip)) (.seq (.seq (.reg 0 c101r17) (.cond (.t 97) (.seq (.reg 0 c101r18) (.seq (.reg 0 c101r19) (.exit 1))) .skip)) (.seq (.reg 0 c101r20) (.seq (.reg 0 c101r21) (.seq (.reg 0 c101r22) (.seq (.reg 0 c101r23) (.seq (.reg 0 c101r24) (.cond (.t 125) (.seq (.reg 0 c101r25) (.seq (.reg 0 c101r26) (.reg 0 c101r27))) (.seq (.reg 0 c101r28) (.seq (.reg 0 c101r29) (.reg 0 c101r30))))))))))))))))))
def c101l31m : List Bool := [true, true, true, true, true, false, false, false, false, false, true, true, false, false, false, false, false, false, false, false, false, false, false, false, false, false, false, false, false, false, false, false, false, false, false, false, false, false, false, false, false, false, false, false, false, false, false, false, false, false, false, false, false, false, false, false, false, false, false, false, false, false, false, false, false, false, false, false, false, false, false, false, false, false, false, false, false, false, false, false, false, false, false, false, false, false, false, false, false, false, false, false, false, false, false, false, false, false, false, false, false, false, false, false, false, false, false, false, false, false, false, false, false, false, false, false, false, false, false, false, false, false, false, false, false, false, false, false, false, false, false, false, false, false, false, false, false, false, false, false, false, false, false, false, false, false, false, false]
def f101 : FRow := ⟨(.seq (.reg 0 c101r0) (.seq (.reg 0 c101r1) (.block 0 (.loop c101l31m [] c101l31)))), [], 148⟩
theorem okf101 : f101.Ok Try.prog 101 := ⟨_, _, Try.func101, rfl, by kernel_rfl, by kernel_rfl, by kernel_rfl⟩

/-! 102 math/bits.Len, 1 and 0 -/
def c102r0 : List AOper := [
 ⟨some 2, none, .mov (.c (.s (.int .i64 0)))⟩]
def c102r1 : List AOper := [
 ⟨some 3, none, .mov (.t 0)⟩,
 ⟨some 4, none, .conv .u32 (.t 3)⟩,
 ⟨some 5, none, .call 114 [(.t 4)]⟩,
 ⟨some 2, none, .mov (.t 5)⟩]
def c102r2 : List AOper := [
 ⟨some 6, none, .mov (.t 0)⟩,
 ⟨some 7, none, .call 115 [(.t 6)]⟩,
 ⟨some 2, none, .mov (.t 7)⟩]
def f102 : FRow := ⟨(.seq (.reg 0 c102r0) (.seq (.cond (.c (.s (.bool false))) (.seq (.reg 0 c102r1) .ret) .skip) (.seq (.reg 0 c102r2) .ret))), [.tmp 2], 8⟩
theorem okf102 : f102.Ok Try.prog 102 := ⟨_, _, Try.func102, rfl, by kernel_rfl, by kernel_rfl, by kernel_rfl⟩

/-! 103 cmp.Compare[int], 2 and 0 -/
def c103r0 : List AOper := [
 ⟨some 4, none, .mov (.c (.s (.int .i64 0)))⟩]
def c103r1 : List AOper := [
 ⟨some 7, none, .mov (.t 0)⟩,
 ⟨some 8, none, .call 116 [(.t 7)]⟩,
 ⟨some 5, none, .mov (.t 8)⟩]
def c103r2 : List AOper := [
 ⟨some 9, none, .mov (.t 1)⟩,
 ⟨some 10, none, .call 116 [(.t 9)]⟩,
 ⟨some 6, none, .mov (.t 10)⟩]
def c103r3 : List AOper := [
 ⟨some 11, none, .mov (.t 5)⟩]
def c103r4 : List AOper := [
 ⟨some 12, none, .mov (.t 6)⟩]
def c103r5 : List AOper := [
 ⟨some 4, none, .mov (.c (.s (.int .i64 0)))⟩]
def c103r6 : List AOper := [
 ⟨some 4, none, .mov (.c (.s (.int .i64 (-1))))⟩]
def c103r7 : List AOper := [
 ⟨some 13, none, .mov (.t 6)⟩]
def c103r8 : List AOper := [
 ⟨some 4, none, .mov (.c (.s (.int .i64 1)))⟩]
def c103r9 : List AOper := [
 ⟨some 14, none, .mov (.t 0)⟩,
 ⟨some 15, none, .mov (.t 1)⟩,
 ⟨some 16, none, .cmp .lss (.t 14) (.t 15)⟩]
def c103r10 : List AOper := [
 ⟨some 4, none, .mov (.c (.s (.int .i64 (-1))))⟩]
def c103r11 : List AOper := [
 ⟨some 17, none, .mov (.t 0)⟩,
 ⟨some 18, none, .mov (.t 1)⟩,
 ⟨some 19, none, .cmp .gtr (.t 17) (.t 18)⟩]
def c103r12 : List AOper := [
 ⟨some 4, none, .mov (.c (.s (.int .i64 1)))⟩]
def c103r13 : List AOper := [
 ⟨some 4, none, .mov (.c (.s (.int .i64 0)))⟩]
def f103 : FRow := ⟨(.seq (.reg 0 c103r0) (.seq (.reg 0 c103r1) (.seq (.reg 0 c103r2) (.seq (.seq (.reg 0 c103r3) (.cond (.t 11) (.seq (.seq (.reg 0 c103r4) (.cond (.t 12) (.seq (.reg 0 c103r5) .ret) .skip)) (.seq (.reg 0 c103r6) .ret)) .skip)) (.seq (.seq (.reg 0 c103r7) (.cond (.t 13) (.seq (.reg 0 c103r8) .ret) .skip)) (.seq (.seq (.reg 0 c103r9) (.cond (.t 16) (.seq (.reg 0 c103r10) .ret) .skip)) (.seq (.seq (.reg 0 c103r11) (.cond (.t 19) (.seq (.reg 0 c103r12) .ret) .skip)) (.seq (.reg 0 c103r13) .ret)))))))), [.tmp 4], 20⟩
theorem okf103 : f103.Ok Try.prog 103 := ⟨_, _, Try.func103, rfl, by kernel_rfl, by kernel_rfl, by kernel_rfl⟩

/-! 104 (*pennyfall/skill.board).answers$1, 1 and 1 -/
def c104r0 : List AOper := [
 ⟨some 7, none, .load 1 false (.t 1)⟩,
 ⟨some 8, none, .nilck (.t 7)⟩,
 ⟨some 9, none, .fieldAddr 0 (.t 8)⟩,
 ⟨some 10, none, .fieldAddr 1 (.t 9)⟩,
 ⟨some 11, none, .load 1 false (.t 10)⟩,
 ⟨some 12, none, .len false (.t 11)⟩,
 ⟨some 13, none, .mov (.c (.s (.int .i64 0)))⟩]
def c104r1 : List AOper := [
 ⟨some 14, none, .cmp .lss (.t 13) (.t 12)⟩]
def c104r2 : List AOper := [
 ⟨some 15, none, .mov (.t 13)⟩,
 ⟨some 16, none, .idxA 1 (.t 11) (.t 13)⟩,
 ⟨some 17, none, .load 1 false (.t 16)⟩,
 ⟨some 3, none, .mov (.t 15)⟩,
 ⟨some 4, none, .mov (.t 17)⟩]
def c104r3 : List AOper := [
 ⟨some 18, none, .mov (.t 4)⟩,
 ⟨some 19, none, .len false (.t 18)⟩,
 ⟨some 20, none, .mov (.c (.s (.int .i64 0)))⟩]
def c104r4 : List AOper := [
 ⟨some 21, none, .cmp .lss (.t 20) (.t 19)⟩]
def c104r5 : List AOper := [
 ⟨some 22, none, .idxA 1 (.t 18) (.t 20)⟩,
 ⟨some 23, none, .load 1 false (.t 22)⟩,
 ⟨some 6, none, .mov (.t 23)⟩]
def c104r6 : List AOper := [
 ⟨some 24, none, .load 1 false (.t 1)⟩,
 ⟨some 25, none, .nilck (.t 24)⟩,
 ⟨some 26, none, .fieldAddr 0 (.t 25)⟩,
 ⟨some 27, none, .fieldAddr 0 (.t 26)⟩,
 ⟨some 28, none, .load 1 false (.t 27)⟩,
 ⟨some 29, none, .mov (.t 3)⟩,
 ⟨some 30, none, .idxA 1 (.t 28) (.t 29)⟩,
 ⟨some 31, none, .load 1 false (.t 30)⟩,
 ⟨some 32, none, .not (.t 31)⟩,
 ⟨some 33, none, .mov (.t 32)⟩,
 ⟨some 34, some (33, true), .load 1 false (.t 1)⟩,
 ⟨some 35, some (33, true), .nilck (.t 34)⟩,
 ⟨some 36, some (33, true), .fieldAddr 0 (.t 35)⟩,
 ⟨some 37, some (33, true), .fieldAddr 2 (.t 36)⟩,
 ⟨some 38, some (33, true), .load 1 false (.t 37)⟩,
 ⟨some 39, some (33, true), .mov (.t 3)⟩,
 ⟨some 40, some (33, true), .idxA 1 (.t 38) (.t 39)⟩,
 ⟨some 41, some (33, true), .load 1 false (.t 40)⟩,
 ⟨some 42, some (33, true), .not (.t 41)⟩,
 ⟨some 43, none, .pick (.t 33) (.t 42) (.c (.s (.bool false)))⟩,
 ⟨some 44, none, .mov (.t 43)⟩,
 ⟨some 45, some (44, true), .mov (.t 0)⟩,
 ⟨some 46, some (44, true), .mov (.t 3)⟩,
 ⟨some 47, some (44, true), .mov (.t 6)⟩,
 ⟨some 48, some (44, true), .build [(.s (.int .i64 0)), (.s (.int .i64 0))] [(0, 1, (.t 46)), (1, 1, (.t 47))]⟩,
 ⟨some 49, some (44, true), .callv (.t 45) [(.t 48)]⟩,
 ⟨some 50, some (44, true), .not (.t 49)⟩,
 ⟨some 51, none, .pick (.t 44) (.t 50) (.c (.s (.bool false)))⟩]
def c104r7 : List AOper := [
 ⟨some 52, none, .arith .add (.t 20) (.c (.s (.int .i64 1)))⟩,
 ⟨some 20, none, .mov (.t 52)⟩]
def c104l8 : ACode := (.seq (.reg 0 c104r4) (.seq (.cond (.t 21) .skip (.exit 2)) (.seq (.block 3 (.seq (.reg 0 c104r5) (.seq (.reg 0 c104r6) (.cond (.t 51) .ret .skip)))) (.reg 0 c104r7))))
def c104l8m : List Bool := [true, true, false, true, false, false, false, false, false, false, false, true, true, true, false, false, false, false, true, true, true, false, false, false, false, false, false, false, false, false, false, false, false, false, false, false, false, false, false, false, false, false, false, false, false, false, false, false, false, false, false, false, false, false]
def c104r9 : List AOper := [
 ⟨some 53, none, .arith .add (.t 13) (.c (.s (.int .i64 1)))⟩,
 ⟨some 13, none, .mov (.t 53)⟩]
def c104l10 : ACode := (.seq (.reg 0 c104r1) (.seq (.cond (.t 14) .skip (.exit 0)) (.seq (.block 1 (.seq (.reg 0 c104r2) (.seq (.reg 0 c104r3) (.block 2 (.loop c104l8m [] c104l8))))) (.reg 0 c104r9))))
def c104l10m : List Bool := [true, true, false, false, false, false, false, false, false, false, false, true, true, true, false, false, false, false, false, false, false, false, false, false, false, false, false, false, false, false, false, false, false, false, false, false, false, false, false, false, false, false, false, false, false, false, false, false, false, false, false, false, false, false]
def f104 : FRow := ⟨(.seq (.reg 0 c104r0) (.block 0 (.loop c104l10m [] c104l10))), [], 54⟩
theorem okf104 : f104.Ok Try.prog 104 := ⟨_, _, Try.func104, rfl, by kernel_rfl, by kernel_rfl, by kernel_rfl⟩

/-! 105 (pennyfall/skill.bits).has, 2 and 0 -/
def c105r0 : List AOper := [
 ⟨some 4, none, .mov (.c (.s (.bool false)))⟩]
def c105r1 : List AOper := [
 ⟨some 5, none, .mov (.t 0)⟩,
 ⟨some 6, none, .mov (.t 1)⟩,
 ⟨some 7, none, .shift .shr (.t 5) (.t 6)⟩,
 ⟨some 8, none, .bits .and (.t 7) (.c (.s (.int .i64 1)))⟩,
 ⟨some 9, none, .cmp .eql (.t 8) (.c (.s (.int .i64 1)))⟩,
 ⟨some 4, none, .mov (.t 9)⟩]
def f105 : FRow := ⟨(.seq (.reg 0 c105r0) (.seq (.reg 0 c105r1) .ret)), [.tmp 4], 10⟩
theorem okf105 : f105.Ok Try.prog 105 := ⟨_, _, Try.func105, rfl, by kernel_rfl, by kernel_rfl, by kernel_rfl⟩

/-! 106 slices.insertionSortCmpFunc[[2]int], 4 and 0 -/
def c106r0 : List AOper := [
 ⟨some 10, none, .mov (.t 1)⟩,
 ⟨some 11, none, .arith .add (.t 10) (.c (.s (.int .i64 1)))⟩,
 ⟨some 8, none, .mov (.t 11)⟩]
def c106r1 : List AOper := [
 ⟨some 12, none, .mov (.t 8)⟩,
 ⟨some 13, none, .mov (.t 2)⟩,
 ⟨some 14, none, .cmp .lss (.t 12) (.t 13)⟩]
def c106r2 : List AOper := [
 ⟨some 17, none, .mov (.t 8)⟩,
 ⟨some 9, none, .mov (.t 17)⟩]
def c106r3 : List AOper := [
 ⟨some 18, none, .mov (.t 9)⟩,
 ⟨some 19, none, .mov (.t 1)⟩,
 ⟨some 20, none, .cmp .gtr (.t 18) (.t 19)⟩,
 ⟨some 21, none, .mov (.t 20)⟩,
 ⟨some 22, some (21, true), .mov (.t 3)⟩,
 ⟨some 23, some (21, true), .mov (.t 0)⟩,
 ⟨some 24, some (21, true), .mov (.t 9)⟩,
 ⟨some 25, some (21, true), .idxA 2 (.t 23) (.t 24)⟩,
 ⟨some 26, some (21, true), .load 2 true (.t 25)⟩,
 ⟨some 27, some (21, true), .mov (.t 0)⟩,
 ⟨some 28, some (21, true), .mov (.t 9)⟩,
 ⟨some 29, some (21, true), .arith .sub (.t 28) (.c (.s (.int .i64 1)))⟩,
 ⟨some 30, some (21, true), .idxA 2 (.t 27) (.t 29)⟩,
 ⟨some 31, some (21, true), .load 2 true (.t 30)⟩,
 ⟨some 32, some (21, true), .callv (.t 22) [(.t 26), (.t 31)]⟩,
 ⟨some 33, some (21, true), .cmp .lss (.t 32) (.c (.s (.int .i64 0)))⟩,
 ⟨some 34, none, .pick (.t 21) (.t 33) (.c (.s (.bool false)))⟩]
def c106r4 : List AOper := [
 ⟨some 37, none, .mov (.t 0)⟩,
 ⟨some 38, none, .mov (.t 9)⟩,
 ⟨some 39, none, .mov (.t 0)⟩,
 ⟨some 40, none, .mov (.t 9)⟩,
 ⟨some 41, none, .arith .sub (.t 40) (.c (.s (.int .i64 1)))⟩,
 ⟨some 42, none, .mov (.t 0)⟩,
 ⟨some 43, none, .mov (.t 9)⟩,
 ⟨some 44, none, .arith .sub (.t 43) (.c (.s (.int .i64 1)))⟩,
 ⟨some 45, none, .idxA 2 (.t 42) (.t 44)⟩,
 ⟨some 46, none, .load 2 true (.t 45)⟩,
 ⟨some 47, none, .mov (.t 0)⟩,
 ⟨some 48, none, .mov (.t 9)⟩,
 ⟨some 49, none, .idxA 2 (.t 47) (.t 48)⟩,
 ⟨some 50, none, .load 2 true (.t 49)⟩,
 ⟨some 51, none, .idxA 2 (.t 37) (.t 38)⟩,
 ⟨none, none, .store 2 (.t 51) (.t 46)⟩,
 ⟨some 52, none, .idxA 2 (.t 39) (.t 41)⟩,
 ⟨none, none, .store 2 (.t 52) (.t 50)⟩]
def c106r5 : List AOper := [
 ⟨some 35, none, .mov (.t 9)⟩,
 ⟨some 36, none, .arith .sub (.t 35) (.c (.s (.int .i64 1)))⟩,
 ⟨some 9, none, .mov (.t 36)⟩]
def c106l6 : ACode := (.seq (.seq (.reg 0 c106r3) (.cond (.t 34) .skip (.exit 2))) (.seq (.block 3 (.reg 0 c106r4)) (.reg 0 c106r5)))
def c106l6m : List Bool := [true, true, true, true, false, false, false, false, true, true, false, false, false, false, false, false, false, false, false, false, false, false, false, false, false, false, false, false, false, false, false, false, false, false, false, false, false, false, false, false, false, false, false, false, false, false, false, false, false, false, false, false, false]
def c106r7 : List AOper := [
 ⟨some 15, none, .mov (.t 8)⟩,
 ⟨some 16, none, .arith .add (.t 15) (.c (.s (.int .i64 1)))⟩,
 ⟨some 8, none, .mov (.t 16)⟩]
def c106l8 : ACode := (.seq (.seq (.reg 0 c106r1) (.cond (.t 14) .skip (.exit 0))) (.seq (.block 1 (.seq (.reg 0 c106r2) (.block 2 (.loop c106l6m [] c106l6)))) (.reg 0 c106r7)))
def c106l8m : List Bool := [true, true, true, true, false, false, false, false, true, false, false, false, false, false, false, false, false, false, false, false, false, false, false, false, false, false, false, false, false, false, false, false, false, false, false, false, false, false, false, false, false, false, false, false, false, false, false, false, false, false, false, false, false]
def f106 : FRow := ⟨(.seq (.reg 0 c106r0) (.block 0 (.loop c106l8m [] c106l8))), [], 53⟩
theorem okf106 : f106.Ok Try.prog 106 := ⟨_, _, Try.func106, rfl, by kernel_rfl, by kernel_rfl, by kernel_rfl⟩

/-! 114 math/bits.Len32, 1 and 0 -/
def c114r0 : List AOper := [
 ⟨some 2, none, .mov (.c (.s (.int .i64 0)))⟩]
def c114r1 : List AOper := [
 ⟨some 3, none, .mov (.t 0)⟩,
 ⟨some 4, none, .cmp .geq (.t 3) (.c (.s (.int .u32 65536)))⟩]
def c114r2 : List AOper := [
 ⟨some 5, none, .mov (.t 0)⟩,
 ⟨some 6, none, .shift .shr (.t 5) (.c (.s (.int .u64 16)))⟩,
 ⟨some 0, none, .mov (.t 6)⟩]
def c114r3 : List AOper := [
 ⟨some 2, none, .mov (.c (.s (.int .i64 16)))⟩]
def c114r4 : List AOper := [
 ⟨some 7, none, .mov (.t 0)⟩,
 ⟨some 8, none, .cmp .geq (.t 7) (.c (.s (.int .u32 256)))⟩]
def c114r5 : List AOper := [
 ⟨some 9, none, .mov (.t 0)⟩,
 ⟨some 10, none, .shift .shr (.t 9) (.c (.s (.int .u64 8)))⟩,
 ⟨some 0, none, .mov (.t 10)⟩]
def c114r6 : List AOper := [
 ⟨some 11, none, .mov (.t 2)⟩,
 ⟨some 12, none, .arith .add (.t 11) (.c (.s (.int .i64 8)))⟩,
 ⟨some 2, none, .mov (.t 12)⟩]
def c114r7 : List AOper := [
 ⟨some 13, none, .mov (.t 2)⟩,
 ⟨some 14, none, .mov (.t 0)⟩,
 ⟨some 15, none, .conv .u8 (.t 14)⟩,
 ⟨some 16, none, .sidx (.c (.s (.str ⟨#[0, 1, 2, 2, 3, 3, 3, 3, 4, 4, 4, 4, 4, 4, 4, 4, 5, 5, 5, 5, 5, 5, 5, 5, 5, 5, 5, 5, 5, 5, 5, 5, 6, 6, 6, 6, 6, 6, 6, 6, 6, 6, 6, 6, 6, 6, 6, 6, 6, 6, 6, 6, 6, 6, 6, 6, 6, 6, 6, 6, 6, 6, 6, 6, 7, 7, 7, 7, 7, 7, 7, 7, 7, 7, 7, 7, 7, 7, 7, 7, 7, 7, 7, 7, 7, 7, 7, 7, 7, 7, 7, 7, 7, 7, 7, 7, 7, 7, 7, 7, 7, 7, 7, 7, 7, 7, 7, 7, 7, 7, 7, 7, 7, 7, 7, 7, 7, 7, 7, 7, 7, 7, 7, 7, 7, 7, 7, 7, 8, 8, 8, 8, 8, 8, 8, 8, 8, 8, 8, 8, 8, 8, 8, 8, 8, 8, 8, 8, 8, 8, 8, 8, 8, 8, 8, 8, 8, 8, 8, 8, 8, 8, 8, 8, 8, 8, 8, 8, 8, 8, 8, 8, 8, 8, 8, 8, 8, 8, 8, 8, 8, 8, 8, 8, 8, 8, 8, 8, 8, 8, 8, 8, 8, 8, 8, 8, 8, 8, 8, 8, 8, 8, 8, 8, 8, 8, 8, 8, 8, 8, 8, 8, 8, 8, 8, 8, 8, 8, 8, 8, 8, 8, 8, 8, 8, 8, 8, 8, 8, 8, 8, 8, 8, 8, 8, 8, 8, 8, 8, 8, 8, 8, 8, 8, 8, 8, 8, 8, 8, 8, 8, 8, 8, 8, 8, 8]⟩))) (.t 15)⟩,
 ⟨some 17, none, .conv .i64 (.t 16)⟩,
 ⟨some 18, none, .arith .add (.t 13) (.t 17)⟩,
 ⟨some 2, none, .mov (.t 18)⟩]
def f114 : FRow := ⟨(.seq (.reg 0 c114r0) (.seq (.seq (.reg 0 c114r1) (.cond (.t 4) (.seq (.reg 0 c114r2) (.reg 0 c114r3)) .skip)) (.seq (.seq (.reg 0 c114r4) (.cond (.t 8) (.seq (.reg 0 c114r5) (.reg 0 c114r6)) .skip)) (.seq (.reg 0 c114r7) .ret)))), [.tmp 2], 19⟩
theorem okf114 : f114.Ok Try.prog 114 := ⟨_, _, Try.func114, rfl, by kernel_rfl, by kernel_rfl, by kernel_rfl⟩

/-! 115 math/bits.Len64, 1 and 0 -/
def c115r0 : List AOper := [
 ⟨some 2, none, .mov (.c (.s (.int .i64 0)))⟩]
def c115r1 : List AOper := [
 ⟨some 3, none, .mov (.t 0)⟩,
 ⟨some 4, none, .cmp .geq (.t 3) (.c (.s (.int .u64 4294967296)))⟩]
def c115r2 : List AOper := [
 ⟨some 5, none, .mov (.t 0)⟩,
 ⟨some 6, none, .shift .shr (.t 5) (.c (.s (.int .u64 32)))⟩,
 ⟨some 0, none, .mov (.t 6)⟩]
def c115r3 : List AOper := [
 ⟨some 2, none, .mov (.c (.s (.int .i64 32)))⟩]
def c115r4 : List AOper := [
 ⟨some 7, none, .mov (.t 0)⟩,
 ⟨some 8, none, .cmp .geq (.t 7) (.c (.s (.int .u64 65536)))⟩]
def c115r5 : List AOper := [
 ⟨some 9, none, .mov (.t 0)⟩,
 ⟨some 10, none, .shift .shr (.t 9) (.c (.s (.int .u64 16)))⟩,
 ⟨some 0, none, .mov (.t 10)⟩]
def c115r6 : List AOper := [
 ⟨some 11, none, .mov (.t 2)⟩,
 ⟨some 12, none, .arith .add (.t 11) (.c (.s (.int .i64 16)))⟩,
 ⟨some 2, none, .mov (.t 12)⟩]
def c115r7 : List AOper := [
 ⟨some 13, none, .mov (.t 0)⟩,
 ⟨some 14, none, .cmp .geq (.t 13) (.c (.s (.int .u64 256)))⟩]
def c115r8 : List AOper := [
 ⟨some 15, none, .mov (.t 0)⟩,
 ⟨some 16, none, .shift .shr (.t 15) (.c (.s (.int .u64 8)))⟩,
 ⟨some 0, none, .mov (.t 16)⟩]
def c115r9 : List AOper := [
 ⟨some 17, none, .mov (.t 2)⟩,
 ⟨some 18, none, .arith .add (.t 17) (.c (.s (.int .i64 8)))⟩,
 ⟨some 2, none, .mov (.t 18)⟩]
def c115r10 : List AOper := [
 ⟨some 19, none, .mov (.t 2)⟩,
 ⟨some 20, none, .mov (.t 0)⟩,
 ⟨some 21, none, .conv .u8 (.t 20)⟩,
 ⟨some 22, none, .sidx (.c (.s (.str ⟨#[0, 1, 2, 2, 3, 3, 3, 3, 4, 4, 4, 4, 4, 4, 4, 4, 5, 5, 5, 5, 5, 5, 5, 5, 5, 5, 5, 5, 5, 5, 5, 5, 6, 6, 6, 6, 6, 6, 6, 6, 6, 6, 6, 6, 6, 6, 6, 6, 6, 6, 6, 6, 6, 6, 6, 6, 6, 6, 6, 6, 6, 6, 6, 6, 7, 7, 7, 7, 7, 7, 7, 7, 7, 7, 7, 7, 7, 7, 7, 7, 7, 7, 7, 7, 7, 7, 7, 7, 7, 7, 7, 7, 7, 7, 7, 7, 7, 7, 7, 7, 7, 7, 7, 7, 7, 7, 7, 7, 7, 7, 7, 7, 7, 7, 7, 7, 7, 7, 7, 7, 7, 7, 7, 7, 7, 7, 7, 7, 8, 8, 8, 8, 8, 8, 8, 8, 8, 8, 8, 8, 8, 8, 8, 8, 8, 8, 8, 8, 8, 8, 8, 8, 8, 8, 8, 8, 8, 8, 8, 8, 8, 8, 8, 8, 8, 8, 8, 8, 8, 8, 8, 8, 8, 8, 8, 8, 8, 8, 8, 8, 8, 8, 8, 8, 8, 8, 8, 8, 8, 8, 8, 8, 8, 8, 8, 8, 8, 8, 8, 8, 8, 8, 8, 8, 8, 8, 8, 8, 8, 8, 8, 8, 8, 8, 8, 8, 8, 8, 8, 8, 8, 8, 8, 8, 8, 8, 8, 8, 8, 8, 8, 8, 8, 8, 8, 8, 8, 8, 8, 8, 8, 8, 8, 8, 8, 8, 8, 8, 8, 8, 8, 8, 8, 8, 8, 8]⟩))) (.t 21)⟩,
 ⟨some 23, none, .conv .i64 (.t 22)⟩,
 ⟨some 24, none, .arith .add (.t 19) (.t 23)⟩,
 ⟨some 2, none, .mov (.t 24)⟩]
def f115 : FRow := ⟨(.seq (.reg 0 c115r0) (.seq (.seq (.reg 0 c115r1) (.cond (.t 4) (.seq (.reg 0 c115r2) (.reg 0 c115r3)) .skip)) (.seq (.seq (.reg 0 c115r4) (.cond (.t 8) (.seq (.reg 0 c115r5) (.reg 0 c115r6)) .skip)) (.seq (.seq (.reg 0 c115r7) (.cond (.t 14) (.seq (.reg 0 c115r8) (.reg 0 c115r9)) .skip)) (.seq (.reg 0 c115r10) .ret))))), [.tmp 2], 25⟩
theorem okf115 : f115.Ok Try.prog 115 := ⟨_, _, Try.func115, rfl, by kernel_rfl, by kernel_rfl, by kernel_rfl⟩

/-! 116 cmp.isNaN[int], 1 and 0 -/
def c116r0 : List AOper := [
 ⟨some 2, none, .mov (.c (.s (.bool false)))⟩]
def c116r1 : List AOper := [
 ⟨some 3, none, .mov (.t 0)⟩,
 ⟨some 4, none, .mov (.t 0)⟩,
 ⟨some 5, none, .cmp .neq (.t 3) (.t 4)⟩,
 ⟨some 2, none, .mov (.t 5)⟩]
def f116 : FRow := ⟨(.seq (.reg 0 c116r0) (.seq (.reg 0 c116r1) .ret)), [.tmp 2], 6⟩
theorem okf116 : f116.Ok Try.prog 116 := ⟨_, _, Try.func116, rfl, by kernel_rfl, by kernel_rfl, by kernel_rfl⟩


end Go.Proofs.Ytglmjdpmpgphkaa.Sk

/- The code of all functions in the value semantics. -/
namespace Go.Proofs.Ytglmjdpmpgphkaa.Sk
open Go Go.E

/-- All of them. -/
def tbl : FuncId → Option FRow
  | 16 => some f16
  | 17 => some f17
  | 18 => some f18
  | 19 => some f19
  | 20 => some f20
  | 21 => some f21
  | 22 => some f22
  | 23 => some f23
  | 24 => some f24
  | 25 => some f25
  | 26 => some f26
  | 27 => some f27
  | 28 => some f28
  | 29 => some f29
  | 30 => some f30
  | 31 => some f31
  | 32 => some f32
  | 33 => some f33
  | 34 => some f34
  | 35 => some f35
  | 36 => some f36
  | 37 => some f37
  | 38 => some f38
  | 39 => some f39
  | 40 => some f40
  | 41 => some f41
  | 42 => some f42
  | 43 => some f43
  | 44 => some f44
  | 45 => some f45
  | 46 => some f46
  | 47 => some f47
  | 48 => some f48
  | 49 => some f49
  | 50 => some f50
  | 51 => some f51
  | 52 => some f52
  | 53 => some f53
  | 54 => some f54
  | 55 => some f55
  | 56 => some f56
  | 57 => some f57
  | 58 => some f58
  | 59 => some f59
  | 60 => some f60
  | 61 => some f61
  | 62 => some f62
  | 63 => some f63
  | 64 => some f64
  | 65 => some f65
  | 66 => some f66
  | 67 => some f67
  | 68 => some f68
  | 69 => some f69
  | 70 => some f70
  | 71 => some f71
  | 72 => some f72
  | 73 => some f73
  | 74 => some f74
  | 75 => some f75
  | 76 => some f76
  | 77 => some f77
  | 78 => some f78
  | 80 => some f80
  | 81 => some f81
  | 82 => some f82
  | 83 => some f83
  | 84 => some f84
  | 85 => some f85
  | 86 => some f86
  | 87 => some f87
  | 88 => some f88
  | 89 => some f89
  | 90 => some f90
  | 91 => some f91
  | 92 => some f92
  | 93 => some f93
  | 94 => some f94
  | 95 => some f95
  | 96 => some f96
  | 97 => some f97
  | 98 => some f98
  | 99 => some f99
  | 100 => some f100
  | 101 => some f101
  | 102 => some f102
  | 103 => some f103
  | 104 => some f104
  | 105 => some f105
  | 106 => some f106
  | 114 => some f114
  | 115 => some f115
  | 116 => some f116
  | _ => none

theorem tbl_ok : ∀ f r, tbl f = some r → r.Ok Try.prog f := by
  intro f r h
  unfold tbl at h
  split at h <;> first | (cases h; done) | skip
  · cases h; exact okf16
  · cases h; exact okf17
  · cases h; exact okf18
  · cases h; exact okf19
  · cases h; exact okf20
  · cases h; exact okf21
  · cases h; exact okf22
  · cases h; exact okf23
  · cases h; exact okf24
  · cases h; exact okf25
  · cases h; exact okf26
  · cases h; exact okf27
  · cases h; exact okf28
  · cases h; exact okf29
  · cases h; exact okf30
  · cases h; exact okf31
  · cases h; exact okf32
  · cases h; exact okf33
  · cases h; exact okf34
  · cases h; exact okf35
  · cases h; exact okf36
  · cases h; exact okf37
  · cases h; exact okf38
  · cases h; exact okf39
  · cases h; exact okf40
  · cases h; exact okf41
  · cases h; exact okf42
  · cases h; exact okf43
  · cases h; exact okf44
  · cases h; exact okf45
  · cases h; exact okf46
  · cases h; exact okf47
  · cases h; exact okf48
  · cases h; exact okf49
  · cases h; exact okf50
  · cases h; exact okf51
  · cases h; exact okf52
  · cases h; exact okf53
  · cases h; exact okf54
  · cases h; exact okf55
  · cases h; exact okf56
  · cases h; exact okf57
  · cases h; exact okf58
  · cases h; exact okf59
  · cases h; exact okf60
  · cases h; exact okf61
  · cases h; exact okf62
  · cases h; exact okf63
  · cases h; exact okf64
  · cases h; exact okf65
  · cases h; exact okf66
  · cases h; exact okf67
  · cases h; exact okf68
  · cases h; exact okf69
  · cases h; exact okf70
  · cases h; exact okf71
  · cases h; exact okf72
  · cases h; exact okf73
  · cases h; exact okf74
  · cases h; exact okf75
  · cases h; exact okf76
  · cases h; exact okf77
  · cases h; exact okf78
  · cases h; exact okf80
  · cases h; exact okf81
  · cases h; exact okf82
  · cases h; exact okf83
  · cases h; exact okf84
  · cases h; exact okf85
  · cases h; exact okf86
  · cases h; exact okf87
  · cases h; exact okf88
  · cases h; exact okf89
  · cases h; exact okf90
  · cases h; exact okf91
  · cases h; exact okf92
  · cases h; exact okf93
  · cases h; exact okf94
  · cases h; exact okf95
  · cases h; exact okf96
  · cases h; exact okf97
  · cases h; exact okf98
  · cases h; exact okf99
  · cases h; exact okf100
  · cases h; exact okf101
  · cases h; exact okf102
  · cases h; exact okf103
  · cases h; exact okf104
  · cases h; exact okf105
  · cases h; exact okf106
  · cases h; exact okf114
  · cases h; exact okf115
  · cases h; exact okf116

theorem tbl_fn : ∀ f, (tbl f).isSome = true → okFn Try.prog f = true := by
  intro f h
  unfold tbl at h
  split at h <;> first | (cases h; done) | kernel_rfl

def tbl2 : FuncId → Option TRow
  | 79 => some t79
  | _ => none

theorem tbl2_ok : ∀ f r, tbl2 f = some r → r.Ok Try.prog f := by
  intro f r h
  unfold tbl2 at h
  split at h <;> first | (cases h; done) | skip
  · cases h; exact okt79

end Go.Proofs.Ytglmjdpmpgphkaa.Sk

/- Contracts of functions: searching, lists that rise, valid machines. -/
namespace Go.Proofs.Ytglmjdpmpgphkaa.Sk
open Go Go.E Go.E.Sm

def ints (l : List Int) : SV := .slice (l.map (.int .i64))

theorem inR_small {n : Int} (h0 : 0 ≤ n) (h1 : n ≤ 2 ^ 63 - 1) : inR .i64 n := by
  unfold inR IntKind.wrap
  have e : n % (2 ^ IntKind.i64.bits : Int) = n := Int.emod_eq_of_lt h0 (by simp only [IntKind.bits]; omega)
  simp only [e]
  have : ¬ (n ≥ (2 ^ (IntKind.i64.bits - 1) : Int)) := by simp only [IntKind.bits]; omega
  simp [this]

theorem maxLen_le : (maxLen : Int) ≤ 2 ^ 63 - 1 := Int.le_refl _

/-- The first place from one on where it is so. -/
def idx {α : Type} (p : α → Bool) : List α → Int → Int
  | [], _ => -1
  | x :: xs, i => if p x then i else idx p xs (i + 1)

theorem idx_ge {α : Type} (p : α → Bool) : ∀ (xs : List α) (i : Nat), (0 ≤ idx p xs i) ↔ xs.any p = true
  | [], i => by simp [idx]
  | x :: xs, i => by
    simp only [idx, List.any_cons, Bool.or_eq_true]
    by_cases h : p x = true
    · simp [h]
    · have := idx_ge p xs (i + 1)
      rw [show ((i + 1 : Nat) : Int) = (i : Int) + 1 from rfl] at this
      simp [h, this]

/-- A function value that is asked of one value. -/
def Asks (g : FuncId) (first caps : List SV) (x : SV) (b : Bool) : Prop := E.Fn Try.prog g (first ++ [x] ++ caps) [.bool b]
def Ok1 (g : FuncId) (first caps : List SV) : Prop := okFn Try.prog g = true ∧ ((first.map LV.s).all LV.isOne && (caps.map LV.s).all LV.isOne) = true

theorem k92 {g : FuncId} {first caps : List SV} {xs : List Int} {p : Int → Bool} (hg : Ok1 g first caps) (hp : ∀ x ∈ xs, Asks g first caps (.int .i64 x) (p x)) : E.Fn Try.prog 92 [ints xs, .fn g first caps] [.int .i64 (idx p xs 0)] := by
  refine fn_of_row okf92 ?_
  simp only [FRow.start, f92, c92r0, c92r1, ints, go_sem, List.replicate, List.append_nil, List.cons_append, List.nil_append, List.length_cons, List.length_nil, List.map_cons, List.map_nil, List.getElem?_cons_zero, List.getElem?_cons_succ, Nat.reduceAdd, Nat.reduceSub, Nat.reduceLT, Nat.reduceLeDiff, and_true, true_and, forall_const, if_true, if_false, ↓reduceIte, Int.toNat_natCast, List.getElem?_map, Option.map_some, Option.bind_some, Bool.not_true, Bool.not_false, reduceCtorEq, List.take_nil, List.length_map, eq_self, List.all_cons, List.all_nil, Bool.and_true, Int.ofNat_lt, Bool.and_self, finK, resK, Int.natCast_nonneg, implies_true, List.take_zero, Nat.zero_add, List.drop_zero, List.drop_succ_cons, List.take_succ_cons, List.set_cons_zero, List.set_cons_succ, decide_true, decide_false, Int.le_refl, Nat.le_refl, List.flatten_cons, List.flatten_nil]
  intro hlen
  have hlen' : (xs.length : Int) ≤ 2 ^ 63 - 1 := Int.le_trans (Int.ofNat_le.mpr hlen) maxLen_le
  refine loop_rule (fun n τ => ∃ i : Nat, n = xs.length - i ∧ i ≤ xs.length ∧ idx p xs 0 = idx p (xs.drop i) i ∧
    τ = ⟨[.s (.slice (xs.map (.int .i64))), .s (.fn g first caps), .any, .any, .any, .any, .any, .s (.int .i64 xs.length), .s (.int .i64 i), .any, .any, .any, .any, .any, .any, .any, .any, .any, .any], []⟩) xs.length rfl ?_ ?_
  · simp only [c92l7m, go_sem, List.replicate, List.append_nil, List.cons_append, List.nil_append, List.length_cons, List.length_nil, List.map_cons, List.map_nil, List.getElem?_cons_zero, List.getElem?_cons_succ, Nat.reduceAdd, Nat.reduceSub, Nat.reduceLT, Nat.reduceLeDiff, and_true, true_and, forall_const, if_true, if_false, ↓reduceIte, Int.toNat_natCast, List.getElem?_map, Option.map_some, Option.bind_some, Bool.not_true, Bool.not_false, reduceCtorEq, List.take_nil, List.length_map, eq_self, List.all_cons, List.all_nil, Bool.and_true, Int.ofNat_lt, Bool.and_self, finK, resK, Int.natCast_nonneg, implies_true, List.take_zero, Nat.zero_add, List.drop_zero, List.drop_succ_cons, List.take_succ_cons, List.set_cons_zero, List.set_cons_succ, decide_true, decide_false, Int.le_refl, Nat.le_refl, List.flatten_cons, List.flatten_nil]
    exact ⟨0, rfl, Nat.zero_le _, rfl, rfl⟩
  · rintro I n τ ⟨i, rfl, hi, hidx, rfl⟩ hI
    simp only [c92l7, c92r2, c92r3, go_sem, List.replicate, List.append_nil, List.cons_append, List.nil_append, List.length_cons, List.length_nil, List.map_cons, List.map_nil, List.getElem?_cons_zero, List.getElem?_cons_succ, Nat.reduceAdd, Nat.reduceSub, Nat.reduceLT, Nat.reduceLeDiff, and_true, true_and, forall_const, if_true, if_false, ↓reduceIte, Int.toNat_natCast, List.getElem?_map, Option.map_some, Option.bind_some, Bool.not_true, Bool.not_false, reduceCtorEq, List.take_nil, List.length_map, eq_self, List.all_cons, List.all_nil, Bool.and_true, Int.ofNat_lt, Bool.and_self, finK, resK, Int.natCast_nonneg, implies_true, List.take_zero, Nat.zero_add, List.drop_zero, List.drop_succ_cons, List.take_succ_cons, List.set_cons_zero, List.set_cons_succ, decide_true, decide_false, Int.le_refl, Nat.le_refl, List.flatten_cons, List.flatten_nil]
    refine ⟨fun hlt => ?_, fun hge => ?_⟩
    · have hx : xs[i]? = some xs[i] := List.getElem?_eq_getElem hlt
      have hdrop : xs.drop i = xs[i] :: xs.drop (i + 1) := List.drop_eq_getElem_cons hlt
      simp only [c92r4, hx, go_sem, List.replicate, List.append_nil, List.cons_append, List.nil_append, List.length_cons, List.length_nil, List.map_cons, List.map_nil, List.getElem?_cons_zero, List.getElem?_cons_succ, Nat.reduceAdd, Nat.reduceSub, Nat.reduceLT, Nat.reduceLeDiff, and_true, true_and, forall_const, if_true, if_false, ↓reduceIte, Int.toNat_natCast, List.getElem?_map, Option.map_some, Option.bind_some, Bool.not_true, Bool.not_false, reduceCtorEq, List.take_nil, List.length_map, eq_self, List.all_cons, List.all_nil, Bool.and_true, Int.ofNat_lt, Bool.and_self, finK, resK, Int.natCast_nonneg, implies_true, List.take_zero, Nat.zero_add, List.drop_zero, List.drop_succ_cons, List.take_succ_cons, List.set_cons_zero, List.set_cons_succ, decide_true, decide_false, Int.le_refl, Nat.le_refl, List.flatten_cons, List.flatten_nil]
      refine ⟨hg.1, hg.2, callK_of (by simp only [go_sem, List.replicate, List.append_nil, List.cons_append, List.nil_append, List.length_cons, List.length_nil, List.map_cons, List.map_nil, List.getElem?_cons_zero, List.getElem?_cons_succ, Nat.reduceAdd, Nat.reduceSub, Nat.reduceLT, Nat.reduceLeDiff, and_true, true_and, forall_const, if_true, if_false, ↓reduceIte, Int.toNat_natCast, List.getElem?_map, Option.map_some, Option.bind_some, Bool.not_true, Bool.not_false, reduceCtorEq, List.take_nil, List.length_map, eq_self, List.all_cons, List.all_nil, Bool.and_true, Int.ofNat_lt, Bool.and_self, finK, resK, Int.natCast_nonneg, implies_true, List.take_zero, Nat.zero_add, List.drop_zero, List.drop_succ_cons, List.take_succ_cons, List.set_cons_zero, List.set_cons_succ, decide_true, decide_false, Int.le_refl, Nat.le_refl, List.flatten_cons, List.flatten_nil]) (hp _ (List.getElem_mem hlt)) (.inl rfl) ?_⟩
      simp only [go_sem, List.replicate, List.append_nil, List.cons_append, List.nil_append, List.length_cons, List.length_nil, List.map_cons, List.map_nil, List.getElem?_cons_zero, List.getElem?_cons_succ, Nat.reduceAdd, Nat.reduceSub, Nat.reduceLT, Nat.reduceLeDiff, and_true, true_and, forall_const, if_true, if_false, ↓reduceIte, Int.toNat_natCast, List.getElem?_map, Option.map_some, Option.bind_some, Bool.not_true, Bool.not_false, reduceCtorEq, List.take_nil, List.length_map, eq_self, List.all_cons, List.all_nil, Bool.and_true, Int.ofNat_lt, Bool.and_self, finK, resK, Int.natCast_nonneg, implies_true, List.take_zero, Nat.zero_add, List.drop_zero, List.drop_succ_cons, List.take_succ_cons, List.set_cons_zero, List.set_cons_succ, decide_true, decide_false, Int.le_refl, Nat.le_refl, List.flatten_cons, List.flatten_nil]
      rw [hdrop, idx] at hidx
      cases hpx : p xs[i] with
      | true =>
        simp only [hpx, if_true] at hidx
        simp only [c92r5, hpx, hidx, go_sem, List.replicate, List.append_nil, List.cons_append, List.nil_append, List.length_cons, List.length_nil, List.map_cons, List.map_nil, List.getElem?_cons_zero, List.getElem?_cons_succ, Nat.reduceAdd, Nat.reduceSub, Nat.reduceLT, Nat.reduceLeDiff, and_true, true_and, forall_const, if_true, if_false, ↓reduceIte, Int.toNat_natCast, List.getElem?_map, Option.map_some, Option.bind_some, Bool.not_true, Bool.not_false, reduceCtorEq, List.take_nil, List.length_map, eq_self, List.all_cons, List.all_nil, Bool.and_true, Int.ofNat_lt, Bool.and_self, finK, resK, Int.natCast_nonneg, implies_true, List.take_zero, Nat.zero_add, List.drop_zero, List.drop_succ_cons, List.take_succ_cons, List.set_cons_zero, List.set_cons_succ, decide_true, decide_false, Int.le_refl, Nat.le_refl, List.flatten_cons, List.flatten_nil]
      | false =>
        simp only [hpx, Bool.false_eq_true, if_false] at hidx
        simp only [c92r6, hpx, c92l7m, go_sem, List.replicate, List.append_nil, List.cons_append, List.nil_append, List.length_cons, List.length_nil, List.map_cons, List.map_nil, List.getElem?_cons_zero, List.getElem?_cons_succ, Nat.reduceAdd, Nat.reduceSub, Nat.reduceLT, Nat.reduceLeDiff, and_true, true_and, forall_const, if_true, if_false, ↓reduceIte, Int.toNat_natCast, List.getElem?_map, Option.map_some, Option.bind_some, Bool.not_true, Bool.not_false, reduceCtorEq, List.take_nil, List.length_map, eq_self, List.all_cons, List.all_nil, Bool.and_true, Int.ofNat_lt, Bool.and_self, finK, resK, Int.natCast_nonneg, implies_true, List.take_zero, Nat.zero_add, List.drop_zero, List.drop_succ_cons, List.take_succ_cons, List.set_cons_zero, List.set_cons_succ, decide_true, decide_false, Int.le_refl, Nat.le_refl, List.flatten_cons, List.flatten_nil]
        refine ⟨inR_small (n := ((i : Int) + 1)) (by omega) (by omega), hI (xs.length - (i + 1)) _ (by omega) ⟨i + 1, rfl, by omega, by rw [hidx]; simp, by simp⟩⟩
    · have hie : i = xs.length := by omega
      subst hie
      simp only [List.drop_length, idx] at hidx
      simp only [c92r8, hidx, go_sem, List.replicate, List.append_nil, List.cons_append, List.nil_append, List.length_cons, List.length_nil, List.map_cons, List.map_nil, List.getElem?_cons_zero, List.getElem?_cons_succ, Nat.reduceAdd, Nat.reduceSub, Nat.reduceLT, Nat.reduceLeDiff, and_true, true_and, forall_const, if_true, if_false, ↓reduceIte, Int.toNat_natCast, List.getElem?_map, Option.map_some, Option.bind_some, Bool.not_true, Bool.not_false, reduceCtorEq, List.take_nil, List.length_map, eq_self, List.all_cons, List.all_nil, Bool.and_true, Int.ofNat_lt, Bool.and_self, finK, resK, Int.natCast_nonneg, implies_true, List.take_zero, Nat.zero_add, List.drop_zero, List.drop_succ_cons, List.take_succ_cons, List.set_cons_zero, List.set_cons_succ, decide_true, decide_false, Int.le_refl, Nat.le_refl, List.flatten_cons, List.flatten_nil]

end Go.Proofs.Ytglmjdpmpgphkaa.Sk

/- The iterator over answers. -/
namespace Go.Proofs.Ytglmjdpmpgphkaa.Sk
open Go Go.E Go.E.Sm

set_option maxRecDepth 10000
def bools (l : List Bool) : SV := .slice (l.map .bool)
/-- The cells of a board. -/
def bd (pl : List Bool) (mv : List (List Int)) (wn : List Bool) (far : List SV) : List SV := bools pl :: .slice (mv.map ints) :: bools wn :: far
def mach (pl : List Bool) (mv : List (List Int)) (wn : List Bool) : SV := .agg [bools pl, .slice (mv.map ints), bools wn]

def stepv (i : Nat) (k : Int) : SV := .agg [.int .i64 i, .int .i64 k]
def ansAt (i : Nat) (p w : Bool) (l : List Int) : List SV := if p then [] else if w then [] else l.map (stepv i)
def ansFrom : Nat → List Bool → List (List Int) → List Bool → List SV
  | i, p :: ps, l :: ls, w :: ws => ansAt i p w l ++ ansFrom (i + 1) ps ls ws
  | _, _, _, _ => []

theorem ansFrom_flat : ∀ (i : Nat) (ps : List Bool) (ls : List (List Int)) (ws : List Bool), ∀ v ∈ ansFrom i ps ls ws, v.flat = true
  | i, p :: ps, l :: ls, w :: ws => by
    intro v hv
    simp only [ansFrom, List.mem_append] at hv
    rcases hv with hv | hv
    · unfold ansAt at hv
      split at hv
      · cases hv
      · split at hv
        · cases hv
        · obtain ⟨k, _, rfl⟩ := List.mem_map.1 hv
          rfl
    · exact ansFrom_flat _ _ _ _ v hv
  | _, [], _, _ => by intro v hv; simp [ansFrom] at hv
  | _, _ :: _, [], _ => by intro v hv; simp [ansFrom] at hv
  | _, _ :: _, _ :: _, [] => by intro v hv; simp [ansFrom] at hv

theorem k104 {pl wn : List Bool} {mv : List (List Int)} {far : List SV} (hpl : pl.length = mv.length) (hwn : wn.length = mv.length) :
    E.Yields Try.prog 104 [.ptr [.ptr (bd pl mv wn far)]] (ansFrom 0 pl mv wn) := by
  refine yields_of_row (nt := 54) Try.func104 rfl (by kernel_rfl) (by kernel_rfl) (by kernel_rfl) (by kernel_rfl) (ansFrom_flat _ _ _ _) (ac := f104.code) fun l => ?_
  simp only [f104, c104r0, bd, go_sem, List.replicate, List.append_nil, List.cons_append, List.nil_append, List.length_cons, List.length_nil, List.map_cons, List.map_nil, List.getElem?_cons_zero, List.getElem?_cons_succ, Nat.reduceAdd, Nat.reduceSub, Nat.reduceLT, Nat.reduceLeDiff, and_true, true_and, forall_const, if_true, if_false, ↓reduceIte, Int.toNat_natCast, List.getElem?_map, Option.map_some, Option.bind_some, Bool.not_true, Bool.not_false, reduceCtorEq, List.take_nil, List.length_map, eq_self, List.all_cons, List.all_nil, Bool.and_true, Int.ofNat_lt, Bool.and_self, finK, resK, Int.natCast_nonneg, implies_true, List.take_zero, Nat.zero_add, List.drop_zero, List.drop_succ_cons, List.take_succ_cons, List.set_cons_zero, List.set_cons_succ, decide_true, decide_false, Int.le_refl, Nat.le_refl, List.flatten_cons, List.flatten_nil]
  intro hlen
  have hlen' : (mv.length : Int) ≤ 2 ^ 63 - 1 := Int.le_trans (Int.ofNat_le.mpr hlen) maxLen_le
  refine ywp_loop (fun n fr rest => ∃ i : Nat, n = mv.length - i ∧ i ≤ mv.length ∧ rest = some (ansFrom i (pl.drop i) (mv.drop i) (wn.drop i)) ∧
    fr = [.yl l, .s (.ptr [.ptr (bd pl mv wn far)]), .any, .any, .any, .any, .any, .any, .any, .any, .any, .s (.slice (mv.map ints)), .s (.int .i64 mv.length), .s (.int .i64 i), .any, .any, .any, .any, .any, .any, .any, .any, .any, .any, .any, .any, .any, .any, .any, .any, .any, .any, .any, .any, .any, .any, .any, .any, .any, .any, .any, .any, .any, .any, .any, .any, .any, .any, .any, .any, .any, .any, .any, .any]) mv.length ?_ ?_
  · simp only [c104l10m, go_sem, List.replicate, List.append_nil, List.cons_append, List.nil_append, List.length_cons, List.length_nil, List.map_cons, List.map_nil, List.getElem?_cons_zero, List.getElem?_cons_succ, Nat.reduceAdd, Nat.reduceSub, Nat.reduceLT, Nat.reduceLeDiff, and_true, true_and, forall_const, if_true, if_false, ↓reduceIte, Int.toNat_natCast, List.getElem?_map, Option.map_some, Option.bind_some, Bool.not_true, Bool.not_false, reduceCtorEq, List.take_nil, List.length_map, eq_self, List.all_cons, List.all_nil, Bool.and_true, Int.ofNat_lt, Bool.and_self, finK, resK, Int.natCast_nonneg, implies_true, List.take_zero, Nat.zero_add, List.drop_zero, List.drop_succ_cons, List.take_succ_cons, List.set_cons_zero, List.set_cons_succ, decide_true, decide_false, Int.le_refl, Nat.le_refl, List.flatten_cons, List.flatten_nil]
    exact ⟨0, rfl, Nat.zero_le _, rfl, rfl⟩
  · rintro I n fr rest ⟨i, rfl, hi, rfl, rfl⟩ hI
    simp only [c104l10, c104r1, go_sem, List.replicate, List.append_nil, List.cons_append, List.nil_append, List.length_cons, List.length_nil, List.map_cons, List.map_nil, List.getElem?_cons_zero, List.getElem?_cons_succ, Nat.reduceAdd, Nat.reduceSub, Nat.reduceLT, Nat.reduceLeDiff, and_true, true_and, forall_const, if_true, if_false, ↓reduceIte, Int.toNat_natCast, List.getElem?_map, Option.map_some, Option.bind_some, Bool.not_true, Bool.not_false, reduceCtorEq, List.take_nil, List.length_map, eq_self, List.all_cons, List.all_nil, Bool.and_true, Int.ofNat_lt, Bool.and_self, finK, resK, Int.natCast_nonneg, implies_true, List.take_zero, Nat.zero_add, List.drop_zero, List.drop_succ_cons, List.take_succ_cons, List.set_cons_zero, List.set_cons_succ, decide_true, decide_false, Int.le_refl, Nat.le_refl, List.flatten_cons, List.flatten_nil]
    refine ⟨fun hlt => ?_, fun hge => ?_⟩
    · have hx : mv[i]? = some mv[i] := List.getElem?_eq_getElem hlt
      have hp : pl[i]? = some pl[i] := List.getElem?_eq_getElem (by omega)
      have hw : wn[i]? = some wn[i] := List.getElem?_eq_getElem (by omega)
      have hdrop : mv.drop i = mv[i] :: mv.drop (i + 1) := List.drop_eq_getElem_cons hlt
      have hdp : pl.drop i = pl[i] :: pl.drop (i + 1) := List.drop_eq_getElem_cons (by omega)
      have hdw : wn.drop i = wn[i] :: wn.drop (i + 1) := List.drop_eq_getElem_cons (by omega)
      rw [hdrop, hdp, hdw, ansFrom]
      generalize mv[i] = m at *
      generalize pl[i] = p at *
      generalize wn[i] = w at *
      simp only [c104r2, c104r3, hx, ints, go_sem, List.replicate, List.append_nil, List.cons_append, List.nil_append, List.length_cons, List.length_nil, List.map_cons, List.map_nil, List.getElem?_cons_zero, List.getElem?_cons_succ, Nat.reduceAdd, Nat.reduceSub, Nat.reduceLT, Nat.reduceLeDiff, and_true, true_and, forall_const, if_true, if_false, ↓reduceIte, Int.toNat_natCast, List.getElem?_map, Option.map_some, Option.bind_some, Bool.not_true, Bool.not_false, reduceCtorEq, List.take_nil, List.length_map, eq_self, List.all_cons, List.all_nil, Bool.and_true, Int.ofNat_lt, Bool.and_self, finK, resK, Int.natCast_nonneg, implies_true, List.take_zero, Nat.zero_add, List.drop_zero, List.drop_succ_cons, List.take_succ_cons, List.set_cons_zero, List.set_cons_succ, decide_true, decide_false, Int.le_refl, Nat.le_refl, List.flatten_cons, List.flatten_nil]
      intro hml
      have hml' : (m.length : Int) ≤ 2 ^ 63 - 1 := Int.le_trans (Int.ofNat_le.mpr hml) maxLen_le
      refine ywp_loop (fun n fr rest => ∃ j : Nat, n = m.length - j ∧ j ≤ m.length ∧ rest = some (ansAt i p w (m.drop j) ++ ansFrom (i + 1) (List.drop (i + 1) pl) (List.drop (i + 1) mv) (List.drop (i + 1) wn)) ∧
        fr = [.yl l, .s (.ptr [.ptr (bd pl mv wn far)]), .any, .s (.int .i64 i), .any, .any, .any, .any, .any, .any, .any, .s (.slice (mv.map ints)), .s (.int .i64 mv.length), .s (.int .i64 i), .any, .any, .any, .any, .s (.slice (m.map (.int .i64))), .s (.int .i64 m.length), .s (.int .i64 j), .any, .any, .any, .any, .any, .any, .any, .any, .any, .any, .any, .any, .any, .any, .any, .any, .any, .any, .any, .any, .any, .any, .any, .any, .any, .any, .any, .any, .any, .any, .any, .any, .any]) m.length ?_ ?_
      · simp only [c104l8m, go_sem, List.replicate, List.append_nil, List.cons_append, List.nil_append, List.length_cons, List.length_nil, List.map_cons, List.map_nil, List.getElem?_cons_zero, List.getElem?_cons_succ, Nat.reduceAdd, Nat.reduceSub, Nat.reduceLT, Nat.reduceLeDiff, and_true, true_and, forall_const, if_true, if_false, ↓reduceIte, Int.toNat_natCast, List.getElem?_map, Option.map_some, Option.bind_some, Bool.not_true, Bool.not_false, reduceCtorEq, List.take_nil, List.length_map, eq_self, List.all_cons, List.all_nil, Bool.and_true, Int.ofNat_lt, Bool.and_self, finK, resK, Int.natCast_nonneg, implies_true, List.take_zero, Nat.zero_add, List.drop_zero, List.drop_succ_cons, List.take_succ_cons, List.set_cons_zero, List.set_cons_succ, decide_true, decide_false, Int.le_refl, Nat.le_refl, List.flatten_cons, List.flatten_nil]
        exact ⟨0, rfl, Nat.zero_le _, rfl, rfl⟩
      · rintro I2 n fr rest ⟨j, rfl, hj, rfl, rfl⟩ hI2
        simp only [c104l8, c104r4, go_sem, List.replicate, List.append_nil, List.cons_append, List.nil_append, List.length_cons, List.length_nil, List.map_cons, List.map_nil, List.getElem?_cons_zero, List.getElem?_cons_succ, Nat.reduceAdd, Nat.reduceSub, Nat.reduceLT, Nat.reduceLeDiff, and_true, true_and, forall_const, if_true, if_false, ↓reduceIte, Int.toNat_natCast, List.getElem?_map, Option.map_some, Option.bind_some, Bool.not_true, Bool.not_false, reduceCtorEq, List.take_nil, List.length_map, eq_self, List.all_cons, List.all_nil, Bool.and_true, Int.ofNat_lt, Bool.and_self, finK, resK, Int.natCast_nonneg, implies_true, List.take_zero, Nat.zero_add, List.drop_zero, List.drop_succ_cons, List.take_succ_cons, List.set_cons_zero, List.set_cons_succ, decide_true, decide_false, Int.le_refl, Nat.le_refl, List.flatten_cons, List.flatten_nil]
        refine ⟨fun hlt2 => ?_, fun hge2 => ?_⟩
        · have hy : m[j]? = some m[j] := List.getElem?_eq_getElem hlt2
          have hdm : m.drop j = m[j] :: m.drop (j + 1) := List.drop_eq_getElem_cons hlt2
          rw [hdm]
          generalize m[j] = k at *
          cases p with
          | true =>
            simp only [c104r5, c104r6, hy, hp, bd, bools, c104r7, c104l8m, go_sem, List.replicate, List.append_nil, List.cons_append, List.nil_append, List.length_cons, List.length_nil, List.map_cons, List.map_nil, List.getElem?_cons_zero, List.getElem?_cons_succ, Nat.reduceAdd, Nat.reduceSub, Nat.reduceLT, Nat.reduceLeDiff, and_true, true_and, forall_const, if_true, if_false, ↓reduceIte, Int.toNat_natCast, List.getElem?_map, Option.map_some, Option.bind_some, Bool.not_true, Bool.not_false, reduceCtorEq, List.take_nil, List.length_map, eq_self, List.all_cons, List.all_nil, Bool.and_true, Int.ofNat_lt, Bool.and_self, finK, resK, Int.natCast_nonneg, implies_true, List.take_zero, Nat.zero_add, List.drop_zero, List.drop_succ_cons, List.take_succ_cons, List.set_cons_zero, List.set_cons_succ, decide_true, decide_false, Int.le_refl, Nat.le_refl, List.flatten_cons, List.flatten_nil]
            exact ⟨inR_small (by omega) (by omega), hI2 (m.length - (j + 1)) _ _ (by omega) ⟨j + 1, rfl, by omega, by simp [ansAt], rfl⟩⟩
          | false => cases w with
            | true =>
              simp only [c104r5, c104r6, hy, hp, hw, bd, bools, c104r7, c104l8m, go_sem, List.replicate, List.append_nil, List.cons_append, List.nil_append, List.length_cons, List.length_nil, List.map_cons, List.map_nil, List.getElem?_cons_zero, List.getElem?_cons_succ, Nat.reduceAdd, Nat.reduceSub, Nat.reduceLT, Nat.reduceLeDiff, and_true, true_and, forall_const, if_true, if_false, ↓reduceIte, Int.toNat_natCast, List.getElem?_map, Option.map_some, Option.bind_some, Bool.not_true, Bool.not_false, reduceCtorEq, List.take_nil, List.length_map, eq_self, List.all_cons, List.all_nil, Bool.and_true, Int.ofNat_lt, Bool.and_self, finK, resK, Int.natCast_nonneg, implies_true, List.take_zero, Nat.zero_add, List.drop_zero, List.drop_succ_cons, List.take_succ_cons, List.set_cons_zero, List.set_cons_succ, decide_true, decide_false, Int.le_refl, Nat.le_refl, List.flatten_cons, List.flatten_nil]
              exact ⟨inR_small (by omega) (by omega), hI2 (m.length - (j + 1)) _ _ (by omega) ⟨j + 1, rfl, by omega, by simp [ansAt], rfl⟩⟩
            | false =>
              simp only [c104r5, c104r6, hy, hp, hw, bd, bools, c104r7, c104l8m, ansAt, Bool.false_eq_true, stepv, go_sem, List.replicate, List.append_nil, List.cons_append, List.nil_append, List.length_cons, List.length_nil, List.map_cons, List.map_nil, List.getElem?_cons_zero, List.getElem?_cons_succ, Nat.reduceAdd, Nat.reduceSub, Nat.reduceLT, Nat.reduceLeDiff, and_true, true_and, forall_const, if_true, if_false, ↓reduceIte, Int.toNat_natCast, List.getElem?_map, Option.map_some, Option.bind_some, Bool.not_true, Bool.not_false, reduceCtorEq, List.take_nil, List.length_map, eq_self, List.all_cons, List.all_nil, Bool.and_true, Int.ofNat_lt, Bool.and_self, finK, resK, Int.natCast_nonneg, implies_true, List.take_zero, Nat.zero_add, List.drop_zero, List.drop_succ_cons, List.take_succ_cons, List.set_cons_zero, List.set_cons_succ, decide_true, decide_false, Int.le_refl, Nat.le_refl, List.flatten_cons, List.flatten_nil]
              exact ⟨⟨inR_small (by omega) (by omega), hI2 (m.length - (j + 1)) _ _ (by omega) ⟨j + 1, rfl, by omega, by simp [ansAt], rfl⟩⟩, .inr rfl⟩
        · have hje : j = m.length := by omega
          subst hje
          have he : ansAt i p w ([] : List Int) = [] := by unfold ansAt; cases p <;> cases w <;> rfl
          rw [List.drop_length, he, List.nil_append]
          simp only [c104r9, c104l10m, go_sem, List.replicate, List.append_nil, List.cons_append, List.nil_append, List.length_cons, List.length_nil, List.map_cons, List.map_nil, List.getElem?_cons_zero, List.getElem?_cons_succ, Nat.reduceAdd, Nat.reduceSub, Nat.reduceLT, Nat.reduceLeDiff, and_true, true_and, forall_const, if_true, if_false, ↓reduceIte, Int.toNat_natCast, List.getElem?_map, Option.map_some, Option.bind_some, Bool.not_true, Bool.not_false, reduceCtorEq, List.take_nil, List.length_map, eq_self, List.all_cons, List.all_nil, Bool.and_true, Int.ofNat_lt, Bool.and_self, finK, resK, Int.natCast_nonneg, implies_true, List.take_zero, Nat.zero_add, List.drop_zero, List.drop_succ_cons, List.take_succ_cons, List.set_cons_zero, List.set_cons_succ, decide_true, decide_false, Int.le_refl, Nat.le_refl, List.flatten_cons, List.flatten_nil]
          exact ⟨inR_small (by omega) (by omega), hI (mv.length - (i + 1)) _ _ (by omega) ⟨i + 1, rfl, by omega, rfl, rfl⟩⟩
    · have hie : i = mv.length := by omega
      subst hie
      simp only [finY, go_sem, List.replicate, List.append_nil, List.cons_append, List.nil_append, List.length_cons, List.length_nil, List.map_cons, List.map_nil, List.getElem?_cons_zero, List.getElem?_cons_succ, Nat.reduceAdd, Nat.reduceSub, Nat.reduceLT, Nat.reduceLeDiff, and_true, true_and, forall_const, if_true, if_false, ↓reduceIte, Int.toNat_natCast, List.getElem?_map, Option.map_some, Option.bind_some, Bool.not_true, Bool.not_false, reduceCtorEq, List.take_nil, List.length_map, eq_self, List.all_cons, List.all_nil, Bool.and_true, Int.ofNat_lt, Bool.and_self, finK, resK, Int.natCast_nonneg, implies_true, List.take_zero, Nat.zero_add, List.drop_zero, List.drop_succ_cons, List.take_succ_cons, List.set_cons_zero, List.set_cons_succ, decide_true, decide_false, Int.le_refl, Nat.le_refl, List.flatten_cons, List.flatten_nil]
      left
      simp [ansFrom]
end Go.Proofs.Ytglmjdpmpgphkaa.Sk

/- Known answers of functions, and an iterator, by a table. -/
namespace Go.Proofs.Ytglmjdpmpgphkaa.Sk
open Go Go.E

mutual
def sveq : SV → SV → Bool
  | .bool a, .bool b => a == b
  | .int k n, .int k' n' => decide (k = k') && decide (n = n')
  | .str a, .str b => decide (a.data = b.data)
  | .agg a, .agg b => svseq a b
  | .slice a, .slice b => svseq a b
  | .ptr a, .ptr b => svseq a b
  | .nilp, .nilp => true
  | .fn f a b, .fn f' a' b' => decide (f = f') && svseq a a' && svseq b b'
  | .map a b, .map a' b' => svseq a a' && svseq b b'
  | .nili, .nili => true
  | _, _ => false
def svseq : List SV → List SV → Bool
  | [], [] => true
  | x :: xs, y :: ys => sveq x y && svseq xs ys
  | _, _ => false
end

mutual
theorem sveq_eq : ∀ {a b : SV}, sveq a b = true → a = b
  | .bool _, b, h => by cases b <;> simp_all [sveq]
  | .int _ _, b, h => by cases b <;> simp_all [sveq]
  | .str x, b, h => by
    cases b <;> simp only [sveq, Bool.false_eq_true, decide_eq_true_eq] at h
    rename_i y; cases x; cases y; simp_all
  | .agg _, b, h => by cases b <;> simp only [sveq, Bool.false_eq_true] at h; rw [svseq_eq h]
  | .slice _, b, h => by cases b <;> simp only [sveq, Bool.false_eq_true] at h; rw [svseq_eq h]
  | .ptr _, b, h => by cases b <;> simp only [sveq, Bool.false_eq_true] at h; rw [svseq_eq h]
  | .nilp, b, h => by cases b <;> simp_all [sveq]
  | .fn _ _ _, b, h => by
    cases b <;> simp only [sveq, Bool.false_eq_true, Bool.and_eq_true, decide_eq_true_eq] at h
    rw [h.1.1, svseq_eq h.1.2, svseq_eq h.2]
  | .map _ _, b, h => by
    cases b <;> simp only [sveq, Bool.false_eq_true, Bool.and_eq_true] at h
    rw [svseq_eq h.1, svseq_eq h.2]
  | .nili, b, h => by cases b <;> simp_all [sveq]
theorem svseq_eq : ∀ {a b : List SV}, svseq a b = true → a = b
  | [], b, h => by cases b <;> simp_all [svseq]
  | x :: xs, b, h => by
    cases b <;> simp only [svseq, Bool.false_eq_true, Bool.and_eq_true] at h
    rw [sveq_eq h.1, svseq_eq h.2]
end

structure Fact where
  f : FuncId
  args : List SV
  rs : List SV

def tabFind : List Fact → FuncId → List SV → Option (List SV)
  | [], _, _ => none
  | e :: l, f, args => if e.f = f then if svseq e.args args = true then some e.rs else tabFind l f args else tabFind l f args
theorem tabFind_ok {P : Program} : ∀ {l : List Fact}, (∀ e ∈ l, E.Fn P e.f e.args e.rs) → ∀ {f : FuncId} {args rs : List SV}, tabFind l f args = some rs → E.Fn P f args rs
  | [], _, _, _, _, h => by cases h
  | e :: l, hl, f, args, rs, h => by
    have ih := tabFind_ok (l := l) (fun x hx => hl x (by simp [hx])) (f := f) (args := args) (rs := rs)
    unfold tabFind at h
    split at h
    · rename_i hf
      split at h
      · rename_i ha
        cases h
        rw [← hf, ← svseq_eq ha]
        exact hl e (by simp)
      · exact ih h
    · exact ih h

def ansTab (pl : List Bool) (mv : List (List Int)) (wn : List Bool) : FuncId → List SV → Option (List SV)
  | 104, [.ptr [.ptr (a :: b :: c :: _)]] => if (sveq a (bools pl) && sveq b (.slice (mv.map ints)) && sveq c (bools wn) && decide (pl.length = mv.length) && decide (wn.length = mv.length)) = true then some (ansFrom 0 pl mv wn) else none
  | _, _ => none
theorem ansTab_ok {pl wn : List Bool} {mv : List (List Int)} {g : FuncId} {caps xs : List SV} (h : ansTab pl mv wn g caps = some xs) : E.Yields Try.prog g caps xs := by
  unfold ansTab at h
  split at h
  · split at h
    · rename_i hc
      cases h
      simp only [Bool.and_eq_true, decide_eq_true_eq] at hc
      rw [sveq_eq hc.1.1.1.1, sveq_eq hc.1.1.1.2, sveq_eq hc.1.1.2]
      exact k104 hc.1.2 hc.2
    · cases h
  · cases h
end Go.Proofs.Ytglmjdpmpgphkaa.Sk

/- A copy of no elements. -/
namespace Go.Proofs.Ytglmjdpmpgphkaa.Sk
open Go Go.E Go.E.Sm
set_option maxRecDepth 10000
theorem k75nil : E.FnNew Try.prog 75 1 [.slice []] [] := by
  refine new_of_row okf75 ?_
  simp only [FRow.start, f75, c75r0, c75r1, c75r2, c75r3, go_sem, List.replicate, List.append_nil, List.cons_append, List.nil_append, List.length_cons, List.length_nil, List.map_cons, List.map_nil, List.getElem?_cons_zero, List.getElem?_cons_succ, Nat.reduceAdd, Nat.reduceSub, Nat.reduceLT, Nat.reduceLeDiff, and_true, true_and, forall_const, if_true, if_false, ↓reduceIte, Int.toNat_natCast, List.getElem?_map, Option.map_some, Option.bind_some, Bool.not_true, Bool.not_false, reduceCtorEq, List.take_nil, List.length_map, eq_self, List.all_cons, List.all_nil, Bool.and_true, Int.ofNat_lt, Bool.and_self, finK, resK, Int.natCast_nonneg, implies_true, List.take_zero, Nat.zero_add, List.drop_zero, List.drop_succ_cons, List.take_succ_cons, List.set_cons_zero, List.set_cons_succ, decide_true, decide_false, Int.le_refl, Nat.le_refl, List.flatten_cons, List.flatten_nil]
  simp [finN, newOf, fget, fitsE]
end Go.Proofs.Ytglmjdpmpgphkaa.Sk

/- Facts about the examples: valid machines. -/
namespace Go.Proofs.Ytglmjdpmpgphkaa.Sk
open Go Go.E

def newW : FuncId → Nat → List SV → Option (List SV)
  | 75, 1, [.slice []] => some []
  | _, _, _ => none
theorem newW_ok {f : FuncId} {sz : Nat} {args xs : List SV} (h : newW f sz args = some xs) : E.FnNew Try.prog f sz args xs := by
  unfold newW at h
  split at h
  · cases h; exact k75nil
  · cases h
def tabN (N Y : FuncId → List SV → Option (List SV)) : Tab := exAll Try.prog tbl tbl2 N Y newW 1000 12
def none2 (_ : FuncId) (_ : List SV) : Option (List SV) := none
theorem tab_fn {N Y : FuncId → List SV → Option (List SV)} (hN : ∀ f args rs, N f args = some rs → E.Fn Try.prog f args rs) (hY : ∀ g caps xs, Y g caps = some xs → E.Yields Try.prog g caps xs) {f : FuncId} {args rs : List SV} (h : (tabN N Y).fn f args = some rs) : E.Fn Try.prog f args rs :=
  (exAll_ok tbl_ok tbl2_ok tbl_fn hN hY (fun _ _ _ _ h => newW_ok h) 1000 12).fn f args rs h
/-- A function that is in no table of these, reckoned. -/
theorem fn_run {N Y : FuncId → List SV → Option (List SV)} (hN : ∀ f args rs, N f args = some rs → E.Fn Try.prog f args rs) (hY : ∀ g caps xs, Y g caps = some xs → E.Yields Try.prog g caps xs) {f : FuncId} {r : FRow} {args rs : List SV} (hr : r.Ok Try.prog f)
    (h : (match runX Try.prog (tabN N Y) 1000 r (args.map .s) [] with | some τ => resX τ.hp τ.fr r.res | none => none) = some rs) : E.Fn Try.prog f args rs := by
  split at h
  · rename_i τ hrun
    exact fn_of_row hr (runX_sound (H := []) (exAll_ok tbl_ok tbl2_ok tbl_fn hN hY (fun _ _ _ _ h => newW_ok h) 1000 12) hrun (resX_sound h rfl) (resX_sound h rfl))
  · cases h
theorem tab_none {f : FuncId} {args rs : List SV} (h : (tabN none2 none2).fn f args = some rs) : E.Fn Try.prog f args rs :=
  tab_fn (fun _ _ _ h => by cases h) (fun _ _ _ h => by cases h) h

def pl0 : List Bool := [true, false, false, true, true, true]
def wn0 : List Bool := [false, false, false, false, false, true]
def exM : SV := mach pl0 [[1, 2], [3, 4], [0, 5], [5], [4, 5], []] wn0
def exN : SV := mach pl0 [[1, 2], [3, 4], [0, 5], [5], [4], []] wn0
def exB1 : SV := mach pl0 [[1], [3, 4], [0, 5], [5], [5], []] wn0
def exB2 : SV := mach pl0 [[2], [3, 4], [0, 5], [5], [5], []] wn0
def exT1 : SV := mach pl0 [[1, 2], [3], [0, 5], [5], [4], []] wn0
def exT2 : SV := mach pl0 [[1, 2], [4], [0, 5], [5], [4], []] wn0
def boardOf (m : SV) (d : List Int) : SV := .ptr (m.cells ++ (d ++ List.replicate (14 - d.length) (-1)).map (.int .i64))
def ok0 : List SV := [.int .i64 0]

theorem c20M : E.Fn Try.prog 20 [exM] ok0 := tab_none (by kernel_rfl)
theorem c20N : E.Fn Try.prog 20 [exN] ok0 := tab_none (by kernel_rfl)
theorem c20B1 : E.Fn Try.prog 20 [exB1] ok0 := tab_none (by kernel_rfl)
theorem c20B2 : E.Fn Try.prog 20 [exB2] ok0 := tab_none (by kernel_rfl)
end Go.Proofs.Ytglmjdpmpgphkaa.Sk
