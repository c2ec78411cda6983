/- The code of functions in the value semantics, and that it stands for theirs. -/
import Derived.Test.YtglmjdpmpgphkaaM6
import Derived.Test.YtglmjdpmpgphkaaProg

set_option linter.all false

namespace Go.Proofs.Ytglmjdpmpgphkaa.Sk
open Go Go.E

/-! 81 pennyfall/pennyfallref03.IsTaken, 2 and 0 -/
def c81r0 : List AOper := [
  ⟨(some 2), none, .boxS (.t 0)⟩,
  ⟨(some 4), none, .mov (.c (.s (.bool false)))⟩]
def c81r1 : List AOper := [
  ⟨(some 9), none, .fieldAddr 1 (.t 2)⟩,
  ⟨(some 10), none, .load 1 false (.t 9)⟩,
  ⟨(some 11), none, .len false (.t 10)⟩,
  ⟨(some 12), none, .mkslice 1 8 [(.int .i64 0)] (.t 11) (.t 11)⟩,
  ⟨(some 5), none, .mov (.t 12)⟩]
def c81r2 : List AOper := [
  ⟨(some 6), none, .mov (.c (.s (.int .i64 0)))⟩]
def c81r3 : List AOper := [
  ⟨(some 13), none, .mov (.t 6)⟩,
  ⟨(some 14), none, .mov (.t 1)⟩,
  ⟨(some 15), none, .len false (.t 14)⟩,
  ⟨(some 16), none, .cmp .lss (.t 13) (.t 15)⟩]
def c81r4 : List AOper := [
  ⟨(some 19), none, .mov (.t 1)⟩,
  ⟨(some 20), none, .mov (.t 6)⟩,
  ⟨(some 21), none, .idxA 2 (.t 19) (.t 20)⟩,
  ⟨(some 22), none, .idxArrA 2 1 (.t 21) (.c (.s (.int .i64 0)))⟩,
  ⟨(some 23), none, .load 1 false (.t 22)⟩,
  ⟨(some 24), none, .mov (.t 1)⟩,
  ⟨(some 25), none, .mov (.t 6)⟩,
  ⟨(some 26), none, .idxA 2 (.t 24) (.t 25)⟩,
  ⟨(some 27), none, .idxArrA 2 1 (.t 26) (.c (.s (.int .i64 1)))⟩,
  ⟨(some 28), none, .load 1 false (.t 27)⟩,
  ⟨(some 7), none, .mov (.t 23)⟩,
  ⟨(some 8), none, .mov (.t 28)⟩]
def c81r5 : List AOper := [
  ⟨(some 29), none, .mov (.t 7)⟩,
  ⟨(some 30), none, .cmp .lss (.t 29) (.c (.s (.int .i64 0)))⟩,
  ⟨(some 31), none, .mov (.t 30)⟩,
  ⟨(some 32), (some (31, false)), .mov (.t 7)⟩,
  ⟨(some 33), (some (31, false)), .fieldAddr 1 (.t 2)⟩,
  ⟨(some 34), (some (31, false)), .load 1 false (.t 33)⟩,
  ⟨(some 35), (some (31, false)), .len false (.t 34)⟩,
  ⟨(some 36), (some (31, false)), .cmp .geq (.t 32) (.t 35)⟩,
  ⟨(some 37), none, .pick (.t 31) (.c (.s (.bool true))) (.t 36)⟩,
  ⟨(some 38), none, .mov (.t 37)⟩,
  ⟨(some 39), (some (38, false)), .fieldAddr 0 (.t 2)⟩,
  ⟨(some 40), (some (38, false)), .load 1 false (.t 39)⟩,
  ⟨(some 41), (some (38, false)), .mov (.t 7)⟩,
  ⟨(some 42), (some (38, false)), .idxA 1 (.t 40) (.t 41)⟩,
  ⟨(some 43), (some (38, false)), .load 1 false (.t 42)⟩,
  ⟨(some 44), none, .pick (.t 38) (.c (.s (.bool true))) (.t 43)⟩,
  ⟨(some 45), none, .mov (.t 44)⟩,
  ⟨(some 46), (some (45, false)), .fieldAddr 2 (.t 2)⟩,
  ⟨(some 47), (some (45, false)), .load 1 false (.t 46)⟩,
  ⟨(some 48), (some (45, false)), .mov (.t 7)⟩,
  ⟨(some 49), (some (45, false)), .idxA 1 (.t 47) (.t 48)⟩,
  ⟨(some 50), (some (45, false)), .load 1 false (.t 49)⟩,
  ⟨(some 51), none, .pick (.t 45) (.c (.s (.bool true))) (.t 50)⟩,
  ⟨(some 52), none, .mov (.t 51)⟩,
  ⟨(some 53), (some (52, false)), .fieldAddr 1 (.t 2)⟩,
  ⟨(some 54), (some (52, false)), .load 1 false (.t 53)⟩,
  ⟨(some 55), (some (52, false)), .mov (.t 7)⟩,
  ⟨(some 56), (some (52, false)), .idxA 1 (.t 54) (.t 55)⟩,
  ⟨(some 57), (some (52, false)), .load 1 false (.t 56)⟩,
  ⟨(some 58), (some (52, false)), .mov (.t 8)⟩,
  ⟨(some 59), (some (52, false)), .call 49 [(.t 57), (.t 58)]⟩,
  ⟨(some 60), (some (52, false)), .not (.t 59)⟩,
  ⟨(some 61), none, .pick (.t 52) (.c (.s (.bool true))) (.t 60)⟩]
def c81r6 : List AOper := [
  ⟨(some 4), none, .mov (.c (.s (.bool false)))⟩]
def c81r7 : List AOper := [
  ⟨(some 62), none, .mov (.t 6)⟩,
  ⟨(some 63), none, .cmp .gtr (.t 62) (.c (.s (.int .i64 0)))⟩,
  ⟨(some 64), none, .mov (.t 63)⟩,
  ⟨(some 65), (some (64, true)), .mov (.t 7)⟩,
  ⟨(some 66), (some (64, true)), .mov (.t 1)⟩,
  ⟨(some 67), (some (64, true)), .mov (.t 6)⟩,
  ⟨(some 68), (some (64, true)), .arith .sub (.t 67) (.c (.s (.int .i64 1)))⟩,
  ⟨(some 69), (some (64, true)), .idxA 2 (.t 66) (.t 68)⟩,
  ⟨(some 70), (some (64, true)), .idxArrA 2 1 (.t 69) (.c (.s (.int .i64 0)))⟩,
  ⟨(some 71), (some (64, true)), .load 1 false (.t 70)⟩,
  ⟨(some 72), (some (64, true)), .cmp .lss (.t 65) (.t 71)⟩,
  ⟨(some 73), (some (64, true)), .mov (.t 72)⟩,
  ⟨(some 74), (some (73, false)), .mov (.t 7)⟩,
  ⟨(some 75), (some (73, false)), .mov (.t 1)⟩,
  ⟨(some 76), (some (73, false)), .mov (.t 6)⟩,
  ⟨(some 77), (some (73, false)), .arith .sub (.t 76) (.c (.s (.int .i64 1)))⟩,
  ⟨(some 78), (some (73, false)), .idxA 2 (.t 75) (.t 77)⟩,
  ⟨(some 79), (some (73, false)), .idxArrA 2 1 (.t 78) (.c (.s (.int .i64 0)))⟩,
  ⟨(some 80), (some (73, false)), .load 1 false (.t 79)⟩,
  ⟨(some 81), (some (73, false)), .cmp .eql (.t 74) (.t 80)⟩,
  ⟨(some 82), (some (73, false)), .mov (.t 81)⟩,
  ⟨(some 83), (some (82, true)), .mov (.t 8)⟩,
  ⟨(some 84), (some (82, true)), .mov (.t 1)⟩,
  ⟨(some 85), (some (82, true)), .mov (.t 6)⟩,
  ⟨(some 86), (some (82, true)), .arith .sub (.t 85) (.c (.s (.int .i64 1)))⟩,
  ⟨(some 87), (some (82, true)), .idxA 2 (.t 84) (.t 86)⟩,
  ⟨(some 88), (some (82, true)), .idxArrA 2 1 (.t 87) (.c (.s (.int .i64 1)))⟩,
  ⟨(some 89), (some (82, true)), .load 1 false (.t 88)⟩,
  ⟨(some 90), (some (82, true)), .cmp .leq (.t 83) (.t 89)⟩,
  ⟨(some 91), (some (73, false)), .pick (.t 82) (.t 90) (.c (.s (.bool false)))⟩,
  ⟨(some 92), (some (64, true)), .pick (.t 73) (.c (.s (.bool true))) (.t 91)⟩,
  ⟨(some 93), none, .pick (.t 64) (.t 92) (.c (.s (.bool false)))⟩]
def c81r8 : List AOper := [
  ⟨(some 4), none, .mov (.c (.s (.bool false)))⟩]
def c81r9 : List AOper := [
  ⟨(some 94), none, .mov (.t 5)⟩,
  ⟨(some 95), none, .mov (.t 7)⟩,
  ⟨(some 96), none, .idxA 1 (.t 94) (.t 95)⟩,
  ⟨(some 97), none, .load 1 false (.t 96)⟩,
  ⟨(some 98), none, .arith .add (.t 97) (.c (.s (.int .i64 1)))⟩,
  ⟨(some 99), none, .idxA 1 (.t 94) (.t 95)⟩,
  ⟨none, none, .store 1 (.t 99) (.t 98)⟩]
def c81r10 : List AOper := [
  ⟨(some 100), none, .mov (.t 5)⟩,
  ⟨(some 101), none, .mov (.t 7)⟩,
  ⟨(some 102), none, .idxA 1 (.t 100) (.t 101)⟩,
  ⟨(some 103), none, .load 1 false (.t 102)⟩,
  ⟨(some 104), none, .fieldAddr 1 (.t 2)⟩,
  ⟨(some 105), none, .load 1 false (.t 104)⟩,
  ⟨(some 106), none, .mov (.t 7)⟩,
  ⟨(some 107), none, .idxA 1 (.t 105) (.t 106)⟩,
  ⟨(some 108), none, .load 1 false (.t 107)⟩,
  ⟨(some 109), none, .len false (.t 108)⟩,
  ⟨(some 110), none, .cmp .eql (.t 103) (.t 109)⟩]
def c81r11 : List AOper := [
  ⟨(some 4), none, .mov (.c (.s (.bool false)))⟩]
def c81r12 : List AOper := [
  ⟨(some 17), none, .mov (.t 6)⟩,
  ⟨(some 18), none, .arith .add (.t 17) (.c (.s (.int .i64 1)))⟩,
  ⟨(some 6), none, .mov (.t 18)⟩]
def c81l13 : ACode := (.seq (.seq (.reg 0 c81r3) (.cond (.t 16) .skip (.exit 0))) (.seq (.block 1 (.seq (.reg 0 c81r4) (.seq (.seq (.reg 0 c81r5) (.cond (.t 61) (.seq (.reg 0 c81r6) .ret) .skip)) (.seq (.seq (.reg 0 c81r7) (.cond (.t 93) (.seq (.reg 0 c81r8) .ret) .skip)) (.seq (.reg 0 c81r9) (.seq (.reg 0 c81r10) (.cond (.t 110) (.seq (.reg 0 c81r11) .ret) .skip))))))) (.reg 0 c81r12)))
def c81l13m : List Bool := [false, true, true, false, false, true, true, false, false, false, false, false, false, false, false, false, false, false, false, false, false, false, false, false, false, false, false, false, false, false, false, false, false, false, false, false, false, false, false, false, false, false, false, false, false, false, false, false, false, false, false, false, false, false, false, false, false, false, false, false, false, false, false, false, false, false, false, false, false, false, false, false, false, false, false, false, false, false, false, false, false, false, false, false, false, false, false, false, false, false, false, false, false, false, false, false, false, false, false, false, false, false, false, false, false, false, false, false, false, false, false]
def c81r14 : List AOper := [
  ⟨(some 4), none, .mov (.c (.s (.bool true)))⟩]
def f81 : FRow := ⟨(.seq (.reg 0 c81r0) (.seq (.reg 1 c81r1) (.seq (.seq (.reg 0 c81r2) (.block 0 (.loop c81l13m [] c81l13))) (.seq (.reg 0 c81r14) .ret)))), [.tmp 4], 111⟩
theorem okf81 : f81.Ok Try.prog 81 := ⟨_, _, Try.func81, rfl, by kernel_rfl, by kernel_rfl, by kernel_rfl⟩

/-! 82 pennyfall/pennyfalllaw03.Machine, 3 and 0 -/
def c82r0 : List AOper := [
  ⟨(some 6), none, .alloc [(.full []), (.full []), (.full [])]⟩]
def c82r1 : List AOper := [
  ⟨(some 10), none, .mov (.t 2)⟩,
  ⟨(some 11), none, .build [(.full []), (.full []), (.full [])] [(1, 1, (.t 10))]⟩,
  ⟨(some 7), none, .alloc [(.full []), (.full []), (.full [])]⟩,
  ⟨none, none, .store 3 (.t 7) (.t 11)⟩]
def c82r2 : List AOper := [
  ⟨(some 8), none, .mov (.c (.s (.int .i64 0)))⟩]
def c82r3 : List AOper := [
  ⟨(some 12), none, .mov (.t 8)⟩,
  ⟨(some 13), none, .mov (.t 0)⟩,
  ⟨(some 14), none, .len false (.t 13)⟩,
  ⟨(some 15), none, .cmp .lss (.t 12) (.t 14)⟩]
def c82r4 : List AOper := [
  ⟨(some 18), none, .fieldAddr 0 (.t 7)⟩,
  ⟨(some 19), none, .load 1 false (.t 18)⟩,
  ⟨(some 20), none, .mov (.t 0)⟩,
  ⟨(some 21), none, .mov (.t 8)⟩,
  ⟨(some 22), none, .idxA 1 (.t 20) (.t 21)⟩,
  ⟨(some 23), none, .load 1 false (.t 22)⟩,
  ⟨(some 24), none, .cmp .eql (.t 23) (.c (.s (.int .i64 1)))⟩,
  ⟨(some 25), none, .buildSl 1 1 (.bool false) [(0, (.t 24))]⟩,
  ⟨(some 26), none, .append 1 1 (.t 19) (.t 25)⟩,
  ⟨(some 27), none, .fieldAddr 0 (.t 7)⟩,
  ⟨none, none, .store 1 (.t 27) (.t 26)⟩]
def c82r5 : List AOper := [
  ⟨(some 16), none, .mov (.t 8)⟩,
  ⟨(some 17), none, .arith .add (.t 16) (.c (.s (.int .i64 1)))⟩,
  ⟨(some 8), none, .mov (.t 17)⟩]
def c82l6 : ACode := (.seq (.seq (.reg 0 c82r3) (.cond (.t 15) .skip (.exit 0))) (.seq (.block 1 (.reg 1 c82r4)) (.reg 0 c82r5)))
def c82l6m : List Bool := [true, true, false, false, false, false, true, true, true, false, false, false, false, false, false, false, false, false, false, false, false, false, false, false, false, false, false, false, false, false, false, false, false, false, false, false, false, false, false, false, false, false, false, false, false]
def c82r7 : List AOper := [
  ⟨(some 9), none, .mov (.c (.s (.int .i64 0)))⟩]
def c82r8 : List AOper := [
  ⟨(some 28), none, .mov (.t 9)⟩,
  ⟨(some 29), none, .mov (.t 1)⟩,
  ⟨(some 30), none, .len false (.t 29)⟩,
  ⟨(some 31), none, .cmp .lss (.t 28) (.t 30)⟩]
def c82r9 : List AOper := [
  ⟨(some 34), none, .fieldAddr 2 (.t 7)⟩,
  ⟨(some 35), none, .load 1 false (.t 34)⟩,
  ⟨(some 36), none, .mov (.t 1)⟩,
  ⟨(some 37), none, .mov (.t 9)⟩,
  ⟨(some 38), none, .idxA 1 (.t 36) (.t 37)⟩,
  ⟨(some 39), none, .load 1 false (.t 38)⟩,
  ⟨(some 40), none, .cmp .eql (.t 39) (.c (.s (.int .i64 1)))⟩,
  ⟨(some 41), none, .buildSl 1 1 (.bool false) [(0, (.t 40))]⟩,
  ⟨(some 42), none, .append 1 1 (.t 35) (.t 41)⟩,
  ⟨(some 43), none, .fieldAddr 2 (.t 7)⟩,
  ⟨none, none, .store 1 (.t 43) (.t 42)⟩]
def c82r10 : List AOper := [
  ⟨(some 32), none, .mov (.t 9)⟩,
  ⟨(some 33), none, .arith .add (.t 32) (.c (.s (.int .i64 1)))⟩,
  ⟨(some 9), none, .mov (.t 33)⟩]
def c82l11 : ACode := (.seq (.seq (.reg 0 c82r8) (.cond (.t 31) .skip (.exit 2))) (.seq (.block 3 (.reg 1 c82r9)) (.reg 0 c82r10)))
def c82l11m : List Bool := [false, true, false, false, false, false, true, true, false, true, false, false, false, false, false, false, false, false, false, false, false, false, false, false, false, false, false, false, false, false, false, false, false, false, false, false, false, false, false, false, false, false, false, false, false]
def c82r12 : List AOper := [
  ⟨(some 44), none, .load 3 true (.t 7)⟩,
  ⟨none, none, .store 3 (.t 6) (.t 44)⟩]
def f82 : FRow := ⟨(.seq (.reg 1 c82r0) (.seq (.reg 1 c82r1) (.seq (.seq (.reg 0 c82r2) (.block 0 (.loop c82l6m [(7, some 0, 0)] c82l6))) (.seq (.seq (.reg 0 c82r7) (.block 2 (.loop c82l11m [(7, some 2, 0)] c82l11))) (.seq (.reg 0 c82r12) .ret))))), [.cell 6 3 true], 45⟩
theorem okf82 : f82.Ok Try.prog 82 := ⟨_, _, Try.func82, rfl, by kernel_rfl, by kernel_rfl, by kernel_rfl⟩

/-! 83 pennyfall/pennyfallref03.next, 3 and 0 -/
def c83r0 : List AOper := [
  ⟨(some 3), none, .boxS (.t 0)⟩,
  ⟨(some 6), none, .mov (.c (.s (.int .i64 0)))⟩]
def c83r1 : List AOper := [
  ⟨(some 13), none, .fieldAddr 1 (.t 3)⟩,
  ⟨(some 14), none, .load 1 false (.t 13)⟩,
  ⟨(some 15), none, .mov (.t 1)⟩,
  ⟨(some 16), none, .idxA 1 (.t 14) (.t 15)⟩,
  ⟨(some 17), none, .load 1 false (.t 16)⟩,
  ⟨(some 7), none, .mov (.t 17)⟩]
def c83r2 : List AOper := [
  ⟨(some 8), none, .mov (.c (.s (.int .i64 (-1))))⟩,
  ⟨(some 9), none, .mov (.c (.s (.int .i64 (-1))))⟩,
  ⟨(some 10), none, .mov (.c (.s (.bool false)))⟩]
def c83r3 : List AOper := [
  ⟨(some 11), none, .mov (.c (.s (.int .i64 0)))⟩]
def c83r4 : List AOper := [
  ⟨(some 18), none, .mov (.t 11)⟩,
  ⟨(some 19), none, .mov (.t 7)⟩,
  ⟨(some 20), none, .len false (.t 19)⟩,
  ⟨(some 21), none, .cmp .lss (.t 18) (.t 20)⟩]
def c83r5 : List AOper := [
  ⟨(some 24), none, .mov (.t 2)⟩,
  ⟨(some 25), none, .mov (.t 7)⟩,
  ⟨(some 26), none, .mov (.t 11)⟩,
  ⟨(some 27), none, .idxA 1 (.t 25) (.t 26)⟩,
  ⟨(some 28), none, .load 1 false (.t 27)⟩,
  ⟨(some 29), none, .idxA 1 (.t 24) (.t 28)⟩,
  ⟨(some 30), none, .load 1 false (.t 29)⟩,
  ⟨(some 12), none, .mov (.t 30)⟩]
def c83r6 : List AOper := [
  ⟨(some 31), none, .mov (.t 12)⟩,
  ⟨(some 32), none, .cmp .lss (.t 31) (.c (.s (.int .i64 0)))⟩]
def c83r7 : List AOper := [
  ⟨(some 10), none, .mov (.c (.s (.bool true)))⟩]
def c83r8 : List AOper := [
  ⟨(some 33), none, .mov (.t 8)⟩,
  ⟨(some 34), none, .cmp .lss (.t 33) (.c (.s (.int .i64 0)))⟩,
  ⟨(some 35), none, .mov (.t 34)⟩,
  ⟨(some 36), (some (35, false)), .mov (.t 12)⟩,
  ⟨(some 37), (some (35, false)), .mov (.t 8)⟩,
  ⟨(some 38), (some (35, false)), .cmp .lss (.t 36) (.t 37)⟩,
  ⟨(some 39), none, .pick (.t 35) (.c (.s (.bool true))) (.t 38)⟩]
def c83r9 : List AOper := [
  ⟨(some 40), none, .mov (.t 12)⟩,
  ⟨(some 8), none, .mov (.t 40)⟩]
def c83r10 : List AOper := [
  ⟨(some 41), none, .mov (.t 9)⟩,
  ⟨(some 42), none, .mov (.t 12)⟩,
  ⟨(some 43), none, .max [(.t 41), (.t 42)]⟩,
  ⟨(some 9), none, .mov (.t 43)⟩]
def c83r11 : List AOper := [
  ⟨(some 22), none, .mov (.t 11)⟩,
  ⟨(some 23), none, .arith .add (.t 22) (.c (.s (.int .i64 1)))⟩,
  ⟨(some 11), none, .mov (.t 23)⟩]
def c83l12 : ACode := (.seq (.seq (.reg 0 c83r4) (.cond (.t 21) .skip (.exit 0))) (.seq (.block 1 (.seq (.reg 0 c83r5) (.seq (.seq (.reg 0 c83r6) (.cond (.t 32) (.seq (.reg 0 c83r7) (.exit 1)) .skip)) (.seq (.seq (.reg 0 c83r8) (.cond (.t 39) (.reg 0 c83r9) .skip)) (.reg 0 c83r10))))) (.reg 0 c83r11)))
def c83l12m : List Bool := [false, true, true, true, false, false, false, true, true, true, true, true, false, false, false, false, false, false, false, false, false, false, false, false, false, false, false, false, false, false, false, false, false, false, false, false, false, false, false, false, false, false, false, false, false, false, false, false, false, false, false, false, false, false, false, false, false, false, false, false, false, false, false, false, false, false]
def c83r13 : List AOper := [
  ⟨(some 44), none, .mov (.t 8)⟩,
  ⟨(some 45), none, .cmp .lss (.t 44) (.c (.s (.int .i64 0)))⟩,
  ⟨(some 46), none, .mov (.t 45)⟩,
  ⟨(some 47), (some (46, false)), .fieldAddr 0 (.t 3)⟩,
  ⟨(some 48), (some (46, false)), .load 1 false (.t 47)⟩,
  ⟨(some 49), (some (46, false)), .mov (.t 1)⟩,
  ⟨(some 50), (some (46, false)), .idxA 1 (.t 48) (.t 49)⟩,
  ⟨(some 51), (some (46, false)), .load 1 false (.t 50)⟩,
  ⟨(some 52), (some (46, false)), .not (.t 51)⟩,
  ⟨(some 53), (some (46, false)), .mov (.t 52)⟩,
  ⟨(some 54), (some (53, true)), .mov (.t 10)⟩,
  ⟨(some 55), (some (46, false)), .pick (.t 53) (.t 54) (.c (.s (.bool false)))⟩,
  ⟨(some 56), none, .pick (.t 46) (.c (.s (.bool true))) (.t 55)⟩]
def c83r14 : List AOper := [
  ⟨(some 6), none, .mov (.c (.s (.int .i64 (-1))))⟩]
def c83r15 : List AOper := [
  ⟨(some 57), none, .fieldAddr 0 (.t 3)⟩,
  ⟨(some 58), none, .load 1 false (.t 57)⟩,
  ⟨(some 59), none, .mov (.t 1)⟩,
  ⟨(some 60), none, .idxA 1 (.t 58) (.t 59)⟩,
  ⟨(some 61), none, .load 1 false (.t 60)⟩]
def c83r16 : List AOper := [
  ⟨(some 62), none, .mov (.t 8)⟩,
  ⟨(some 63), none, .arith .add (.t 62) (.c (.s (.int .i64 1)))⟩,
  ⟨(some 6), none, .mov (.t 63)⟩]
def c83r17 : List AOper := [
  ⟨(some 64), none, .mov (.t 9)⟩,
  ⟨(some 65), none, .arith .add (.t 64) (.c (.s (.int .i64 1)))⟩,
  ⟨(some 6), none, .mov (.t 65)⟩]
def f83 : FRow := ⟨(.seq (.reg 0 c83r0) (.seq (.reg 0 c83r1) (.seq (.reg 0 c83r2) (.seq (.seq (.reg 0 c83r3) (.block 0 (.loop c83l12m [] c83l12))) (.seq (.seq (.reg 0 c83r13) (.cond (.t 56) (.seq (.reg 0 c83r14) .ret) .skip)) (.seq (.seq (.reg 0 c83r15) (.cond (.t 61) (.seq (.reg 0 c83r16) .ret) .skip)) (.seq (.reg 0 c83r17) .ret))))))), [.tmp 6], 66⟩
theorem okf83 : f83.Ok Try.prog 83 := ⟨_, _, Try.func83, rfl, by kernel_rfl, by kernel_rfl, by kernel_rfl⟩

/-! 84 slices.ContainsFunc[[]int,int], 2 and 0 -/
def c84r0 : List AOper := [
  ⟨(some 4), none, .mov (.c (.s (.bool false)))⟩]
def c84r1 : List AOper := [
  ⟨(some 5), none, .mov (.t 0)⟩,
  ⟨(some 6), none, .mov (.t 1)⟩,
  ⟨(some 7), none, .call 92 [(.t 5), (.t 6)]⟩,
  ⟨(some 8), none, .cmp .geq (.t 7) (.c (.s (.int .i64 0)))⟩,
  ⟨(some 4), none, .mov (.t 8)⟩]
def f84 : FRow := ⟨(.seq (.reg 0 c84r0) (.seq (.reg 0 c84r1) .ret)), [.tmp 4], 9⟩
theorem okf84 : f84.Ok Try.prog 84 := ⟨_, _, Try.func84, rfl, by kernel_rfl, by kernel_rfl, by kernel_rfl⟩

/-! 85 pennyfall/skill.within$1, 1 and 2 -/
def c85r0 : List AOper := [
  ⟨(some 4), none, .mov (.c (.s (.bool false)))⟩]
def c85r1 : List AOper := [
  ⟨(some 5), none, .mov (.t 0)⟩,
  ⟨(some 6), none, .load 1 false (.t 1)⟩,
  ⟨(some 7), none, .cmp .lss (.t 5) (.t 6)⟩,
  ⟨(some 8), none, .mov (.t 7)⟩,
  ⟨(some 9), (some (8, false)), .mov (.t 0)⟩,
  ⟨(some 10), (some (8, false)), .load 1 false (.t 2)⟩,
  ⟨(some 11), (some (8, false)), .cmp .gtr (.t 9) (.t 10)⟩,
  ⟨(some 12), none, .pick (.t 8) (.c (.s (.bool true))) (.t 11)⟩,
  ⟨(some 4), none, .mov (.t 12)⟩]
def f85 : FRow := ⟨(.seq (.reg 0 c85r0) (.seq (.reg 0 c85r1) .ret)), [.tmp 4], 13⟩
theorem okf85 : f85.Ok Try.prog 85 := ⟨_, _, Try.func85, rfl, by kernel_rfl, by kernel_rfl, by kernel_rfl⟩

/-! 86 slices.IndexFunc[[][]int,[]int], 2 and 0 -/
def c86r0 : List AOper := [
  ⟨(some 4), none, .mov (.c (.s (.int .i64 0)))⟩]
def c86r1 : List AOper := [
  ⟨(some 6), none, .mov (.t 0)⟩,
  ⟨(some 7), none, .len false (.t 6)⟩,
  ⟨(some 8), none, .mov (.c (.s (.int .i64 0)))⟩]
def c86r2 : List AOper := [
  ⟨(some 9), none, .cmp .lss (.t 8) (.t 7)⟩]
def c86r3 : List AOper := [
  ⟨(some 10), none, .mov (.t 8)⟩,
  ⟨(some 5), none, .mov (.t 10)⟩]
def c86r4 : List AOper := [
  ⟨(some 11), none, .mov (.t 1)⟩,
  ⟨(some 12), none, .mov (.t 0)⟩,
  ⟨(some 13), none, .mov (.t 5)⟩,
  ⟨(some 14), none, .idxA 1 (.t 12) (.t 13)⟩,
  ⟨(some 15), none, .load 1 false (.t 14)⟩,
  ⟨(some 16), none, .callv (.t 11) [(.t 15)]⟩]
def c86r5 : List AOper := [
  ⟨(some 17), none, .mov (.t 5)⟩,
  ⟨(some 4), none, .mov (.t 17)⟩]
def c86r6 : List AOper := [
  ⟨(some 18), none, .arith .add (.t 8) (.c (.s (.int .i64 1)))⟩,
  ⟨(some 8), none, .mov (.t 18)⟩]
def c86l7 : ACode := (.seq (.reg 0 c86r2) (.seq (.cond (.t 9) .skip (.exit 0)) (.seq (.block 1 (.seq (.reg 0 c86r3) (.seq (.reg 0 c86r4) (.cond (.t 16) (.seq (.reg 0 c86r5) .ret) .skip)))) (.reg 0 c86r6))))
def c86l7m : List Bool := [true, true, false, false, false, false, false, true, true, false, false, false, false, false, false, false, false, false, false]
def c86r8 : List AOper := [
  ⟨(some 4), none, .mov (.c (.s (.int .i64 (-1))))⟩]
def f86 : FRow := ⟨(.seq (.reg 0 c86r0) (.seq (.seq (.reg 0 c86r1) (.block 0 (.loop c86l7m [] c86l7))) (.seq (.reg 0 c86r8) .ret))), [.tmp 4], 19⟩
theorem okf86 : f86.Ok Try.prog 86 := ⟨_, _, Try.func86, rfl, by kernel_rfl, by kernel_rfl, by kernel_rfl⟩

/-! 87 (*pennyfall/skill.board).wins$1, 1 and 1 -/
def c87r0 : List AOper := [
  ⟨(some 3), none, .mov (.c (.s (.bool false)))⟩]
def c87r1 : List AOper := [
  ⟨(some 4), none, .load 1 false (.t 1)⟩,
  ⟨(some 5), none, .mov (.t 0)⟩,
  ⟨(some 6), none, .callv (.t 4) [(.t 5)]⟩,
  ⟨(some 7), none, .not (.t 6)⟩,
  ⟨(some 3), none, .mov (.t 7)⟩]
def f87 : FRow := ⟨(.seq (.reg 0 c87r0) (.seq (.reg 0 c87r1) .ret)), [.tmp 3], 8⟩
theorem okf87 : f87.Ok Try.prog 87 := ⟨_, _, Try.func87, rfl, by kernel_rfl, by kernel_rfl, by kernel_rfl⟩

/-! 88 slices.Index[[]int,int], 2 and 0 -/
def c88r0 : List AOper := [
  ⟨(some 4), none, .mov (.c (.s (.int .i64 0)))⟩]
def c88r1 : List AOper := [
  ⟨(some 6), none, .mov (.t 0)⟩,
  ⟨(some 7), none, .len false (.t 6)⟩,
  ⟨(some 8), none, .mov (.c (.s (.int .i64 0)))⟩]
def c88r2 : List AOper := [
  ⟨(some 9), none, .cmp .lss (.t 8) (.t 7)⟩]
def c88r3 : List AOper := [
  ⟨(some 10), none, .mov (.t 8)⟩,
  ⟨(some 5), none, .mov (.t 10)⟩]
def c88r4 : List AOper := [
  ⟨(some 11), none, .mov (.t 1)⟩,
  ⟨(some 12), none, .mov (.t 0)⟩,
  ⟨(some 13), none, .mov (.t 5)⟩,
  ⟨(some 14), none, .idxA 1 (.t 12) (.t 13)⟩,
  ⟨(some 15), none, .load 1 false (.t 14)⟩,
  ⟨(some 16), none, .cmp .eql (.t 11) (.t 15)⟩]
def c88r5 : List AOper := [
  ⟨(some 17), none, .mov (.t 5)⟩,
  ⟨(some 4), none, .mov (.t 17)⟩]
def c88r6 : List AOper := [
  ⟨(some 18), none, .arith .add (.t 8) (.c (.s (.int .i64 1)))⟩,
  ⟨(some 8), none, .mov (.t 18)⟩]
def c88l7 : ACode := (.seq (.reg 0 c88r2) (.seq (.cond (.t 9) .skip (.exit 0)) (.seq (.block 1 (.seq (.reg 0 c88r3) (.seq (.reg 0 c88r4) (.cond (.t 16) (.seq (.reg 0 c88r5) .ret) .skip)))) (.reg 0 c88r6))))
def c88l7m : List Bool := [true, true, false, false, false, false, false, true, true, false, false, false, false, false, false, false, false, false, false]
def c88r8 : List AOper := [
  ⟨(some 4), none, .mov (.c (.s (.int .i64 (-1))))⟩]
def f88 : FRow := ⟨(.seq (.reg 0 c88r0) (.seq (.seq (.reg 0 c88r1) (.block 0 (.loop c88l7m [] c88l7))) (.seq (.reg 0 c88r8) .ret))), [.tmp 4], 19⟩
theorem okf88 : f88.Ok Try.prog 88 := ⟨_, _, Try.func88, rfl, by kernel_rfl, by kernel_rfl, by kernel_rfl⟩

/-! 89 pennyfall/skill.find[int], 2 and 0 -/
def c89r0 : List AOper := [
  ⟨(some 4), none, .mov (.c (.s (.int .i64 0)))⟩,
  ⟨(some 5), none, .mov (.c (.s (.bool false)))⟩]
def c89r1 : List AOper := [
  ⟨(some 9), none, .mov (.t 0)⟩,
  ⟨(some 10), none, .len false (.t 9)⟩,
  ⟨(some 11), none, .mov (.c (.s (.int .i64 0)))⟩]
def c89r2 : List AOper := [
  ⟨(some 12), none, .cmp .lss (.t 11) (.t 10)⟩]
def c89r3 : List AOper := [
  ⟨(some 13), none, .idxA 1 (.t 9) (.t 11)⟩,
  ⟨(some 14), none, .load 1 false (.t 13)⟩,
  ⟨(some 7), none, .mov (.t 14)⟩]
def c89r4 : List AOper := [
  ⟨(some 15), none, .mov (.t 1)⟩,
  ⟨(some 16), none, .mov (.t 7)⟩,
  ⟨(some 17), none, .callv (.t 15) [(.t 16)]⟩]
def c89r5 : List AOper := [
  ⟨(some 18), none, .mov (.t 7)⟩,
  ⟨(some 4), none, .mov (.t 18)⟩,
  ⟨(some 5), none, .mov (.c (.s (.bool true)))⟩]
def c89r6 : List AOper := [
  ⟨(some 19), none, .arith .add (.t 11) (.c (.s (.int .i64 1)))⟩,
  ⟨(some 11), none, .mov (.t 19)⟩]
def c89l7 : ACode := (.seq (.reg 0 c89r2) (.seq (.cond (.t 12) .skip (.exit 0)) (.seq (.block 1 (.seq (.reg 0 c89r3) (.seq (.reg 0 c89r4) (.cond (.t 17) (.seq (.reg 0 c89r5) .ret) .skip)))) (.reg 0 c89r6))))
def c89l7m : List Bool := [false, true, false, false, false, false, false, false, false, true, true, true, false, false, false, false, false, false, false, false, false]
def c89r8 : List AOper := [
  ⟨(some 8), none, .mov (.c (.s (.int .i64 0)))⟩]
def c89r9 : List AOper := [
  ⟨(some 20), none, .mov (.t 8)⟩,
  ⟨(some 4), none, .mov (.t 20)⟩,
  ⟨(some 5), none, .mov (.c (.s (.bool false)))⟩]
def f89 : FRow := ⟨(.seq (.reg 0 c89r0) (.seq (.seq (.reg 0 c89r1) (.block 0 (.loop c89l7m [] c89l7))) (.seq (.reg 0 c89r8) (.seq (.reg 0 c89r9) .ret)))), [.tmp 4, .tmp 5], 21⟩
theorem okf89 : f89.Ok Try.prog 89 := ⟨_, _, Try.func89, rfl, by kernel_rfl, by kernel_rfl, by kernel_rfl⟩

/-! 90 (*pennyfall/skill.board).way$1, 1 and 2 -/
def c90r0 : List AOper := [
  ⟨(some 4), none, .mov (.c (.s (.bool false)))⟩]
def c90r1 : List AOper := [
  ⟨(some 5), none, .load 1 false (.t 1)⟩,
  ⟨(some 6), none, .mov (.t 0)⟩,
  ⟨(some 7), none, .nilck (.t 5)⟩,
  ⟨(some 8), none, .fieldAddr 3 (.t 7)⟩,
  ⟨(some 9), none, .idxArrA 14 1 (.t 8) (.t 6)⟩,
  ⟨(some 10), none, .load 1 false (.t 9)⟩,
  ⟨(some 11), none, .load 1 false (.t 2)⟩,
  ⟨(some 12), none, .cmp .eql (.t 10) (.t 11)⟩,
  ⟨(some 4), none, .mov (.t 12)⟩]
def f90 : FRow := ⟨(.seq (.reg 0 c90r0) (.seq (.reg 0 c90r1) .ret)), [.tmp 4], 13⟩
theorem okf90 : f90.Ok Try.prog 90 := ⟨_, _, Try.func90, rfl, by kernel_rfl, by kernel_rfl, by kernel_rfl⟩

/-! 91 pennyfall/pennyfallref03.to, 4 and 0 -/
def c91r0 : List AOper := [
  ⟨(some 4), none, .boxS (.t 0)⟩,
  ⟨(some 8), none, .mov (.c (.s (.int .i64 0)))⟩]
def c91r1 : List AOper := [
  ⟨(some 9), none, .mov (.c (.s (.int .i64 0)))⟩]
def c91r2 : List AOper := [
  ⟨(some 10), none, .mov (.t 9)⟩,
  ⟨(some 11), none, .fieldAddr 1 (.t 4)⟩,
  ⟨(some 12), none, .load 1 false (.t 11)⟩,
  ⟨(some 13), none, .mov (.t 1)⟩,
  ⟨(some 14), none, .idxA 1 (.t 12) (.t 13)⟩,
  ⟨(some 15), none, .load 1 false (.t 14)⟩,
  ⟨(some 16), none, .len false (.t 15)⟩,
  ⟨(some 17), none, .cmp .lss (.t 10) (.t 16)⟩]
def c91r3 : List AOper := [
  ⟨(some 20), none, .mov (.t 3)⟩,
  ⟨(some 21), none, .fieldAddr 1 (.t 4)⟩,
  ⟨(some 22), none, .load 1 false (.t 21)⟩,
  ⟨(some 23), none, .mov (.t 1)⟩,
  ⟨(some 24), none, .idxA 1 (.t 22) (.t 23)⟩,
  ⟨(some 25), none, .load 1 false (.t 24)⟩,
  ⟨(some 26), none, .mov (.t 9)⟩,
  ⟨(some 27), none, .idxA 1 (.t 25) (.t 26)⟩,
  ⟨(some 28), none, .load 1 false (.t 27)⟩,
  ⟨(some 29), none, .idxA 1 (.t 20) (.t 28)⟩,
  ⟨(some 30), none, .load 1 false (.t 29)⟩,
  ⟨(some 31), none, .mov (.t 2)⟩,
  ⟨(some 32), none, .cmp .eql (.t 30) (.t 31)⟩]
def c91r4 : List AOper := [
  ⟨(some 33), none, .fieldAddr 1 (.t 4)⟩,
  ⟨(some 34), none, .load 1 false (.t 33)⟩,
  ⟨(some 35), none, .mov (.t 1)⟩,
  ⟨(some 36), none, .idxA 1 (.t 34) (.t 35)⟩,
  ⟨(some 37), none, .load 1 false (.t 36)⟩,
  ⟨(some 38), none, .mov (.t 9)⟩,
  ⟨(some 39), none, .idxA 1 (.t 37) (.t 38)⟩,
  ⟨(some 40), none, .load 1 false (.t 39)⟩,
  ⟨(some 8), none, .mov (.t 40)⟩]
def c91r5 : List AOper := [
  ⟨(some 18), none, .mov (.t 9)⟩,
  ⟨(some 19), none, .arith .add (.t 18) (.c (.s (.int .i64 1)))⟩,
  ⟨(some 9), none, .mov (.t 19)⟩]
def c91l6 : ACode := (.seq (.seq (.reg 0 c91r2) (.cond (.t 17) .skip (.exit 0))) (.seq (.block 1 (.seq (.reg 0 c91r3) (.cond (.t 32) (.seq (.reg 0 c91r4) .ret) .skip))) (.reg 0 c91r5)))
def c91l6m : List Bool := [false, true, true, true, true, false, false, false, false, true, false, false, false, false, false, false, false, false, false, false, false, false, false, false, false, false, false, false, false, false, false, false, false, false, false, false, false, false, false, false, false]
def c91r7 : List AOper := [
  ⟨(some 8), none, .mov (.c (.s (.int .i64 (-1))))⟩]
def f91 : FRow := ⟨(.seq (.reg 0 c91r0) (.seq (.seq (.reg 0 c91r1) (.block 0 (.loop c91l6m [] c91l6))) (.seq (.reg 0 c91r7) .ret))), [.tmp 8], 41⟩
theorem okf91 : f91.Ok Try.prog 91 := ⟨_, _, Try.func91, rfl, by kernel_rfl, by kernel_rfl, by kernel_rfl⟩

/-! 92 slices.IndexFunc[[]int,int], 2 and 0 -/
def c92r0 : List AOper := [
  ⟨(some 4), none, .mov (.c (.s (.int .i64 0)))⟩]
def c92r1 : List AOper := [
  ⟨(some 6), none, .mov (.t 0)⟩,
  ⟨(some 7), none, .len false (.t 6)⟩,
  ⟨(some 8), none, .mov (.c (.s (.int .i64 0)))⟩]
def c92r2 : List AOper := [
  ⟨(some 9), none, .cmp .lss (.t 8) (.t 7)⟩]
def c92r3 : List AOper := [
  ⟨(some 10), none, .mov (.t 8)⟩,
  ⟨(some 5), none, .mov (.t 10)⟩]
def c92r4 : List AOper := [
  ⟨(some 11), none, .mov (.t 1)⟩,
  ⟨(some 12), none, .mov (.t 0)⟩,
  ⟨(some 13), none, .mov (.t 5)⟩,
  ⟨(some 14), none, .idxA 1 (.t 12) (.t 13)⟩,
  ⟨(some 15), none, .load 1 false (.t 14)⟩,
  ⟨(some 16), none, .callv (.t 11) [(.t 15)]⟩]
def c92r5 : List AOper := [
  ⟨(some 17), none, .mov (.t 5)⟩,
  ⟨(some 4), none, .mov (.t 17)⟩]
def c92r6 : List AOper := [
  ⟨(some 18), none, .arith .add (.t 8) (.c (.s (.int .i64 1)))⟩,
  ⟨(some 8), none, .mov (.t 18)⟩]
def c92l7 : ACode := (.seq (.reg 0 c92r2) (.seq (.cond (.t 9) .skip (.exit 0)) (.seq (.block 1 (.seq (.reg 0 c92r3) (.seq (.reg 0 c92r4) (.cond (.t 16) (.seq (.reg 0 c92r5) .ret) .skip)))) (.reg 0 c92r6))))
def c92l7m : List Bool := [true, true, false, false, false, false, false, true, true, false, false, false, false, false, false, false, false, false, false]
def c92r8 : List AOper := [
  ⟨(some 4), none, .mov (.c (.s (.int .i64 (-1))))⟩]
def f92 : FRow := ⟨(.seq (.reg 0 c92r0) (.seq (.seq (.reg 0 c92r1) (.block 0 (.loop c92l7m [] c92l7))) (.seq (.reg 0 c92r8) .ret))), [.tmp 4], 19⟩
theorem okf92 : f92.Ok Try.prog 92 := ⟨_, _, Try.func92, rfl, by kernel_rfl, by kernel_rfl, by kernel_rfl⟩

/-! 93 (*pennyfall/skill.board).cost, 3 and 0 -/
def c93r0 : List AOper := [
  ⟨(some 6), none, .mov (.c (.s (.int .i64 0)))⟩]
def c93r1 : List AOper := [
  ⟨(some 8), none, .mov (.t 0)⟩,
  ⟨(some 9), none, .nilck (.t 8)⟩,
  ⟨(some 10), none, .fieldAddr 0 (.t 9)⟩,
  ⟨(some 11), none, .fieldAddr 1 (.t 10)⟩,
  ⟨(some 12), none, .load 1 false (.t 11)⟩,
  ⟨(some 13), none, .mov (.t 1)⟩,
  ⟨(some 14), none, .idxA 1 (.t 12) (.t 13)⟩,
  ⟨(some 15), none, .load 1 false (.t 14)⟩,
  ⟨(some 16), none, .mov (.t 2)⟩,
  ⟨(some 17), none, .call 100 [(.t 15), (.t 16)]⟩,
  ⟨(some 7), none, .mov (.t 17)⟩]
def c93r2 : List AOper := [
  ⟨(some 19), none, .mov (.t 7)⟩,
  ⟨(some 20), none, .cmp .eql (.t 19) (.c (.s (.int .i64 0)))⟩,
  ⟨(some 18), none, .mov (.t 20)⟩]
def c93r3 : List AOper := [
  ⟨(some 6), none, .mov (.c (.s (.int .i64 (-1))))⟩]
def c93r4 : List AOper := [
  ⟨(some 22), none, .mov (.t 0)⟩,
  ⟨(some 23), none, .nilck (.t 22)⟩,
  ⟨(some 24), none, .fieldAddr 0 (.t 23)⟩,
  ⟨(some 25), none, .fieldAddr 0 (.t 24)⟩,
  ⟨(some 26), none, .load 1 false (.t 25)⟩,
  ⟨(some 27), none, .mov (.t 1)⟩,
  ⟨(some 28), none, .idxA 1 (.t 26) (.t 27)⟩,
  ⟨(some 29), none, .load 1 false (.t 28)⟩,
  ⟨(some 21), none, .mov (.t 29)⟩]
def c93r5 : List AOper := [
  ⟨(some 6), none, .mov (.c (.s (.int .i64 0)))⟩]
def c93r6 : List AOper := [
  ⟨(some 30), none, .mov (.t 0)⟩,
  ⟨(some 31), none, .nilck (.t 30)⟩,
  ⟨(some 32), none, .fieldAddr 0 (.t 31)⟩,
  ⟨(some 33), none, .fieldAddr 1 (.t 32)⟩,
  ⟨(some 34), none, .load 1 false (.t 33)⟩,
  ⟨(some 35), none, .mov (.t 1)⟩,
  ⟨(some 36), none, .idxA 1 (.t 34) (.t 35)⟩,
  ⟨(some 37), none, .load 1 false (.t 36)⟩,
  ⟨(some 38), none, .len false (.t 37)⟩,
  ⟨(some 39), none, .mov (.t 7)⟩,
  ⟨(some 40), none, .arith .sub (.t 38) (.t 39)⟩,
  ⟨(some 6), none, .mov (.t 40)⟩]
def f93 : FRow := ⟨(.seq (.reg 0 c93r0) (.seq (.reg 0 c93r1) (.seq (.block 0 (.seq (.reg 0 c93r2) (.cond (.t 18) (.seq (.reg 0 c93r3) .ret) (.seq (.reg 0 c93r4) (.cond (.t 21) (.seq (.reg 0 c93r5) .ret) .skip))))) (.seq (.reg 0 c93r6) .ret)))), [.tmp 6], 41⟩
theorem okf93 : f93.Ok Try.prog 93 := ⟨_, _, Try.func93, rfl, by kernel_rfl, by kernel_rfl, by kernel_rfl⟩

/-! 94 slices.SortFunc[[][2]int,[2]int], 2 and 0 -/
def c94r0 : List AOper := [
  ⟨(some 5), none, .mov (.t 0)⟩,
  ⟨(some 6), none, .len false (.t 5)⟩,
  ⟨(some 4), none, .mov (.t 6)⟩]
def c94r1 : List AOper := [
  ⟨(some 7), none, .mov (.t 0)⟩,
  ⟨(some 8), none, .mov (.t 4)⟩,
  ⟨(some 9), none, .mov (.t 4)⟩,
  ⟨(some 10), none, .conv .u64 (.t 9)⟩,
  ⟨(some 11), none, .call 102 [(.t 10)]⟩,
  ⟨(some 12), none, .mov (.t 1)⟩,
  ⟨(some 13), none, .callI 101 [(.t 7), (.c (.s (.int .i64 0))), (.t 8), (.t 11), (.t 12)]⟩]
def f94 : FRow := ⟨(.seq (.reg 0 c94r0) (.reg 0 c94r1)), [], 14⟩
theorem okf94 : f94.Ok Try.prog 94 := ⟨_, _, Try.func94, rfl, by kernel_rfl, by kernel_rfl, by kernel_rfl⟩

/-! 95 (*pennyfall/skill.board).fewest$1, 2 and 0 -/
def c95r0 : List AOper := [
  ⟨(some 2), none, .boxS (.t 0)⟩,
  ⟨(some 3), none, .boxS (.t 1)⟩,
  ⟨(some 4), none, .mov (.c (.s (.int .i64 0)))⟩]
def c95r1 : List AOper := [
  ⟨(some 5), none, .sliceArr 2 1 (.t 2) none none⟩,
  ⟨(some 6), none, .sliceArr 2 1 (.t 3) none none⟩,
  ⟨(some 7), none, .call 96 [(.t 5), (.t 6)]⟩,
  ⟨(some 4), none, .mov (.t 7)⟩]
def f95 : FRow := ⟨(.seq (.reg 0 c95r0) (.seq (.reg 0 c95r1) .ret)), [.tmp 4], 8⟩
theorem okf95 : f95.Ok Try.prog 95 := ⟨_, _, Try.func95, rfl, by kernel_rfl, by kernel_rfl, by kernel_rfl⟩

/-! 96 slices.Compare[[]int,int], 2 and 0 -/
def c96r0 : List AOper := [
  ⟨(some 4), none, .mov (.c (.s (.int .i64 0)))⟩]
def c96r1 : List AOper := [
  ⟨(some 9), none, .mov (.t 0)⟩,
  ⟨(some 10), none, .len false (.t 9)⟩,
  ⟨(some 11), none, .mov (.c (.s (.int .i64 0)))⟩]
def c96r2 : List AOper := [
  ⟨(some 12), none, .cmp .lss (.t 11) (.t 10)⟩]
def c96r3 : List AOper := [
  ⟨(some 13), none, .mov (.t 11)⟩,
  ⟨(some 14), none, .idxA 1 (.t 9) (.t 11)⟩,
  ⟨(some 15), none, .load 1 false (.t 14)⟩,
  ⟨(some 5), none, .mov (.t 13)⟩,
  ⟨(some 6), none, .mov (.t 15)⟩]
def c96r4 : List AOper := [
  ⟨(some 16), none, .mov (.t 5)⟩,
  ⟨(some 17), none, .mov (.t 1)⟩,
  ⟨(some 18), none, .len false (.t 17)⟩,
  ⟨(some 19), none, .cmp .geq (.t 16) (.t 18)⟩]
def c96r5 : List AOper := [
  ⟨(some 4), none, .mov (.c (.s (.int .i64 1)))⟩]
def c96r6 : List AOper := [
  ⟨(some 20), none, .mov (.t 1)⟩,
  ⟨(some 21), none, .mov (.t 5)⟩,
  ⟨(some 22), none, .idxA 1 (.t 20) (.t 21)⟩,
  ⟨(some 23), none, .load 1 false (.t 22)⟩,
  ⟨(some 7), none, .mov (.t 23)⟩]
def c96r7 : List AOper := [
  ⟨(some 24), none, .mov (.t 6)⟩,
  ⟨(some 25), none, .mov (.t 7)⟩,
  ⟨(some 26), none, .call 103 [(.t 24), (.t 25)]⟩,
  ⟨(some 8), none, .mov (.t 26)⟩]
def c96r8 : List AOper := [
  ⟨(some 27), none, .mov (.t 8)⟩,
  ⟨(some 28), none, .cmp .neq (.t 27) (.c (.s (.int .i64 0)))⟩]
def c96r9 : List AOper := [
  ⟨(some 29), none, .mov (.t 8)⟩,
  ⟨(some 4), none, .mov (.t 29)⟩]
def c96r10 : List AOper := [
  ⟨(some 30), none, .arith .add (.t 11) (.c (.s (.int .i64 1)))⟩,
  ⟨(some 11), none, .mov (.t 30)⟩]
def c96l11 : ACode := (.seq (.reg 0 c96r2) (.seq (.cond (.t 12) .skip (.exit 0)) (.seq (.block 1 (.seq (.reg 0 c96r3) (.seq (.seq (.reg 0 c96r4) (.cond (.t 19) (.seq (.reg 0 c96r5) .ret) .skip)) (.seq (.reg 0 c96r6) (.seq (.reg 0 c96r7) (.seq (.reg 0 c96r8) (.cond (.t 28) (.seq (.reg 0 c96r9) .ret) .skip))))))) (.reg 0 c96r10))))
def c96l11m : List Bool := [true, true, false, false, false, false, false, false, false, true, true, true, false, false, false, false, false, false, false, false, false, false, false, false, false, false, false, false, false, false, false, false, false, false, false, false]
def c96r12 : List AOper := [
  ⟨(some 31), none, .mov (.t 0)⟩,
  ⟨(some 32), none, .len false (.t 31)⟩,
  ⟨(some 33), none, .mov (.t 1)⟩,
  ⟨(some 34), none, .len false (.t 33)⟩,
  ⟨(some 35), none, .cmp .lss (.t 32) (.t 34)⟩]
def c96r13 : List AOper := [
  ⟨(some 4), none, .mov (.c (.s (.int .i64 (-1))))⟩]
def c96r14 : List AOper := [
  ⟨(some 4), none, .mov (.c (.s (.int .i64 0)))⟩]
def f96 : FRow := ⟨(.seq (.reg 0 c96r0) (.seq (.seq (.reg 0 c96r1) (.block 0 (.loop c96l11m [] c96l11))) (.seq (.seq (.reg 0 c96r12) (.cond (.t 35) (.seq (.reg 0 c96r13) .ret) .skip)) (.seq (.reg 0 c96r14) .ret)))), [.tmp 4], 36⟩
theorem okf96 : f96.Ok Try.prog 96 := ⟨_, _, Try.func96, rfl, by kernel_rfl, by kernel_rfl, by kernel_rfl⟩

/-! 97 (*pennyfall/skill.board).answers, 1 and 0 -/
def c97r0 : List AOper := [
  ⟨(some 1), none, .boxS (.t 0)⟩,
  ⟨(some 2), none, .mov (.c .any)⟩]
def c97r1 : List AOper := [
  ⟨(some 3), none, .mkfn 104 [] [(.t 1)]⟩,
  ⟨(some 2), none, .mov (.t 3)⟩]
def f97 : FRow := ⟨(.seq (.reg 0 c97r0) (.seq (.reg 0 c97r1) .ret)), [.tmp 2], 4⟩
theorem okf97 : f97.Ok Try.prog 97 := ⟨_, _, Try.func97, rfl, by kernel_rfl, by kernel_rfl, by kernel_rfl⟩

/-! 98 (*pennyfall/skill.board).without$1, 1 and 1 -/
def c98r0 : List AOper := [
  ⟨(some 3), none, .mov (.c (.s (.bool false)))⟩]
def c98r1 : List AOper := [
  ⟨(some 4), none, .mov (.t 0)⟩,
  ⟨(some 5), none, .fieldAddr 1 (.t 1)⟩,
  ⟨(some 6), none, .load 1 false (.t 5)⟩,
  ⟨(some 7), none, .cmp .eql (.t 4) (.t 6)⟩,
  ⟨(some 3), none, .mov (.t 7)⟩]
def f98 : FRow := ⟨(.seq (.reg 0 c98r0) (.seq (.reg 0 c98r1) .ret)), [.tmp 3], 8⟩
theorem okf98 : f98.Ok Try.prog 98 := ⟨_, _, Try.func98, rfl, by kernel_rfl, by kernel_rfl, by kernel_rfl⟩

/-! 99 pennyfall/skill.newBoard$1, 1 and 1 -/
def c99r0 : List AOper := [
  ⟨(some 3), none, .mov (.c (.s (.bool false)))⟩]
def c99r1 : List AOper := [
  ⟨(some 4), none, .mov (.t 0)⟩,
  ⟨(some 5), none, .idxArrA 14 1 (.t 1) (.t 4)⟩,
  ⟨(some 6), none, .load 1 false (.t 5)⟩,
  ⟨(some 7), none, .cmp .geq (.t 6) (.c (.s (.int .i64 0)))⟩,
  ⟨(some 3), none, .mov (.t 7)⟩]
def f99 : FRow := ⟨(.seq (.reg 0 c99r0) (.seq (.reg 0 c99r1) .ret)), [.tmp 3], 8⟩
theorem okf99 : f99.Ok Try.prog 99 := ⟨_, _, Try.func99, rfl, by kernel_rfl, by kernel_rfl, by kernel_rfl⟩

/-! 100 pennyfall/skill.marks, 2 and 0 -/
def c100r0 : List AOper := [
  ⟨(some 4), none, .mov (.c (.s (.int .i64 0)))⟩]
def c100r1 : List AOper := [
  ⟨(some 10), none, .mov (.t 0)⟩,
  ⟨(some 11), none, .len false (.t 10)⟩,
  ⟨(some 12), none, .mkslice 1 8 [(.int .i64 0)] (.t 11) (.t 11)⟩,
  ⟨(some 5), none, .mov (.t 12)⟩]
def c100r2 : List AOper := [
  ⟨(some 13), none, .mov (.t 5)⟩,
  ⟨none, none, .clear 1 [(.int .i64 0)] (.t 13)⟩]
def c100r3 : List AOper := [
  ⟨(some 14), none, .mov (.t 1)⟩,
  ⟨(some 15), none, .mkfn 105 [(.t 14)] []⟩,
  ⟨(some 6), none, .mov (.t 15)⟩]
def c100r4 : List AOper := [
  ⟨(some 7), none, .mov (.c (.s (.int .i64 0)))⟩]
def c100r5 : List AOper := [
  ⟨(some 16), none, .mov (.t 0)⟩,
  ⟨(some 17), none, .len false (.t 16)⟩,
  ⟨(some 18), none, .mov (.c (.s (.int .i64 0)))⟩]
def c100r6 : List AOper := [
  ⟨(some 19), none, .cmp .lss (.t 18) (.t 17)⟩]
def c100r7 : List AOper := [
  ⟨(some 20), none, .mov (.t 18)⟩,
  ⟨(some 21), none, .idxA 1 (.t 16) (.t 18)⟩,
  ⟨(some 22), none, .load 1 false (.t 21)⟩,
  ⟨(some 8), none, .mov (.t 20)⟩,
  ⟨(some 9), none, .mov (.t 22)⟩]
def c100r8 : List AOper := [
  ⟨(some 23), none, .mov (.t 6)⟩,
  ⟨(some 24), none, .mov (.t 9)⟩,
  ⟨(some 25), none, .callv (.t 23) [(.t 24)]⟩]
def c100r9 : List AOper := [
  ⟨(some 26), none, .mov (.t 5)⟩,
  ⟨(some 27), none, .mov (.t 8)⟩,
  ⟨(some 28), none, .idxA 1 (.t 26) (.t 27)⟩,
  ⟨(some 29), none, .load 1 false (.t 28)⟩,
  ⟨(some 30), none, .arith .add (.t 29) (.c (.s (.int .i64 1)))⟩,
  ⟨(some 31), none, .idxA 1 (.t 26) (.t 27)⟩,
  ⟨none, none, .store 1 (.t 31) (.t 30)⟩]
def c100r10 : List AOper := [
  ⟨(some 32), none, .mov (.t 7)⟩,
  ⟨(some 33), none, .mov (.t 5)⟩,
  ⟨(some 34), none, .mov (.t 8)⟩,
  ⟨(some 35), none, .idxA 1 (.t 33) (.t 34)⟩,
  ⟨(some 36), none, .load 1 false (.t 35)⟩,
  ⟨(some 37), none, .arith .add (.t 32) (.t 36)⟩,
  ⟨(some 7), none, .mov (.t 37)⟩]
def c100r11 : List AOper := [
  ⟨(some 38), none, .arith .add (.t 18) (.c (.s (.int .i64 1)))⟩,
  ⟨(some 18), none, .mov (.t 38)⟩]
def c100l12 : ACode := (.seq (.reg 0 c100r6) (.seq (.cond (.t 19) .skip (.exit 0)) (.seq (.block 1 (.seq (.reg 0 c100r7) (.seq (.seq (.reg 0 c100r8) (.cond (.t 25) (.reg 0 c100r9) .skip)) (.reg 0 c100r10)))) (.reg 0 c100r11))))
def c100l12m : List Bool := [false, false, false, false, false, true, true, true, false, false, false, false, false, false, false, false, true, true, true, false, false, false, false, false, false, false, false, false, false, false, false, false, false, false, false, false, false, false, false, false]
def c100r13 : List AOper := [
  ⟨(some 39), none, .mov (.t 7)⟩,
  ⟨(some 4), none, .mov (.t 39)⟩]
def f100 : FRow := ⟨(.seq (.reg 0 c100r0) (.seq (.reg 1 c100r1) (.seq (.reg 0 c100r2) (.seq (.reg 0 c100r3) (.seq (.reg 0 c100r4) (.seq (.seq (.reg 0 c100r5) (.block 0 (.loop c100l12m [] c100l12))) (.seq (.reg 0 c100r13) .ret))))))), [.tmp 4], 40⟩
theorem okf100 : f100.Ok Try.prog 100 := ⟨_, _, Try.func100, rfl, by kernel_rfl, by kernel_rfl, by kernel_rfl⟩

/-! 101 slices.pdqsortCmpFunc[[2]int], 5 and 0 -/
def c101r0 : List AOper := [
  ⟨(some 10), none, .mov (.c (.s (.bool true)))⟩]
def c101r1 : List AOper := [
  ⟨(some 11), none, .mov (.c (.s (.bool true)))⟩]
def c101r2 : List AOper := [
  ⟨(some 21), none, .mov (.t 2)⟩,
  ⟨(some 22), none, .mov (.t 1)⟩,
  ⟨(some 23), none, .arith .sub (.t 21) (.t 22)⟩,
  ⟨(some 12), none, .mov (.t 23)⟩]
def c101r3 : List AOper := [
  ⟨(some 24), none, .mov (.t 12)⟩,
  ⟨(some 25), none, .cmp .leq (.t 24) (.c (.s (.int .i64 12)))⟩]
def c101r4 : List AOper := [
  ⟨(some 26), none, .mov (.t 0)⟩,
  ⟨(some 27), none, .mov (.t 1)⟩,
  ⟨(some 28), none, .mov (.t 2)⟩,
  ⟨(some 29), none, .mov (.t 4)⟩,
  ⟨(some 30), none, .callI 106 [(.t 26), (.t 27), (.t 28), (.t 29)]⟩]
def c101r5 : List AOper := [
  ⟨(some 31), none, .mov (.t 3)⟩,
  ⟨(some 32), none, .cmp .eql (.t 31) (.c (.s (.int .i64 0)))⟩]
def c101r6 : List AOper := [
  ⟨(some 33), none, .mov (.t 0)⟩,
  ⟨(some 34), none, .mov (.t 1)⟩,
  ⟨(some 35), none, .mov (.t 2)⟩,
  ⟨(some 36), none, .mov (.t 4)⟩,
  ⟨(some 37), none, .callI 107 [(.t 33), (.t 34), (.t 35), (.t 36)]⟩]
def c101r7 : List AOper := [
  ⟨(some 38), none, .mov (.t 10)⟩,
  ⟨(some 39), none, .not (.t 38)⟩]
def c101r8 : List AOper := [
  ⟨(some 40), none, .mov (.t 0)⟩,
  ⟨(some 41), none, .mov (.t 1)⟩,
  ⟨(some 42), none, .mov (.t 2)⟩,
  ⟨(some 43), none, .mov (.t 4)⟩,
  ⟨(some 44), none, .callI 108 [(.t 40), (.t 41), (.t 42), (.t 43)]⟩]
def c101r9 : List AOper := [
  ⟨(some 45), none, .mov (.t 3)⟩,
  ⟨(some 46), none, .arith .sub (.t 45) (.c (.s (.int .i64 1)))⟩,
  ⟨(some 3), none, .mov (.t 46)⟩]
def c101r10 : List AOper := [
  ⟨(some 48), none, .mov (.t 0)⟩,
  ⟨(some 49), none, .mov (.t 1)⟩,
  ⟨(some 50), none, .mov (.t 2)⟩,
  ⟨(some 51), none, .mov (.t 4)⟩,
  ⟨(some 52), none, .callI 109 [(.t 48), (.t 49), (.t 50), (.t 51)]⟩,
  ⟨(some 47), none, .mov (.t 52)⟩,
  ⟨(some 53), none, .ext (.t 47) 0⟩,
  ⟨(some 54), none, .ext (.t 47) 1⟩,
  ⟨(some 13), none, .mov (.t 53)⟩,
  ⟨(some 14), none, .mov (.t 54)⟩]
def c101r11 : List AOper := [
  ⟨(some 55), none, .mov (.t 14)⟩,
  ⟨(some 56), none, .cmp .eql (.t 55) (.c (.s (.int .i64 2)))⟩]
def c101r12 : List AOper := [
  ⟨(some 57), none, .mov (.t 0)⟩,
  ⟨(some 58), none, .mov (.t 1)⟩,
  ⟨(some 59), none, .mov (.t 2)⟩,
  ⟨(some 60), none, .mov (.t 4)⟩,
  ⟨(some 61), none, .callI 110 [(.t 57), (.t 58), (.t 59), (.t 60)]⟩]
def c101r13 : List AOper := [
  ⟨(some 62), none, .mov (.t 2)⟩,
  ⟨(some 63), none, .arith .sub (.t 62) (.c (.s (.int .i64 1)))⟩,
  ⟨(some 64), none, .mov (.t 13)⟩,
  ⟨(some 65), none, .mov (.t 1)⟩,
  ⟨(some 66), none, .arith .sub (.t 64) (.t 65)⟩,
  ⟨(some 67), none, .arith .sub (.t 63) (.t 66)⟩,
  ⟨(some 13), none, .mov (.t 67)⟩]
def c101r14 : List AOper := [
  ⟨(some 14), none, .mov (.c (.s (.int .i64 1)))⟩]
def c101r15 : List AOper := [
  ⟨(some 68), none, .mov (.t 10)⟩,
  ⟨(some 69), none, .mov (.t 68)⟩,
  ⟨(some 70), (some (69, true)), .mov (.t 11)⟩,
  ⟨(some 71), none, .pick (.t 69) (.t 70) (.c (.s (.bool false)))⟩,
  ⟨(some 72), none, .mov (.t 71)⟩,
  ⟨(some 73), (some (72, true)), .mov (.t 14)⟩,
  ⟨(some 74), (some (72, true)), .cmp .eql (.t 73) (.c (.s (.int .i64 1)))⟩,
  ⟨(some 75), none, .pick (.t 72) (.t 74) (.c (.s (.bool false)))⟩]
def c101r16 : List AOper := [
  ⟨(some 76), none, .mov (.t 0)⟩,
  ⟨(some 77), none, .mov (.t 1)⟩,
  ⟨(some 78), none, .mov (.t 2)⟩,
  ⟨(some 79), none, .mov (.t 4)⟩,
  ⟨(some 80), none, .callI 111 [(.t 76), (.t 77), (.t 78), (.t 79)]⟩]
def c101r17 : List AOper := [
  ⟨(some 81), none, .mov (.t 1)⟩,
  ⟨(some 82), none, .cmp .gtr (.t 81) (.c (.s (.int .i64 0)))⟩,
  ⟨(some 83), none, .mov (.t 82)⟩,
  ⟨(some 84), (some (83, true)), .mov (.t 4)⟩,
  ⟨(some 85), (some (83, true)), .mov (.t 0)⟩,
  ⟨(some 86), (some (83, true)), .mov (.t 1)⟩,
  ⟨(some 87), (some (83, true)), .arith .sub (.t 86) (.c (.s (.int .i64 1)))⟩,
  ⟨(some 88), (some (83, true)), .idxA 2 (.t 85) (.t 87)⟩,
  ⟨(some 89), (some (83, true)), .load 2 true (.t 88)⟩,
  ⟨(some 90), (some (83, true)), .mov (.t 0)⟩,
  ⟨(some 91), (some (83, true)), .mov (.t 13)⟩,
  ⟨(some 92), (some (83, true)), .idxA 2 (.t 90) (.t 91)⟩,
  ⟨(some 93), (some (83, true)), .load 2 true (.t 92)⟩,
  ⟨(some 94), (some (83, true)), .callv (.t 84) [(.t 89), (.t 93)]⟩,
  ⟨(some 95), (some (83, true)), .cmp .lss (.t 94) (.c (.s (.int .i64 0)))⟩,
  ⟨(some 96), (some (83, true)), .not (.t 95)⟩,
  ⟨(some 97), none, .pick (.t 83) (.t 96) (.c (.s (.bool false)))⟩]
def c101r18 : List AOper := [
  ⟨(some 98), none, .mov (.t 0)⟩,
  ⟨(some 99), none, .mov (.t 1)⟩,
  ⟨(some 100), none, .mov (.t 2)⟩,
  ⟨(some 101), none, .mov (.t 13)⟩,
  ⟨(some 102), none, .mov (.t 4)⟩,
  ⟨(some 103), none, .callI 112 [(.t 98), (.t 99), (.t 100), (.t 101), (.t 102)]⟩,
  ⟨(some 15), none, .mov (.t 103)⟩]
def c101r19 : List AOper := [
  ⟨(some 104), none, .mov (.t 15)⟩,
  ⟨(some 1), none, .mov (.t 104)⟩]
def c101r20 : List AOper := [
  ⟨(some 106), none, .mov (.t 0)⟩,
  ⟨(some 107), none, .mov (.t 1)⟩,
  ⟨(some 108), none, .mov (.t 2)⟩,
  ⟨(some 109), none, .mov (.t 13)⟩,
  ⟨(some 110), none, .mov (.t 4)⟩,
  ⟨(some 111), none, .callI 113 [(.t 106), (.t 107), (.t 108), (.t 109), (.t 110)]⟩,
  ⟨(some 105), none, .mov (.t 111)⟩,
  ⟨(some 112), none, .ext (.t 105) 0⟩,
  ⟨(some 113), none, .ext (.t 105) 1⟩,
  ⟨(some 16), none, .mov (.t 112)⟩,
  ⟨(some 17), none, .mov (.t 113)⟩]
def c101r21 : List AOper := [
  ⟨(some 114), none, .mov (.t 17)⟩,
  ⟨(some 11), none, .mov (.t 114)⟩]
def c101r22 : List AOper := [
  ⟨(some 115), none, .mov (.t 16)⟩,
  ⟨(some 116), none, .mov (.t 1)⟩,
  ⟨(some 117), none, .arith .sub (.t 115) (.t 116)⟩,
  ⟨(some 118), none, .mov (.t 2)⟩,
  ⟨(some 119), none, .mov (.t 16)⟩,
  ⟨(some 120), none, .arith .sub (.t 118) (.t 119)⟩,
  ⟨(some 18), none, .mov (.t 117)⟩,
  ⟨(some 19), none, .mov (.t 120)⟩]
def c101r23 : List AOper := [
  ⟨(some 121), none, .mov (.t 12)⟩,
  ⟨(some 122), none, .div .quo (.t 121) (.c (.s (.int .i64 8)))⟩,
  ⟨(some 20), none, .mov (.t 122)⟩]
def c101r24 : List AOper := [
  ⟨(some 123), none, .mov (.t 18)⟩,
  ⟨(some 124), none, .mov (.t 19)⟩,
  ⟨(some 125), none, .cmp .lss (.t 123) (.t 124)⟩]
def c101r25 : List AOper := [
  ⟨(some 126), none, .mov (.t 18)⟩,
  ⟨(some 127), none, .mov (.t 20)⟩,
  ⟨(some 128), none, .cmp .geq (.t 126) (.t 127)⟩,
  ⟨(some 10), none, .mov (.t 128)⟩]
def c101r26 : List AOper := [
  ⟨(some 129), none, .mov (.t 0)⟩,
  ⟨(some 130), none, .mov (.t 1)⟩,
  ⟨(some 131), none, .mov (.t 16)⟩,
  ⟨(some 132), none, .mov (.t 3)⟩,
  ⟨(some 133), none, .mov (.t 4)⟩,
  ⟨(some 134), none, .callI 101 [(.t 129), (.t 130), (.t 131), (.t 132), (.t 133)]⟩]
def c101r27 : List AOper := [
  ⟨(some 135), none, .mov (.t 16)⟩,
  ⟨(some 136), none, .arith .add (.t 135) (.c (.s (.int .i64 1)))⟩,
  ⟨(some 1), none, .mov (.t 136)⟩]
def c101r28 : List AOper := [
  ⟨(some 137), none, .mov (.t 19)⟩,
  ⟨(some 138), none, .mov (.t 20)⟩,
  ⟨(some 139), none, .cmp .geq (.t 137) (.t 138)⟩,
  ⟨(some 10), none, .mov (.t 139)⟩]
def c101r29 : List AOper := [
  ⟨(some 140), none, .mov (.t 0)⟩,
  ⟨(some 141), none, .mov (.t 16)⟩,
  ⟨(some 142), none, .arith .add (.t 141) (.c (.s (.int .i64 1)))⟩,
  ⟨(some 143), none, .mov (.t 2)⟩,
  ⟨(some 144), none, .mov (.t 3)⟩,
  ⟨(some 145), none, .mov (.t 4)⟩,
  ⟨(some 146), none, .callI 101 [(.t 140), (.t 142), (.t 143), (.t 144), (.t 145)]⟩]
def c101r30 : List AOper := [
  ⟨(some 147), none, .mov (.t 16)⟩,
  ⟨(some 2), none, .mov (.t 147)⟩]
def c101l31 : ACode := (.block 1 (.seq (.reg 0 c101r2) (.seq (.seq (.reg 0 c101r3) (.cond (.t 25) (.seq (.reg 0 c101r4) .ret) .skip)) (.seq (.seq (.reg 0 c101r5) (.cond (.t 32) (.seq (.reg 0 c101r6) .ret) .skip)) (.seq (.seq (.reg 0 c101r7) (.cond (.t 39) (.seq (.reg 0 c101r8) (.reg 0 c101r9)) .skip)) (.seq (.reg 0 c101r10) (.seq (.seq (.reg 0 c101r11) (.cond (.t 56) (.seq (.reg 0 c101r12) (.seq (.reg 0 c101r13) (.reg 0 c101r14))) .skip)) (.seq (.seq (.reg 0 c101r15) (.cond (.t 75) (.seq (.reg 0 c101r16) (.cond (.t 80) .ret .skip)) .skip)) (.seq (.seq (.reg 0 c101r17) (.cond (.t 97) (.seq (.reg 0 c101r18) (.seq (.reg 0 c101r19) (.exit 1))) .skip)) (.seq (.reg 0 c101r20) (.seq (.reg 0 c101r21) (.seq (.reg 0 c101r22) (.seq (.reg 0 c101r23) (.seq (.reg 0 c101r24) (.cond (.t 125) (.seq (.reg 0 c101r25) (.seq (.reg 0 c101r26) (.reg 0 c101r27))) (.seq (.reg 0 c101r28) (.seq (.reg 0 c101r29) (.reg 0 c101r30))))))))))))))))))
def c101l31m : List Bool := [true, true, true, true, true, false, false, false, false, false, true, true, false, false, false, false, false, false, false, false, false, false, false, false, false, false, false, false, false, false, false, false, false, false, false, false, false, false, false, false, false, false, false, false, false, false, false, false, false, false, false, false, false, false, false, false, false, false, false, false, false, false, false, false, false, false, false, false, false, false, false, false, false, false, false, false, false, false, false, false, false, false, false, false, false, false, false, false, false, false, false, false, false, false, false, false, false, false, false, false, false, false, false, false, false, false, false, false, false, false, false, false, false, false, false, false, false, false, false, false, false, false, false, false, false, false, false, false, false, false, false, false, false, false, false, false, false, false, false, false, false, false, false, false, false, false, false, false]
def f101 : FRow := ⟨(.seq (.reg 0 c101r0) (.seq (.reg 0 c101r1) (.block 0 (.loop c101l31m [] c101l31)))), [], 148⟩
theorem okf101 : f101.Ok Try.prog 101 := ⟨_, _, Try.func101, rfl, by kernel_rfl, by kernel_rfl, by kernel_rfl⟩

/-! 102 math/bits.Len, 1 and 0 -/
def c102r0 : List AOper := [
  ⟨(some 2), none, .mov (.c (.s (.int .i64 0)))⟩]
def c102r1 : List AOper := [
  ⟨(some 3), none, .mov (.t 0)⟩,
  ⟨(some 4), none, .conv .u32 (.t 3)⟩,
  ⟨(some 5), none, .call 114 [(.t 4)]⟩,
  ⟨(some 2), none, .mov (.t 5)⟩]
def c102r2 : List AOper := [
  ⟨(some 6), none, .mov (.t 0)⟩,
  ⟨(some 7), none, .call 115 [(.t 6)]⟩,
  ⟨(some 2), none, .mov (.t 7)⟩]
def f102 : FRow := ⟨(.seq (.reg 0 c102r0) (.seq (.cond (.c (.s (.bool false))) (.seq (.reg 0 c102r1) .ret) .skip) (.seq (.reg 0 c102r2) .ret))), [.tmp 2], 8⟩
theorem okf102 : f102.Ok Try.prog 102 := ⟨_, _, Try.func102, rfl, by kernel_rfl, by kernel_rfl, by kernel_rfl⟩

/-! 103 cmp.Compare[int], 2 and 0 -/
def c103r0 : List AOper := [
  ⟨(some 4), none, .mov (.c (.s (.int .i64 0)))⟩]
def c103r1 : List AOper := [
  ⟨(some 7), none, .mov (.t 0)⟩,
  ⟨(some 8), none, .call 116 [(.t 7)]⟩,
  ⟨(some 5), none, .mov (.t 8)⟩]
def c103r2 : List AOper := [
  ⟨(some 9), none, .mov (.t 1)⟩,
  ⟨(some 10), none, .call 116 [(.t 9)]⟩,
  ⟨(some 6), none, .mov (.t 10)⟩]
def c103r3 : List AOper := [
  ⟨(some 11), none, .mov (.t 5)⟩]
def c103r4 : List AOper := [
  ⟨(some 12), none, .mov (.t 6)⟩]
def c103r5 : List AOper := [
  ⟨(some 4), none, .mov (.c (.s (.int .i64 0)))⟩]
def c103r6 : List AOper := [
  ⟨(some 4), none, .mov (.c (.s (.int .i64 (-1))))⟩]
def c103r7 : List AOper := [
  ⟨(some 13), none, .mov (.t 6)⟩]
def c103r8 : List AOper := [
  ⟨(some 4), none, .mov (.c (.s (.int .i64 1)))⟩]
def c103r9 : List AOper := [
  ⟨(some 14), none, .mov (.t 0)⟩,
  ⟨(some 15), none, .mov (.t 1)⟩,
  ⟨(some 16), none, .cmp .lss (.t 14) (.t 15)⟩]
def c103r10 : List AOper := [
  ⟨(some 4), none, .mov (.c (.s (.int .i64 (-1))))⟩]
def c103r11 : List AOper := [
  ⟨(some 17), none, .mov (.t 0)⟩,
  ⟨(some 18), none, .mov (.t 1)⟩,
  ⟨(some 19), none, .cmp .gtr (.t 17) (.t 18)⟩]
def c103r12 : List AOper := [
  ⟨(some 4), none, .mov (.c (.s (.int .i64 1)))⟩]
def c103r13 : List AOper := [
  ⟨(some 4), none, .mov (.c (.s (.int .i64 0)))⟩]
def f103 : FRow := ⟨(.seq (.reg 0 c103r0) (.seq (.reg 0 c103r1) (.seq (.reg 0 c103r2) (.seq (.seq (.reg 0 c103r3) (.cond (.t 11) (.seq (.seq (.reg 0 c103r4) (.cond (.t 12) (.seq (.reg 0 c103r5) .ret) .skip)) (.seq (.reg 0 c103r6) .ret)) .skip)) (.seq (.seq (.reg 0 c103r7) (.cond (.t 13) (.seq (.reg 0 c103r8) .ret) .skip)) (.seq (.seq (.reg 0 c103r9) (.cond (.t 16) (.seq (.reg 0 c103r10) .ret) .skip)) (.seq (.seq (.reg 0 c103r11) (.cond (.t 19) (.seq (.reg 0 c103r12) .ret) .skip)) (.seq (.reg 0 c103r13) .ret)))))))), [.tmp 4], 20⟩
theorem okf103 : f103.Ok Try.prog 103 := ⟨_, _, Try.func103, rfl, by kernel_rfl, by kernel_rfl, by kernel_rfl⟩

/-! 104 (*pennyfall/skill.board).answers$1, 1 and 1 -/
def c104r0 : List AOper := [
  ⟨(some 7), none, .load 1 false (.t 1)⟩,
  ⟨(some 8), none, .nilck (.t 7)⟩,
  ⟨(some 9), none, .fieldAddr 0 (.t 8)⟩,
  ⟨(some 10), none, .fieldAddr 1 (.t 9)⟩,
  ⟨(some 11), none, .load 1 false (.t 10)⟩,
  ⟨(some 12), none, .len false (.t 11)⟩,
  ⟨(some 13), none, .mov (.c (.s (.int .i64 0)))⟩]
def c104r1 : List AOper := [
  ⟨(some 14), none, .cmp .lss (.t 13) (.t 12)⟩]
def c104r2 : List AOper := [
  ⟨(some 15), none, .mov (.t 13)⟩,
  ⟨(some 16), none, .idxA 1 (.t 11) (.t 13)⟩,
  ⟨(some 17), none, .load 1 false (.t 16)⟩,
  ⟨(some 3), none, .mov (.t 15)⟩,
  ⟨(some 4), none, .mov (.t 17)⟩]
def c104r3 : List AOper := [
  ⟨(some 18), none, .mov (.t 4)⟩,
  ⟨(some 19), none, .len false (.t 18)⟩,
  ⟨(some 20), none, .mov (.c (.s (.int .i64 0)))⟩]
def c104r4 : List AOper := [
  ⟨(some 21), none, .cmp .lss (.t 20) (.t 19)⟩]
def c104r5 : List AOper := [
  ⟨(some 22), none, .idxA 1 (.t 18) (.t 20)⟩,
  ⟨(some 23), none, .load 1 false (.t 22)⟩,
  ⟨(some 6), none, .mov (.t 23)⟩]
def c104r6 : List AOper := [
  ⟨(some 24), none, .load 1 false (.t 1)⟩,
  ⟨(some 25), none, .nilck (.t 24)⟩,
  ⟨(some 26), none, .fieldAddr 0 (.t 25)⟩,
  ⟨(some 27), none, .fieldAddr 0 (.t 26)⟩,
  ⟨(some 28), none, .load 1 false (.t 27)⟩,
  ⟨(some 29), none, .mov (.t 3)⟩,
  ⟨(some 30), none, .idxA 1 (.t 28) (.t 29)⟩,
  ⟨(some 31), none, .load 1 false (.t 30)⟩,
  ⟨(some 32), none, .not (.t 31)⟩,
  ⟨(some 33), none, .mov (.t 32)⟩,
  ⟨(some 34), (some (33, true)), .load 1 false (.t 1)⟩,
  ⟨(some 35), (some (33, true)), .nilck (.t 34)⟩,
  ⟨(some 36), (some (33, true)), .fieldAddr 0 (.t 35)⟩,
  ⟨(some 37), (some (33, true)), .fieldAddr 2 (.t 36)⟩,
  ⟨(some 38), (some (33, true)), .load 1 false (.t 37)⟩,
  ⟨(some 39), (some (33, true)), .mov (.t 3)⟩,
  ⟨(some 40), (some (33, true)), .idxA 1 (.t 38) (.t 39)⟩,
  ⟨(some 41), (some (33, true)), .load 1 false (.t 40)⟩,
  ⟨(some 42), (some (33, true)), .not (.t 41)⟩,
  ⟨(some 43), none, .pick (.t 33) (.t 42) (.c (.s (.bool false)))⟩,
  ⟨(some 44), none, .mov (.t 43)⟩,
  ⟨(some 45), (some (44, true)), .mov (.t 0)⟩,
  ⟨(some 46), (some (44, true)), .mov (.t 3)⟩,
  ⟨(some 47), (some (44, true)), .mov (.t 6)⟩,
  ⟨(some 48), (some (44, true)), .build [(.s (.int .i64 0)), (.s (.int .i64 0))] [(0, 1, (.t 46)), (1, 1, (.t 47))]⟩,
  ⟨(some 49), (some (44, true)), .callv (.t 45) [(.t 48)]⟩,
  ⟨(some 50), (some (44, true)), .not (.t 49)⟩,
  ⟨(some 51), none, .pick (.t 44) (.t 50) (.c (.s (.bool false)))⟩]
def c104r7 : List AOper := [
  ⟨(some 52), none, .arith .add (.t 20) (.c (.s (.int .i64 1)))⟩,
  ⟨(some 20), none, .mov (.t 52)⟩]
def c104l8 : ACode := (.seq (.reg 0 c104r4) (.seq (.cond (.t 21) .skip (.exit 2)) (.seq (.block 3 (.seq (.reg 0 c104r5) (.seq (.reg 0 c104r6) (.cond (.t 51) .ret .skip)))) (.reg 0 c104r7))))
def c104l8m : List Bool := [true, true, false, true, false, false, false, false, false, false, false, true, true, true, false, false, false, false, true, true, true, false, false, false, false, false, false, false, false, false, false, false, false, false, false, false, false, false, false, false, false, false, false, false, false, false, false, false, false, false, false, false, false, false]
def c104r9 : List AOper := [
  ⟨(some 53), none, .arith .add (.t 13) (.c (.s (.int .i64 1)))⟩,
  ⟨(some 13), none, .mov (.t 53)⟩]
def c104l10 : ACode := (.seq (.reg 0 c104r1) (.seq (.cond (.t 14) .skip (.exit 0)) (.seq (.block 1 (.seq (.reg 0 c104r2) (.seq (.reg 0 c104r3) (.block 2 (.loop c104l8m [] c104l8))))) (.reg 0 c104r9))))
def c104l10m : List Bool := [true, true, false, false, false, false, false, false, false, false, false, true, true, true, false, false, false, false, false, false, false, false, false, false, false, false, false, false, false, false, false, false, false, false, false, false, false, false, false, false, false, false, false, false, false, false, false, false, false, false, false, false, false, false]
def f104 : FRow := ⟨(.seq (.reg 0 c104r0) (.block 0 (.loop c104l10m [] c104l10))), [], 54⟩
theorem okf104 : f104.Ok Try.prog 104 := ⟨_, _, Try.func104, rfl, by kernel_rfl, by kernel_rfl, by kernel_rfl⟩

/-! 105 (pennyfall/skill.bits).has, 2 and 0 -/
def c105r0 : List AOper := [
  ⟨(some 4), none, .mov (.c (.s (.bool false)))⟩]
def c105r1 : List AOper := [
  ⟨(some 5), none, .mov (.t 0)⟩,
  ⟨(some 6), none, .mov (.t 1)⟩,
  ⟨(some 7), none, .shift .shr (.t 5) (.t 6)⟩,
  ⟨(some 8), none, .bits .and (.t 7) (.c (.s (.int .i64 1)))⟩,
  ⟨(some 9), none, .cmp .eql (.t 8) (.c (.s (.int .i64 1)))⟩,
  ⟨(some 4), none, .mov (.t 9)⟩]
def f105 : FRow := ⟨(.seq (.reg 0 c105r0) (.seq (.reg 0 c105r1) .ret)), [.tmp 4], 10⟩
theorem okf105 : f105.Ok Try.prog 105 := ⟨_, _, Try.func105, rfl, by kernel_rfl, by kernel_rfl, by kernel_rfl⟩

/-! 106 slices.insertionSortCmpFunc[[2]int], 4 and 0 -/
def c106r0 : List AOper := [
  ⟨(some 10), none, .mov (.t 1)⟩,
  ⟨(some 11), none, .arith .add (.t 10) (.c (.s (.int .i64 1)))⟩,
  ⟨(some 8), none, .mov (.t 11)⟩]
def c106r1 : List AOper := [
  ⟨(some 12), none, .mov (.t 8)⟩,
  ⟨(some 13), none, .mov (.t 2)⟩,
  ⟨(some 14), none, .cmp .lss (.t 12) (.t 13)⟩]
def c106r2 : List AOper := [
  ⟨(some 17), none, .mov (.t 8)⟩,
  ⟨(some 9), none, .mov (.t 17)⟩]
def c106r3 : List AOper := [
  ⟨(some 18), none, .mov (.t 9)⟩,
  ⟨(some 19), none, .mov (.t 1)⟩,
  ⟨(some 20), none, .cmp .gtr (.t 18) (.t 19)⟩,
  ⟨(some 21), none, .mov (.t 20)⟩,
  ⟨(some 22), (some (21, true)), .mov (.t 3)⟩,
  ⟨(some 23), (some (21, true)), .mov (.t 0)⟩,
  ⟨(some 24), (some (21, true)), .mov (.t 9)⟩,
  ⟨(some 25), (some (21, true)), .idxA 2 (.t 23) (.t 24)⟩,
  ⟨(some 26), (some (21, true)), .load 2 true (.t 25)⟩,
  ⟨(some 27), (some (21, true)), .mov (.t 0)⟩,
  ⟨(some 28), (some (21, true)), .mov (.t 9)⟩,
  ⟨(some 29), (some (21, true)), .arith .sub (.t 28) (.c (.s (.int .i64 1)))⟩,
  ⟨(some 30), (some (21, true)), .idxA 2 (.t 27) (.t 29)⟩,
  ⟨(some 31), (some (21, true)), .load 2 true (.t 30)⟩,
  ⟨(some 32), (some (21, true)), .callv (.t 22) [(.t 26), (.t 31)]⟩,
  ⟨(some 33), (some (21, true)), .cmp .lss (.t 32) (.c (.s (.int .i64 0)))⟩,
  ⟨(some 34), none, .pick (.t 21) (.t 33) (.c (.s (.bool false)))⟩]
def c106r4 : List AOper := [
  ⟨(some 37), none, .mov (.t 0)⟩,
  ⟨(some 38), none, .mov (.t 9)⟩,
  ⟨(some 39), none, .mov (.t 0)⟩,
  ⟨(some 40), none, .mov (.t 9)⟩,
  ⟨(some 41), none, .arith .sub (.t 40) (.c (.s (.int .i64 1)))⟩,
  ⟨(some 42), none, .mov (.t 0)⟩,
  ⟨(some 43), none, .mov (.t 9)⟩,
  ⟨(some 44), none, .arith .sub (.t 43) (.c (.s (.int .i64 1)))⟩,
  ⟨(some 45), none, .idxA 2 (.t 42) (.t 44)⟩,
  ⟨(some 46), none, .load 2 true (.t 45)⟩,
  ⟨(some 47), none, .mov (.t 0)⟩,
  ⟨(some 48), none, .mov (.t 9)⟩,
  ⟨(some 49), none, .idxA 2 (.t 47) (.t 48)⟩,
  ⟨(some 50), none, .load 2 true (.t 49)⟩,
  ⟨(some 51), none, .idxA 2 (.t 37) (.t 38)⟩,
  ⟨none, none, .store 2 (.t 51) (.t 46)⟩,
  ⟨(some 52), none, .idxA 2 (.t 39) (.t 41)⟩,
  ⟨none, none, .store 2 (.t 52) (.t 50)⟩]
def c106r5 : List AOper := [
  ⟨(some 35), none, .mov (.t 9)⟩,
  ⟨(some 36), none, .arith .sub (.t 35) (.c (.s (.int .i64 1)))⟩,
  ⟨(some 9), none, .mov (.t 36)⟩]
def c106l6 : ACode := (.seq (.seq (.reg 0 c106r3) (.cond (.t 34) .skip (.exit 2))) (.seq (.block 3 (.reg 0 c106r4)) (.reg 0 c106r5)))
def c106l6m : List Bool := [true, true, true, true, false, false, false, false, true, true, false, false, false, false, false, false, false, false, false, false, false, false, false, false, false, false, false, false, false, false, false, false, false, false, false, false, false, false, false, false, false, false, false, false, false, false, false, false, false, false, false, false, false]
def c106r7 : List AOper := [
  ⟨(some 15), none, .mov (.t 8)⟩,
  ⟨(some 16), none, .arith .add (.t 15) (.c (.s (.int .i64 1)))⟩,
  ⟨(some 8), none, .mov (.t 16)⟩]
def c106l8 : ACode := (.seq (.seq (.reg 0 c106r1) (.cond (.t 14) .skip (.exit 0))) (.seq (.block 1 (.seq (.reg 0 c106r2) (.block 2 (.loop c106l6m [] c106l6)))) (.reg 0 c106r7)))
def c106l8m : List Bool := [true, true, true, true, false, false, false, false, true, false, false, false, false, false, false, false, false, false, false, false, false, false, false, false, false, false, false, false, false, false, false, false, false, false, false, false, false, false, false, false, false, false, false, false, false, false, false, false, false, false, false, false, false]
def f106 : FRow := ⟨(.seq (.reg 0 c106r0) (.block 0 (.loop c106l8m [] c106l8))), [], 53⟩
theorem okf106 : f106.Ok Try.prog 106 := ⟨_, _, Try.func106, rfl, by kernel_rfl, by kernel_rfl, by kernel_rfl⟩

/-! 107 slices.heapSortCmpFunc[[2]int], 4 and 0 -/
def c107r0 : List AOper := [
  ⟨(some 13), none, .mov (.t 1)⟩,
  ⟨(some 8), none, .mov (.t 13)⟩]
def c107r1 : List AOper := [
  ⟨(some 9), none, .mov (.c (.s (.int .i64 0)))⟩]
def c107r2 : List AOper := [
  ⟨(some 14), none, .mov (.t 2)⟩,
  ⟨(some 15), none, .mov (.t 1)⟩,
  ⟨(some 16), none, .arith .sub (.t 14) (.t 15)⟩,
  ⟨(some 10), none, .mov (.t 16)⟩]
def c107r3 : List AOper := [
  ⟨(some 17), none, .mov (.t 10)⟩,
  ⟨(some 18), none, .arith .sub (.t 17) (.c (.s (.int .i64 1)))⟩,
  ⟨(some 19), none, .div .quo (.t 18) (.c (.s (.int .i64 2)))⟩,
  ⟨(some 11), none, .mov (.t 19)⟩]
def c107r4 : List AOper := [
  ⟨(some 20), none, .mov (.t 11)⟩,
  ⟨(some 21), none, .cmp .geq (.t 20) (.c (.s (.int .i64 0)))⟩]
def c107r5 : List AOper := [
  ⟨(some 24), none, .mov (.t 0)⟩,
  ⟨(some 25), none, .mov (.t 11)⟩,
  ⟨(some 26), none, .mov (.t 10)⟩,
  ⟨(some 27), none, .mov (.t 8)⟩,
  ⟨(some 28), none, .mov (.t 3)⟩,
  ⟨(some 29), none, .callI 117 [(.t 24), (.t 25), (.t 26), (.t 27), (.t 28)]⟩]
def c107r6 : List AOper := [
  ⟨(some 22), none, .mov (.t 11)⟩,
  ⟨(some 23), none, .arith .sub (.t 22) (.c (.s (.int .i64 1)))⟩,
  ⟨(some 11), none, .mov (.t 23)⟩]
def c107l7 : ACode := (.seq (.seq (.reg 0 c107r4) (.cond (.t 21) .skip (.exit 0))) (.seq (.block 1 (.reg 0 c107r5)) (.reg 0 c107r6)))
def c107l7m : List Bool := [true, false, false, true, false, false, false, false, true, true, true, true, false, false, false, false, false, false, false, false, false, false, false, false, false, false, false, false, false, false, false, false, false, false, false, false, false, false, false, false, false, false, false, false, false, false, false, false, false, false, false, false, false, false, false, false, false, false, false, false]
def c107r8 : List AOper := [
  ⟨(some 30), none, .mov (.t 10)⟩,
  ⟨(some 31), none, .arith .sub (.t 30) (.c (.s (.int .i64 1)))⟩,
  ⟨(some 12), none, .mov (.t 31)⟩]
def c107r9 : List AOper := [
  ⟨(some 32), none, .mov (.t 12)⟩,
  ⟨(some 33), none, .cmp .geq (.t 32) (.c (.s (.int .i64 0)))⟩]
def c107r10 : List AOper := [
  ⟨(some 36), none, .mov (.t 0)⟩,
  ⟨(some 37), none, .mov (.t 8)⟩,
  ⟨(some 38), none, .mov (.t 0)⟩,
  ⟨(some 39), none, .mov (.t 8)⟩,
  ⟨(some 40), none, .mov (.t 12)⟩,
  ⟨(some 41), none, .arith .add (.t 39) (.t 40)⟩,
  ⟨(some 42), none, .mov (.t 0)⟩,
  ⟨(some 43), none, .mov (.t 8)⟩,
  ⟨(some 44), none, .mov (.t 12)⟩,
  ⟨(some 45), none, .arith .add (.t 43) (.t 44)⟩,
  ⟨(some 46), none, .idxA 2 (.t 42) (.t 45)⟩,
  ⟨(some 47), none, .load 2 true (.t 46)⟩,
  ⟨(some 48), none, .mov (.t 0)⟩,
  ⟨(some 49), none, .mov (.t 8)⟩,
  ⟨(some 50), none, .idxA 2 (.t 48) (.t 49)⟩,
  ⟨(some 51), none, .load 2 true (.t 50)⟩,
  ⟨(some 52), none, .idxA 2 (.t 36) (.t 37)⟩,
  ⟨none, none, .store 2 (.t 52) (.t 47)⟩,
  ⟨(some 53), none, .idxA 2 (.t 38) (.t 41)⟩,
  ⟨none, none, .store 2 (.t 53) (.t 51)⟩]
def c107r11 : List AOper := [
  ⟨(some 54), none, .mov (.t 0)⟩,
  ⟨(some 55), none, .mov (.t 9)⟩,
  ⟨(some 56), none, .mov (.t 12)⟩,
  ⟨(some 57), none, .mov (.t 8)⟩,
  ⟨(some 58), none, .mov (.t 3)⟩,
  ⟨(some 59), none, .callI 117 [(.t 54), (.t 55), (.t 56), (.t 57), (.t 58)]⟩]
def c107r12 : List AOper := [
  ⟨(some 34), none, .mov (.t 12)⟩,
  ⟨(some 35), none, .arith .sub (.t 34) (.c (.s (.int .i64 1)))⟩,
  ⟨(some 12), none, .mov (.t 35)⟩]
def c107l13 : ACode := (.seq (.seq (.reg 0 c107r9) (.cond (.t 33) .skip (.exit 2))) (.seq (.block 3 (.seq (.reg 0 c107r10) (.reg 0 c107r11))) (.reg 0 c107r12)))
def c107l13m : List Bool := [true, false, false, true, false, false, false, false, true, true, false, false, true, false, false, false, false, false, false, false, false, false, false, false, false, false, false, false, false, false, false, false, false, false, false, false, false, false, false, false, false, false, false, false, false, false, false, false, false, false, false, false, false, false, false, false, false, false, false, false]
def f107 : FRow := ⟨(.seq (.reg 0 c107r0) (.seq (.reg 0 c107r1) (.seq (.reg 0 c107r2) (.seq (.seq (.reg 0 c107r3) (.block 0 (.loop c107l7m [] c107l7))) (.seq (.reg 0 c107r8) (.block 2 (.loop c107l13m [] c107l13))))))), [], 60⟩
theorem okf107 : f107.Ok Try.prog 107 := ⟨_, _, Try.func107, rfl, by kernel_rfl, by kernel_rfl, by kernel_rfl⟩

/-! 108 slices.breakPatternsCmpFunc[[2]int], 4 and 0 -/
def c108r0 : List AOper := [
  ⟨(some 13), none, .mov (.t 2)⟩,
  ⟨(some 14), none, .mov (.t 1)⟩,
  ⟨(some 15), none, .arith .sub (.t 13) (.t 14)⟩,
  ⟨(some 8), none, .mov (.t 15)⟩]
def c108r1 : List AOper := [
  ⟨(some 16), none, .mov (.t 8)⟩,
  ⟨(some 17), none, .cmp .geq (.t 16) (.c (.s (.int .i64 8)))⟩]
def c108r2 : List AOper := [
  ⟨(some 18), none, .mov (.t 8)⟩,
  ⟨(some 19), none, .conv .u64 (.t 18)⟩,
  ⟨(some 9), none, .alloc [(.s (.int .u64 0))]⟩,
  ⟨none, none, .store 1 (.t 9) (.t 19)⟩]
def c108r3 : List AOper := [
  ⟨(some 20), none, .mov (.t 8)⟩,
  ⟨(some 21), none, .call 118 [(.t 20)]⟩,
  ⟨(some 10), none, .mov (.t 21)⟩]
def c108r4 : List AOper := [
  ⟨(some 22), none, .mov (.t 1)⟩,
  ⟨(some 23), none, .mov (.t 8)⟩,
  ⟨(some 24), none, .div .quo (.t 23) (.c (.s (.int .i64 4)))⟩,
  ⟨(some 25), none, .arith .mul (.t 24) (.c (.s (.int .i64 2)))⟩,
  ⟨(some 26), none, .arith .add (.t 22) (.t 25)⟩,
  ⟨(some 27), none, .arith .sub (.t 26) (.c (.s (.int .i64 1)))⟩,
  ⟨(some 11), none, .mov (.t 27)⟩]
def c108r5 : List AOper := [
  ⟨(some 28), none, .mov (.t 11)⟩,
  ⟨(some 29), none, .mov (.t 1)⟩,
  ⟨(some 30), none, .mov (.t 8)⟩,
  ⟨(some 31), none, .div .quo (.t 30) (.c (.s (.int .i64 4)))⟩,
  ⟨(some 32), none, .arith .mul (.t 31) (.c (.s (.int .i64 2)))⟩,
  ⟨(some 33), none, .arith .add (.t 29) (.t 32)⟩,
  ⟨(some 34), none, .arith .add (.t 33) (.c (.s (.int .i64 1)))⟩,
  ⟨(some 35), none, .cmp .leq (.t 28) (.t 34)⟩]
def c108r6 : List AOper := [
  ⟨(some 38), none, .call 119 [(.t 9)]⟩,
  ⟨(some 39), none, .mov (.t 10)⟩,
  ⟨(some 40), none, .arith .sub (.t 39) (.c (.s (.int .u64 1)))⟩,
  ⟨(some 41), none, .bits .and (.t 38) (.t 40)⟩,
  ⟨(some 42), none, .conv .i64 (.t 41)⟩,
  ⟨(some 12), none, .mov (.t 42)⟩]
def c108r7 : List AOper := [
  ⟨(some 43), none, .mov (.t 12)⟩,
  ⟨(some 44), none, .mov (.t 8)⟩,
  ⟨(some 45), none, .cmp .geq (.t 43) (.t 44)⟩]
def c108r8 : List AOper := [
  ⟨(some 46), none, .mov (.t 12)⟩,
  ⟨(some 47), none, .mov (.t 8)⟩,
  ⟨(some 48), none, .arith .sub (.t 46) (.t 47)⟩,
  ⟨(some 12), none, .mov (.t 48)⟩]
def c108r9 : List AOper := [
  ⟨(some 49), none, .mov (.t 0)⟩,
  ⟨(some 50), none, .mov (.t 11)⟩,
  ⟨(some 51), none, .mov (.t 0)⟩,
  ⟨(some 52), none, .mov (.t 1)⟩,
  ⟨(some 53), none, .mov (.t 12)⟩,
  ⟨(some 54), none, .arith .add (.t 52) (.t 53)⟩,
  ⟨(some 55), none, .mov (.t 0)⟩,
  ⟨(some 56), none, .mov (.t 1)⟩,
  ⟨(some 57), none, .mov (.t 12)⟩,
  ⟨(some 58), none, .arith .add (.t 56) (.t 57)⟩,
  ⟨(some 59), none, .idxA 2 (.t 55) (.t 58)⟩,
  ⟨(some 60), none, .load 2 true (.t 59)⟩,
  ⟨(some 61), none, .mov (.t 0)⟩,
  ⟨(some 62), none, .mov (.t 11)⟩,
  ⟨(some 63), none, .idxA 2 (.t 61) (.t 62)⟩,
  ⟨(some 64), none, .load 2 true (.t 63)⟩,
  ⟨(some 65), none, .idxA 2 (.t 49) (.t 50)⟩,
  ⟨none, none, .store 2 (.t 65) (.t 60)⟩,
  ⟨(some 66), none, .idxA 2 (.t 51) (.t 54)⟩,
  ⟨none, none, .store 2 (.t 66) (.t 64)⟩]
def c108r10 : List AOper := [
  ⟨(some 36), none, .mov (.t 11)⟩,
  ⟨(some 37), none, .arith .add (.t 36) (.c (.s (.int .i64 1)))⟩,
  ⟨(some 11), none, .mov (.t 37)⟩]
def c108l11 : ACode := (.seq (.seq (.reg 0 c108r5) (.cond (.t 35) .skip (.exit 0))) (.seq (.block 1 (.seq (.reg 0 c108r6) (.seq (.seq (.reg 0 c108r7) (.cond (.t 45) (.reg 0 c108r8) .skip)) (.reg 0 c108r9)))) (.reg 0 c108r10)))
def c108l11m : List Bool := [true, true, false, false, false, false, false, false, true, true, true, true, false, false, false, false, false, false, false, false, false, false, false, false, false, false, false, false, false, false, false, false, false, false, false, false, false, false, false, false, false, false, false, false, false, false, false, false, false, false, false, false, false, false, false, false, false, false, false, false, false, false, false, false, false, false, false]
def f108 : FRow := ⟨(.seq (.reg 0 c108r0) (.seq (.reg 0 c108r1) (.cond (.t 17) (.seq (.reg 1 c108r2) (.seq (.reg 0 c108r3) (.seq (.reg 0 c108r4) (.block 0 (.loop c108l11m [] c108l11))))) .skip))), [], 67⟩
theorem okf108 : f108.Ok Try.prog 108 := ⟨_, _, Try.func108, rfl, by kernel_rfl, by kernel_rfl, by kernel_rfl⟩

/-! 109 slices.choosePivotCmpFunc[[2]int], 4 and 0 -/
def c109r0 : List AOper := [
  ⟨(some 8), none, .mov (.c (.s (.int .i64 0)))⟩,
  ⟨(some 9), none, .mov (.c (.s (.int .i64 0)))⟩]
def c109r1 : List AOper := [
  ⟨(some 15), none, .mov (.t 2)⟩,
  ⟨(some 16), none, .mov (.t 1)⟩,
  ⟨(some 17), none, .arith .sub (.t 15) (.t 16)⟩,
  ⟨(some 10), none, .mov (.t 17)⟩]
def c109r2 : List AOper := [
  ⟨(some 11), none, .alloc [(.s (.int .i64 0))]⟩]
def c109r3 : List AOper := [
  ⟨(some 18), none, .mov (.t 1)⟩,
  ⟨(some 19), none, .mov (.t 10)⟩,
  ⟨(some 20), none, .div .quo (.t 19) (.c (.s (.int .i64 4)))⟩,
  ⟨(some 21), none, .arith .mul (.t 20) (.c (.s (.int .i64 1)))⟩,
  ⟨(some 22), none, .arith .add (.t 18) (.t 21)⟩,
  ⟨(some 12), none, .mov (.t 22)⟩]
def c109r4 : List AOper := [
  ⟨(some 23), none, .mov (.t 1)⟩,
  ⟨(some 24), none, .mov (.t 10)⟩,
  ⟨(some 25), none, .div .quo (.t 24) (.c (.s (.int .i64 4)))⟩,
  ⟨(some 26), none, .arith .mul (.t 25) (.c (.s (.int .i64 2)))⟩,
  ⟨(some 27), none, .arith .add (.t 23) (.t 26)⟩,
  ⟨(some 13), none, .mov (.t 27)⟩]
def c109r5 : List AOper := [
  ⟨(some 28), none, .mov (.t 1)⟩,
  ⟨(some 29), none, .mov (.t 10)⟩,
  ⟨(some 30), none, .div .quo (.t 29) (.c (.s (.int .i64 4)))⟩,
  ⟨(some 31), none, .arith .mul (.t 30) (.c (.s (.int .i64 3)))⟩,
  ⟨(some 32), none, .arith .add (.t 28) (.t 31)⟩,
  ⟨(some 14), none, .mov (.t 32)⟩]
def c109r6 : List AOper := [
  ⟨(some 33), none, .mov (.t 10)⟩,
  ⟨(some 34), none, .cmp .geq (.t 33) (.c (.s (.int .i64 8)))⟩]
def c109r7 : List AOper := [
  ⟨(some 35), none, .mov (.t 10)⟩,
  ⟨(some 36), none, .cmp .geq (.t 35) (.c (.s (.int .i64 50)))⟩]
def c109r8 : List AOper := [
  ⟨(some 37), none, .mov (.t 0)⟩,
  ⟨(some 38), none, .mov (.t 12)⟩,
  ⟨(some 39), none, .mov (.t 3)⟩,
  ⟨(some 40), none, .callI 120 [(.t 37), (.t 38), (.t 11), (.t 39)]⟩,
  ⟨(some 12), none, .mov (.t 40)⟩]
def c109r9 : List AOper := [
  ⟨(some 41), none, .mov (.t 0)⟩,
  ⟨(some 42), none, .mov (.t 13)⟩,
  ⟨(some 43), none, .mov (.t 3)⟩,
  ⟨(some 44), none, .callI 120 [(.t 41), (.t 42), (.t 11), (.t 43)]⟩,
  ⟨(some 13), none, .mov (.t 44)⟩]
def c109r10 : List AOper := [
  ⟨(some 45), none, .mov (.t 0)⟩,
  ⟨(some 46), none, .mov (.t 14)⟩,
  ⟨(some 47), none, .mov (.t 3)⟩,
  ⟨(some 48), none, .callI 120 [(.t 45), (.t 46), (.t 11), (.t 47)]⟩,
  ⟨(some 14), none, .mov (.t 48)⟩]
def c109r11 : List AOper := [
  ⟨(some 49), none, .mov (.t 0)⟩,
  ⟨(some 50), none, .mov (.t 12)⟩,
  ⟨(some 51), none, .mov (.t 13)⟩,
  ⟨(some 52), none, .mov (.t 14)⟩,
  ⟨(some 53), none, .mov (.t 3)⟩,
  ⟨(some 54), none, .callI 121 [(.t 49), (.t 50), (.t 51), (.t 52), (.t 11), (.t 53)]⟩,
  ⟨(some 13), none, .mov (.t 54)⟩]
def c109r12 : List AOper := [
  ⟨(some 55), none, .load 1 false (.t 11)⟩]
def c109r13 : List AOper := [
  ⟨(some 58), none, .cmp .eql (.t 55) (.c (.s (.int .i64 0)))⟩,
  ⟨(some 57), none, .mov (.t 58)⟩]
def c109r14 : List AOper := [
  ⟨(some 59), none, .mov (.t 13)⟩,
  ⟨(some 8), none, .mov (.t 59)⟩,
  ⟨(some 9), none, .mov (.c (.s (.int .i64 1)))⟩]
def c109r15 : List AOper := [
  ⟨(some 61), none, .cmp .eql (.t 55) (.c (.s (.int .i64 12)))⟩,
  ⟨(some 60), none, .mov (.t 61)⟩]
def c109r16 : List AOper := [
  ⟨(some 62), none, .mov (.t 13)⟩,
  ⟨(some 8), none, .mov (.t 62)⟩,
  ⟨(some 9), none, .mov (.c (.s (.int .i64 2)))⟩]
def c109r17 : List AOper := [
  ⟨(some 56), none, .mov (.t 13)⟩,
  ⟨(some 8), none, .mov (.t 56)⟩,
  ⟨(some 9), none, .mov (.c (.s (.int .i64 0)))⟩]
def f109 : FRow := ⟨(.seq (.reg 0 c109r0) (.seq (.reg 0 c109r1) (.seq (.reg 1 c109r2) (.seq (.reg 0 c109r3) (.seq (.reg 0 c109r4) (.seq (.reg 0 c109r5) (.seq (.seq (.reg 0 c109r6) (.cond (.t 34) (.seq (.seq (.reg 0 c109r7) (.cond (.t 36) (.seq (.reg 0 c109r8) (.seq (.reg 0 c109r9) (.reg 0 c109r10))) .skip)) (.reg 0 c109r11)) .skip)) (.seq (.reg 0 c109r12) (.block 0 (.seq (.reg 0 c109r13) (.cond (.t 57) (.seq (.reg 0 c109r14) .ret) (.seq (.reg 0 c109r15) (.cond (.t 60) (.seq (.reg 0 c109r16) .ret) (.seq (.reg 0 c109r17) .ret)))))))))))))), [.tmp 8, .tmp 9], 63⟩
theorem okf109 : f109.Ok Try.prog 109 := ⟨_, _, Try.func109, rfl, by kernel_rfl, by kernel_rfl, by kernel_rfl⟩

/-! 110 slices.reverseRangeCmpFunc[[2]int], 4 and 0 -/
def c110r0 : List AOper := [
  ⟨(some 10), none, .mov (.t 1)⟩,
  ⟨(some 8), none, .mov (.t 10)⟩]
def c110r1 : List AOper := [
  ⟨(some 11), none, .mov (.t 2)⟩,
  ⟨(some 12), none, .arith .sub (.t 11) (.c (.s (.int .i64 1)))⟩,
  ⟨(some 9), none, .mov (.t 12)⟩]
def c110r2 : List AOper := [
  ⟨(some 13), none, .mov (.t 8)⟩,
  ⟨(some 14), none, .mov (.t 9)⟩,
  ⟨(some 15), none, .cmp .lss (.t 13) (.t 14)⟩]
def c110r3 : List AOper := [
  ⟨(some 16), none, .mov (.t 0)⟩,
  ⟨(some 17), none, .mov (.t 8)⟩,
  ⟨(some 18), none, .mov (.t 0)⟩,
  ⟨(some 19), none, .mov (.t 9)⟩,
  ⟨(some 20), none, .mov (.t 0)⟩,
  ⟨(some 21), none, .mov (.t 9)⟩,
  ⟨(some 22), none, .idxA 2 (.t 20) (.t 21)⟩,
  ⟨(some 23), none, .load 2 true (.t 22)⟩,
  ⟨(some 24), none, .mov (.t 0)⟩,
  ⟨(some 25), none, .mov (.t 8)⟩,
  ⟨(some 26), none, .idxA 2 (.t 24) (.t 25)⟩,
  ⟨(some 27), none, .load 2 true (.t 26)⟩,
  ⟨(some 28), none, .idxA 2 (.t 16) (.t 17)⟩,
  ⟨none, none, .store 2 (.t 28) (.t 23)⟩,
  ⟨(some 29), none, .idxA 2 (.t 18) (.t 19)⟩,
  ⟨none, none, .store 2 (.t 29) (.t 27)⟩]
def c110r4 : List AOper := [
  ⟨(some 30), none, .mov (.t 8)⟩,
  ⟨(some 31), none, .arith .add (.t 30) (.c (.s (.int .i64 1)))⟩,
  ⟨(some 8), none, .mov (.t 31)⟩]
def c110r5 : List AOper := [
  ⟨(some 32), none, .mov (.t 9)⟩,
  ⟨(some 33), none, .arith .sub (.t 32) (.c (.s (.int .i64 1)))⟩,
  ⟨(some 9), none, .mov (.t 33)⟩]
def c110l6 : ACode := (.seq (.seq (.reg 0 c110r2) (.cond (.t 15) .skip (.exit 0))) (.block 1 (.seq (.reg 0 c110r3) (.seq (.reg 0 c110r4) (.reg 0 c110r5)))))
def c110l6m : List Bool := [true, false, false, false, false, false, false, false, true, true, false, false, false, false, false, false, false, false, false, false, false, false, false, false, false, false, false, false, false, false, false, false, false, false]
def f110 : FRow := ⟨(.seq (.reg 0 c110r0) (.seq (.reg 0 c110r1) (.block 0 (.loop c110l6m [] c110l6)))), [], 34⟩
theorem okf110 : f110.Ok Try.prog 110 := ⟨_, _, Try.func110, rfl, by kernel_rfl, by kernel_rfl, by kernel_rfl⟩

/-! 111 slices.partialInsertionSortCmpFunc[[2]int], 4 and 0 -/
def c111r0 : List AOper := [
  ⟨(some 8), none, .mov (.c (.s (.bool false)))⟩]
def c111r1 : List AOper := [
  ⟨(some 13), none, .mov (.t 1)⟩,
  ⟨(some 14), none, .arith .add (.t 13) (.c (.s (.int .i64 1)))⟩,
  ⟨(some 9), none, .mov (.t 14)⟩]
def c111r2 : List AOper := [
  ⟨(some 10), none, .mov (.c (.s (.int .i64 0)))⟩]
def c111r3 : List AOper := [
  ⟨(some 15), none, .mov (.t 10)⟩,
  ⟨(some 16), none, .cmp .lss (.t 15) (.c (.s (.int .i64 5)))⟩]
def c111r4 : List AOper := [
  ⟨(some 19), none, .mov (.t 9)⟩,
  ⟨(some 20), none, .mov (.t 2)⟩,
  ⟨(some 21), none, .cmp .lss (.t 19) (.t 20)⟩,
  ⟨(some 22), none, .mov (.t 21)⟩,
  ⟨(some 23), (some (22, true)), .mov (.t 3)⟩,
  ⟨(some 24), (some (22, true)), .mov (.t 0)⟩,
  ⟨(some 25), (some (22, true)), .mov (.t 9)⟩,
  ⟨(some 26), (some (22, true)), .idxA 2 (.t 24) (.t 25)⟩,
  ⟨(some 27), (some (22, true)), .load 2 true (.t 26)⟩,
  ⟨(some 28), (some (22, true)), .mov (.t 0)⟩,
  ⟨(some 29), (some (22, true)), .mov (.t 9)⟩,
  ⟨(some 30), (some (22, true)), .arith .sub (.t 29) (.c (.s (.int .i64 1)))⟩,
  ⟨(some 31), (some (22, true)), .idxA 2 (.t 28) (.t 30)⟩,
  ⟨(some 32), (some (22, true)), .load 2 true (.t 31)⟩,
  ⟨(some 33), (some (22, true)), .callv (.t 23) [(.t 27), (.t 32)]⟩,
  ⟨(some 34), (some (22, true)), .cmp .lss (.t 33) (.c (.s (.int .i64 0)))⟩,
  ⟨(some 35), (some (22, true)), .not (.t 34)⟩,
  ⟨(some 36), none, .pick (.t 22) (.t 35) (.c (.s (.bool false)))⟩]
def c111r5 : List AOper := [
  ⟨(some 37), none, .mov (.t 9)⟩,
  ⟨(some 38), none, .arith .add (.t 37) (.c (.s (.int .i64 1)))⟩,
  ⟨(some 9), none, .mov (.t 38)⟩]
def c111l6 : ACode := (.seq (.seq (.reg 0 c111r4) (.cond (.t 36) .skip (.exit 2))) (.block 3 (.reg 0 c111r5)))
def c111l6m : List Bool := [true, true, true, true, false, false, false, false, false, true, true, false, false, false, false, false, false, false, false, false, false, false, false, false, false, false, false, false, false, false, false, false, false, false, false, false, false, false, false, false, false, false, false, false, false, false, false, false, false, false, false, false, false, false, false, false, false, false, false, false, false, false, false, false, false, false, false, false, false, false, false, false, false, false, false, false, false, false, false, false, false, false, false, false, false, false, false, false, false, false, false, false, false, false, false, false, false, false, false, false, false, false, false, false, false, false, false, false, false, false, false, false, false, false, false, false, false, false, false, false, false, false, false, false, false, false, false, false, false, false, false, false, false, false, false, false, false, false, false, false, false]
def c111r7 : List AOper := [
  ⟨(some 39), none, .mov (.t 9)⟩,
  ⟨(some 40), none, .mov (.t 2)⟩,
  ⟨(some 41), none, .cmp .eql (.t 39) (.t 40)⟩]
def c111r8 : List AOper := [
  ⟨(some 8), none, .mov (.c (.s (.bool true)))⟩]
def c111r9 : List AOper := [
  ⟨(some 42), none, .mov (.t 2)⟩,
  ⟨(some 43), none, .mov (.t 1)⟩,
  ⟨(some 44), none, .arith .sub (.t 42) (.t 43)⟩,
  ⟨(some 45), none, .cmp .lss (.t 44) (.c (.s (.int .i64 50)))⟩]
def c111r10 : List AOper := [
  ⟨(some 8), none, .mov (.c (.s (.bool false)))⟩]
def c111r11 : List AOper := [
  ⟨(some 46), none, .mov (.t 0)⟩,
  ⟨(some 47), none, .mov (.t 9)⟩,
  ⟨(some 48), none, .mov (.t 0)⟩,
  ⟨(some 49), none, .mov (.t 9)⟩,
  ⟨(some 50), none, .arith .sub (.t 49) (.c (.s (.int .i64 1)))⟩,
  ⟨(some 51), none, .mov (.t 0)⟩,
  ⟨(some 52), none, .mov (.t 9)⟩,
  ⟨(some 53), none, .arith .sub (.t 52) (.c (.s (.int .i64 1)))⟩,
  ⟨(some 54), none, .idxA 2 (.t 51) (.t 53)⟩,
  ⟨(some 55), none, .load 2 true (.t 54)⟩,
  ⟨(some 56), none, .mov (.t 0)⟩,
  ⟨(some 57), none, .mov (.t 9)⟩,
  ⟨(some 58), none, .idxA 2 (.t 56) (.t 57)⟩,
  ⟨(some 59), none, .load 2 true (.t 58)⟩,
  ⟨(some 60), none, .idxA 2 (.t 46) (.t 47)⟩,
  ⟨none, none, .store 2 (.t 60) (.t 55)⟩,
  ⟨(some 61), none, .idxA 2 (.t 48) (.t 50)⟩,
  ⟨none, none, .store 2 (.t 61) (.t 59)⟩]
def c111r12 : List AOper := [
  ⟨(some 62), none, .mov (.t 9)⟩,
  ⟨(some 63), none, .mov (.t 1)⟩,
  ⟨(some 64), none, .arith .sub (.t 62) (.t 63)⟩,
  ⟨(some 65), none, .cmp .geq (.t 64) (.c (.s (.int .i64 2)))⟩]
def c111r13 : List AOper := [
  ⟨(some 66), none, .mov (.t 9)⟩,
  ⟨(some 67), none, .arith .sub (.t 66) (.c (.s (.int .i64 1)))⟩,
  ⟨(some 11), none, .mov (.t 67)⟩]
def c111r14 : List AOper := [
  ⟨(some 68), none, .mov (.t 11)⟩,
  ⟨(some 69), none, .cmp .geq (.t 68) (.c (.s (.int .i64 1)))⟩]
def c111r15 : List AOper := [
  ⟨(some 72), none, .mov (.t 3)⟩,
  ⟨(some 73), none, .mov (.t 0)⟩,
  ⟨(some 74), none, .mov (.t 11)⟩,
  ⟨(some 75), none, .idxA 2 (.t 73) (.t 74)⟩,
  ⟨(some 76), none, .load 2 true (.t 75)⟩,
  ⟨(some 77), none, .mov (.t 0)⟩,
  ⟨(some 78), none, .mov (.t 11)⟩,
  ⟨(some 79), none, .arith .sub (.t 78) (.c (.s (.int .i64 1)))⟩,
  ⟨(some 80), none, .idxA 2 (.t 77) (.t 79)⟩,
  ⟨(some 81), none, .load 2 true (.t 80)⟩,
  ⟨(some 82), none, .callv (.t 72) [(.t 76), (.t 81)]⟩,
  ⟨(some 83), none, .cmp .lss (.t 82) (.c (.s (.int .i64 0)))⟩,
  ⟨(some 84), none, .not (.t 83)⟩]
def c111r16 : List AOper := [
  ⟨(some 85), none, .mov (.t 0)⟩,
  ⟨(some 86), none, .mov (.t 11)⟩,
  ⟨(some 87), none, .mov (.t 0)⟩,
  ⟨(some 88), none, .mov (.t 11)⟩,
  ⟨(some 89), none, .arith .sub (.t 88) (.c (.s (.int .i64 1)))⟩,
  ⟨(some 90), none, .mov (.t 0)⟩,
  ⟨(some 91), none, .mov (.t 11)⟩,
  ⟨(some 92), none, .arith .sub (.t 91) (.c (.s (.int .i64 1)))⟩,
  ⟨(some 93), none, .idxA 2 (.t 90) (.t 92)⟩,
  ⟨(some 94), none, .load 2 true (.t 93)⟩,
  ⟨(some 95), none, .mov (.t 0)⟩,
  ⟨(some 96), none, .mov (.t 11)⟩,
  ⟨(some 97), none, .idxA 2 (.t 95) (.t 96)⟩,
  ⟨(some 98), none, .load 2 true (.t 97)⟩,
  ⟨(some 99), none, .idxA 2 (.t 85) (.t 86)⟩,
  ⟨none, none, .store 2 (.t 99) (.t 94)⟩,
  ⟨(some 100), none, .idxA 2 (.t 87) (.t 89)⟩,
  ⟨none, none, .store 2 (.t 100) (.t 98)⟩]
def c111r17 : List AOper := [
  ⟨(some 70), none, .mov (.t 11)⟩,
  ⟨(some 71), none, .arith .sub (.t 70) (.c (.s (.int .i64 1)))⟩,
  ⟨(some 11), none, .mov (.t 71)⟩]
def c111l18 : ACode := (.seq (.seq (.reg 0 c111r14) (.cond (.t 69) .skip (.exit 4))) (.seq (.block 5 (.seq (.seq (.reg 0 c111r15) (.cond (.t 84) (.exit 4) .skip)) (.reg 0 c111r16))) (.reg 0 c111r17)))
def c111l18m : List Bool := [true, true, true, true, false, false, false, false, false, true, true, true, false, false, false, false, false, false, false, false, false, false, false, false, false, false, false, false, false, false, false, false, false, false, false, false, false, false, false, false, false, false, false, false, false, false, false, false, false, false, false, false, false, false, false, false, false, false, false, false, false, false, false, false, false, false, false, false, false, false, false, false, false, false, false, false, false, false, false, false, false, false, false, false, false, false, false, false, false, false, false, false, false, false, false, false, false, false, false, false, false, false, false, false, false, false, false, false, false, false, false, false, false, false, false, false, false, false, false, false, false, false, false, false, false, false, false, false, false, false, false, false, false, false, false, false, false, false, false, false, false]
def c111r19 : List AOper := [
  ⟨(some 101), none, .mov (.t 2)⟩,
  ⟨(some 102), none, .mov (.t 9)⟩,
  ⟨(some 103), none, .arith .sub (.t 101) (.t 102)⟩,
  ⟨(some 104), none, .cmp .geq (.t 103) (.c (.s (.int .i64 2)))⟩]
def c111r20 : List AOper := [
  ⟨(some 105), none, .mov (.t 9)⟩,
  ⟨(some 106), none, .arith .add (.t 105) (.c (.s (.int .i64 1)))⟩,
  ⟨(some 12), none, .mov (.t 106)⟩]
def c111r21 : List AOper := [
  ⟨(some 107), none, .mov (.t 12)⟩,
  ⟨(some 108), none, .mov (.t 2)⟩,
  ⟨(some 109), none, .cmp .lss (.t 107) (.t 108)⟩]
def c111r22 : List AOper := [
  ⟨(some 112), none, .mov (.t 3)⟩,
  ⟨(some 113), none, .mov (.t 0)⟩,
  ⟨(some 114), none, .mov (.t 12)⟩,
  ⟨(some 115), none, .idxA 2 (.t 113) (.t 114)⟩,
  ⟨(some 116), none, .load 2 true (.t 115)⟩,
  ⟨(some 117), none, .mov (.t 0)⟩,
  ⟨(some 118), none, .mov (.t 12)⟩,
  ⟨(some 119), none, .arith .sub (.t 118) (.c (.s (.int .i64 1)))⟩,
  ⟨(some 120), none, .idxA 2 (.t 117) (.t 119)⟩,
  ⟨(some 121), none, .load 2 true (.t 120)⟩,
  ⟨(some 122), none, .callv (.t 112) [(.t 116), (.t 121)]⟩,
  ⟨(some 123), none, .cmp .lss (.t 122) (.c (.s (.int .i64 0)))⟩,
  ⟨(some 124), none, .not (.t 123)⟩]
def c111r23 : List AOper := [
  ⟨(some 125), none, .mov (.t 0)⟩,
  ⟨(some 126), none, .mov (.t 12)⟩,
  ⟨(some 127), none, .mov (.t 0)⟩,
  ⟨(some 128), none, .mov (.t 12)⟩,
  ⟨(some 129), none, .arith .sub (.t 128) (.c (.s (.int .i64 1)))⟩,
  ⟨(some 130), none, .mov (.t 0)⟩,
  ⟨(some 131), none, .mov (.t 12)⟩,
  ⟨(some 132), none, .arith .sub (.t 131) (.c (.s (.int .i64 1)))⟩,
  ⟨(some 133), none, .idxA 2 (.t 130) (.t 132)⟩,
  ⟨(some 134), none, .load 2 true (.t 133)⟩,
  ⟨(some 135), none, .mov (.t 0)⟩,
  ⟨(some 136), none, .mov (.t 12)⟩,
  ⟨(some 137), none, .idxA 2 (.t 135) (.t 136)⟩,
  ⟨(some 138), none, .load 2 true (.t 137)⟩,
  ⟨(some 139), none, .idxA 2 (.t 125) (.t 126)⟩,
  ⟨none, none, .store 2 (.t 139) (.t 134)⟩,
  ⟨(some 140), none, .idxA 2 (.t 127) (.t 129)⟩,
  ⟨none, none, .store 2 (.t 140) (.t 138)⟩]
def c111r24 : List AOper := [
  ⟨(some 110), none, .mov (.t 12)⟩,
  ⟨(some 111), none, .arith .add (.t 110) (.c (.s (.int .i64 1)))⟩,
  ⟨(some 12), none, .mov (.t 111)⟩]
def c111l25 : ACode := (.seq (.seq (.reg 0 c111r21) (.cond (.t 109) .skip (.exit 6))) (.seq (.block 7 (.seq (.seq (.reg 0 c111r22) (.cond (.t 124) (.exit 6) .skip)) (.reg 0 c111r23))) (.reg 0 c111r24)))
def c111l25m : List Bool := [true, true, true, true, false, false, false, false, false, true, true, false, true, false, false, false, false, false, false, false, false, false, false, false, false, false, false, false, false, false, false, false, false, false, false, false, false, false, false, false, false, false, false, false, false, false, false, false, false, false, false, false, false, false, false, false, false, false, false, false, false, false, false, false, false, false, false, false, false, false, false, false, false, false, false, false, false, false, false, false, false, false, false, false, false, false, false, false, false, false, false, false, false, false, false, false, false, false, false, false, false, false, false, false, false, false, false, false, false, false, false, false, false, false, false, false, false, false, false, false, false, false, false, false, false, false, false, false, false, false, false, false, false, false, false, false, false, false, false, false, false]
def c111r26 : List AOper := [
  ⟨(some 17), none, .mov (.t 10)⟩,
  ⟨(some 18), none, .arith .add (.t 17) (.c (.s (.int .i64 1)))⟩,
  ⟨(some 10), none, .mov (.t 18)⟩]
def c111l27 : ACode := (.seq (.seq (.reg 0 c111r3) (.cond (.t 16) .skip (.exit 0))) (.seq (.block 1 (.seq (.block 2 (.loop c111l6m [] c111l6)) (.seq (.seq (.reg 0 c111r7) (.cond (.t 41) (.seq (.reg 0 c111r8) .ret) .skip)) (.seq (.seq (.reg 0 c111r9) (.cond (.t 45) (.seq (.reg 0 c111r10) .ret) .skip)) (.seq (.reg 0 c111r11) (.seq (.seq (.reg 0 c111r12) (.cond (.t 65) (.seq (.reg 0 c111r13) (.block 4 (.loop c111l18m [] c111l18))) .skip)) (.seq (.reg 0 c111r19) (.cond (.t 104) (.seq (.reg 0 c111r20) (.block 6 (.loop c111l25m [] c111l25))) .skip)))))))) (.reg 0 c111r26)))
def c111l27m : List Bool := [true, true, true, true, false, false, false, false, false, true, true, false, false, false, false, false, false, false, false, false, false, false, false, false, false, false, false, false, false, false, false, false, false, false, false, false, false, false, false, false, false, false, false, false, false, false, false, false, false, false, false, false, false, false, false, false, false, false, false, false, false, false, false, false, false, false, false, false, false, false, false, false, false, false, false, false, false, false, false, false, false, false, false, false, false, false, false, false, false, false, false, false, false, false, false, false, false, false, false, false, false, false, false, false, false, false, false, false, false, false, false, false, false, false, false, false, false, false, false, false, false, false, false, false, false, false, false, false, false, false, false, false, false, false, false, false, false, false, false, false, false]
def c111r28 : List AOper := [
  ⟨(some 8), none, .mov (.c (.s (.bool false)))⟩]
def f111 : FRow := ⟨(.seq (.reg 0 c111r0) (.seq (.reg 0 c111r1) (.seq (.seq (.reg 0 c111r2) (.block 0 (.loop c111l27m [] c111l27))) (.seq (.reg 0 c111r28) .ret)))), [.tmp 8], 141⟩
theorem okf111 : f111.Ok Try.prog 111 := ⟨_, _, Try.func111, rfl, by kernel_rfl, by kernel_rfl, by kernel_rfl⟩

/-! 112 slices.partitionEqualCmpFunc[[2]int], 5 and 0 -/
def c112r0 : List AOper := [
  ⟨(some 10), none, .mov (.c (.s (.int .i64 0)))⟩]
def c112r1 : List AOper := [
  ⟨(some 13), none, .mov (.t 0)⟩,
  ⟨(some 14), none, .mov (.t 1)⟩,
  ⟨(some 15), none, .mov (.t 0)⟩,
  ⟨(some 16), none, .mov (.t 3)⟩,
  ⟨(some 17), none, .mov (.t 0)⟩,
  ⟨(some 18), none, .mov (.t 3)⟩,
  ⟨(some 19), none, .idxA 2 (.t 17) (.t 18)⟩,
  ⟨(some 20), none, .load 2 true (.t 19)⟩,
  ⟨(some 21), none, .mov (.t 0)⟩,
  ⟨(some 22), none, .mov (.t 1)⟩,
  ⟨(some 23), none, .idxA 2 (.t 21) (.t 22)⟩,
  ⟨(some 24), none, .load 2 true (.t 23)⟩,
  ⟨(some 25), none, .idxA 2 (.t 13) (.t 14)⟩,
  ⟨none, none, .store 2 (.t 25) (.t 20)⟩,
  ⟨(some 26), none, .idxA 2 (.t 15) (.t 16)⟩,
  ⟨none, none, .store 2 (.t 26) (.t 24)⟩]
def c112r2 : List AOper := [
  ⟨(some 27), none, .mov (.t 1)⟩,
  ⟨(some 28), none, .arith .add (.t 27) (.c (.s (.int .i64 1)))⟩,
  ⟨(some 29), none, .mov (.t 2)⟩,
  ⟨(some 30), none, .arith .sub (.t 29) (.c (.s (.int .i64 1)))⟩,
  ⟨(some 11), none, .mov (.t 28)⟩,
  ⟨(some 12), none, .mov (.t 30)⟩]
def c112r3 : List AOper := [
  ⟨(some 31), none, .mov (.t 11)⟩,
  ⟨(some 32), none, .mov (.t 12)⟩,
  ⟨(some 33), none, .cmp .leq (.t 31) (.t 32)⟩,
  ⟨(some 34), none, .mov (.t 33)⟩,
  ⟨(some 35), (some (34, true)), .mov (.t 4)⟩,
  ⟨(some 36), (some (34, true)), .mov (.t 0)⟩,
  ⟨(some 37), (some (34, true)), .mov (.t 1)⟩,
  ⟨(some 38), (some (34, true)), .idxA 2 (.t 36) (.t 37)⟩,
  ⟨(some 39), (some (34, true)), .load 2 true (.t 38)⟩,
  ⟨(some 40), (some (34, true)), .mov (.t 0)⟩,
  ⟨(some 41), (some (34, true)), .mov (.t 11)⟩,
  ⟨(some 42), (some (34, true)), .idxA 2 (.t 40) (.t 41)⟩,
  ⟨(some 43), (some (34, true)), .load 2 true (.t 42)⟩,
  ⟨(some 44), (some (34, true)), .callv (.t 35) [(.t 39), (.t 43)]⟩,
  ⟨(some 45), (some (34, true)), .cmp .lss (.t 44) (.c (.s (.int .i64 0)))⟩,
  ⟨(some 46), (some (34, true)), .not (.t 45)⟩,
  ⟨(some 47), none, .pick (.t 34) (.t 46) (.c (.s (.bool false)))⟩]
def c112r4 : List AOper := [
  ⟨(some 48), none, .mov (.t 11)⟩,
  ⟨(some 49), none, .arith .add (.t 48) (.c (.s (.int .i64 1)))⟩,
  ⟨(some 11), none, .mov (.t 49)⟩]
def c112l5 : ACode := (.seq (.seq (.reg 0 c112r3) (.cond (.t 47) .skip (.exit 2))) (.block 3 (.reg 0 c112r4)))
def c112l5m : List Bool := [true, true, false, false, true, false, false, false, false, false, false, true, true, false, false, false, false, false, false, false, false, false, false, false, false, false, false, false, false, false, false, false, false, false, false, false, false, false, false, false, false, false, false, false, false, false, false, false, false, false, false, false, false, false, false, false, false, false, false, false, false, false, false, false, false, false, false, false, false, false, false, false, false, false, false, false, false, false, false, false, false, false, false, false, false, false, false, false, false, false]
def c112r6 : List AOper := [
  ⟨(some 50), none, .mov (.t 11)⟩,
  ⟨(some 51), none, .mov (.t 12)⟩,
  ⟨(some 52), none, .cmp .leq (.t 50) (.t 51)⟩,
  ⟨(some 53), none, .mov (.t 52)⟩,
  ⟨(some 54), (some (53, true)), .mov (.t 4)⟩,
  ⟨(some 55), (some (53, true)), .mov (.t 0)⟩,
  ⟨(some 56), (some (53, true)), .mov (.t 1)⟩,
  ⟨(some 57), (some (53, true)), .idxA 2 (.t 55) (.t 56)⟩,
  ⟨(some 58), (some (53, true)), .load 2 true (.t 57)⟩,
  ⟨(some 59), (some (53, true)), .mov (.t 0)⟩,
  ⟨(some 60), (some (53, true)), .mov (.t 12)⟩,
  ⟨(some 61), (some (53, true)), .idxA 2 (.t 59) (.t 60)⟩,
  ⟨(some 62), (some (53, true)), .load 2 true (.t 61)⟩,
  ⟨(some 63), (some (53, true)), .callv (.t 54) [(.t 58), (.t 62)]⟩,
  ⟨(some 64), (some (53, true)), .cmp .lss (.t 63) (.c (.s (.int .i64 0)))⟩,
  ⟨(some 65), none, .pick (.t 53) (.t 64) (.c (.s (.bool false)))⟩]
def c112r7 : List AOper := [
  ⟨(some 66), none, .mov (.t 12)⟩,
  ⟨(some 67), none, .arith .sub (.t 66) (.c (.s (.int .i64 1)))⟩,
  ⟨(some 12), none, .mov (.t 67)⟩]
def c112l8 : ACode := (.seq (.seq (.reg 0 c112r6) (.cond (.t 65) .skip (.exit 4))) (.block 5 (.reg 0 c112r7)))
def c112l8m : List Bool := [true, true, false, false, true, false, false, false, false, false, false, true, true, false, false, false, false, false, false, false, false, false, false, false, false, false, false, false, false, false, false, false, false, false, false, false, false, false, false, false, false, false, false, false, false, false, false, false, false, false, false, false, false, false, false, false, false, false, false, false, false, false, false, false, false, false, false, false, false, false, false, false, false, false, false, false, false, false, false, false, false, false, false, false, false, false, false, false, false, false]
def c112r9 : List AOper := [
  ⟨(some 68), none, .mov (.t 11)⟩,
  ⟨(some 69), none, .mov (.t 12)⟩,
  ⟨(some 70), none, .cmp .gtr (.t 68) (.t 69)⟩]
def c112r10 : List AOper := [
  ⟨(some 71), none, .mov (.t 0)⟩,
  ⟨(some 72), none, .mov (.t 11)⟩,
  ⟨(some 73), none, .mov (.t 0)⟩,
  ⟨(some 74), none, .mov (.t 12)⟩,
  ⟨(some 75), none, .mov (.t 0)⟩,
  ⟨(some 76), none, .mov (.t 12)⟩,
  ⟨(some 77), none, .idxA 2 (.t 75) (.t 76)⟩,
  ⟨(some 78), none, .load 2 true (.t 77)⟩,
  ⟨(some 79), none, .mov (.t 0)⟩,
  ⟨(some 80), none, .mov (.t 11)⟩,
  ⟨(some 81), none, .idxA 2 (.t 79) (.t 80)⟩,
  ⟨(some 82), none, .load 2 true (.t 81)⟩,
  ⟨(some 83), none, .idxA 2 (.t 71) (.t 72)⟩,
  ⟨none, none, .store 2 (.t 83) (.t 78)⟩,
  ⟨(some 84), none, .idxA 2 (.t 73) (.t 74)⟩,
  ⟨none, none, .store 2 (.t 84) (.t 82)⟩]
def c112r11 : List AOper := [
  ⟨(some 85), none, .mov (.t 11)⟩,
  ⟨(some 86), none, .arith .add (.t 85) (.c (.s (.int .i64 1)))⟩,
  ⟨(some 11), none, .mov (.t 86)⟩]
def c112r12 : List AOper := [
  ⟨(some 87), none, .mov (.t 12)⟩,
  ⟨(some 88), none, .arith .sub (.t 87) (.c (.s (.int .i64 1)))⟩,
  ⟨(some 12), none, .mov (.t 88)⟩]
def c112l13 : ACode := (.block 1 (.seq (.block 2 (.loop c112l5m [] c112l5)) (.seq (.block 4 (.loop c112l8m [] c112l8)) (.seq (.seq (.reg 0 c112r9) (.cond (.t 70) (.exit 0) .skip)) (.seq (.reg 0 c112r10) (.seq (.reg 0 c112r11) (.reg 0 c112r12)))))))
def c112l13m : List Bool := [true, true, false, false, true, false, false, false, false, false, false, true, true, false, false, false, false, false, false, false, false, false, false, false, false, false, false, false, false, false, false, false, false, false, false, false, false, false, false, false, false, false, false, false, false, false, false, false, false, false, false, false, false, false, false, false, false, false, false, false, false, false, false, false, false, false, false, false, false, false, false, false, false, false, false, false, false, false, false, false, false, false, false, false, false, false, false, false, false, false]
def c112r14 : List AOper := [
  ⟨(some 89), none, .mov (.t 11)⟩,
  ⟨(some 10), none, .mov (.t 89)⟩]
def f112 : FRow := ⟨(.seq (.reg 0 c112r0) (.seq (.reg 0 c112r1) (.seq (.reg 0 c112r2) (.seq (.block 0 (.loop c112l13m [] c112l13)) (.seq (.reg 0 c112r14) .ret))))), [.tmp 10], 90⟩
theorem okf112 : f112.Ok Try.prog 112 := ⟨_, _, Try.func112, rfl, by kernel_rfl, by kernel_rfl, by kernel_rfl⟩

/-! 113 slices.partitionCmpFunc[[2]int], 5 and 0 -/
def c113r0 : List AOper := [
  ⟨(some 10), none, .mov (.c (.s (.int .i64 0)))⟩,
  ⟨(some 11), none, .mov (.c (.s (.bool false)))⟩]
def c113r1 : List AOper := [
  ⟨(some 14), none, .mov (.t 0)⟩,
  ⟨(some 15), none, .mov (.t 1)⟩,
  ⟨(some 16), none, .mov (.t 0)⟩,
  ⟨(some 17), none, .mov (.t 3)⟩,
  ⟨(some 18), none, .mov (.t 0)⟩,
  ⟨(some 19), none, .mov (.t 3)⟩,
  ⟨(some 20), none, .idxA 2 (.t 18) (.t 19)⟩,
  ⟨(some 21), none, .load 2 true (.t 20)⟩,
  ⟨(some 22), none, .mov (.t 0)⟩,
  ⟨(some 23), none, .mov (.t 1)⟩,
  ⟨(some 24), none, .idxA 2 (.t 22) (.t 23)⟩,
  ⟨(some 25), none, .load 2 true (.t 24)⟩,
  ⟨(some 26), none, .idxA 2 (.t 14) (.t 15)⟩,
  ⟨none, none, .store 2 (.t 26) (.t 21)⟩,
  ⟨(some 27), none, .idxA 2 (.t 16) (.t 17)⟩,
  ⟨none, none, .store 2 (.t 27) (.t 25)⟩]
def c113r2 : List AOper := [
  ⟨(some 28), none, .mov (.t 1)⟩,
  ⟨(some 29), none, .arith .add (.t 28) (.c (.s (.int .i64 1)))⟩,
  ⟨(some 30), none, .mov (.t 2)⟩,
  ⟨(some 31), none, .arith .sub (.t 30) (.c (.s (.int .i64 1)))⟩,
  ⟨(some 12), none, .mov (.t 29)⟩,
  ⟨(some 13), none, .mov (.t 31)⟩]
def c113r3 : List AOper := [
  ⟨(some 32), none, .mov (.t 12)⟩,
  ⟨(some 33), none, .mov (.t 13)⟩,
  ⟨(some 34), none, .cmp .leq (.t 32) (.t 33)⟩,
  ⟨(some 35), none, .mov (.t 34)⟩,
  ⟨(some 36), (some (35, true)), .mov (.t 4)⟩,
  ⟨(some 37), (some (35, true)), .mov (.t 0)⟩,
  ⟨(some 38), (some (35, true)), .mov (.t 12)⟩,
  ⟨(some 39), (some (35, true)), .idxA 2 (.t 37) (.t 38)⟩,
  ⟨(some 40), (some (35, true)), .load 2 true (.t 39)⟩,
  ⟨(some 41), (some (35, true)), .mov (.t 0)⟩,
  ⟨(some 42), (some (35, true)), .mov (.t 1)⟩,
  ⟨(some 43), (some (35, true)), .idxA 2 (.t 41) (.t 42)⟩,
  ⟨(some 44), (some (35, true)), .load 2 true (.t 43)⟩,
  ⟨(some 45), (some (35, true)), .callv (.t 36) [(.t 40), (.t 44)]⟩,
  ⟨(some 46), (some (35, true)), .cmp .lss (.t 45) (.c (.s (.int .i64 0)))⟩,
  ⟨(some 47), none, .pick (.t 35) (.t 46) (.c (.s (.bool false)))⟩]
def c113r4 : List AOper := [
  ⟨(some 48), none, .mov (.t 12)⟩,
  ⟨(some 49), none, .arith .add (.t 48) (.c (.s (.int .i64 1)))⟩,
  ⟨(some 12), none, .mov (.t 49)⟩]
def c113l5 : ACode := (.seq (.seq (.reg 0 c113r3) (.cond (.t 47) .skip (.exit 0))) (.block 1 (.reg 0 c113r4)))
def c113l5m : List Bool := [true, true, false, false, true, false, false, false, false, false, false, false, true, true, false, false, false, false, false, false, false, false, false, false, false, false, false, false, false, false, false, false, false, false, false, false, false, false, false, false, false, false, false, false, false, false, false, false, false, false, false, false, false, false, false, false, false, false, false, false, false, false, false, false, false, false, false, false, false, false, false, false, false, false, false, false, false, false, false, false, false, false, false, false, false, false, false, false, false, false, false, false, false, false, false, false, false, false, false, false, false, false, false, false, false, false, false, false, false, false, false, false, false, false, false, false, false, false, false, false, false, false, false, false, false, false, false, false, false, false, false, false, false, false, false, false, false, false, false, false, false, false, false, false, false, false, false, false, false, false, false, false, false, false, false, false, false, false, false, false, false, false, false, false, false, false, false, false, false, false, false, false, false, false, false, false, false, false]
def c113r6 : List AOper := [
  ⟨(some 50), none, .mov (.t 12)⟩,
  ⟨(some 51), none, .mov (.t 13)⟩,
  ⟨(some 52), none, .cmp .leq (.t 50) (.t 51)⟩,
  ⟨(some 53), none, .mov (.t 52)⟩,
  ⟨(some 54), (some (53, true)), .mov (.t 4)⟩,
  ⟨(some 55), (some (53, true)), .mov (.t 0)⟩,
  ⟨(some 56), (some (53, true)), .mov (.t 13)⟩,
  ⟨(some 57), (some (53, true)), .idxA 2 (.t 55) (.t 56)⟩,
  ⟨(some 58), (some (53, true)), .load 2 true (.t 57)⟩,
  ⟨(some 59), (some (53, true)), .mov (.t 0)⟩,
  ⟨(some 60), (some (53, true)), .mov (.t 1)⟩,
  ⟨(some 61), (some (53, true)), .idxA 2 (.t 59) (.t 60)⟩,
  ⟨(some 62), (some (53, true)), .load 2 true (.t 61)⟩,
  ⟨(some 63), (some (53, true)), .callv (.t 54) [(.t 58), (.t 62)]⟩,
  ⟨(some 64), (some (53, true)), .cmp .lss (.t 63) (.c (.s (.int .i64 0)))⟩,
  ⟨(some 65), (some (53, true)), .not (.t 64)⟩,
  ⟨(some 66), none, .pick (.t 53) (.t 65) (.c (.s (.bool false)))⟩]
def c113r7 : List AOper := [
  ⟨(some 67), none, .mov (.t 13)⟩,
  ⟨(some 68), none, .arith .sub (.t 67) (.c (.s (.int .i64 1)))⟩,
  ⟨(some 13), none, .mov (.t 68)⟩]
def c113l8 : ACode := (.seq (.seq (.reg 0 c113r6) (.cond (.t 66) .skip (.exit 2))) (.block 3 (.reg 0 c113r7)))
def c113l8m : List Bool := [true, true, false, false, true, false, false, false, false, false, false, false, true, true, false, false, false, false, false, false, false, false, false, false, false, false, false, false, false, false, false, false, false, false, false, false, false, false, false, false, false, false, false, false, false, false, false, false, false, false, false, false, false, false, false, false, false, false, false, false, false, false, false, false, false, false, false, false, false, false, false, false, false, false, false, false, false, false, false, false, false, false, false, false, false, false, false, false, false, false, false, false, false, false, false, false, false, false, false, false, false, false, false, false, false, false, false, false, false, false, false, false, false, false, false, false, false, false, false, false, false, false, false, false, false, false, false, false, false, false, false, false, false, false, false, false, false, false, false, false, false, false, false, false, false, false, false, false, false, false, false, false, false, false, false, false, false, false, false, false, false, false, false, false, false, false, false, false, false, false, false, false, false, false, false, false, false, false]
def c113r9 : List AOper := [
  ⟨(some 69), none, .mov (.t 12)⟩,
  ⟨(some 70), none, .mov (.t 13)⟩,
  ⟨(some 71), none, .cmp .gtr (.t 69) (.t 70)⟩]
def c113r10 : List AOper := [
  ⟨(some 72), none, .mov (.t 0)⟩,
  ⟨(some 73), none, .mov (.t 13)⟩,
  ⟨(some 74), none, .mov (.t 0)⟩,
  ⟨(some 75), none, .mov (.t 1)⟩,
  ⟨(some 76), none, .mov (.t 0)⟩,
  ⟨(some 77), none, .mov (.t 1)⟩,
  ⟨(some 78), none, .idxA 2 (.t 76) (.t 77)⟩,
  ⟨(some 79), none, .load 2 true (.t 78)⟩,
  ⟨(some 80), none, .mov (.t 0)⟩,
  ⟨(some 81), none, .mov (.t 13)⟩,
  ⟨(some 82), none, .idxA 2 (.t 80) (.t 81)⟩,
  ⟨(some 83), none, .load 2 true (.t 82)⟩,
  ⟨(some 84), none, .idxA 2 (.t 72) (.t 73)⟩,
  ⟨none, none, .store 2 (.t 84) (.t 79)⟩,
  ⟨(some 85), none, .idxA 2 (.t 74) (.t 75)⟩,
  ⟨none, none, .store 2 (.t 85) (.t 83)⟩]
def c113r11 : List AOper := [
  ⟨(some 86), none, .mov (.t 13)⟩,
  ⟨(some 10), none, .mov (.t 86)⟩,
  ⟨(some 11), none, .mov (.c (.s (.bool true)))⟩]
def c113r12 : List AOper := [
  ⟨(some 87), none, .mov (.t 0)⟩,
  ⟨(some 88), none, .mov (.t 12)⟩,
  ⟨(some 89), none, .mov (.t 0)⟩,
  ⟨(some 90), none, .mov (.t 13)⟩,
  ⟨(some 91), none, .mov (.t 0)⟩,
  ⟨(some 92), none, .mov (.t 13)⟩,
  ⟨(some 93), none, .idxA 2 (.t 91) (.t 92)⟩,
  ⟨(some 94), none, .load 2 true (.t 93)⟩,
  ⟨(some 95), none, .mov (.t 0)⟩,
  ⟨(some 96), none, .mov (.t 12)⟩,
  ⟨(some 97), none, .idxA 2 (.t 95) (.t 96)⟩,
  ⟨(some 98), none, .load 2 true (.t 97)⟩,
  ⟨(some 99), none, .idxA 2 (.t 87) (.t 88)⟩,
  ⟨none, none, .store 2 (.t 99) (.t 94)⟩,
  ⟨(some 100), none, .idxA 2 (.t 89) (.t 90)⟩,
  ⟨none, none, .store 2 (.t 100) (.t 98)⟩]
def c113r13 : List AOper := [
  ⟨(some 101), none, .mov (.t 12)⟩,
  ⟨(some 102), none, .arith .add (.t 101) (.c (.s (.int .i64 1)))⟩,
  ⟨(some 12), none, .mov (.t 102)⟩]
def c113r14 : List AOper := [
  ⟨(some 103), none, .mov (.t 13)⟩,
  ⟨(some 104), none, .arith .sub (.t 103) (.c (.s (.int .i64 1)))⟩,
  ⟨(some 13), none, .mov (.t 104)⟩]
def c113r15 : List AOper := [
  ⟨(some 105), none, .mov (.t 12)⟩,
  ⟨(some 106), none, .mov (.t 13)⟩,
  ⟨(some 107), none, .cmp .leq (.t 105) (.t 106)⟩,
  ⟨(some 108), none, .mov (.t 107)⟩,
  ⟨(some 109), (some (108, true)), .mov (.t 4)⟩,
  ⟨(some 110), (some (108, true)), .mov (.t 0)⟩,
  ⟨(some 111), (some (108, true)), .mov (.t 12)⟩,
  ⟨(some 112), (some (108, true)), .idxA 2 (.t 110) (.t 111)⟩,
  ⟨(some 113), (some (108, true)), .load 2 true (.t 112)⟩,
  ⟨(some 114), (some (108, true)), .mov (.t 0)⟩,
  ⟨(some 115), (some (108, true)), .mov (.t 1)⟩,
  ⟨(some 116), (some (108, true)), .idxA 2 (.t 114) (.t 115)⟩,
  ⟨(some 117), (some (108, true)), .load 2 true (.t 116)⟩,
  ⟨(some 118), (some (108, true)), .callv (.t 109) [(.t 113), (.t 117)]⟩,
  ⟨(some 119), (some (108, true)), .cmp .lss (.t 118) (.c (.s (.int .i64 0)))⟩,
  ⟨(some 120), none, .pick (.t 108) (.t 119) (.c (.s (.bool false)))⟩]
def c113r16 : List AOper := [
  ⟨(some 121), none, .mov (.t 12)⟩,
  ⟨(some 122), none, .arith .add (.t 121) (.c (.s (.int .i64 1)))⟩,
  ⟨(some 12), none, .mov (.t 122)⟩]
def c113l17 : ACode := (.seq (.seq (.reg 0 c113r15) (.cond (.t 120) .skip (.exit 6))) (.block 7 (.reg 0 c113r16)))
def c113l17m : List Bool := [true, true, false, false, true, false, false, false, false, false, false, false, true, true, false, false, false, false, false, false, false, false, false, false, false, false, false, false, false, false, false, false, false, false, false, false, false, false, false, false, false, false, false, false, false, false, false, false, false, false, false, false, false, false, false, false, false, false, false, false, false, false, false, false, false, false, false, false, false, false, false, false, false, false, false, false, false, false, false, false, false, false, false, false, false, false, false, false, false, false, false, false, false, false, false, false, false, false, false, false, false, false, false, false, false, false, false, false, false, false, false, false, false, false, false, false, false, false, false, false, false, false, false, false, false, false, false, false, false, false, false, false, false, false, false, false, false, false, false, false, false, false, false, false, false, false, false, false, false, false, false, false, false, false, false, false, false, false, false, false, false, false, false, false, false, false, false, false, false, false, false, false, false, false, false, false, false, false]
def c113r18 : List AOper := [
  ⟨(some 123), none, .mov (.t 12)⟩,
  ⟨(some 124), none, .mov (.t 13)⟩,
  ⟨(some 125), none, .cmp .leq (.t 123) (.t 124)⟩,
  ⟨(some 126), none, .mov (.t 125)⟩,
  ⟨(some 127), (some (126, true)), .mov (.t 4)⟩,
  ⟨(some 128), (some (126, true)), .mov (.t 0)⟩,
  ⟨(some 129), (some (126, true)), .mov (.t 13)⟩,
  ⟨(some 130), (some (126, true)), .idxA 2 (.t 128) (.t 129)⟩,
  ⟨(some 131), (some (126, true)), .load 2 true (.t 130)⟩,
  ⟨(some 132), (some (126, true)), .mov (.t 0)⟩,
  ⟨(some 133), (some (126, true)), .mov (.t 1)⟩,
  ⟨(some 134), (some (126, true)), .idxA 2 (.t 132) (.t 133)⟩,
  ⟨(some 135), (some (126, true)), .load 2 true (.t 134)⟩,
  ⟨(some 136), (some (126, true)), .callv (.t 127) [(.t 131), (.t 135)]⟩,
  ⟨(some 137), (some (126, true)), .cmp .lss (.t 136) (.c (.s (.int .i64 0)))⟩,
  ⟨(some 138), (some (126, true)), .not (.t 137)⟩,
  ⟨(some 139), none, .pick (.t 126) (.t 138) (.c (.s (.bool false)))⟩]
def c113r19 : List AOper := [
  ⟨(some 140), none, .mov (.t 13)⟩,
  ⟨(some 141), none, .arith .sub (.t 140) (.c (.s (.int .i64 1)))⟩,
  ⟨(some 13), none, .mov (.t 141)⟩]
def c113l20 : ACode := (.seq (.seq (.reg 0 c113r18) (.cond (.t 139) .skip (.exit 8))) (.block 9 (.reg 0 c113r19)))
def c113l20m : List Bool := [true, true, false, false, true, false, false, false, false, false, false, false, true, true, false, false, false, false, false, false, false, false, false, false, false, false, false, false, false, false, false, false, false, false, false, false, false, false, false, false, false, false, false, false, false, false, false, false, false, false, false, false, false, false, false, false, false, false, false, false, false, false, false, false, false, false, false, false, false, false, false, false, false, false, false, false, false, false, false, false, false, false, false, false, false, false, false, false, false, false, false, false, false, false, false, false, false, false, false, false, false, false, false, false, false, false, false, false, false, false, false, false, false, false, false, false, false, false, false, false, false, false, false, false, false, false, false, false, false, false, false, false, false, false, false, false, false, false, false, false, false, false, false, false, false, false, false, false, false, false, false, false, false, false, false, false, false, false, false, false, false, false, false, false, false, false, false, false, false, false, false, false, false, false, false, false, false, false]
def c113r21 : List AOper := [
  ⟨(some 142), none, .mov (.t 12)⟩,
  ⟨(some 143), none, .mov (.t 13)⟩,
  ⟨(some 144), none, .cmp .gtr (.t 142) (.t 143)⟩]
def c113r22 : List AOper := [
  ⟨(some 145), none, .mov (.t 0)⟩,
  ⟨(some 146), none, .mov (.t 12)⟩,
  ⟨(some 147), none, .mov (.t 0)⟩,
  ⟨(some 148), none, .mov (.t 13)⟩,
  ⟨(some 149), none, .mov (.t 0)⟩,
  ⟨(some 150), none, .mov (.t 13)⟩,
  ⟨(some 151), none, .idxA 2 (.t 149) (.t 150)⟩,
  ⟨(some 152), none, .load 2 true (.t 151)⟩,
  ⟨(some 153), none, .mov (.t 0)⟩,
  ⟨(some 154), none, .mov (.t 12)⟩,
  ⟨(some 155), none, .idxA 2 (.t 153) (.t 154)⟩,
  ⟨(some 156), none, .load 2 true (.t 155)⟩,
  ⟨(some 157), none, .idxA 2 (.t 145) (.t 146)⟩,
  ⟨none, none, .store 2 (.t 157) (.t 152)⟩,
  ⟨(some 158), none, .idxA 2 (.t 147) (.t 148)⟩,
  ⟨none, none, .store 2 (.t 158) (.t 156)⟩]
def c113r23 : List AOper := [
  ⟨(some 159), none, .mov (.t 12)⟩,
  ⟨(some 160), none, .arith .add (.t 159) (.c (.s (.int .i64 1)))⟩,
  ⟨(some 12), none, .mov (.t 160)⟩]
def c113r24 : List AOper := [
  ⟨(some 161), none, .mov (.t 13)⟩,
  ⟨(some 162), none, .arith .sub (.t 161) (.c (.s (.int .i64 1)))⟩,
  ⟨(some 13), none, .mov (.t 162)⟩]
def c113l25 : ACode := (.block 5 (.seq (.block 6 (.loop c113l17m [] c113l17)) (.seq (.block 8 (.loop c113l20m [] c113l20)) (.seq (.seq (.reg 0 c113r21) (.cond (.t 144) (.exit 4) .skip)) (.seq (.reg 0 c113r22) (.seq (.reg 0 c113r23) (.reg 0 c113r24)))))))
def c113l25m : List Bool := [true, true, false, false, true, false, false, false, false, false, false, false, true, true, false, false, false, false, false, false, false, false, false, false, false, false, false, false, false, false, false, false, false, false, false, false, false, false, false, false, false, false, false, false, false, false, false, false, false, false, false, false, false, false, false, false, false, false, false, false, false, false, false, false, false, false, false, false, false, false, false, false, false, false, false, false, false, false, false, false, false, false, false, false, false, false, false, false, false, false, false, false, false, false, false, false, false, false, false, false, false, false, false, false, false, false, false, false, false, false, false, false, false, false, false, false, false, false, false, false, false, false, false, false, false, false, false, false, false, false, false, false, false, false, false, false, false, false, false, false, false, false, false, false, false, false, false, false, false, false, false, false, false, false, false, false, false, false, false, false, false, false, false, false, false, false, false, false, false, false, false, false, false, false, false, false, false, false]
def c113r26 : List AOper := [
  ⟨(some 163), none, .mov (.t 0)⟩,
  ⟨(some 164), none, .mov (.t 13)⟩,
  ⟨(some 165), none, .mov (.t 0)⟩,
  ⟨(some 166), none, .mov (.t 1)⟩,
  ⟨(some 167), none, .mov (.t 0)⟩,
  ⟨(some 168), none, .mov (.t 1)⟩,
  ⟨(some 169), none, .idxA 2 (.t 167) (.t 168)⟩,
  ⟨(some 170), none, .load 2 true (.t 169)⟩,
  ⟨(some 171), none, .mov (.t 0)⟩,
  ⟨(some 172), none, .mov (.t 13)⟩,
  ⟨(some 173), none, .idxA 2 (.t 171) (.t 172)⟩,
  ⟨(some 174), none, .load 2 true (.t 173)⟩,
  ⟨(some 175), none, .idxA 2 (.t 163) (.t 164)⟩,
  ⟨none, none, .store 2 (.t 175) (.t 170)⟩,
  ⟨(some 176), none, .idxA 2 (.t 165) (.t 166)⟩,
  ⟨none, none, .store 2 (.t 176) (.t 174)⟩]
def c113r27 : List AOper := [
  ⟨(some 177), none, .mov (.t 13)⟩,
  ⟨(some 10), none, .mov (.t 177)⟩,
  ⟨(some 11), none, .mov (.c (.s (.bool false)))⟩]
def f113 : FRow := ⟨(.seq (.reg 0 c113r0) (.seq (.reg 0 c113r1) (.seq (.reg 0 c113r2) (.seq (.block 0 (.loop c113l5m [] c113l5)) (.seq (.block 2 (.loop c113l8m [] c113l8)) (.seq (.seq (.reg 0 c113r9) (.cond (.t 71) (.seq (.reg 0 c113r10) (.seq (.reg 0 c113r11) .ret)) .skip)) (.seq (.reg 0 c113r12) (.seq (.reg 0 c113r13) (.seq (.reg 0 c113r14) (.seq (.block 4 (.loop c113l25m [] c113l25)) (.seq (.reg 0 c113r26) (.seq (.reg 0 c113r27) .ret)))))))))))), [.tmp 10, .tmp 11], 178⟩
theorem okf113 : f113.Ok Try.prog 113 := ⟨_, _, Try.func113, rfl, by kernel_rfl, by kernel_rfl, by kernel_rfl⟩

/-! 114 math/bits.Len32, 1 and 0 -/
def c114r0 : List AOper := [
  ⟨(some 2), none, .mov (.c (.s (.int .i64 0)))⟩]
def c114r1 : List AOper := [
  ⟨(some 3), none, .mov (.t 0)⟩,
  ⟨(some 4), none, .cmp .geq (.t 3) (.c (.s (.int .u32 65536)))⟩]
def c114r2 : List AOper := [
  ⟨(some 5), none, .mov (.t 0)⟩,
  ⟨(some 6), none, .shift .shr (.t 5) (.c (.s (.int .u64 16)))⟩,
  ⟨(some 0), none, .mov (.t 6)⟩]
def c114r3 : List AOper := [
  ⟨(some 2), none, .mov (.c (.s (.int .i64 16)))⟩]
def c114r4 : List AOper := [
  ⟨(some 7), none, .mov (.t 0)⟩,
  ⟨(some 8), none, .cmp .geq (.t 7) (.c (.s (.int .u32 256)))⟩]
def c114r5 : List AOper := [
  ⟨(some 9), none, .mov (.t 0)⟩,
  ⟨(some 10), none, .shift .shr (.t 9) (.c (.s (.int .u64 8)))⟩,
  ⟨(some 0), none, .mov (.t 10)⟩]
def c114r6 : List AOper := [
  ⟨(some 11), none, .mov (.t 2)⟩,
  ⟨(some 12), none, .arith .add (.t 11) (.c (.s (.int .i64 8)))⟩,
  ⟨(some 2), none, .mov (.t 12)⟩]
def c114r7 : List AOper := [
  ⟨(some 13), none, .mov (.t 2)⟩,
  ⟨(some 14), none, .mov (.t 0)⟩,
  ⟨(some 15), none, .conv .u8 (.t 14)⟩,
  ⟨(some 16), none, .sidx (.c (.s (.str ⟨#[0, 1, 2, 2, 3, 3, 3, 3, 4, 4, 4, 4, 4, 4, 4, 4, 5, 5, 5, 5, 5, 5, 5, 5, 5, 5, 5, 5, 5, 5, 5, 5, 6, 6, 6, 6, 6, 6, 6, 6, 6, 6, 6, 6, 6, 6, 6, 6, 6, 6, 6, 6, 6, 6, 6, 6, 6, 6, 6, 6, 6, 6, 6, 6, 7, 7, 7, 7, 7, 7, 7, 7, 7, 7, 7, 7, 7, 7, 7, 7, 7, 7, 7, 7, 7, 7, 7, 7, 7, 7, 7, 7, 7, 7, 7, 7, 7, 7, 7, 7, 7, 7, 7, 7, 7, 7, 7, 7, 7, 7, 7, 7, 7, 7, 7, 7, 7, 7, 7, 7, 7, 7, 7, 7, 7, 7, 7, 7, 8, 8, 8, 8, 8, 8, 8, 8, 8, 8, 8, 8, 8, 8, 8, 8, 8, 8, 8, 8, 8, 8, 8, 8, 8, 8, 8, 8, 8, 8, 8, 8, 8, 8, 8, 8, 8, 8, 8, 8, 8, 8, 8, 8, 8, 8, 8, 8, 8, 8, 8, 8, 8, 8, 8, 8, 8, 8, 8, 8, 8, 8, 8, 8, 8, 8, 8, 8, 8, 8, 8, 8, 8, 8, 8, 8, 8, 8, 8, 8, 8, 8, 8, 8, 8, 8, 8, 8, 8, 8, 8, 8, 8, 8, 8, 8, 8, 8, 8, 8, 8, 8, 8, 8, 8, 8, 8, 8, 8, 8, 8, 8, 8, 8, 8, 8, 8, 8, 8, 8, 8, 8, 8, 8, 8, 8, 8, 8]⟩))) (.t 15)⟩,
  ⟨(some 17), none, .conv .i64 (.t 16)⟩,
  ⟨(some 18), none, .arith .add (.t 13) (.t 17)⟩,
  ⟨(some 2), none, .mov (.t 18)⟩]
def f114 : FRow := ⟨(.seq (.reg 0 c114r0) (.seq (.seq (.reg 0 c114r1) (.cond (.t 4) (.seq (.reg 0 c114r2) (.reg 0 c114r3)) .skip)) (.seq (.seq (.reg 0 c114r4) (.cond (.t 8) (.seq (.reg 0 c114r5) (.reg 0 c114r6)) .skip)) (.seq (.reg 0 c114r7) .ret)))), [.tmp 2], 19⟩
theorem okf114 : f114.Ok Try.prog 114 := ⟨_, _, Try.func114, rfl, by kernel_rfl, by kernel_rfl, by kernel_rfl⟩

/-! 115 math/bits.Len64, 1 and 0 -/
def c115r0 : List AOper := [
  ⟨(some 2), none, .mov (.c (.s (.int .i64 0)))⟩]
def c115r1 : List AOper := [
  ⟨(some 3), none, .mov (.t 0)⟩,
  ⟨(some 4), none, .cmp .geq (.t 3) (.c (.s (.int .u64 4294967296)))⟩]
def c115r2 : List AOper := [
  ⟨(some 5), none, .mov (.t 0)⟩,
  ⟨(some 6), none, .shift .shr (.t 5) (.c (.s (.int .u64 32)))⟩,
  ⟨(some 0), none, .mov (.t 6)⟩]
def c115r3 : List AOper := [
  ⟨(some 2), none, .mov (.c (.s (.int .i64 32)))⟩]
def c115r4 : List AOper := [
  ⟨(some 7), none, .mov (.t 0)⟩,
  ⟨(some 8), none, .cmp .geq (.t 7) (.c (.s (.int .u64 65536)))⟩]
def c115r5 : List AOper := [
  ⟨(some 9), none, .mov (.t 0)⟩,
  ⟨(some 10), none, .shift .shr (.t 9) (.c (.s (.int .u64 16)))⟩,
  ⟨(some 0), none, .mov (.t 10)⟩]
def c115r6 : List AOper := [
  ⟨(some 11), none, .mov (.t 2)⟩,
  ⟨(some 12), none, .arith .add (.t 11) (.c (.s (.int .i64 16)))⟩,
  ⟨(some 2), none, .mov (.t 12)⟩]
def c115r7 : List AOper := [
  ⟨(some 13), none, .mov (.t 0)⟩,
  ⟨(some 14), none, .cmp .geq (.t 13) (.c (.s (.int .u64 256)))⟩]
def c115r8 : List AOper := [
  ⟨(some 15), none, .mov (.t 0)⟩,
  ⟨(some 16), none, .shift .shr (.t 15) (.c (.s (.int .u64 8)))⟩,
  ⟨(some 0), none, .mov (.t 16)⟩]
def c115r9 : List AOper := [
  ⟨(some 17), none, .mov (.t 2)⟩,
  ⟨(some 18), none, .arith .add (.t 17) (.c (.s (.int .i64 8)))⟩,
  ⟨(some 2), none, .mov (.t 18)⟩]
def c115r10 : List AOper := [
  ⟨(some 19), none, .mov (.t 2)⟩,
  ⟨(some 20), none, .mov (.t 0)⟩,
  ⟨(some 21), none, .conv .u8 (.t 20)⟩,
  ⟨(some 22), none, .sidx (.c (.s (.str ⟨#[0, 1, 2, 2, 3, 3, 3, 3, 4, 4, 4, 4, 4, 4, 4, 4, 5, 5, 5, 5, 5, 5, 5, 5, 5, 5, 5, 5, 5, 5, 5, 5, 6, 6, 6, 6, 6, 6, 6, 6, 6, 6, 6, 6, 6, 6, 6, 6, 6, 6, 6, 6, 6, 6, 6, 6, 6, 6, 6, 6, 6, 6, 6, 6, 7, 7, 7, 7, 7, 7, 7, 7, 7, 7, 7, 7, 7, 7, 7, 7, 7, 7, 7, 7, 7, 7, 7, 7, 7, 7, 7, 7, 7, 7, 7, 7, 7, 7, 7, 7, 7, 7, 7, 7, 7, 7, 7, 7, 7, 7, 7, 7, 7, 7, 7, 7, 7, 7, 7, 7, 7, 7, 7, 7, 7, 7, 7, 7, 8, 8, 8, 8, 8, 8, 8, 8, 8, 8, 8, 8, 8, 8, 8, 8, 8, 8, 8, 8, 8, 8, 8, 8, 8, 8, 8, 8, 8, 8, 8, 8, 8, 8, 8, 8, 8, 8, 8, 8, 8, 8, 8, 8, 8, 8, 8, 8, 8, 8, 8, 8, 8, 8, 8, 8, 8, 8, 8, 8, 8, 8, 8, 8, 8, 8, 8, 8, 8, 8, 8, 8, 8, 8, 8, 8, 8, 8, 8, 8, 8, 8, 8, 8, 8, 8, 8, 8, 8, 8, 8, 8, 8, 8, 8, 8, 8, 8, 8, 8, 8, 8, 8, 8, 8, 8, 8, 8, 8, 8, 8, 8, 8, 8, 8, 8, 8, 8, 8, 8, 8, 8, 8, 8, 8, 8, 8, 8]⟩))) (.t 21)⟩,
  ⟨(some 23), none, .conv .i64 (.t 22)⟩,
  ⟨(some 24), none, .arith .add (.t 19) (.t 23)⟩,
  ⟨(some 2), none, .mov (.t 24)⟩]
def f115 : FRow := ⟨(.seq (.reg 0 c115r0) (.seq (.seq (.reg 0 c115r1) (.cond (.t 4) (.seq (.reg 0 c115r2) (.reg 0 c115r3)) .skip)) (.seq (.seq (.reg 0 c115r4) (.cond (.t 8) (.seq (.reg 0 c115r5) (.reg 0 c115r6)) .skip)) (.seq (.seq (.reg 0 c115r7) (.cond (.t 14) (.seq (.reg 0 c115r8) (.reg 0 c115r9)) .skip)) (.seq (.reg 0 c115r10) .ret))))), [.tmp 2], 25⟩
theorem okf115 : f115.Ok Try.prog 115 := ⟨_, _, Try.func115, rfl, by kernel_rfl, by kernel_rfl, by kernel_rfl⟩

/-! 116 cmp.isNaN[int], 1 and 0 -/
def c116r0 : List AOper := [
  ⟨(some 2), none, .mov (.c (.s (.bool false)))⟩]
def c116r1 : List AOper := [
  ⟨(some 3), none, .mov (.t 0)⟩,
  ⟨(some 4), none, .mov (.t 0)⟩,
  ⟨(some 5), none, .cmp .neq (.t 3) (.t 4)⟩,
  ⟨(some 2), none, .mov (.t 5)⟩]
def f116 : FRow := ⟨(.seq (.reg 0 c116r0) (.seq (.reg 0 c116r1) .ret)), [.tmp 2], 6⟩
theorem okf116 : f116.Ok Try.prog 116 := ⟨_, _, Try.func116, rfl, by kernel_rfl, by kernel_rfl, by kernel_rfl⟩

/-! 117 slices.siftDownCmpFunc[[2]int], 5 and 0 -/
def c117r0 : List AOper := [
  ⟨(some 12), none, .mov (.t 1)⟩,
  ⟨(some 10), none, .mov (.t 12)⟩]
def c117r1 : List AOper := [
  ⟨(some 13), none, .mov (.t 10)⟩,
  ⟨(some 14), none, .arith .mul (.c (.s (.int .i64 2))) (.t 13)⟩,
  ⟨(some 15), none, .arith .add (.t 14) (.c (.s (.int .i64 1)))⟩,
  ⟨(some 11), none, .mov (.t 15)⟩]
def c117r2 : List AOper := [
  ⟨(some 16), none, .mov (.t 11)⟩,
  ⟨(some 17), none, .mov (.t 2)⟩,
  ⟨(some 18), none, .cmp .geq (.t 16) (.t 17)⟩]
def c117r3 : List AOper := [
  ⟨(some 19), none, .mov (.t 11)⟩,
  ⟨(some 20), none, .arith .add (.t 19) (.c (.s (.int .i64 1)))⟩,
  ⟨(some 21), none, .mov (.t 2)⟩,
  ⟨(some 22), none, .cmp .lss (.t 20) (.t 21)⟩,
  ⟨(some 23), none, .mov (.t 22)⟩,
  ⟨(some 24), (some (23, true)), .mov (.t 4)⟩,
  ⟨(some 25), (some (23, true)), .mov (.t 0)⟩,
  ⟨(some 26), (some (23, true)), .mov (.t 3)⟩,
  ⟨(some 27), (some (23, true)), .mov (.t 11)⟩,
  ⟨(some 28), (some (23, true)), .arith .add (.t 26) (.t 27)⟩,
  ⟨(some 29), (some (23, true)), .idxA 2 (.t 25) (.t 28)⟩,
  ⟨(some 30), (some (23, true)), .load 2 true (.t 29)⟩,
  ⟨(some 31), (some (23, true)), .mov (.t 0)⟩,
  ⟨(some 32), (some (23, true)), .mov (.t 3)⟩,
  ⟨(some 33), (some (23, true)), .mov (.t 11)⟩,
  ⟨(some 34), (some (23, true)), .arith .add (.t 32) (.t 33)⟩,
  ⟨(some 35), (some (23, true)), .arith .add (.t 34) (.c (.s (.int .i64 1)))⟩,
  ⟨(some 36), (some (23, true)), .idxA 2 (.t 31) (.t 35)⟩,
  ⟨(some 37), (some (23, true)), .load 2 true (.t 36)⟩,
  ⟨(some 38), (some (23, true)), .callv (.t 24) [(.t 30), (.t 37)]⟩,
  ⟨(some 39), (some (23, true)), .cmp .lss (.t 38) (.c (.s (.int .i64 0)))⟩,
  ⟨(some 40), none, .pick (.t 23) (.t 39) (.c (.s (.bool false)))⟩]
def c117r4 : List AOper := [
  ⟨(some 41), none, .mov (.t 11)⟩,
  ⟨(some 42), none, .arith .add (.t 41) (.c (.s (.int .i64 1)))⟩,
  ⟨(some 11), none, .mov (.t 42)⟩]
def c117r5 : List AOper := [
  ⟨(some 43), none, .mov (.t 4)⟩,
  ⟨(some 44), none, .mov (.t 0)⟩,
  ⟨(some 45), none, .mov (.t 3)⟩,
  ⟨(some 46), none, .mov (.t 10)⟩,
  ⟨(some 47), none, .arith .add (.t 45) (.t 46)⟩,
  ⟨(some 48), none, .idxA 2 (.t 44) (.t 47)⟩,
  ⟨(some 49), none, .load 2 true (.t 48)⟩,
  ⟨(some 50), none, .mov (.t 0)⟩,
  ⟨(some 51), none, .mov (.t 3)⟩,
  ⟨(some 52), none, .mov (.t 11)⟩,
  ⟨(some 53), none, .arith .add (.t 51) (.t 52)⟩,
  ⟨(some 54), none, .idxA 2 (.t 50) (.t 53)⟩,
  ⟨(some 55), none, .load 2 true (.t 54)⟩,
  ⟨(some 56), none, .callv (.t 43) [(.t 49), (.t 55)]⟩,
  ⟨(some 57), none, .cmp .lss (.t 56) (.c (.s (.int .i64 0)))⟩,
  ⟨(some 58), none, .not (.t 57)⟩]
def c117r6 : List AOper := [
  ⟨(some 59), none, .mov (.t 0)⟩,
  ⟨(some 60), none, .mov (.t 3)⟩,
  ⟨(some 61), none, .mov (.t 10)⟩,
  ⟨(some 62), none, .arith .add (.t 60) (.t 61)⟩,
  ⟨(some 63), none, .mov (.t 0)⟩,
  ⟨(some 64), none, .mov (.t 3)⟩,
  ⟨(some 65), none, .mov (.t 11)⟩,
  ⟨(some 66), none, .arith .add (.t 64) (.t 65)⟩,
  ⟨(some 67), none, .mov (.t 0)⟩,
  ⟨(some 68), none, .mov (.t 3)⟩,
  ⟨(some 69), none, .mov (.t 11)⟩,
  ⟨(some 70), none, .arith .add (.t 68) (.t 69)⟩,
  ⟨(some 71), none, .idxA 2 (.t 67) (.t 70)⟩,
  ⟨(some 72), none, .load 2 true (.t 71)⟩,
  ⟨(some 73), none, .mov (.t 0)⟩,
  ⟨(some 74), none, .mov (.t 3)⟩,
  ⟨(some 75), none, .mov (.t 10)⟩,
  ⟨(some 76), none, .arith .add (.t 74) (.t 75)⟩,
  ⟨(some 77), none, .idxA 2 (.t 73) (.t 76)⟩,
  ⟨(some 78), none, .load 2 true (.t 77)⟩,
  ⟨(some 79), none, .idxA 2 (.t 59) (.t 62)⟩,
  ⟨none, none, .store 2 (.t 79) (.t 72)⟩,
  ⟨(some 80), none, .idxA 2 (.t 63) (.t 66)⟩,
  ⟨none, none, .store 2 (.t 80) (.t 78)⟩]
def c117r7 : List AOper := [
  ⟨(some 81), none, .mov (.t 11)⟩,
  ⟨(some 10), none, .mov (.t 81)⟩]
def c117l8 : ACode := (.block 1 (.seq (.reg 0 c117r1) (.seq (.seq (.reg 0 c117r2) (.cond (.t 18) (.exit 0) .skip)) (.seq (.seq (.reg 0 c117r3) (.cond (.t 40) (.reg 0 c117r4) .skip)) (.seq (.seq (.reg 0 c117r5) (.cond (.t 58) .ret .skip)) (.seq (.reg 0 c117r6) (.reg 0 c117r7)))))))
def c117l8m : List Bool := [true, false, true, true, true, false, false, false, false, false, true, false, false, false, false, false, false, false, false, false, false, false, false, false, false, false, false, false, false, false, false, false, false, false, false, false, false, false, false, false, false, false, false, false, false, false, false, false, false, false, false, false, false, false, false, false, false, false, false, false, false, false, false, false, false, false, false, false, false, false, false, false, false, false, false, false, false, false, false, false, false, false]
def f117 : FRow := ⟨(.seq (.reg 0 c117r0) (.block 0 (.loop c117l8m [] c117l8))), [], 82⟩
theorem okf117 : f117.Ok Try.prog 117 := ⟨_, _, Try.func117, rfl, by kernel_rfl, by kernel_rfl, by kernel_rfl⟩

/-! 118 slices.nextPowerOfTwo, 1 and 0 -/
def c118r0 : List AOper := [
  ⟨(some 2), none, .mov (.c (.s (.int .u64 0)))⟩]
def c118r1 : List AOper := [
  ⟨(some 3), none, .mov (.t 0)⟩,
  ⟨(some 4), none, .conv .u64 (.t 3)⟩,
  ⟨(some 5), none, .call 102 [(.t 4)]⟩,
  ⟨(some 6), none, .shift .shl (.c (.s (.int .u64 1))) (.t 5)⟩,
  ⟨(some 2), none, .mov (.t 6)⟩]
def f118 : FRow := ⟨(.seq (.reg 0 c118r0) (.seq (.reg 0 c118r1) .ret)), [.tmp 2], 7⟩
theorem okf118 : f118.Ok Try.prog 118 := ⟨_, _, Try.func118, rfl, by kernel_rfl, by kernel_rfl, by kernel_rfl⟩


end Go.Proofs.Ytglmjdpmpgphkaa.Sk

/- The code of functions in the value semantics, and that it stands for theirs. -/
namespace Go.Proofs.Ytglmjdpmpgphkaa.Sk
open Go Go.E

/-! 119 (*slices.xorshift).Next, 1 and 0 -/
def c119r0 : List AOper := [
  ⟨(some 2), none, .mov (.c (.s (.int .u64 0)))⟩]
def c119r1 : List AOper := [
  ⟨(some 3), none, .mov (.t 0)⟩,
  ⟨(some 4), none, .nilck (.t 3)⟩,
  ⟨(some 5), none, .load 1 false (.t 4)⟩,
  ⟨(some 6), none, .mov (.t 0)⟩,
  ⟨(some 7), none, .nilck (.t 6)⟩,
  ⟨(some 8), none, .load 1 false (.t 7)⟩,
  ⟨(some 9), none, .shift .shl (.t 8) (.c (.s (.int .u64 13)))⟩,
  ⟨(some 10), none, .bits .xor (.t 5) (.t 9)⟩,
  ⟨(some 11), none, .nilck (.t 3)⟩,
  ⟨none, none, .store 1 (.t 11) (.t 10)⟩]
def c119r2 : List AOper := [
  ⟨(some 12), none, .mov (.t 0)⟩,
  ⟨(some 13), none, .nilck (.t 12)⟩,
  ⟨(some 14), none, .load 1 false (.t 13)⟩,
  ⟨(some 15), none, .mov (.t 0)⟩,
  ⟨(some 16), none, .nilck (.t 15)⟩,
  ⟨(some 17), none, .load 1 false (.t 16)⟩,
  ⟨(some 18), none, .shift .shr (.t 17) (.c (.s (.int .u64 7)))⟩,
  ⟨(some 19), none, .bits .xor (.t 14) (.t 18)⟩,
  ⟨(some 20), none, .nilck (.t 12)⟩,
  ⟨none, none, .store 1 (.t 20) (.t 19)⟩]
def c119r3 : List AOper := [
  ⟨(some 21), none, .mov (.t 0)⟩,
  ⟨(some 22), none, .nilck (.t 21)⟩,
  ⟨(some 23), none, .load 1 false (.t 22)⟩,
  ⟨(some 24), none, .mov (.t 0)⟩,
  ⟨(some 25), none, .nilck (.t 24)⟩,
  ⟨(some 26), none, .load 1 false (.t 25)⟩,
  ⟨(some 27), none, .shift .shl (.t 26) (.c (.s (.int .u64 17)))⟩,
  ⟨(some 28), none, .bits .xor (.t 23) (.t 27)⟩,
  ⟨(some 29), none, .nilck (.t 21)⟩,
  ⟨none, none, .store 1 (.t 29) (.t 28)⟩]
def c119r4 : List AOper := [
  ⟨(some 30), none, .mov (.t 0)⟩,
  ⟨(some 31), none, .nilck (.t 30)⟩,
  ⟨(some 32), none, .load 1 false (.t 31)⟩,
  ⟨(some 2), none, .mov (.t 32)⟩]
def f119 : FRow := ⟨(.seq (.reg 0 c119r0) (.seq (.reg 0 c119r1) (.seq (.reg 0 c119r2) (.seq (.reg 0 c119r3) (.seq (.reg 0 c119r4) .ret))))), [.tmp 2], 33⟩
theorem okf119 : f119.Ok Try.prog 119 := ⟨_, _, Try.func119, rfl, by kernel_rfl, by kernel_rfl, by kernel_rfl⟩

/-! 120 slices.medianAdjacentCmpFunc[[2]int], 4 and 0 -/
def c120r0 : List AOper := [
  ⟨(some 8), none, .mov (.c (.s (.int .i64 0)))⟩]
def c120r1 : List AOper := [
  ⟨(some 9), none, .mov (.t 0)⟩,
  ⟨(some 10), none, .mov (.t 1)⟩,
  ⟨(some 11), none, .arith .sub (.t 10) (.c (.s (.int .i64 1)))⟩,
  ⟨(some 12), none, .mov (.t 1)⟩,
  ⟨(some 13), none, .mov (.t 1)⟩,
  ⟨(some 14), none, .arith .add (.t 13) (.c (.s (.int .i64 1)))⟩,
  ⟨(some 15), none, .mov (.t 2)⟩,
  ⟨(some 16), none, .mov (.t 3)⟩,
  ⟨(some 17), none, .callI 121 [(.t 9), (.t 11), (.t 12), (.t 14), (.t 15), (.t 16)]⟩,
  ⟨(some 8), none, .mov (.t 17)⟩]
def f120 : FRow := ⟨(.seq (.reg 0 c120r0) (.seq (.reg 0 c120r1) .ret)), [.tmp 8], 18⟩
theorem okf120 : f120.Ok Try.prog 120 := ⟨_, _, Try.func120, rfl, by kernel_rfl, by kernel_rfl, by kernel_rfl⟩

/-! 121 slices.medianCmpFunc[[2]int], 6 and 0 -/
def c121r0 : List AOper := [
  ⟨(some 12), none, .mov (.c (.s (.int .i64 0)))⟩]
def c121r1 : List AOper := [
  ⟨(some 14), none, .mov (.t 0)⟩,
  ⟨(some 15), none, .mov (.t 1)⟩,
  ⟨(some 16), none, .mov (.t 2)⟩,
  ⟨(some 17), none, .mov (.t 4)⟩,
  ⟨(some 18), none, .mov (.t 5)⟩,
  ⟨(some 19), none, .callI 122 [(.t 14), (.t 15), (.t 16), (.t 17), (.t 18)]⟩,
  ⟨(some 13), none, .mov (.t 19)⟩,
  ⟨(some 20), none, .ext (.t 13) 0⟩,
  ⟨(some 21), none, .ext (.t 13) 1⟩,
  ⟨(some 1), none, .mov (.t 20)⟩,
  ⟨(some 2), none, .mov (.t 21)⟩]
def c121r2 : List AOper := [
  ⟨(some 23), none, .mov (.t 0)⟩,
  ⟨(some 24), none, .mov (.t 2)⟩,
  ⟨(some 25), none, .mov (.t 3)⟩,
  ⟨(some 26), none, .mov (.t 4)⟩,
  ⟨(some 27), none, .mov (.t 5)⟩,
  ⟨(some 28), none, .callI 122 [(.t 23), (.t 24), (.t 25), (.t 26), (.t 27)]⟩,
  ⟨(some 22), none, .mov (.t 28)⟩,
  ⟨(some 29), none, .ext (.t 22) 0⟩,
  ⟨(some 30), none, .ext (.t 22) 1⟩,
  ⟨(some 2), none, .mov (.t 29)⟩,
  ⟨(some 3), none, .mov (.t 30)⟩]
def c121r3 : List AOper := [
  ⟨(some 32), none, .mov (.t 0)⟩,
  ⟨(some 33), none, .mov (.t 1)⟩,
  ⟨(some 34), none, .mov (.t 2)⟩,
  ⟨(some 35), none, .mov (.t 4)⟩,
  ⟨(some 36), none, .mov (.t 5)⟩,
  ⟨(some 37), none, .callI 122 [(.t 32), (.t 33), (.t 34), (.t 35), (.t 36)]⟩,
  ⟨(some 31), none, .mov (.t 37)⟩,
  ⟨(some 38), none, .ext (.t 31) 0⟩,
  ⟨(some 39), none, .ext (.t 31) 1⟩,
  ⟨(some 1), none, .mov (.t 38)⟩,
  ⟨(some 2), none, .mov (.t 39)⟩]
def c121r4 : List AOper := [
  ⟨(some 40), none, .mov (.t 2)⟩,
  ⟨(some 12), none, .mov (.t 40)⟩]
def f121 : FRow := ⟨(.seq (.reg 0 c121r0) (.seq (.reg 0 c121r1) (.seq (.reg 0 c121r2) (.seq (.reg 0 c121r3) (.seq (.reg 0 c121r4) .ret))))), [.tmp 12], 41⟩
theorem okf121 : f121.Ok Try.prog 121 := ⟨_, _, Try.func121, rfl, by kernel_rfl, by kernel_rfl, by kernel_rfl⟩

/-! 122 slices.order2CmpFunc[[2]int], 5 and 0 -/
def c122r0 : List AOper := [
  ⟨(some 10), none, .mov (.c (.s (.int .i64 0)))⟩,
  ⟨(some 11), none, .mov (.c (.s (.int .i64 0)))⟩]
def c122r1 : List AOper := [
  ⟨(some 12), none, .mov (.t 4)⟩,
  ⟨(some 13), none, .mov (.t 0)⟩,
  ⟨(some 14), none, .mov (.t 2)⟩,
  ⟨(some 15), none, .idxA 2 (.t 13) (.t 14)⟩,
  ⟨(some 16), none, .load 2 true (.t 15)⟩,
  ⟨(some 17), none, .mov (.t 0)⟩,
  ⟨(some 18), none, .mov (.t 1)⟩,
  ⟨(some 19), none, .idxA 2 (.t 17) (.t 18)⟩,
  ⟨(some 20), none, .load 2 true (.t 19)⟩,
  ⟨(some 21), none, .callv (.t 12) [(.t 16), (.t 20)]⟩,
  ⟨(some 22), none, .cmp .lss (.t 21) (.c (.s (.int .i64 0)))⟩]
def c122r2 : List AOper := [
  ⟨(some 23), none, .mov (.t 3)⟩,
  ⟨(some 24), none, .nilck (.t 23)⟩,
  ⟨(some 25), none, .load 1 false (.t 24)⟩,
  ⟨(some 26), none, .arith .add (.t 25) (.c (.s (.int .i64 1)))⟩,
  ⟨(some 27), none, .nilck (.t 23)⟩,
  ⟨none, none, .store 1 (.t 27) (.t 26)⟩]
def c122r3 : List AOper := [
  ⟨(some 28), none, .mov (.t 2)⟩,
  ⟨(some 29), none, .mov (.t 1)⟩,
  ⟨(some 10), none, .mov (.t 28)⟩,
  ⟨(some 11), none, .mov (.t 29)⟩]
def c122r4 : List AOper := [
  ⟨(some 30), none, .mov (.t 1)⟩,
  ⟨(some 31), none, .mov (.t 2)⟩,
  ⟨(some 10), none, .mov (.t 30)⟩,
  ⟨(some 11), none, .mov (.t 31)⟩]
def f122 : FRow := ⟨(.seq (.reg 0 c122r0) (.seq (.seq (.reg 0 c122r1) (.cond (.t 22) (.seq (.reg 0 c122r2) (.seq (.reg 0 c122r3) .ret)) .skip)) (.seq (.reg 0 c122r4) .ret))), [.tmp 10, .tmp 11], 32⟩
theorem okf122 : f122.Ok Try.prog 122 := ⟨_, _, Try.func122, rfl, by kernel_rfl, by kernel_rfl, by kernel_rfl⟩


end Go.Proofs.Ytglmjdpmpgphkaa.Sk

/- The code of all functions in the value semantics. -/
namespace Go.Proofs.Ytglmjdpmpgphkaa.Sk
open Go Go.E

/-- All of them. -/
def tbl : FuncId → Option FRow
  | 3 => some f3
  | 4 => some f4
  | 5 => some f5
  | 6 => some f6
  | 7 => some f7
  | 8 => some f8
  | 9 => some f9
  | 10 => some f10
  | 11 => some f11
  | 12 => some f12
  | 14 => some f14
  | 15 => some f15
  | 16 => some f16
  | 17 => some f17
  | 18 => some f18
  | 19 => some f19
  | 20 => some f20
  | 21 => some f21
  | 22 => some f22
  | 23 => some f23
  | 24 => some f24
  | 25 => some f25
  | 26 => some f26
  | 27 => some f27
  | 28 => some f28
  | 29 => some f29
  | 30 => some f30
  | 31 => some f31
  | 32 => some f32
  | 33 => some f33
  | 34 => some f34
  | 35 => some f35
  | 36 => some f36
  | 37 => some f37
  | 38 => some f38
  | 39 => some f39
  | 40 => some f40
  | 41 => some f41
  | 42 => some f42
  | 43 => some f43
  | 44 => some f44
  | 45 => some f45
  | 46 => some f46
  | 47 => some f47
  | 48 => some f48
  | 49 => some f49
  | 50 => some f50
  | 51 => some f51
  | 52 => some f52
  | 53 => some f53
  | 54 => some f54
  | 55 => some f55
  | 56 => some f56
  | 57 => some f57
  | 58 => some f58
  | 59 => some f59
  | 60 => some f60
  | 61 => some f61
  | 62 => some f62
  | 63 => some f63
  | 64 => some f64
  | 65 => some f65
  | 66 => some f66
  | 67 => some f67
  | 68 => some f68
  | 69 => some f69
  | 70 => some f70
  | 71 => some f71
  | 72 => some f72
  | 73 => some f73
  | 74 => some f74
  | 75 => some f75
  | 76 => some f76
  | 77 => some f77
  | 78 => some f78
  | 80 => some f80
  | 81 => some f81
  | 82 => some f82
  | 83 => some f83
  | 84 => some f84
  | 85 => some f85
  | 86 => some f86
  | 87 => some f87
  | 88 => some f88
  | 89 => some f89
  | 90 => some f90
  | 91 => some f91
  | 92 => some f92
  | 93 => some f93
  | 94 => some f94
  | 95 => some f95
  | 96 => some f96
  | 97 => some f97
  | 98 => some f98
  | 99 => some f99
  | 100 => some f100
  | 101 => some f101
  | 102 => some f102
  | 103 => some f103
  | 104 => some f104
  | 105 => some f105
  | 106 => some f106
  | 107 => some f107
  | 108 => some f108
  | 109 => some f109
  | 110 => some f110
  | 111 => some f111
  | 112 => some f112
  | 113 => some f113
  | 114 => some f114
  | 115 => some f115
  | 116 => some f116
  | 117 => some f117
  | 118 => some f118
  | 119 => some f119
  | 120 => some f120
  | 121 => some f121
  | 122 => some f122
  | _ => none

theorem tbl_ok : ∀ f r, tbl f = some r → r.Ok Try.prog f := by
  intro f r h
  unfold tbl at h
  split at h <;> first | (cases h; done) | skip
  · cases h; exact okf3
  · cases h; exact okf4
  · cases h; exact okf5
  · cases h; exact okf6
  · cases h; exact okf7
  · cases h; exact okf8
  · cases h; exact okf9
  · cases h; exact okf10
  · cases h; exact okf11
  · cases h; exact okf12
  · cases h; exact okf14
  · cases h; exact okf15
  · cases h; exact okf16
  · cases h; exact okf17
  · cases h; exact okf18
  · cases h; exact okf19
  · cases h; exact okf20
  · cases h; exact okf21
  · cases h; exact okf22
  · cases h; exact okf23
  · cases h; exact okf24
  · cases h; exact okf25
  · cases h; exact okf26
  · cases h; exact okf27
  · cases h; exact okf28
  · cases h; exact okf29
  · cases h; exact okf30
  · cases h; exact okf31
  · cases h; exact okf32
  · cases h; exact okf33
  · cases h; exact okf34
  · cases h; exact okf35
  · cases h; exact okf36
  · cases h; exact okf37
  · cases h; exact okf38
  · cases h; exact okf39
  · cases h; exact okf40
  · cases h; exact okf41
  · cases h; exact okf42
  · cases h; exact okf43
  · cases h; exact okf44
  · cases h; exact okf45
  · cases h; exact okf46
  · cases h; exact okf47
  · cases h; exact okf48
  · cases h; exact okf49
  · cases h; exact okf50
  · cases h; exact okf51
  · cases h; exact okf52
  · cases h; exact okf53
  · cases h; exact okf54
  · cases h; exact okf55
  · cases h; exact okf56
  · cases h; exact okf57
  · cases h; exact okf58
  · cases h; exact okf59
  · cases h; exact okf60
  · cases h; exact okf61
  · cases h; exact okf62
  · cases h; exact okf63
  · cases h; exact okf64
  · cases h; exact okf65
  · cases h; exact okf66
  · cases h; exact okf67
  · cases h; exact okf68
  · cases h; exact okf69
  · cases h; exact okf70
  · cases h; exact okf71
  · cases h; exact okf72
  · cases h; exact okf73
  · cases h; exact okf74
  · cases h; exact okf75
  · cases h; exact okf76
  · cases h; exact okf77
  · cases h; exact okf78
  · cases h; exact okf80
  · cases h; exact okf81
  · cases h; exact okf82
  · cases h; exact okf83
  · cases h; exact okf84
  · cases h; exact okf85
  · cases h; exact okf86
  · cases h; exact okf87
  · cases h; exact okf88
  · cases h; exact okf89
  · cases h; exact okf90
  · cases h; exact okf91
  · cases h; exact okf92
  · cases h; exact okf93
  · cases h; exact okf94
  · cases h; exact okf95
  · cases h; exact okf96
  · cases h; exact okf97
  · cases h; exact okf98
  · cases h; exact okf99
  · cases h; exact okf100
  · cases h; exact okf101
  · cases h; exact okf102
  · cases h; exact okf103
  · cases h; exact okf104
  · cases h; exact okf105
  · cases h; exact okf106
  · cases h; exact okf107
  · cases h; exact okf108
  · cases h; exact okf109
  · cases h; exact okf110
  · cases h; exact okf111
  · cases h; exact okf112
  · cases h; exact okf113
  · cases h; exact okf114
  · cases h; exact okf115
  · cases h; exact okf116
  · cases h; exact okf117
  · cases h; exact okf118
  · cases h; exact okf119
  · cases h; exact okf120
  · cases h; exact okf121
  · cases h; exact okf122

theorem tbl_fn : ∀ f, (tbl f).isSome = true → okFn Try.prog f = true := by
  intro f h
  unfold tbl at h
  split at h <;> first | (cases h; done) | kernel_rfl

def tbl2 : FuncId → Option TRow
  | 79 => some t79
  | _ => none

theorem tbl2_ok : ∀ f r, tbl2 f = some r → r.Ok Try.prog f := by
  intro f r h
  unfold tbl2 at h
  split at h <;> first | (cases h; done) | skip
  · cases h; exact okt79

end Go.Proofs.Ytglmjdpmpgphkaa.Sk

/- Contracts of functions: searching, lists that rise, valid machines. -/
namespace Go.Proofs.Ytglmjdpmpgphkaa.Sk
open Go Go.E Go.E.Sm

def ints (l : List Int) : SV := .slice (l.map (.int .i64))

theorem inR_small {n : Int} (h0 : 0 ≤ n) (h1 : n ≤ 2 ^ 63 - 1) : inR .i64 n := by
  unfold inR IntKind.wrap
  have e : n % (2 ^ IntKind.i64.bits : Int) = n := Int.emod_eq_of_lt h0 (by simp only [IntKind.bits]; omega)
  simp only [e]
  have : ¬ (n ≥ (2 ^ (IntKind.i64.bits - 1) : Int)) := by simp only [IntKind.bits]; omega
  simp [this]

theorem maxLen_le : (maxLen : Int) ≤ 2 ^ 63 - 1 := Int.le_refl _

/-- The first place from one on where it is so. -/
def idx {α : Type} (p : α → Bool) : List α → Int → Int
  | [], _ => -1
  | x :: xs, i => if p x then i else idx p xs (i + 1)

theorem idx_ge {α : Type} (p : α → Bool) : ∀ (xs : List α) (i : Nat), (0 ≤ idx p xs i) ↔ xs.any p = true
  | [], i => by simp [idx]
  | x :: xs, i => by
    simp only [idx, List.any_cons, Bool.or_eq_true]
    by_cases h : p x = true
    · simp [h]
    · have := idx_ge p xs (i + 1)
      rw [show ((i + 1 : Nat) : Int) = (i : Int) + 1 from rfl] at this
      simp [h, this]

/-- A function value that is asked of one value. -/
def Asks (g : FuncId) (first caps : List SV) (x : SV) (b : Bool) : Prop := E.Fn Try.prog g (first ++ [x] ++ caps) [.bool b]
def Ok1 (g : FuncId) (first caps : List SV) : Prop := okFn Try.prog g = true ∧ ((first.map LV.s).all LV.isOne && (caps.map LV.s).all LV.isOne) = true

theorem k92 {g : FuncId} {first caps : List SV} {xs : List Int} {p : Int → Bool} (hg : Ok1 g first caps) (hp : ∀ x ∈ xs, Asks g first caps (.int .i64 x) (p x)) : E.Fn Try.prog 92 [ints xs, .fn g first caps] [.int .i64 (idx p xs 0)] := by
  refine fn_of_row okf92 ?_
  simp only [FRow.start, f92, c92r0, c92r1, ints, go_sem, List.replicate, List.append_nil, List.cons_append, List.nil_append, List.length_cons, List.length_nil, List.map_cons, List.map_nil, List.getElem?_cons_zero, List.getElem?_cons_succ, Nat.reduceAdd, Nat.reduceSub, Nat.reduceLT, Nat.reduceLeDiff, and_true, true_and, forall_const, if_true, if_false, ↓reduceIte, Int.toNat_natCast, List.getElem?_map, Option.map_some, Option.bind_some, Bool.not_true, Bool.not_false, reduceCtorEq, List.take_nil, List.length_map, eq_self, List.all_cons, List.all_nil, Bool.and_true, Int.ofNat_lt, Bool.and_self, finK, resK, Int.natCast_nonneg, implies_true, List.take_zero, Nat.zero_add, List.drop_zero, List.drop_succ_cons, List.take_succ_cons, List.set_cons_zero, List.set_cons_succ, decide_true, decide_false, Int.le_refl, Nat.le_refl, List.flatten_cons, List.flatten_nil]
  intro hlen
  have hlen' : (xs.length : Int) ≤ 2 ^ 63 - 1 := Int.le_trans (Int.ofNat_le.mpr hlen) maxLen_le
  refine loop_rule (fun n τ => ∃ i : Nat, n = xs.length - i ∧ i ≤ xs.length ∧ idx p xs 0 = idx p (xs.drop i) i ∧
    τ = ⟨[.s (.slice (xs.map (.int .i64))), .s (.fn g first caps), .any, .any, .any, .any, .any, .s (.int .i64 xs.length), .s (.int .i64 i), .any, .any, .any, .any, .any, .any, .any, .any, .any, .any], []⟩) xs.length rfl ?_ ?_
  · simp only [c92l7m, go_sem, List.replicate, List.append_nil, List.cons_append, List.nil_append, List.length_cons, List.length_nil, List.map_cons, List.map_nil, List.getElem?_cons_zero, List.getElem?_cons_succ, Nat.reduceAdd, Nat.reduceSub, Nat.reduceLT, Nat.reduceLeDiff, and_true, true_and, forall_const, if_true, if_false, ↓reduceIte, Int.toNat_natCast, List.getElem?_map, Option.map_some, Option.bind_some, Bool.not_true, Bool.not_false, reduceCtorEq, List.take_nil, List.length_map, eq_self, List.all_cons, List.all_nil, Bool.and_true, Int.ofNat_lt, Bool.and_self, finK, resK, Int.natCast_nonneg, implies_true, List.take_zero, Nat.zero_add, List.drop_zero, List.drop_succ_cons, List.take_succ_cons, List.set_cons_zero, List.set_cons_succ, decide_true, decide_false, Int.le_refl, Nat.le_refl, List.flatten_cons, List.flatten_nil]
    exact ⟨0, rfl, Nat.zero_le _, rfl, rfl⟩
  · rintro I n τ ⟨i, rfl, hi, hidx, rfl⟩ hI
    simp only [c92l7, c92r2, c92r3, go_sem, List.replicate, List.append_nil, List.cons_append, List.nil_append, List.length_cons, List.length_nil, List.map_cons, List.map_nil, List.getElem?_cons_zero, List.getElem?_cons_succ, Nat.reduceAdd, Nat.reduceSub, Nat.reduceLT, Nat.reduceLeDiff, and_true, true_and, forall_const, if_true, if_false, ↓reduceIte, Int.toNat_natCast, List.getElem?_map, Option.map_some, Option.bind_some, Bool.not_true, Bool.not_false, reduceCtorEq, List.take_nil, List.length_map, eq_self, List.all_cons, List.all_nil, Bool.and_true, Int.ofNat_lt, Bool.and_self, finK, resK, Int.natCast_nonneg, implies_true, List.take_zero, Nat.zero_add, List.drop_zero, List.drop_succ_cons, List.take_succ_cons, List.set_cons_zero, List.set_cons_succ, decide_true, decide_false, Int.le_refl, Nat.le_refl, List.flatten_cons, List.flatten_nil]
    refine ⟨fun hlt => ?_, fun hge => ?_⟩
    · have hx : xs[i]? = some xs[i] := List.getElem?_eq_getElem hlt
      have hdrop : xs.drop i = xs[i] :: xs.drop (i + 1) := List.drop_eq_getElem_cons hlt
      simp only [c92r4, hx, go_sem, List.replicate, List.append_nil, List.cons_append, List.nil_append, List.length_cons, List.length_nil, List.map_cons, List.map_nil, List.getElem?_cons_zero, List.getElem?_cons_succ, Nat.reduceAdd, Nat.reduceSub, Nat.reduceLT, Nat.reduceLeDiff, and_true, true_and, forall_const, if_true, if_false, ↓reduceIte, Int.toNat_natCast, List.getElem?_map, Option.map_some, Option.bind_some, Bool.not_true, Bool.not_false, reduceCtorEq, List.take_nil, List.length_map, eq_self, List.all_cons, List.all_nil, Bool.and_true, Int.ofNat_lt, Bool.and_self, finK, resK, Int.natCast_nonneg, implies_true, List.take_zero, Nat.zero_add, List.drop_zero, List.drop_succ_cons, List.take_succ_cons, List.set_cons_zero, List.set_cons_succ, decide_true, decide_false, Int.le_refl, Nat.le_refl, List.flatten_cons, List.flatten_nil]
      refine ⟨hg.1, hg.2, callK_of (by simp only [go_sem, List.replicate, List.append_nil, List.cons_append, List.nil_append, List.length_cons, List.length_nil, List.map_cons, List.map_nil, List.getElem?_cons_zero, List.getElem?_cons_succ, Nat.reduceAdd, Nat.reduceSub, Nat.reduceLT, Nat.reduceLeDiff, and_true, true_and, forall_const, if_true, if_false, ↓reduceIte, Int.toNat_natCast, List.getElem?_map, Option.map_some, Option.bind_some, Bool.not_true, Bool.not_false, reduceCtorEq, List.take_nil, List.length_map, eq_self, List.all_cons, List.all_nil, Bool.and_true, Int.ofNat_lt, Bool.and_self, finK, resK, Int.natCast_nonneg, implies_true, List.take_zero, Nat.zero_add, List.drop_zero, List.drop_succ_cons, List.take_succ_cons, List.set_cons_zero, List.set_cons_succ, decide_true, decide_false, Int.le_refl, Nat.le_refl, List.flatten_cons, List.flatten_nil]) (hp _ (List.getElem_mem hlt)) (.inl rfl) ?_⟩
      simp only [go_sem, List.replicate, List.append_nil, List.cons_append, List.nil_append, List.length_cons, List.length_nil, List.map_cons, List.map_nil, List.getElem?_cons_zero, List.getElem?_cons_succ, Nat.reduceAdd, Nat.reduceSub, Nat.reduceLT, Nat.reduceLeDiff, and_true, true_and, forall_const, if_true, if_false, ↓reduceIte, Int.toNat_natCast, List.getElem?_map, Option.map_some, Option.bind_some, Bool.not_true, Bool.not_false, reduceCtorEq, List.take_nil, List.length_map, eq_self, List.all_cons, List.all_nil, Bool.and_true, Int.ofNat_lt, Bool.and_self, finK, resK, Int.natCast_nonneg, implies_true, List.take_zero, Nat.zero_add, List.drop_zero, List.drop_succ_cons, List.take_succ_cons, List.set_cons_zero, List.set_cons_succ, decide_true, decide_false, Int.le_refl, Nat.le_refl, List.flatten_cons, List.flatten_nil]
      rw [hdrop, idx] at hidx
      cases hpx : p xs[i] with
      | true =>
        simp only [hpx, if_true] at hidx
        simp only [c92r5, hpx, hidx, go_sem, List.replicate, List.append_nil, List.cons_append, List.nil_append, List.length_cons, List.length_nil, List.map_cons, List.map_nil, List.getElem?_cons_zero, List.getElem?_cons_succ, Nat.reduceAdd, Nat.reduceSub, Nat.reduceLT, Nat.reduceLeDiff, and_true, true_and, forall_const, if_true, if_false, ↓reduceIte, Int.toNat_natCast, List.getElem?_map, Option.map_some, Option.bind_some, Bool.not_true, Bool.not_false, reduceCtorEq, List.take_nil, List.length_map, eq_self, List.all_cons, List.all_nil, Bool.and_true, Int.ofNat_lt, Bool.and_self, finK, resK, Int.natCast_nonneg, implies_true, List.take_zero, Nat.zero_add, List.drop_zero, List.drop_succ_cons, List.take_succ_cons, List.set_cons_zero, List.set_cons_succ, decide_true, decide_false, Int.le_refl, Nat.le_refl, List.flatten_cons, List.flatten_nil]
      | false =>
        simp only [hpx, Bool.false_eq_true, if_false] at hidx
        simp only [c92r6, hpx, c92l7m, go_sem, List.replicate, List.append_nil, List.cons_append, List.nil_append, List.length_cons, List.length_nil, List.map_cons, List.map_nil, List.getElem?_cons_zero, List.getElem?_cons_succ, Nat.reduceAdd, Nat.reduceSub, Nat.reduceLT, Nat.reduceLeDiff, and_true, true_and, forall_const, if_true, if_false, ↓reduceIte, Int.toNat_natCast, List.getElem?_map, Option.map_some, Option.bind_some, Bool.not_true, Bool.not_false, reduceCtorEq, List.take_nil, List.length_map, eq_self, List.all_cons, List.all_nil, Bool.and_true, Int.ofNat_lt, Bool.and_self, finK, resK, Int.natCast_nonneg, implies_true, List.take_zero, Nat.zero_add, List.drop_zero, List.drop_succ_cons, List.take_succ_cons, List.set_cons_zero, List.set_cons_succ, decide_true, decide_false, Int.le_refl, Nat.le_refl, List.flatten_cons, List.flatten_nil]
        refine ⟨inR_small (n := ((i : Int) + 1)) (by omega) (by omega), hI (xs.length - (i + 1)) _ (by omega) ⟨i + 1, rfl, by omega, by rw [hidx]; simp, by simp⟩⟩
    · have hie : i = xs.length := by omega
      subst hie
      simp only [List.drop_length, idx] at hidx
      simp only [c92r8, hidx, go_sem, List.replicate, List.append_nil, List.cons_append, List.nil_append, List.length_cons, List.length_nil, List.map_cons, List.map_nil, List.getElem?_cons_zero, List.getElem?_cons_succ, Nat.reduceAdd, Nat.reduceSub, Nat.reduceLT, Nat.reduceLeDiff, and_true, true_and, forall_const, if_true, if_false, ↓reduceIte, Int.toNat_natCast, List.getElem?_map, Option.map_some, Option.bind_some, Bool.not_true, Bool.not_false, reduceCtorEq, List.take_nil, List.length_map, eq_self, List.all_cons, List.all_nil, Bool.and_true, Int.ofNat_lt, Bool.and_self, finK, resK, Int.natCast_nonneg, implies_true, List.take_zero, Nat.zero_add, List.drop_zero, List.drop_succ_cons, List.take_succ_cons, List.set_cons_zero, List.set_cons_succ, decide_true, decide_false, Int.le_refl, Nat.le_refl, List.flatten_cons, List.flatten_nil]

end Go.Proofs.Ytglmjdpmpgphkaa.Sk

/- The iterator over answers. -/
namespace Go.Proofs.Ytglmjdpmpgphkaa.Sk
open Go Go.E Go.E.Sm

set_option maxRecDepth 10000
def bools (l : List Bool) : SV := .slice (l.map .bool)
/-- The cells of a board. -/
def bd (pl : List Bool) (mv : List (List Int)) (wn : List Bool) (far : List SV) : List SV := bools pl :: .slice (mv.map ints) :: bools wn :: far
def mach (pl : List Bool) (mv : List (List Int)) (wn : List Bool) : SV := .agg [bools pl, .slice (mv.map ints), bools wn]

def stepv (i : Nat) (k : Int) : SV := .agg [.int .i64 i, .int .i64 k]
def ansAt (i : Nat) (p w : Bool) (l : List Int) : List SV := if p then [] else if w then [] else l.map (stepv i)
def ansFrom : Nat → List Bool → List (List Int) → List Bool → List SV
  | i, p :: ps, l :: ls, w :: ws => ansAt i p w l ++ ansFrom (i + 1) ps ls ws
  | _, _, _, _ => []

theorem ansFrom_flat : ∀ (i : Nat) (ps : List Bool) (ls : List (List Int)) (ws : List Bool), ∀ v ∈ ansFrom i ps ls ws, v.flat = true
  | i, p :: ps, l :: ls, w :: ws => by
    intro v hv
    simp only [ansFrom, List.mem_append] at hv
    rcases hv with hv | hv
    · unfold ansAt at hv
      split at hv
      · cases hv
      · split at hv
        · cases hv
        · obtain ⟨k, _, rfl⟩ := List.mem_map.1 hv
          rfl
    · exact ansFrom_flat _ _ _ _ v hv
  | _, [], _, _ => by intro v hv; simp [ansFrom] at hv
  | _, _ :: _, [], _ => by intro v hv; simp [ansFrom] at hv
  | _, _ :: _, _ :: _, [] => by intro v hv; simp [ansFrom] at hv

theorem k104 {pl wn : List Bool} {mv : List (List Int)} {far : List SV} (hpl : pl.length = mv.length) (hwn : wn.length = mv.length) :
    E.Yields Try.prog 104 [.ptr [.ptr (bd pl mv wn far)]] (ansFrom 0 pl mv wn) := by
  refine yields_of_row (nt := 54) Try.func104 rfl (by kernel_rfl) (by kernel_rfl) (by kernel_rfl) (by kernel_rfl) (ansFrom_flat _ _ _ _) (ac := f104.code) fun l => ?_
  simp only [f104, c104r0, bd, go_sem, List.replicate, List.append_nil, List.cons_append, List.nil_append, List.length_cons, List.length_nil, List.map_cons, List.map_nil, List.getElem?_cons_zero, List.getElem?_cons_succ, Nat.reduceAdd, Nat.reduceSub, Nat.reduceLT, Nat.reduceLeDiff, and_true, true_and, forall_const, if_true, if_false, ↓reduceIte, Int.toNat_natCast, List.getElem?_map, Option.map_some, Option.bind_some, Bool.not_true, Bool.not_false, reduceCtorEq, List.take_nil, List.length_map, eq_self, List.all_cons, List.all_nil, Bool.and_true, Int.ofNat_lt, Bool.and_self, finK, resK, Int.natCast_nonneg, implies_true, List.take_zero, Nat.zero_add, List.drop_zero, List.drop_succ_cons, List.take_succ_cons, List.set_cons_zero, List.set_cons_succ, decide_true, decide_false, Int.le_refl, Nat.le_refl, List.flatten_cons, List.flatten_nil]
  intro hlen
  have hlen' : (mv.length : Int) ≤ 2 ^ 63 - 1 := Int.le_trans (Int.ofNat_le.mpr hlen) maxLen_le
  refine ywp_loop (fun n fr rest => ∃ i : Nat, n = mv.length - i ∧ i ≤ mv.length ∧ rest = some (ansFrom i (pl.drop i) (mv.drop i) (wn.drop i)) ∧
    fr = [.yl l, .s (.ptr [.ptr (bd pl mv wn far)]), .any, .any, .any, .any, .any, .any, .any, .any, .any, .s (.slice (mv.map ints)), .s (.int .i64 mv.length), .s (.int .i64 i), .any, .any, .any, .any, .any, .any, .any, .any, .any, .any, .any, .any, .any, .any, .any, .any, .any, .any, .any, .any, .any, .any, .any, .any, .any, .any, .any, .any, .any, .any, .any, .any, .any, .any, .any, .any, .any, .any, .any, .any]) mv.length ?_ ?_
  · simp only [c104l10m, go_sem, List.replicate, List.append_nil, List.cons_append, List.nil_append, List.length_cons, List.length_nil, List.map_cons, List.map_nil, List.getElem?_cons_zero, List.getElem?_cons_succ, Nat.reduceAdd, Nat.reduceSub, Nat.reduceLT, Nat.reduceLeDiff, and_true, true_and, forall_const, if_true, if_false, ↓reduceIte, Int.toNat_natCast, List.getElem?_map, Option.map_some, Option.bind_some, Bool.not_true, Bool.not_false, reduceCtorEq, List.take_nil, List.length_map, eq_self, List.all_cons, List.all_nil, Bool.and_true, Int.ofNat_lt, Bool.and_self, finK, resK, Int.natCast_nonneg, implies_true, List.take_zero, Nat.zero_add, List.drop_zero, List.drop_succ_cons, List.take_succ_cons, List.set_cons_zero, List.set_cons_succ, decide_true, decide_false, Int.le_refl, Nat.le_refl, List.flatten_cons, List.flatten_nil]
    exact ⟨0, rfl, Nat.zero_le _, rfl, rfl⟩
  · rintro I n fr rest ⟨i, rfl, hi, rfl, rfl⟩ hI
    simp only [c104l10, c104r1, go_sem, List.replicate, List.append_nil, List.cons_append, List.nil_append, List.length_cons, List.length_nil, List.map_cons, List.map_nil, List.getElem?_cons_zero, List.getElem?_cons_succ, Nat.reduceAdd, Nat.reduceSub, Nat.reduceLT, Nat.reduceLeDiff, and_true, true_and, forall_const, if_true, if_false, ↓reduceIte, Int.toNat_natCast, List.getElem?_map, Option.map_some, Option.bind_some, Bool.not_true, Bool.not_false, reduceCtorEq, List.take_nil, List.length_map, eq_self, List.all_cons, List.all_nil, Bool.and_true, Int.ofNat_lt, Bool.and_self, finK, resK, Int.natCast_nonneg, implies_true, List.take_zero, Nat.zero_add, List.drop_zero, List.drop_succ_cons, List.take_succ_cons, List.set_cons_zero, List.set_cons_succ, decide_true, decide_false, Int.le_refl, Nat.le_refl, List.flatten_cons, List.flatten_nil]
    refine ⟨fun hlt => ?_, fun hge => ?_⟩
    · have hx : mv[i]? = some mv[i] := List.getElem?_eq_getElem hlt
      have hp : pl[i]? = some pl[i] := List.getElem?_eq_getElem (by omega)
      have hw : wn[i]? = some wn[i] := List.getElem?_eq_getElem (by omega)
      have hdrop : mv.drop i = mv[i] :: mv.drop (i + 1) := List.drop_eq_getElem_cons hlt
      have hdp : pl.drop i = pl[i] :: pl.drop (i + 1) := List.drop_eq_getElem_cons (by omega)
      have hdw : wn.drop i = wn[i] :: wn.drop (i + 1) := List.drop_eq_getElem_cons (by omega)
      rw [hdrop, hdp, hdw, ansFrom]
      generalize mv[i] = m at *
      generalize pl[i] = p at *
      generalize wn[i] = w at *
      simp only [c104r2, c104r3, hx, ints, go_sem, List.replicate, List.append_nil, List.cons_append, List.nil_append, List.length_cons, List.length_nil, List.map_cons, List.map_nil, List.getElem?_cons_zero, List.getElem?_cons_succ, Nat.reduceAdd, Nat.reduceSub, Nat.reduceLT, Nat.reduceLeDiff, and_true, true_and, forall_const, if_true, if_false, ↓reduceIte, Int.toNat_natCast, List.getElem?_map, Option.map_some, Option.bind_some, Bool.not_true, Bool.not_false, reduceCtorEq, List.take_nil, List.length_map, eq_self, List.all_cons, List.all_nil, Bool.and_true, Int.ofNat_lt, Bool.and_self, finK, resK, Int.natCast_nonneg, implies_true, List.take_zero, Nat.zero_add, List.drop_zero, List.drop_succ_cons, List.take_succ_cons, List.set_cons_zero, List.set_cons_succ, decide_true, decide_false, Int.le_refl, Nat.le_refl, List.flatten_cons, List.flatten_nil]
      intro hml
      have hml' : (m.length : Int) ≤ 2 ^ 63 - 1 := Int.le_trans (Int.ofNat_le.mpr hml) maxLen_le
      refine ywp_loop (fun n fr rest => ∃ j : Nat, n = m.length - j ∧ j ≤ m.length ∧ rest = some (ansAt i p w (m.drop j) ++ ansFrom (i + 1) (List.drop (i + 1) pl) (List.drop (i + 1) mv) (List.drop (i + 1) wn)) ∧
        fr = [.yl l, .s (.ptr [.ptr (bd pl mv wn far)]), .any, .s (.int .i64 i), .any, .any, .any, .any, .any, .any, .any, .s (.slice (mv.map ints)), .s (.int .i64 mv.length), .s (.int .i64 i), .any, .any, .any, .any, .s (.slice (m.map (.int .i64))), .s (.int .i64 m.length), .s (.int .i64 j), .any, .any, .any, .any, .any, .any, .any, .any, .any, .any, .any, .any, .any, .any, .any, .any, .any, .any, .any, .any, .any, .any, .any, .any, .any, .any, .any, .any, .any, .any, .any, .any, .any]) m.length ?_ ?_
      · simp only [c104l8m, go_sem, List.replicate, List.append_nil, List.cons_append, List.nil_append, List.length_cons, List.length_nil, List.map_cons, List.map_nil, List.getElem?_cons_zero, List.getElem?_cons_succ, Nat.reduceAdd, Nat.reduceSub, Nat.reduceLT, Nat.reduceLeDiff, and_true, true_and, forall_const, if_true, if_false, ↓reduceIte, Int.toNat_natCast, List.getElem?_map, Option.map_some, Option.bind_some, Bool.not_true, Bool.not_false, reduceCtorEq, List.take_nil, List.length_map, eq_self, List.all_cons, List.all_nil, Bool.and_true, Int.ofNat_lt, Bool.and_self, finK, resK, Int.natCast_nonneg, implies_true, List.take_zero, Nat.zero_add, List.drop_zero, List.drop_succ_cons, List.take_succ_cons, List.set_cons_zero, List.set_cons_succ, decide_true, decide_false, Int.le_refl, Nat.le_refl, List.flatten_cons, List.flatten_nil]
        exact ⟨0, rfl, Nat.zero_le _, rfl, rfl⟩
      · rintro I2 n fr rest ⟨j, rfl, hj, rfl, rfl⟩ hI2
        simp only [c104l8, c104r4, go_sem, List.replicate, List.append_nil, List.cons_append, List.nil_append, List.length_cons, List.length_nil, List.map_cons, List.map_nil, List.getElem?_cons_zero, List.getElem?_cons_succ, Nat.reduceAdd, Nat.reduceSub, Nat.reduceLT, Nat.reduceLeDiff, and_true, true_and, forall_const, if_true, if_false, ↓reduceIte, Int.toNat_natCast, List.getElem?_map, Option.map_some, Option.bind_some, Bool.not_true, Bool.not_false, reduceCtorEq, List.take_nil, List.length_map, eq_self, List.all_cons, List.all_nil, Bool.and_true, Int.ofNat_lt, Bool.and_self, finK, resK, Int.natCast_nonneg, implies_true, List.take_zero, Nat.zero_add, List.drop_zero, List.drop_succ_cons, List.take_succ_cons, List.set_cons_zero, List.set_cons_succ, decide_true, decide_false, Int.le_refl, Nat.le_refl, List.flatten_cons, List.flatten_nil]
        refine ⟨fun hlt2 => ?_, fun hge2 => ?_⟩
        · have hy : m[j]? = some m[j] := List.getElem?_eq_getElem hlt2
          have hdm : m.drop j = m[j] :: m.drop (j + 1) := List.drop_eq_getElem_cons hlt2
          rw [hdm]
          generalize m[j] = k at *
          cases p with
          | true =>
            simp only [c104r5, c104r6, hy, hp, bd, bools, c104r7, c104l8m, go_sem, List.replicate, List.append_nil, List.cons_append, List.nil_append, List.length_cons, List.length_nil, List.map_cons, List.map_nil, List.getElem?_cons_zero, List.getElem?_cons_succ, Nat.reduceAdd, Nat.reduceSub, Nat.reduceLT, Nat.reduceLeDiff, and_true, true_and, forall_const, if_true, if_false, ↓reduceIte, Int.toNat_natCast, List.getElem?_map, Option.map_some, Option.bind_some, Bool.not_true, Bool.not_false, reduceCtorEq, List.take_nil, List.length_map, eq_self, List.all_cons, List.all_nil, Bool.and_true, Int.ofNat_lt, Bool.and_self, finK, resK, Int.natCast_nonneg, implies_true, List.take_zero, Nat.zero_add, List.drop_zero, List.drop_succ_cons, List.take_succ_cons, List.set_cons_zero, List.set_cons_succ, decide_true, decide_false, Int.le_refl, Nat.le_refl, List.flatten_cons, List.flatten_nil]
            exact ⟨inR_small (by omega) (by omega), hI2 (m.length - (j + 1)) _ _ (by omega) ⟨j + 1, rfl, by omega, by simp [ansAt], rfl⟩⟩
          | false => cases w with
            | true =>
              simp only [c104r5, c104r6, hy, hp, hw, bd, bools, c104r7, c104l8m, go_sem, List.replicate, List.append_nil, List.cons_append, List.nil_append, List.length_cons, List.length_nil, List.map_cons, List.map_nil, List.getElem?_cons_zero, List.getElem?_cons_succ, Nat.reduceAdd, Nat.reduceSub, Nat.reduceLT, Nat.reduceLeDiff, and_true, true_and, forall_const, if_true, if_false, ↓reduceIte, Int.toNat_natCast, List.getElem?_map, Option.map_some, Option.bind_some, Bool.not_true, Bool.not_false, reduceCtorEq, List.take_nil, List.length_map, eq_self, List.all_cons, List.all_nil, Bool.and_true, Int.ofNat_lt, Bool.and_self, finK, resK, Int.natCast_nonneg, implies_true, List.take_zero, Nat.zero_add, List.drop_zero, List.drop_succ_cons, List.take_succ_cons, List.set_cons_zero, List.set_cons_succ, decide_true, decide_false, Int.le_refl, Nat.le_refl, List.flatten_cons, List.flatten_nil]
              exact ⟨inR_small (by omega) (by omega), hI2 (m.length - (j + 1)) _ _ (by omega) ⟨j + 1, rfl, by omega, by simp [ansAt], rfl⟩⟩
            | false =>
              simp only [c104r5, c104r6, hy, hp, hw, bd, bools, c104r7, c104l8m, ansAt, Bool.false_eq_true, stepv, go_sem, List.replicate, List.append_nil, List.cons_append, List.nil_append, List.length_cons, List.length_nil, List.map_cons, List.map_nil, List.getElem?_cons_zero, List.getElem?_cons_succ, Nat.reduceAdd, Nat.reduceSub, Nat.reduceLT, Nat.reduceLeDiff, and_true, true_and, forall_const, if_true, if_false, ↓reduceIte, Int.toNat_natCast, List.getElem?_map, Option.map_some, Option.bind_some, Bool.not_true, Bool.not_false, reduceCtorEq, List.take_nil, List.length_map, eq_self, List.all_cons, List.all_nil, Bool.and_true, Int.ofNat_lt, Bool.and_self, finK, resK, Int.natCast_nonneg, implies_true, List.take_zero, Nat.zero_add, List.drop_zero, List.drop_succ_cons, List.take_succ_cons, List.set_cons_zero, List.set_cons_succ, decide_true, decide_false, Int.le_refl, Nat.le_refl, List.flatten_cons, List.flatten_nil]
              exact ⟨⟨inR_small (by omega) (by omega), hI2 (m.length - (j + 1)) _ _ (by omega) ⟨j + 1, rfl, by omega, by simp [ansAt], rfl⟩⟩, .inr rfl⟩
        · have hje : j = m.length := by omega
          subst hje
          have he : ansAt i p w ([] : List Int) = [] := by unfold ansAt; cases p <;> cases w <;> rfl
          rw [List.drop_length, he, List.nil_append]
          simp only [c104r9, c104l10m, go_sem, List.replicate, List.append_nil, List.cons_append, List.nil_append, List.length_cons, List.length_nil, List.map_cons, List.map_nil, List.getElem?_cons_zero, List.getElem?_cons_succ, Nat.reduceAdd, Nat.reduceSub, Nat.reduceLT, Nat.reduceLeDiff, and_true, true_and, forall_const, if_true, if_false, ↓reduceIte, Int.toNat_natCast, List.getElem?_map, Option.map_some, Option.bind_some, Bool.not_true, Bool.not_false, reduceCtorEq, List.take_nil, List.length_map, eq_self, List.all_cons, List.all_nil, Bool.and_true, Int.ofNat_lt, Bool.and_self, finK, resK, Int.natCast_nonneg, implies_true, List.take_zero, Nat.zero_add, List.drop_zero, List.drop_succ_cons, List.take_succ_cons, List.set_cons_zero, List.set_cons_succ, decide_true, decide_false, Int.le_refl, Nat.le_refl, List.flatten_cons, List.flatten_nil]
          exact ⟨inR_small (by omega) (by omega), hI (mv.length - (i + 1)) _ _ (by omega) ⟨i + 1, rfl, by omega, rfl, rfl⟩⟩
    · have hie : i = mv.length := by omega
      subst hie
      simp only [finY, go_sem, List.replicate, List.append_nil, List.cons_append, List.nil_append, List.length_cons, List.length_nil, List.map_cons, List.map_nil, List.getElem?_cons_zero, List.getElem?_cons_succ, Nat.reduceAdd, Nat.reduceSub, Nat.reduceLT, Nat.reduceLeDiff, and_true, true_and, forall_const, if_true, if_false, ↓reduceIte, Int.toNat_natCast, List.getElem?_map, Option.map_some, Option.bind_some, Bool.not_true, Bool.not_false, reduceCtorEq, List.take_nil, List.length_map, eq_self, List.all_cons, List.all_nil, Bool.and_true, Int.ofNat_lt, Bool.and_self, finK, resK, Int.natCast_nonneg, implies_true, List.take_zero, Nat.zero_add, List.drop_zero, List.drop_succ_cons, List.take_succ_cons, List.set_cons_zero, List.set_cons_succ, decide_true, decide_false, Int.le_refl, Nat.le_refl, List.flatten_cons, List.flatten_nil]
      left
      simp [ansFrom]
end Go.Proofs.Ytglmjdpmpgphkaa.Sk

/- Known answers of functions, and an iterator, by a table. -/
namespace Go.Proofs.Ytglmjdpmpgphkaa.Sk
open Go Go.E

mutual
def sveq : SV → SV → Bool
  | .bool a, .bool b => a == b
  | .int k n, .int k' n' => decide (k = k') && decide (n = n')
  | .str a, .str b => decide (a.data = b.data)
  | .agg a, .agg b => svseq a b
  | .slice a, .slice b => svseq a b
  | .ptr a, .ptr b => svseq a b
  | .nilp, .nilp => true
  | .fn f a b, .fn f' a' b' => decide (f = f') && svseq a a' && svseq b b'
  | .map a b, .map a' b' => svseq a a' && svseq b b'
  | .nili, .nili => true
  | _, _ => false
def svseq : List SV → List SV → Bool
  | [], [] => true
  | x :: xs, y :: ys => sveq x y && svseq xs ys
  | _, _ => false
end

mutual
theorem sveq_eq : ∀ {a b : SV}, sveq a b = true → a = b
  | .bool _, b, h => by cases b <;> simp_all [sveq]
  | .int _ _, b, h => by cases b <;> simp_all [sveq]
  | .str x, b, h => by
    cases b <;> simp only [sveq, Bool.false_eq_true, decide_eq_true_eq] at h
    rename_i y; cases x; cases y; simp_all
  | .agg _, b, h => by cases b <;> simp only [sveq, Bool.false_eq_true] at h; rw [svseq_eq h]
  | .slice _, b, h => by cases b <;> simp only [sveq, Bool.false_eq_true] at h; rw [svseq_eq h]
  | .ptr _, b, h => by cases b <;> simp only [sveq, Bool.false_eq_true] at h; rw [svseq_eq h]
  | .nilp, b, h => by cases b <;> simp_all [sveq]
  | .fn _ _ _, b, h => by
    cases b <;> simp only [sveq, Bool.false_eq_true, Bool.and_eq_true, decide_eq_true_eq] at h
    rw [h.1.1, svseq_eq h.1.2, svseq_eq h.2]
  | .map _ _, b, h => by
    cases b <;> simp only [sveq, Bool.false_eq_true, Bool.and_eq_true] at h
    rw [svseq_eq h.1, svseq_eq h.2]
  | .nili, b, h => by cases b <;> simp_all [sveq]
theorem svseq_eq : ∀ {a b : List SV}, svseq a b = true → a = b
  | [], b, h => by cases b <;> simp_all [svseq]
  | x :: xs, b, h => by
    cases b <;> simp only [svseq, Bool.false_eq_true, Bool.and_eq_true] at h
    rw [sveq_eq h.1, svseq_eq h.2]
end

structure Fact where
  f : FuncId
  args : List SV
  rs : List SV

def tabFind : List Fact → FuncId → List SV → Option (List SV)
  | [], _, _ => none
  | e :: l, f, args => if e.f = f then if svseq e.args args = true then some e.rs else tabFind l f args else tabFind l f args
theorem tabFind_ok {P : Program} : ∀ {l : List Fact}, (∀ e ∈ l, E.Fn P e.f e.args e.rs) → ∀ {f : FuncId} {args rs : List SV}, tabFind l f args = some rs → E.Fn P f args rs
  | [], _, _, _, _, h => by cases h
  | e :: l, hl, f, args, rs, h => by
    have ih := tabFind_ok (l := l) (fun x hx => hl x (by simp [hx])) (f := f) (args := args) (rs := rs)
    unfold tabFind at h
    split at h
    · rename_i hf
      split at h
      · rename_i ha
        cases h
        rw [← hf, ← svseq_eq ha]
        exact hl e (by simp)
      · exact ih h
    · exact ih h

def ansTab (pl : List Bool) (mv : List (List Int)) (wn : List Bool) : FuncId → List SV → Option (List SV)
  | 104, [.ptr [.ptr (a :: b :: c :: _)]] => if (sveq a (bools pl) && sveq b (.slice (mv.map ints)) && sveq c (bools wn) && decide (pl.length = mv.length) && decide (wn.length = mv.length)) = true then some (ansFrom 0 pl mv wn) else none
  | _, _ => none
theorem ansTab_ok {pl wn : List Bool} {mv : List (List Int)} {g : FuncId} {caps xs : List SV} (h : ansTab pl mv wn g caps = some xs) : E.Yields Try.prog g caps xs := by
  unfold ansTab at h
  split at h
  · split at h
    · rename_i hc
      cases h
      simp only [Bool.and_eq_true, decide_eq_true_eq] at hc
      rw [sveq_eq hc.1.1.1.1, sveq_eq hc.1.1.1.2, sveq_eq hc.1.1.2]
      exact k104 hc.1.2 hc.2
    · cases h
  · cases h
end Go.Proofs.Ytglmjdpmpgphkaa.Sk

/- A copy of no elements. -/
namespace Go.Proofs.Ytglmjdpmpgphkaa.Sk
open Go Go.E Go.E.Sm
set_option maxRecDepth 10000
theorem k75nil : E.FnNew Try.prog 75 1 [.slice []] [] := by
  refine new_of_row okf75 ?_
  simp only [FRow.start, f75, c75r0, c75r1, c75r2, c75r3, go_sem, List.replicate, List.append_nil, List.cons_append, List.nil_append, List.length_cons, List.length_nil, List.map_cons, List.map_nil, List.getElem?_cons_zero, List.getElem?_cons_succ, Nat.reduceAdd, Nat.reduceSub, Nat.reduceLT, Nat.reduceLeDiff, and_true, true_and, forall_const, if_true, if_false, ↓reduceIte, Int.toNat_natCast, List.getElem?_map, Option.map_some, Option.bind_some, Bool.not_true, Bool.not_false, reduceCtorEq, List.take_nil, List.length_map, eq_self, List.all_cons, List.all_nil, Bool.and_true, Int.ofNat_lt, Bool.and_self, finK, resK, Int.natCast_nonneg, implies_true, List.take_zero, Nat.zero_add, List.drop_zero, List.drop_succ_cons, List.take_succ_cons, List.set_cons_zero, List.set_cons_succ, decide_true, decide_false, Int.le_refl, Nat.le_refl, List.flatten_cons, List.flatten_nil]
  simp [finN, newOf, fget, fitsE]
end Go.Proofs.Ytglmjdpmpgphkaa.Sk

/- Facts about the examples: valid machines. -/
namespace Go.Proofs.Ytglmjdpmpgphkaa.Sk
open Go Go.E

def newW : FuncId → Nat → List SV → Option (List SV)
  | 75, 1, [.slice []] => some []
  | _, _, _ => none
theorem newW_ok {f : FuncId} {sz : Nat} {args xs : List SV} (h : newW f sz args = some xs) : E.FnNew Try.prog f sz args xs := by
  unfold newW at h
  split at h
  · cases h; exact k75nil
  · cases h
def tabN (N Y : FuncId → List SV → Option (List SV)) : Tab := exAll Try.prog tbl tbl2 N Y newW 1000 12
def none2 (_ : FuncId) (_ : List SV) : Option (List SV) := none
theorem tab_fn {N Y : FuncId → List SV → Option (List SV)} (hN : ∀ f args rs, N f args = some rs → E.Fn Try.prog f args rs) (hY : ∀ g caps xs, Y g caps = some xs → E.Yields Try.prog g caps xs) {f : FuncId} {args rs : List SV} (h : (tabN N Y).fn f args = some rs) : E.Fn Try.prog f args rs :=
  (exAll_ok tbl_ok tbl2_ok tbl_fn hN hY (fun _ _ _ _ h => newW_ok h) 1000 12).fn f args rs h
theorem tab_none {f : FuncId} {args rs : List SV} (h : (tabN none2 none2).fn f args = some rs) : E.Fn Try.prog f args rs :=
  tab_fn (fun _ _ _ h => by cases h) (fun _ _ _ h => by cases h) h

def pl0 : List Bool := [true, false, false, true, true, true]
def wn0 : List Bool := [false, false, false, false, false, true]
def exM : SV := mach pl0 [[1, 2], [3, 4], [0, 5], [5], [4, 5], []] wn0
def exN : SV := mach pl0 [[1, 2], [3, 4], [0, 5], [5], [4], []] wn0
def exB1 : SV := mach pl0 [[1], [3, 4], [0, 5], [5], [5], []] wn0
def exB2 : SV := mach pl0 [[2], [3, 4], [0, 5], [5], [5], []] wn0
def exT1 : SV := mach pl0 [[1, 2], [3], [0, 5], [5], [4], []] wn0
def exT2 : SV := mach pl0 [[1, 2], [4], [0, 5], [5], [4], []] wn0
def boardOf (m : SV) (d : List Int) : SV := .ptr (m.cells ++ (d ++ List.replicate (14 - d.length) (-1)).map (.int .i64))
def ok0 : List SV := [.int .i64 0]

theorem c20M : E.Fn Try.prog 20 [exM] ok0 := tab_none (by kernel_rfl)
theorem c20N : E.Fn Try.prog 20 [exN] ok0 := tab_none (by kernel_rfl)
theorem c20B1 : E.Fn Try.prog 20 [exB1] ok0 := tab_none (by kernel_rfl)
theorem c20B2 : E.Fn Try.prog 20 [exB2] ok0 := tab_none (by kernel_rfl)
end Go.Proofs.Ytglmjdpmpgphkaa.Sk
