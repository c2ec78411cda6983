/- The code of functions in the value semantics, and that it stands for theirs. -/
import Derived.Test.YtglmjdpmpgphkaaM4
import Derived.Test.YtglmjdpmpgphkaaProg

set_option linter.all false

namespace Go.Proofs.Ytglmjdpmpgphkaa.Sk
open Go Go.E

/-! 16 pennyfall/pennyfalllaw03.great, 1 and 0 -/
def c16r0 : List AOper := [
 ⟨some 1, none, .boxS (.t 0)⟩,
 ⟨some 2, none, .mov (.c (.s (.bool false)))⟩]
def c16r1 : List AOper := [
 ⟨some 5, none, .fieldAddr 1 (.t 1)⟩,
 ⟨some 6, none, .load 1 false (.t 5)⟩,
 ⟨some 7, none, .len false (.t 6)⟩,
 ⟨some 8, none, .cmp .gtr (.t 7) (.c (.s (.int .i64 20)))⟩,
 ⟨some 9, none, .mov (.t 8)⟩,
 ⟨some 10, some (9, false), .fieldAddr 0 (.t 1)⟩,
 ⟨some 11, some (9, false), .load 1 false (.t 10)⟩,
 ⟨some 12, some (9, false), .len false (.t 11)⟩,
 ⟨some 13, some (9, false), .cmp .gtr (.t 12) (.c (.s (.int .i64 20)))⟩,
 ⟨some 14, none, .pick (.t 9) (.c (.s (.bool true))) (.t 13)⟩,
 ⟨some 15, none, .mov (.t 14)⟩,
 ⟨some 16, some (15, false), .fieldAddr 2 (.t 1)⟩,
 ⟨some 17, some (15, false), .load 1 false (.t 16)⟩,
 ⟨some 18, some (15, false), .len false (.t 17)⟩,
 ⟨some 19, some (15, false), .cmp .gtr (.t 18) (.c (.s (.int .i64 20)))⟩,
 ⟨some 20, none, .pick (.t 15) (.c (.s (.bool true))) (.t 19)⟩]
def c16r2 : List AOper := [
 ⟨some 2, none, .mov (.c (.s (.bool true)))⟩]
def c16r3 : List AOper := [
 ⟨some 3, none, .mov (.c (.s (.int .i64 0)))⟩]
def c16r4 : List AOper := [
 ⟨some 4, none, .mov (.c (.s (.int .i64 0)))⟩]
def c16r5 : List AOper := [
 ⟨some 21, none, .mov (.t 4)⟩,
 ⟨some 22, none, .fieldAddr 1 (.t 1)⟩,
 ⟨some 23, none, .load 1 false (.t 22)⟩,
 ⟨some 24, none, .len false (.t 23)⟩,
 ⟨some 25, none, .cmp .lss (.t 21) (.t 24)⟩]
def c16r6 : List AOper := [
 ⟨some 28, none, .mov (.t 3)⟩,
 ⟨some 29, none, .fieldAddr 1 (.t 1)⟩,
 ⟨some 30, none, .load 1 false (.t 29)⟩,
 ⟨some 31, none, .mov (.t 4)⟩,
 ⟨some 32, none, .idxA 1 (.t 30) (.t 31)⟩,
 ⟨some 33, none, .load 1 false (.t 32)⟩,
 ⟨some 34, none, .len false (.t 33)⟩,
 ⟨some 35, none, .max [(.t 28), (.t 34)]⟩,
 ⟨some 3, none, .mov (.t 35)⟩]
def c16r7 : List AOper := [
 ⟨some 26, none, .mov (.t 4)⟩,
 ⟨some 27, none, .arith .add (.t 26) (.c (.s (.int .i64 1)))⟩,
 ⟨some 4, none, .mov (.t 27)⟩]
def c16l8 : ACode := (.seq (.seq (.reg 0 c16r5) (.cond (.t 25) .skip (.exit 0))) (.seq (.block 1 (.reg 0 c16r6)) (.reg 0 c16r7)))
def c16l8m : List Bool := [false, true, false, true, true, false, false, false, false, false, false, false, false, false, false, false, false, false, false, false, false, false, false, false, false, false, false, false, false, false, false, false, false, false, false, false, false, false]
def c16r9 : List AOper := [
 ⟨some 36, none, .mov (.t 3)⟩,
 ⟨some 37, none, .cmp .gtr (.t 36) (.c (.s (.int .i64 20)))⟩,
 ⟨some 2, none, .mov (.t 37)⟩]
def f16 : FRow := ⟨(.seq (.reg 0 c16r0) (.seq (.seq (.reg 0 c16r1) (.cond (.t 20) (.seq (.reg 0 c16r2) .ret) .skip)) (.seq (.reg 0 c16r3) (.seq (.seq (.reg 0 c16r4) (.block 0 (.loop c16l8m [] c16l8))) (.seq (.reg 0 c16r9) .ret))))), [.tmp 2], 38⟩
theorem okf16 : f16.Ok Try.prog 16 := ⟨_, _, Try.func16, rfl, by kernel_rfl, by kernel_rfl, by kernel_rfl⟩

/-! 17 pennyfall/pennyfalllaw03.Works, 0 and 0 -/
def c17r0 : List AOper := [
 ⟨some 0, none, .mov (.c (.s (.bool false)))⟩]
def c17r1 : List AOper := [
 ⟨some 42, none, .buildSl 1 2 (.int .i64 0) [(0, (.c (.s (.int .i64 4)))), (1, (.c (.s (.int .i64 5))))]⟩,
 ⟨some 43, none, .call 55 [(.t 42)]⟩,
 ⟨some 44, none, .buildSl 1 1 (.int .i64 0) [(0, (.c (.s (.int .i64 4))))]⟩,
 ⟨some 45, none, .call 55 [(.t 44)]⟩,
 ⟨some 1, none, .alloc [(.full []), (.full []), (.full [])]⟩,
 ⟨some 2, none, .alloc [(.full []), (.full []), (.full [])]⟩,
 ⟨none, none, .store 3 (.t 1) (.t 43)⟩,
 ⟨none, none, .store 3 (.t 2) (.t 45)⟩]
def c17r2 : List AOper := [
 ⟨some 47, none, .load 3 true (.t 1)⟩,
 ⟨some 48, none, .call 18 [(.t 47)]⟩,
 ⟨some 46, none, .mov (.t 48)⟩,
 ⟨some 49, none, .ext (.t 46) 0⟩,
 ⟨some 50, none, .ext (.t 46) 1⟩,
 ⟨some 3, none, .mov (.t 49)⟩,
 ⟨some 4, none, .mov (.t 50)⟩]
def c17r3 : List AOper := [
 ⟨some 52, none, .load 3 true (.t 2)⟩,
 ⟨some 53, none, .call 18 [(.t 52)]⟩,
 ⟨some 51, none, .mov (.t 53)⟩,
 ⟨some 54, none, .ext (.t 51) 0⟩,
 ⟨some 55, none, .ext (.t 51) 1⟩,
 ⟨some 5, none, .mov (.t 54)⟩,
 ⟨some 6, none, .mov (.t 55)⟩]
def c17r4 : List AOper := [
 ⟨some 57, none, .load 3 true (.t 2)⟩,
 ⟨some 58, none, .call 25 [(.t 57)]⟩,
 ⟨some 56, none, .mov (.t 58)⟩,
 ⟨some 59, none, .ext (.t 56) 0⟩,
 ⟨some 60, none, .ext (.t 56) 1⟩,
 ⟨some 7, none, .mov (.t 59)⟩,
 ⟨some 8, none, .mov (.t 60)⟩]
def c17r5 : List AOper := [
 ⟨some 61, none, .load 3 true (.t 2)⟩,
 ⟨some 62, none, .buildSl 1 1 (.int .i64 0) [(0, (.c (.s (.int .i64 4))))]⟩,
 ⟨some 63, none, .call 56 [(.t 62)]⟩,
 ⟨some 64, none, .call 27 [(.t 61), (.t 63)]⟩,
 ⟨some 65, none, .load 3 true (.t 2)⟩,
 ⟨some 66, none, .buildSl 1 1 (.int .i64 0) [(0, (.c (.s (.int .i64 0))))]⟩,
 ⟨some 67, none, .call 56 [(.t 66)]⟩,
 ⟨some 68, none, .call 27 [(.t 65), (.t 67)]⟩,
 ⟨some 9, none, .mov (.t 64)⟩,
 ⟨some 10, none, .mov (.t 68)⟩]
def c17r6 : List AOper := [
 ⟨some 70, none, .load 3 true (.t 1)⟩,
 ⟨some 71, none, .buildSl 1 6 (.int .i64 0) [(0, (.c (.s (.int .i64 5)))), (1, (.c (.s (.int .i64 4)))), (2, (.c (.s (.int .i64 (-1))))), (3, (.c (.s (.int .i64 3)))), (4, (.c (.s (.int .i64 2)))), (5, (.c (.s (.int .i64 0))))]⟩,
 ⟨some 72, none, .call 56 [(.t 71)]⟩,
 ⟨some 73, none, .call 23 [(.t 70), (.t 72)]⟩,
 ⟨some 69, none, .mov (.t 73)⟩,
 ⟨some 74, none, .ext (.t 69) 0⟩,
 ⟨some 75, none, .ext (.t 69) 1⟩,
 ⟨some 11, none, .mov (.t 74)⟩,
 ⟨some 12, none, .mov (.t 75)⟩]
def c17r7 : List AOper := [
 ⟨some 77, none, .load 3 true (.t 1)⟩,
 ⟨some 78, none, .buildSl 1 6 (.int .i64 0) [(0, (.c (.s (.int .i64 2)))), (1, (.c (.s (.int .i64 2)))), (2, (.c (.s (.int .i64 4)))), (3, (.c (.s (.int .i64 1)))), (4, (.c (.s (.int .i64 1)))), (5, (.c (.s (.int .i64 0))))]⟩,
 ⟨some 79, none, .call 56 [(.t 78)]⟩,
 ⟨some 80, none, .call 23 [(.t 77), (.t 79)]⟩,
 ⟨some 76, none, .mov (.t 80)⟩,
 ⟨some 81, none, .ext (.t 76) 0⟩,
 ⟨some 82, none, .ext (.t 76) 1⟩,
 ⟨some 13, none, .mov (.t 81)⟩,
 ⟨some 14, none, .mov (.t 82)⟩]
def c17r8 : List AOper := [
 ⟨some 84, none, .load 3 true (.t 1)⟩,
 ⟨some 85, none, .call 29 [(.t 84)]⟩,
 ⟨some 83, none, .mov (.t 85)⟩,
 ⟨some 86, none, .ext (.t 83) 0⟩,
 ⟨some 87, none, .ext (.t 83) 1⟩,
 ⟨some 15, none, .mov (.t 86)⟩,
 ⟨some 16, none, .mov (.t 87)⟩]
def c17r9 : List AOper := [
 ⟨some 89, none, .load 3 true (.t 1)⟩,
 ⟨some 90, none, .call 31 [(.t 89)]⟩,
 ⟨some 88, none, .mov (.t 90)⟩,
 ⟨some 91, none, .ext (.t 88) 0⟩,
 ⟨some 92, none, .ext (.t 88) 1⟩,
 ⟨some 17, none, .mov (.t 91)⟩,
 ⟨some 18, none, .mov (.t 92)⟩]
def c17r10 : List AOper := [
 ⟨some 94, none, .load 3 true (.t 2)⟩,
 ⟨some 95, none, .call 31 [(.t 94)]⟩,
 ⟨some 93, none, .mov (.t 95)⟩,
 ⟨some 96, none, .ext (.t 93) 0⟩,
 ⟨some 97, none, .ext (.t 93) 1⟩,
 ⟨some 19, none, .mov (.t 96)⟩,
 ⟨some 20, none, .mov (.t 97)⟩]
def c17r11 : List AOper := [
 ⟨some 99, none, .load 3 true (.t 1)⟩,
 ⟨some 100, none, .mov (.t 15)⟩,
 ⟨some 101, none, .mov (.t 17)⟩,
 ⟨some 102, none, .call 35 [(.t 99), (.t 100), (.t 101), (.c (.s (.int .i64 2)))]⟩,
 ⟨some 98, none, .mov (.t 102)⟩,
 ⟨some 103, none, .ext (.t 98) 0⟩,
 ⟨some 104, none, .ext (.t 98) 1⟩,
 ⟨some 105, none, .ext (.t 98) 2⟩,
 ⟨some 21, none, .mov (.t 103)⟩,
 ⟨some 22, none, .mov (.t 104)⟩,
 ⟨some 23, none, .mov (.t 105)⟩]
def c17r12 : List AOper := [
 ⟨some 107, none, .load 3 true (.t 2)⟩,
 ⟨some 108, none, .buildSl 1 6 (.int .i64 0) [(0, (.c (.s (.int .i64 1)))), (1, (.c (.s (.int .i64 (-1))))), (2, (.c (.s (.int .i64 (-1))))), (3, (.c (.s (.int .i64 5)))), (4, (.c (.s (.int .i64 4)))), (5, (.c (.s (.int .i64 (-1)))))]⟩,
 ⟨some 109, none, .call 56 [(.t 108)]⟩,
 ⟨some 110, none, .mov (.t 19)⟩,
 ⟨some 111, none, .call 35 [(.t 107), (.t 109), (.t 110), (.c (.s (.int .i64 0)))]⟩,
 ⟨some 106, none, .mov (.t 111)⟩,
 ⟨some 112, none, .ext (.t 106) 0⟩,
 ⟨some 113, none, .ext (.t 106) 1⟩,
 ⟨some 114, none, .ext (.t 106) 2⟩,
 ⟨some 24, none, .mov (.t 112)⟩,
 ⟨some 25, none, .mov (.t 113)⟩,
 ⟨some 26, none, .mov (.t 114)⟩]
def c17r13 : List AOper := [
 ⟨some 116, none, .load 3 true (.t 1)⟩,
 ⟨some 117, none, .mov (.t 15)⟩,
 ⟨some 118, none, .call 37 [(.t 116), (.t 117), (.c (.s (.int .i64 2)))]⟩,
 ⟨some 115, none, .mov (.t 118)⟩,
 ⟨some 119, none, .ext (.t 115) 0⟩,
 ⟨some 120, none, .ext (.t 115) 1⟩,
 ⟨some 27, none, .mov (.t 119)⟩,
 ⟨some 28, none, .mov (.t 120)⟩]
def c17r14 : List AOper := [
 ⟨some 122, none, .load 3 true (.t 1)⟩,
 ⟨some 123, none, .buildSl 1 6 (.int .i64 0) [(0, (.c (.s (.int .i64 2)))), (1, (.c (.s (.int .i64 (-1))))), (2, (.c (.s (.int .i64 (-1))))), (3, (.c (.s (.int .i64 5)))), (4, (.c (.s (.int .i64 5)))), (5, (.c (.s (.int .i64 (-1)))))]⟩,
 ⟨some 124, none, .call 56 [(.t 123)]⟩,
 ⟨some 125, none, .call 37 [(.t 122), (.t 124), (.c (.s (.int .i64 0)))]⟩,
 ⟨some 121, none, .mov (.t 125)⟩,
 ⟨some 126, none, .ext (.t 121) 0⟩,
 ⟨some 127, none, .ext (.t 121) 1⟩,
 ⟨some 29, none, .mov (.t 126)⟩,
 ⟨some 30, none, .mov (.t 127)⟩]
def c17r15 : List AOper := [
 ⟨some 129, none, .load 3 true (.t 1)⟩,
 ⟨some 130, none, .call 39 [(.t 129), (.c (.s (.int .i64 2)))]⟩,
 ⟨some 128, none, .mov (.t 130)⟩,
 ⟨some 131, none, .ext (.t 128) 0⟩,
 ⟨some 132, none, .ext (.t 128) 1⟩,
 ⟨some 31, none, .mov (.t 131)⟩,
 ⟨some 32, none, .mov (.t 132)⟩]
def c17r16 : List AOper := [
 ⟨some 134, none, .load 3 true (.t 2)⟩,
 ⟨some 135, none, .call 39 [(.t 134), (.c (.s (.int .i64 0)))]⟩,
 ⟨some 133, none, .mov (.t 135)⟩,
 ⟨some 136, none, .ext (.t 133) 0⟩,
 ⟨some 137, none, .ext (.t 133) 1⟩,
 ⟨some 33, none, .mov (.t 136)⟩,
 ⟨some 34, none, .mov (.t 137)⟩]
def c17r17 : List AOper := [
 ⟨some 138, none, .load 3 true (.t 2)⟩,
 ⟨some 139, none, .build [(.s (.int .i64 0)), (.s (.int .i64 0))] [(0, 1, (.c (.s (.int .i64 1)))), (1, 1, (.c (.s (.int .i64 4))))]⟩,
 ⟨some 140, none, .buildSl 2 1 (.agg [(.int .i64 0), (.int .i64 0)]) [(0, (.t 139))]⟩,
 ⟨some 141, none, .call 57 [(.t 140)]⟩,
 ⟨some 142, none, .call 44 [(.t 138), (.c (.s (.int .i64 0))), (.t 141)]⟩,
 ⟨some 143, none, .load 3 true (.t 2)⟩,
 ⟨some 144, none, .build [(.s (.int .i64 0)), (.s (.int .i64 0))] [(0, 1, (.c (.s (.int .i64 1)))), (1, 1, (.c (.s (.int .i64 3))))]⟩,
 ⟨some 145, none, .buildSl 2 1 (.agg [(.int .i64 0), (.int .i64 0)]) [(0, (.t 144))]⟩,
 ⟨some 146, none, .call 57 [(.t 145)]⟩,
 ⟨some 147, none, .call 44 [(.t 143), (.c (.s (.int .i64 0))), (.t 146)]⟩,
 ⟨some 148, none, .load 3 true (.t 2)⟩,
 ⟨some 149, none, .build [(.s (.int .i64 0)), (.s (.int .i64 0))] [(0, 1, (.c (.s (.int .i64 2)))), (1, 1, (.c (.s (.int .i64 0))))]⟩,
 ⟨some 150, none, .build [(.s (.int .i64 0)), (.s (.int .i64 0))] [(0, 1, (.c (.s (.int .i64 2)))), (1, 1, (.c (.s (.int .i64 5))))]⟩,
 ⟨some 151, none, .buildSl 2 2 (.agg [(.int .i64 0), (.int .i64 0)]) [(0, (.t 149)), (1, (.t 150))]⟩,
 ⟨some 152, none, .call 57 [(.t 151)]⟩,
 ⟨some 153, none, .call 44 [(.t 148), (.c (.s (.int .i64 0))), (.t 152)]⟩,
 ⟨some 35, none, .mov (.t 142)⟩,
 ⟨some 36, none, .mov (.t 147)⟩,
 ⟨some 37, none, .mov (.t 153)⟩]
def c17r18 : List AOper := [
 ⟨some 155, none, .load 3 true (.t 2)⟩,
 ⟨some 156, none, .call 42 [(.t 155), (.c (.s (.int .i64 0)))]⟩,
 ⟨some 154, none, .mov (.t 156)⟩,
 ⟨some 157, none, .ext (.t 154) 0⟩,
 ⟨some 158, none, .ext (.t 154) 1⟩,
 ⟨some 38, none, .mov (.t 157)⟩,
 ⟨some 39, none, .mov (.t 158)⟩]
def c17r19 : List AOper := [
 ⟨some 160, none, .load 3 true (.t 1)⟩,
 ⟨some 161, none, .call 42 [(.t 160), (.c (.s (.int .i64 0)))]⟩,
 ⟨some 159, none, .mov (.t 161)⟩,
 ⟨some 162, none, .ext (.t 159) 0⟩,
 ⟨some 163, none, .ext (.t 159) 1⟩,
 ⟨some 40, none, .mov (.t 162)⟩,
 ⟨some 41, none, .mov (.t 163)⟩]
def c17r20 : List AOper := [
 ⟨some 164, none, .mov (.t 4)⟩,
 ⟨some 165, none, .cmp .neq (.t 164) (.c (.s (.int .i64 0)))⟩,
 ⟨some 166, none, .mov (.t 165)⟩,
 ⟨some 167, some (166, false), .mov (.t 6)⟩,
 ⟨some 168, some (166, false), .cmp .neq (.t 167) (.c (.s (.int .i64 0)))⟩,
 ⟨some 169, none, .pick (.t 166) (.c (.s (.bool true))) (.t 168)⟩,
 ⟨some 170, none, .mov (.t 169)⟩,
 ⟨some 171, some (170, false), .mov (.t 8)⟩,
 ⟨some 172, some (170, false), .cmp .neq (.t 171) (.c (.s (.int .i64 0)))⟩,
 ⟨some 173, none, .pick (.t 170) (.c (.s (.bool true))) (.t 172)⟩,
 ⟨some 174, none, .mov (.t 173)⟩,
 ⟨some 175, some (174, false), .mov (.t 9)⟩,
 ⟨some 176, some (174, false), .cmp .neq (.t 175) (.c (.s (.int .i64 0)))⟩,
 ⟨some 177, none, .pick (.t 174) (.c (.s (.bool true))) (.t 176)⟩,
 ⟨some 178, none, .mov (.t 177)⟩,
 ⟨some 179, some (178, false), .mov (.t 10)⟩,
 ⟨some 180, some (178, false), .cmp .neq (.t 179) (.c (.s (.int .i64 14)))⟩,
 ⟨some 181, none, .pick (.t 178) (.c (.s (.bool true))) (.t 180)⟩,
 ⟨some 182, none, .mov (.t 181)⟩,
 ⟨some 183, some (182, false), .mov (.t 12)⟩,
 ⟨some 184, some (182, false), .cmp .neq (.t 183) (.c (.s (.int .i64 0)))⟩,
 ⟨some 185, none, .pick (.t 182) (.c (.s (.bool true))) (.t 184)⟩,
 ⟨some 186, none, .mov (.t 185)⟩,
 ⟨some 187, some (186, false), .mov (.t 14)⟩,
 ⟨some 188, some (186, false), .cmp .neq (.t 187) (.c (.s (.int .i64 14)))⟩,
 ⟨some 189, none, .pick (.t 186) (.c (.s (.bool true))) (.t 188)⟩,
 ⟨some 190, none, .mov (.t 189)⟩,
 ⟨some 191, some (190, false), .mov (.t 16)⟩,
 ⟨some 192, some (190, false), .cmp .neq (.t 191) (.c (.s (.int .i64 0)))⟩,
 ⟨some 193, none, .pick (.t 190) (.c (.s (.bool true))) (.t 192)⟩,
 ⟨some 194, none, .mov (.t 193)⟩,
 ⟨some 195, some (194, false), .mov (.t 18)⟩,
 ⟨some 196, some (194, false), .cmp .neq (.t 195) (.c (.s (.int .i64 0)))⟩,
 ⟨some 197, none, .pick (.t 194) (.c (.s (.bool true))) (.t 196)⟩,
 ⟨some 198, none, .mov (.t 197)⟩,
 ⟨some 199, some (198, false), .mov (.t 20)⟩,
 ⟨some 200, some (198, false), .cmp .neq (.t 199) (.c (.s (.int .i64 0)))⟩,
 ⟨some 201, none, .pick (.t 198) (.c (.s (.bool true))) (.t 200)⟩,
 ⟨some 202, none, .mov (.t 201)⟩,
 ⟨some 203, some (202, false), .mov (.t 23)⟩,
 ⟨some 204, some (202, false), .cmp .neq (.t 203) (.c (.s (.int .i64 0)))⟩,
 ⟨some 205, none, .pick (.t 202) (.c (.s (.bool true))) (.t 204)⟩,
 ⟨some 206, none, .mov (.t 205)⟩,
 ⟨some 207, some (206, false), .mov (.t 26)⟩,
 ⟨some 208, some (206, false), .cmp .neq (.t 207) (.c (.s (.int .i64 0)))⟩,
 ⟨some 209, none, .pick (.t 206) (.c (.s (.bool true))) (.t 208)⟩,
 ⟨some 210, none, .mov (.t 209)⟩,
 ⟨some 211, some (210, false), .mov (.t 28)⟩,
 ⟨some 212, some (210, false), .cmp .neq (.t 211) (.c (.s (.int .i64 0)))⟩,
 ⟨some 213, none, .pick (.t 210) (.c (.s (.bool true))) (.t 212)⟩,
 ⟨some 214, none, .mov (.t 213)⟩,
 ⟨some 215, some (214, false), .mov (.t 30)⟩,
 ⟨some 216, some (214, false), .cmp .neq (.t 215) (.c (.s (.int .i64 0)))⟩,
 ⟨some 217, none, .pick (.t 214) (.c (.s (.bool true))) (.t 216)⟩,
 ⟨some 218, none, .mov (.t 217)⟩,
 ⟨some 219, some (218, false), .mov (.t 32)⟩,
 ⟨some 220, some (218, false), .cmp .neq (.t 219) (.c (.s (.int .i64 0)))⟩,
 ⟨some 221, none, .pick (.t 218) (.c (.s (.bool true))) (.t 220)⟩,
 ⟨some 222, none, .mov (.t 221)⟩,
 ⟨some 223, some (222, false), .mov (.t 34)⟩,
 ⟨some 224, some (222, false), .cmp .neq (.t 223) (.c (.s (.int .i64 19)))⟩,
 ⟨some 225, none, .pick (.t 222) (.c (.s (.bool true))) (.t 224)⟩,
 ⟨some 226, none, .mov (.t 225)⟩,
 ⟨some 227, some (226, false), .mov (.t 35)⟩,
 ⟨some 228, some (226, false), .cmp .neq (.t 227) (.c (.s (.int .i64 0)))⟩,
 ⟨some 229, none, .pick (.t 226) (.c (.s (.bool true))) (.t 228)⟩,
 ⟨some 230, none, .mov (.t 229)⟩,
 ⟨some 231, some (230, false), .mov (.t 36)⟩,
 ⟨some 232, some (230, false), .cmp .neq (.t 231) (.c (.s (.int .i64 19)))⟩,
 ⟨some 233, none, .pick (.t 230) (.c (.s (.bool true))) (.t 232)⟩,
 ⟨some 234, none, .mov (.t 233)⟩,
 ⟨some 235, some (234, false), .mov (.t 37)⟩,
 ⟨some 236, some (234, false), .cmp .neq (.t 235) (.c (.s (.int .i64 16)))⟩,
 ⟨some 237, none, .pick (.t 234) (.c (.s (.bool true))) (.t 236)⟩,
 ⟨some 238, none, .mov (.t 237)⟩,
 ⟨some 239, some (238, false), .mov (.t 39)⟩,
 ⟨some 240, some (238, false), .cmp .neq (.t 239) (.c (.s (.int .i64 0)))⟩,
 ⟨some 241, none, .pick (.t 238) (.c (.s (.bool true))) (.t 240)⟩,
 ⟨some 242, none, .mov (.t 241)⟩,
 ⟨some 243, some (242, false), .mov (.t 41)⟩,
 ⟨some 244, some (242, false), .cmp .neq (.t 243) (.c (.s (.int .i64 5)))⟩,
 ⟨some 245, none, .pick (.t 242) (.c (.s (.bool true))) (.t 244)⟩]
def c17r21 : List AOper := [
 ⟨some 0, none, .mov (.c (.s (.bool false)))⟩]
def c17r22 : List AOper := [
 ⟨some 246, none, .mov (.t 3)⟩,
 ⟨some 247, none, .buildSl 1 6 (.int .i64 0) [(0, (.c (.s (.int .i64 3)))), (1, (.c (.s (.int .i64 2)))), (2, (.c (.s (.int .i64 4)))), (3, (.c (.s (.int .i64 1)))), (4, (.c (.s (.int .i64 1)))), (5, (.c (.s (.int .i64 0))))]⟩,
 ⟨some 248, none, .call 56 [(.t 247)]⟩,
 ⟨some 249, none, .call 22 [(.t 246), (.t 248)]⟩,
 ⟨some 250, none, .not (.t 249)⟩,
 ⟨some 251, none, .mov (.t 250)⟩,
 ⟨some 252, some (251, false), .mov (.t 5)⟩,
 ⟨some 253, some (251, false), .buildSl 1 6 (.int .i64 0) [(0, (.c (.s (.int .i64 (-1))))), (1, (.c (.s (.int .i64 (-1))))), (2, (.c (.s (.int .i64 (-1))))), (3, (.c (.s (.int .i64 1)))), (4, (.c (.s (.int .i64 (-1))))), (5, (.c (.s (.int .i64 0))))]⟩,
 ⟨some 254, some (251, false), .call 56 [(.t 253)]⟩,
 ⟨some 255, some (251, false), .call 22 [(.t 252), (.t 254)]⟩,
 ⟨some 256, some (251, false), .not (.t 255)⟩,
 ⟨some 257, none, .pick (.t 251) (.c (.s (.bool true))) (.t 256)⟩,
 ⟨some 258, none, .mov (.t 257)⟩,
 ⟨some 259, some (258, false), .mov (.t 7)⟩,
 ⟨some 260, some (258, false), .buildSl 1 4 (.int .i64 0) [(0, (.c (.s (.int .i64 0)))), (1, (.c (.s (.int .i64 1)))), (2, (.c (.s (.int .i64 2)))), (3, (.c (.s (.int .i64 4))))]⟩,
 ⟨some 261, some (258, false), .call 56 [(.t 260)]⟩,
 ⟨some 262, some (258, false), .call 22 [(.t 259), (.t 261)]⟩,
 ⟨some 263, some (258, false), .not (.t 262)⟩,
 ⟨some 264, none, .pick (.t 258) (.c (.s (.bool true))) (.t 263)⟩,
 ⟨some 265, none, .mov (.t 264)⟩,
 ⟨some 266, some (265, false), .mov (.t 11)⟩,
 ⟨some 267, some (265, false), .buildSl 1 5 (.int .i64 0) [(0, (.c (.s (.int .i64 0)))), (1, (.c (.s (.int .i64 1)))), (2, (.c (.s (.int .i64 3)))), (3, (.c (.s (.int .i64 4)))), (4, (.c (.s (.int .i64 5))))]⟩,
 ⟨some 268, some (265, false), .call 56 [(.t 267)]⟩,
 ⟨some 269, some (265, false), .call 22 [(.t 266), (.t 268)]⟩,
 ⟨some 270, some (265, false), .not (.t 269)⟩,
 ⟨some 271, none, .pick (.t 265) (.c (.s (.bool true))) (.t 270)⟩]
def c17r23 : List AOper := [
 ⟨some 0, none, .mov (.c (.s (.bool false)))⟩]
def c17r24 : List AOper := [
 ⟨some 272, none, .mov (.t 15)⟩,
 ⟨some 273, none, .buildSl 1 6 (.int .i64 0) [(0, (.c (.s (.int .i64 1)))), (1, (.c (.s (.int .i64 (-1))))), (2, (.c (.s (.int .i64 (-1))))), (3, (.c (.s (.int .i64 5)))), (4, (.c (.s (.int .i64 5)))), (5, (.c (.s (.int .i64 (-1)))))]⟩,
 ⟨some 274, none, .call 56 [(.t 273)]⟩,
 ⟨some 275, none, .call 22 [(.t 272), (.t 274)]⟩,
 ⟨some 276, none, .mov (.t 275)⟩,
 ⟨some 277, some (276, true), .mov (.t 17)⟩,
 ⟨some 278, some (276, true), .buildSl 1 6 (.int .i64 0) [(0, (.c (.s (.int .i64 (-1))))), (1, (.c (.s (.int .i64 3)))), (2, (.c (.s (.int .i64 0)))), (3, (.c (.s (.int .i64 (-1))))), (4, (.c (.s (.int .i64 (-1))))), (5, (.c (.s (.int .i64 (-1)))))]⟩,
 ⟨some 279, some (276, true), .call 56 [(.t 278)]⟩,
 ⟨some 280, some (276, true), .call 22 [(.t 277), (.t 279)]⟩,
 ⟨some 281, none, .pick (.t 276) (.t 280) (.c (.s (.bool false)))⟩,
 ⟨some 282, none, .mov (.t 281)⟩,
 ⟨some 283, some (282, true), .mov (.t 19)⟩,
 ⟨some 284, some (282, true), .buildSl 1 6 (.int .i64 0) [(0, (.c (.s (.int .i64 (-1))))), (1, (.c (.s (.int .i64 4)))), (2, (.c (.s (.int .i64 0)))), (3, (.c (.s (.int .i64 (-1))))), (4, (.c (.s (.int .i64 (-1))))), (5, (.c (.s (.int .i64 (-1)))))]⟩,
 ⟨some 285, some (282, true), .call 56 [(.t 284)]⟩,
 ⟨some 286, some (282, true), .call 22 [(.t 283), (.t 285)]⟩,
 ⟨some 287, none, .pick (.t 282) (.t 286) (.c (.s (.bool false)))⟩,
 ⟨some 288, none, .mov (.t 287)⟩,
 ⟨some 289, some (288, true), .mov (.t 21)⟩,
 ⟨some 290, some (288, true), .buildSl 1 5 (.int .i64 0) [(0, (.c (.s (.int .i64 2)))), (1, (.c (.s (.int .i64 0)))), (2, (.c (.s (.int .i64 1)))), (3, (.c (.s (.int .i64 3)))), (4, (.c (.s (.int .i64 5))))]⟩,
 ⟨some 291, some (288, true), .call 56 [(.t 290)]⟩,
 ⟨some 292, some (288, true), .call 22 [(.t 289), (.t 291)]⟩,
 ⟨some 293, none, .pick (.t 288) (.t 292) (.c (.s (.bool false)))⟩,
 ⟨some 294, none, .mov (.t 293)⟩,
 ⟨some 295, some (294, true), .mov (.t 22)⟩,
 ⟨some 296, none, .pick (.t 294) (.t 295) (.c (.s (.bool false)))⟩,
 ⟨some 297, none, .mov (.t 296)⟩,
 ⟨some 298, some (297, true), .mov (.t 24)⟩,
 ⟨some 299, some (297, true), .buildSl 1 3 (.int .i64 0) [(0, (.c (.s (.int .i64 0)))), (1, (.c (.s (.int .i64 1)))), (2, (.c (.s (.int .i64 4))))]⟩,
 ⟨some 300, some (297, true), .call 56 [(.t 299)]⟩,
 ⟨some 301, some (297, true), .call 22 [(.t 298), (.t 300)]⟩,
 ⟨some 302, none, .pick (.t 297) (.t 301) (.c (.s (.bool false)))⟩,
 ⟨some 303, none, .mov (.t 302)⟩,
 ⟨some 304, some (303, true), .mov (.t 25)⟩,
 ⟨some 305, some (303, true), .not (.t 304)⟩,
 ⟨some 306, none, .pick (.t 303) (.t 305) (.c (.s (.bool false)))⟩,
 ⟨some 307, none, .mov (.t 306)⟩,
 ⟨some 308, some (307, true), .mov (.t 27)⟩,
 ⟨some 309, none, .pick (.t 307) (.t 308) (.c (.s (.bool false)))⟩,
 ⟨some 310, none, .mov (.t 309)⟩,
 ⟨some 311, some (310, true), .mov (.t 29)⟩,
 ⟨some 312, some (310, true), .not (.t 311)⟩,
 ⟨some 313, none, .pick (.t 310) (.t 312) (.c (.s (.bool false)))⟩,
 ⟨some 314, none, .mov (.t 313)⟩,
 ⟨some 315, some (314, true), .mov (.t 31)⟩,
 ⟨some 316, some (314, true), .cmp .eql (.t 315) (.c (.s (.int .i64 4)))⟩,
 ⟨some 317, none, .pick (.t 314) (.t 316) (.c (.s (.bool false)))⟩,
 ⟨some 318, none, .mov (.t 317)⟩,
 ⟨some 319, some (318, true), .mov (.t 38)⟩,
 ⟨some 320, some (318, true), .len false (.t 319)⟩,
 ⟨some 321, some (318, true), .cmp .eql (.t 320) (.c (.s (.int .i64 1)))⟩,
 ⟨some 322, none, .pick (.t 318) (.t 321) (.c (.s (.bool false)))⟩,
 ⟨some 323, none, .mov (.t 322)⟩,
 ⟨some 324, some (323, true), .load 3 true (.t 2)⟩,
 ⟨some 325, some (323, true), .mov (.t 38)⟩,
 ⟨some 326, some (323, true), .call 45 [(.t 324), (.c (.s (.int .i64 0))), (.t 325)]⟩,
 ⟨some 327, some (323, true), .cmp .eql (.t 326) (.c (.s (.int .i64 0)))⟩,
 ⟨some 328, none, .pick (.t 323) (.t 327) (.c (.s (.bool false)))⟩,
 ⟨some 0, none, .mov (.t 328)⟩]
def f17 : FRow := ⟨(.seq (.reg 0 c17r0) (.seq (.reg 2 c17r1) (.seq (.reg 0 c17r2) (.seq (.reg 0 c17r3) (.seq (.reg 0 c17r4) (.seq (.reg 0 c17r5) (.seq (.reg 0 c17r6) (.seq (.reg 0 c17r7) (.seq (.reg 0 c17r8) (.seq (.reg 0 c17r9) (.seq (.reg 0 c17r10) (.seq (.reg 0 c17r11) (.seq (.reg 0 c17r12) (.seq (.reg 0 c17r13) (.seq (.reg 0 c17r14) (.seq (.reg 0 c17r15) (.seq (.reg 0 c17r16) (.seq (.reg 0 c17r17) (.seq (.reg 0 c17r18) (.seq (.reg 0 c17r19) (.seq (.seq (.reg 0 c17r20) (.cond (.t 245) (.seq (.reg 0 c17r21) .ret) .skip)) (.seq (.seq (.reg 0 c17r22) (.cond (.t 271) (.seq (.reg 0 c17r23) .ret) .skip)) (.seq (.reg 0 c17r24) .ret))))))))))))))))))))))), [.tmp 0], 329⟩
theorem okf17 : f17.Ok Try.prog 17 := ⟨_, _, Try.func17, rfl, by kernel_rfl, by kernel_rfl, by kernel_rfl⟩

/-! 18 pennyfall/skill.Distances, 1 and 0 -/
def c18r0 : List AOper := [
 ⟨some 1, none, .boxS (.t 0)⟩,
 ⟨some 2, none, .mov (.c (.full []))⟩,
 ⟨some 3, none, .mov (.c (.s (.int .i64 0)))⟩]
def c18r1 : List AOper := [
 ⟨some 8, none, .load 3 true (.t 1)⟩,
 ⟨some 9, none, .call 58 [(.t 8), (.c (.full []))]⟩,
 ⟨some 7, none, .mov (.t 9)⟩,
 ⟨some 10, none, .ext (.t 7) 0⟩,
 ⟨some 11, none, .ext (.t 7) 1⟩,
 ⟨some 4, none, .mov (.t 10)⟩,
 ⟨some 5, none, .mov (.t 11)⟩]
def c18r2 : List AOper := [
 ⟨some 12, none, .mov (.t 5)⟩,
 ⟨some 13, none, .cmp .neq (.t 12) (.c (.s (.int .i64 0)))⟩]
def c18r3 : List AOper := [
 ⟨some 14, none, .mov (.t 5)⟩,
 ⟨some 2, none, .mov (.c (.full []))⟩,
 ⟨some 3, none, .mov (.t 14)⟩]
def c18r4 : List AOper := [
 ⟨some 15, none, .fieldAddr 1 (.t 1)⟩,
 ⟨some 16, none, .load 1 false (.t 15)⟩,
 ⟨some 17, none, .len false (.t 16)⟩,
 ⟨some 18, none, .mkslice 1 8 [(.int .i64 0)] (.t 17) (.t 17)⟩,
 ⟨some 6, none, .mov (.t 18)⟩]
def c18r5 : List AOper := [
 ⟨some 19, none, .mov (.t 6)⟩,
 ⟨some 20, none, .mov (.t 4)⟩,
 ⟨some 21, none, .nilck (.t 20)⟩,
 ⟨some 22, none, .fieldAddr 3 (.t 21)⟩,
 ⟨some 23, none, .sliceArr 14 1 (.t 22) none none⟩,
 ⟨some 24, none, .copy 1 (.t 19) (.t 23)⟩]
def c18r6 : List AOper := [
 ⟨some 25, none, .mov (.t 6)⟩,
 ⟨some 2, none, .mov (.t 25)⟩,
 ⟨some 3, none, .mov (.c (.s (.int .i64 0)))⟩]
def f18 : FRow := ⟨(.seq (.reg 0 c18r0) (.seq (.reg 0 c18r1) (.seq (.seq (.reg 0 c18r2) (.cond (.t 13) (.seq (.reg 0 c18r3) .ret) .skip)) (.seq (.reg 1 c18r4) (.seq (.reg 0 c18r5) (.seq (.reg 0 c18r6) .ret)))))), [.tmp 2, .tmp 3], 26⟩
theorem okf18 : f18.Ok Try.prog 18 := ⟨_, _, Try.func18, rfl, by kernel_rfl, by kernel_rfl, by kernel_rfl⟩

/-! 19 pennyfall/pennyfallref03.Distances, 1 and 0 -/
def c19r0 : List AOper := [
 ⟨some 1, none, .boxS (.t 0)⟩,
 ⟨some 2, none, .mov (.c (.full []))⟩,
 ⟨some 3, none, .mov (.c (.s (.int .i64 0)))⟩]
def c19r1 : List AOper := [
 ⟨some 4, none, .load 3 true (.t 1)⟩,
 ⟨some 5, none, .call 21 [(.t 4)]⟩,
 ⟨some 6, none, .cmp .neq (.t 5) (.c (.s (.int .i64 0)))⟩]
def c19r2 : List AOper := [
 ⟨some 7, none, .load 3 true (.t 1)⟩,
 ⟨some 8, none, .call 21 [(.t 7)]⟩,
 ⟨some 2, none, .mov (.c (.full []))⟩,
 ⟨some 3, none, .mov (.t 8)⟩]
def c19r3 : List AOper := [
 ⟨some 9, none, .load 3 true (.t 1)⟩,
 ⟨some 10, none, .call 59 [(.t 9)]⟩,
 ⟨some 2, none, .mov (.t 10)⟩,
 ⟨some 3, none, .mov (.c (.s (.int .i64 0)))⟩]
def f19 : FRow := ⟨(.seq (.reg 0 c19r0) (.seq (.seq (.reg 0 c19r1) (.cond (.t 6) (.seq (.reg 0 c19r2) .ret) .skip)) (.seq (.reg 0 c19r3) .ret))), [.tmp 2, .tmp 3], 11⟩
theorem okf19 : f19.Ok Try.prog 19 := ⟨_, _, Try.func19, rfl, by kernel_rfl, by kernel_rfl, by kernel_rfl⟩

/-! 20 pennyfall/skill.CheckMachine, 1 and 0 -/
def c20r0 : List AOper := [
 ⟨some 1, none, .boxS (.t 0)⟩,
 ⟨some 2, none, .mov (.c (.s (.int .i64 0)))⟩]
def c20r1 : List AOper := [
 ⟨some 4, none, .fieldAddr 1 (.t 1)⟩,
 ⟨some 5, none, .load 1 false (.t 4)⟩,
 ⟨some 6, none, .len false (.t 5)⟩,
 ⟨some 3, none, .alloc [(.s (.int .i64 0))]⟩,
 ⟨none, none, .store 1 (.t 3) (.t 6)⟩]
def c20r2 : List AOper := [
 ⟨some 8, none, .load 1 false (.t 3)⟩,
 ⟨some 9, none, .buildSl 1 1 (.int .i64 0) [(0, (.t 8))]⟩,
 ⟨some 10, none, .call 60 [(.c (.s (.int .i64 1))), (.c (.s (.int .i64 14))), (.t 9)]⟩,
 ⟨some 11, none, .not (.t 10)⟩,
 ⟨some 7, none, .mov (.t 11)⟩]
def c20r3 : List AOper := [
 ⟨some 2, none, .mov (.c (.s (.int .i64 6)))⟩]
def c20r4 : List AOper := [
 ⟨some 13, none, .fieldAddr 0 (.t 1)⟩,
 ⟨some 14, none, .load 1 false (.t 13)⟩,
 ⟨some 15, none, .len false (.t 14)⟩,
 ⟨some 16, none, .load 1 false (.t 3)⟩,
 ⟨some 17, none, .cmp .neq (.t 15) (.t 16)⟩,
 ⟨some 18, none, .mov (.t 17)⟩,
 ⟨some 19, some (18, false), .fieldAddr 2 (.t 1)⟩,
 ⟨some 20, some (18, false), .load 1 false (.t 19)⟩,
 ⟨some 21, some (18, false), .len false (.t 20)⟩,
 ⟨some 22, some (18, false), .load 1 false (.t 3)⟩,
 ⟨some 23, some (18, false), .cmp .neq (.t 21) (.t 22)⟩,
 ⟨some 24, none, .pick (.t 18) (.c (.s (.bool true))) (.t 23)⟩,
 ⟨some 12, none, .mov (.t 24)⟩]
def c20r5 : List AOper := [
 ⟨some 2, none, .mov (.c (.s (.int .i64 15)))⟩]
def c20r6 : List AOper := [
 ⟨some 26, none, .fieldAddr 1 (.t 1)⟩,
 ⟨some 27, none, .load 1 false (.t 26)⟩,
 ⟨some 28, none, .mkfn 62 [] [(.t 3)]⟩,
 ⟨some 29, none, .call 61 [(.t 27), (.t 28)]⟩,
 ⟨some 25, none, .mov (.t 29)⟩]
def c20r7 : List AOper := [
 ⟨some 2, none, .mov (.c (.s (.int .i64 2)))⟩]
def c20r8 : List AOper := [
 ⟨some 2, none, .mov (.c (.s (.int .i64 0)))⟩]
def f20 : FRow := ⟨(.seq (.reg 0 c20r0) (.seq (.reg 1 c20r1) (.seq (.block 0 (.seq (.reg 0 c20r2) (.cond (.t 7) (.seq (.reg 0 c20r3) .ret) (.seq (.reg 0 c20r4) (.cond (.t 12) (.seq (.reg 0 c20r5) .ret) (.seq (.reg 0 c20r6) (.cond (.t 25) (.seq (.reg 0 c20r7) .ret) .skip))))))) (.seq (.reg 0 c20r8) .ret)))), [.tmp 2], 30⟩
theorem okf20 : f20.Ok Try.prog 20 := ⟨_, _, Try.func20, rfl, by kernel_rfl, by kernel_rfl, by kernel_rfl⟩

/-! 21 pennyfall/pennyfallref03.CheckMachine, 1 and 0 -/
def c21r0 : List AOper := [
 ⟨some 1, none, .boxS (.t 0)⟩,
 ⟨some 2, none, .mov (.c (.s (.int .i64 0)))⟩]
def c21r1 : List AOper := [
 ⟨some 5, none, .fieldAddr 1 (.t 1)⟩,
 ⟨some 6, none, .load 1 false (.t 5)⟩,
 ⟨some 7, none, .len false (.t 6)⟩,
 ⟨some 3, none, .mov (.t 7)⟩]
def c21r2 : List AOper := [
 ⟨some 8, none, .mov (.t 3)⟩,
 ⟨some 9, none, .cmp .lss (.t 8) (.c (.s (.int .i64 1)))⟩,
 ⟨some 10, none, .mov (.t 9)⟩,
 ⟨some 11, some (10, false), .mov (.t 3)⟩,
 ⟨some 12, some (10, false), .cmp .gtr (.t 11) (.c (.s (.int .i64 14)))⟩,
 ⟨some 13, none, .pick (.t 10) (.c (.s (.bool true))) (.t 12)⟩]
def c21r3 : List AOper := [
 ⟨some 2, none, .mov (.c (.s (.int .i64 6)))⟩]
def c21r4 : List AOper := [
 ⟨some 14, none, .fieldAddr 0 (.t 1)⟩,
 ⟨some 15, none, .load 1 false (.t 14)⟩,
 ⟨some 16, none, .len false (.t 15)⟩,
 ⟨some 17, none, .mov (.t 3)⟩,
 ⟨some 18, none, .cmp .neq (.t 16) (.t 17)⟩,
 ⟨some 19, none, .mov (.t 18)⟩,
 ⟨some 20, some (19, false), .fieldAddr 2 (.t 1)⟩,
 ⟨some 21, some (19, false), .load 1 false (.t 20)⟩,
 ⟨some 22, some (19, false), .len false (.t 21)⟩,
 ⟨some 23, some (19, false), .mov (.t 3)⟩,
 ⟨some 24, some (19, false), .cmp .neq (.t 22) (.t 23)⟩,
 ⟨some 25, none, .pick (.t 19) (.c (.s (.bool true))) (.t 24)⟩]
def c21r5 : List AOper := [
 ⟨some 2, none, .mov (.c (.s (.int .i64 15)))⟩]
def c21r6 : List AOper := [
 ⟨some 4, none, .mov (.c (.s (.int .i64 0)))⟩]
def c21r7 : List AOper := [
 ⟨some 26, none, .mov (.t 4)⟩,
 ⟨some 27, none, .mov (.t 3)⟩,
 ⟨some 28, none, .cmp .lss (.t 26) (.t 27)⟩]
def c21r8 : List AOper := [
 ⟨some 31, none, .fieldAddr 1 (.t 1)⟩,
 ⟨some 32, none, .load 1 false (.t 31)⟩,
 ⟨some 33, none, .mov (.t 4)⟩,
 ⟨some 34, none, .idxA 1 (.t 32) (.t 33)⟩,
 ⟨some 35, none, .load 1 false (.t 34)⟩,
 ⟨some 36, none, .mov (.t 3)⟩,
 ⟨some 37, none, .call 64 [(.t 35), (.t 36)]⟩,
 ⟨some 38, none, .not (.t 37)⟩]
def c21r9 : List AOper := [
 ⟨some 2, none, .mov (.c (.s (.int .i64 2)))⟩]
def c21r10 : List AOper := [
 ⟨some 29, none, .mov (.t 4)⟩,
 ⟨some 30, none, .arith .add (.t 29) (.c (.s (.int .i64 1)))⟩,
 ⟨some 4, none, .mov (.t 30)⟩]
def c21l11 : ACode := (.seq (.seq (.reg 0 c21r7) (.cond (.t 28) .skip (.exit 0))) (.seq (.block 1 (.seq (.reg 0 c21r8) (.cond (.t 38) (.seq (.reg 0 c21r9) .ret) .skip))) (.reg 0 c21r10)))
def c21l11m : List Bool := [false, true, false, true, true, false, false, false, false, false, false, false, false, false, false, false, false, false, false, false, false, false, false, false, false, false, false, false, false, false, false, false, false, false, false, false, false, false, false]
def c21r12 : List AOper := [
 ⟨some 2, none, .mov (.c (.s (.int .i64 0)))⟩]
def f21 : FRow := ⟨(.seq (.reg 0 c21r0) (.seq (.reg 0 c21r1) (.seq (.seq (.reg 0 c21r2) (.cond (.t 13) (.seq (.reg 0 c21r3) .ret) .skip)) (.seq (.seq (.reg 0 c21r4) (.cond (.t 25) (.seq (.reg 0 c21r5) .ret) .skip)) (.seq (.seq (.reg 0 c21r6) (.block 0 (.loop c21l11m [] c21l11))) (.seq (.reg 0 c21r12) .ret)))))), [.tmp 2], 39⟩
theorem okf21 : f21.Ok Try.prog 21 := ⟨_, _, Try.func21, rfl, by kernel_rfl, by kernel_rfl, by kernel_rfl⟩

/-! 22 pennyfall/pennyfalllaw03.Ints, 2 and 0 -/
def c22r0 : List AOper := [
 ⟨some 4, none, .mov (.c (.s (.bool false)))⟩]
def c22r1 : List AOper := [
 ⟨some 6, none, .mov (.t 0)⟩,
 ⟨some 7, none, .len false (.t 6)⟩,
 ⟨some 8, none, .mov (.t 1)⟩,
 ⟨some 9, none, .len false (.t 8)⟩,
 ⟨some 10, none, .cmp .neq (.t 7) (.t 9)⟩]
def c22r2 : List AOper := [
 ⟨some 4, none, .mov (.c (.s (.bool false)))⟩]
def c22r3 : List AOper := [
 ⟨some 5, none, .mov (.c (.s (.int .i64 0)))⟩]
def c22r4 : List AOper := [
 ⟨some 11, none, .mov (.t 5)⟩,
 ⟨some 12, none, .mov (.t 0)⟩,
 ⟨some 13, none, .len false (.t 12)⟩,
 ⟨some 14, none, .cmp .lss (.t 11) (.t 13)⟩]
def c22r5 : List AOper := [
 ⟨some 17, none, .mov (.t 0)⟩,
 ⟨some 18, none, .mov (.t 5)⟩,
 ⟨some 19, none, .idxA 1 (.t 17) (.t 18)⟩,
 ⟨some 20, none, .load 1 false (.t 19)⟩,
 ⟨some 21, none, .mov (.t 1)⟩,
 ⟨some 22, none, .mov (.t 5)⟩,
 ⟨some 23, none, .idxA 1 (.t 21) (.t 22)⟩,
 ⟨some 24, none, .load 1 false (.t 23)⟩,
 ⟨some 25, none, .cmp .neq (.t 20) (.t 24)⟩]
def c22r6 : List AOper := [
 ⟨some 4, none, .mov (.c (.s (.bool false)))⟩]
def c22r7 : List AOper := [
 ⟨some 15, none, .mov (.t 5)⟩,
 ⟨some 16, none, .arith .add (.t 15) (.c (.s (.int .i64 1)))⟩,
 ⟨some 5, none, .mov (.t 16)⟩]
def c22l8 : ACode := (.seq (.seq (.reg 0 c22r4) (.cond (.t 14) .skip (.exit 0))) (.seq (.block 1 (.seq (.reg 0 c22r5) (.cond (.t 25) (.seq (.reg 0 c22r6) .ret) .skip))) (.reg 0 c22r7)))
def c22l8m : List Bool := [true, true, false, false, false, true, false, false, false, false, false, false, false, false, false, false, false, false, false, false, false, false, false, false, false, false]
def c22r9 : List AOper := [
 ⟨some 4, none, .mov (.c (.s (.bool true)))⟩]
def f22 : FRow := ⟨(.seq (.reg 0 c22r0) (.seq (.seq (.reg 0 c22r1) (.cond (.t 10) (.seq (.reg 0 c22r2) .ret) .skip)) (.seq (.seq (.reg 0 c22r3) (.block 0 (.loop c22l8m [] c22l8))) (.seq (.reg 0 c22r9) .ret)))), [.tmp 4], 26⟩
theorem okf22 : f22.Ok Try.prog 22 := ⟨_, _, Try.func22, rfl, by kernel_rfl, by kernel_rfl, by kernel_rfl⟩

/-! 23 pennyfall/skill.CheckRanks, 2 and 0 -/
def c23r0 : List AOper := [
 ⟨some 2, none, .boxS (.t 0)⟩,
 ⟨some 3, none, .boxS (.t 1)⟩,
 ⟨some 4, none, .mov (.c (.full []))⟩,
 ⟨some 5, none, .mov (.c (.s (.int .i64 0)))⟩]
def c23r1 : List AOper := [
 ⟨some 13, none, .load 3 true (.t 2)⟩,
 ⟨some 14, none, .call 58 [(.t 13), (.c (.full []))]⟩,
 ⟨some 12, none, .mov (.t 14)⟩,
 ⟨some 15, none, .ext (.t 12) 0⟩,
 ⟨some 16, none, .ext (.t 12) 1⟩,
 ⟨some 6, none, .mov (.t 15)⟩,
 ⟨some 7, none, .mov (.t 16)⟩]
def c23r2 : List AOper := [
 ⟨some 18, none, .mov (.t 7)⟩,
 ⟨some 19, none, .cmp .neq (.t 18) (.c (.s (.int .i64 0)))⟩,
 ⟨some 17, none, .mov (.t 19)⟩]
def c23r3 : List AOper := [
 ⟨some 20, none, .mov (.t 7)⟩,
 ⟨some 4, none, .mov (.c (.full []))⟩,
 ⟨some 5, none, .mov (.t 20)⟩]
def c23r4 : List AOper := [
 ⟨some 22, none, .load 1 false (.t 3)⟩,
 ⟨some 23, none, .len false (.t 22)⟩,
 ⟨some 24, none, .fieldAddr 1 (.t 2)⟩,
 ⟨some 25, none, .load 1 false (.t 24)⟩,
 ⟨some 26, none, .len false (.t 25)⟩,
 ⟨some 27, none, .cmp .neq (.t 23) (.t 26)⟩,
 ⟨some 21, none, .mov (.t 27)⟩]
def c23r5 : List AOper := [
 ⟨some 4, none, .mov (.c (.full []))⟩,
 ⟨some 5, none, .mov (.c (.s (.int .i64 15)))⟩]
def c23r6 : List AOper := [
 ⟨some 29, none, .load 1 false (.t 3)⟩,
 ⟨some 30, none, .call 60 [(.c (.s (.int .i64 (-1)))), (.c (.s (.int .i64 14))), (.t 29)]⟩,
 ⟨some 31, none, .not (.t 30)⟩,
 ⟨some 28, none, .mov (.t 31)⟩]
def c23r7 : List AOper := [
 ⟨some 4, none, .mov (.c (.full []))⟩,
 ⟨some 5, none, .mov (.c (.s (.int .i64 3)))⟩]
def c23r8 : List AOper := [
 ⟨some 8, none, .mov (.c (.full []))⟩]
def c23r9 : List AOper := [
 ⟨some 32, none, .load 1 false (.t 3)⟩,
 ⟨some 33, none, .len false (.t 32)⟩,
 ⟨some 34, none, .mov (.c (.s (.int .i64 0)))⟩]
def c23r10 : List AOper := [
 ⟨some 35, none, .cmp .lss (.t 34) (.t 33)⟩]
def c23r11 : List AOper := [
 ⟨some 36, none, .mov (.t 34)⟩,
 ⟨some 37, none, .idxA 1 (.t 32) (.t 34)⟩,
 ⟨some 38, none, .load 1 false (.t 37)⟩,
 ⟨some 10, none, .alloc [(.s (.int .i64 0))]⟩,
 ⟨some 9, none, .mov (.t 36)⟩,
 ⟨none, none, .store 1 (.t 10) (.t 38)⟩]
def c23r12 : List AOper := [
 ⟨some 39, none, .mkfn 65 [] [(.t 10), (.t 3)]⟩,
 ⟨some 11, none, .mov (.t 39)⟩]
def c23r13 : List AOper := [
 ⟨some 41, none, .load 1 false (.t 10)⟩,
 ⟨some 42, none, .cmp .eql (.t 41) (.c (.s (.int .i64 0)))⟩,
 ⟨some 43, none, .fieldAddr 2 (.t 2)⟩,
 ⟨some 44, none, .load 1 false (.t 43)⟩,
 ⟨some 45, none, .mov (.t 9)⟩,
 ⟨some 46, none, .idxA 1 (.t 44) (.t 45)⟩,
 ⟨some 47, none, .load 1 false (.t 46)⟩,
 ⟨some 48, none, .eql false [.bool] true (.t 42) (.t 47)⟩,
 ⟨some 40, none, .mov (.t 48)⟩]
def c23r14 : List AOper := [
 ⟨some 4, none, .mov (.c (.full []))⟩,
 ⟨some 5, none, .mov (.c (.s (.int .i64 14)))⟩]
def c23r15 : List AOper := [
 ⟨some 50, none, .load 1 false (.t 10)⟩,
 ⟨some 51, none, .cmp .gtr (.t 50) (.c (.s (.int .i64 0)))⟩,
 ⟨some 52, none, .mov (.t 51)⟩,
 ⟨some 53, some (52, true), .mov (.t 6)⟩,
 ⟨some 54, some (52, true), .mov (.t 9)⟩,
 ⟨some 55, some (52, true), .mov (.t 11)⟩,
 ⟨some 56, some (52, true), .call 66 [(.t 53), (.t 54), (.t 55)]⟩,
 ⟨some 57, some (52, true), .not (.t 56)⟩,
 ⟨some 58, none, .pick (.t 52) (.t 57) (.c (.s (.bool false)))⟩,
 ⟨some 49, none, .mov (.t 58)⟩]
def c23r16 : List AOper := [
 ⟨some 4, none, .mov (.c (.full []))⟩,
 ⟨some 5, none, .mov (.c (.s (.int .i64 14)))⟩]
def c23r17 : List AOper := [
 ⟨some 60, none, .load 1 false (.t 10)⟩,
 ⟨some 61, none, .cmp .geq (.t 60) (.c (.s (.int .i64 0)))⟩,
 ⟨some 59, none, .mov (.t 61)⟩]
def c23r18 : List AOper := [
 ⟨some 62, none, .mov (.t 8)⟩,
 ⟨some 63, none, .mov (.t 8)⟩,
 ⟨some 64, none, .len false (.t 63)⟩,
 ⟨some 65, none, .mov (.t 8)⟩,
 ⟨some 66, none, .len false (.t 65)⟩,
 ⟨some 67, none, .slice 1 (.t 62) none (some (.t 64)) (some (.t 66))⟩,
 ⟨some 68, none, .mov (.t 9)⟩,
 ⟨some 69, none, .buildSl 1 1 (.int .i64 0) [(0, (.t 68))]⟩,
 ⟨some 70, none, .append 1 8 (.t 67) (.t 69)⟩,
 ⟨some 8, none, .mov (.t 70)⟩]
def c23r19 : List AOper := [
 ⟨some 71, none, .arith .add (.t 34) (.c (.s (.int .i64 1)))⟩,
 ⟨some 34, none, .mov (.t 71)⟩]
def c23l20 : ACode := (.seq (.reg 0 c23r10) (.seq (.cond (.t 35) .skip (.exit 1)) (.seq (.block 2 (.seq (.reg 1 c23r11) (.seq (.reg 0 c23r12) (.block 3 (.seq (.reg 0 c23r13) (.cond (.t 40) (.seq (.reg 0 c23r14) .ret) (.seq (.reg 0 c23r15) (.cond (.t 49) (.seq (.reg 0 c23r16) .ret) (.seq (.reg 0 c23r17) (.cond (.t 59) (.reg 1 c23r18) .skip)))))))))) (.reg 0 c23r19))))
def c23l20m : List Bool := [false, false, true, true, false, false, true, false, true, false, false, false, false, false, false, false, false, false, false, false, false, false, false, false, false, false, false, false, false, false, false, false, true, true, true, false, false, false, false, false, false, false, false, false, false, false, false, false, false, false, false, false, false, false, false, false, false, false, false, false, false, false, false, false, false, false, false, false, false, false, false, false, false]
def c23r21 : List AOper := [
 ⟨some 72, none, .mov (.t 8)⟩,
 ⟨some 4, none, .mov (.t 72)⟩,
 ⟨some 5, none, .mov (.c (.s (.int .i64 0)))⟩]
def f23 : FRow := ⟨(.seq (.reg 0 c23r0) (.seq (.reg 0 c23r1) (.seq (.block 0 (.seq (.reg 0 c23r2) (.cond (.t 17) (.seq (.reg 0 c23r3) .ret) (.seq (.reg 0 c23r4) (.cond (.t 21) (.seq (.reg 0 c23r5) .ret) (.seq (.reg 0 c23r6) (.cond (.t 28) (.seq (.reg 0 c23r7) .ret) .skip))))))) (.seq (.reg 0 c23r8) (.seq (.seq (.reg 0 c23r9) (.block 1 (.loop c23l20m [(8, none, 0)] c23l20))) (.seq (.reg 0 c23r21) .ret)))))), [.tmp 4, .tmp 5], 73⟩
theorem okf23 : f23.Ok Try.prog 23 := ⟨_, _, Try.func23, rfl, by kernel_rfl, by kernel_rfl, by kernel_rfl⟩

/-! 24 pennyfall/pennyfallref03.CheckRanks, 2 and 0 -/
def c24r0 : List AOper := [
 ⟨some 2, none, .boxS (.t 0)⟩,
 ⟨some 4, none, .mov (.c (.full []))⟩,
 ⟨some 5, none, .mov (.c (.s (.int .i64 0)))⟩]
def c24r1 : List AOper := [
 ⟨some 11, none, .load 3 true (.t 2)⟩,
 ⟨some 12, none, .call 21 [(.t 11)]⟩,
 ⟨some 13, none, .cmp .neq (.t 12) (.c (.s (.int .i64 0)))⟩]
def c24r2 : List AOper := [
 ⟨some 14, none, .load 3 true (.t 2)⟩,
 ⟨some 15, none, .call 21 [(.t 14)]⟩,
 ⟨some 4, none, .mov (.c (.full []))⟩,
 ⟨some 5, none, .mov (.t 15)⟩]
def c24r3 : List AOper := [
 ⟨some 16, none, .mov (.t 1)⟩,
 ⟨some 17, none, .len false (.t 16)⟩,
 ⟨some 18, none, .fieldAddr 1 (.t 2)⟩,
 ⟨some 19, none, .load 1 false (.t 18)⟩,
 ⟨some 20, none, .len false (.t 19)⟩,
 ⟨some 21, none, .cmp .neq (.t 17) (.t 20)⟩]
def c24r4 : List AOper := [
 ⟨some 4, none, .mov (.c (.full []))⟩,
 ⟨some 5, none, .mov (.c (.s (.int .i64 15)))⟩]
def c24r5 : List AOper := [
 ⟨some 6, none, .mov (.c (.s (.int .i64 0)))⟩]
def c24r6 : List AOper := [
 ⟨some 22, none, .mov (.t 6)⟩,
 ⟨some 23, none, .mov (.t 1)⟩,
 ⟨some 24, none, .len false (.t 23)⟩,
 ⟨some 25, none, .cmp .lss (.t 22) (.t 24)⟩]
def c24r7 : List AOper := [
 ⟨some 28, none, .mov (.t 1)⟩,
 ⟨some 29, none, .mov (.t 6)⟩,
 ⟨some 30, none, .idxA 1 (.t 28) (.t 29)⟩,
 ⟨some 31, none, .load 1 false (.t 30)⟩,
 ⟨some 32, none, .cmp .lss (.t 31) (.c (.s (.int .i64 (-1))))⟩,
 ⟨some 33, none, .mov (.t 32)⟩,
 ⟨some 34, some (33, false), .mov (.t 1)⟩,
 ⟨some 35, some (33, false), .mov (.t 6)⟩,
 ⟨some 36, some (33, false), .idxA 1 (.t 34) (.t 35)⟩,
 ⟨some 37, some (33, false), .load 1 false (.t 36)⟩,
 ⟨some 38, some (33, false), .cmp .gtr (.t 37) (.c (.s (.int .i64 14)))⟩,
 ⟨some 39, none, .pick (.t 33) (.c (.s (.bool true))) (.t 38)⟩]
def c24r8 : List AOper := [
 ⟨some 4, none, .mov (.c (.full []))⟩,
 ⟨some 5, none, .mov (.c (.s (.int .i64 3)))⟩]
def c24r9 : List AOper := [
 ⟨some 26, none, .mov (.t 6)⟩,
 ⟨some 27, none, .arith .add (.t 26) (.c (.s (.int .i64 1)))⟩,
 ⟨some 6, none, .mov (.t 27)⟩]
def c24l10 : ACode := (.seq (.seq (.reg 0 c24r6) (.cond (.t 25) .skip (.exit 0))) (.seq (.block 1 (.seq (.reg 0 c24r7) (.cond (.t 39) (.seq (.reg 0 c24r8) .ret) .skip))) (.reg 0 c24r9)))
def c24l10m : List Bool := [false, true, true, false, false, false, true, false, false, false, false, false, false, false, false, false, false, false, false, false, false, false, false, false, false, false, false, false, false, false, false, false, false, false, false, false, false, false, false, false, false, false, false, false, false, false, false, false, false, false, false, false, false, false, false, false, false, false, false, false, false, false, false, false, false, false, false, false, false, false, false, false, false, false, false, false, false, false, false, false, false, false, false, false, false, false, false, false, false, false, false, false, false, false, false, false, false, false, false, false, false, false, false, false, false, false, false, false, false, false, false, false, false, false, false, false, false, false]
def c24r11 : List AOper := [
 ⟨some 7, none, .mov (.c (.full []))⟩]
def c24r12 : List AOper := [
 ⟨some 8, none, .mov (.c (.s (.int .i64 0)))⟩]
def c24r13 : List AOper := [
 ⟨some 40, none, .mov (.t 8)⟩,
 ⟨some 41, none, .mov (.t 1)⟩,
 ⟨some 42, none, .len false (.t 41)⟩,
 ⟨some 43, none, .cmp .lss (.t 40) (.t 42)⟩]
def c24r14 : List AOper := [
 ⟨some 46, none, .mov (.t 1)⟩,
 ⟨some 47, none, .mov (.t 8)⟩,
 ⟨some 48, none, .idxA 1 (.t 46) (.t 47)⟩,
 ⟨some 49, none, .load 1 false (.t 48)⟩,
 ⟨some 50, none, .cmp .eql (.t 49) (.c (.s (.int .i64 0)))⟩,
 ⟨some 51, none, .fieldAddr 2 (.t 2)⟩,
 ⟨some 52, none, .load 1 false (.t 51)⟩,
 ⟨some 53, none, .mov (.t 8)⟩,
 ⟨some 54, none, .idxA 1 (.t 52) (.t 53)⟩,
 ⟨some 55, none, .load 1 false (.t 54)⟩,
 ⟨some 56, none, .eql false [.bool] true (.t 50) (.t 55)⟩]
def c24r15 : List AOper := [
 ⟨some 4, none, .mov (.c (.full []))⟩,
 ⟨some 5, none, .mov (.c (.s (.int .i64 14)))⟩]
def c24r16 : List AOper := [
 ⟨some 57, none, .mov (.t 1)⟩,
 ⟨some 58, none, .mov (.t 8)⟩,
 ⟨some 59, none, .idxA 1 (.t 57) (.t 58)⟩,
 ⟨some 60, none, .load 1 false (.t 59)⟩,
 ⟨some 61, none, .cmp .geq (.t 60) (.c (.s (.int .i64 0)))⟩]
def c24r17 : List AOper := [
 ⟨some 62, none, .mov (.t 7)⟩,
 ⟨some 63, none, .mov (.t 8)⟩,
 ⟨some 64, none, .buildSl 1 1 (.int .i64 0) [(0, (.t 63))]⟩,
 ⟨some 65, none, .append 1 8 (.t 62) (.t 64)⟩,
 ⟨some 7, none, .mov (.t 65)⟩]
def c24r18 : List AOper := [
 ⟨some 66, none, .mov (.t 1)⟩,
 ⟨some 67, none, .mov (.t 8)⟩,
 ⟨some 68, none, .idxA 1 (.t 66) (.t 67)⟩,
 ⟨some 69, none, .load 1 false (.t 68)⟩,
 ⟨some 70, none, .cmp .lss (.t 69) (.c (.s (.int .i64 1)))⟩]
def c24r19 : List AOper := [
 ⟨some 9, none, .mov (.c (.s (.int .i64 0)))⟩]
def c24r20 : List AOper := [
 ⟨some 10, none, .mov (.c (.s (.int .i64 0)))⟩]
def c24r21 : List AOper := [
 ⟨some 71, none, .mov (.t 10)⟩,
 ⟨some 72, none, .fieldAddr 1 (.t 2)⟩,
 ⟨some 73, none, .load 1 false (.t 72)⟩,
 ⟨some 74, none, .mov (.t 8)⟩,
 ⟨some 75, none, .idxA 1 (.t 73) (.t 74)⟩,
 ⟨some 76, none, .load 1 false (.t 75)⟩,
 ⟨some 77, none, .len false (.t 76)⟩,
 ⟨some 78, none, .cmp .lss (.t 71) (.t 77)⟩]
def c24r22 : List AOper := [
 ⟨some 81, none, .mov (.t 1)⟩,
 ⟨some 82, none, .fieldAddr 1 (.t 2)⟩,
 ⟨some 83, none, .load 1 false (.t 82)⟩,
 ⟨some 84, none, .mov (.t 8)⟩,
 ⟨some 85, none, .idxA 1 (.t 83) (.t 84)⟩,
 ⟨some 86, none, .load 1 false (.t 85)⟩,
 ⟨some 87, none, .mov (.t 10)⟩,
 ⟨some 88, none, .idxA 1 (.t 86) (.t 87)⟩,
 ⟨some 89, none, .load 1 false (.t 88)⟩,
 ⟨some 90, none, .mov (.t 1)⟩,
 ⟨some 91, none, .mov (.t 8)⟩,
 ⟨some 92, none, .idxA 1 (.t 90) (.t 91)⟩,
 ⟨some 93, none, .load 1 false (.t 92)⟩,
 ⟨some 94, none, .call 67 [(.t 81), (.t 89), (.t 93)]⟩]
def c24r23 : List AOper := [
 ⟨some 95, none, .mov (.t 9)⟩,
 ⟨some 96, none, .arith .add (.t 95) (.c (.s (.int .i64 1)))⟩,
 ⟨some 9, none, .mov (.t 96)⟩]
def c24r24 : List AOper := [
 ⟨some 79, none, .mov (.t 10)⟩,
 ⟨some 80, none, .arith .add (.t 79) (.c (.s (.int .i64 1)))⟩,
 ⟨some 10, none, .mov (.t 80)⟩]
def c24l25 : ACode := (.seq (.seq (.reg 0 c24r21) (.cond (.t 78) .skip (.exit 4))) (.seq (.block 5 (.seq (.reg 0 c24r22) (.cond (.t 94) (.reg 0 c24r23) .skip))) (.reg 0 c24r24)))
def c24l25m : List Bool := [false, true, true, false, false, false, false, true, true, true, true, false, false, false, false, false, false, false, false, false, false, false, false, false, false, false, false, false, false, false, false, false, false, false, false, false, false, false, false, false, false, false, false, false, false, false, false, false, false, false, false, false, false, false, false, false, false, false, false, false, false, false, false, false, false, false, false, false, false, false, false, false, false, false, false, false, false, false, false, false, false, false, false, false, false, false, false, false, false, false, false, false, false, false, false, false, false, false, false, false, false, false, false, false, false, false, false, false, false, false, false, false, false, false, false, false, false, false]
def c24r26 : List AOper := [
 ⟨some 97, none, .mov (.t 9)⟩,
 ⟨some 98, none, .cmp .eql (.t 97) (.c (.s (.int .i64 0)))⟩,
 ⟨some 99, none, .mov (.t 98)⟩,
 ⟨some 100, some (99, false), .fieldAddr 0 (.t 2)⟩,
 ⟨some 101, some (99, false), .load 1 false (.t 100)⟩,
 ⟨some 102, some (99, false), .mov (.t 8)⟩,
 ⟨some 103, some (99, false), .idxA 1 (.t 101) (.t 102)⟩,
 ⟨some 104, some (99, false), .load 1 false (.t 103)⟩,
 ⟨some 105, some (99, false), .not (.t 104)⟩,
 ⟨some 106, some (99, false), .mov (.t 105)⟩,
 ⟨some 107, some (106, true), .mov (.t 9)⟩,
 ⟨some 108, some (106, true), .fieldAddr 1 (.t 2)⟩,
 ⟨some 109, some (106, true), .load 1 false (.t 108)⟩,
 ⟨some 110, some (106, true), .mov (.t 8)⟩,
 ⟨some 111, some (106, true), .idxA 1 (.t 109) (.t 110)⟩,
 ⟨some 112, some (106, true), .load 1 false (.t 111)⟩,
 ⟨some 113, some (106, true), .len false (.t 112)⟩,
 ⟨some 114, some (106, true), .cmp .lss (.t 107) (.t 113)⟩,
 ⟨some 115, some (99, false), .pick (.t 106) (.t 114) (.c (.s (.bool false)))⟩,
 ⟨some 116, none, .pick (.t 99) (.c (.s (.bool true))) (.t 115)⟩]
def c24r27 : List AOper := [
 ⟨some 4, none, .mov (.c (.full []))⟩,
 ⟨some 5, none, .mov (.c (.s (.int .i64 14)))⟩]
def c24r28 : List AOper := [
 ⟨some 44, none, .mov (.t 8)⟩,
 ⟨some 45, none, .arith .add (.t 44) (.c (.s (.int .i64 1)))⟩,
 ⟨some 8, none, .mov (.t 45)⟩]
def c24l29 : ACode := (.seq (.seq (.reg 0 c24r13) (.cond (.t 43) .skip (.exit 2))) (.seq (.block 3 (.seq (.seq (.reg 0 c24r14) (.cond (.t 56) (.seq (.reg 0 c24r15) .ret) .skip)) (.seq (.seq (.reg 0 c24r16) (.cond (.t 61) (.reg 1 c24r17) .skip)) (.seq (.seq (.reg 0 c24r18) (.cond (.t 70) (.exit 3) .skip)) (.seq (.reg 0 c24r19) (.seq (.seq (.reg 0 c24r20) (.block 4 (.loop c24l25m [] c24l25))) (.seq (.reg 0 c24r26) (.cond (.t 116) (.seq (.reg 0 c24r27) .ret) .skip)))))))) (.reg 0 c24r28)))
def c24l29m : List Bool := [false, true, true, false, false, false, false, true, true, false, false, false, false, false, false, false, false, false, false, false, false, false, false, false, false, false, false, false, false, false, false, false, false, false, false, false, false, false, false, false, false, false, false, false, false, false, false, false, false, false, false, false, false, false, false, false, false, false, false, false, false, false, false, false, false, false, false, false, false, false, false, false, false, false, false, false, false, false, false, false, false, false, false, false, false, false, false, false, false, false, false, false, false, false, false, false, false, false, false, false, false, false, false, false, false, false, false, false, false, false, false, false, false, false, false, false, false, false]
def c24r30 : List AOper := [
 ⟨some 117, none, .mov (.t 7)⟩,
 ⟨some 4, none, .mov (.t 117)⟩,
 ⟨some 5, none, .mov (.c (.s (.int .i64 0)))⟩]
def f24 : FRow := ⟨(.seq (.reg 0 c24r0) (.seq (.seq (.reg 0 c24r1) (.cond (.t 13) (.seq (.reg 0 c24r2) .ret) .skip)) (.seq (.seq (.reg 0 c24r3) (.cond (.t 21) (.seq (.reg 0 c24r4) .ret) .skip)) (.seq (.seq (.reg 0 c24r5) (.block 0 (.loop c24l10m [] c24l10))) (.seq (.reg 0 c24r11) (.seq (.seq (.reg 0 c24r12) (.block 2 (.loop c24l29m [(7, none, 0)] c24l29))) (.seq (.reg 0 c24r30) .ret))))))), [.tmp 4, .tmp 5], 118⟩
theorem okf24 : f24.Ok Try.prog 24 := ⟨_, _, Try.func24, rfl, by kernel_rfl, by kernel_rfl, by kernel_rfl⟩

/-! 25 pennyfall/skill.Keep, 1 and 0 -/
def c25r0 : List AOper := [
 ⟨some 1, none, .boxS (.t 0)⟩,
 ⟨some 2, none, .mov (.c (.full []))⟩,
 ⟨some 3, none, .mov (.c (.s (.int .i64 0)))⟩]
def c25r1 : List AOper := [
 ⟨some 9, none, .load 3 true (.t 1)⟩,
 ⟨some 10, none, .call 58 [(.t 9), (.c (.full []))]⟩,
 ⟨some 8, none, .mov (.t 10)⟩,
 ⟨some 11, none, .ext (.t 8) 0⟩,
 ⟨some 12, none, .ext (.t 8) 1⟩,
 ⟨some 4, none, .mov (.t 11)⟩,
 ⟨some 5, none, .mov (.t 12)⟩]
def c25r2 : List AOper := [
 ⟨some 13, none, .mov (.t 5)⟩,
 ⟨some 14, none, .cmp .neq (.t 13) (.c (.s (.int .i64 0)))⟩]
def c25r3 : List AOper := [
 ⟨some 15, none, .mov (.t 5)⟩,
 ⟨some 2, none, .mov (.c (.full []))⟩,
 ⟨some 3, none, .mov (.t 15)⟩]
def c25r4 : List AOper := [
 ⟨some 6, none, .mov (.c (.full []))⟩]
def c25r5 : List AOper := [
 ⟨some 16, none, .fieldAddr 1 (.t 1)⟩,
 ⟨some 17, none, .load 1 false (.t 16)⟩,
 ⟨some 18, none, .len false (.t 17)⟩,
 ⟨some 19, none, .mov (.c (.s (.int .i64 0)))⟩]
def c25r6 : List AOper := [
 ⟨some 20, none, .cmp .lss (.t 19) (.t 18)⟩]
def c25r7 : List AOper := [
 ⟨some 21, none, .mov (.t 19)⟩,
 ⟨some 7, none, .mov (.t 21)⟩]
def c25r8 : List AOper := [
 ⟨some 22, none, .mov (.t 4)⟩,
 ⟨some 23, none, .mov (.t 7)⟩,
 ⟨some 24, none, .nilck (.t 22)⟩,
 ⟨some 25, none, .fieldAddr 3 (.t 24)⟩,
 ⟨some 26, none, .idxArrA 14 1 (.t 25) (.t 23)⟩,
 ⟨some 27, none, .load 1 false (.t 26)⟩,
 ⟨some 28, none, .cmp .lss (.t 27) (.c (.s (.int .i64 0)))⟩]
def c25r9 : List AOper := [
 ⟨some 29, none, .mov (.t 6)⟩,
 ⟨some 30, none, .mov (.t 7)⟩,
 ⟨some 31, none, .buildSl 1 1 (.int .i64 0) [(0, (.t 30))]⟩,
 ⟨some 32, none, .append 1 8 (.t 29) (.t 31)⟩,
 ⟨some 6, none, .mov (.t 32)⟩]
def c25r10 : List AOper := [
 ⟨some 33, none, .arith .add (.t 19) (.c (.s (.int .i64 1)))⟩,
 ⟨some 19, none, .mov (.t 33)⟩]
def c25l11 : ACode := (.seq (.reg 0 c25r6) (.seq (.cond (.t 20) .skip (.exit 0)) (.seq (.block 1 (.seq (.reg 0 c25r7) (.seq (.reg 0 c25r8) (.cond (.t 28) (.reg 1 c25r9) .skip)))) (.reg 0 c25r10))))
def c25l11m : List Bool := [false, false, false, false, true, false, true, false, false, false, false, false, false, false, false, false, false, false, true, true, false, false, false, false, false, false, false, false, false, false, false, false, false, false, false]
def c25r12 : List AOper := [
 ⟨some 34, none, .mov (.t 6)⟩,
 ⟨some 2, none, .mov (.t 34)⟩,
 ⟨some 3, none, .mov (.c (.s (.int .i64 0)))⟩]
def f25 : FRow := ⟨(.seq (.reg 0 c25r0) (.seq (.reg 0 c25r1) (.seq (.seq (.reg 0 c25r2) (.cond (.t 14) (.seq (.reg 0 c25r3) .ret) .skip)) (.seq (.reg 0 c25r4) (.seq (.seq (.reg 0 c25r5) (.block 0 (.loop c25l11m [(6, none, 0)] c25l11))) (.seq (.reg 0 c25r12) .ret)))))), [.tmp 2, .tmp 3], 35⟩
theorem okf25 : f25.Ok Try.prog 25 := ⟨_, _, Try.func25, rfl, by kernel_rfl, by kernel_rfl, by kernel_rfl⟩

/-! 26 pennyfall/pennyfallref03.Keep, 1 and 0 -/
def c26r0 : List AOper := [
 ⟨some 1, none, .boxS (.t 0)⟩,
 ⟨some 2, none, .mov (.c (.full []))⟩,
 ⟨some 3, none, .mov (.c (.s (.int .i64 0)))⟩]
def c26r1 : List AOper := [
 ⟨some 4, none, .load 3 true (.t 1)⟩,
 ⟨some 5, none, .call 21 [(.t 4)]⟩,
 ⟨some 6, none, .cmp .neq (.t 5) (.c (.s (.int .i64 0)))⟩]
def c26r2 : List AOper := [
 ⟨some 7, none, .load 3 true (.t 1)⟩,
 ⟨some 8, none, .call 21 [(.t 7)]⟩,
 ⟨some 2, none, .mov (.c (.full []))⟩,
 ⟨some 3, none, .mov (.t 8)⟩]
def c26r3 : List AOper := [
 ⟨some 9, none, .load 3 true (.t 1)⟩,
 ⟨some 10, none, .call 53 [(.t 9)]⟩,
 ⟨some 2, none, .mov (.t 10)⟩,
 ⟨some 3, none, .mov (.c (.s (.int .i64 0)))⟩]
def f26 : FRow := ⟨(.seq (.reg 0 c26r0) (.seq (.seq (.reg 0 c26r1) (.cond (.t 6) (.seq (.reg 0 c26r2) .ret) .skip)) (.seq (.reg 0 c26r3) .ret))), [.tmp 2, .tmp 3], 11⟩
theorem okf26 : f26.Ok Try.prog 26 := ⟨_, _, Try.func26, rfl, by kernel_rfl, by kernel_rfl, by kernel_rfl⟩

/-! 27 pennyfall/skill.CheckKeep, 2 and 0 -/
def c27r0 : List AOper := [
 ⟨some 2, none, .boxS (.t 0)⟩,
 ⟨some 3, none, .boxS (.t 1)⟩,
 ⟨some 4, none, .mov (.c (.s (.int .i64 0)))⟩]
def c27r1 : List AOper := [
 ⟨some 11, none, .load 3 true (.t 2)⟩,
 ⟨some 12, none, .call 58 [(.t 11), (.c (.full []))]⟩,
 ⟨some 10, none, .mov (.t 12)⟩,
 ⟨some 13, none, .ext (.t 10) 0⟩,
 ⟨some 14, none, .ext (.t 10) 1⟩,
 ⟨some 5, none, .mov (.t 13)⟩,
 ⟨some 6, none, .mov (.t 14)⟩]
def c27r2 : List AOper := [
 ⟨some 16, none, .mov (.t 6)⟩,
 ⟨some 17, none, .cmp .neq (.t 16) (.c (.s (.int .i64 0)))⟩,
 ⟨some 15, none, .mov (.t 17)⟩]
def c27r3 : List AOper := [
 ⟨some 18, none, .mov (.t 6)⟩,
 ⟨some 4, none, .mov (.t 18)⟩]
def c27r4 : List AOper := [
 ⟨some 20, none, .load 1 false (.t 3)⟩,
 ⟨some 21, none, .fieldAddr 1 (.t 2)⟩,
 ⟨some 22, none, .load 1 false (.t 21)⟩,
 ⟨some 23, none, .len false (.t 22)⟩,
 ⟨some 24, none, .call 63 [(.t 20), (.t 23)]⟩,
 ⟨some 25, none, .not (.t 24)⟩,
 ⟨some 19, none, .mov (.t 25)⟩]
def c27r5 : List AOper := [
 ⟨some 4, none, .mov (.c (.s (.int .i64 2)))⟩]
def c27r6 : List AOper := [
 ⟨some 26, none, .mkfn 68 [] [(.t 3)]⟩,
 ⟨some 7, none, .mov (.t 26)⟩]
def c27r7 : List AOper := [
 ⟨some 27, none, .load 1 false (.t 3)⟩,
 ⟨some 28, none, .len false (.t 27)⟩,
 ⟨some 29, none, .mov (.c (.s (.int .i64 0)))⟩]
def c27r8 : List AOper := [
 ⟨some 30, none, .cmp .lss (.t 29) (.t 28)⟩]
def c27r9 : List AOper := [
 ⟨some 31, none, .idxA 1 (.t 27) (.t 29)⟩,
 ⟨some 32, none, .load 1 false (.t 31)⟩,
 ⟨some 9, none, .mov (.t 32)⟩]
def c27r10 : List AOper := [
 ⟨some 33, none, .fieldAddr 2 (.t 2)⟩,
 ⟨some 34, none, .load 1 false (.t 33)⟩,
 ⟨some 35, none, .mov (.t 9)⟩,
 ⟨some 36, none, .idxA 1 (.t 34) (.t 35)⟩,
 ⟨some 37, none, .load 1 false (.t 36)⟩,
 ⟨some 38, none, .mov (.t 37)⟩,
 ⟨some 39, some (38, false), .mov (.t 5)⟩,
 ⟨some 40, some (38, false), .mov (.t 9)⟩,
 ⟨some 41, some (38, false), .mov (.t 7)⟩,
 ⟨some 42, some (38, false), .call 66 [(.t 39), (.t 40), (.t 41)]⟩,
 ⟨some 43, none, .pick (.t 38) (.c (.s (.bool true))) (.t 42)⟩]
def c27r11 : List AOper := [
 ⟨some 4, none, .mov (.c (.s (.int .i64 14)))⟩]
def c27r12 : List AOper := [
 ⟨some 44, none, .arith .add (.t 29) (.c (.s (.int .i64 1)))⟩,
 ⟨some 29, none, .mov (.t 44)⟩]
def c27l13 : ACode := (.seq (.reg 0 c27r8) (.seq (.cond (.t 30) .skip (.exit 1)) (.seq (.block 2 (.seq (.reg 0 c27r9) (.seq (.reg 0 c27r10) (.cond (.t 43) (.seq (.reg 0 c27r11) .ret) .skip)))) (.reg 0 c27r12))))
def c27l13m : List Bool := [false, false, true, false, false, true, false, true, false, false, false, false, false, false, false, false, false, false, false, false, false, false, false, false, false, false, false, true, true, true, false, false, false, false, false, false, false, false, false, false, false, false, false, false, false]
def c27r14 : List AOper := [
 ⟨some 4, none, .mov (.c (.s (.int .i64 0)))⟩]
def f27 : FRow := ⟨(.seq (.reg 0 c27r0) (.seq (.reg 0 c27r1) (.seq (.block 0 (.seq (.reg 0 c27r2) (.cond (.t 15) (.seq (.reg 0 c27r3) .ret) (.seq (.reg 0 c27r4) (.cond (.t 19) (.seq (.reg 0 c27r5) .ret) .skip))))) (.seq (.reg 0 c27r6) (.seq (.seq (.reg 0 c27r7) (.block 1 (.loop c27l13m [] c27l13))) (.seq (.reg 0 c27r14) .ret)))))), [.tmp 4], 45⟩
theorem okf27 : f27.Ok Try.prog 27 := ⟨_, _, Try.func27, rfl, by kernel_rfl, by kernel_rfl, by kernel_rfl⟩

/-! 28 pennyfall/pennyfallref03.CheckKeep, 2 and 0 -/
def c28r0 : List AOper := [
 ⟨some 2, none, .boxS (.t 0)⟩,
 ⟨some 4, none, .mov (.c (.s (.int .i64 0)))⟩]
def c28r1 : List AOper := [
 ⟨some 9, none, .load 3 true (.t 2)⟩,
 ⟨some 10, none, .call 21 [(.t 9)]⟩,
 ⟨some 11, none, .cmp .neq (.t 10) (.c (.s (.int .i64 0)))⟩]
def c28r2 : List AOper := [
 ⟨some 12, none, .load 3 true (.t 2)⟩,
 ⟨some 13, none, .call 21 [(.t 12)]⟩,
 ⟨some 4, none, .mov (.t 13)⟩]
def c28r3 : List AOper := [
 ⟨some 14, none, .mov (.t 1)⟩,
 ⟨some 15, none, .fieldAddr 1 (.t 2)⟩,
 ⟨some 16, none, .load 1 false (.t 15)⟩,
 ⟨some 17, none, .len false (.t 16)⟩,
 ⟨some 18, none, .call 64 [(.t 14), (.t 17)]⟩,
 ⟨some 19, none, .not (.t 18)⟩]
def c28r4 : List AOper := [
 ⟨some 4, none, .mov (.c (.s (.int .i64 2)))⟩]
def c28r5 : List AOper := [
 ⟨some 5, none, .mov (.c (.s (.int .i64 0)))⟩]
def c28r6 : List AOper := [
 ⟨some 20, none, .mov (.t 5)⟩,
 ⟨some 21, none, .mov (.t 1)⟩,
 ⟨some 22, none, .len false (.t 21)⟩,
 ⟨some 23, none, .cmp .lss (.t 20) (.t 22)⟩]
def c28r7 : List AOper := [
 ⟨some 26, none, .fieldAddr 1 (.t 2)⟩,
 ⟨some 27, none, .load 1 false (.t 26)⟩,
 ⟨some 28, none, .mov (.t 1)⟩,
 ⟨some 29, none, .mov (.t 5)⟩,
 ⟨some 30, none, .idxA 1 (.t 28) (.t 29)⟩,
 ⟨some 31, none, .load 1 false (.t 30)⟩,
 ⟨some 32, none, .idxA 1 (.t 27) (.t 31)⟩,
 ⟨some 33, none, .load 1 false (.t 32)⟩,
 ⟨some 6, none, .mov (.t 33)⟩]
def c28r8 : List AOper := [
 ⟨some 7, none, .mov (.c (.s (.int .i64 0)))⟩]
def c28r9 : List AOper := [
 ⟨some 8, none, .mov (.c (.s (.int .i64 0)))⟩]
def c28r10 : List AOper := [
 ⟨some 34, none, .mov (.t 8)⟩,
 ⟨some 35, none, .mov (.t 6)⟩,
 ⟨some 36, none, .len false (.t 35)⟩,
 ⟨some 37, none, .cmp .lss (.t 34) (.t 36)⟩]
def c28r11 : List AOper := [
 ⟨some 40, none, .mov (.t 1)⟩,
 ⟨some 41, none, .mov (.t 6)⟩,
 ⟨some 42, none, .mov (.t 8)⟩,
 ⟨some 43, none, .idxA 1 (.t 41) (.t 42)⟩,
 ⟨some 44, none, .load 1 false (.t 43)⟩,
 ⟨some 45, none, .call 49 [(.t 40), (.t 44)]⟩]
def c28r12 : List AOper := [
 ⟨some 46, none, .mov (.t 7)⟩,
 ⟨some 47, none, .arith .add (.t 46) (.c (.s (.int .i64 1)))⟩,
 ⟨some 7, none, .mov (.t 47)⟩]
def c28r13 : List AOper := [
 ⟨some 38, none, .mov (.t 8)⟩,
 ⟨some 39, none, .arith .add (.t 38) (.c (.s (.int .i64 1)))⟩,
 ⟨some 8, none, .mov (.t 39)⟩]
def c28l14 : ACode := (.seq (.seq (.reg 0 c28r10) (.cond (.t 37) .skip (.exit 2))) (.seq (.block 3 (.seq (.reg 0 c28r11) (.cond (.t 45) (.reg 0 c28r12) .skip))) (.reg 0 c28r13)))
def c28l14m : List Bool := [false, true, true, false, false, true, true, true, true, false, false, false, false, false, false, false, false, false, false, false, false, false, false, false, false, false, false, false, false, false, false, false, false, false, false, false, false, false, false, false, false, false, false, false, false, false, false, false, false, false, false, false, false, false, false, false, false, false, false, false, false, false, false, false, false, false, false, false, false, false, false, false, false, false, false, false, false, false, false, false, false, false, false, false, false, false, false, false, false, false, false, false]
def c28r15 : List AOper := [
 ⟨some 48, none, .fieldAddr 2 (.t 2)⟩,
 ⟨some 49, none, .load 1 false (.t 48)⟩,
 ⟨some 50, none, .mov (.t 1)⟩,
 ⟨some 51, none, .mov (.t 5)⟩,
 ⟨some 52, none, .idxA 1 (.t 50) (.t 51)⟩,
 ⟨some 53, none, .load 1 false (.t 52)⟩,
 ⟨some 54, none, .idxA 1 (.t 49) (.t 53)⟩,
 ⟨some 55, none, .load 1 false (.t 54)⟩,
 ⟨some 56, none, .mov (.t 55)⟩,
 ⟨some 57, some (56, false), .fieldAddr 0 (.t 2)⟩,
 ⟨some 58, some (56, false), .load 1 false (.t 57)⟩,
 ⟨some 59, some (56, false), .mov (.t 1)⟩,
 ⟨some 60, some (56, false), .mov (.t 5)⟩,
 ⟨some 61, some (56, false), .idxA 1 (.t 59) (.t 60)⟩,
 ⟨some 62, some (56, false), .load 1 false (.t 61)⟩,
 ⟨some 63, some (56, false), .idxA 1 (.t 58) (.t 62)⟩,
 ⟨some 64, some (56, false), .load 1 false (.t 63)⟩,
 ⟨some 65, some (56, false), .mov (.t 64)⟩,
 ⟨some 66, some (65, true), .mov (.t 7)⟩,
 ⟨some 67, some (65, true), .mov (.t 6)⟩,
 ⟨some 68, some (65, true), .len false (.t 67)⟩,
 ⟨some 69, some (65, true), .cmp .lss (.t 66) (.t 68)⟩,
 ⟨some 70, some (56, false), .pick (.t 65) (.t 69) (.c (.s (.bool false)))⟩,
 ⟨some 71, none, .pick (.t 56) (.c (.s (.bool true))) (.t 70)⟩,
 ⟨some 72, none, .mov (.t 71)⟩,
 ⟨some 73, some (72, false), .fieldAddr 0 (.t 2)⟩,
 ⟨some 74, some (72, false), .load 1 false (.t 73)⟩,
 ⟨some 75, some (72, false), .mov (.t 1)⟩,
 ⟨some 76, some (72, false), .mov (.t 5)⟩,
 ⟨some 77, some (72, false), .idxA 1 (.t 75) (.t 76)⟩,
 ⟨some 78, some (72, false), .load 1 false (.t 77)⟩,
 ⟨some 79, some (72, false), .idxA 1 (.t 74) (.t 78)⟩,
 ⟨some 80, some (72, false), .load 1 false (.t 79)⟩,
 ⟨some 81, some (72, false), .not (.t 80)⟩,
 ⟨some 82, some (72, false), .mov (.t 81)⟩,
 ⟨some 83, some (82, true), .mov (.t 7)⟩,
 ⟨some 84, some (82, true), .cmp .eql (.t 83) (.c (.s (.int .i64 0)))⟩,
 ⟨some 85, some (72, false), .pick (.t 82) (.t 84) (.c (.s (.bool false)))⟩,
 ⟨some 86, some (72, false), .mov (.t 85)⟩,
 ⟨some 87, some (86, true), .mov (.t 6)⟩,
 ⟨some 88, some (86, true), .len false (.t 87)⟩,
 ⟨some 89, some (86, true), .cmp .gtr (.t 88) (.c (.s (.int .i64 0)))⟩,
 ⟨some 90, some (72, false), .pick (.t 86) (.t 89) (.c (.s (.bool false)))⟩,
 ⟨some 91, none, .pick (.t 72) (.c (.s (.bool true))) (.t 90)⟩]
def c28r16 : List AOper := [
 ⟨some 4, none, .mov (.c (.s (.int .i64 14)))⟩]
def c28r17 : List AOper := [
 ⟨some 24, none, .mov (.t 5)⟩,
 ⟨some 25, none, .arith .add (.t 24) (.c (.s (.int .i64 1)))⟩,
 ⟨some 5, none, .mov (.t 25)⟩]
def c28l18 : ACode := (.seq (.seq (.reg 0 c28r6) (.cond (.t 23) .skip (.exit 0))) (.seq (.block 1 (.seq (.reg 0 c28r7) (.seq (.reg 0 c28r8) (.seq (.seq (.reg 0 c28r9) (.block 2 (.loop c28l14m [] c28l14))) (.seq (.reg 0 c28r15) (.cond (.t 91) (.seq (.reg 0 c28r16) .ret) .skip)))))) (.reg 0 c28r17)))
def c28l18m : List Bool := [false, true, true, false, false, true, false, false, false, false, false, false, false, false, false, false, false, false, false, false, false, false, false, false, false, false, false, false, false, false, false, false, false, false, false, false, false, false, false, false, false, false, false, false, false, false, false, false, false, false, false, false, false, false, false, false, false, false, false, false, false, false, false, false, false, false, false, false, false, false, false, false, false, false, false, false, false, false, false, false, false, false, false, false, false, false, false, false, false, false, false, false]
def c28r19 : List AOper := [
 ⟨some 4, none, .mov (.c (.s (.int .i64 0)))⟩]
def f28 : FRow := ⟨(.seq (.reg 0 c28r0) (.seq (.seq (.reg 0 c28r1) (.cond (.t 11) (.seq (.reg 0 c28r2) .ret) .skip)) (.seq (.seq (.reg 0 c28r3) (.cond (.t 19) (.seq (.reg 0 c28r4) .ret) .skip)) (.seq (.seq (.reg 0 c28r5) (.block 0 (.loop c28l18m [] c28l18))) (.seq (.reg 0 c28r19) .ret))))), [.tmp 4], 92⟩
theorem okf28 : f28.Ok Try.prog 28 := ⟨_, _, Try.func28, rfl, by kernel_rfl, by kernel_rfl, by kernel_rfl⟩

/-! 29 pennyfall/skill.Way, 1 and 0 -/
def c29r0 : List AOper := [
 ⟨some 1, none, .boxS (.t 0)⟩,
 ⟨some 2, none, .mov (.c (.full []))⟩,
 ⟨some 3, none, .mov (.c (.s (.int .i64 0)))⟩]
def c29r1 : List AOper := [
 ⟨some 7, none, .load 3 true (.t 1)⟩,
 ⟨some 8, none, .call 58 [(.t 7), (.c (.full []))]⟩,
 ⟨some 6, none, .mov (.t 8)⟩,
 ⟨some 9, none, .ext (.t 6) 0⟩,
 ⟨some 10, none, .ext (.t 6) 1⟩,
 ⟨some 4, none, .mov (.t 9)⟩,
 ⟨some 5, none, .mov (.t 10)⟩]
def c29r2 : List AOper := [
 ⟨some 11, none, .mov (.t 5)⟩,
 ⟨some 12, none, .cmp .neq (.t 11) (.c (.s (.int .i64 0)))⟩]
def c29r3 : List AOper := [
 ⟨some 13, none, .mov (.t 5)⟩,
 ⟨some 2, none, .mov (.c (.full []))⟩,
 ⟨some 3, none, .mov (.t 13)⟩]
def c29r4 : List AOper := [
 ⟨some 14, none, .mov (.t 4)⟩,
 ⟨some 15, none, .call 70 [(.t 14), (.c (.s (.bool true)))]⟩,
 ⟨some 2, none, .mov (.t 15)⟩,
 ⟨some 3, none, .mov (.c (.s (.int .i64 0)))⟩]
def f29 : FRow := ⟨(.seq (.reg 0 c29r0) (.seq (.reg 0 c29r1) (.seq (.seq (.reg 0 c29r2) (.cond (.t 12) (.seq (.reg 0 c29r3) .ret) .skip)) (.seq (.reg 0 c29r4) .ret)))), [.tmp 2, .tmp 3], 16⟩
theorem okf29 : f29.Ok Try.prog 29 := ⟨_, _, Try.func29, rfl, by kernel_rfl, by kernel_rfl, by kernel_rfl⟩

/-! 30 pennyfall/pennyfallref03.Way, 1 and 0 -/
def c30r0 : List AOper := [
 ⟨some 1, none, .boxS (.t 0)⟩,
 ⟨some 2, none, .mov (.c (.full []))⟩,
 ⟨some 3, none, .mov (.c (.s (.int .i64 0)))⟩]
def c30r1 : List AOper := [
 ⟨some 4, none, .load 3 true (.t 1)⟩,
 ⟨some 5, none, .call 21 [(.t 4)]⟩,
 ⟨some 6, none, .cmp .neq (.t 5) (.c (.s (.int .i64 0)))⟩]
def c30r2 : List AOper := [
 ⟨some 7, none, .load 3 true (.t 1)⟩,
 ⟨some 8, none, .call 21 [(.t 7)]⟩,
 ⟨some 2, none, .mov (.c (.full []))⟩,
 ⟨some 3, none, .mov (.t 8)⟩]
def c30r3 : List AOper := [
 ⟨some 9, none, .load 3 true (.t 1)⟩,
 ⟨some 10, none, .call 71 [(.t 9)]⟩,
 ⟨some 2, none, .mov (.t 10)⟩,
 ⟨some 3, none, .mov (.c (.s (.int .i64 0)))⟩]
def f30 : FRow := ⟨(.seq (.reg 0 c30r0) (.seq (.seq (.reg 0 c30r1) (.cond (.t 6) (.seq (.reg 0 c30r2) .ret) .skip)) (.seq (.reg 0 c30r3) .ret))), [.tmp 2, .tmp 3], 11⟩
theorem okf30 : f30.Ok Try.prog 30 := ⟨_, _, Try.func30, rfl, by kernel_rfl, by kernel_rfl, by kernel_rfl⟩

/-! 31 pennyfall/skill.Answer, 1 and 0 -/
def c31r0 : List AOper := [
 ⟨some 1, none, .boxS (.t 0)⟩,
 ⟨some 2, none, .mov (.c (.full []))⟩,
 ⟨some 3, none, .mov (.c (.s (.int .i64 0)))⟩]
def c31r1 : List AOper := [
 ⟨some 7, none, .load 3 true (.t 1)⟩,
 ⟨some 8, none, .call 58 [(.t 7), (.c (.full []))]⟩,
 ⟨some 6, none, .mov (.t 8)⟩,
 ⟨some 9, none, .ext (.t 6) 0⟩,
 ⟨some 10, none, .ext (.t 6) 1⟩,
 ⟨some 4, none, .mov (.t 9)⟩,
 ⟨some 5, none, .mov (.t 10)⟩]
def c31r2 : List AOper := [
 ⟨some 11, none, .mov (.t 5)⟩,
 ⟨some 12, none, .cmp .neq (.t 11) (.c (.s (.int .i64 0)))⟩]
def c31r3 : List AOper := [
 ⟨some 13, none, .mov (.t 5)⟩,
 ⟨some 2, none, .mov (.c (.full []))⟩,
 ⟨some 3, none, .mov (.t 13)⟩]
def c31r4 : List AOper := [
 ⟨some 14, none, .mov (.t 4)⟩,
 ⟨some 15, none, .call 70 [(.t 14), (.c (.s (.bool false)))]⟩,
 ⟨some 2, none, .mov (.t 15)⟩,
 ⟨some 3, none, .mov (.c (.s (.int .i64 0)))⟩]
def f31 : FRow := ⟨(.seq (.reg 0 c31r0) (.seq (.reg 0 c31r1) (.seq (.seq (.reg 0 c31r2) (.cond (.t 12) (.seq (.reg 0 c31r3) .ret) .skip)) (.seq (.reg 0 c31r4) .ret)))), [.tmp 2, .tmp 3], 16⟩
theorem okf31 : f31.Ok Try.prog 31 := ⟨_, _, Try.func31, rfl, by kernel_rfl, by kernel_rfl, by kernel_rfl⟩

/-! 32 pennyfall/pennyfallref03.Answer, 1 and 0 -/
def c32r0 : List AOper := [
 ⟨some 1, none, .boxS (.t 0)⟩,
 ⟨some 2, none, .mov (.c (.full []))⟩,
 ⟨some 3, none, .mov (.c (.s (.int .i64 0)))⟩]
def c32r1 : List AOper := [
 ⟨some 4, none, .load 3 true (.t 1)⟩,
 ⟨some 5, none, .call 21 [(.t 4)]⟩,
 ⟨some 6, none, .cmp .neq (.t 5) (.c (.s (.int .i64 0)))⟩]
def c32r2 : List AOper := [
 ⟨some 7, none, .load 3 true (.t 1)⟩,
 ⟨some 8, none, .call 21 [(.t 7)]⟩,
 ⟨some 2, none, .mov (.c (.full []))⟩,
 ⟨some 3, none, .mov (.t 8)⟩]
def c32r3 : List AOper := [
 ⟨some 9, none, .load 3 true (.t 1)⟩,
 ⟨some 10, none, .call 72 [(.t 9)]⟩,
 ⟨some 2, none, .mov (.t 10)⟩,
 ⟨some 3, none, .mov (.c (.s (.int .i64 0)))⟩]
def f32 : FRow := ⟨(.seq (.reg 0 c32r0) (.seq (.seq (.reg 0 c32r1) (.cond (.t 6) (.seq (.reg 0 c32r2) .ret) .skip)) (.seq (.reg 0 c32r3) .ret))), [.tmp 2, .tmp 3], 11⟩
theorem okf32 : f32.Ok Try.prog 32 := ⟨_, _, Try.func32, rfl, by kernel_rfl, by kernel_rfl, by kernel_rfl⟩

/-! 33 pennyfall/skill.CheckWay, 3 and 0 -/
def c33r0 : List AOper := [
 ⟨some 3, none, .boxS (.t 0)⟩,
 ⟨some 6, none, .mov (.c (.s (.int .i64 0)))⟩]
def c33r1 : List AOper := [
 ⟨some 10, none, .load 3 true (.t 3)⟩,
 ⟨some 11, none, .call 20 [(.t 10)]⟩,
 ⟨some 7, none, .mov (.t 11)⟩]
def c33r2 : List AOper := [
 ⟨some 13, none, .mov (.t 7)⟩,
 ⟨some 14, none, .cmp .neq (.t 13) (.c (.s (.int .i64 0)))⟩,
 ⟨some 12, none, .mov (.t 14)⟩]
def c33r3 : List AOper := [
 ⟨some 15, none, .mov (.t 7)⟩,
 ⟨some 6, none, .mov (.t 15)⟩]
def c33r4 : List AOper := [
 ⟨some 17, none, .mov (.t 2)⟩,
 ⟨some 18, none, .len false (.t 17)⟩,
 ⟨some 19, none, .fieldAddr 1 (.t 3)⟩,
 ⟨some 20, none, .load 1 false (.t 19)⟩,
 ⟨some 21, none, .len false (.t 20)⟩,
 ⟨some 22, none, .cmp .neq (.t 18) (.t 21)⟩,
 ⟨some 16, none, .mov (.t 22)⟩]
def c33r5 : List AOper := [
 ⟨some 6, none, .mov (.c (.s (.int .i64 15)))⟩]
def c33r6 : List AOper := [
 ⟨some 23, none, .mov (.t 2)⟩,
 ⟨some 24, none, .len false (.t 23)⟩,
 ⟨some 25, none, .mov (.c (.s (.int .i64 0)))⟩]
def c33r7 : List AOper := [
 ⟨some 26, none, .cmp .lss (.t 25) (.t 24)⟩]
def c33r8 : List AOper := [
 ⟨some 27, none, .mov (.t 25)⟩,
 ⟨some 28, none, .idxA 1 (.t 23) (.t 25)⟩,
 ⟨some 29, none, .load 1 false (.t 28)⟩,
 ⟨some 8, none, .mov (.t 27)⟩,
 ⟨some 9, none, .mov (.t 29)⟩]
def c33r9 : List AOper := [
 ⟨some 30, none, .mov (.t 9)⟩,
 ⟨some 31, none, .cmp .neq (.t 30) (.c (.s (.int .i64 (-1))))⟩,
 ⟨some 32, none, .mov (.t 31)⟩,
 ⟨some 33, some (32, true), .fieldAddr 2 (.t 3)⟩,
 ⟨some 34, some (32, true), .load 1 false (.t 33)⟩,
 ⟨some 35, some (32, true), .mov (.t 8)⟩,
 ⟨some 36, some (32, true), .idxA 1 (.t 34) (.t 35)⟩,
 ⟨some 37, some (32, true), .load 1 false (.t 36)⟩,
 ⟨some 38, some (32, true), .mov (.t 37)⟩,
 ⟨some 39, some (38, false), .fieldAddr 0 (.t 3)⟩,
 ⟨some 40, some (38, false), .load 1 false (.t 39)⟩,
 ⟨some 41, some (38, false), .mov (.t 8)⟩,
 ⟨some 42, some (38, false), .idxA 1 (.t 40) (.t 41)⟩,
 ⟨some 43, some (38, false), .load 1 false (.t 42)⟩,
 ⟨some 44, some (38, false), .mov (.t 1)⟩,
 ⟨some 45, some (38, false), .eql false [.bool] true (.t 43) (.t 44)⟩,
 ⟨some 46, some (32, true), .pick (.t 38) (.c (.s (.bool true))) (.t 45)⟩,
 ⟨some 47, some (32, true), .mov (.t 46)⟩,
 ⟨some 48, some (47, false), .fieldAddr 1 (.t 3)⟩,
 ⟨some 49, some (47, false), .load 1 false (.t 48)⟩,
 ⟨some 50, some (47, false), .mov (.t 8)⟩,
 ⟨some 51, some (47, false), .idxA 1 (.t 49) (.t 50)⟩,
 ⟨some 52, some (47, false), .load 1 false (.t 51)⟩,
 ⟨some 53, some (47, false), .mov (.t 9)⟩,
 ⟨some 54, some (47, false), .call 69 [(.t 52), (.t 53)]⟩,
 ⟨some 55, some (47, false), .not (.t 54)⟩,
 ⟨some 56, some (32, true), .pick (.t 47) (.c (.s (.bool true))) (.t 55)⟩,
 ⟨some 57, none, .pick (.t 32) (.t 56) (.c (.s (.bool false)))⟩]
def c33r10 : List AOper := [
 ⟨some 6, none, .mov (.c (.s (.int .i64 16)))⟩]
def c33r11 : List AOper := [
 ⟨some 58, none, .arith .add (.t 25) (.c (.s (.int .i64 1)))⟩,
 ⟨some 25, none, .mov (.t 58)⟩]
def c33l12 : ACode := (.seq (.reg 0 c33r7) (.seq (.cond (.t 26) .skip (.exit 1)) (.seq (.block 2 (.seq (.reg 0 c33r8) (.seq (.reg 0 c33r9) (.cond (.t 57) (.seq (.reg 0 c33r10) .ret) .skip)))) (.reg 0 c33r11))))
def c33l12m : List Bool := [false, true, false, true, false, false, false, false, false, false, false, false, false, false, false, false, false, false, false, false, false, false, false, true, true, true, false, false, false, false, false, false, false, false, false, false, false, false, false, false, false, false, false, false, false, false, false, false, false, false, false, false, false, false, false, false, false, false, false]
def c33r13 : List AOper := [
 ⟨some 6, none, .mov (.c (.s (.int .i64 0)))⟩]
def f33 : FRow := ⟨(.seq (.reg 0 c33r0) (.seq (.reg 0 c33r1) (.seq (.block 0 (.seq (.reg 0 c33r2) (.cond (.t 12) (.seq (.reg 0 c33r3) .ret) (.seq (.reg 0 c33r4) (.cond (.t 16) (.seq (.reg 0 c33r5) .ret) .skip))))) (.seq (.seq (.reg 0 c33r6) (.block 1 (.loop c33l12m [] c33l12))) (.seq (.reg 0 c33r13) .ret))))), [.tmp 6], 59⟩
theorem okf33 : f33.Ok Try.prog 33 := ⟨_, _, Try.func33, rfl, by kernel_rfl, by kernel_rfl, by kernel_rfl⟩

/-! 34 pennyfall/pennyfallref03.CheckWay, 3 and 0 -/
def c34r0 : List AOper := [
 ⟨some 3, none, .boxS (.t 0)⟩,
 ⟨some 6, none, .mov (.c (.s (.int .i64 0)))⟩]
def c34r1 : List AOper := [
 ⟨some 9, none, .load 3 true (.t 3)⟩,
 ⟨some 10, none, .call 21 [(.t 9)]⟩,
 ⟨some 11, none, .cmp .neq (.t 10) (.c (.s (.int .i64 0)))⟩]
def c34r2 : List AOper := [
 ⟨some 12, none, .load 3 true (.t 3)⟩,
 ⟨some 13, none, .call 21 [(.t 12)]⟩,
 ⟨some 6, none, .mov (.t 13)⟩]
def c34r3 : List AOper := [
 ⟨some 14, none, .mov (.t 2)⟩,
 ⟨some 15, none, .len false (.t 14)⟩,
 ⟨some 16, none, .fieldAddr 1 (.t 3)⟩,
 ⟨some 17, none, .load 1 false (.t 16)⟩,
 ⟨some 18, none, .len false (.t 17)⟩,
 ⟨some 19, none, .cmp .neq (.t 15) (.t 18)⟩]
def c34r4 : List AOper := [
 ⟨some 6, none, .mov (.c (.s (.int .i64 15)))⟩]
def c34r5 : List AOper := [
 ⟨some 7, none, .mov (.c (.s (.int .i64 0)))⟩]
def c34r6 : List AOper := [
 ⟨some 20, none, .mov (.t 7)⟩,
 ⟨some 21, none, .mov (.t 2)⟩,
 ⟨some 22, none, .len false (.t 21)⟩,
 ⟨some 23, none, .cmp .lss (.t 20) (.t 22)⟩]
def c34r7 : List AOper := [
 ⟨some 26, none, .fieldAddr 0 (.t 3)⟩,
 ⟨some 27, none, .load 1 false (.t 26)⟩,
 ⟨some 28, none, .mov (.t 7)⟩,
 ⟨some 29, none, .idxA 1 (.t 27) (.t 28)⟩,
 ⟨some 30, none, .load 1 false (.t 29)⟩,
 ⟨some 31, none, .mov (.t 1)⟩,
 ⟨some 32, none, .eql false [.bool] false (.t 30) (.t 31)⟩,
 ⟨some 33, none, .mov (.t 32)⟩,
 ⟨some 34, some (33, true), .fieldAddr 2 (.t 3)⟩,
 ⟨some 35, some (33, true), .load 1 false (.t 34)⟩,
 ⟨some 36, some (33, true), .mov (.t 7)⟩,
 ⟨some 37, some (33, true), .idxA 1 (.t 35) (.t 36)⟩,
 ⟨some 38, some (33, true), .load 1 false (.t 37)⟩,
 ⟨some 39, some (33, true), .not (.t 38)⟩,
 ⟨some 40, none, .pick (.t 33) (.t 39) (.c (.s (.bool false)))⟩,
 ⟨some 8, none, .mov (.t 40)⟩]
def c34r8 : List AOper := [
 ⟨some 41, none, .mov (.t 2)⟩,
 ⟨some 42, none, .mov (.t 7)⟩,
 ⟨some 43, none, .idxA 1 (.t 41) (.t 42)⟩,
 ⟨some 44, none, .load 1 false (.t 43)⟩,
 ⟨some 45, none, .cmp .neq (.t 44) (.c (.s (.int .i64 (-1))))⟩,
 ⟨some 46, none, .mov (.t 45)⟩,
 ⟨some 47, some (46, true), .mov (.t 8)⟩,
 ⟨some 48, some (46, true), .not (.t 47)⟩,
 ⟨some 49, some (46, true), .mov (.t 48)⟩,
 ⟨some 50, some (49, false), .fieldAddr 1 (.t 3)⟩,
 ⟨some 51, some (49, false), .load 1 false (.t 50)⟩,
 ⟨some 52, some (49, false), .mov (.t 7)⟩,
 ⟨some 53, some (49, false), .idxA 1 (.t 51) (.t 52)⟩,
 ⟨some 54, some (49, false), .load 1 false (.t 53)⟩,
 ⟨some 55, some (49, false), .mov (.t 2)⟩,
 ⟨some 56, some (49, false), .mov (.t 7)⟩,
 ⟨some 57, some (49, false), .idxA 1 (.t 55) (.t 56)⟩,
 ⟨some 58, some (49, false), .load 1 false (.t 57)⟩,
 ⟨some 59, some (49, false), .call 49 [(.t 54), (.t 58)]⟩,
 ⟨some 60, some (49, false), .not (.t 59)⟩,
 ⟨some 61, some (46, true), .pick (.t 49) (.c (.s (.bool true))) (.t 60)⟩,
 ⟨some 62, none, .pick (.t 46) (.t 61) (.c (.s (.bool false)))⟩]
def c34r9 : List AOper := [
 ⟨some 6, none, .mov (.c (.s (.int .i64 16)))⟩]
def c34r10 : List AOper := [
 ⟨some 24, none, .mov (.t 7)⟩,
 ⟨some 25, none, .arith .add (.t 24) (.c (.s (.int .i64 1)))⟩,
 ⟨some 7, none, .mov (.t 25)⟩]
def c34l11 : ACode := (.seq (.seq (.reg 0 c34r6) (.cond (.t 23) .skip (.exit 0))) (.seq (.block 1 (.seq (.reg 0 c34r7) (.seq (.reg 0 c34r8) (.cond (.t 62) (.seq (.reg 0 c34r9) .ret) .skip)))) (.reg 0 c34r10)))
def c34l11m : List Bool := [false, true, true, true, false, false, false, true, false, false, false, false, false, false, false, false, false, false, false, false, false, false, false, false, false, false, false, false, false, false, false, false, false, false, false, false, false, false, false, false, false, false, false, false, false, false, false, false, false, false, false, false, false, false, false, false, false, false, false, false, false, false, false]
def c34r12 : List AOper := [
 ⟨some 6, none, .mov (.c (.s (.int .i64 0)))⟩]
def f34 : FRow := ⟨(.seq (.reg 0 c34r0) (.seq (.seq (.reg 0 c34r1) (.cond (.t 11) (.seq (.reg 0 c34r2) .ret) .skip)) (.seq (.seq (.reg 0 c34r3) (.cond (.t 19) (.seq (.reg 0 c34r4) .ret) .skip)) (.seq (.seq (.reg 0 c34r5) (.block 0 (.loop c34l11m [] c34l11))) (.seq (.reg 0 c34r12) .ret))))), [.tmp 6], 63⟩
theorem okf34 : f34.Ok Try.prog 34 := ⟨_, _, Try.func34, rfl, by kernel_rfl, by kernel_rfl, by kernel_rfl⟩

/-! 35 pennyfall/skill.Play, 4 and 0 -/
def c35r0 : List AOper := [
 ⟨some 4, none, .boxS (.t 0)⟩,
 ⟨some 8, none, .mov (.c (.full []))⟩,
 ⟨some 9, none, .mov (.c (.s (.bool false)))⟩,
 ⟨some 10, none, .mov (.c (.s (.int .i64 0)))⟩]
def c35r1 : List AOper := [
 ⟨some 17, none, .load 3 true (.t 4)⟩,
 ⟨some 18, none, .mov (.t 1)⟩,
 ⟨some 19, none, .call 33 [(.t 17), (.c (.s (.bool true))), (.t 18)]⟩,
 ⟨some 11, none, .mov (.t 19)⟩]
def c35r2 : List AOper := [
 ⟨some 20, none, .mov (.t 11)⟩,
 ⟨some 21, none, .cmp .neq (.t 20) (.c (.s (.int .i64 0)))⟩]
def c35r3 : List AOper := [
 ⟨some 22, none, .mov (.t 11)⟩,
 ⟨some 8, none, .mov (.c (.full []))⟩,
 ⟨some 9, none, .mov (.c (.s (.bool false)))⟩,
 ⟨some 10, none, .mov (.t 22)⟩]
def c35r4 : List AOper := [
 ⟨some 23, none, .load 3 true (.t 4)⟩,
 ⟨some 24, none, .mov (.t 2)⟩,
 ⟨some 25, none, .call 33 [(.t 23), (.c (.s (.bool false))), (.t 24)]⟩,
 ⟨some 12, none, .mov (.t 25)⟩]
def c35r5 : List AOper := [
 ⟨some 26, none, .mov (.t 12)⟩,
 ⟨some 27, none, .cmp .neq (.t 26) (.c (.s (.int .i64 0)))⟩]
def c35r6 : List AOper := [
 ⟨some 28, none, .mov (.t 12)⟩,
 ⟨some 8, none, .mov (.c (.full []))⟩,
 ⟨some 9, none, .mov (.c (.s (.bool false)))⟩,
 ⟨some 10, none, .mov (.t 28)⟩]
def c35r7 : List AOper := [
 ⟨some 30, none, .load 3 true (.t 4)⟩,
 ⟨some 31, none, .mov (.t 3)⟩,
 ⟨some 32, none, .buildSl 1 1 (.int .i64 0) [(0, (.t 31))]⟩,
 ⟨some 33, none, .call 58 [(.t 30), (.t 32)]⟩,
 ⟨some 29, none, .mov (.t 33)⟩,
 ⟨some 34, none, .ext (.t 29) 0⟩,
 ⟨some 35, none, .ext (.t 29) 1⟩,
 ⟨some 13, none, .mov (.t 34)⟩,
 ⟨some 14, none, .mov (.t 35)⟩]
def c35r8 : List AOper := [
 ⟨some 36, none, .mov (.t 14)⟩,
 ⟨some 37, none, .cmp .neq (.t 36) (.c (.s (.int .i64 0)))⟩]
def c35r9 : List AOper := [
 ⟨some 38, none, .mov (.t 14)⟩,
 ⟨some 8, none, .mov (.c (.full []))⟩,
 ⟨some 9, none, .mov (.c (.s (.bool false)))⟩,
 ⟨some 10, none, .mov (.t 38)⟩]
def c35r10 : List AOper := [
 ⟨some 15, none, .mov (.c (.full []))⟩]
def c35r11 : List AOper := [
 ⟨some 39, none, .mov (.t 3)⟩,
 ⟨some 16, none, .mov (.t 39)⟩]
def c35r12 : List AOper := [
 ⟨some 40, none, .mov (.t 16)⟩,
 ⟨some 41, none, .cmp .neq (.t 40) (.c (.s (.int .i64 (-1))))⟩,
 ⟨some 42, none, .mov (.t 41)⟩,
 ⟨some 43, some (42, true), .mov (.t 15)⟩,
 ⟨some 44, some (42, true), .mov (.t 16)⟩,
 ⟨some 45, some (42, true), .call 69 [(.t 43), (.t 44)]⟩,
 ⟨some 46, some (42, true), .not (.t 45)⟩,
 ⟨some 47, none, .pick (.t 42) (.t 46) (.c (.s (.bool false)))⟩]
def c35r13 : List AOper := [
 ⟨some 48, none, .mov (.t 15)⟩,
 ⟨some 49, none, .mov (.t 16)⟩,
 ⟨some 50, none, .buildSl 1 1 (.int .i64 0) [(0, (.t 49))]⟩,
 ⟨some 51, none, .append 1 8 (.t 48) (.t 50)⟩,
 ⟨some 15, none, .mov (.t 51)⟩]
def c35r14 : List AOper := [
 ⟨some 52, none, .fieldAddr 0 (.t 4)⟩,
 ⟨some 53, none, .load 1 false (.t 52)⟩,
 ⟨some 54, none, .mov (.t 16)⟩,
 ⟨some 55, none, .idxA 1 (.t 53) (.t 54)⟩,
 ⟨some 56, none, .load 1 false (.t 55)⟩]
def c35r15 : List AOper := [
 ⟨some 57, none, .mov (.t 1)⟩,
 ⟨some 58, none, .mov (.t 16)⟩,
 ⟨some 59, none, .idxA 1 (.t 57) (.t 58)⟩,
 ⟨some 60, none, .load 1 false (.t 59)⟩,
 ⟨some 16, none, .mov (.t 60)⟩]
def c35r16 : List AOper := [
 ⟨some 61, none, .mov (.t 2)⟩,
 ⟨some 62, none, .mov (.t 16)⟩,
 ⟨some 63, none, .idxA 1 (.t 61) (.t 62)⟩,
 ⟨some 64, none, .load 1 false (.t 63)⟩,
 ⟨some 16, none, .mov (.t 64)⟩]
def c35l17 : ACode := (.seq (.seq (.reg 0 c35r12) (.cond (.t 47) .skip (.exit 0))) (.block 1 (.seq (.reg 1 c35r13) (.seq (.reg 0 c35r14) (.cond (.t 56) (.reg 0 c35r15) (.reg 0 c35r16))))))
def c35l17m : List Bool := [false, true, true, false, true, false, false, false, false, false, false, false, false, false, false, true, true, false, false, false, false, false, false, false, false, false, false, false, false, false, false, false, false, false, false, false, false, false, false, false, false, false, false, false, false, false, false, false, false, false, false, false, false, false, false, false, false, false, false, false, false, false, false, false, false, false, false, false, false, false, false, false, false, false, false, false]
def c35r18 : List AOper := [
 ⟨some 65, none, .mov (.t 15)⟩,
 ⟨some 66, none, .fieldAddr 2 (.t 4)⟩,
 ⟨some 67, none, .load 1 false (.t 66)⟩,
 ⟨some 68, none, .mov (.t 15)⟩,
 ⟨some 69, none, .mov (.t 15)⟩,
 ⟨some 70, none, .len false (.t 69)⟩,
 ⟨some 71, none, .arith .sub (.t 70) (.c (.s (.int .i64 1)))⟩,
 ⟨some 72, none, .idxA 1 (.t 68) (.t 71)⟩,
 ⟨some 73, none, .load 1 false (.t 72)⟩,
 ⟨some 74, none, .idxA 1 (.t 67) (.t 73)⟩,
 ⟨some 75, none, .load 1 false (.t 74)⟩,
 ⟨some 8, none, .mov (.t 65)⟩,
 ⟨some 9, none, .mov (.t 75)⟩,
 ⟨some 10, none, .mov (.c (.s (.int .i64 0)))⟩]
def f35 : FRow := ⟨(.seq (.reg 0 c35r0) (.seq (.seq (.reg 0 c35r1) (.seq (.reg 0 c35r2) (.cond (.t 21) (.seq (.reg 0 c35r3) .ret) .skip))) (.seq (.seq (.reg 0 c35r4) (.seq (.reg 0 c35r5) (.cond (.t 27) (.seq (.reg 0 c35r6) .ret) .skip))) (.seq (.seq (.reg 0 c35r7) (.seq (.reg 0 c35r8) (.cond (.t 37) (.seq (.reg 0 c35r9) .ret) .skip))) (.seq (.reg 0 c35r10) (.seq (.reg 0 c35r11) (.seq (.block 0 (.loop c35l17m [(15, none, 0)] c35l17)) (.seq (.reg 0 c35r18) .ret)))))))), [.tmp 8, .tmp 9, .tmp 10], 76⟩
theorem okf35 : f35.Ok Try.prog 35 := ⟨_, _, Try.func35, rfl, by kernel_rfl, by kernel_rfl, by kernel_rfl⟩

/-! 36 pennyfall/pennyfallref03.Play, 4 and 0 -/
def c36r0 : List AOper := [
 ⟨some 4, none, .boxS (.t 0)⟩,
 ⟨some 8, none, .mov (.c (.full []))⟩,
 ⟨some 9, none, .mov (.c (.s (.bool false)))⟩,
 ⟨some 10, none, .mov (.c (.s (.int .i64 0)))⟩]
def c36r1 : List AOper := [
 ⟨some 13, none, .load 3 true (.t 4)⟩,
 ⟨some 14, none, .mov (.t 1)⟩,
 ⟨some 15, none, .call 34 [(.t 13), (.c (.s (.bool true))), (.t 14)]⟩,
 ⟨some 16, none, .cmp .neq (.t 15) (.c (.s (.int .i64 0)))⟩]
def c36r2 : List AOper := [
 ⟨some 17, none, .load 3 true (.t 4)⟩,
 ⟨some 18, none, .mov (.t 1)⟩,
 ⟨some 19, none, .call 34 [(.t 17), (.c (.s (.bool true))), (.t 18)]⟩,
 ⟨some 8, none, .mov (.c (.full []))⟩,
 ⟨some 9, none, .mov (.c (.s (.bool false)))⟩,
 ⟨some 10, none, .mov (.t 19)⟩]
def c36r3 : List AOper := [
 ⟨some 20, none, .load 3 true (.t 4)⟩,
 ⟨some 21, none, .mov (.t 2)⟩,
 ⟨some 22, none, .call 34 [(.t 20), (.c (.s (.bool false))), (.t 21)]⟩,
 ⟨some 23, none, .cmp .neq (.t 22) (.c (.s (.int .i64 0)))⟩]
def c36r4 : List AOper := [
 ⟨some 24, none, .load 3 true (.t 4)⟩,
 ⟨some 25, none, .mov (.t 2)⟩,
 ⟨some 26, none, .call 34 [(.t 24), (.c (.s (.bool false))), (.t 25)]⟩,
 ⟨some 8, none, .mov (.c (.full []))⟩,
 ⟨some 9, none, .mov (.c (.s (.bool false)))⟩,
 ⟨some 10, none, .mov (.t 26)⟩]
def c36r5 : List AOper := [
 ⟨some 27, none, .mov (.t 3)⟩,
 ⟨some 28, none, .cmp .lss (.t 27) (.c (.s (.int .i64 0)))⟩,
 ⟨some 29, none, .mov (.t 28)⟩,
 ⟨some 30, some (29, false), .mov (.t 3)⟩,
 ⟨some 31, some (29, false), .fieldAddr 1 (.t 4)⟩,
 ⟨some 32, some (29, false), .load 1 false (.t 31)⟩,
 ⟨some 33, some (29, false), .len false (.t 32)⟩,
 ⟨some 34, some (29, false), .cmp .geq (.t 30) (.t 33)⟩,
 ⟨some 35, none, .pick (.t 29) (.c (.s (.bool true))) (.t 34)⟩]
def c36r6 : List AOper := [
 ⟨some 8, none, .mov (.c (.full []))⟩,
 ⟨some 9, none, .mov (.c (.s (.bool false)))⟩,
 ⟨some 10, none, .mov (.c (.s (.int .i64 2)))⟩]
def c36r7 : List AOper := [
 ⟨some 11, none, .mov (.c (.full []))⟩]
def c36r8 : List AOper := [
 ⟨some 36, none, .mov (.t 3)⟩,
 ⟨some 12, none, .mov (.t 36)⟩]
def c36r9 : List AOper := [
 ⟨some 37, none, .mov (.t 12)⟩,
 ⟨some 38, none, .cmp .geq (.t 37) (.c (.s (.int .i64 0)))⟩,
 ⟨some 39, none, .mov (.t 38)⟩,
 ⟨some 40, some (39, true), .mov (.t 11)⟩,
 ⟨some 41, some (39, true), .mov (.t 12)⟩,
 ⟨some 42, some (39, true), .call 49 [(.t 40), (.t 41)]⟩,
 ⟨some 43, some (39, true), .not (.t 42)⟩,
 ⟨some 44, none, .pick (.t 39) (.t 43) (.c (.s (.bool false)))⟩]
def c36r10 : List AOper := [
 ⟨some 45, none, .mov (.t 11)⟩,
 ⟨some 46, none, .mov (.t 12)⟩,
 ⟨some 47, none, .buildSl 1 1 (.int .i64 0) [(0, (.t 46))]⟩,
 ⟨some 48, none, .append 1 8 (.t 45) (.t 47)⟩,
 ⟨some 11, none, .mov (.t 48)⟩]
def c36r11 : List AOper := [
 ⟨some 49, none, .mov (.t 1)⟩,
 ⟨some 50, none, .mov (.t 12)⟩,
 ⟨some 51, none, .idxA 1 (.t 49) (.t 50)⟩,
 ⟨some 52, none, .load 1 false (.t 51)⟩,
 ⟨some 53, none, .mov (.t 2)⟩,
 ⟨some 54, none, .mov (.t 12)⟩,
 ⟨some 55, none, .idxA 1 (.t 53) (.t 54)⟩,
 ⟨some 56, none, .load 1 false (.t 55)⟩,
 ⟨some 57, none, .max [(.t 52), (.t 56)]⟩,
 ⟨some 12, none, .mov (.t 57)⟩]
def c36l12 : ACode := (.seq (.seq (.reg 0 c36r9) (.cond (.t 44) .skip (.exit 0))) (.block 1 (.seq (.reg 1 c36r10) (.reg 0 c36r11))))
def c36l12m : List Bool := [false, true, true, false, true, false, false, false, false, false, false, true, true, false, false, false, false, false, false, false, false, false, false, false, false, false, false, false, false, false, false, false, false, false, false, false, false, false, false, false, false, false, false, false, false, false, false, false, false, false, false, false, false, false, false, false, false, false, false, false, false, false, false, false, false, false, false, false, false]
def c36r13 : List AOper := [
 ⟨some 58, none, .mov (.t 11)⟩,
 ⟨some 59, none, .fieldAddr 2 (.t 4)⟩,
 ⟨some 60, none, .load 1 false (.t 59)⟩,
 ⟨some 61, none, .mov (.t 11)⟩,
 ⟨some 62, none, .mov (.t 11)⟩,
 ⟨some 63, none, .len false (.t 62)⟩,
 ⟨some 64, none, .arith .sub (.t 63) (.c (.s (.int .i64 1)))⟩,
 ⟨some 65, none, .idxA 1 (.t 61) (.t 64)⟩,
 ⟨some 66, none, .load 1 false (.t 65)⟩,
 ⟨some 67, none, .idxA 1 (.t 60) (.t 66)⟩,
 ⟨some 68, none, .load 1 false (.t 67)⟩,
 ⟨some 8, none, .mov (.t 58)⟩,
 ⟨some 9, none, .mov (.t 68)⟩,
 ⟨some 10, none, .mov (.c (.s (.int .i64 0)))⟩]
def f36 : FRow := ⟨(.seq (.reg 0 c36r0) (.seq (.seq (.reg 0 c36r1) (.cond (.t 16) (.seq (.reg 0 c36r2) .ret) .skip)) (.seq (.seq (.reg 0 c36r3) (.cond (.t 23) (.seq (.reg 0 c36r4) .ret) .skip)) (.seq (.seq (.reg 0 c36r5) (.cond (.t 35) (.seq (.reg 0 c36r6) .ret) .skip)) (.seq (.reg 0 c36r7) (.seq (.reg 0 c36r8) (.seq (.block 0 (.loop c36l12m [(11, none, 0)] c36l12)) (.seq (.reg 0 c36r13) .ret)))))))), [.tmp 8, .tmp 9, .tmp 10], 69⟩
theorem okf36 : f36.Ok Try.prog 36 := ⟨_, _, Try.func36, rfl, by kernel_rfl, by kernel_rfl, by kernel_rfl⟩

/-! 37 pennyfall/skill.Beats, 3 and 0 -/
def c37r0 : List AOper := [
 ⟨some 3, none, .boxS (.t 0)⟩,
 ⟨some 6, none, .mov (.c (.s (.bool false)))⟩,
 ⟨some 7, none, .mov (.c (.s (.int .i64 0)))⟩]
def c37r1 : List AOper := [
 ⟨some 14, none, .loadO 3 true (.t 3)⟩,
 ⟨some 15, none, .mov (.t 1)⟩,
 ⟨some 16, none, .call 33 [(.t 14), (.c (.s (.bool true))), (.t 15)]⟩,
 ⟨some 8, none, .mov (.t 16)⟩]
def c37r2 : List AOper := [
 ⟨some 17, none, .mov (.t 8)⟩,
 ⟨some 18, none, .cmp .neq (.t 17) (.c (.s (.int .i64 0)))⟩]
def c37r3 : List AOper := [
 ⟨some 19, none, .mov (.t 8)⟩,
 ⟨some 6, none, .mov (.c (.s (.bool false)))⟩,
 ⟨some 7, none, .mov (.t 19)⟩]
def c37r4 : List AOper := [
 ⟨some 20, none, .fieldAddr 0 (.t 3)⟩,
 ⟨some 21, none, .loadO 1 false (.t 20)⟩,
 ⟨some 22, none, .fieldAddr 2 (.t 3)⟩,
 ⟨some 23, none, .loadO 1 false (.t 22)⟩,
 ⟨some 24, none, .fieldAddr 1 (.t 3)⟩,
 ⟨some 25, none, .loadO 1 false (.t 24)⟩,
 ⟨some 26, none, .callN 1 73 [(.t 25)]⟩,
 ⟨some 27, none, .build [(.full []), (.full []), (.full [])] [(0, 1, (.t 21)), (2, 1, (.t 23)), (1, 1, (.t 26))]⟩,
 ⟨some 9, none, .alloc [(.full []), (.full []), (.full [])]⟩,
 ⟨none, none, .store 3 (.t 9) (.t 27)⟩]
def c37r5 : List AOper := [
 ⟨some 28, none, .mov (.t 1)⟩,
 ⟨some 29, none, .len false (.t 28)⟩,
 ⟨some 30, none, .mov (.c (.s (.int .i64 0)))⟩]
def c37r6 : List AOper := [
 ⟨some 31, none, .cmp .lss (.t 30) (.t 29)⟩]
def c37r7 : List AOper := [
 ⟨some 32, none, .mov (.t 30)⟩,
 ⟨some 33, none, .idxA 1 (.t 28) (.t 30)⟩,
 ⟨some 34, none, .load 1 false (.t 33)⟩,
 ⟨some 11, none, .alloc [(.s (.int .i64 0))]⟩,
 ⟨some 10, none, .mov (.t 32)⟩,
 ⟨none, none, .store 1 (.t 11) (.t 34)⟩]
def c37r8 : List AOper := [
 ⟨some 35, none, .fieldAddr 0 (.t 3)⟩,
 ⟨some 36, none, .loadO 1 false (.t 35)⟩,
 ⟨some 37, none, .mov (.t 10)⟩,
 ⟨some 38, none, .idxA 1 (.t 36) (.t 37)⟩,
 ⟨some 39, none, .load 1 false (.t 38)⟩]
def c37r9 : List AOper := [
 ⟨some 40, none, .fieldAddr 1 (.t 9)⟩,
 ⟨some 41, none, .loadO 1 false (.t 40)⟩,
 ⟨some 42, none, .mov (.t 10)⟩,
 ⟨some 43, none, .fieldAddr 1 (.t 3)⟩,
 ⟨some 44, none, .loadO 1 false (.t 43)⟩,
 ⟨some 45, none, .mov (.t 10)⟩,
 ⟨some 46, none, .idxA 1 (.t 44) (.t 45)⟩,
 ⟨some 47, none, .load 1 false (.t 46)⟩,
 ⟨some 48, none, .callN 1 75 [(.t 47)]⟩,
 ⟨some 49, none, .mkfn 76 [] [(.t 11)]⟩,
 ⟨some 50, none, .callF 74 (.t 48) [(.t 49)]⟩,
 ⟨some 51, none, .idxA 1 (.t 41) (.t 42)⟩,
 ⟨none, none, .storeR 1 (.t 51) (.t 50)⟩]
def c37r10 : List AOper := [
 ⟨some 52, none, .arith .add (.t 30) (.c (.s (.int .i64 1)))⟩,
 ⟨some 30, none, .mov (.t 52)⟩]
def c37l11 : ACode := (.seq (.reg 0 c37r6) (.seq (.cond (.t 31) .skip (.exit 0)) (.seq (.block 1 (.seq (.reg 1 c37r7) (.seq (.reg 0 c37r8) (.cond (.t 39) (.reg 1 c37r9) .skip)))) (.reg 0 c37r10))))
def c37l11m : List Bool := [false, false, true, true, false, false, false, false, false, true, false, false, false, false, false, false, false, false, false, false, false, false, false, false, false, false, false, false, true, true, true, false, false, false, false, false, false, false, false, false, false, false, false, false, false, false, false, false, false, false, false, false, false, false, false, false, false, false, false, false, false, false, false, false, false, false, false, false, false, false]
def c37r12 : List AOper := [
 ⟨some 54, none, .loadO 3 true (.t 9)⟩,
 ⟨some 55, none, .mov (.t 2)⟩,
 ⟨some 56, none, .buildSl 1 1 (.int .i64 0) [(0, (.t 55))]⟩,
 ⟨some 57, none, .call 58 [(.t 54), (.t 56)]⟩,
 ⟨some 53, none, .mov (.t 57)⟩,
 ⟨some 58, none, .ext (.t 53) 0⟩,
 ⟨some 59, none, .ext (.t 53) 1⟩,
 ⟨some 12, none, .mov (.t 58)⟩,
 ⟨some 13, none, .mov (.t 59)⟩]
def c37r13 : List AOper := [
 ⟨some 60, none, .mov (.t 13)⟩,
 ⟨some 61, none, .cmp .neq (.t 60) (.c (.s (.int .i64 0)))⟩]
def c37r14 : List AOper := [
 ⟨some 62, none, .mov (.t 13)⟩,
 ⟨some 6, none, .mov (.c (.s (.bool false)))⟩,
 ⟨some 7, none, .mov (.t 62)⟩]
def c37r15 : List AOper := [
 ⟨some 63, none, .mov (.t 12)⟩,
 ⟨some 64, none, .mov (.t 2)⟩,
 ⟨some 65, none, .nilck (.t 63)⟩,
 ⟨some 66, none, .fieldAddr 3 (.t 65)⟩,
 ⟨some 67, none, .idxArrA 14 1 (.t 66) (.t 64)⟩,
 ⟨some 68, none, .loadO 1 false (.t 67)⟩,
 ⟨some 69, none, .cmp .geq (.t 68) (.c (.s (.int .i64 0)))⟩,
 ⟨some 6, none, .mov (.t 69)⟩,
 ⟨some 7, none, .mov (.c (.s (.int .i64 0)))⟩]
def f37 : FRow := ⟨(.seq (.reg 0 c37r0) (.seq (.seq (.reg 0 c37r1) (.seq (.reg 0 c37r2) (.cond (.t 18) (.seq (.reg 0 c37r3) .ret) .skip))) (.seq (.reg 2 c37r4) (.seq (.seq (.reg 0 c37r5) (.block 0 (.loop c37l11m [] c37l11))) (.seq (.zap 9 1 (.reg 0 c37r12)) (.seq (.seq (.reg 0 c37r13) (.cond (.t 61) (.seq (.reg 0 c37r14) .ret) .skip)) (.seq (.reg 0 c37r15) .ret))))))), [.tmp 6, .tmp 7], 70⟩
theorem okf37 : f37.Ok Try.prog 37 := ⟨_, _, Try.func37, rfl, by kernel_rfl, by kernel_rfl, by kernel_rfl⟩

/-! 38 pennyfall/pennyfallref03.Beats, 3 and 0 -/
def c38r0 : List AOper := [
 ⟨some 3, none, .boxS (.t 0)⟩,
 ⟨some 6, none, .mov (.c (.s (.bool false)))⟩,
 ⟨some 7, none, .mov (.c (.s (.int .i64 0)))⟩]
def c38r1 : List AOper := [
 ⟨some 8, none, .load 3 true (.t 3)⟩,
 ⟨some 9, none, .mov (.t 1)⟩,
 ⟨some 10, none, .call 34 [(.t 8), (.c (.s (.bool true))), (.t 9)]⟩,
 ⟨some 11, none, .cmp .neq (.t 10) (.c (.s (.int .i64 0)))⟩]
def c38r2 : List AOper := [
 ⟨some 12, none, .load 3 true (.t 3)⟩,
 ⟨some 13, none, .mov (.t 1)⟩,
 ⟨some 14, none, .call 34 [(.t 12), (.c (.s (.bool true))), (.t 13)]⟩,
 ⟨some 6, none, .mov (.c (.s (.bool false)))⟩,
 ⟨some 7, none, .mov (.t 14)⟩]
def c38r3 : List AOper := [
 ⟨some 15, none, .mov (.t 2)⟩,
 ⟨some 16, none, .cmp .lss (.t 15) (.c (.s (.int .i64 0)))⟩,
 ⟨some 17, none, .mov (.t 16)⟩,
 ⟨some 18, some (17, false), .mov (.t 2)⟩,
 ⟨some 19, some (17, false), .fieldAddr 1 (.t 3)⟩,
 ⟨some 20, some (17, false), .load 1 false (.t 19)⟩,
 ⟨some 21, some (17, false), .len false (.t 20)⟩,
 ⟨some 22, some (17, false), .cmp .geq (.t 18) (.t 21)⟩,
 ⟨some 23, none, .pick (.t 17) (.c (.s (.bool true))) (.t 22)⟩]
def c38r4 : List AOper := [
 ⟨some 6, none, .mov (.c (.s (.bool false)))⟩,
 ⟨some 7, none, .mov (.c (.s (.int .i64 2)))⟩]
def c38r5 : List AOper := [
 ⟨some 24, none, .load 3 true (.t 3)⟩,
 ⟨some 25, none, .mov (.t 1)⟩,
 ⟨some 26, none, .call 77 [(.t 24), (.t 25)]⟩,
 ⟨some 27, none, .call 59 [(.t 26)]⟩,
 ⟨some 28, none, .mov (.t 2)⟩,
 ⟨some 29, none, .idxA 1 (.t 27) (.t 28)⟩,
 ⟨some 30, none, .load 1 false (.t 29)⟩,
 ⟨some 31, none, .cmp .geq (.t 30) (.c (.s (.int .i64 0)))⟩,
 ⟨some 6, none, .mov (.t 31)⟩,
 ⟨some 7, none, .mov (.c (.s (.int .i64 0)))⟩]
def f38 : FRow := ⟨(.seq (.reg 0 c38r0) (.seq (.seq (.reg 0 c38r1) (.cond (.t 11) (.seq (.reg 0 c38r2) .ret) .skip)) (.seq (.seq (.reg 0 c38r3) (.cond (.t 23) (.seq (.reg 0 c38r4) .ret) .skip)) (.seq (.reg 0 c38r5) .ret)))), [.tmp 6, .tmp 7], 32⟩
theorem okf38 : f38.Ok Try.prog 38 := ⟨_, _, Try.func38, rfl, by kernel_rfl, by kernel_rfl, by kernel_rfl⟩

/-! 39 pennyfall/skill.Sure, 2 and 0 -/
def c39r0 : List AOper := [
 ⟨some 2, none, .boxS (.t 0)⟩,
 ⟨some 4, none, .mov (.c (.s (.int .i64 0)))⟩,
 ⟨some 5, none, .mov (.c (.s (.int .i64 0)))⟩]
def c39r1 : List AOper := [
 ⟨some 9, none, .load 3 true (.t 2)⟩,
 ⟨some 10, none, .mov (.t 1)⟩,
 ⟨some 11, none, .buildSl 1 1 (.int .i64 0) [(0, (.t 10))]⟩,
 ⟨some 12, none, .call 58 [(.t 9), (.t 11)]⟩,
 ⟨some 8, none, .mov (.t 12)⟩,
 ⟨some 13, none, .ext (.t 8) 0⟩,
 ⟨some 14, none, .ext (.t 8) 1⟩,
 ⟨some 6, none, .mov (.t 13)⟩,
 ⟨some 7, none, .mov (.t 14)⟩]
def c39r2 : List AOper := [
 ⟨some 16, none, .mov (.t 7)⟩,
 ⟨some 17, none, .cmp .neq (.t 16) (.c (.s (.int .i64 0)))⟩,
 ⟨some 15, none, .mov (.t 17)⟩]
def c39r3 : List AOper := [
 ⟨some 18, none, .mov (.t 7)⟩,
 ⟨some 4, none, .mov (.c (.s (.int .i64 0)))⟩,
 ⟨some 5, none, .mov (.t 18)⟩]
def c39r4 : List AOper := [
 ⟨some 20, none, .mov (.t 6)⟩,
 ⟨some 21, none, .mov (.t 1)⟩,
 ⟨some 22, none, .nilck (.t 20)⟩,
 ⟨some 23, none, .fieldAddr 3 (.t 22)⟩,
 ⟨some 24, none, .idxArrA 14 1 (.t 23) (.t 21)⟩,
 ⟨some 25, none, .load 1 false (.t 24)⟩,
 ⟨some 26, none, .cmp .lss (.t 25) (.c (.s (.int .i64 0)))⟩,
 ⟨some 19, none, .mov (.t 26)⟩]
def c39r5 : List AOper := [
 ⟨some 4, none, .mov (.c (.s (.int .i64 0)))⟩,
 ⟨some 5, none, .mov (.c (.s (.int .i64 19)))⟩]
def c39r6 : List AOper := [
 ⟨some 27, none, .mov (.t 6)⟩,
 ⟨some 28, none, .mov (.t 1)⟩,
 ⟨some 29, none, .nilck (.t 27)⟩,
 ⟨some 30, none, .fieldAddr 3 (.t 29)⟩,
 ⟨some 31, none, .idxArrA 14 1 (.t 30) (.t 28)⟩,
 ⟨some 32, none, .load 1 false (.t 31)⟩,
 ⟨some 4, none, .mov (.t 32)⟩,
 ⟨some 5, none, .mov (.c (.s (.int .i64 0)))⟩]
def f39 : FRow := ⟨(.seq (.reg 0 c39r0) (.seq (.reg 0 c39r1) (.seq (.block 0 (.seq (.reg 0 c39r2) (.cond (.t 15) (.seq (.reg 0 c39r3) .ret) (.seq (.reg 0 c39r4) (.cond (.t 19) (.seq (.reg 0 c39r5) .ret) .skip))))) (.seq (.reg 0 c39r6) .ret)))), [.tmp 4, .tmp 5], 33⟩
theorem okf39 : f39.Ok Try.prog 39 := ⟨_, _, Try.func39, rfl, by kernel_rfl, by kernel_rfl, by kernel_rfl⟩

/-! 40 pennyfall/pennyfallref03.Sure, 2 and 0 -/
def c40r0 : List AOper := [
 ⟨some 2, none, .boxS (.t 0)⟩,
 ⟨some 4, none, .mov (.c (.s (.int .i64 0)))⟩,
 ⟨some 5, none, .mov (.c (.s (.int .i64 0)))⟩]
def c40r1 : List AOper := [
 ⟨some 7, none, .load 3 true (.t 2)⟩,
 ⟨some 8, none, .call 21 [(.t 7)]⟩,
 ⟨some 9, none, .cmp .neq (.t 8) (.c (.s (.int .i64 0)))⟩]
def c40r2 : List AOper := [
 ⟨some 10, none, .load 3 true (.t 2)⟩,
 ⟨some 11, none, .call 21 [(.t 10)]⟩,
 ⟨some 4, none, .mov (.c (.s (.int .i64 0)))⟩,
 ⟨some 5, none, .mov (.t 11)⟩]
def c40r3 : List AOper := [
 ⟨some 12, none, .mov (.t 1)⟩,
 ⟨some 13, none, .cmp .lss (.t 12) (.c (.s (.int .i64 0)))⟩,
 ⟨some 14, none, .mov (.t 13)⟩,
 ⟨some 15, some (14, false), .mov (.t 1)⟩,
 ⟨some 16, some (14, false), .fieldAddr 1 (.t 2)⟩,
 ⟨some 17, some (14, false), .load 1 false (.t 16)⟩,
 ⟨some 18, some (14, false), .len false (.t 17)⟩,
 ⟨some 19, some (14, false), .cmp .geq (.t 15) (.t 18)⟩,
 ⟨some 20, none, .pick (.t 14) (.c (.s (.bool true))) (.t 19)⟩]
def c40r4 : List AOper := [
 ⟨some 4, none, .mov (.c (.s (.int .i64 0)))⟩,
 ⟨some 5, none, .mov (.c (.s (.int .i64 2)))⟩]
def c40r5 : List AOper := [
 ⟨some 21, none, .load 3 true (.t 2)⟩,
 ⟨some 22, none, .call 59 [(.t 21)]⟩,
 ⟨some 23, none, .mov (.t 1)⟩,
 ⟨some 24, none, .idxA 1 (.t 22) (.t 23)⟩,
 ⟨some 25, none, .load 1 false (.t 24)⟩,
 ⟨some 6, none, .mov (.t 25)⟩]
def c40r6 : List AOper := [
 ⟨some 26, none, .mov (.t 6)⟩,
 ⟨some 27, none, .cmp .lss (.t 26) (.c (.s (.int .i64 0)))⟩]
def c40r7 : List AOper := [
 ⟨some 4, none, .mov (.c (.s (.int .i64 0)))⟩,
 ⟨some 5, none, .mov (.c (.s (.int .i64 19)))⟩]
def c40r8 : List AOper := [
 ⟨some 28, none, .mov (.t 6)⟩,
 ⟨some 4, none, .mov (.t 28)⟩,
 ⟨some 5, none, .mov (.c (.s (.int .i64 0)))⟩]
def f40 : FRow := ⟨(.seq (.reg 0 c40r0) (.seq (.seq (.reg 0 c40r1) (.cond (.t 9) (.seq (.reg 0 c40r2) .ret) .skip)) (.seq (.seq (.reg 0 c40r3) (.cond (.t 20) (.seq (.reg 0 c40r4) .ret) .skip)) (.seq (.reg 0 c40r5) (.seq (.seq (.reg 0 c40r6) (.cond (.t 27) (.seq (.reg 0 c40r7) .ret) .skip)) (.seq (.reg 0 c40r8) .ret)))))), [.tmp 4, .tmp 5], 29⟩
theorem okf40 : f40.Ok Try.prog 40 := ⟨_, _, Try.func40, rfl, by kernel_rfl, by kernel_rfl, by kernel_rfl⟩

/-! 41 pennyfall/pennyfalllaw03.wide, 1 and 0 -/
def c41r0 : List AOper := [
 ⟨some 1, none, .boxS (.t 0)⟩,
 ⟨some 2, none, .mov (.c (.s (.bool false)))⟩]
def c41r1 : List AOper := [
 ⟨some 3, none, .load 3 true (.t 1)⟩,
 ⟨some 4, none, .call 16 [(.t 3)]⟩,
 ⟨some 5, none, .mov (.t 4)⟩,
 ⟨some 6, some (5, false), .fieldAddr 1 (.t 1)⟩,
 ⟨some 7, some (5, false), .load 1 false (.t 6)⟩,
 ⟨some 8, some (5, false), .len false (.t 7)⟩,
 ⟨some 9, some (5, false), .cmp .gtr (.t 8) (.c (.s (.int .i64 11)))⟩,
 ⟨some 10, some (5, false), .mov (.t 9)⟩,
 ⟨some 11, some (10, true), .load 3 true (.t 1)⟩,
 ⟨some 12, some (10, true), .call 21 [(.t 11)]⟩,
 ⟨some 13, some (10, true), .cmp .eql (.t 12) (.c (.s (.int .i64 0)))⟩,
 ⟨some 14, some (5, false), .pick (.t 10) (.t 13) (.c (.s (.bool false)))⟩,
 ⟨some 15, none, .pick (.t 5) (.c (.s (.bool true))) (.t 14)⟩,
 ⟨some 2, none, .mov (.t 15)⟩]
def f41 : FRow := ⟨(.seq (.reg 0 c41r0) (.seq (.reg 0 c41r1) .ret)), [.tmp 2], 16⟩
theorem okf41 : f41.Ok Try.prog 41 := ⟨_, _, Try.func41, rfl, by kernel_rfl, by kernel_rfl, by kernel_rfl⟩

/-! 42 pennyfall/skill.Taken, 2 and 0 -/
def c42r0 : List AOper := [
 ⟨some 2, none, .boxS (.t 0)⟩,
 ⟨some 4, none, .mov (.c (.full []))⟩,
 ⟨some 5, none, .mov (.c (.s (.int .i64 0)))⟩]
def c42r1 : List AOper := [
 ⟨some 11, none, .load 3 true (.t 2)⟩,
 ⟨some 12, none, .mov (.t 1)⟩,
 ⟨some 13, none, .buildSl 1 1 (.int .i64 0) [(0, (.t 12))]⟩,
 ⟨some 14, none, .call 58 [(.t 11), (.t 13)]⟩,
 ⟨some 10, none, .mov (.t 14)⟩,
 ⟨some 15, none, .ext (.t 10) 0⟩,
 ⟨some 16, none, .ext (.t 10) 1⟩,
 ⟨some 6, none, .mov (.t 15)⟩,
 ⟨some 7, none, .mov (.t 16)⟩]
def c42r2 : List AOper := [
 ⟨some 18, none, .mov (.t 7)⟩,
 ⟨some 19, none, .cmp .neq (.t 18) (.c (.s (.int .i64 0)))⟩,
 ⟨some 17, none, .mov (.t 19)⟩]
def c42r3 : List AOper := [
 ⟨some 20, none, .mov (.t 7)⟩,
 ⟨some 4, none, .mov (.c (.full []))⟩,
 ⟨some 5, none, .mov (.t 20)⟩]
def c42r4 : List AOper := [
 ⟨some 22, none, .mov (.t 6)⟩,
 ⟨some 23, none, .mov (.t 1)⟩,
 ⟨some 24, none, .nilck (.t 22)⟩,
 ⟨some 25, none, .fieldAddr 3 (.t 24)⟩,
 ⟨some 26, none, .idxArrA 14 1 (.t 25) (.t 23)⟩,
 ⟨some 27, none, .load 1 false (.t 26)⟩,
 ⟨some 28, none, .cmp .geq (.t 27) (.c (.s (.int .i64 0)))⟩,
 ⟨some 21, none, .mov (.t 28)⟩]
def c42r5 : List AOper := [
 ⟨some 4, none, .mov (.c (.full []))⟩,
 ⟨some 5, none, .mov (.c (.s (.int .i64 5)))⟩]
def c42r6 : List AOper := [
 ⟨some 30, none, .mov (.t 6)⟩,
 ⟨some 31, none, .mov (.t 1)⟩,
 ⟨some 32, none, .call 78 [(.t 30), (.t 31)]⟩,
 ⟨some 29, none, .mov (.t 32)⟩,
 ⟨some 33, none, .ext (.t 29) 0⟩,
 ⟨some 34, none, .ext (.t 29) 1⟩,
 ⟨some 8, none, .mov (.t 33)⟩,
 ⟨some 9, none, .mov (.t 34)⟩]
def c42r7 : List AOper := [
 ⟨some 35, none, .mov (.t 9)⟩,
 ⟨some 36, none, .not (.t 35)⟩]
def c42r8 : List AOper := [
 ⟨some 4, none, .mov (.c (.full []))⟩,
 ⟨some 5, none, .mov (.c (.s (.int .i64 19)))⟩]
def c42r9 : List AOper := [
 ⟨some 37, none, .mov (.t 8)⟩,
 ⟨some 4, none, .mov (.t 37)⟩,
 ⟨some 5, none, .mov (.c (.s (.int .i64 0)))⟩]
def f42 : FRow := ⟨(.seq (.reg 0 c42r0) (.seq (.reg 0 c42r1) (.seq (.block 0 (.seq (.reg 0 c42r2) (.cond (.t 17) (.seq (.reg 0 c42r3) .ret) (.seq (.reg 0 c42r4) (.cond (.t 21) (.seq (.reg 0 c42r5) .ret) .skip))))) (.seq (.reg 0 c42r6) (.seq (.seq (.reg 0 c42r7) (.cond (.t 36) (.seq (.reg 0 c42r8) .ret) .skip)) (.seq (.reg 0 c42r9) .ret)))))), [.tmp 4, .tmp 5], 38⟩
theorem okf42 : f42.Ok Try.prog 42 := ⟨_, _, Try.func42, rfl, by kernel_rfl, by kernel_rfl, by kernel_rfl⟩

/-! 43 pennyfall/pennyfallref03.TakenError, 2 and 0 -/
def c43r0 : List AOper := [
 ⟨some 2, none, .boxS (.t 0)⟩,
 ⟨some 4, none, .mov (.c (.s (.int .i64 0)))⟩]
def c43r1 : List AOper := [
 ⟨some 6, none, .load 3 true (.t 2)⟩,
 ⟨some 7, none, .call 21 [(.t 6)]⟩,
 ⟨some 8, none, .cmp .neq (.t 7) (.c (.s (.int .i64 0)))⟩]
def c43r2 : List AOper := [
 ⟨some 9, none, .load 3 true (.t 2)⟩,
 ⟨some 10, none, .call 21 [(.t 9)]⟩,
 ⟨some 4, none, .mov (.t 10)⟩]
def c43r3 : List AOper := [
 ⟨some 11, none, .mov (.t 1)⟩,
 ⟨some 12, none, .cmp .lss (.t 11) (.c (.s (.int .i64 0)))⟩,
 ⟨some 13, none, .mov (.t 12)⟩,
 ⟨some 14, some (13, false), .mov (.t 1)⟩,
 ⟨some 15, some (13, false), .fieldAddr 1 (.t 2)⟩,
 ⟨some 16, some (13, false), .load 1 false (.t 15)⟩,
 ⟨some 17, some (13, false), .len false (.t 16)⟩,
 ⟨some 18, some (13, false), .cmp .geq (.t 14) (.t 17)⟩,
 ⟨some 19, none, .pick (.t 13) (.c (.s (.bool true))) (.t 18)⟩]
def c43r4 : List AOper := [
 ⟨some 4, none, .mov (.c (.s (.int .i64 2)))⟩]
def c43r5 : List AOper := [
 ⟨some 20, none, .load 3 true (.t 2)⟩,
 ⟨some 21, none, .mov (.t 1)⟩,
 ⟨some 22, none, .call 46 [(.t 20), (.t 21)]⟩,
 ⟨some 5, none, .mov (.t 22)⟩]
def c43r6 : List AOper := [
 ⟨some 23, none, .mov (.t 5)⟩,
 ⟨some 24, none, .cmp .lss (.t 23) (.c (.s (.int .i64 0)))⟩]
def c43r7 : List AOper := [
 ⟨some 4, none, .mov (.c (.s (.int .i64 19)))⟩]
def c43r8 : List AOper := [
 ⟨some 25, none, .mov (.t 5)⟩,
 ⟨some 26, none, .cmp .eql (.t 25) (.c (.s (.int .i64 0)))⟩]
def c43r9 : List AOper := [
 ⟨some 4, none, .mov (.c (.s (.int .i64 5)))⟩]
def c43r10 : List AOper := [
 ⟨some 4, none, .mov (.c (.s (.int .i64 0)))⟩]
def f43 : FRow := ⟨(.seq (.reg 0 c43r0) (.seq (.seq (.reg 0 c43r1) (.cond (.t 8) (.seq (.reg 0 c43r2) .ret) .skip)) (.seq (.seq (.reg 0 c43r3) (.cond (.t 19) (.seq (.reg 0 c43r4) .ret) .skip)) (.seq (.reg 0 c43r5) (.seq (.seq (.reg 0 c43r6) (.cond (.t 24) (.seq (.reg 0 c43r7) .ret) .skip)) (.seq (.seq (.reg 0 c43r8) (.cond (.t 26) (.seq (.reg 0 c43r9) .ret) .skip)) (.seq (.reg 0 c43r10) .ret))))))), [.tmp 4], 27⟩
theorem okf43 : f43.Ok Try.prog 43 := ⟨_, _, Try.func43, rfl, by kernel_rfl, by kernel_rfl, by kernel_rfl⟩

/-! 44 pennyfall/skill.CheckTaken, 3 and 0 -/
def c44r0 : List AOper := [
 ⟨some 3, none, .boxS (.t 0)⟩,
 ⟨some 6, none, .mov (.c (.s (.int .i64 0)))⟩]
def c44r1 : List AOper := [
 ⟨some 12, none, .load 3 true (.t 3)⟩,
 ⟨some 13, none, .mov (.t 1)⟩,
 ⟨some 14, none, .buildSl 1 1 (.int .i64 0) [(0, (.t 13))]⟩,
 ⟨some 15, none, .call 58 [(.t 12), (.t 14)]⟩,
 ⟨some 11, none, .mov (.t 15)⟩,
 ⟨some 16, none, .ext (.t 11) 0⟩,
 ⟨some 17, none, .ext (.t 11) 1⟩,
 ⟨some 7, none, .mov (.t 16)⟩,
 ⟨some 8, none, .mov (.t 17)⟩]
def c44r2 : List AOper := [
 ⟨some 18, none, .mov (.t 8)⟩,
 ⟨some 19, none, .cmp .neq (.t 18) (.c (.s (.int .i64 0)))⟩]
def c44r3 : List AOper := [
 ⟨some 20, none, .mov (.t 8)⟩,
 ⟨some 6, none, .mov (.t 20)⟩]
def c44r4 : List AOper := [
 ⟨some 22, none, .mov (.t 7)⟩,
 ⟨some 23, none, .mov (.t 2)⟩,
 ⟨some 24, none, .call 79 [(.t 22), (.t 23)]⟩,
 ⟨some 21, none, .mov (.t 24)⟩,
 ⟨some 25, none, .ext (.t 21) 0⟩,
 ⟨some 26, none, .ext (.t 21) 1⟩,
 ⟨some 9, none, .alloc [(.full []), (.full []), (.full [])]⟩,
 ⟨none, none, .store 3 (.t 9) (.t 25)⟩,
 ⟨some 10, none, .mov (.t 26)⟩]
def c44r5 : List AOper := [
 ⟨some 28, none, .mov (.t 10)⟩,
 ⟨some 29, none, .not (.t 28)⟩,
 ⟨some 27, none, .mov (.t 29)⟩]
def c44r6 : List AOper := [
 ⟨some 6, none, .mov (.c (.s (.int .i64 16)))⟩]
def c44r7 : List AOper := [
 ⟨some 31, none, .load 3 true (.t 9)⟩,
 ⟨some 32, none, .call 80 [(.t 31)]⟩,
 ⟨some 33, none, .mov (.t 1)⟩,
 ⟨some 34, none, .nilck (.t 32)⟩,
 ⟨some 35, none, .fieldAddr 3 (.t 34)⟩,
 ⟨some 36, none, .idxArrA 14 1 (.t 35) (.t 33)⟩,
 ⟨some 37, none, .load 1 false (.t 36)⟩,
 ⟨some 38, none, .cmp .lss (.t 37) (.c (.s (.int .i64 0)))⟩,
 ⟨some 30, none, .mov (.t 38)⟩]
def c44r8 : List AOper := [
 ⟨some 6, none, .mov (.c (.s (.int .i64 19)))⟩]
def c44r9 : List AOper := [
 ⟨some 6, none, .mov (.c (.s (.int .i64 0)))⟩]
def f44 : FRow := ⟨(.seq (.reg 0 c44r0) (.seq (.reg 0 c44r1) (.seq (.seq (.reg 0 c44r2) (.cond (.t 19) (.seq (.reg 0 c44r3) .ret) .skip)) (.seq (.reg 1 c44r4) (.seq (.block 0 (.seq (.reg 0 c44r5) (.cond (.t 27) (.seq (.reg 0 c44r6) .ret) (.seq (.reg 0 c44r7) (.cond (.t 30) (.seq (.reg 0 c44r8) .ret) .skip))))) (.seq (.reg 0 c44r9) .ret)))))), [.tmp 6], 39⟩
theorem okf44 : f44.Ok Try.prog 44 := ⟨_, _, Try.func44, rfl, by kernel_rfl, by kernel_rfl, by kernel_rfl⟩

/-! 45 pennyfall/pennyfallref03.CheckTaken, 3 and 0 -/
def c45r0 : List AOper := [
 ⟨some 3, none, .boxS (.t 0)⟩,
 ⟨some 6, none, .mov (.c (.s (.int .i64 0)))⟩]
def c45r1 : List AOper := [
 ⟨some 7, none, .load 3 true (.t 3)⟩,
 ⟨some 8, none, .call 21 [(.t 7)]⟩,
 ⟨some 9, none, .cmp .neq (.t 8) (.c (.s (.int .i64 0)))⟩]
def c45r2 : List AOper := [
 ⟨some 10, none, .load 3 true (.t 3)⟩,
 ⟨some 11, none, .call 21 [(.t 10)]⟩,
 ⟨some 6, none, .mov (.t 11)⟩]
def c45r3 : List AOper := [
 ⟨some 12, none, .mov (.t 1)⟩,
 ⟨some 13, none, .cmp .lss (.t 12) (.c (.s (.int .i64 0)))⟩,
 ⟨some 14, none, .mov (.t 13)⟩,
 ⟨some 15, some (14, false), .mov (.t 1)⟩,
 ⟨some 16, some (14, false), .fieldAddr 1 (.t 3)⟩,
 ⟨some 17, some (14, false), .load 1 false (.t 16)⟩,
 ⟨some 18, some (14, false), .len false (.t 17)⟩,
 ⟨some 19, some (14, false), .cmp .geq (.t 15) (.t 18)⟩,
 ⟨some 20, none, .pick (.t 14) (.c (.s (.bool true))) (.t 19)⟩]
def c45r4 : List AOper := [
 ⟨some 6, none, .mov (.c (.s (.int .i64 2)))⟩]
def c45r5 : List AOper := [
 ⟨some 21, none, .load 3 true (.t 3)⟩,
 ⟨some 22, none, .mov (.t 2)⟩,
 ⟨some 23, none, .call 81 [(.t 21), (.t 22)]⟩,
 ⟨some 24, none, .not (.t 23)⟩]
def c45r6 : List AOper := [
 ⟨some 6, none, .mov (.c (.s (.int .i64 16)))⟩]
def c45r7 : List AOper := [
 ⟨some 25, none, .load 3 true (.t 3)⟩,
 ⟨some 26, none, .mov (.t 2)⟩,
 ⟨some 27, none, .call 54 [(.t 25), (.t 26)]⟩,
 ⟨some 28, none, .call 59 [(.t 27)]⟩,
 ⟨some 29, none, .mov (.t 1)⟩,
 ⟨some 30, none, .idxA 1 (.t 28) (.t 29)⟩,
 ⟨some 31, none, .load 1 false (.t 30)⟩,
 ⟨some 32, none, .cmp .lss (.t 31) (.c (.s (.int .i64 0)))⟩]
def c45r8 : List AOper := [
 ⟨some 6, none, .mov (.c (.s (.int .i64 19)))⟩]
def c45r9 : List AOper := [
 ⟨some 6, none, .mov (.c (.s (.int .i64 0)))⟩]
def f45 : FRow := ⟨(.seq (.reg 0 c45r0) (.seq (.seq (.reg 0 c45r1) (.cond (.t 9) (.seq (.reg 0 c45r2) .ret) .skip)) (.seq (.seq (.reg 0 c45r3) (.cond (.t 20) (.seq (.reg 0 c45r4) .ret) .skip)) (.seq (.seq (.reg 0 c45r5) (.cond (.t 24) (.seq (.reg 0 c45r6) .ret) .skip)) (.seq (.seq (.reg 0 c45r7) (.cond (.t 32) (.seq (.reg 0 c45r8) .ret) .skip)) (.seq (.reg 0 c45r9) .ret)))))), [.tmp 6], 33⟩
theorem okf45 : f45.Ok Try.prog 45 := ⟨_, _, Try.func45, rfl, by kernel_rfl, by kernel_rfl, by kernel_rfl⟩

/-! 46 pennyfall/pennyfallref03.Fewest, 2 and 0 -/
def c46r0 : List AOper := [
 ⟨some 2, none, .boxS (.t 0)⟩,
 ⟨some 4, none, .mov (.c (.s (.int .i64 0)))⟩]
def c46r1 : List AOper := [
 ⟨some 17, none, .fieldAddr 1 (.t 2)⟩,
 ⟨some 18, none, .load 1 false (.t 17)⟩,
 ⟨some 19, none, .len false (.t 18)⟩,
 ⟨some 5, none, .mov (.t 19)⟩]
def c46r2 : List AOper := [
 ⟨some 6, none, .mov (.c (.s (.int .i64 0)))⟩]
def c46r3 : List AOper := [
 ⟨some 7, none, .mov (.c (.s (.int .i64 0)))⟩]
def c46r4 : List AOper := [
 ⟨some 20, none, .mov (.t 7)⟩,
 ⟨some 21, none, .mov (.t 5)⟩,
 ⟨some 22, none, .cmp .lss (.t 20) (.t 21)⟩]
def c46r5 : List AOper := [
 ⟨some 25, none, .fieldAddr 2 (.t 2)⟩,
 ⟨some 26, none, .load 1 false (.t 25)⟩,
 ⟨some 27, none, .mov (.t 7)⟩,
 ⟨some 28, none, .idxA 1 (.t 26) (.t 27)⟩,
 ⟨some 29, none, .load 1 false (.t 28)⟩]
def c46r6 : List AOper := [
 ⟨some 30, none, .mov (.t 6)⟩,
 ⟨some 31, none, .mov (.t 7)⟩,
 ⟨some 32, none, .shift .shl (.c (.s (.int .i64 1))) (.t 31)⟩,
 ⟨some 33, none, .bits .or (.t 30) (.t 32)⟩,
 ⟨some 6, none, .mov (.t 33)⟩]
def c46r7 : List AOper := [
 ⟨some 23, none, .mov (.t 7)⟩,
 ⟨some 24, none, .arith .add (.t 23) (.c (.s (.int .i64 1)))⟩,
 ⟨some 7, none, .mov (.t 24)⟩]
def c46l8 : ACode := (.seq (.seq (.reg 0 c46r4) (.cond (.t 22) .skip (.exit 0))) (.seq (.block 1 (.seq (.reg 0 c46r5) (.cond (.t 29) (.reg 0 c46r6) .skip))) (.reg 0 c46r7)))
def c46l8m : List Bool := [false, true, true, false, false, true, true, true, false, false, false, false, false, false, false, false, false, false, false, false, false, false, false, false, false, false, false, false, false, false, false, false, false, false, false, false, false, false, false, false, false, false, false, false, false, false, false, false, false, false, false, false, false, false, false, false, false, false, false, false, false, false, false, false, false, false, false, false, false, false, false, false, false, false, false, false, false, false, false, false, false, false, false, false, false, false, false, false, false, false, false, false, false, false, false, false, false, false, false, false, false, false, false, false, false, false, false, false, false, false, false, false, false, false, false, false, false, false, false, false, false, false, false, false, false, false, false, false, false, false, false, false, false, false, false, false, false, false, false, false, false, false, false, false, false, false, false, false, false, false, false, false, false, false, false, false, false, false, false, false, false]
def c46r9 : List AOper := [
 ⟨some 34, none, .mov (.t 5)⟩,
 ⟨some 35, none, .shift .shl (.c (.s (.int .i64 1))) (.t 34)⟩,
 ⟨some 36, none, .mkslice 1 8 [(.int .i64 0)] (.t 35) (.t 35)⟩,
 ⟨some 8, none, .mov (.t 36)⟩]
def c46r10 : List AOper := [
 ⟨some 9, none, .mov (.c (.s (.int .i64 0)))⟩]
def c46r11 : List AOper := [
 ⟨some 37, none, .mov (.t 9)⟩,
 ⟨some 38, none, .mov (.t 8)⟩,
 ⟨some 39, none, .len false (.t 38)⟩,
 ⟨some 40, none, .cmp .lss (.t 37) (.t 39)⟩]
def c46r12 : List AOper := [
 ⟨some 43, none, .mov (.t 8)⟩,
 ⟨some 44, none, .mov (.t 9)⟩,
 ⟨some 45, none, .idxA 1 (.t 43) (.t 44)⟩,
 ⟨none, none, .store 1 (.t 45) (.c (.s (.int .i64 (-1))))⟩]
def c46r13 : List AOper := [
 ⟨some 41, none, .mov (.t 9)⟩,
 ⟨some 42, none, .arith .add (.t 41) (.c (.s (.int .i64 1)))⟩,
 ⟨some 9, none, .mov (.t 42)⟩]
def c46l14 : ACode := (.seq (.seq (.reg 0 c46r11) (.cond (.t 40) .skip (.exit 2))) (.seq (.block 3 (.reg 0 c46r12)) (.reg 0 c46r13)))
def c46l14m : List Bool := [false, true, true, false, false, true, true, false, true, true, false, false, false, false, false, false, false, false, false, false, false, false, false, false, false, false, false, false, false, false, false, false, false, false, false, false, false, false, false, false, false, false, false, false, false, false, false, false, false, false, false, false, false, false, false, false, false, false, false, false, false, false, false, false, false, false, false, false, false, false, false, false, false, false, false, false, false, false, false, false, false, false, false, false, false, false, false, false, false, false, false, false, false, false, false, false, false, false, false, false, false, false, false, false, false, false, false, false, false, false, false, false, false, false, false, false, false, false, false, false, false, false, false, false, false, false, false, false, false, false, false, false, false, false, false, false, false, false, false, false, false, false, false, false, false, false, false, false, false, false, false, false, false, false, false, false, false, false, false, false, false]
def c46r15 : List AOper := [
 ⟨some 46, none, .mov (.t 8)⟩,
 ⟨some 47, none, .mov (.t 6)⟩,
 ⟨some 48, none, .idxA 1 (.t 46) (.t 47)⟩,
 ⟨none, none, .store 1 (.t 48) (.c (.s (.int .i64 0)))⟩]
def c46r16 : List AOper := [
 ⟨some 10, none, .mov (.c (.s (.int .i64 (-1))))⟩]
def c46r17 : List AOper := [
 ⟨some 49, none, .mov (.t 6)⟩,
 ⟨some 11, none, .mov (.t 49)⟩]
def c46r18 : List AOper := [
 ⟨some 50, none, .mov (.t 11)⟩,
 ⟨some 51, none, .mov (.t 8)⟩,
 ⟨some 52, none, .len false (.t 51)⟩,
 ⟨some 53, none, .cmp .lss (.t 50) (.t 52)⟩]
def c46r19 : List AOper := [
 ⟨some 56, none, .mov (.t 8)⟩,
 ⟨some 57, none, .mov (.t 11)⟩,
 ⟨some 58, none, .idxA 1 (.t 56) (.t 57)⟩,
 ⟨some 59, none, .load 1 false (.t 58)⟩,
 ⟨some 60, none, .cmp .lss (.t 59) (.c (.s (.int .i64 0)))⟩]
def c46r20 : List AOper := [
 ⟨some 61, none, .mov (.t 11)⟩,
 ⟨some 62, none, .mov (.t 1)⟩,
 ⟨some 63, none, .shift .shr (.t 61) (.t 62)⟩,
 ⟨some 64, none, .bits .and (.t 63) (.c (.s (.int .i64 1)))⟩,
 ⟨some 65, none, .cmp .eql (.t 64) (.c (.s (.int .i64 1)))⟩,
 ⟨some 66, none, .mov (.t 65)⟩,
 ⟨some 67, some (66, true), .mov (.t 10)⟩,
 ⟨some 68, some (66, true), .cmp .lss (.t 67) (.c (.s (.int .i64 0)))⟩,
 ⟨some 69, some (66, true), .mov (.t 68)⟩,
 ⟨some 70, some (69, false), .mov (.t 8)⟩,
 ⟨some 71, some (69, false), .mov (.t 11)⟩,
 ⟨some 72, some (69, false), .idxA 1 (.t 70) (.t 71)⟩,
 ⟨some 73, some (69, false), .load 1 false (.t 72)⟩,
 ⟨some 74, some (69, false), .mov (.t 10)⟩,
 ⟨some 75, some (69, false), .cmp .lss (.t 73) (.t 74)⟩,
 ⟨some 76, some (66, true), .pick (.t 69) (.c (.s (.bool true))) (.t 75)⟩,
 ⟨some 77, none, .pick (.t 66) (.t 76) (.c (.s (.bool false)))⟩]
def c46r21 : List AOper := [
 ⟨some 78, none, .mov (.t 8)⟩,
 ⟨some 79, none, .mov (.t 11)⟩,
 ⟨some 80, none, .idxA 1 (.t 78) (.t 79)⟩,
 ⟨some 81, none, .load 1 false (.t 80)⟩,
 ⟨some 10, none, .mov (.t 81)⟩]
def c46r22 : List AOper := [
 ⟨some 12, none, .mov (.c (.s (.int .i64 0)))⟩]
def c46r23 : List AOper := [
 ⟨some 82, none, .mov (.t 12)⟩,
 ⟨some 83, none, .mov (.t 5)⟩,
 ⟨some 84, none, .cmp .lss (.t 82) (.t 83)⟩]
def c46r24 : List AOper := [
 ⟨some 13, none, .mov (.c (.s (.int .i64 0)))⟩]
def c46r25 : List AOper := [
 ⟨some 14, none, .mov (.c (.s (.int .i64 0)))⟩]
def c46r26 : List AOper := [
 ⟨some 87, none, .mov (.t 14)⟩,
 ⟨some 88, none, .fieldAddr 1 (.t 2)⟩,
 ⟨some 89, none, .load 1 false (.t 88)⟩,
 ⟨some 90, none, .mov (.t 12)⟩,
 ⟨some 91, none, .idxA 1 (.t 89) (.t 90)⟩,
 ⟨some 92, none, .load 1 false (.t 91)⟩,
 ⟨some 93, none, .len false (.t 92)⟩,
 ⟨some 94, none, .cmp .lss (.t 87) (.t 93)⟩]
def c46r27 : List AOper := [
 ⟨some 97, none, .mov (.t 13)⟩,
 ⟨some 98, none, .mov (.t 11)⟩,
 ⟨some 99, none, .fieldAddr 1 (.t 2)⟩,
 ⟨some 100, none, .load 1 false (.t 99)⟩,
 ⟨some 101, none, .mov (.t 12)⟩,
 ⟨some 102, none, .idxA 1 (.t 100) (.t 101)⟩,
 ⟨some 103, none, .load 1 false (.t 102)⟩,
 ⟨some 104, none, .mov (.t 14)⟩,
 ⟨some 105, none, .idxA 1 (.t 103) (.t 104)⟩,
 ⟨some 106, none, .load 1 false (.t 105)⟩,
 ⟨some 107, none, .shift .shr (.t 98) (.t 106)⟩,
 ⟨some 108, none, .bits .and (.t 107) (.c (.s (.int .i64 1)))⟩,
 ⟨some 109, none, .arith .add (.t 97) (.t 108)⟩,
 ⟨some 13, none, .mov (.t 109)⟩]
def c46r28 : List AOper := [
 ⟨some 95, none, .mov (.t 14)⟩,
 ⟨some 96, none, .arith .add (.t 95) (.c (.s (.int .i64 1)))⟩,
 ⟨some 14, none, .mov (.t 96)⟩]
def c46l29 : ACode := (.seq (.seq (.reg 0 c46r26) (.cond (.t 94) .skip (.exit 8))) (.seq (.block 9 (.reg 0 c46r27)) (.reg 0 c46r28)))
def c46l29m : List Bool := [false, true, true, false, false, true, false, false, true, false, true, true, true, true, true, false, false, false, false, false, false, false, false, false, false, false, false, false, false, false, false, false, false, false, false, false, false, false, false, false, false, false, false, false, false, false, false, false, false, false, false, false, false, false, false, false, false, false, false, false, false, false, false, false, false, false, false, false, false, false, false, false, false, false, false, false, false, false, false, false, false, false, false, false, false, false, false, false, false, false, false, false, false, false, false, false, false, false, false, false, false, false, false, false, false, false, false, false, false, false, false, false, false, false, false, false, false, false, false, false, false, false, false, false, false, false, false, false, false, false, false, false, false, false, false, false, false, false, false, false, false, false, false, false, false, false, false, false, false, false, false, false, false, false, false, false, false, false, false, false, false]
def c46r30 : List AOper := [
 ⟨some 110, none, .mov (.t 11)⟩,
 ⟨some 111, none, .mov (.t 12)⟩,
 ⟨some 112, none, .shift .shr (.t 110) (.t 111)⟩,
 ⟨some 113, none, .bits .and (.t 112) (.c (.s (.int .i64 1)))⟩,
 ⟨some 114, none, .cmp .eql (.t 113) (.c (.s (.int .i64 1)))⟩,
 ⟨some 115, none, .mov (.t 114)⟩,
 ⟨some 116, some (115, false), .mov (.t 13)⟩,
 ⟨some 117, some (115, false), .cmp .eql (.t 116) (.c (.s (.int .i64 0)))⟩,
 ⟨some 118, none, .pick (.t 115) (.c (.s (.bool true))) (.t 117)⟩]
def c46r31 : List AOper := [
 ⟨some 119, none, .mov (.t 8)⟩,
 ⟨some 120, none, .mov (.t 11)⟩,
 ⟨some 121, none, .idxA 1 (.t 119) (.t 120)⟩,
 ⟨some 122, none, .load 1 false (.t 121)⟩,
 ⟨some 15, none, .mov (.t 122)⟩]
def c46r32 : List AOper := [
 ⟨some 123, none, .fieldAddr 0 (.t 2)⟩,
 ⟨some 124, none, .load 1 false (.t 123)⟩,
 ⟨some 125, none, .mov (.t 12)⟩,
 ⟨some 126, none, .idxA 1 (.t 124) (.t 125)⟩,
 ⟨some 127, none, .load 1 false (.t 126)⟩,
 ⟨some 128, none, .not (.t 127)⟩]
def c46r33 : List AOper := [
 ⟨some 129, none, .mov (.t 15)⟩,
 ⟨some 130, none, .fieldAddr 1 (.t 2)⟩,
 ⟨some 131, none, .load 1 false (.t 130)⟩,
 ⟨some 132, none, .mov (.t 12)⟩,
 ⟨some 133, none, .idxA 1 (.t 131) (.t 132)⟩,
 ⟨some 134, none, .load 1 false (.t 133)⟩,
 ⟨some 135, none, .len false (.t 134)⟩,
 ⟨some 136, none, .mov (.t 13)⟩,
 ⟨some 137, none, .arith .sub (.t 135) (.t 136)⟩,
 ⟨some 138, none, .arith .add (.t 129) (.t 137)⟩,
 ⟨some 15, none, .mov (.t 138)⟩]
def c46r34 : List AOper := [
 ⟨some 139, none, .mov (.t 11)⟩,
 ⟨some 140, none, .mov (.t 12)⟩,
 ⟨some 141, none, .shift .shl (.c (.s (.int .i64 1))) (.t 140)⟩,
 ⟨some 142, none, .bits .or (.t 139) (.t 141)⟩,
 ⟨some 16, none, .mov (.t 142)⟩]
def c46r35 : List AOper := [
 ⟨some 143, none, .mov (.t 8)⟩,
 ⟨some 144, none, .mov (.t 16)⟩,
 ⟨some 145, none, .idxA 1 (.t 143) (.t 144)⟩,
 ⟨some 146, none, .load 1 false (.t 145)⟩,
 ⟨some 147, none, .cmp .lss (.t 146) (.c (.s (.int .i64 0)))⟩,
 ⟨some 148, none, .mov (.t 147)⟩,
 ⟨some 149, some (148, false), .mov (.t 15)⟩,
 ⟨some 150, some (148, false), .mov (.t 8)⟩,
 ⟨some 151, some (148, false), .mov (.t 16)⟩,
 ⟨some 152, some (148, false), .idxA 1 (.t 150) (.t 151)⟩,
 ⟨some 153, some (148, false), .load 1 false (.t 152)⟩,
 ⟨some 154, some (148, false), .cmp .lss (.t 149) (.t 153)⟩,
 ⟨some 155, none, .pick (.t 148) (.c (.s (.bool true))) (.t 154)⟩]
def c46r36 : List AOper := [
 ⟨some 156, none, .mov (.t 8)⟩,
 ⟨some 157, none, .mov (.t 16)⟩,
 ⟨some 158, none, .mov (.t 15)⟩,
 ⟨some 159, none, .idxA 1 (.t 156) (.t 157)⟩,
 ⟨none, none, .store 1 (.t 159) (.t 158)⟩]
def c46r37 : List AOper := [
 ⟨some 85, none, .mov (.t 12)⟩,
 ⟨some 86, none, .arith .add (.t 85) (.c (.s (.int .i64 1)))⟩,
 ⟨some 12, none, .mov (.t 86)⟩]
def c46l38 : ACode := (.seq (.seq (.reg 0 c46r23) (.cond (.t 84) .skip (.exit 6))) (.seq (.block 7 (.seq (.reg 0 c46r24) (.seq (.seq (.reg 0 c46r25) (.block 8 (.loop c46l29m [] c46l29))) (.seq (.seq (.reg 0 c46r30) (.cond (.t 118) (.exit 7) .skip)) (.seq (.reg 0 c46r31) (.seq (.seq (.reg 0 c46r32) (.cond (.t 128) (.reg 0 c46r33) .skip)) (.seq (.reg 0 c46r34) (.seq (.reg 0 c46r35) (.cond (.t 155) (.reg 0 c46r36) .skip))))))))) (.reg 0 c46r37)))
def c46l38m : List Bool := [false, true, true, false, false, true, false, false, true, false, true, true, true, false, false, false, false, false, false, false, false, false, false, false, false, false, false, false, false, false, false, false, false, false, false, false, false, false, false, false, false, false, false, false, false, false, false, false, false, false, false, false, false, false, false, false, false, false, false, false, false, false, false, false, false, false, false, false, false, false, false, false, false, false, false, false, false, false, false, false, false, false, false, false, false, false, false, false, false, false, false, false, false, false, false, false, false, false, false, false, false, false, false, false, false, false, false, false, false, false, false, false, false, false, false, false, false, false, false, false, false, false, false, false, false, false, false, false, false, false, false, false, false, false, false, false, false, false, false, false, false, false, false, false, false, false, false, false, false, false, false, false, false, false, false, false, false, false, false, false, false]
def c46r39 : List AOper := [
 ⟨some 54, none, .mov (.t 11)⟩,
 ⟨some 55, none, .arith .add (.t 54) (.c (.s (.int .i64 1)))⟩,
 ⟨some 11, none, .mov (.t 55)⟩]
def c46l40 : ACode := (.seq (.seq (.reg 0 c46r18) (.cond (.t 53) .skip (.exit 4))) (.seq (.block 5 (.seq (.seq (.reg 0 c46r19) (.cond (.t 60) (.exit 5) .skip)) (.seq (.seq (.reg 0 c46r20) (.cond (.t 77) (.reg 0 c46r21) .skip)) (.seq (.reg 0 c46r22) (.block 6 (.loop c46l38m [] c46l38)))))) (.reg 0 c46r39)))
def c46l40m : List Bool := [false, true, true, false, false, true, false, false, true, false, true, true, false, false, false, false, false, false, false, false, false, false, false, false, false, false, false, false, false, false, false, false, false, false, false, false, false, false, false, false, false, false, false, false, false, false, false, false, false, false, false, false, false, false, false, false, false, false, false, false, false, false, false, false, false, false, false, false, false, false, false, false, false, false, false, false, false, false, false, false, false, false, false, false, false, false, false, false, false, false, false, false, false, false, false, false, false, false, false, false, false, false, false, false, false, false, false, false, false, false, false, false, false, false, false, false, false, false, false, false, false, false, false, false, false, false, false, false, false, false, false, false, false, false, false, false, false, false, false, false, false, false, false, false, false, false, false, false, false, false, false, false, false, false, false, false, false, false, false, false, false]
def c46r41 : List AOper := [
 ⟨some 160, none, .mov (.t 10)⟩,
 ⟨some 4, none, .mov (.t 160)⟩]
def f46 : FRow := ⟨(.seq (.reg 0 c46r0) (.seq (.reg 0 c46r1) (.seq (.reg 0 c46r2) (.seq (.seq (.reg 0 c46r3) (.block 0 (.loop c46l8m [] c46l8))) (.seq (.reg 1 c46r9) (.seq (.seq (.reg 0 c46r10) (.block 2 (.loop c46l14m [] c46l14))) (.seq (.reg 0 c46r15) (.seq (.reg 0 c46r16) (.seq (.seq (.reg 0 c46r17) (.block 4 (.loop c46l40m [] c46l40))) (.seq (.reg 0 c46r41) .ret)))))))))), [.tmp 4], 161⟩
theorem okf46 : f46.Ok Try.prog 46 := ⟨_, _, Try.func46, rfl, by kernel_rfl, by kernel_rfl, by kernel_rfl⟩

/-! 47 pennyfall/pennyfalllaw03.fine, 1 and 0 -/
def c47r0 : List AOper := [
 ⟨some 1, none, .boxS (.t 0)⟩,
 ⟨some 2, none, .mov (.c (.s (.bool false)))⟩]
def c47r1 : List AOper := [
 ⟨some 3, none, .load 3 true (.t 1)⟩,
 ⟨some 4, none, .call 16 [(.t 3)]⟩,
 ⟨some 5, none, .not (.t 4)⟩,
 ⟨some 6, none, .mov (.t 5)⟩,
 ⟨some 7, some (6, true), .load 3 true (.t 1)⟩,
 ⟨some 8, some (6, true), .call 21 [(.t 7)]⟩,
 ⟨some 9, some (6, true), .cmp .eql (.t 8) (.c (.s (.int .i64 0)))⟩,
 ⟨some 10, none, .pick (.t 6) (.t 9) (.c (.s (.bool false)))⟩,
 ⟨some 2, none, .mov (.t 10)⟩]
def f47 : FRow := ⟨(.seq (.reg 0 c47r0) (.seq (.reg 0 c47r1) .ret)), [.tmp 2], 11⟩
theorem okf47 : f47.Ok Try.prog 47 := ⟨_, _, Try.func47, rfl, by kernel_rfl, by kernel_rfl, by kernel_rfl⟩


end Go.Proofs.Ytglmjdpmpgphkaa.Sk
