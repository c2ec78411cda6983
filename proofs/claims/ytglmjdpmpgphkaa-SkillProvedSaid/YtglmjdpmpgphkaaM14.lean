/- The code of a law in the value semantics. -/
import Derived.Test.YtglmjdpmpgphkaaM13

set_option linter.all false

namespace Go.Proofs.Ytglmjdpmpgphkaa.Sk
open Go Go.E

/-! 8 pennyfall/pennyfalllaw03.SkillProved, 3 and 0 -/
def c8r0 : List AOper := [
 ⟨some 3, none, .boxS (.t 0)⟩,
 ⟨some 6, none, .mov (.c (.s (.bool false)))⟩]
def c8r1 : List AOper := [
 ⟨some 19, none, .load 3 true (.t 3)⟩,
 ⟨some 20, none, .call 47 [(.t 19)]⟩,
 ⟨some 21, none, .not (.t 20)⟩,
 ⟨some 22, none, .mov (.t 21)⟩,
 ⟨some 23, some (22, false), .mov (.t 1)⟩,
 ⟨some 24, some (22, false), .len false (.t 23)⟩,
 ⟨some 25, some (22, false), .cmp .gtr (.t 24) (.c (.s (.int .i64 20)))⟩,
 ⟨some 26, none, .pick (.t 22) (.c (.s (.bool true))) (.t 25)⟩]
def c8r2 : List AOper := [
 ⟨some 27, none, .call 17 []⟩,
 ⟨some 6, none, .mov (.t 27)⟩]
def c8r3 : List AOper := [
 ⟨some 29, none, .load 3 true (.t 3)⟩,
 ⟨some 30, none, .call 48 [(.t 29)]⟩,
 ⟨some 28, none, .mov (.t 30)⟩,
 ⟨some 31, none, .ext (.t 28) 0⟩,
 ⟨some 32, none, .ext (.t 28) 1⟩,
 ⟨some 7, none, .mov (.t 31)⟩,
 ⟨some 8, none, .mov (.t 32)⟩]
def c8r4 : List AOper := [
 ⟨some 34, none, .load 3 true (.t 3)⟩,
 ⟨some 35, none, .call 25 [(.t 34)]⟩,
 ⟨some 33, none, .mov (.t 35)⟩,
 ⟨some 36, none, .ext (.t 33) 0⟩,
 ⟨some 37, none, .ext (.t 33) 1⟩,
 ⟨some 9, none, .mov (.t 36)⟩,
 ⟨some 10, none, .mov (.t 37)⟩]
def c8r5 : List AOper := [
 ⟨some 38, none, .mov (.t 8)⟩,
 ⟨some 39, none, .not (.t 38)⟩,
 ⟨some 40, none, .mov (.t 39)⟩,
 ⟨some 41, some (40, false), .mov (.t 10)⟩,
 ⟨some 42, some (40, false), .cmp .neq (.t 41) (.c (.s (.int .i64 0)))⟩,
 ⟨some 43, none, .pick (.t 40) (.c (.s (.bool true))) (.t 42)⟩,
 ⟨some 44, none, .mov (.t 43)⟩,
 ⟨some 45, some (44, false), .load 3 true (.t 3)⟩,
 ⟨some 46, some (44, false), .mov (.t 9)⟩,
 ⟨some 47, some (44, false), .call 27 [(.t 45), (.t 46)]⟩,
 ⟨some 48, some (44, false), .cmp .neq (.t 47) (.c (.s (.int .i64 0)))⟩,
 ⟨some 49, none, .pick (.t 44) (.c (.s (.bool true))) (.t 48)⟩,
 ⟨some 50, none, .mov (.t 49)⟩,
 ⟨some 51, some (50, false), .load 3 true (.t 3)⟩,
 ⟨some 52, some (50, false), .mov (.t 9)⟩,
 ⟨some 53, some (50, false), .call 28 [(.t 51), (.t 52)]⟩,
 ⟨some 54, some (50, false), .cmp .neq (.t 53) (.c (.s (.int .i64 0)))⟩,
 ⟨some 55, none, .pick (.t 50) (.c (.s (.bool true))) (.t 54)⟩]
def c8r6 : List AOper := [
 ⟨some 6, none, .mov (.c (.s (.bool false)))⟩]
def c8r7 : List AOper := [
 ⟨some 57, none, .load 3 true (.t 3)⟩,
 ⟨some 58, none, .mov (.t 7)⟩,
 ⟨some 59, none, .call 23 [(.t 57), (.t 58)]⟩,
 ⟨some 56, none, .mov (.t 59)⟩,
 ⟨some 60, none, .ext (.t 56) 0⟩,
 ⟨some 61, none, .ext (.t 56) 1⟩,
 ⟨some 11, none, .mov (.t 60)⟩,
 ⟨some 12, none, .mov (.t 61)⟩]
def c8r8 : List AOper := [
 ⟨some 63, none, .load 3 true (.t 3)⟩,
 ⟨some 64, none, .mov (.t 7)⟩,
 ⟨some 65, none, .call 24 [(.t 63), (.t 64)]⟩,
 ⟨some 62, none, .mov (.t 65)⟩,
 ⟨some 66, none, .ext (.t 62) 0⟩,
 ⟨some 67, none, .ext (.t 62) 1⟩,
 ⟨some 13, none, .mov (.t 66)⟩,
 ⟨some 14, none, .mov (.t 67)⟩]
def c8r9 : List AOper := [
 ⟨some 68, none, .mov (.t 12)⟩,
 ⟨some 69, none, .cmp .neq (.t 68) (.c (.s (.int .i64 0)))⟩,
 ⟨some 70, none, .mov (.t 69)⟩,
 ⟨some 71, some (70, false), .mov (.t 14)⟩,
 ⟨some 72, some (70, false), .cmp .neq (.t 71) (.c (.s (.int .i64 0)))⟩,
 ⟨some 73, none, .pick (.t 70) (.c (.s (.bool true))) (.t 72)⟩,
 ⟨some 74, none, .mov (.t 73)⟩,
 ⟨some 75, some (74, false), .mov (.t 11)⟩,
 ⟨some 76, some (74, false), .mov (.t 13)⟩,
 ⟨some 77, some (74, false), .call 22 [(.t 75), (.t 76)]⟩,
 ⟨some 78, some (74, false), .not (.t 77)⟩,
 ⟨some 79, none, .pick (.t 74) (.c (.s (.bool true))) (.t 78)⟩,
 ⟨some 80, none, .mov (.t 79)⟩,
 ⟨some 81, some (80, false), .mov (.t 11)⟩,
 ⟨some 82, some (80, false), .len false (.t 81)⟩,
 ⟨some 83, some (80, false), .mov (.t 9)⟩,
 ⟨some 84, some (80, false), .len false (.t 83)⟩,
 ⟨some 85, some (80, false), .arith .add (.t 82) (.t 84)⟩,
 ⟨some 86, some (80, false), .mov (.t 7)⟩,
 ⟨some 87, some (80, false), .len false (.t 86)⟩,
 ⟨some 88, some (80, false), .cmp .neq (.t 85) (.t 87)⟩,
 ⟨some 89, none, .pick (.t 80) (.c (.s (.bool true))) (.t 88)⟩]
def c8r10 : List AOper := [
 ⟨some 6, none, .mov (.c (.s (.bool false)))⟩]
def c8r11 : List AOper := [
 ⟨some 15, none, .mov (.c (.full []))⟩]
def c8r12 : List AOper := [
 ⟨some 16, none, .mov (.c (.s (.int .i64 0)))⟩]
def c8r13 : List AOper := [
 ⟨some 90, none, .mov (.t 16)⟩,
 ⟨some 91, none, .mov (.t 7)⟩,
 ⟨some 92, none, .len false (.t 91)⟩,
 ⟨some 93, none, .cmp .lss (.t 90) (.t 92)⟩]
def c8r14 : List AOper := [
 ⟨some 96, none, .mov (.t 2)⟩,
 ⟨some 97, none, .mov (.t 16)⟩,
 ⟨some 98, none, .shift .shr (.t 96) (.t 97)⟩,
 ⟨some 99, none, .bits .and (.t 98) (.c (.s (.int .u16 1)))⟩,
 ⟨some 100, none, .cmp .eql (.t 99) (.c (.s (.int .u16 1)))⟩]
def c8r15 : List AOper := [
 ⟨some 101, none, .mov (.t 15)⟩,
 ⟨some 102, none, .mov (.t 16)⟩,
 ⟨some 103, none, .buildSl 1 1 (.int .i64 0) [(0, (.t 102))]⟩,
 ⟨some 104, none, .append 1 8 (.t 101) (.t 103)⟩,
 ⟨some 15, none, .mov (.t 104)⟩]
def c8r16 : List AOper := [
 ⟨some 105, none, .mov (.t 7)⟩,
 ⟨some 106, none, .mov (.t 16)⟩,
 ⟨some 107, none, .idxA 1 (.t 105) (.t 106)⟩,
 ⟨some 108, none, .load 1 false (.t 107)⟩,
 ⟨some 109, none, .cmp .lss (.t 108) (.c (.s (.int .i64 0)))⟩,
 ⟨some 110, none, .mov (.t 9)⟩,
 ⟨some 111, none, .mov (.t 16)⟩,
 ⟨some 112, none, .call 49 [(.t 110), (.t 111)]⟩,
 ⟨some 113, none, .eql false [.bool] true (.t 109) (.t 112)⟩]
def c8r17 : List AOper := [
 ⟨some 6, none, .mov (.c (.s (.bool false)))⟩]
def c8r18 : List AOper := [
 ⟨some 94, none, .mov (.t 16)⟩,
 ⟨some 95, none, .arith .add (.t 94) (.c (.s (.int .i64 1)))⟩,
 ⟨some 16, none, .mov (.t 95)⟩]
def c8l19 : ACode := (.seq (.seq (.reg 0 c8r13) (.cond (.t 93) .skip (.exit 0))) (.seq (.block 1 (.seq (.seq (.reg 0 c8r14) (.cond (.t 100) (.reg 1 c8r15) .skip)) (.seq (.reg 0 c8r16) (.cond (.t 113) (.seq (.reg 0 c8r17) .ret) .skip)))) (.reg 0 c8r18)))
def c8l19m : List Bool := [false, true, true, true, false, false, false, true, false, true, false, false, false, false, false, true, true, false, false, false, false, false, false, false, false, false, false, false, false, false, false, false, false, false, false, false, false, false, false, false, false, false, false, false, false, false, false, false, false, false, false, false, false, false, false, false, false, false, false, false, false, false, false, false, false, false, false, false, false, false, false, false, false, false, false, false, false, false, false, false, false, false, false, false, false, false, false, false, false, false, false, false, false, false, false, false, false, false, false, false, false, false, false, false, false, false, false, false, false, false, false, false, false, false, false, false, false, false, false, false, false, false, false, false, false, false, false, false, false, false, false, false, false, false, false, false, false, false, false, false, false, false, false, false, false, false, false, false, false, false, false, false, false, false, false, false, false, false, false, false, false, false, false, false, false, false, false, false, false, false, false, false, false, false, false, false, false, false, false, false, false, false, false, false, false, false, false, false, false, false, false, false, false, false, false, false, false, false]
def c8r20 : List AOper := [
 ⟨some 114, none, .load 3 true (.t 3)⟩,
 ⟨some 115, none, .mov (.t 15)⟩,
 ⟨some 116, none, .call 27 [(.t 114), (.t 115)]⟩,
 ⟨some 10, none, .mov (.t 116)⟩]
def c8r21 : List AOper := [
 ⟨some 117, none, .mov (.t 10)⟩,
 ⟨some 118, none, .cmp .neq (.t 117) (.c (.s (.int .i64 0)))⟩,
 ⟨some 119, none, .mov (.t 118)⟩,
 ⟨some 120, some (119, true), .mov (.t 10)⟩,
 ⟨some 121, some (119, true), .cmp .neq (.t 120) (.c (.s (.int .i64 14)))⟩,
 ⟨some 122, none, .pick (.t 119) (.t 121) (.c (.s (.bool false)))⟩]
def c8r22 : List AOper := [
 ⟨some 6, none, .mov (.c (.s (.bool false)))⟩]
def c8r23 : List AOper := [
 ⟨some 17, none, .mov (.c (.s (.int .i64 0)))⟩]
def c8r24 : List AOper := [
 ⟨some 123, none, .mov (.t 17)⟩,
 ⟨some 124, none, .mov (.t 15)⟩,
 ⟨some 125, none, .len false (.t 124)⟩,
 ⟨some 126, none, .cmp .lss (.t 123) (.t 125)⟩,
 ⟨some 127, none, .mov (.t 126)⟩,
 ⟨some 128, some (127, true), .mov (.t 10)⟩,
 ⟨some 129, some (127, true), .cmp .eql (.t 128) (.c (.s (.int .i64 0)))⟩,
 ⟨some 130, none, .pick (.t 127) (.t 129) (.c (.s (.bool false)))⟩]
def c8r25 : List AOper := [
 ⟨some 133, none, .mov (.t 7)⟩,
 ⟨some 134, none, .mov (.t 15)⟩,
 ⟨some 135, none, .mov (.t 17)⟩,
 ⟨some 136, none, .idxA 1 (.t 134) (.t 135)⟩,
 ⟨some 137, none, .load 1 false (.t 136)⟩,
 ⟨some 138, none, .idxA 1 (.t 133) (.t 137)⟩,
 ⟨some 139, none, .load 1 false (.t 138)⟩,
 ⟨some 140, none, .cmp .geq (.t 139) (.c (.s (.int .i64 0)))⟩]
def c8r26 : List AOper := [
 ⟨some 6, none, .mov (.c (.s (.bool false)))⟩]
def c8r27 : List AOper := [
 ⟨some 131, none, .mov (.t 17)⟩,
 ⟨some 132, none, .arith .add (.t 131) (.c (.s (.int .i64 1)))⟩,
 ⟨some 17, none, .mov (.t 132)⟩]
def c8l28 : ACode := (.seq (.seq (.reg 0 c8r24) (.cond (.t 130) .skip (.exit 2))) (.seq (.block 3 (.seq (.reg 0 c8r25) (.cond (.t 140) (.seq (.reg 0 c8r26) .ret) .skip))) (.reg 0 c8r27)))
def c8l28m : List Bool := [false, true, false, true, false, false, false, true, false, false, true, false, false, false, false, true, false, true, false, false, false, false, false, false, false, false, false, false, false, false, false, false, false, false, false, false, false, false, false, false, false, false, false, false, false, false, false, false, false, false, false, false, false, false, false, false, false, false, false, false, false, false, false, false, false, false, false, false, false, false, false, false, false, false, false, false, false, false, false, false, false, false, false, false, false, false, false, false, false, false, false, false, false, false, false, false, false, false, false, false, false, false, false, false, false, false, false, false, false, false, false, false, false, false, false, false, false, false, false, false, false, false, false, false, false, false, false, false, false, false, false, false, false, false, false, false, false, false, false, false, false, false, false, false, false, false, false, false, false, false, false, false, false, false, false, false, false, false, false, false, false, false, false, false, false, false, false, false, false, false, false, false, false, false, false, false, false, false, false, false, false, false, false, false, false, false, false, false, false, false, false, false, false, false, false, false, false, false]
def c8r29 : List AOper := [
 ⟨some 142, none, .load 3 true (.t 3)⟩,
 ⟨some 143, none, .mov (.t 1)⟩,
 ⟨some 144, none, .call 23 [(.t 142), (.t 143)]⟩,
 ⟨some 141, none, .mov (.t 144)⟩,
 ⟨some 145, none, .ext (.t 141) 0⟩,
 ⟨some 146, none, .ext (.t 141) 1⟩,
 ⟨some 11, none, .mov (.t 145)⟩,
 ⟨some 10, none, .mov (.t 146)⟩]
def c8r30 : List AOper := [
 ⟨some 147, none, .mov (.t 10)⟩,
 ⟨some 148, none, .cmp .neq (.t 147) (.c (.s (.int .i64 0)))⟩]
def c8r31 : List AOper := [
 ⟨some 149, none, .call 17 []⟩,
 ⟨some 6, none, .mov (.t 149)⟩]
def c8r32 : List AOper := [
 ⟨some 150, none, .mov (.t 1)⟩,
 ⟨some 151, none, .len false (.t 150)⟩,
 ⟨some 152, none, .mov (.t 7)⟩,
 ⟨some 153, none, .len false (.t 152)⟩,
 ⟨some 154, none, .cmp .neq (.t 151) (.t 153)⟩,
 ⟨some 155, none, .mov (.t 154)⟩,
 ⟨some 156, some (155, false), .mov (.t 11)⟩,
 ⟨some 157, some (155, false), .len false (.t 156)⟩,
 ⟨some 158, some (155, false), .mov (.t 7)⟩,
 ⟨some 159, some (155, false), .len false (.t 158)⟩,
 ⟨some 160, some (155, false), .cmp .gtr (.t 157) (.t 159)⟩,
 ⟨some 161, none, .pick (.t 155) (.c (.s (.bool true))) (.t 160)⟩]
def c8r33 : List AOper := [
 ⟨some 6, none, .mov (.c (.s (.bool false)))⟩]
def c8r34 : List AOper := [
 ⟨some 18, none, .mov (.c (.s (.int .i64 0)))⟩]
def c8r35 : List AOper := [
 ⟨some 162, none, .mov (.t 18)⟩,
 ⟨some 163, none, .mov (.t 7)⟩,
 ⟨some 164, none, .len false (.t 163)⟩,
 ⟨some 165, none, .cmp .lss (.t 162) (.t 164)⟩]
def c8r36 : List AOper := [
 ⟨some 168, none, .mov (.t 1)⟩,
 ⟨some 169, none, .mov (.t 18)⟩,
 ⟨some 170, none, .idxA 1 (.t 168) (.t 169)⟩,
 ⟨some 171, none, .load 1 false (.t 170)⟩,
 ⟨some 172, none, .cmp .geq (.t 171) (.c (.s (.int .i64 0)))⟩,
 ⟨some 173, none, .mov (.t 172)⟩,
 ⟨some 174, some (173, true), .mov (.t 7)⟩,
 ⟨some 175, some (173, true), .mov (.t 18)⟩,
 ⟨some 176, some (173, true), .idxA 1 (.t 174) (.t 175)⟩,
 ⟨some 177, some (173, true), .load 1 false (.t 176)⟩,
 ⟨some 178, some (173, true), .cmp .lss (.t 177) (.c (.s (.int .i64 0)))⟩,
 ⟨some 179, some (173, true), .mov (.t 178)⟩,
 ⟨some 180, some (179, false), .mov (.t 7)⟩,
 ⟨some 181, some (179, false), .mov (.t 18)⟩,
 ⟨some 182, some (179, false), .idxA 1 (.t 180) (.t 181)⟩,
 ⟨some 183, some (179, false), .load 1 false (.t 182)⟩,
 ⟨some 184, some (179, false), .mov (.t 1)⟩,
 ⟨some 185, some (179, false), .mov (.t 18)⟩,
 ⟨some 186, some (179, false), .idxA 1 (.t 184) (.t 185)⟩,
 ⟨some 187, some (179, false), .load 1 false (.t 186)⟩,
 ⟨some 188, some (179, false), .cmp .gtr (.t 183) (.t 187)⟩,
 ⟨some 189, some (173, true), .pick (.t 179) (.c (.s (.bool true))) (.t 188)⟩,
 ⟨some 190, some (173, true), .mov (.t 189)⟩,
 ⟨some 191, some (190, false), .mov (.t 11)⟩,
 ⟨some 192, some (190, false), .mov (.t 18)⟩,
 ⟨some 193, some (190, false), .call 49 [(.t 191), (.t 192)]⟩,
 ⟨some 194, some (190, false), .not (.t 193)⟩,
 ⟨some 195, some (173, true), .pick (.t 190) (.c (.s (.bool true))) (.t 194)⟩,
 ⟨some 196, none, .pick (.t 173) (.t 195) (.c (.s (.bool false)))⟩]
def c8r37 : List AOper := [
 ⟨some 6, none, .mov (.c (.s (.bool false)))⟩]
def c8r38 : List AOper := [
 ⟨some 166, none, .mov (.t 18)⟩,
 ⟨some 167, none, .arith .add (.t 166) (.c (.s (.int .i64 1)))⟩,
 ⟨some 18, none, .mov (.t 167)⟩]
def c8l39 : ACode := (.seq (.seq (.reg 0 c8r35) (.cond (.t 165) .skip (.exit 4))) (.seq (.block 5 (.seq (.reg 0 c8r36) (.cond (.t 196) (.seq (.reg 0 c8r37) .ret) .skip))) (.reg 0 c8r38)))
def c8l39m : List Bool := [false, true, false, false, false, false, false, true, false, false, false, true, false, false, false, false, false, false, true, false, false, false, false, false, false, false, false, false, false, false, false, false, false, false, false, false, false, false, false, false, false, false, false, false, false, false, false, false, false, false, false, false, false, false, false, false, false, false, false, false, false, false, false, false, false, false, false, false, false, false, false, false, false, false, false, false, false, false, false, false, false, false, false, false, false, false, false, false, false, false, false, false, false, false, false, false, false, false, false, false, false, false, false, false, false, false, false, false, false, false, false, false, false, false, false, false, false, false, false, false, false, false, false, false, false, false, false, false, false, false, false, false, false, false, false, false, false, false, false, false, false, false, false, false, false, false, false, false, false, false, false, false, false, false, false, false, false, false, false, false, false, false, false, false, false, false, false, false, false, false, false, false, false, false, false, false, false, false, false, false, false, false, false, false, false, false, false, false, false, false, false, false, false, false, false, false, false, false]
def c8r40 : List AOper := [
 ⟨some 197, none, .call 17 []⟩,
 ⟨some 6, none, .mov (.t 197)⟩]
def f8 : FRow := ⟨(.seq (.reg 0 c8r0) (.seq (.seq (.reg 0 c8r1) (.cond (.t 26) (.seq (.reg 0 c8r2) .ret) .skip)) (.seq (.reg 0 c8r3) (.seq (.reg 0 c8r4) (.seq (.seq (.reg 0 c8r5) (.cond (.t 55) (.seq (.reg 0 c8r6) .ret) .skip)) (.seq (.reg 0 c8r7) (.seq (.reg 0 c8r8) (.seq (.seq (.reg 0 c8r9) (.cond (.t 89) (.seq (.reg 0 c8r10) .ret) .skip)) (.seq (.reg 0 c8r11) (.seq (.seq (.reg 0 c8r12) (.block 0 (.loop c8l19m [(15, none, 0)] c8l19))) (.seq (.reg 0 c8r20) (.seq (.seq (.reg 0 c8r21) (.cond (.t 122) (.seq (.reg 0 c8r22) .ret) .skip)) (.seq (.seq (.reg 0 c8r23) (.block 2 (.loop c8l28m [] c8l28))) (.seq (.reg 0 c8r29) (.seq (.seq (.reg 0 c8r30) (.cond (.t 148) (.seq (.reg 0 c8r31) .ret) .skip)) (.seq (.seq (.reg 0 c8r32) (.cond (.t 161) (.seq (.reg 0 c8r33) .ret) .skip)) (.seq (.seq (.reg 0 c8r34) (.block 4 (.loop c8l39m [] c8l39))) (.seq (.reg 0 c8r40) .ret)))))))))))))))))), [.tmp 6], 198⟩
theorem okf8 : f8.Ok Try.prog 8 := ⟨_, _, Try.func8, rfl, by kernel_rfl, by kernel_rfl, by kernel_rfl⟩


end Go.Proofs.Ytglmjdpmpgphkaa.Sk

/- SkillProved, reckoned: at every machine, list of ranks and bits of a keep it answers true. -/
namespace Go.Proofs.Ytglmjdpmpgphkaa.Sk
open Go Go.E Go.E.Sm
set_option maxRecDepth 10000

set_option maxHeartbeats 4000000 in
theorem law8 {pl wn : List Bool} {mv : List (List Int)} {R : List Int} {b : Int} : E.Fn Try.prog 8 [mach pl mv wn, ints R, .int .u16 b] [.bool true] := by
  refine fn_of_row okf8 ?_
  simp only [FRow.start, f8, c8r0, c8r1, mach, bools, ints, go_sem, ↓reduceIte, reduceCtorEq, Nat.reduceAdd, Nat.reduceSub, Nat.reduceLT, Nat.reduceLeDiff]
  refine callK_of rfl (k47 (pl := pl) (mv := mv) (wn := wn)) (.inl rfl) ?_
  have wk : ∀ (H : List ABlock) (k : AK), k (LV.ofResults [.bool true]) H none True → callK Try.prog H 17 [] k := fun H k hk => callK_of rfl works_ok (.inl rfl) hk
  cases hf : (!greatB pl mv wn && decide (chkM pl mv wn = 0)) with
  | false =>
    simp only [c8r2, go_sem, ↓reduceIte, reduceCtorEq, Nat.reduceAdd, Nat.reduceSub, Nat.reduceLT, Nat.reduceLeDiff]
    refine wk _ _ ?_
    simp only [go_sem, ↓reduceIte, reduceCtorEq, Nat.reduceAdd, Nat.reduceSub, Nat.reduceLT, Nat.reduceLeDiff]
  | true =>
    simp only [Bool.and_eq_true, decide_eq_true_eq] at hf
    have hv := valid_of hf.2
    have h1 := hv.few
    have h2 := hv.pos
    simp only [go_sem, ↓reduceIte, reduceCtorEq, Nat.reduceAdd, Nat.reduceSub, Nat.reduceLT, Nat.reduceLeDiff]
    intro hRl
    have hRl' : (R.length : Int) ≤ 2 ^ 63 - 1 := Int.le_trans (Int.ofNat_le.mpr hRl) maxLen_le
    refine ⟨fun hR => ?_, fun hR => ?_⟩
    · simp only [c8r2, go_sem, ↓reduceIte, reduceCtorEq, Nat.reduceAdd, Nat.reduceSub, Nat.reduceLT, Nat.reduceLeDiff]
      refine wk _ _ ?_
      simp only [go_sem, ↓reduceIte, reduceCtorEq, Nat.reduceAdd, Nat.reduceSub, Nat.reduceLT, Nat.reduceLeDiff]
    · have hdl := distW_len hv
      have hrk := ranks_dist hv
      have hkk := fun x h0 h1 => has_keep (pl := pl) (mv := mv) (wn := wn) (x := x) h0 h1
      have hck := ck_keep hv
      have hkd := fun K hK => keep_dist hv (K := K) hK
      have hrc := ranks_cases hv (R := R)
      have hkr := keep_res hv
      have hboth : (outP (fun i => decide (0 ≤ getI (distW pl mv wn) i)) mv.length).length + (keepL pl mv wn).length = mv.length := outP_both _ _ _ fun i _ => by
        by_cases h : 0 ≤ getI (distW pl mv wn) i <;> simp [h] <;> omega
      simp only [c8r3, go_sem, ↓reduceIte, reduceCtorEq, Nat.reduceAdd, Nat.reduceSub, Nat.reduceLT, Nat.reduceLeDiff]
      refine callK_of rfl (k48 (pl := pl) (mv := mv) (wn := wn) hv) (.inr rfl) ?_
      simp only [c8r4, go_sem, ↓reduceIte, reduceCtorEq, Nat.reduceAdd, Nat.reduceSub, Nat.reduceLT, Nat.reduceLeDiff]
      refine callK_of rfl (k25 (pl := pl) (mv := mv) (wn := wn)) (.inr rfl) ?_
      rw [hkr]
      simp only [c8r5, go_sem, ↓reduceIte, reduceCtorEq, Nat.reduceAdd, Nat.reduceSub, Nat.reduceLT, Nat.reduceLeDiff]
      refine callK_of rfl (k27 (pl := pl) (mv := mv) (wn := wn) (K := keepL pl mv wn)) (.inl rfl) ?_
      rw [hck]
      simp only [go_sem, ↓reduceIte, reduceCtorEq, Nat.reduceAdd, Nat.reduceSub, Nat.reduceLT, Nat.reduceLeDiff]
      refine callK_of rfl (k28 (pl := pl) (mv := mv) (wn := wn) (K := keepL pl mv wn)) (.inl rfl) ?_
      rw [hck]
      simp only [c8r7, go_sem, ↓reduceIte, reduceCtorEq, Nat.reduceAdd, Nat.reduceSub, Nat.reduceLT, Nat.reduceLeDiff]
      refine callK_of rfl (k23 (pl := pl) (mv := mv) (wn := wn) (R := distW pl mv wn)) (.inr rfl) ?_
      rw [hrk]
      simp only [c8r8, go_sem, ↓reduceIte, reduceCtorEq, Nat.reduceAdd, Nat.reduceSub, Nat.reduceLT, Nat.reduceLeDiff]
      refine callK_of rfl (k24 (pl := pl) (mv := mv) (wn := wn) (R := distW pl mv wn)) (.inr rfl) ?_
      rw [hrk]
      generalize hL : outP (fun i => decide (0 ≤ getI (distW pl mv wn) i)) mv.length = L at *
      generalize hK : keepL pl mv wn = K at *
      generalize hD : distW pl mv wn = D at *
      simp only [c8r9, ints, go_sem, ↓reduceIte, reduceCtorEq, Nat.reduceAdd, Nat.reduceSub, Nat.reduceLT, Nat.reduceLeDiff]
      refine callK_of rfl (k22 (a := L) (b := L)) (.inl rfl) ?_
      simp only [Int.natCast_inj, go_sem, ↓reduceIte, reduceCtorEq, Nat.reduceAdd, Nat.reduceSub, Nat.reduceLT, Nat.reduceLeDiff]
      have hlk : (L.length : Int) + K.length = D.length := by omega
      simp only [c8r11, c8r12, go_sem, ↓reduceIte, reduceCtorEq, Nat.reduceAdd, Nat.reduceSub, Nat.reduceLT, Nat.reduceLeDiff]
      refine ⟨inR_i64 (by omega) (by omega), fun _ => ⟨fun _ => ?_, fun hn => absurd hlk hn⟩⟩
      generalize hq : (fun x : Int => decide (bitOf .u16 (b.fdiv (2 ^ x.toNat)) 1 .and = 1)) = q
      have hq' : ∀ x, q x = decide (bitOf .u16 (b.fdiv (2 ^ x.toNat)) 1 .and = 1) := fun x => by rw [← hq]
      refine loop_rule (fun n τ => ∃ i : Nat, n = mv.length - i ∧ i ≤ mv.length ∧
        τ = ⟨[.any, .s (.slice (R.map (.int .i64))), .s (.int .u16 b), .s (.ptr [.slice (pl.map .bool), .slice (mv.map ints), .slice (wn.map .bool)]), .any, .any, .any, .s (.slice (D.map (.int .i64))), .any, .s (.slice (K.map (.int .i64))), .any, .any, .any, .any, .any, .sl 0 0 (outP q i).length 1 false, .s (.int .i64 i), .any, .any, .any, .any, .any, .any, .any, .any, .any, .any, .any, .any, .any, .any, .any, .any, .any, .any, .any, .any, .any, .any, .any, .any, .any, .any, .any, .any, .any, .any, .any, .any, .any, .any, .any, .any, .any, .any, .any, .any, .any, .any, .any, .any, .any, .any, .any, .any, .any, .any, .any, .any, .any, .any, .any, .any, .any, .any, .any, .any, .any, .any, .any, .any, .any, .any, .any, .any, .any, .any, .any, .any, .any, .any, .any, .any, .any, .any, .any, .any, .any, .any, .any, .any, .any, .any, .any, .any, .any, .any, .any, .any, .any, .any, .any, .any, .any, .any, .any, .any, .any, .any, .any, .any, .any, .any, .any, .any, .any, .any, .any, .any, .any, .any, .any, .any, .any, .any, .any, .any, .any, .any, .any, .any, .any, .any, .any, .any, .any, .any, .any, .any, .any, .any, .any, .any, .any, .any, .any, .any, .any, .any, .any, .any, .any, .any, .any, .any, .any, .any, .any, .any, .any, .any, .any, .any, .any, .any, .any, .any, .any, .any, .any, .any, .any, .any, .any, .any, .any, .any, .any, .any, .any, .any, .any, .any, .any, .any, .any, .any, .any], [.row ((outP q i).map (SV.int .i64))]⟩) mv.length (promo_one rfl) ?_ ?_
      · simp only [c8l19m, go_sem, ↓reduceIte, reduceCtorEq, Nat.reduceAdd, Nat.reduceSub, Nat.reduceLT, Nat.reduceLeDiff]
        exact ⟨0, rfl, Nat.zero_le _, by simp [outP]⟩
      · rintro I n τ ⟨i, rfl, hi, rfl⟩ hI
        have hos := outP_succ q i
        have hol := outP_len q i
        rw [hq'] at hos
        generalize hO : outP q i = O at *
        simp only [c8l19, c8r13, hdl, go_sem, ↓reduceIte, reduceCtorEq, Nat.reduceAdd, Nat.reduceSub, Nat.reduceLT, Nat.reduceLeDiff]
        intro _
        refine ⟨fun hlt => ?_, fun hge => ?_⟩
        · have hlt' : i < mv.length := by omega
          have hx := getI_nat (W := D) (i := i) (by omega)
          have hx2 : i < D.length := by omega
          have hh := hkk i (by omega) (by omega)
          simp only [c8r14, go_sem, ↓reduceIte, reduceCtorEq, Nat.reduceAdd, Nat.reduceSub, Nat.reduceLT, Nat.reduceLeDiff]
          have tail : ∀ O' : List Int, outP q (i + 1) = O' → I ⟨[.any, .s (.slice (R.map (.int .i64))), .s (.int .u16 b), .s (.ptr [.slice (pl.map .bool), .slice (mv.map ints), .slice (wn.map .bool)]), .any, .any, .any, .s (.slice (D.map (.int .i64))), .any, .s (.slice (K.map (.int .i64))), .any, .any, .any, .any, .any, .sl 0 0 O'.length 1 false, .s (.int .i64 (i + 1)), .any, .any, .any, .any, .any, .any, .any, .any, .any, .any, .any, .any, .any, .any, .any, .any, .any, .any, .any, .any, .any, .any, .any, .any, .any, .any, .any, .any, .any, .any, .any, .any, .any, .any, .any, .any, .any, .any, .any, .any, .any, .any, .any, .any, .any, .any, .any, .any, .any, .any, .any, .any, .any, .any, .any, .any, .any, .any, .any, .any, .any, .any, .any, .any, .any, .any, .any, .any, .any, .any, .any, .any, .any, .any, .any, .any, .any, .any, .any, .any, .any, .any, .any, .any, .any, .any, .any, .any, .any, .any, .any, .any, .any, .any, .any, .any, .any, .any, .any, .any, .any, .any, .any, .any, .any, .any, .any, .any, .any, .any, .any, .any, .any, .any, .any, .any, .any, .any, .any, .any, .any, .any, .any, .any, .any, .any, .any, .any, .any, .any, .any, .any, .any, .any, .any, .any, .any, .any, .any, .any, .any, .any, .any, .any, .any, .any, .any, .any, .any, .any, .any, .any, .any, .any, .any, .any, .any, .any, .any, .any, .any, .any, .any, .any, .any, .any, .any, .any, .any, .any, .any, .any, .any, .any, .any, .any, .any, .any, .any, .any, .any], [.row (O'.map (SV.int .i64))]⟩ := fun O' h => by
            subst h
            exact hI (mv.length - (i + 1)) _ (by omega) ⟨i + 1, rfl, by omega, by simp⟩
          refine ⟨by omega, fun hb => ?_, fun hb => ?_⟩
          · rw [if_pos (by simpa using hb)] at hos
            simp only [c8r15, go_sem, ↓reduceIte, reduceCtorEq, Nat.reduceAdd, Nat.reduceSub, Nat.reduceLT, Nat.reduceLeDiff]
            refine ⟨by decide, by decide, rfl, one1, one1, by omega, by omega, by omega, ?_⟩
            rw [app_map]
            simp only [c8r16, hx, hx2, go_sem, ↓reduceIte, reduceCtorEq, Nat.reduceAdd, Nat.reduceSub, Nat.reduceLT, Nat.reduceLeDiff]
            refine callK_of rfl (k49 (xs := K) (v := i)) (.inl rfl) ?_
            rw [hh]
            simp only [c8r18, c8l19m, go_sem, ↓reduceIte, reduceCtorEq, Nat.reduceAdd, Nat.reduceSub, Nat.reduceLT, Nat.reduceLeDiff]
            exact ⟨inR_i64 (by omega) (by omega), by have := tail (O ++ [(i : Int)]) hos; simpa using this⟩
          · rw [if_neg (by simpa using hb)] at hos
            simp only [c8r16, hx, hx2, go_sem, ↓reduceIte, reduceCtorEq, Nat.reduceAdd, Nat.reduceSub, Nat.reduceLT, Nat.reduceLeDiff]
            refine callK_of rfl (k49 (xs := K) (v := i)) (.inl rfl) ?_
            rw [hh]
            simp only [c8r18, c8l19m, go_sem, ↓reduceIte, reduceCtorEq, Nat.reduceAdd, Nat.reduceSub, Nat.reduceLT, Nat.reduceLeDiff]
            exact ⟨inR_i64 (by omega) (by omega), tail O hos⟩
        · have hie : i = mv.length := by omega
          subst hie
          simp only [c8r20, go_sem, ↓reduceIte, reduceCtorEq, Nat.reduceAdd, Nat.reduceSub, Nat.reduceLT, Nat.reduceLeDiff]
          have hso : sliceOf 0 O.length 1 (O.map (SV.int .i64)) = some (.slice (O.map (SV.int .i64))) := sliceOf_all (by simp)
          refine callK_of (by simp only [hso, mach, bools, ints, go_sem, ↓reduceIte, reduceCtorEq, Nat.reduceAdd, Nat.reduceSub, Nat.reduceLT, Nat.reduceLeDiff]) (k27 (pl := pl) (mv := mv) (wn := wn) (K := O)) (.inl rfl) ?_
          have hc1 : ckR pl mv wn O = 0 ∨ ckR pl mv wn O = 14 := by rw [← hO]; exact ck_own hv
          have hd1 := hkd O
          generalize ckR pl mv wn O = e at *
          have hmO : ∀ x ∈ O, 0 ≤ x ∧ x < mv.length := fun x hx => by rw [← hO] at hx; exact (mem_outP.1 hx).1
          have hol2 : O.length ≤ 14 := by omega
          simp only [c8r21, go_sem, ↓reduceIte, reduceCtorEq, Nat.reduceAdd, Nat.reduceSub, Nat.reduceLT, Nat.reduceLeDiff]
          refine ⟨fun he => ?_, fun he => ⟨fun he2 => ?_, fun he2 => absurd hc1 (by omega)⟩⟩
          all_goals
            simp only [c8r23, go_sem, ↓reduceIte, reduceCtorEq, Nat.reduceAdd, Nat.reduceSub, Nat.reduceLT, Nat.reduceLeDiff]
            refine loop_rule (fun n τ => ∃ i : Nat, n = O.length - i ∧ i ≤ O.length ∧
              τ = ⟨[.any, .s (.slice (R.map (.int .i64))), .any, .s (.ptr [.slice (pl.map .bool), .slice (mv.map ints), .slice (wn.map .bool)]), .any, .any, .any, .s (.slice (D.map (.int .i64))), .any, .any, .s (.int .i64 e), .any, .any, .any, .any, .sl 0 0 O.length 1 false, .any, .s (.int .i64 i), .any, .any, .any, .any, .any, .any, .any, .any, .any, .any, .any, .any, .any, .any, .any, .any, .any, .any, .any, .any, .any, .any, .any, .any, .any, .any, .any, .any, .any, .any, .any, .any, .any, .any, .any, .any, .any, .any, .any, .any, .any, .any, .any, .any, .any, .any, .any, .any, .any, .any, .any, .any, .any, .any, .any, .any, .any, .any, .any, .any, .any, .any, .any, .any, .any, .any, .any, .any, .any, .any, .any, .any, .any, .any, .any, .any, .any, .any, .any, .any, .any, .any, .any, .any, .any, .any, .any, .any, .any, .any, .any, .any, .any, .any, .any, .any, .any, .any, .any, .any, .any, .any, .any, .any, .any, .any, .any, .any, .any, .any, .any, .any, .any, .any, .any, .any, .any, .any, .any, .any, .any, .any, .any, .any, .any, .any, .any, .any, .any, .any, .any, .any, .any, .any, .any, .any, .any, .any, .any, .any, .any, .any, .any, .any, .any, .any, .any, .any, .any, .any, .any, .any, .any, .any, .any, .any, .any, .any, .any, .any, .any, .any, .any, .any, .any, .any, .any, .any, .any, .any, .any, .any, .any, .any, .any, .any, .any, .any, .any, .any], [.row (O.map (SV.int .i64))]⟩) O.length rfl ?_ ?_
            · simp only [c8l28m, go_sem, ↓reduceIte, reduceCtorEq, Nat.reduceAdd, Nat.reduceSub, Nat.reduceLT, Nat.reduceLeDiff]
              exact ⟨0, rfl, Nat.zero_le _, rfl⟩
            · rintro I n τ ⟨i, rfl, hi, rfl⟩ hI
              simp only [c8l28, c8r24, go_sem, ↓reduceIte, reduceCtorEq, Nat.reduceAdd, Nat.reduceSub, Nat.reduceLT, Nat.reduceLeDiff]
              refine ⟨fun hlt _ => ⟨fun he0 => ?_, fun _ => ?_⟩, fun _ _ => ?_⟩
              · have hx := getI_nat hlt
                have hxm := hmO _ (List.mem_of_getElem? hx)
                have hdx := hd1 he0 _ (List.mem_of_getElem? hx)
                generalize getI O i = x at *
                have hy := getI_get (W := D) (x := x) hxm.1 (by omega)
                have hy2 : x.toNat < D.length := by omega
                have hn : decide (0 ≤ getI D x) = false := by simp; omega
                simp only [c8r25, Nat.mul_one, hx, hlt, hy, hy2, hn, c8r27, c8l28m, go_sem, ↓reduceIte, reduceCtorEq, Nat.reduceAdd, Nat.reduceSub, Nat.reduceLT, Nat.reduceLeDiff]
                exact ⟨hxm.1, inR_i64 (by omega) (by omega), hI (O.length - (i + 1)) _ (by omega) ⟨i + 1, rfl, by omega, by simp⟩⟩
              all_goals
                simp only [c8r29, ints, go_sem, ↓reduceIte, reduceCtorEq, Nat.reduceAdd, Nat.reduceSub, Nat.reduceLT, Nat.reduceLeDiff]
                refine callK_of (by simp only [mach, bools, ints, go_sem, ↓reduceIte, reduceCtorEq, Nat.reduceAdd, Nat.reduceSub, Nat.reduceLT, Nat.reduceLeDiff]) (k23 (pl := pl) (mv := mv) (wn := wn) (R := R)) (.inr (by simp only [mach, bools, ints, go_sem, ↓reduceIte, reduceCtorEq, Nat.reduceAdd, Nat.reduceSub, Nat.reduceLT, Nat.reduceLeDiff])) ?_
                rcases hrc with ⟨e', he', hrr⟩ | ⟨hlR, hRD, hrr⟩
                · rw [hrr]
                  simp only [c8r30, he', c8r31, go_sem, ↓reduceIte, reduceCtorEq, Nat.reduceAdd, Nat.reduceSub, Nat.reduceLT, Nat.reduceLeDiff]
                  refine wk _ _ ?_
                  simp only [go_sem, ↓reduceIte, reduceCtorEq, Nat.reduceAdd, Nat.reduceSub, Nat.reduceLT, Nat.reduceLeDiff]
                · rw [hrr]
                  have hll := outP_len (fun i => decide (0 ≤ getI R i)) mv.length
                  have hhl := fun x h0 h1 => has_outP (q := fun i => decide (0 ≤ getI R i)) (m := mv.length) (x := x) h0 h1
                  generalize outP (fun i => decide (0 ≤ getI R i)) mv.length = L2 at *
                  have hRD2 : R.length = D.length := by omega
                  have hL2 : ¬ (D.length < L2.length) := by omega
                  simp only [c8r30, c8r32, hRD2, hL2, c8r34, ints, go_sem, ↓reduceIte, reduceCtorEq, Nat.reduceAdd, Nat.reduceSub, Nat.reduceLT, Nat.reduceLeDiff]
                  intro _
                  refine loop_rule (fun n τ => ∃ i : Nat, n = mv.length - i ∧ i ≤ mv.length ∧
                    τ = ⟨[.any, .s (.slice (R.map (.int .i64))), .any, .any, .any, .any, .any, .s (.slice (D.map (.int .i64))), .any, .any, .any, .s (.slice (L2.map (.int .i64))), .any, .any, .any, .any, .any, .any, .s (.int .i64 i), .any, .any, .any, .any, .any, .any, .any, .any, .any, .any, .any, .any, .any, .any, .any, .any, .any, .any, .any, .any, .any, .any, .any, .any, .any, .any, .any, .any, .any, .any, .any, .any, .any, .any, .any, .any, .any, .any, .any, .any, .any, .any, .any, .any, .any, .any, .any, .any, .any, .any, .any, .any, .any, .any, .any, .any, .any, .any, .any, .any, .any, .any, .any, .any, .any, .any, .any, .any, .any, .any, .any, .any, .any, .any, .any, .any, .any, .any, .any, .any, .any, .any, .any, .any, .any, .any, .any, .any, .any, .any, .any, .any, .any, .any, .any, .any, .any, .any, .any, .any, .any, .any, .any, .any, .any, .any, .any, .any, .any, .any, .any, .any, .any, .any, .any, .any, .any, .any, .any, .any, .any, .any, .any, .any, .any, .any, .any, .any, .any, .any, .any, .any, .any, .any, .any, .any, .any, .any, .any, .any, .any, .any, .any, .any, .any, .any, .any, .any, .any, .any, .any, .any, .any, .any, .any, .any, .any, .any, .any, .any, .any, .any, .any, .any, .any, .any, .any, .any, .any, .any, .any, .any, .any, .any, .any, .any, .any, .any, .any], [.row (O.map (SV.int .i64))]⟩) mv.length rfl ?_ ?_
                  · simp only [c8l39m, go_sem, ↓reduceIte, reduceCtorEq, Nat.reduceAdd, Nat.reduceSub, Nat.reduceLT, Nat.reduceLeDiff]
                    exact ⟨0, rfl, Nat.zero_le _, rfl⟩
                  · rintro I n τ ⟨i, rfl, hi, rfl⟩ hI
                    simp only [c8l39, c8r35, hdl, go_sem, ↓reduceIte, reduceCtorEq, Nat.reduceAdd, Nat.reduceSub, Nat.reduceLT, Nat.reduceLeDiff]
                    intro _
                    refine ⟨fun hlt => ?_, fun hge => ?_⟩
                    · have hlt' : i < mv.length := by omega
                      have hx := getI_nat (W := D) (i := i) (by omega)
                      have hx2 : i < D.length := by omega
                      have hy := getI_nat (W := R) (i := i) (by omega)
                      have hy2 : i < R.length := by omega
                      have hh := hhl i (by omega) (by omega)
                      have hrd := hRD i hlt'
                      generalize getI D i = x at *
                      generalize getI R i = y at *
                      simp only [c8r36, hx, hx2, hy, hy2, ints, go_sem, ↓reduceIte, reduceCtorEq, Nat.reduceAdd, Nat.reduceSub, Nat.reduceLT, Nat.reduceLeDiff]
                      refine ⟨fun h0 => ⟨fun h1 => absurd h1 (by omega), fun _ => ⟨fun h1 => absurd h1 (by omega), fun _ => ?_⟩⟩, fun h0 => ?_⟩
                      · refine callK_of (by simp only [ints, go_sem, ↓reduceIte, reduceCtorEq, Nat.reduceAdd, Nat.reduceSub, Nat.reduceLT, Nat.reduceLeDiff]) (k49 (xs := L2) (v := i)) (.inl rfl) ?_
                        have h0' : decide (0 ≤ y) = true := by simpa using h0
                        rw [hh, h0']
                        simp only [c8r38, c8l39m, go_sem, ↓reduceIte, reduceCtorEq, Nat.reduceAdd, Nat.reduceSub, Nat.reduceLT, Nat.reduceLeDiff]
                        exact ⟨inR_i64 (by omega) (by omega), hI (mv.length - (i + 1)) _ (by omega) ⟨i + 1, rfl, by omega, by simp⟩⟩
                      · simp only [c8r38, c8l39m, go_sem, ↓reduceIte, reduceCtorEq, Nat.reduceAdd, Nat.reduceSub, Nat.reduceLT, Nat.reduceLeDiff]
                        exact ⟨inR_i64 (by omega) (by omega), hI (mv.length - (i + 1)) _ (by omega) ⟨i + 1, rfl, by omega, by simp⟩⟩
                    · simp only [c8r40, go_sem, ↓reduceIte, reduceCtorEq, Nat.reduceAdd, Nat.reduceSub, Nat.reduceLT, Nat.reduceLeDiff]
                      refine wk _ _ ?_
                      simp only [go_sem, ↓reduceIte, reduceCtorEq, Nat.reduceAdd, Nat.reduceSub, Nat.reduceLT, Nat.reduceLeDiff]
end Go.Proofs.Ytglmjdpmpgphkaa.Sk
