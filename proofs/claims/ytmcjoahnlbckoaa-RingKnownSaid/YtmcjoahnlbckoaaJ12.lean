/- The code of a law in the value semantics. -/
import Derived.Test.YtmcjoahnlbckoaaJ11

set_option linter.all false

namespace Go.Proofs.Ytmcjoahnlbckoaa.Sk
open Go Go.E
def c16r0 : List AOper := [
 oP 0 (.mov bF)]
def c16r1 : List AOper := [
 oP 30 (.call 54 []),
 oP 31 (.call 55 []),
 oP 1 (.alloc [(.full []), (.full [])]),
 oP 2 (.alloc [(.full []), (.full [])]),
 ⟨none, none, .store 2 (.t 1) (.t 30)⟩,
 ⟨none, none, .store 2 (.t 2) (.t 31)⟩]
def c16r2 : List AOper := [
 oP 32 (.load 2 true (.t 1)),
 oP 33 (.call 25 [(.t 32), (nI 1), (nI 2)]),
 oM 3 33]
def c16r3 : List AOper := [
 oP 35 (.load 2 true (.t 1)),
 oP 36 (.buildSl 1 4 (.int .i64 0) [(0, (nI 0)), (1, (nI 1)), (2, (nI 2)), (3, (nI 2))]),
 oP 37 (.call 56 [(.t 36)]),
 oP 38 (.call 19 [(.t 35), (.t 37)]),
 oM 34 38,
 oP 39 (.ext (.t 34) 0),
 oP 40 (.ext (.t 34) 1),
 oM 4 39,
 oM 5 40]
def c16r4 : List AOper := [
 oP 42 (.load 2 true (.t 1)),
 oP 43 (.buildSl 1 3 (.int .i64 0) [(0, (nI 0)), (1, (nI 1)), (2, (nI 2))]),
 oP 44 (.call 56 [(.t 43)]),
 oP 45 (.call 19 [(.t 42), (.t 44)]),
 oM 41 45,
 oP 46 (.ext (.t 41) 0),
 oP 47 (.ext (.t 41) 1),
 oM 6 46,
 oM 7 47]
def c16r5 : List AOper := [
 oP 49 (.load 2 true (.t 1)),
 oP 50 (.buildSl 1 4 (.int .i64 0) [(0, (nI 8)), (1, (nI 1)), (2, (nI 2)), (3, (nI 2))]),
 oP 51 (.call 56 [(.t 50)]),
 oP 52 (.call 19 [(.t 49), (.t 51)]),
 oM 48 52,
 oP 53 (.ext (.t 48) 0),
 oP 54 (.ext (.t 48) 1),
 oM 8 53,
 oM 9 54]
def c16r6 : List AOper := [
 oP 56 (.load 2 true (.t 1)),
 oP 57 (.call 27 [(.t 56)]),
 oM 55 57,
 oP 58 (.ext (.t 55) 0),
 oP 59 (.ext (.t 55) 1),
 oM 10 58,
 oM 11 59]
def c16r7 : List AOper := [
 oP 61 (.load 2 true (.t 1)),
 oP 62 (.call 31 [(.t 61), (nI 3)]),
 oM 60 62,
 oP 63 (.ext (.t 60) 0),
 oP 64 (.ext (.t 60) 1),
 oM 12 63,
 oM 13 64]
def c16r8 : List AOper := [
 oP 66 (.load 2 true (.t 1)),
 oP 67 (.call 31 [(.t 66), (nI 2)]),
 oM 65 67,
 oP 68 (.ext (.t 65) 0),
 oP 69 (.ext (.t 65) 1),
 oM 14 68,
 oM 15 69]
def c16r9 : List AOper := [
 oP 71 (.load 2 true (.t 2)),
 oP 72 (.call 31 [(.t 71), (nI 2)]),
 oM 70 72,
 oP 73 (.ext (.t 70) 0),
 oP 74 (.ext (.t 70) 1),
 oM 16 73,
 oM 17 74]
def c16r10 : List AOper := [
 oP 76 (.load 2 true (.t 2)),
 oP 77 (.call 34 [(.t 76)]),
 oM 75 77,
 oP 78 (.ext (.t 75) 0),
 oP 79 (.ext (.t 75) 1),
 oM 18 78,
 oM 19 79]
def c16r11 : List AOper := [
 oP 80 (.load 2 true (.t 1)),
 oP 81 (.buildSl 1 3 (.int .i64 0) [(0, (nI 0)), (1, (nI 1)), (2, (nI 3))]),
 oP 82 (.call 56 [(.t 81)]),
 oP 83 (.call 38 [(.t 80), (.t 82)]),
 oM 20 83]
def c16r12 : List AOper := [
 oP 84 (.load 2 true (.t 2)),
 oP 85 (.buildSl 1 5 (.int .i64 0) [(0, (nI 0)), (1, (nI 1)), (2, (nI 2)), (3, (nI 3)), (4, (nI 4))]),
 oP 86 (.call 56 [(.t 85)]),
 oP 87 (.call 40 [(.t 84), (.t 86)]),
 oP 88 (.load 2 true (.t 1)),
 oP 89 (.buildSl 1 3 (.int .i64 0) [(0, (nI 2)), (1, (nI 1)), (2, (nI 0))]),
 oP 90 (.call 56 [(.t 89)]),
 oP 91 (.call 40 [(.t 88), (.t 90)]),
 oM 21 87,
 oM 22 91]
def c16r13 : List AOper := [
 oP 93 (.load 2 true (.t 2)),
 oP 94 (.call 21 [(.t 93)]),
 oM 92 94,
 oP 95 (.ext (.t 92) 0),
 oP 96 (.ext (.t 92) 1),
 oP 97 (.ext (.t 92) 2),
 oM 23 95,
 oM 24 96,
 oM 25 97]
def c16r14 : List AOper := [
 oP 99 (.load 2 true (.t 1)),
 oP 100 (.call 43 [(.t 99), (nI 0), (nI 1)]),
 oM 98 100,
 oP 101 (.ext (.t 98) 0),
 oP 102 (.ext (.t 98) 1),
 oM 26 101,
 oM 27 102]
def c16r15 : List AOper := [
 oP 104 (.load 2 true (.t 2)),
 oP 105 (.call 43 [(.t 104), (nI 0), (nI 0)]),
 oM 103 105,
 oP 106 (.ext (.t 103) 0),
 oP 107 (.ext (.t 103) 1),
 oM 28 106,
 oM 29 107]
def c16r16 : List AOper := [
 oM 108 3,
 oP 109 (.cmp .eql (.t 108) (nI 23)),
 oM 110 109,
 oH 111 110 true 5,
 oG 112 110 true (.cmp .eql (.t 111) (nI 0)),
 oP 113 (.pick (.t 110) (.t 112) bF),
 oM 114 113,
 oH 115 114 true 4,
 oG 116 114 true (.cmp .eql (.t 115) (nI 3)),
 oP 117 (.pick (.t 114) (.t 116) bF),
 oM 118 117,
 oH 119 118 true 7,
 oG 120 118 true (.cmp .eql (.t 119) (nI 15)),
 oP 121 (.pick (.t 118) (.t 120) bF),
 oM 122 121,
 oH 123 122 true 9,
 oG 124 122 true (.cmp .eql (.t 123) (nI 3)),
 oP 125 (.pick (.t 122) (.t 124) bF),
 oM 126 125,
 oH 127 126 true 11,
 oG 128 126 true (.cmp .eql (.t 127) (nI 0)),
 oP 129 (.pick (.t 126) (.t 128) bF),
 oM 130 129,
 oH 131 130 true 10,
 oG 132 130 true (.cmp .eql (.t 131) (nI 3)),
 oP 133 (.pick (.t 130) (.t 132) bF),
 oM 134 133,
 oH 135 134 true 13,
 oG 136 134 true (.cmp .eql (.t 135) (nI 0)),
 oP 137 (.pick (.t 134) (.t 136) bF),
 oM 138 137,
 oH 139 138 true 12,
 oG 140 138 true (.cmp .eql (.t 139) (nI 6)),
 oP 141 (.pick (.t 138) (.t 140) bF),
 oM 142 141,
 oH 143 142 true 15,
 oG 144 142 true (.cmp .eql (.t 143) (nI 0)),
 oP 145 (.pick (.t 142) (.t 144) bF),
 oM 146 145,
 oH 147 146 true 14,
 oG 148 146 true (.cmp .eql (.t 147) (nI 0)),
 oP 149 (.pick (.t 146) (.t 148) bF),
 oM 150 149,
 oH 151 150 true 17,
 oG 152 150 true (.cmp .eql (.t 151) (nI 0)),
 oP 153 (.pick (.t 150) (.t 152) bF),
 oM 154 153,
 oH 155 154 true 16,
 oG 156 154 true (.cmp .eql (.t 155) (nI 0)),
 oP 157 (.pick (.t 154) (.t 156) bF),
 oM 158 157,
 oH 159 158 true 19,
 oG 160 158 true (.cmp .eql (.t 159) (nI 0)),
 oP 161 (.pick (.t 158) (.t 160) bF),
 oM 162 161,
 oH 163 162 true 18,
 oG 164 162 true (.buildSl 1 2 (.int .i64 0) [(0, (nI 0)), (1, (nI 1))]),
 oG 165 162 true (.call 56 [(.t 164)]),
 oG 166 162 true (.call 33 [(.t 163), (.t 165)]),
 oP 167 (.pick (.t 162) (.t 166) bF),
 oM 168 167,
 oH 169 168 true 20,
 oG 170 168 true (.cmp .eql (.t 169) (nI 0)),
 oP 171 (.pick (.t 168) (.t 170) bF),
 oM 172 171,
 oH 173 172 true 21,
 oG 174 172 true (.cmp .eql (.t 173) (nI 0)),
 oP 175 (.pick (.t 172) (.t 174) bF),
 oM 176 175,
 oH 177 176 true 22,
 oG 178 176 true (.cmp .eql (.t 177) (nI 0)),
 oP 179 (.pick (.t 176) (.t 178) bF),
 oM 180 179,
 oH 181 180 true 25,
 oG 182 180 true (.cmp .eql (.t 181) (nI 0)),
 oP 183 (.pick (.t 180) (.t 182) bF),
 oM 184 183,
 oH 185 184 true 23,
 oG 186 184 true (.cmp .eql (.t 185) (nI 0)),
 oP 187 (.pick (.t 184) (.t 186) bF),
 oM 188 187,
 oH 189 188 true 24,
 oG 190 188 true (.cmp .eql (.t 189) (nI 1)),
 oP 191 (.pick (.t 188) (.t 190) bF),
 oM 192 191,
 oH 193 192 true 27,
 oG 194 192 true (.cmp .eql (.t 193) (nI 0)),
 oP 195 (.pick (.t 192) (.t 194) bF),
 oM 196 195,
 oH 197 196 true 26,
 oG 198 196 true (.cmp .eql (.t 197) (nI 0)),
 oP 199 (.pick (.t 196) (.t 198) bF),
 oM 200 199,
 oH 201 200 true 29,
 oG 202 200 true (.cmp .eql (.t 201) (nI 2)),
 oP 203 (.pick (.t 200) (.t 202) bF),
 oM 204 203,
 oG 205 204 true (.load 2 true (.t 2)),
 oG 206 204 true (.call 23 [(.t 205)]),
 oG 207 204 true (.cmp .eql (.t 206) (nI 0)),
 oP 208 (.pick (.t 204) (.t 207) bF),
 oM 209 208,
 oG 210 209 true (.call 18 []),
 oP 211 (.pick (.t 209) (.t 210) bF),
 oM 0 211]
def f16 : FRow := ⟨(.seq (.reg 0 c16r0) (.seq (.reg 2 c16r1) (.seq (.reg 0 c16r2) (.seq (.reg 0 c16r3) (.seq (.reg 0 c16r4) (.seq (.reg 0 c16r5) (.seq (.reg 0 c16r6) (.seq (.reg 0 c16r7) (.seq (.reg 0 c16r8) (.seq (.reg 0 c16r9) (.seq (.reg 0 c16r10) (.seq (.reg 0 c16r11) (.seq (.reg 0 c16r12) (.seq (.reg 0 c16r13) (.seq (.reg 0 c16r14) (.seq (.reg 0 c16r15) (.seq (.reg 0 c16r16) .ret))))))))))))))))), [.tmp 0], 212⟩
theorem okf16 : f16.Ok Try.prog 16 := ⟨_, _, Try.func16, rfl, by kernel_rfl, by kernel_rfl, by kernel_rfl⟩
end Go.Proofs.Ytmcjoahnlbckoaa.Sk

/- RingKnown, reckoned. -/
namespace Go.Proofs.Ytmcjoahnlbckoaa.Sk
open Go Go.E
theorem known_ok : E.Fn Try.prog 16 [] [.bool true] :=
 fn_run (N := fun f args => if f = 18 then (if svseq [] args = true then some [.bool true] else none) else tabFind facts2 f args) (Y := none2) (fun f args rs h => by
  split at h
  ·rename_i hf
   subst hf
   split at h
   ·rename_i ha; cases h; rw [<- svseq_eq ha]; exact works_ok
   ·cases h
  ·exact tabFind_ok facts2_ok h) (fun _ _ _ h => by cases h) okf16 (by kernel_rfl)
end Go.Proofs.Ytmcjoahnlbckoaa.Sk
