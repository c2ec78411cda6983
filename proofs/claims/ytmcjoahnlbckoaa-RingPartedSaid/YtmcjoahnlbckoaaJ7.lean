/- The code of functions in the value semantics, and that it stands for theirs. -/
import Derived.Test.YtmcjoahnlbckoaaJ6
import Derived.Test.YtmcjoahnlbckoaaProg

set_option linter.all false

namespace Go.Proofs.Ytmcjoahnlbckoaa.Sk
open Go Go.E
abbrev oP (d : Nat) (o : AOp) : AOper := ⟨some d, none, o⟩
abbrev oG (d g : Nat) (b : Bool) (o : AOp) : AOper := ⟨some d, some (g, b), o⟩
abbrev nI (n : Int) : AX := .c (.s (.int .i64 n))
abbrev oM (d s : Nat) : AOper := ⟨some d, none, .mov (.t s)⟩
abbrev oL (d s : Nat) : AOper := ⟨some d, none, .load 1 false (.t s)⟩
abbrev oF (d k s : Nat) : AOper := ⟨some d, none, .fieldAddr k (.t s)⟩
abbrev oN (d s : Nat) : AOper := ⟨some d, none, .len false (.t s)⟩
abbrev oI (d a b : Nat) : AOper := ⟨some d, none, .idxA 1 (.t a) (.t b)⟩
abbrev oH (d g : Nat) (b : Bool) (s : Nat) : AOper := ⟨some d, some (g, b), .mov (.t s)⟩
abbrev bF : AX := .c (.s (.bool false))
abbrev bT : AX := .c (.s (.bool true))
abbrev fF : Bool := false
abbrev tT : Bool := true
def c17r0 : List AOper := [
 oP 1 (.boxS (.t 0)),
 oP 2 (.mov bF)]
def c17r1 : List AOper := [
 oF 3 0 1,
 oL 4 3,
 oN 5 4,
 oP 6 (.cmp .gtr (.t 5) (nI 12)),
 oM 7 6,
 oG 8 7 false (.fieldAddr 1 (.t 1)),
 oG 9 7 false (.load 1 false (.t 8)),
 oG 10 7 false (.len false (.t 9)),
 oG 11 7 false (.cmp .gtr (.t 10) (nI 16)),
 oP 12 (.pick (.t 7) bT (.t 11)),
 oM 2 12]
def f17 : FRow := ⟨(.seq (.reg 0 c17r0) (.seq (.reg 0 c17r1) .ret)), [.tmp 2], 13⟩
theorem okf17 : f17.Ok Try.prog 17 := ⟨_, _, Try.func17, rfl, by kernel_rfl, by kernel_rfl, by kernel_rfl⟩
def c18r0 : List AOper := [
 oP 0 (.mov bF)]
def c18r1 : List AOper := [
 oP 37 (.call 54 []),
 oP 38 (.call 55 []),
 oP 1 (.alloc [(.full []), (.full [])]),
 oP 2 (.alloc [(.full []), (.full [])]),
 ⟨none, none, .store 2 (.t 1) (.t 37)⟩,
 ⟨none, none, .store 2 (.t 2) (.t 38)⟩]
def c18r2 : List AOper := [
 oP 39 (.load 2 true (.t 1)),
 oP 40 (.call 25 [(.t 39), (nI 0), (nI 2)]),
 oP 41 (.load 2 true (.t 1)),
 oP 42 (.call 25 [(.t 41), (nI 2), (nI 3)]),
 oP 43 (.load 2 true (.t 1)),
 oP 44 (.call 25 [(.t 43), (nI 1), (nI 1)]),
 oM 3 40,
 oM 4 42,
 oM 5 44]
def c18r3 : List AOper := [
 oP 46 (.load 2 true (.t 1)),
 oP 47 (.buildSl 1 4 (.int .i64 0) [(0, (nI 5)), (1, (nI 1)), (2, (nI 0)), (3, (nI 0))]),
 oP 48 (.call 56 [(.t 47)]),
 oP 49 (.call 19 [(.t 46), (.t 48)]),
 oM 45 49,
 oP 50 (.ext (.t 45) 0),
 oP 51 (.ext (.t 45) 1),
 oM 6 50,
 oM 7 51]
def c18r4 : List AOper := [
 oP 53 (.load 2 true (.t 1)),
 oP 54 (.buildSl 1 4 (.int .i64 0) [(0, (nI 0)), (1, (nI 1)), (2, (nI 1)), (3, (nI 2))]),
 oP 55 (.call 56 [(.t 54)]),
 oP 56 (.call 19 [(.t 53), (.t 55)]),
 oM 52 56,
 oP 57 (.ext (.t 52) 0),
 oP 58 (.ext (.t 52) 1),
 oM 8 57,
 oM 9 58]
def c18r5 : List AOper := [
 oP 60 (.load 2 true (.t 2)),
 oP 61 (.call 27 [(.t 60)]),
 oM 59 61,
 oP 62 (.ext (.t 59) 0),
 oP 63 (.ext (.t 59) 1),
 oM 10 62,
 oM 11 63]
def c18r6 : List AOper := [
 oP 65 (.load 2 true (.t 1)),
 oP 66 (.call 29 [(.t 65)]),
 oM 64 66,
 oP 67 (.ext (.t 64) 0),
 oP 68 (.ext (.t 64) 1),
 oM 12 67,
 oM 13 68]
def c18r7 : List AOper := [
 oP 70 (.load 2 true (.t 2)),
 oP 71 (.call 29 [(.t 70)]),
 oM 69 71,
 oP 72 (.ext (.t 69) 0),
 oP 73 (.ext (.t 69) 1),
 oM 14 72,
 oM 15 73]
def c18r8 : List AOper := [
 oP 75 (.load 2 true (.t 1)),
 oP 76 (.call 31 [(.t 75), (nI 4)]),
 oM 74 76,
 oP 77 (.ext (.t 74) 0),
 oP 78 (.ext (.t 74) 1),
 oM 16 77,
 oM 17 78]
def c18r9 : List AOper := [
 oP 80 (.load 2 true (.t 2)),
 oP 81 (.call 31 [(.t 80), (nI 3)]),
 oM 79 81,
 oP 82 (.ext (.t 79) 0),
 oP 83 (.ext (.t 79) 1),
 oM 18 82,
 oM 19 83]
def c18r10 : List AOper := [
 oP 85 (.load 2 true (.t 2)),
 oP 86 (.call 31 [(.t 85), (nI 9)]),
 oM 84 86,
 oP 87 (.ext (.t 84) 0),
 oP 88 (.ext (.t 84) 1),
 oM 20 87,
 oM 21 88]
def c18r11 : List AOper := [
 oP 90 (.load 2 true (.t 1)),
 oP 91 (.call 34 [(.t 90)]),
 oM 89 91,
 oP 92 (.ext (.t 89) 0),
 oP 93 (.ext (.t 89) 1),
 oM 22 92,
 oM 23 93]
def c18r12 : List AOper := [
 oP 94 (.load 2 true (.t 1)),
 oP 95 (.buildSl 1 2 (.int .i64 0) [(0, (nI 2)), (1, (nI 3))]),
 oP 96 (.call 56 [(.t 95)]),
 oP 97 (.call 38 [(.t 94), (.t 96)]),
 oP 98 (.load 2 true (.t 1)),
 oP 99 (.call 38 [(.t 98), (.c (.full []))]),
 oM 24 97,
 oM 25 99]
def c18r13 : List AOper := [
 oP 100 (.load 2 true (.t 2)),
 oP 101 (.buildSl 1 3 (.int .i64 0) [(0, (nI 0)), (1, (nI 1)), (2, (nI 2))]),
 oP 102 (.call 56 [(.t 101)]),
 oP 103 (.call 40 [(.t 100), (.t 102)]),
 oP 104 (.load 2 true (.t 2)),
 oP 105 (.buildSl 1 2 (.int .i64 0) [(0, (nI 0)), (1, (nI 1))]),
 oP 106 (.call 56 [(.t 105)]),
 oP 107 (.call 40 [(.t 104), (.t 106)]),
 oM 26 103,
 oM 27 107]
def c18r14 : List AOper := [
 oP 109 (.load 2 true (.t 2)),
 oP 110 (.call 36 [(.t 109)]),
 oM 108 110,
 oP 111 (.ext (.t 108) 0),
 oP 112 (.ext (.t 108) 1),
 oM 28 111,
 oM 29 112]
def c18r15 : List AOper := [
 oP 114 (.load 2 true (.t 1)),
 oP 115 (.call 21 [(.t 114)]),
 oM 113 115,
 oP 116 (.ext (.t 113) 0),
 oP 117 (.ext (.t 113) 1),
 oP 118 (.ext (.t 113) 2),
 oM 30 116,
 oM 31 117,
 oM 32 118]
def c18r16 : List AOper := [
 oP 120 (.load 2 true (.t 1)),
 oP 121 (.call 43 [(.t 120), (nI 2), (nI 3)]),
 oM 119 121,
 oP 122 (.ext (.t 119) 0),
 oP 123 (.ext (.t 119) 1),
 oM 33 122,
 oM 34 123]
def c18r17 : List AOper := [
 oP 125 (.load 2 true (.t 2)),
 oP 126 (.call 43 [(.t 125), (nI 0), (nI 2)]),
 oM 124 126,
 oP 127 (.ext (.t 124) 0),
 oP 128 (.ext (.t 124) 1),
 oM 35 127,
 oM 36 128]
def c18r18 : List AOper := [
 oM 129 3,
 oP 130 (.cmp .neq (.t 129) (nI 23)),
 oM 131 130,
 oH 132 131 false 4,
 oG 133 131 false (.cmp .neq (.t 132) (nI 0)),
 oP 134 (.pick (.t 131) bT (.t 133)),
 oM 135 134,
 oH 136 135 false 5,
 oG 137 135 false (.cmp .neq (.t 136) (nI 2)),
 oP 138 (.pick (.t 135) bT (.t 137)),
 oM 139 138,
 oH 140 139 false 7,
 oG 141 139 false (.cmp .neq (.t 140) (nI 0)),
 oP 142 (.pick (.t 139) bT (.t 141)),
 oM 143 142,
 oH 144 143 false 9,
 oG 145 143 false (.cmp .neq (.t 144) (nI 23)),
 oP 146 (.pick (.t 143) bT (.t 145)),
 oM 147 146,
 oH 148 147 false 11,
 oG 149 147 false (.cmp .neq (.t 148) (nI 0)),
 oP 150 (.pick (.t 147) bT (.t 149)),
 oM 151 150,
 oH 152 151 false 13,
 oG 153 151 false (.cmp .neq (.t 152) (nI 0)),
 oP 154 (.pick (.t 151) bT (.t 153)),
 oM 155 154,
 oH 156 155 false 15,
 oG 157 155 false (.cmp .neq (.t 156) (nI 0)),
 oP 158 (.pick (.t 155) bT (.t 157)),
 oM 159 158,
 oH 160 159 false 17,
 oG 161 159 false (.cmp .neq (.t 160) (nI 0)),
 oP 162 (.pick (.t 159) bT (.t 161)),
 oM 163 162,
 oH 164 163 false 19,
 oG 165 163 false (.cmp .neq (.t 164) (nI 0)),
 oP 166 (.pick (.t 163) bT (.t 165)),
 oM 167 166,
 oH 168 167 false 21,
 oG 169 167 false (.cmp .neq (.t 168) (nI 2)),
 oP 170 (.pick (.t 167) bT (.t 169)),
 oM 171 170,
 oH 172 171 false 23,
 oG 173 171 false (.cmp .neq (.t 172) (nI 0)),
 oP 174 (.pick (.t 171) bT (.t 173)),
 oM 175 174,
 oH 176 175 false 24,
 oG 177 175 false (.cmp .neq (.t 176) (nI 14)),
 oP 178 (.pick (.t 175) bT (.t 177)),
 oM 179 178,
 oH 180 179 false 25,
 oG 181 179 false (.cmp .neq (.t 180) (nI 3)),
 oP 182 (.pick (.t 179) bT (.t 181)),
 oM 183 182,
 oH 184 183 false 26,
 oG 185 183 false (.cmp .neq (.t 184) (nI 14)),
 oP 186 (.pick (.t 183) bT (.t 185)),
 oM 187 186,
 oH 188 187 false 27,
 oG 189 187 false (.cmp .neq (.t 188) (nI 16)),
 oP 190 (.pick (.t 187) bT (.t 189)),
 oM 191 190,
 oH 192 191 false 29,
 oG 193 191 false (.cmp .neq (.t 192) (nI 0)),
 oP 194 (.pick (.t 191) bT (.t 193)),
 oM 195 194,
 oH 196 195 false 32,
 oG 197 195 false (.cmp .neq (.t 196) (nI 0)),
 oP 198 (.pick (.t 195) bT (.t 197)),
 oM 199 198,
 oH 200 199 false 34,
 oG 201 199 false (.cmp .neq (.t 200) (nI 0)),
 oP 202 (.pick (.t 199) bT (.t 201)),
 oM 203 202,
 oH 204 203 false 36,
 oG 205 203 false (.cmp .neq (.t 204) (nI 0)),
 oP 206 (.pick (.t 203) bT (.t 205))]
def c18r19 : List AOper := [
 oP 0 (.mov bF)]
def c18r20 : List AOper := [
 oM 207 6,
 oP 208 (.cmp .eql (.t 207) (nI 3)),
 oM 209 208,
 oH 210 209 true 10,
 oG 211 209 true (.cmp .eql (.t 210) (nI 3)),
 oP 212 (.pick (.t 209) (.t 211) bF),
 oM 213 212,
 oH 214 213 true 12,
 oG 215 213 true (.buildSl 1 4 (.int .i64 0) [(0, (nI 0)), (1, (nI 1)), (2, (nI 2)), (3, (nI 2))]),
 oG 216 213 true (.call 56 [(.t 215)]),
 oG 217 213 true (.call 33 [(.t 214), (.t 216)]),
 oP 218 (.pick (.t 213) (.t 217) bF),
 oM 219 218,
 oH 220 219 true 14,
 oG 221 219 true (.buildSl 1 5 (.int .i64 0) [(0, (nI 0)), (1, (nI 1)), (2, (nI 0)), (3, (nI 1)), (4, (nI 2))]),
 oG 222 219 true (.call 56 [(.t 221)]),
 oG 223 219 true (.call 33 [(.t 220), (.t 222)]),
 oP 224 (.pick (.t 219) (.t 223) bF),
 oM 225 224,
 oH 226 225 true 16,
 oG 227 225 true (.cmp .eql (.t 226) (nI 48)),
 oP 228 (.pick (.t 225) (.t 227) bF),
 oM 229 228,
 oH 230 229 true 18,
 oG 231 229 true (.cmp .eql (.t 230) (nI 30)),
 oP 232 (.pick (.t 229) (.t 231) bF),
 oM 233 232,
 oH 234 233 true 22,
 oG 235 233 true (.buildSl 1 3 (.int .i64 0) [(0, (nI 0)), (1, (nI 1)), (2, (nI 2))]),
 oG 236 233 true (.call 56 [(.t 235)]),
 oG 237 233 true (.call 33 [(.t 234), (.t 236)]),
 oP 238 (.pick (.t 233) (.t 237) bF),
 oM 239 238,
 oH 240 239 true 28,
 oG 241 239 true (.len false (.t 240)),
 oG 242 239 true (.cmp .eql (.t 241) (nI 5)),
 oP 243 (.pick (.t 239) (.t 242) bF),
 oM 244 243,
 oG 245 244 true (.load 2 true (.t 2)),
 oH 246 244 true 28,
 oG 247 244 true (.call 41 [(.t 245), (.t 246)]),
 oG 248 244 true (.cmp .eql (.t 247) (nI 0)),
 oP 249 (.pick (.t 244) (.t 248) bF),
 oM 250 249,
 oH 251 250 true 30,
 oG 252 250 true (.cmp .eql (.t 251) (nI 3)),
 oP 253 (.pick (.t 250) (.t 252) bF),
 oM 254 253,
 oH 255 254 true 31,
 oG 256 254 true (.cmp .eql (.t 255) (nI 3)),
 oP 257 (.pick (.t 254) (.t 256) bF),
 oM 258 257,
 oH 259 258 true 33,
 oG 260 258 true (.cmp .eql (.t 259) (nI 2)),
 oP 261 (.pick (.t 258) (.t 260) bF),
 oM 262 261,
 oH 263 262 true 35,
 oG 264 262 true (.cmp .eql (.t 263) (nI 1)),
 oP 265 (.pick (.t 262) (.t 264) bF),
 oM 0 265]
def f18 : FRow := ⟨(.seq (.reg 0 c18r0) (.seq (.reg 2 c18r1) (.seq (.reg 0 c18r2) (.seq (.reg 0 c18r3) (.seq (.reg 0 c18r4) (.seq (.reg 0 c18r5) (.seq (.reg 0 c18r6) (.seq (.reg 0 c18r7) (.seq (.reg 0 c18r8) (.seq (.reg 0 c18r9) (.seq (.reg 0 c18r10) (.seq (.reg 0 c18r11) (.seq (.reg 0 c18r12) (.seq (.reg 0 c18r13) (.seq (.reg 0 c18r14) (.seq (.reg 0 c18r15) (.seq (.reg 0 c18r16) (.seq (.reg 0 c18r17) (.seq (.seq (.reg 0 c18r18) (.cond (.t 206) (.seq (.reg 0 c18r19) .ret) .skip)) (.seq (.reg 0 c18r20) .ret)))))))))))))))))))), [.tmp 0], 266⟩
theorem okf18 : f18.Ok Try.prog 18 := ⟨_, _, Try.func18, rfl, by kernel_rfl, by kernel_rfl, by kernel_rfl⟩
def c19r0 : List AOper := [
 oP 2 (.boxS (.t 0)),
 oP 4 (.mov (nI 0)),
 oP 5 (.mov (nI 0))]
def c19r1 : List AOper := [
 oP 11 (.load 2 true (.t 2)),
 oP 12 (.call 57 [(.t 11)]),
 oM 10 12,
 oP 13 (.ext (.t 10) 0),
 oP 14 (.ext (.t 10) 1),
 oM 6 13,
 oM 7 14]
def c19r2 : List AOper := [
 oM 16 7,
 oP 17 (.cmp .neq (.t 16) (nI 0)),
 oM 15 17]
def c19r3 : List AOper := [
 oM 18 7,
 oP 4 (.mov (nI 0)),
 oM 5 18]
def c19r4 : List AOper := [
 oM 20 1,
 oN 21 20,
 oF 22 0 2,
 oL 23 22,
 oN 24 23,
 oP 25 (.cmp .neq (.t 21) (.t 24)),
 oM 19 25]
def c19r5 : List AOper := [
 oP 4 (.mov (nI 0)),
 oP 5 (.mov (nI 15))]
def c19r6 : List AOper := [
 oM 27 1,
 oP 28 (.call 58 [(nI 0), (nI 7), (.t 27)]),
 oP 29 (.not (.t 28)),
 oM 26 29]
def c19r7 : List AOper := [
 oP 4 (.mov (nI 0)),
 oP 5 (.mov (nI 3))]
def c19r8 : List AOper := [
 oM 30 6,
 oP 31 (.nilck (.t 30)),
 oF 32 2 31,
 oL 33 32,
 oP 34 (.rangeM (.t 33))]
def c19r9 : List AOper := [
 oP 35 (.nextM (.t 34)),
 oP 36 (.ext (.t 35) 0)]
def c19r10 : List AOper := [
 oP 37 (.entryM (.t 34)),
 oP 38 (.ext (.t 37) 0),
 oP 8 (.alloc [(.s (.int .i64 0)), (.s (.int .i64 0))]),
 ⟨none, none, .store 2 (.t 8) (.t 38)⟩]
def c19r11 : List AOper := [
 oM 39 1,
 oF 40 0 8,
 oL 41 40,
 oI 42 39 41,
 oL 43 42,
 oM 44 1,
 oF 45 1 8,
 oL 46 45,
 oI 47 44 46,
 oL 48 47,
 oP 49 (.cmp .eql (.t 43) (.t 48))]
def c19r12 : List AOper := [
 oP 4 (.mov (nI 0)),
 oP 5 (.mov (nI 23))]
def c19l13 : ACode := (.seq (.reg 0 c19r9) (.seq (.cond (.t 36) .skip (.exit 1)) (.block 2 (.seq (.reg 1 c19r10) (.seq (.reg 0 c19r11) (.cond (.t 49) (.seq (.reg 0 c19r12) .ret) .skip))))))
def c19l13m : List Bool := [fF,tT,fF,fF,fF,fF,fF,fF,fF,fF,fF,fF,fF,fF,fF,fF,fF,fF,fF,fF,fF,fF,fF,fF,fF,fF,fF,fF,fF,fF,fF,fF,fF,fF,tT,fF,fF,fF,fF,fF,fF,fF,fF,fF,fF,fF,fF,fF,fF,fF,fF,fF,fF,fF,fF,fF]
def c19r14 : List AOper := [
 oM 50 1,
 oP 51 (.call 60 [(.t 50)]),
 oP 52 (.callN 1 59 [(.t 51)]),
 oM 9 52]
def c19r15 : List AOper := [
 oM 53 9,
 oP 54 (.callF 61 (.t 53) []),
 oN 55 54,
 oM 4 55,
 oP 5 (.mov (nI 0))]
def f19 : FRow := ⟨(.seq (.reg 0 c19r0) (.seq (.reg 0 c19r1) (.seq (.block 0 (.seq (.reg 0 c19r2) (.cond (.t 15) (.seq (.reg 0 c19r3) .ret) (.seq (.reg 0 c19r4) (.cond (.t 19) (.seq (.reg 0 c19r5) .ret) (.seq (.reg 0 c19r6) (.cond (.t 26) (.seq (.reg 0 c19r7) .ret) .skip))))))) (.seq (.seq (.reg 1 c19r8) (.block 1 (.loop c19l13m [] c19l13))) (.seq (.reg 1 c19r14) (.seq (.reg 0 c19r15) .ret)))))), [.tmp 4, .tmp 5], 56⟩
theorem okf19 : f19.Ok Try.prog 19 := ⟨_, _, Try.func19, rfl, by kernel_rfl, by kernel_rfl, by kernel_rfl⟩
def c20r0 : List AOper := [
 oP 2 (.boxS (.t 0)),
 oP 4 (.mov (nI 0)),
 oP 5 (.mov (nI 0))]
def c20r1 : List AOper := [
 oP 9 (.load 2 true (.t 2)),
 oP 10 (.call 24 [(.t 9)]),
 oP 11 (.cmp .neq (.t 10) (nI 0))]
def c20r2 : List AOper := [
 oP 12 (.load 2 true (.t 2)),
 oP 13 (.call 24 [(.t 12)]),
 oP 4 (.mov (nI 0)),
 oM 5 13]
def c20r3 : List AOper := [
 oM 14 1,
 oN 15 14,
 oF 16 0 2,
 oL 17 16,
 oN 18 17,
 oP 19 (.cmp .neq (.t 15) (.t 18))]
def c20r4 : List AOper := [
 oP 4 (.mov (nI 0)),
 oP 5 (.mov (nI 15))]
def c20r5 : List AOper := [
 oP 6 (.mov (nI 0))]
def c20r6 : List AOper := [
 oM 20 6,
 oM 21 1,
 oN 22 21,
 oP 23 (.cmp .lss (.t 20) (.t 22))]
def c20r7 : List AOper := [
 oM 26 1,
 oM 27 6,
 oI 28 26 27,
 oL 29 28,
 oP 30 (.cmp .lss (.t 29) (nI 0)),
 oM 31 30,
 oH 32 31 false 1,
 oH 33 31 false 6,
 oG 34 31 false (.idxA 1 (.t 32) (.t 33)),
 oG 35 31 false (.load 1 false (.t 34)),
 oG 36 31 false (.cmp .gtr (.t 35) (nI 7)),
 oP 37 (.pick (.t 31) bT (.t 36))]
def c20r8 : List AOper := [
 oP 4 (.mov (nI 0)),
 oP 5 (.mov (nI 3))]
def c20r9 : List AOper := [
 oM 24 6,
 oP 25 (.arith .add (.t 24) (nI 1)),
 oM 6 25]
def c20l10 : ACode := (.seq (.seq (.reg 0 c20r6) (.cond (.t 23) .skip (.exit 0))) (.seq (.block 1 (.seq (.reg 0 c20r7) (.cond (.t 37) (.seq (.reg 0 c20r8) .ret) .skip))) (.reg 0 c20r9)))
def c20l10m : List Bool := [fF,tT,tT,fF,fF,fF,tT,fF,fF,fF,fF,fF,fF,fF,fF,fF,fF,fF,fF,fF,fF,fF,fF,fF,fF,fF,fF,fF,fF,fF,fF,fF,fF,fF,fF,fF,fF,fF,fF,fF,fF,fF,fF,fF,fF,fF,fF,fF,fF,fF,fF,fF,fF,fF,fF,fF,fF,fF,fF,fF,fF,fF,fF,fF,fF,fF]
def c20r11 : List AOper := [
 oP 7 (.mov (nI 0))]
def c20r12 : List AOper := [
 oM 38 7,
 oM 39 1,
 oN 40 39,
 oP 41 (.cmp .lss (.t 38) (.t 40))]
def c20r13 : List AOper := [
 oP 8 (.mov (nI 0))]
def c20r14 : List AOper := [
 oM 44 8,
 oM 45 7,
 oP 46 (.cmp .lss (.t 44) (.t 45))]
def c20r15 : List AOper := [
 oM 49 1,
 oM 50 8,
 oI 51 49 50,
 oL 52 51,
 oM 53 1,
 oM 54 7,
 oI 55 53 54,
 oL 56 55,
 oP 57 (.cmp .eql (.t 52) (.t 56)),
 oM 58 57,
 oG 59 58 true (.load 2 true (.t 2)),
 oH 60 58 true 8,
 oH 61 58 true 7,
 oG 62 58 true (.call 51 [(.t 59), (.t 60), (.t 61)]),
 oP 63 (.pick (.t 58) (.t 62) bF)]
def c20r16 : List AOper := [
 oP 4 (.mov (nI 0)),
 oP 5 (.mov (nI 23))]
def c20r17 : List AOper := [
 oM 47 8,
 oP 48 (.arith .add (.t 47) (nI 1)),
 oM 8 48]
def c20l18 : ACode := (.seq (.seq (.reg 0 c20r14) (.cond (.t 46) .skip (.exit 4))) (.seq (.block 5 (.seq (.reg 0 c20r15) (.cond (.t 63) (.seq (.reg 0 c20r16) .ret) .skip))) (.reg 0 c20r17)))
def c20l18m : List Bool := [fF,tT,tT,fF,fF,fF,fF,tT,tT,fF,fF,fF,fF,fF,fF,fF,fF,fF,fF,fF,fF,fF,fF,fF,fF,fF,fF,fF,fF,fF,fF,fF,fF,fF,fF,fF,fF,fF,fF,fF,fF,fF,fF,fF,fF,fF,fF,fF,fF,fF,fF,fF,fF,fF,fF,fF,fF,fF,fF,fF,fF,fF,fF,fF,fF,fF]
def c20r19 : List AOper := [
 oM 42 7,
 oP 43 (.arith .add (.t 42) (nI 1)),
 oM 7 43]
def c20l20 : ACode := (.seq (.seq (.reg 0 c20r12) (.cond (.t 41) .skip (.exit 2))) (.seq (.block 3 (.seq (.reg 0 c20r13) (.block 4 (.loop c20l18m [] c20l18)))) (.reg 0 c20r19)))
def c20l20m : List Bool := [fF,tT,tT,fF,fF,fF,fF,tT,fF,fF,fF,fF,fF,fF,fF,fF,fF,fF,fF,fF,fF,fF,fF,fF,fF,fF,fF,fF,fF,fF,fF,fF,fF,fF,fF,fF,fF,fF,fF,fF,fF,fF,fF,fF,fF,fF,fF,fF,fF,fF,fF,fF,fF,fF,fF,fF,fF,fF,fF,fF,fF,fF,fF,fF,fF,fF]
def c20r21 : List AOper := [
 oM 64 1,
 oP 65 (.call 62 [(.t 64)]),
 oM 4 65,
 oP 5 (.mov (nI 0))]
def f20 : FRow := ⟨(.seq (.reg 0 c20r0) (.seq (.seq (.reg 0 c20r1) (.cond (.t 11) (.seq (.reg 0 c20r2) .ret) .skip)) (.seq (.seq (.reg 0 c20r3) (.cond (.t 19) (.seq (.reg 0 c20r4) .ret) .skip)) (.seq (.seq (.reg 0 c20r5) (.block 0 (.loop c20l10m [] c20l10))) (.seq (.seq (.reg 0 c20r11) (.block 2 (.loop c20l20m [] c20l20))) (.seq (.reg 0 c20r21) .ret)))))), [.tmp 4, .tmp 5], 66⟩
def c21r0 : List AOper := [
 oP 1 (.boxS (.t 0)),
 oP 2 (.mov (nI 0)),
 oP 3 (.mov (nI 0)),
 oP 4 (.mov (nI 0))]
def c21r1 : List AOper := [
 oP 10 (.load 2 true (.t 1)),
 oP 11 (.call 57 [(.t 10)]),
 oM 9 11,
 oP 12 (.ext (.t 9) 0),
 oP 13 (.ext (.t 9) 1),
 oM 5 12,
 oM 6 13]
def c21r2 : List AOper := [
 oM 14 6,
 oP 15 (.cmp .neq (.t 14) (nI 0))]
def c21r3 : List AOper := [
 oM 16 6,
 oP 2 (.mov (nI 0)),
 oP 3 (.mov (nI 0)),
 oM 4 16]
def c21r4 : List AOper := [
 oM 17 5,
 oP 18 (.mkfn 63 [(.t 17)] []),
 oP 7 (.alloc [.any]),
 ⟨none, none, .store 1 (.t 7) (.t 18)⟩]
def c21r5 : List AOper := [
 oM 19 5,
 oP 20 (.nilck (.t 19)),
 oF 21 0 20,
 oF 22 0 21,
 oL 23 22,
 oP 24 (.mkfn 65 [] [(.t 7)]),
 oP 25 (.call 64 [(.t 23), (.t 24)]),
 oP 8 (.alloc [(.s (.int .i64 0)), (.s (.int .i64 0))]),
 ⟨none, none, .store 2 (.t 8) (.t 25)⟩]
def c21r6 : List AOper := [
 oF 26 0 8,
 oL 27 26,
 oL 28 7,
 oF 29 0 8,
 oL 30 29,
 oP 31 (.callv (.t 28) [(.t 30)]),
 oM 2 27,
 oM 3 31,
 oP 4 (.mov (nI 0))]
def f21 : FRow := ⟨(.seq (.reg 0 c21r0) (.seq (.reg 0 c21r1) (.seq (.seq (.reg 0 c21r2) (.cond (.t 15) (.seq (.reg 0 c21r3) .ret) .skip)) (.seq (.reg 1 c21r4) (.seq (.reg 1 c21r5) (.seq (.reg 0 c21r6) .ret)))))), [.tmp 2, .tmp 3, .tmp 4], 32⟩
theorem okf21 : f21.Ok Try.prog 21 := ⟨_, _, Try.func21, rfl, by kernel_rfl, by kernel_rfl, by kernel_rfl⟩
def c23r0 : List AOper := [
 oP 1 (.boxS (.t 0)),
 oP 2 (.mov (nI 0))]
def c23r1 : List AOper := [
 oF 8 0 1,
 oL 9 8,
 oN 10 9,
 oM 3 10]
def c23r2 : List AOper := [
 oP 4 (.mov (.c (.s (.fn 66 [] []))))]
def c23r3 : List AOper := [
 oM 12 3,
 oP 13 (.buildSl 1 1 (.int .i64 0) [(0, (.t 12))]),
 oP 14 (.call 58 [(nI 1), (nI 8), (.t 13)]),
 oP 15 (.not (.t 14)),
 oM 16 15,
 oG 17 16 false (.fieldAddr 1 (.t 1)),
 oG 18 16 false (.load 1 false (.t 17)),
 oG 19 16 false (.len false (.t 18)),
 oG 20 16 false (.cmp .gtr (.t 19) (nI 12)),
 oP 21 (.pick (.t 16) bT (.t 20)),
 oM 11 21]
def c23r4 : List AOper := [
 oP 2 (.mov (nI 6))]
def c23r5 : List AOper := [
 oF 23 0 1,
 oL 24 23,
 oM 25 4,
 oP 26 (.call 67 [(.t 24), (.t 25)]),
 oM 22 26]
def c23r6 : List AOper := [
 oP 2 (.mov (nI 3))]
def c23r7 : List AOper := [
 oP 27 (.build [(.s (.int .i64 0)), (.s (.int .i64 0))] [(0, 1, (nI (-1))), (1, 1, (nI (-1)))]),
 oP 5 (.alloc [(.s (.int .i64 0)), (.s (.int .i64 0))]),
 ⟨none, none, .store 2 (.t 5) (.t 27)⟩]
def c23r8 : List AOper := [
 oF 28 1 1,
 oL 29 28,
 oN 30 29,
 oP 31 (.mov (nI 0))]
def c23r9 : List AOper := [
 oP 32 (.cmp .lss (.t 31) (.t 30))]
def c23r10 : List AOper := [
 oP 33 (.idxA 2 (.t 29) (.t 31)),
 oP 34 (.load 2 true (.t 33)),
 oP 7 (.alloc [(.s (.int .i64 0)), (.s (.int .i64 0))]),
 ⟨none, none, .store 2 (.t 7) (.t 34)⟩]
def c23r11 : List AOper := [
 oM 35 3,
 oP 36 (.arith .sub (.t 35) (nI 1)),
 oP 37 (.sliceArr 2 1 (.t 7) none none),
 oP 38 (.call 58 [(nI 0), (.t 36), (.t 37)]),
 oP 39 (.not (.t 38)),
 oM 40 39,
 oG 41 40 false (.idxArrA 2 1 (.t 7) (nI 0)),
 oG 42 40 false (.load 1 false (.t 41)),
 oG 43 40 false (.idxArrA 2 1 (.t 7) (nI 1)),
 oG 44 40 false (.load 1 false (.t 43)),
 oG 45 40 false (.cmp .geq (.t 42) (.t 44)),
 oP 46 (.pick (.t 40) bT (.t 45)),
 oM 47 46,
 oG 48 47 false (.sliceArr 2 1 (.t 5) none none),
 oG 49 47 false (.sliceArr 2 1 (.t 7) none none),
 oG 50 47 false (.call 68 [(.t 48), (.t 49)]),
 oG 51 47 false (.cmp .geq (.t 50) (nI 0)),
 oP 52 (.pick (.t 47) bT (.t 51))]
def c23r12 : List AOper := [
 oP 2 (.mov (nI 2))]
def c23r13 : List AOper := [
 oP 53 (.load 2 true (.t 7)),
 ⟨none, none, .store 2 (.t 5) (.t 53)⟩]
def c23r14 : List AOper := [
 oP 54 (.arith .add (.t 31) (nI 1)),
 oM 31 54]
def c23l15 : ACode := (.seq (.reg 0 c23r9) (.seq (.cond (.t 32) .skip (.exit 1)) (.seq (.block 2 (.seq (.reg 1 c23r10) (.seq (.seq (.reg 0 c23r11) (.cond (.t 52) (.seq (.reg 0 c23r12) .ret) .skip)) (.reg 0 c23r13)))) (.reg 0 c23r14))))
def c23l15m : List Bool := [fF,fF,fF,tT,fF,tT,fF,fF,fF,fF,fF,fF,fF,fF,fF,fF,fF,fF,fF,fF,fF,fF,fF,fF,fF,fF,fF,fF,fF,tT,tT,tT,fF,fF,fF,fF,fF,fF,fF,fF,fF,fF,fF,fF,fF,fF,fF,fF,fF,fF,fF,fF,fF,fF,fF]
def c23r16 : List AOper := [
 oP 2 (.mov (nI 0))]
def f23 : FRow := ⟨(.seq (.reg 0 c23r0) (.seq (.reg 0 c23r1) (.seq (.reg 0 c23r2) (.seq (.block 0 (.seq (.reg 0 c23r3) (.cond (.t 11) (.seq (.reg 0 c23r4) .ret) (.seq (.reg 0 c23r5) (.cond (.t 22) (.seq (.reg 0 c23r6) .ret) .skip))))) (.seq (.reg 1 c23r7) (.seq (.seq (.reg 0 c23r8) (.block 1 (.loop c23l15m [] c23l15))) (.seq (.reg 0 c23r16) .ret))))))), [.tmp 2], 55⟩
theorem okf23 : f23.Ok Try.prog 23 := ⟨_, _, Try.func23, rfl, by kernel_rfl, by kernel_rfl, by kernel_rfl⟩
def c24r0 : List AOper := [
 oP 1 (.boxS (.t 0)),
 oP 2 (.mov (nI 0))]
def c24r1 : List AOper := [
 oF 7 0 1,
 oL 8 7,
 oN 9 8,
 oM 3 9]
def c24r2 : List AOper := [
 oM 10 3,
 oP 11 (.cmp .lss (.t 10) (nI 1)),
 oM 12 11,
 oH 13 12 false 3,
 oG 14 12 false (.cmp .gtr (.t 13) (nI 8)),
 oP 15 (.pick (.t 12) bT (.t 14)),
 oM 16 15,
 oG 17 16 false (.fieldAddr 1 (.t 1)),
 oG 18 16 false (.load 1 false (.t 17)),
 oG 19 16 false (.len false (.t 18)),
 oG 20 16 false (.cmp .gtr (.t 19) (nI 12)),
 oP 21 (.pick (.t 16) bT (.t 20))]
def c24r3 : List AOper := [
 oP 2 (.mov (nI 6))]
def c24r4 : List AOper := [
 oP 4 (.mov (nI 0))]
def c24r5 : List AOper := [
 oM 22 4,
 oM 23 3,
 oP 24 (.cmp .lss (.t 22) (.t 23))]
def c24r6 : List AOper := [
 oF 27 0 1,
 oL 28 27,
 oM 29 4,
 oP 30 (.idxA 2 (.t 28) (.t 29)),
 oF 31 0 30,
 oL 32 31,
 oP 33 (.cmp .lss (.t 32) (nI 0)),
 oM 34 33,
 oG 35 34 false (.fieldAddr 0 (.t 1)),
 oG 36 34 false (.load 1 false (.t 35)),
 oH 37 34 false 4,
 oG 38 34 false (.idxA 2 (.t 36) (.t 37)),
 oG 39 34 false (.fieldAddr 0 (.t 38)),
 oG 40 34 false (.load 1 false (.t 39)),
 oG 41 34 false (.fieldAddr 0 (.t 1)),
 oG 42 34 false (.load 1 false (.t 41)),
 oH 43 34 false 4,
 oG 44 34 false (.idxA 2 (.t 42) (.t 43)),
 oG 45 34 false (.fieldAddr 1 (.t 44)),
 oG 46 34 false (.load 1 false (.t 45)),
 oG 47 34 false (.cmp .gtr (.t 40) (.t 46)),
 oP 48 (.pick (.t 34) bT (.t 47)),
 oM 49 48,
 oG 50 49 false (.fieldAddr 0 (.t 1)),
 oG 51 49 false (.load 1 false (.t 50)),
 oH 52 49 false 4,
 oG 53 49 false (.idxA 2 (.t 51) (.t 52)),
 oG 54 49 false (.fieldAddr 1 (.t 53)),
 oG 55 49 false (.load 1 false (.t 54)),
 oG 56 49 false (.cmp .gtr (.t 55) (nI 1000)),
 oP 57 (.pick (.t 49) bT (.t 56))]
def c24r7 : List AOper := [
 oP 2 (.mov (nI 3))]
def c24r8 : List AOper := [
 oM 25 4,
 oP 26 (.arith .add (.t 25) (nI 1)),
 oM 4 26]
def c24l9 : ACode := (.seq (.seq (.reg 0 c24r5) (.cond (.t 24) .skip (.exit 0))) (.seq (.block 1 (.seq (.reg 0 c24r6) (.cond (.t 57) (.seq (.reg 0 c24r7) .ret) .skip))) (.reg 0 c24r8)))
def c24l9m : List Bool := [fF,tT,fF,tT,tT,fF,fF,fF,fF,fF,fF,fF,fF,fF,fF,fF,fF,fF,fF,fF,fF,fF,fF,fF,fF,fF,fF,fF,fF,fF,fF,fF,fF,fF,fF,fF,fF,fF,fF,fF,fF,fF,fF,fF,fF,fF,fF,fF,fF,fF,fF,fF,fF,fF,fF,fF,fF,fF,fF,fF,fF,fF,fF,fF,fF,fF,fF,fF,fF,fF,fF,fF,fF,fF,fF,fF,fF,fF,fF,fF,fF,fF,fF,fF,fF,fF,fF,fF,fF,fF,fF,fF,fF,fF,fF,fF,fF,fF,fF]
def c24r10 : List AOper := [
 oP 5 (.mov (nI 0))]
def c24r11 : List AOper := [
 oM 58 5,
 oF 59 1 1,
 oL 60 59,
 oN 61 60,
 oP 62 (.cmp .lss (.t 58) (.t 61))]
def c24r12 : List AOper := [
 oF 65 1 1,
 oL 66 65,
 oM 67 5,
 oP 68 (.idxA 2 (.t 66) (.t 67)),
 oP 69 (.load 2 true (.t 68)),
 oP 6 (.alloc [(.s (.int .i64 0)), (.s (.int .i64 0))]),
 ⟨none, none, .store 2 (.t 6) (.t 69)⟩]
def c24r13 : List AOper := [
 oP 70 (.idxArrA 2 1 (.t 6) (nI 0)),
 oL 71 70,
 oP 72 (.cmp .lss (.t 71) (nI 0)),
 oM 73 72,
 oG 74 73 false (.idxArrA 2 1 (.t 6) (nI 0)),
 oG 75 73 false (.load 1 false (.t 74)),
 oG 76 73 false (.idxArrA 2 1 (.t 6) (nI 1)),
 oG 77 73 false (.load 1 false (.t 76)),
 oG 78 73 false (.cmp .geq (.t 75) (.t 77)),
 oP 79 (.pick (.t 73) bT (.t 78)),
 oM 80 79,
 oG 81 80 false (.idxArrA 2 1 (.t 6) (nI 1)),
 oG 82 80 false (.load 1 false (.t 81)),
 oH 83 80 false 3,
 oG 84 80 false (.cmp .geq (.t 82) (.t 83)),
 oP 85 (.pick (.t 80) bT (.t 84))]
def c24r14 : List AOper := [
 oP 2 (.mov (nI 2))]
def c24r15 : List AOper := [
 oM 86 5,
 oP 87 (.cmp .gtr (.t 86) (nI 0)),
 oM 88 87,
 oG 89 88 true (.fieldAddr 1 (.t 1)),
 oG 90 88 true (.load 1 false (.t 89)),
 oH 91 88 true 5,
 oG 92 88 true (.arith .sub (.t 91) (nI 1)),
 oG 93 88 true (.idxA 2 (.t 90) (.t 92)),
 oG 94 88 true (.load 2 true (.t 93)),
 oG 95 88 true (.load 2 true (.t 6)),
 oG 96 88 true (.call 69 [(.t 94), (.t 95)]),
 oG 97 88 true (.not (.t 96)),
 oP 98 (.pick (.t 88) (.t 97) bF)]
def c24r16 : List AOper := [
 oP 2 (.mov (nI 2))]
def c24r17 : List AOper := [
 oM 63 5,
 oP 64 (.arith .add (.t 63) (nI 1)),
 oM 5 64]
def c24l18 : ACode := (.seq (.seq (.reg 0 c24r11) (.cond (.t 62) .skip (.exit 2))) (.seq (.block 3 (.seq (.reg 1 c24r12) (.seq (.seq (.reg 0 c24r13) (.cond (.t 85) (.seq (.reg 0 c24r14) .ret) .skip)) (.seq (.reg 0 c24r15) (.cond (.t 98) (.seq (.reg 0 c24r16) .ret) .skip))))) (.reg 0 c24r17)))
def c24l18m : List Bool := [fF,tT,fF,tT,fF,tT,fF,fF,fF,fF,fF,fF,fF,fF,fF,fF,fF,fF,fF,fF,fF,fF,fF,fF,fF,fF,fF,fF,fF,fF,fF,fF,fF,fF,fF,fF,fF,fF,fF,fF,fF,fF,fF,fF,fF,fF,fF,fF,fF,fF,fF,fF,fF,fF,fF,fF,fF,fF,fF,fF,fF,fF,fF,fF,fF,fF,fF,fF,fF,fF,fF,fF,fF,fF,fF,fF,fF,fF,fF,fF,fF,fF,fF,fF,fF,fF,fF,fF,fF,fF,fF,fF,fF,fF,fF,fF,fF,fF,fF]
def c24r19 : List AOper := [
 oP 2 (.mov (nI 0))]
def f24 : FRow := ⟨(.seq (.reg 0 c24r0) (.seq (.reg 0 c24r1) (.seq (.seq (.reg 0 c24r2) (.cond (.t 21) (.seq (.reg 0 c24r3) .ret) .skip)) (.seq (.seq (.reg 0 c24r4) (.block 0 (.loop c24l9m [] c24l9))) (.seq (.seq (.reg 0 c24r10) (.block 2 (.loop c24l18m [] c24l18))) (.seq (.reg 0 c24r19) .ret)))))), [.tmp 2], 99⟩
theorem okf24 : f24.Ok Try.prog 24 := ⟨_, _, Try.func24, rfl, by kernel_rfl, by kernel_rfl, by kernel_rfl⟩
def c25r0 : List AOper := [
 oP 3 (.boxS (.t 0)),
 oP 6 (.mov (nI 0))]
def c25r1 : List AOper := [
 oP 10 (.load 2 true (.t 3)),
 oM 11 1,
 oM 12 2,
 oP 13 (.call 70 [(.t 10), (.t 11), (.t 12)]),
 oM 9 13,
 oP 14 (.ext (.t 9) 0),
 oP 15 (.ext (.t 9) 1),
 oM 7 14,
 oM 8 15]
def c25r2 : List AOper := [
 oM 17 8,
 oP 18 (.cmp .neq (.t 17) (nI 0)),
 oM 16 18]
def c25r3 : List AOper := [
 oM 19 8,
 oM 6 19]
def c25r4 : List AOper := [
 oM 21 7,
 oP 22 (.nilck (.t 21)),
 oF 23 2 22,
 oL 24 23,
 oM 25 1,
 oM 26 2,
 oP 27 (.call 71 [(.t 24), (.t 25), (.t 26)]),
 oM 20 27]
def c25r5 : List AOper := [
 oP 6 (.mov (nI 23))]
def c25r6 : List AOper := [
 oP 6 (.mov (nI 0))]
def f25 : FRow := ⟨(.seq (.reg 0 c25r0) (.seq (.reg 0 c25r1) (.seq (.block 0 (.seq (.reg 0 c25r2) (.cond (.t 16) (.seq (.reg 0 c25r3) .ret) (.seq (.reg 0 c25r4) (.cond (.t 20) (.seq (.reg 0 c25r5) .ret) .skip))))) (.seq (.reg 0 c25r6) .ret)))), [.tmp 6], 28⟩
theorem okf25 : f25.Ok Try.prog 25 := ⟨_, _, Try.func25, rfl, by kernel_rfl, by kernel_rfl, by kernel_rfl⟩
def c27r0 : List AOper := [
 oP 1 (.boxS (.t 0)),
 oP 2 (.mov (nI 0)),
 oP 3 (.mov (nI 0))]
def c27r1 : List AOper := [
 oP 7 (.load 2 true (.t 1)),
 oP 8 (.call 57 [(.t 7)]),
 oM 6 8,
 oP 9 (.ext (.t 6) 0),
 oP 10 (.ext (.t 6) 1),
 oM 4 9,
 oM 5 10]
def c27r2 : List AOper := [
 oM 11 5,
 oP 12 (.cmp .neq (.t 11) (nI 0))]
def c27r3 : List AOper := [
 oM 13 5,
 oP 2 (.mov (nI 0)),
 oM 3 13]
def c27r4 : List AOper := [
 oM 14 4,
 oP 15 (.call 74 [(.t 14)]),
 oP 16 (.call 73 [(.t 15)]),
 oP 17 (.arith .add (nI 1) (.t 16)),
 oM 2 17,
 oP 3 (.mov (nI 0))]
def f27 : FRow := ⟨(.seq (.reg 0 c27r0) (.seq (.reg 0 c27r1) (.seq (.seq (.reg 0 c27r2) (.cond (.t 12) (.seq (.reg 0 c27r3) .ret) .skip)) (.seq (.reg 0 c27r4) .ret)))), [.tmp 2, .tmp 3], 18⟩
theorem okf27 : f27.Ok Try.prog 27 := ⟨_, _, Try.func27, rfl, by kernel_rfl, by kernel_rfl, by kernel_rfl⟩
def c29r0 : List AOper := [
 oP 1 (.boxS (.t 0)),
 oP 2 (.mov (.c (.full []))),
 oP 3 (.mov (nI 0))]
def c29r1 : List AOper := [
 oP 9 (.load 2 true (.t 1)),
 oP 10 (.call 57 [(.t 9)]),
 oM 8 10,
 oP 11 (.ext (.t 8) 0),
 oP 12 (.ext (.t 8) 1),
 oM 4 11,
 oM 5 12]
def c29r2 : List AOper := [
 oM 13 5,
 oP 14 (.cmp .neq (.t 13) (nI 0))]
def c29r3 : List AOper := [
 oM 15 5,
 oP 2 (.mov (.c (.full []))),
 oM 3 15]
def c29r4 : List AOper := [
 oM 16 4,
 oP 17 (.call 74 [(.t 16)]),
 oM 6 17]
def c29r5 : List AOper := [
 oM 18 6,
 oN 19 18,
 oP 20 (.mkslice 1 8 [(.int .i64 0)] (.t 19) (.t 19)),
 oM 7 20]
def c29r6 : List AOper := [
 oM 21 7,
 oM 22 6,
 oP 23 (.copy 1 (.t 21) (.t 22))]
def c29r7 : List AOper := [
 oM 24 7,
 oM 2 24,
 oP 3 (.mov (nI 0))]
def f29 : FRow := ⟨(.seq (.reg 0 c29r0) (.seq (.reg 0 c29r1) (.seq (.seq (.reg 0 c29r2) (.cond (.t 14) (.seq (.reg 0 c29r3) .ret) .skip)) (.seq (.reg 0 c29r4) (.seq (.reg 1 c29r5) (.seq (.reg 0 c29r6) (.seq (.reg 0 c29r7) .ret))))))), [.tmp 2, .tmp 3], 25⟩
theorem okf29 : f29.Ok Try.prog 29 := ⟨_, _, Try.func29, rfl, by kernel_rfl, by kernel_rfl, by kernel_rfl⟩
def c30r0 : List AOper := [
 oP 1 (.boxS (.t 0)),
 oP 2 (.mov (.c (.full []))),
 oP 3 (.mov (nI 0))]
def c30r1 : List AOper := [
 oP 4 (.load 2 true (.t 1)),
 oP 5 (.call 24 [(.t 4)]),
 oP 6 (.cmp .neq (.t 5) (nI 0))]
def c30r2 : List AOper := [
 oP 7 (.load 2 true (.t 1)),
 oP 8 (.call 24 [(.t 7)]),
 oP 2 (.mov (.c (.full []))),
 oM 3 8]
def c30r3 : List AOper := [
 oP 9 (.load 2 true (.t 1)),
 oP 10 (.call 75 [(.t 9)]),
 oP 11 (.idxA 1 (.t 10) (nI 0)),
 oL 12 11,
 oM 2 12,
 oP 3 (.mov (nI 0))]
def f30 : FRow := ⟨(.seq (.reg 0 c30r0) (.seq (.seq (.reg 0 c30r1) (.cond (.t 6) (.seq (.reg 0 c30r2) .ret) .skip)) (.seq (.reg 0 c30r3) .ret))), [.tmp 2, .tmp 3], 13⟩
def c31r0 : List AOper := [
 oP 2 (.boxS (.t 0)),
 oP 4 (.mov (nI 0)),
 oP 5 (.mov (nI 0))]
def c31r1 : List AOper := [
 oP 9 (.load 2 true (.t 2)),
 oP 10 (.call 57 [(.t 9)]),
 oM 8 10,
 oP 11 (.ext (.t 8) 0),
 oP 12 (.ext (.t 8) 1),
 oM 6 11,
 oM 7 12]
def c31r2 : List AOper := [
 oM 14 7,
 oP 15 (.cmp .neq (.t 14) (nI 0)),
 oM 13 15]
def c31r3 : List AOper := [
 oM 16 7,
 oP 4 (.mov (nI 0)),
 oM 5 16]
def c31r4 : List AOper := [
 oM 18 1,
 oP 19 (.buildSl 1 1 (.int .i64 0) [(0, (.t 18))]),
 oP 20 (.call 58 [(nI 0), (nI 8), (.t 19)]),
 oP 21 (.not (.t 20)),
 oM 17 21]
def c31r5 : List AOper := [
 oP 4 (.mov (nI 0)),
 oP 5 (.mov (nI 2))]
def c31r6 : List AOper := [
 oM 22 6,
 oP 23 (.call 77 [(.t 22)]),
 oM 24 6,
 oP 25 (.nilck (.t 24)),
 oF 26 2 25,
 oL 27 26,
 oM 28 1,
 oP 29 (.call 76 [(.t 23), (.t 27), (.t 28)]),
 oM 4 29,
 oP 5 (.mov (nI 0))]
def f31 : FRow := ⟨(.seq (.reg 0 c31r0) (.seq (.reg 0 c31r1) (.seq (.block 0 (.seq (.reg 0 c31r2) (.cond (.t 13) (.seq (.reg 0 c31r3) .ret) (.seq (.reg 0 c31r4) (.cond (.t 17) (.seq (.reg 0 c31r5) .ret) .skip))))) (.seq (.reg 0 c31r6) .ret)))), [.tmp 4, .tmp 5], 30⟩
theorem okf31 : f31.Ok Try.prog 31 := ⟨_, _, Try.func31, rfl, by kernel_rfl, by kernel_rfl, by kernel_rfl⟩
def c32r0 : List AOper := [
 oP 2 (.boxS (.t 0)),
 oP 4 (.mov (nI 0)),
 oP 5 (.mov (nI 0))]
def c32r1 : List AOper := [
 oP 6 (.load 2 true (.t 2)),
 oP 7 (.call 24 [(.t 6)]),
 oP 8 (.cmp .neq (.t 7) (nI 0))]
def c32r2 : List AOper := [
 oP 9 (.load 2 true (.t 2)),
 oP 10 (.call 24 [(.t 9)]),
 oP 4 (.mov (nI 0)),
 oM 5 10]
def c32r3 : List AOper := [
 oM 11 1,
 oP 12 (.cmp .lss (.t 11) (nI 0)),
 oM 13 12,
 oH 14 13 false 1,
 oG 15 13 false (.cmp .gtr (.t 14) (nI 8)),
 oP 16 (.pick (.t 13) bT (.t 15))]
def c32r4 : List AOper := [
 oP 4 (.mov (nI 0)),
 oP 5 (.mov (nI 2))]
def c32r5 : List AOper := [
 oP 17 (.load 2 true (.t 2)),
 oM 18 1,
 oP 19 (.call 78 [(.t 17), (.t 18)]),
 oM 4 19,
 oP 5 (.mov (nI 0))]
def f32 : FRow := ⟨(.seq (.reg 0 c32r0) (.seq (.seq (.reg 0 c32r1) (.cond (.t 8) (.seq (.reg 0 c32r2) .ret) .skip)) (.seq (.seq (.reg 0 c32r3) (.cond (.t 16) (.seq (.reg 0 c32r4) .ret) .skip)) (.seq (.reg 0 c32r5) .ret)))), [.tmp 4, .tmp 5], 20⟩
def c33r0 : List AOper := [
 oP 4 (.mov bF)]
def c33r1 : List AOper := [
 oM 6 0,
 oN 7 6,
 oM 8 1,
 oN 9 8,
 oP 10 (.cmp .neq (.t 7) (.t 9))]
def c33r2 : List AOper := [
 oP 4 (.mov bF)]
def c33r3 : List AOper := [
 oP 5 (.mov (nI 0))]
def c33r4 : List AOper := [
 oM 11 5,
 oM 12 0,
 oN 13 12,
 oP 14 (.cmp .lss (.t 11) (.t 13))]
def c33r5 : List AOper := [
 oM 17 0,
 oM 18 5,
 oI 19 17 18,
 oL 20 19,
 oM 21 1,
 oM 22 5,
 oI 23 21 22,
 oL 24 23,
 oP 25 (.cmp .neq (.t 20) (.t 24))]
def c33r6 : List AOper := [
 oP 4 (.mov bF)]
def c33r7 : List AOper := [
 oM 15 5,
 oP 16 (.arith .add (.t 15) (nI 1)),
 oM 5 16]
def c33l8 : ACode := (.seq (.seq (.reg 0 c33r4) (.cond (.t 14) .skip (.exit 0))) (.seq (.block 1 (.seq (.reg 0 c33r5) (.cond (.t 25) (.seq (.reg 0 c33r6) .ret) .skip))) (.reg 0 c33r7)))
def c33l8m : List Bool := [tT,tT,fF,fF,fF,tT,fF,fF,fF,fF,fF,fF,fF,fF,fF,fF,fF,fF,fF,fF,fF,fF,fF,fF,fF,fF]
def c33r9 : List AOper := [
 oP 4 (.mov bT)]
def f33 : FRow := ⟨(.seq (.reg 0 c33r0) (.seq (.seq (.reg 0 c33r1) (.cond (.t 10) (.seq (.reg 0 c33r2) .ret) .skip)) (.seq (.seq (.reg 0 c33r3) (.block 0 (.loop c33l8m [] c33l8))) (.seq (.reg 0 c33r9) .ret)))), [.tmp 4], 26⟩
theorem okf33 : f33.Ok Try.prog 33 := ⟨_, _, Try.func33, rfl, by kernel_rfl, by kernel_rfl, by kernel_rfl⟩
def c34r0 : List AOper := [
 oP 1 (.boxS (.t 0)),
 oP 2 (.mov (.c (.full []))),
 oP 3 (.mov (nI 0))]
def c34r1 : List AOper := [
 oP 7 (.load 2 true (.t 1)),
 oP 8 (.call 57 [(.t 7)]),
 oM 6 8,
 oP 9 (.ext (.t 6) 0),
 oP 10 (.ext (.t 6) 1),
 oM 4 9,
 oM 5 10]
def c34r2 : List AOper := [
 oM 11 5,
 oP 12 (.cmp .neq (.t 11) (nI 0))]
def c34r3 : List AOper := [
 oM 13 5,
 oP 2 (.mov (.c (.full []))),
 oM 3 13]
def c34r4 : List AOper := [
 oM 14 4,
 oP 15 (.call 79 [(.t 14), (.c (.full [])), (nI 0)]),
 oM 2 15,
 oP 3 (.mov (nI 0))]
def f34 : FRow := ⟨(.seq (.reg 0 c34r0) (.seq (.reg 0 c34r1) (.seq (.seq (.reg 0 c34r2) (.cond (.t 12) (.seq (.reg 0 c34r3) .ret) .skip)) (.seq (.reg 0 c34r4) .ret)))), [.tmp 2, .tmp 3], 16⟩
theorem okf34 : f34.Ok Try.prog 34 := ⟨_, _, Try.func34, rfl, by kernel_rfl, by kernel_rfl, by kernel_rfl⟩
def c35r0 : List AOper := [
 oP 1 (.boxS (.t 0)),
 oP 2 (.mov (.c (.full []))),
 oP 3 (.mov (nI 0))]
def c35r1 : List AOper := [
 oP 7 (.load 2 true (.t 1)),
 oP 8 (.call 24 [(.t 7)]),
 oP 9 (.cmp .neq (.t 8) (nI 0))]
def c35r2 : List AOper := [
 oP 10 (.load 2 true (.t 1)),
 oP 11 (.call 24 [(.t 10)]),
 oP 2 (.mov (.c (.full []))),
 oM 3 11]
def c35r3 : List AOper := [
 oP 4 (.mov (.c (.full [])))]
def c35r4 : List AOper := [
 oP 5 (.mov (nI 1))]
def c35r5 : List AOper := [
 oM 12 5,
 oF 13 0 1,
 oL 14 13,
 oN 15 14,
 oP 16 (.shift .shl (nI 1) (.t 15)),
 oP 17 (.cmp .lss (.t 12) (.t 16))]
def c35r6 : List AOper := [
 oM 20 5,
 oF 21 0 1,
 oL 22 21,
 oN 23 22,
 oP 24 (.call 47 [(.t 20), (.t 23)]),
 oM 6 24]
def c35r7 : List AOper := [
 oP 25 (.load 2 true (.t 1)),
 oM 26 6,
 oP 27 (.call 39 [(.t 25), (.t 26)]),
 oP 28 (.cmp .eql (.t 27) (nI 0)),
 oM 29 28,
 oH 30 29 true 6,
 oG 31 29 true (.len false (.t 30)),
 oH 32 29 true 4,
 oG 33 29 true (.len false (.t 32)),
 oG 34 29 true (.cmp .gtr (.t 31) (.t 33)),
 oH 35 29 true 34,
 oH 36 35 false 6,
 oG 37 35 false (.len false (.t 36)),
 oH 38 35 false 4,
 oG 39 35 false (.len false (.t 38)),
 oG 40 35 false (.cmp .eql (.t 37) (.t 39)),
 oH 41 35 false 40,
 oH 42 41 true 6,
 oH 43 41 true 4,
 oG 44 41 true (.call 80 [(.t 42), (.t 43)]),
 oG 45 35 false (.pick (.t 41) (.t 44) bF),
 oG 46 29 true (.pick (.t 35) bT (.t 45)),
 oP 47 (.pick (.t 29) (.t 46) bF)]
def c35r8 : List AOper := [
 oM 48 6,
 oM 4 48]
def c35r9 : List AOper := [
 oM 18 5,
 oP 19 (.arith .add (.t 18) (nI 1)),
 oM 5 19]
def c35l10 : ACode := (.seq (.seq (.reg 0 c35r5) (.cond (.t 17) .skip (.exit 0))) (.seq (.block 1 (.seq (.reg 0 c35r6) (.seq (.reg 0 c35r7) (.cond (.t 47) (.reg 0 c35r8) .skip)))) (.reg 0 c35r9)))
def c35l10m : List Bool := [fF,tT,fF,fF,tT,tT,fF,fF,fF,fF,fF,fF,fF,fF,fF,fF,fF,fF,fF,fF,fF,fF,fF,fF,fF,fF,fF,fF,fF,fF,fF,fF,fF,fF,fF,fF,fF,fF,fF,fF,fF,fF,fF,fF,fF,fF,fF,fF,fF,fF]
def c35r11 : List AOper := [
 oM 49 4,
 oM 2 49,
 oP 3 (.mov (nI 0))]
def f35 : FRow := ⟨(.seq (.reg 0 c35r0) (.seq (.seq (.reg 0 c35r1) (.cond (.t 9) (.seq (.reg 0 c35r2) .ret) .skip)) (.seq (.reg 0 c35r3) (.seq (.seq (.reg 0 c35r4) (.block 0 (.loop c35l10m [] c35l10))) (.seq (.reg 0 c35r11) .ret))))), [.tmp 2, .tmp 3], 50⟩
def c36r0 : List AOper := [
 oP 1 (.boxS (.t 0)),
 oP 2 (.mov (.c (.full []))),
 oP 3 (.mov (nI 0))]
def c36r1 : List AOper := [
 oP 10 (.load 2 true (.t 1)),
 oP 11 (.call 57 [(.t 10)]),
 oM 9 11,
 oP 12 (.ext (.t 9) 0),
 oP 13 (.ext (.t 9) 1),
 oM 4 12,
 oM 5 13]
def c36r2 : List AOper := [
 oM 14 5,
 oP 15 (.cmp .neq (.t 14) (nI 0))]
def c36r3 : List AOper := [
 oM 16 5,
 oP 2 (.mov (.c (.full []))),
 oM 3 16]
def c36r4 : List AOper := [
 oP 6 (.mov (.c (.full [])))]
def c36r5 : List AOper := [
 oF 17 0 1,
 oL 18 17,
 oN 19 18,
 oP 20 (.mov (nI 0))]
def c36r6 : List AOper := [
 oP 21 (.cmp .lss (.t 20) (.t 19))]
def c36r7 : List AOper := [
 oM 22 20,
 oM 7 22]
def c36r8 : List AOper := [
 oM 23 4,
 oM 24 7,
 oP 25 (.call 81 [(.t 23), (.t 24)]),
 oM 8 25]
def c36r9 : List AOper := [
 oM 26 8,
 oN 27 26,
 oP 28 (.cmp .gtr (.t 27) (nI 0))]
def c36r10 : List AOper := [
 oM 29 6,
 oP 30 (.frzv (.t 8)),
 oP 31 (.buildSl 1 1 (.slice []) [(0, (.t 30))]),
 oP 32 (.append 1 24 (.t 29) (.t 31)),
 oM 6 32]
def c36r11 : List AOper := [
 oP 33 (.arith .add (.t 20) (nI 1)),
 oM 20 33]
def c36l12 : ACode := (.seq (.reg 0 c36r6) (.seq (.cond (.t 21) .skip (.exit 0)) (.seq (.block 1 (.seq (.reg 0 c36r7) (.seq (.reg 0 c36r8) (.seq (.reg 0 c36r9) (.cond (.t 28) (.reg 1 c36r10) .skip))))) (.reg 0 c36r11))))
def c36l12m : List Bool := [fF,fF,fF,fF,tT,fF,tT,fF,fF,fF,fF,fF,fF,fF,fF,fF,fF,fF,fF,tT,tT,fF,fF,fF,fF,fF,fF,fF,fF,fF,fF,fF,fF,fF,fF,fF,fF,fF,fF]
def c36r13 : List AOper := [
 oM 34 6,
 oN 35 34,
 oP 36 (.cmp .eql (.t 35) (nI 0))]
def c36r14 : List AOper := [
 oP 2 (.mov (.c (.full []))),
 oP 3 (.mov (nI 5))]
def c36r15 : List AOper := [
 oP 37 (.frzv (.t 6)),
 oP 38 (.call 82 [(.t 37), (.c (.s (.fn 83 [] [])))]),
 oM 2 38,
 oP 3 (.mov (nI 0))]
def f36 : FRow := ⟨(.seq (.reg 0 c36r0) (.seq (.reg 0 c36r1) (.seq (.seq (.reg 0 c36r2) (.cond (.t 15) (.seq (.reg 0 c36r3) .ret) .skip)) (.seq (.reg 0 c36r4) (.seq (.seq (.reg 0 c36r5) (.block 0 (.loop c36l12m [(6, none, 0)] c36l12))) (.seq (.seq (.reg 0 c36r13) (.cond (.t 36) (.seq (.reg 0 c36r14) .ret) .skip)) (.seq (.reg 0 c36r15) .ret))))))), [.tmp 2, .tmp 3], 39⟩
theorem okf36 : f36.Ok Try.prog 36 := ⟨_, _, Try.func36, rfl, by kernel_rfl, by kernel_rfl, by kernel_rfl⟩
def c38r0 : List AOper := [
 oP 2 (.boxS (.t 0)),
 oP 4 (.mov (nI 0))]
def c38r1 : List AOper := [
 oP 11 (.load 2 true (.t 2)),
 oP 12 (.call 57 [(.t 11)]),
 oM 10 12,
 oP 13 (.ext (.t 10) 0),
 oP 14 (.ext (.t 10) 1),
 oM 5 13,
 oM 6 14]
def c38r2 : List AOper := [
 oM 15 6,
 oP 16 (.cmp .neq (.t 15) (nI 0))]
def c38r3 : List AOper := [
 oM 17 6,
 oM 4 17]
def c38r4 : List AOper := [
 oP 7 (.mov (nI 0))]
def c38r5 : List AOper := [
 oM 18 1,
 oN 19 18,
 oP 20 (.mov (nI 0))]
def c38r6 : List AOper := [
 oP 21 (.cmp .lss (.t 20) (.t 19))]
def c38r7 : List AOper := [
 oI 22 18 20,
 oL 23 22,
 oM 9 23]
def c38r8 : List AOper := [
 oM 24 7,
 oF 25 0 2,
 oL 26 25,
 oN 27 26,
 oP 28 (.arith .sub (.t 27) (nI 1)),
 oM 29 9,
 oP 30 (.buildSl 1 1 (.int .i64 0) [(0, (.t 29))]),
 oP 31 (.call 58 [(.t 24), (.t 28), (.t 30)]),
 oP 32 (.not (.t 31))]
def c38r9 : List AOper := [
 oP 4 (.mov (nI 3))]
def c38r10 : List AOper := [
 oM 33 9,
 oP 34 (.arith .add (.t 33) (nI 1)),
 oM 7 34]
def c38r11 : List AOper := [
 oP 35 (.arith .add (.t 20) (nI 1)),
 oM 20 35]
def c38l12 : ACode := (.seq (.reg 0 c38r6) (.seq (.cond (.t 21) .skip (.exit 0)) (.seq (.block 1 (.seq (.reg 0 c38r7) (.seq (.seq (.reg 0 c38r8) (.cond (.t 32) (.seq (.reg 0 c38r9) .ret) .skip)) (.reg 0 c38r10)))) (.reg 0 c38r11))))
def c38l12m : List Bool := [fF,tT,tT,fF,fF,tT,fF,tT,fF,fF,fF,fF,fF,fF,fF,fF,fF,fF,tT,tT,tT,fF,fF,fF,fF,fF,fF,fF,fF,fF,fF,fF,fF,fF,fF,fF,fF,fF,fF,fF,fF,fF,fF,fF,fF]
def c38r13 : List AOper := [
 oM 37 1,
 oN 38 37,
 oP 39 (.cmp .eql (.t 38) (nI 0)),
 oM 36 39]
def c38r14 : List AOper := [
 oP 4 (.mov (nI 3))]
def c38r15 : List AOper := [
 oM 41 5,
 oM 42 1,
 oP 43 (.call 84 [(.t 41), (.t 42)]),
 oP 44 (.not (.t 43)),
 oM 40 44]
def c38r16 : List AOper := [
 oP 4 (.mov (nI 14))]
def c38r17 : List AOper := [
 oP 4 (.mov (nI 0))]
def f38 : FRow := ⟨(.seq (.reg 0 c38r0) (.seq (.reg 0 c38r1) (.seq (.seq (.reg 0 c38r2) (.cond (.t 16) (.seq (.reg 0 c38r3) .ret) .skip)) (.seq (.reg 0 c38r4) (.seq (.seq (.reg 0 c38r5) (.block 0 (.loop c38l12m [] c38l12))) (.seq (.block 2 (.seq (.reg 0 c38r13) (.cond (.t 36) (.seq (.reg 0 c38r14) .ret) (.seq (.reg 0 c38r15) (.cond (.t 40) (.seq (.reg 0 c38r16) .ret) .skip))))) (.seq (.reg 0 c38r17) .ret))))))), [.tmp 4], 45⟩
theorem okf38 : f38.Ok Try.prog 38 := ⟨_, _, Try.func38, rfl, by kernel_rfl, by kernel_rfl, by kernel_rfl⟩
def c40r0 : List AOper := [
 oP 2 (.boxS (.t 0)),
 oP 4 (.mov (nI 0))]
def c40r1 : List AOper := [
 oP 11 (.load 2 true (.t 2)),
 oP 12 (.call 57 [(.t 11)]),
 oM 10 12,
 oP 13 (.ext (.t 10) 0),
 oP 14 (.ext (.t 10) 1),
 oM 5 13,
 oM 6 14]
def c40r2 : List AOper := [
 oM 16 6,
 oP 17 (.cmp .neq (.t 16) (nI 0)),
 oM 15 17]
def c40r3 : List AOper := [
 oM 18 6,
 oM 4 18]
def c40r4 : List AOper := [
 oF 20 0 2,
 oL 21 20,
 oN 22 21,
 oP 23 (.arith .sub (.t 22) (nI 1)),
 oM 24 1,
 oP 25 (.call 58 [(nI 0), (.t 23), (.t 24)]),
 oP 26 (.not (.t 25)),
 oM 19 26]
def c40r5 : List AOper := [
 oP 4 (.mov (nI 3))]
def c40r6 : List AOper := [
 oM 28 1,
 oN 29 28,
 oP 30 (.cmp .lss (.t 29) (nI 3)),
 oM 31 30,
 oH 32 31 false 1,
 oG 33 31 false (.len false (.t 32)),
 oG 34 31 false (.div .rem (.t 33) (nI 2)),
 oG 35 31 false (.cmp .eql (.t 34) (nI 0)),
 oP 36 (.pick (.t 31) bT (.t 35)),
 oM 37 36,
 oH 38 37 false 1,
 oG 39 37 false (.call 60 [(.t 38)]),
 oG 40 37 false (.callN 1 59 [(.t 39)]),
 oG 41 37 false (.callF 61 (.t 40) []),
 oG 42 37 false (.len false (.t 41)),
 oH 43 37 false 1,
 oG 44 37 false (.len false (.t 43)),
 oG 45 37 false (.cmp .lss (.t 42) (.t 44)),
 oP 46 (.pick (.t 37) bT (.t 45)),
 oM 27 46]
def c40r7 : List AOper := [
 oP 4 (.mov (nI 16))]
def c40r8 : List AOper := [
 oM 47 1,
 oM 48 1,
 oN 49 48,
 oP 50 (.arith .sub (.t 49) (nI 1)),
 oI 51 47 50,
 oL 52 51,
 oM 7 52]
def c40r9 : List AOper := [
 oM 53 1,
 oN 54 53,
 oP 55 (.mov (nI 0))]
def c40r10 : List AOper := [
 oP 56 (.cmp .lss (.t 55) (.t 54))]
def c40r11 : List AOper := [
 oI 57 53 55,
 oL 58 57,
 oM 9 58]
def c40r12 : List AOper := [
 oM 59 5,
 oP 60 (.nilck (.t 59)),
 oF 61 2 60,
 oL 62 61,
 oM 63 7,
 oM 64 9,
 oP 65 (.call 71 [(.t 62), (.t 63), (.t 64)]),
 oP 66 (.not (.t 65))]
def c40r13 : List AOper := [
 oP 4 (.mov (nI 14))]
def c40r14 : List AOper := [
 oM 67 9,
 oM 7 67]
def c40r15 : List AOper := [
 oP 68 (.arith .add (.t 55) (nI 1)),
 oM 55 68]
def c40l16 : ACode := (.seq (.reg 0 c40r10) (.seq (.cond (.t 56) .skip (.exit 1)) (.seq (.block 2 (.seq (.reg 0 c40r11) (.seq (.seq (.reg 0 c40r12) (.cond (.t 66) (.seq (.reg 0 c40r13) .ret) .skip)) (.reg 0 c40r14)))) (.reg 0 c40r15))))
def c40l16m : List Bool := [fF,fF,fF,fF,fF,tT,fF,tT,fF,fF,fF,fF,fF,fF,fF,fF,fF,fF,fF,fF,fF,fF,fF,fF,fF,fF,fF,fF,fF,fF,fF,fF,fF,fF,fF,fF,fF,fF,fF,fF,fF,fF,fF,fF,fF,fF,fF,fF,fF,fF,fF,fF,fF,tT,tT,tT,fF,fF,fF,fF,fF,fF,fF,fF,fF,fF,fF,fF,fF]
def c40r17 : List AOper := [
 oP 4 (.mov (nI 0))]
def f40 : FRow := ⟨(.seq (.reg 0 c40r0) (.seq (.reg 0 c40r1) (.seq (.block 0 (.seq (.reg 0 c40r2) (.cond (.t 15) (.seq (.reg 0 c40r3) .ret) (.seq (.reg 0 c40r4) (.cond (.t 19) (.seq (.reg 0 c40r5) .ret) (.seq (.reg 1 c40r6) (.cond (.t 27) (.seq (.reg 0 c40r7) .ret) .skip))))))) (.seq (.reg 0 c40r8) (.seq (.seq (.reg 0 c40r9) (.block 1 (.loop c40l16m [] c40l16))) (.seq (.reg 0 c40r17) .ret)))))), [.tmp 4], 69⟩
theorem okf40 : f40.Ok Try.prog 40 := ⟨_, _, Try.func40, rfl, by kernel_rfl, by kernel_rfl, by kernel_rfl⟩
def c41r0 : List AOper := [
 oP 2 (.boxS (.t 0)),
 oP 4 (.mov (nI 0))]
def c41r1 : List AOper := [
 oP 7 (.load 2 true (.t 2)),
 oP 8 (.call 24 [(.t 7)]),
 oP 9 (.cmp .neq (.t 8) (nI 0))]
def c41r2 : List AOper := [
 oP 10 (.load 2 true (.t 2)),
 oP 11 (.call 24 [(.t 10)]),
 oM 4 11]
def c41r3 : List AOper := [
 oP 5 (.mov (nI 0))]
def c41r4 : List AOper := [
 oM 12 5,
 oM 13 1,
 oN 14 13,
 oP 15 (.cmp .lss (.t 12) (.t 14))]
def c41r5 : List AOper := [
 oM 18 1,
 oM 19 5,
 oI 20 18 19,
 oL 21 20,
 oP 22 (.cmp .lss (.t 21) (nI 0)),
 oM 23 22,
 oH 24 23 false 1,
 oH 25 23 false 5,
 oG 26 23 false (.idxA 1 (.t 24) (.t 25)),
 oG 27 23 false (.load 1 false (.t 26)),
 oG 28 23 false (.fieldAddr 0 (.t 2)),
 oG 29 23 false (.load 1 false (.t 28)),
 oG 30 23 false (.len false (.t 29)),
 oG 31 23 false (.cmp .geq (.t 27) (.t 30)),
 oP 32 (.pick (.t 23) bT (.t 31))]
def c41r6 : List AOper := [
 oP 4 (.mov (nI 3))]
def c41r7 : List AOper := [
 oM 16 5,
 oP 17 (.arith .add (.t 16) (nI 1)),
 oM 5 17]
def c41l8 : ACode := (.seq (.seq (.reg 0 c41r4) (.cond (.t 15) .skip (.exit 0))) (.seq (.block 1 (.seq (.reg 0 c41r5) (.cond (.t 32) (.seq (.reg 0 c41r6) .ret) .skip))) (.reg 0 c41r7)))
def c41l8m : List Bool := [fF,tT,tT,fF,fF,tT,fF,fF,fF,fF,fF,fF,fF,fF,fF,fF,fF,fF,fF,fF,fF,fF,fF,fF,fF,fF,fF,fF,fF,fF,fF,fF,fF,fF,fF,fF,fF,fF,fF,fF,fF,fF,fF,fF,fF,fF,fF,fF,fF,fF,fF,fF,fF,fF,fF,fF,fF,fF,fF,fF,fF,fF,fF,fF,fF,fF,fF,fF,fF,fF]
def c41r9 : List AOper := [
 oM 33 1,
 oN 34 33,
 oP 35 (.cmp .lss (.t 34) (nI 3)),
 oM 36 35,
 oH 37 36 false 1,
 oG 38 36 false (.len false (.t 37)),
 oG 39 36 false (.div .rem (.t 38) (nI 2)),
 oG 40 36 false (.cmp .eql (.t 39) (nI 0)),
 oP 41 (.pick (.t 36) bT (.t 40)),
 oM 42 41,
 oH 43 42 false 1,
 oG 44 42 false (.call 62 [(.t 43)]),
 oH 45 42 false 1,
 oG 46 42 false (.len false (.t 45)),
 oG 47 42 false (.cmp .lss (.t 44) (.t 46)),
 oP 48 (.pick (.t 42) bT (.t 47))]
def c41r10 : List AOper := [
 oP 4 (.mov (nI 16))]
def c41r11 : List AOper := [
 oP 6 (.mov (nI 0))]
def c41r12 : List AOper := [
 oM 49 6,
 oM 50 1,
 oN 51 50,
 oP 52 (.cmp .lss (.t 49) (.t 51))]
def c41r13 : List AOper := [
 oP 55 (.load 2 true (.t 2)),
 oM 56 1,
 oM 57 6,
 oI 58 56 57,
 oL 59 58,
 oM 60 1,
 oM 61 6,
 oP 62 (.arith .add (.t 61) (nI 1)),
 oM 63 1,
 oN 64 63,
 oP 65 (.div .rem (.t 62) (.t 64)),
 oI 66 60 65,
 oL 67 66,
 oP 68 (.call 51 [(.t 55), (.t 59), (.t 67)]),
 oP 69 (.not (.t 68))]
def c41r14 : List AOper := [
 oP 4 (.mov (nI 14))]
def c41r15 : List AOper := [
 oM 53 6,
 oP 54 (.arith .add (.t 53) (nI 1)),
 oM 6 54]
def c41l16 : ACode := (.seq (.seq (.reg 0 c41r12) (.cond (.t 52) .skip (.exit 2))) (.seq (.block 3 (.seq (.reg 0 c41r13) (.cond (.t 69) (.seq (.reg 0 c41r14) .ret) .skip))) (.reg 0 c41r15)))
def c41l16m : List Bool := [fF,tT,tT,fF,fF,fF,tT,fF,fF,fF,fF,fF,fF,fF,fF,fF,fF,fF,fF,fF,fF,fF,fF,fF,fF,fF,fF,fF,fF,fF,fF,fF,fF,fF,fF,fF,fF,fF,fF,fF,fF,fF,fF,fF,fF,fF,fF,fF,fF,fF,fF,fF,fF,fF,fF,fF,fF,fF,fF,fF,fF,fF,fF,fF,fF,fF,fF,fF,fF,fF]
def c41r17 : List AOper := [
 oP 4 (.mov (nI 0))]
def f41 : FRow := ⟨(.seq (.reg 0 c41r0) (.seq (.seq (.reg 0 c41r1) (.cond (.t 9) (.seq (.reg 0 c41r2) .ret) .skip)) (.seq (.seq (.reg 0 c41r3) (.block 0 (.loop c41l8m [] c41l8))) (.seq (.seq (.reg 0 c41r9) (.cond (.t 48) (.seq (.reg 0 c41r10) .ret) .skip)) (.seq (.seq (.reg 0 c41r11) (.block 2 (.loop c41l16m [] c41l16))) (.seq (.reg 0 c41r17) .ret)))))), [.tmp 4], 70⟩
theorem okf41 : f41.Ok Try.prog 41 := ⟨_, _, Try.func41, rfl, by kernel_rfl, by kernel_rfl, by kernel_rfl⟩
def c43r0 : List AOper := [
 oP 3 (.boxS (.t 0)),
 oP 6 (.mov (nI 0)),
 oP 7 (.mov (nI 0))]
def c43r1 : List AOper := [
 oP 14 (.load 2 true (.t 3)),
 oM 15 1,
 oM 16 2,
 oP 17 (.call 70 [(.t 14), (.t 15), (.t 16)]),
 oM 13 17,
 oP 18 (.ext (.t 13) 0),
 oP 19 (.ext (.t 13) 1),
 oM 8 18,
 oM 9 19]
def c43r2 : List AOper := [
 oM 20 9,
 oP 21 (.cmp .neq (.t 20) (nI 0))]
def c43r3 : List AOper := [
 oM 22 9,
 oP 6 (.mov (nI 0)),
 oM 7 22]
def c43r4 : List AOper := [
 oM 23 8,
 oP 24 (.nilck (.t 23)),
 oF 25 2 24,
 oL 26 25,
 oM 27 1,
 oM 28 2,
 oP 29 (.call 71 [(.t 26), (.t 27), (.t 28)])]
def c43r5 : List AOper := [
 oP 6 (.mov (nI 0)),
 oP 7 (.mov (nI 0))]
def c43r6 : List AOper := [
 oM 30 8,
 oP 31 (.call 74 [(.t 30)]),
 oP 32 (.call 73 [(.t 31)]),
 oP 33 (.arith .add (nI 1) (.t 32)),
 oM 10 33]
def c43r7 : List AOper := [
 oM 34 8,
 oP 35 (.call 77 [(.t 34)]),
 oM 36 8,
 oP 37 (.nilck (.t 36)),
 oF 38 2 37,
 oL 39 38,
 oM 40 10,
 oP 41 (.call 76 [(.t 35), (.t 39), (.t 40)]),
 oM 11 41]
def c43r8 : List AOper := [
 oM 42 8,
 oM 43 2,
 oP 44 (.call 85 [(.t 42), (.t 43)]),
 oM 45 8,
 oP 46 (.nilck (.t 45)),
 oF 47 2 46,
 oL 48 47,
 oM 49 1,
 oM 50 2,
 oP 51 (.call 86 [(.t 48), (.t 49), (.t 50)]),
 oM 52 10,
 oP 53 (.call 76 [(.t 44), (.t 51), (.t 52)]),
 oM 12 53]
def c43r9 : List AOper := [
 oM 54 12]
def c43r10 : List AOper := [
 oM 56 11,
 oP 57 (.cmp .eql (.t 54) (.t 56)),
 oM 55 57]
def c43r11 : List AOper := [
 oP 6 (.mov (nI 2)),
 oP 7 (.mov (nI 0))]
def c43r12 : List AOper := [
 oP 59 (.cmp .eql (.t 54) (nI 0)),
 oM 58 59]
def c43r13 : List AOper := [
 oP 6 (.mov (nI 0)),
 oP 7 (.mov (nI 0))]
def c43r14 : List AOper := [
 oP 6 (.mov (nI 1)),
 oP 7 (.mov (nI 0))]
def f43 : FRow := ⟨(.seq (.reg 0 c43r0) (.seq (.reg 0 c43r1) (.seq (.seq (.reg 0 c43r2) (.cond (.t 21) (.seq (.reg 0 c43r3) .ret) .skip)) (.seq (.seq (.reg 0 c43r4) (.cond (.t 29) (.seq (.reg 0 c43r5) .ret) .skip)) (.seq (.reg 0 c43r6) (.seq (.reg 0 c43r7) (.seq (.reg 0 c43r8) (.seq (.seq (.reg 0 c43r9) (.block 0 (.seq (.reg 0 c43r10) (.cond (.t 55) (.seq (.reg 0 c43r11) .ret) (.seq (.reg 0 c43r12) (.cond (.t 58) (.seq (.reg 0 c43r13) .ret) .skip)))))) (.seq (.reg 0 c43r14) .ret))))))))), [.tmp 6, .tmp 7], 60⟩
theorem okf43 : f43.Ok Try.prog 43 := ⟨_, _, Try.func43, rfl, by kernel_rfl, by kernel_rfl, by kernel_rfl⟩
def c45r0 : List AOper := [
 oP 1 (.boxS (.t 0)),
 oP 2 (.mov bF)]
def c45r1 : List AOper := [
 oP 3 (.load 2 true (.t 1)),
 oP 4 (.call 17 [(.t 3)]),
 oP 5 (.not (.t 4)),
 oM 6 5,
 oG 7 6 true (.load 2 true (.t 1)),
 oG 8 6 true (.call 24 [(.t 7)]),
 oG 9 6 true (.cmp .eql (.t 8) (nI 0)),
 oP 10 (.pick (.t 6) (.t 9) bF),
 oM 2 10]
def f45 : FRow := ⟨(.seq (.reg 0 c45r0) (.seq (.reg 0 c45r1) .ret)), [.tmp 2], 11⟩
theorem okf45 : f45.Ok Try.prog 45 := ⟨_, _, Try.func45, rfl, by kernel_rfl, by kernel_rfl, by kernel_rfl⟩
def c50r0 : List AOper := [
 oP 2 (.boxS (.t 0)),
 oP 4 (.mov (nI 0)),
 oP 5 (.mov bF)]
def c50r1 : List AOper := [
 oP 9 (.load 2 true (.t 2)),
 oM 10 1,
 oP 11 (.call 31 [(.t 9), (.t 10)]),
 oM 8 11,
 oP 12 (.ext (.t 8) 0),
 oP 13 (.ext (.t 8) 1),
 oM 6 12,
 oM 7 13]
def c50r2 : List AOper := [
 oM 14 6,
 oM 15 7,
 oP 16 (.cmp .eql (.t 15) (nI 0)),
 oM 17 16,
 oH 18 17 true 6,
 oG 19 17 true (.cmp .geq (.t 18) (nI 0)),
 oP 20 (.pick (.t 17) (.t 19) bF),
 oM 21 20,
 oH 22 21 true 6,
 oG 23 21 true (.cmp .leq (.t 22) (nI 20000000)),
 oP 24 (.pick (.t 21) (.t 23) bF),
 oM 4 14,
 oM 5 24]
def f50 : FRow := ⟨(.seq (.reg 0 c50r0) (.seq (.reg 0 c50r1) (.seq (.reg 0 c50r2) .ret))), [.tmp 4, .tmp 5], 25⟩
theorem okf50 : f50.Ok Try.prog 50 := ⟨_, _, Try.func50, rfl, by kernel_rfl, by kernel_rfl, by kernel_rfl⟩
def c51r0 : List AOper := [
 oP 3 (.boxS (.t 0)),
 oP 6 (.mov bF)]
def c51r1 : List AOper := [
 oF 11 0 3,
 oP 12 (.loadS 1 false (.t 11)),
 oM 13 1,
 oP 14 (.idxA 2 (.t 12) (.t 13)),
 oP 15 (.loadS 2 true (.t 14)),
 oF 16 0 3,
 oP 17 (.loadS 1 false (.t 16)),
 oM 18 2,
 oP 19 (.idxA 2 (.t 17) (.t 18)),
 oP 20 (.loadS 2 true (.t 19)),
 oP 7 (.alloc [(.s (.int .i64 0)), (.s (.int .i64 0))]),
 oP 8 (.alloc [(.s (.int .i64 0)), (.s (.int .i64 0))]),
 ⟨none, none, .store 2 (.t 7) (.t 15)⟩,
 ⟨none, none, .store 2 (.t 8) (.t 20)⟩]
def c51r2 : List AOper := [
 oF 21 0 7,
 oL 22 21,
 oF 23 1 8,
 oL 24 23,
 oP 25 (.cmp .leq (.t 22) (.t 24)),
 oM 26 25,
 oG 27 26 true (.fieldAddr 0 (.t 8)),
 oG 28 26 true (.load 1 false (.t 27)),
 oG 29 26 true (.fieldAddr 1 (.t 7)),
 oG 30 26 true (.load 1 false (.t 29)),
 oG 31 26 true (.cmp .leq (.t 28) (.t 30)),
 oP 32 (.pick (.t 26) (.t 31) bF)]
def c51r3 : List AOper := [
 oP 6 (.mov bT)]
def c51r4 : List AOper := [
 oP 9 (.mov (nI 0))]
def c51r5 : List AOper := [
 oM 33 9,
 oF 34 1 3,
 oP 35 (.loadS 1 false (.t 34)),
 oN 36 35,
 oP 37 (.cmp .lss (.t 33) (.t 36))]
def c51r6 : List AOper := [
 oF 40 1 3,
 oP 41 (.loadS 1 false (.t 40)),
 oM 42 9,
 oP 43 (.idxA 2 (.t 41) (.t 42)),
 oP 44 (.loadS 2 true (.t 43)),
 oP 10 (.alloc [(.s (.int .i64 0)), (.s (.int .i64 0))]),
 ⟨none, none, .store 2 (.t 10) (.t 44)⟩]
def c51r7 : List AOper := [
 oP 45 (.idxArrA 2 1 (.t 10) (nI 0)),
 oL 46 45,
 oM 47 1,
 oP 48 (.cmp .eql (.t 46) (.t 47)),
 oM 49 48,
 oG 50 49 true (.idxArrA 2 1 (.t 10) (nI 1)),
 oG 51 49 true (.load 1 false (.t 50)),
 oH 52 49 true 2,
 oG 53 49 true (.cmp .eql (.t 51) (.t 52)),
 oP 54 (.pick (.t 49) (.t 53) bF),
 oM 55 54,
 oG 56 55 false (.idxArrA 2 1 (.t 10) (nI 0)),
 oG 57 55 false (.load 1 false (.t 56)),
 oH 58 55 false 2,
 oG 59 55 false (.cmp .eql (.t 57) (.t 58)),
 oH 60 55 false 59,
 oG 61 60 true (.idxArrA 2 1 (.t 10) (nI 1)),
 oG 62 60 true (.load 1 false (.t 61)),
 oH 63 60 true 1,
 oG 64 60 true (.cmp .eql (.t 62) (.t 63)),
 oG 65 55 false (.pick (.t 60) (.t 64) bF),
 oP 66 (.pick (.t 55) bT (.t 65))]
def c51r8 : List AOper := [
 oP 6 (.mov bT)]
def c51r9 : List AOper := [
 oM 38 9,
 oP 39 (.arith .add (.t 38) (nI 1)),
 oM 9 39]
def c51l10 : ACode := (.seq (.seq (.reg 0 c51r5) (.cond (.t 37) .skip (.exit 0))) (.seq (.block 1 (.seq (.reg 1 c51r6) (.seq (.reg 0 c51r7) (.cond (.t 66) (.seq (.reg 0 c51r8) .ret) .skip)))) (.reg 0 c51r9)))
def c51l10m : List Bool := [fF,tT,tT,tT,fF,fF,fF,fF,fF,tT,fF,fF,fF,fF,fF,fF,fF,fF,fF,fF,fF,fF,fF,fF,fF,fF,fF,fF,fF,fF,fF,fF,fF,fF,fF,fF,fF,fF,fF,fF,fF,fF,fF,fF,fF,fF,fF,fF,fF,fF,fF,fF,fF,fF,fF,fF,fF,fF,fF,fF,fF,fF,fF,fF,fF,fF,fF]
def c51r11 : List AOper := [
 oP 6 (.mov bF)]
def f51 : FRow := ⟨(.seq (.reg 0 c51r0) (.seq (.reg 2 c51r1) (.seq (.seq (.reg 0 c51r2) (.cond (.t 32) (.seq (.reg 0 c51r3) .ret) .skip)) (.seq (.seq (.reg 0 c51r4) (.block 0 (.loop c51l10m [] c51l10))) (.seq (.reg 0 c51r11) .ret))))), [.tmp 6], 67⟩
theorem okf51 : f51.Ok Try.prog 51 := ⟨_, _, Try.func51, rfl, by kernel_rfl, by kernel_rfl, by kernel_rfl⟩
def c53r0 : List AOper := [
 oP 6 (.mov (nI 0))]
def c53r1 : List AOper := [
 oM 7 0,
 oM 8 2,
 oP 9 (.cmp .eql (.t 7) (.t 8))]
def c53r2 : List AOper := [
 oM 10 1,
 oM 6 10]
def c53r3 : List AOper := [
 oM 11 0,
 oM 12 2,
 oP 13 (.cmp .gtr (.t 11) (.t 12))]
def c53r4 : List AOper := [
 oM 14 0,
 oP 15 (.arith .sub (.t 14) (nI 1)),
 oM 6 15]
def c53r5 : List AOper := [
 oM 16 0,
 oM 6 16]
def f53 : FRow := ⟨(.seq (.reg 0 c53r0) (.seq (.seq (.reg 0 c53r1) (.cond (.t 9) (.seq (.reg 0 c53r2) .ret) .skip)) (.seq (.seq (.reg 0 c53r3) (.cond (.t 13) (.seq (.reg 0 c53r4) .ret) .skip)) (.seq (.reg 0 c53r5) .ret)))), [.tmp 6], 17⟩
theorem okf53 : f53.Ok Try.prog 53 := ⟨_, _, Try.func53, rfl, by kernel_rfl, by kernel_rfl, by kernel_rfl⟩
def c54r0 : List AOper := [
 oP 0 (.alloc [(.full []), (.full [])])]
def c54r1 : List AOper := [
 oP 2 (.buildSl 1 8 (.int .i64 0) [(0, (nI 1)), (1, (nI 4)), (2, (nI 3)), (3, (nI 6)), (4, (nI 6)), (5, (nI 8)), (6, (nI 2)), (7, (nI 3))]),
 oP 3 (.call 87 [(.t 2)]),
 oP 1 (.alloc [(.full []), (.full [])]),
 ⟨none, none, .store 2 (.t 1) (.t 3)⟩]
def c54r2 : List AOper := [
 oP 4 (.build [(.s (.int .i64 0)), (.s (.int .i64 0))] [(0, 1, (nI 0)), (1, 1, (nI 2))]),
 oP 5 (.buildSl 2 1 (.agg [(.int .i64 0), (.int .i64 0)]) [(0, (.t 4))]),
 oF 6 1 1,
 ⟨none, none, .store 1 (.t 6) (.t 5)⟩]
def c54r3 : List AOper := [
 oP 7 (.load 2 true (.t 1)),
 ⟨none, none, .store 2 (.t 0) (.t 7)⟩]
def f54 : FRow := ⟨(.seq (.reg 1 c54r0) (.seq (.reg 1 c54r1) (.seq (.reg 0 c54r2) (.seq (.reg 0 c54r3) .ret)))), [.cell 0 2 true], 8⟩
theorem okf54 : f54.Ok Try.prog 54 := ⟨_, _, Try.func54, rfl, by kernel_rfl, by kernel_rfl, by kernel_rfl⟩
def c55r0 : List AOper := [
 oP 0 (.alloc [(.full []), (.full [])])]
def c55r1 : List AOper := [
 oP 2 (.buildSl 1 10 (.int .i64 0) [(0, (nI 0)), (1, (nI 0)), (2, (nI 10)), (3, (nI 10)), (4, (nI 20)), (5, (nI 20)), (6, (nI 30)), (7, (nI 30)), (8, (nI 40)), (9, (nI 40))]),
 oP 3 (.call 87 [(.t 2)]),
 oP 1 (.alloc [(.full []), (.full [])]),
 ⟨none, none, .store 2 (.t 1) (.t 3)⟩]
def c55r2 : List AOper := [
 oP 4 (.build [(.s (.int .i64 0)), (.s (.int .i64 0))] [(0, 1, (nI 0)), (1, 1, (nI 1))]),
 oP 5 (.build [(.s (.int .i64 0)), (.s (.int .i64 0))] [(0, 1, (nI 0)), (1, 1, (nI 4))]),
 oP 6 (.build [(.s (.int .i64 0)), (.s (.int .i64 0))] [(0, 1, (nI 1)), (1, 1, (nI 2))]),
 oP 7 (.build [(.s (.int .i64 0)), (.s (.int .i64 0))] [(0, 1, (nI 2)), (1, 1, (nI 3))]),
 oP 8 (.build [(.s (.int .i64 0)), (.s (.int .i64 0))] [(0, 1, (nI 3)), (1, 1, (nI 4))]),
 oP 9 (.buildSl 2 5 (.agg [(.int .i64 0), (.int .i64 0)]) [(0, (.t 4)), (1, (.t 5)), (2, (.t 6)), (3, (.t 7)), (4, (.t 8))]),
 oF 10 1 1,
 ⟨none, none, .store 1 (.t 10) (.t 9)⟩]
def c55r3 : List AOper := [
 oP 11 (.load 2 true (.t 1)),
 ⟨none, none, .store 2 (.t 0) (.t 11)⟩]
def f55 : FRow := ⟨(.seq (.reg 1 c55r0) (.seq (.reg 1 c55r1) (.seq (.reg 0 c55r2) (.seq (.reg 0 c55r3) .ret)))), [.cell 0 2 true], 12⟩
theorem okf55 : f55.Ok Try.prog 55 := ⟨_, _, Try.func55, rfl, by kernel_rfl, by kernel_rfl, by kernel_rfl⟩
def c56r0 : List AOper := [
 oP 2 (.mov (.c (.full [])))]
def c56r1 : List AOper := [
 oM 3 0,
 oM 2 3]
def f56 : FRow := ⟨(.seq (.reg 0 c56r0) (.seq (.reg 0 c56r1) .ret)), [.tmp 2], 4⟩
theorem okf56 : f56.Ok Try.prog 56 := ⟨_, _, Try.func56, rfl, by kernel_rfl, by kernel_rfl, by kernel_rfl⟩
end Go.Proofs.Ytmcjoahnlbckoaa.Sk

/- The code of functions in the value semantics, and that it stands for theirs. -/
namespace Go.Proofs.Ytmcjoahnlbckoaa.Sk
open Go Go.E
def c57r0 : List AOper := [
 oP 1 (.boxS (.t 0)),
 oP 2 (.mov (.c (.s .nilp))),
 oP 3 (.mov (nI 0))]
def c57r1 : List AOper := [
 oP 5 (.load 2 true (.t 1)),
 oP 6 (.call 23 [(.t 5)]),
 oM 4 6]
def c57r2 : List AOper := [
 oM 7 4,
 oP 8 (.cmp .neq (.t 7) (nI 0))]
def c57r3 : List AOper := [
 oM 9 4,
 oP 2 (.mov (.c (.s .nilp))),
 oM 3 9]
def c57r4 : List AOper := [
 oP 10 (.load 2 true (.t 1)),
 oP 11 (.call 88 [(.t 10)]),
 oM 2 11,
 oP 3 (.mov (nI 0))]
def f57 : FRow := ⟨(.seq (.reg 0 c57r0) (.seq (.seq (.reg 0 c57r1) (.seq (.reg 0 c57r2) (.cond (.t 8) (.seq (.reg 0 c57r3) .ret) .skip))) (.seq (.reg 0 c57r4) .ret))), [.tmp 2, .tmp 3], 12⟩
theorem okf57 : f57.Ok Try.prog 57 := ⟨_, _, Try.func57, rfl, by kernel_rfl, by kernel_rfl, by kernel_rfl⟩
def c58r0 : List AOper := [
 oP 3 (.boxS (.t 0)),
 oP 4 (.boxS (.t 1)),
 oP 6 (.mov bF)]
def c58r1 : List AOper := [
 oM 7 2,
 oP 8 (.mkfn 90 [] [(.t 3), (.t 4)]),
 oP 9 (.call 89 [(.t 7), (.t 8)]),
 oP 10 (.not (.t 9)),
 oM 6 10]
def f58 : FRow := ⟨(.seq (.reg 0 c58r0) (.seq (.reg 0 c58r1) .ret)), [.tmp 6], 11⟩
theorem okf58 : f58.Ok Try.prog 58 := ⟨_, _, Try.func58, rfl, by kernel_rfl, by kernel_rfl, by kernel_rfl⟩
def c59r0 : List AOper := [
 oP 2 (.mov (.c (.full [])))]
def c59r1 : List AOper := [
 oM 4 0,
 oP 5 (.callN 1 91 [(.t 4)]),
 oM 3 5]
def c59r2 : List AOper := [
 oM 6 3,
 oP 7 (.callI 92 [(.t 6)])]
def c59r3 : List AOper := [
 oM 8 3,
 oM 2 8]
def f59 : FRow := ⟨(.seq (.reg 0 c59r0) (.seq (.reg 1 c59r1) (.seq (.reg 0 c59r2) (.seq (.reg 0 c59r3) .ret)))), [.tmp 2], 9⟩
theorem okf59 : f59.Ok Try.prog 59 := ⟨_, _, Try.func59, rfl, by kernel_rfl, by kernel_rfl, by kernel_rfl⟩
def c60r0 : List AOper := [
 oP 1 (.boxS (.t 0)),
 oP 2 (.mov (.c .any))]
def c60r1 : List AOper := [
 oP 3 (.mkfn 93 [] [(.t 1)]),
 oM 2 3]
def f60 : FRow := ⟨(.seq (.reg 0 c60r0) (.seq (.reg 0 c60r1) .ret)), [.tmp 2], 4⟩
theorem okf60 : f60.Ok Try.prog 60 := ⟨_, _, Try.func60, rfl, by kernel_rfl, by kernel_rfl, by kernel_rfl⟩
def c61r0 : List AOper := [
 oP 2 (.mov (.c (.full [])))]
def c61r1 : List AOper := [
 oM 6 0,
 oN 7 6,
 oP 8 (.cmp .lss (.t 7) (nI 2))]
def c61r2 : List AOper := [
 oM 9 0,
 oM 2 9]
def c61r3 : List AOper := [
 oP 3 (.mov (nI 1))]
def c61r4 : List AOper := [
 oM 10 3,
 oM 11 0,
 oN 12 11,
 oP 13 (.cmp .lss (.t 10) (.t 12))]
def c61r5 : List AOper := [
 oM 16 0,
 oM 17 3,
 oI 18 16 17,
 oL 19 18,
 oM 20 0,
 oM 21 3,
 oP 22 (.arith .sub (.t 21) (nI 1)),
 oI 23 20 22,
 oL 24 23,
 oP 25 (.cmp .eql (.t 19) (.t 24))]
def c61r6 : List AOper := [
 oM 26 0,
 oM 27 3,
 oP 28 (.slice 1 (.t 26) (some (.t 27)) none none),
 oM 4 28]
def c61r7 : List AOper := [
 oP 5 (.mov (nI 1))]
def c61r8 : List AOper := [
 oM 29 5,
 oM 30 4,
 oN 31 30,
 oP 32 (.cmp .lss (.t 29) (.t 31))]
def c61r9 : List AOper := [
 oM 35 4,
 oM 36 5,
 oI 37 35 36,
 oL 38 37,
 oM 39 4,
 oM 40 5,
 oP 41 (.arith .sub (.t 40) (nI 1)),
 oI 42 39 41,
 oL 43 42,
 oP 44 (.cmp .neq (.t 38) (.t 43))]
def c61r10 : List AOper := [
 oM 45 0,
 oM 46 3,
 oM 47 4,
 oM 48 5,
 oI 49 47 48,
 oL 50 49,
 oI 51 45 46,
 ⟨none, none, .store 1 (.t 51) (.t 50)⟩]
def c61r11 : List AOper := [
 oM 52 3,
 oP 53 (.arith .add (.t 52) (nI 1)),
 oM 3 53]
def c61r12 : List AOper := [
 oM 33 5,
 oP 34 (.arith .add (.t 33) (nI 1)),
 oM 5 34]
def c61l13 : ACode := (.seq (.seq (.reg 0 c61r8) (.cond (.t 32) .skip (.exit 2))) (.seq (.block 3 (.seq (.reg 0 c61r9) (.cond (.t 44) (.seq (.reg 0 c61r10) (.reg 0 c61r11)) .skip))) (.reg 0 c61r12)))
def c61l13m : List Bool := [tT,fF,fF,tT,tT,tT,fF,fF,fF,fF,fF,fF,fF,fF,fF,fF,fF,fF,fF,fF,fF,fF,fF,fF,fF,fF,fF,fF,fF,fF,fF,fF,fF,fF,fF,fF,fF,fF,fF,fF,fF,fF,fF,fF,fF,fF,fF,fF,fF,fF,fF,fF,fF,fF,fF,fF,fF,fF,fF,fF,fF]
def c61r14 : List AOper := [
 oM 54 0,
 oM 55 3,
 oP 56 (.slice 1 (.t 54) (some (.t 55)) none none),
 ⟨none, none, .clear 1 [(.int .i64 0)] (.t 56)⟩]
def c61r15 : List AOper := [
 oM 57 0,
 oM 58 3,
 oP 59 (.slice 1 (.t 57) none (some (.t 58)) none),
 oM 2 59]
def c61r16 : List AOper := [
 oM 14 3,
 oP 15 (.arith .add (.t 14) (nI 1)),
 oM 3 15]
def c61l17 : ACode := (.seq (.seq (.reg 0 c61r4) (.cond (.t 13) .skip (.exit 0))) (.seq (.block 1 (.seq (.reg 0 c61r5) (.cond (.t 25) (.seq (.reg 0 c61r6) (.seq (.seq (.reg 0 c61r7) (.block 2 (.loop c61l13m [] c61l13))) (.seq (.reg 0 c61r14) (.seq (.reg 0 c61r15) .ret)))) .skip))) (.reg 0 c61r16)))
def c61l17m : List Bool := [tT,fF,fF,tT,fF,fF,fF,fF,fF,fF,fF,fF,fF,fF,fF,fF,fF,fF,fF,fF,fF,fF,fF,fF,fF,fF,fF,fF,fF,fF,fF,fF,fF,fF,fF,fF,fF,fF,fF,fF,fF,fF,fF,fF,fF,fF,fF,fF,fF,fF,fF,fF,fF,fF,fF,fF,fF,fF,fF,fF,fF]
def c61r18 : List AOper := [
 oM 60 0,
 oM 2 60]
def f61 : FRow := ⟨(.seq (.reg 0 c61r0) (.seq (.seq (.reg 0 c61r1) (.cond (.t 8) (.seq (.reg 0 c61r2) .ret) .skip)) (.seq (.seq (.reg 0 c61r3) (.block 0 (.loop c61l17m [] c61l17))) (.seq (.reg 0 c61r18) .ret)))), [.tmp 2], 61⟩
theorem okf61 : f61.Ok Try.prog 61 := ⟨_, _, Try.func61, rfl, by kernel_rfl, by kernel_rfl, by kernel_rfl⟩
def c62r0 : List AOper := [
 oP 2 (.mov (nI 0))]
def c62r1 : List AOper := [
 oP 3 (.mov (nI 0))]
def c62r2 : List AOper := [
 oP 4 (.mov (nI 0))]
def c62r3 : List AOper := [
 oM 5 4,
 oM 6 0,
 oN 7 6,
 oP 8 (.cmp .lss (.t 5) (.t 7))]
def c62r4 : List AOper := [
 oM 11 0,
 oM 12 4,
 oP 13 (.slice 1 (.t 11) none (some (.t 12)) none),
 oM 14 0,
 oM 15 4,
 oI 16 14 15,
 oL 17 16,
 oP 18 (.call 94 [(.t 13), (.t 17)]),
 oP 19 (.not (.t 18))]
def c62r5 : List AOper := [
 oM 20 3,
 oP 21 (.arith .add (.t 20) (nI 1)),
 oM 3 21]
def c62r6 : List AOper := [
 oM 9 4,
 oP 10 (.arith .add (.t 9) (nI 1)),
 oM 4 10]
def c62l7 : ACode := (.seq (.seq (.reg 0 c62r3) (.cond (.t 8) .skip (.exit 0))) (.seq (.block 1 (.seq (.reg 0 c62r4) (.cond (.t 19) (.reg 0 c62r5) .skip))) (.reg 0 c62r6)))
def c62l7m : List Bool := [tT,fF,fF,tT,tT,fF,fF,fF,fF,fF,fF,fF,fF,fF,fF,fF,fF,fF,fF,fF,fF,fF,fF]
def c62r8 : List AOper := [
 oM 22 3,
 oM 2 22]
def f62 : FRow := ⟨(.seq (.reg 0 c62r0) (.seq (.reg 0 c62r1) (.seq (.seq (.reg 0 c62r2) (.block 0 (.loop c62l7m [] c62l7))) (.seq (.reg 0 c62r8) .ret)))), [.tmp 2], 23⟩
theorem okf62 : f62.Ok Try.prog 62 := ⟨_, _, Try.func62, rfl, by kernel_rfl, by kernel_rfl, by kernel_rfl⟩
def c63r0 : List AOper := [
 oP 4 (.mov (nI 0))]
def c63r1 : List AOper := [
 oP 5 (.mov (nI 0))]
def c63r2 : List AOper := [
 oM 8 0,
 oP 9 (.nilck (.t 8)),
 oF 10 0 9,
 oF 11 0 10,
 oL 12 11,
 oN 13 12,
 oP 14 (.mov (nI 0))]
def c63r3 : List AOper := [
 oP 15 (.cmp .lss (.t 14) (.t 13))]
def c63r4 : List AOper := [
 oP 16 (.idxA 2 (.t 12) (.t 14)),
 oP 17 (.load 2 true (.t 16)),
 oP 7 (.alloc [(.s (.int .i64 0)), (.s (.int .i64 0))]),
 ⟨none, none, .store 2 (.t 7) (.t 17)⟩]
def c63r5 : List AOper := [
 oF 18 0 7,
 oL 19 18,
 oM 20 1,
 oP 21 (.cmp .leq (.t 19) (.t 20)),
 oM 22 21,
 oH 23 22 true 1,
 oG 24 22 true (.fieldAddr 1 (.t 7)),
 oG 25 22 true (.load 1 false (.t 24)),
 oG 26 22 true (.cmp .leq (.t 23) (.t 25)),
 oP 27 (.pick (.t 22) (.t 26) bF)]
def c63r6 : List AOper := [
 oM 28 5,
 oP 29 (.arith .add (.t 28) (nI 1)),
 oM 5 29]
def c63r7 : List AOper := [
 oP 30 (.arith .add (.t 14) (nI 1)),
 oM 14 30]
def c63l8 : ACode := (.seq (.reg 0 c63r3) (.seq (.cond (.t 15) .skip (.exit 0)) (.seq (.block 1 (.seq (.reg 1 c63r4) (.seq (.reg 0 c63r5) (.cond (.t 27) (.reg 0 c63r6) .skip)))) (.reg 0 c63r7))))
def c63l8m : List Bool := [fF,tT,fF,fF,fF,tT,fF,fF,fF,fF,fF,fF,tT,tT,tT,fF,fF,fF,fF,fF,fF,fF,fF,fF,fF,fF,fF,fF,fF,fF,fF,fF]
def c63r9 : List AOper := [
 oM 31 5,
 oM 4 31]
def f63 : FRow := ⟨(.seq (.reg 0 c63r0) (.seq (.reg 0 c63r1) (.seq (.seq (.reg 0 c63r2) (.block 0 (.loop c63l8m [] c63l8))) (.seq (.reg 0 c63r9) .ret)))), [.tmp 4], 32⟩
theorem okf63 : f63.Ok Try.prog 63 := ⟨_, _, Try.func63, rfl, by kernel_rfl, by kernel_rfl, by kernel_rfl⟩
def c64r0 : List AOper := [
 oP 4 (.alloc [(.s (.int .i64 0)), (.s (.int .i64 0))])]
def c64r1 : List AOper := [
 oM 8 0,
 oP 9 (.idxA 2 (.t 8) (nI 0)),
 oP 10 (.load 2 true (.t 9)),
 oP 5 (.alloc [(.s (.int .i64 0)), (.s (.int .i64 0))]),
 ⟨none, none, .store 2 (.t 5) (.t 10)⟩]
def c64r2 : List AOper := [
 oM 11 0,
 oP 12 (.slice 2 (.t 11) (some (nI 1)) none none),
 oN 13 12,
 oP 14 (.mov (nI 0))]
def c64r3 : List AOper := [
 oP 15 (.cmp .lss (.t 14) (.t 13))]
def c64r4 : List AOper := [
 oP 16 (.idxA 2 (.t 12) (.t 14)),
 oP 17 (.load 2 true (.t 16)),
 oP 7 (.alloc [(.s (.int .i64 0)), (.s (.int .i64 0))]),
 ⟨none, none, .store 2 (.t 7) (.t 17)⟩]
def c64r5 : List AOper := [
 oM 18 1,
 oP 19 (.load 2 true (.t 7)),
 oP 20 (.load 2 true (.t 5)),
 oP 21 (.callv (.t 18) [(.t 19), (.t 20)])]
def c64r6 : List AOper := [
 oP 22 (.load 2 true (.t 7)),
 ⟨none, none, .store 2 (.t 5) (.t 22)⟩]
def c64r7 : List AOper := [
 oP 23 (.arith .add (.t 14) (nI 1)),
 oM 14 23]
def c64l8 : ACode := (.seq (.reg 0 c64r3) (.seq (.cond (.t 15) .skip (.exit 0)) (.seq (.block 1 (.seq (.reg 1 c64r4) (.seq (.reg 0 c64r5) (.cond (.t 21) (.reg 0 c64r6) .skip)))) (.reg 0 c64r7))))
def c64l8m : List Bool := [fF,tT,fF,fF,tT,tT,fF,fF,fF,fF,fF,fF,tT,tT,tT,fF,fF,fF,fF,fF,fF,fF,fF,fF,fF]
def c64r9 : List AOper := [
 oP 24 (.load 2 true (.t 5)),
 ⟨none, none, .store 2 (.t 4) (.t 24)⟩]
def f64 : FRow := ⟨(.seq (.reg 1 c64r0) (.seq (.reg 1 c64r1) (.seq (.seq (.reg 0 c64r2) (.block 0 (.loop c64l8m [] c64l8))) (.seq (.reg 0 c64r9) .ret)))), [.cell 4 2 true], 25⟩
theorem okf64 : f64.Ok Try.prog 64 := ⟨_, _, Try.func64, rfl, by kernel_rfl, by kernel_rfl, by kernel_rfl⟩
def c65r0 : List AOper := [
 oP 3 (.boxS (.t 0)),
 oP 4 (.boxS (.t 1)),
 oP 5 (.mov bF)]
def c65r1 : List AOper := [
 oL 8 2,
 oF 9 0 3,
 oL 10 9,
 oP 11 (.callv (.t 8) [(.t 10)]),
 oL 12 2,
 oF 13 0 4,
 oL 14 13,
 oP 15 (.callv (.t 12) [(.t 14)]),
 oM 6 11,
 oM 7 15]
def c65r2 : List AOper := [
 oM 16 6,
 oM 17 7,
 oP 18 (.cmp .gtr (.t 16) (.t 17)),
 oM 19 18,
 oH 20 19 false 6,
 oH 21 19 false 7,
 oG 22 19 false (.cmp .eql (.t 20) (.t 21)),
 oH 23 19 false 22,
 oG 24 23 true (.fieldAddr 0 (.t 3)),
 oG 25 23 true (.load 1 false (.t 24)),
 oG 26 23 true (.fieldAddr 0 (.t 4)),
 oG 27 23 true (.load 1 false (.t 26)),
 oG 28 23 true (.cmp .lss (.t 25) (.t 27)),
 oG 29 19 false (.pick (.t 23) (.t 28) bF),
 oP 30 (.pick (.t 19) bT (.t 29)),
 oM 5 30]
def f65 : FRow := ⟨(.seq (.reg 0 c65r0) (.seq (.reg 0 c65r1) (.seq (.reg 0 c65r2) .ret))), [.tmp 5], 31⟩
theorem okf65 : f65.Ok Try.prog 65 := ⟨_, _, Try.func65, rfl, by kernel_rfl, by kernel_rfl, by kernel_rfl⟩
def c66r0 : List AOper := [
 oP 1 (.boxS (.t 0)),
 oP 2 (.mov bF)]
def c66r1 : List AOper := [
 oF 3 0 1,
 oL 4 3,
 oP 5 (.cmp .lss (.t 4) (nI 0)),
 oM 6 5,
 oG 7 6 false (.fieldAddr 0 (.t 1)),
 oG 8 6 false (.load 1 false (.t 7)),
 oG 9 6 false (.fieldAddr 1 (.t 1)),
 oG 10 6 false (.load 1 false (.t 9)),
 oG 11 6 false (.cmp .gtr (.t 8) (.t 10)),
 oP 12 (.pick (.t 6) bT (.t 11)),
 oM 13 12,
 oG 14 13 false (.fieldAddr 1 (.t 1)),
 oG 15 13 false (.load 1 false (.t 14)),
 oG 16 13 false (.cmp .gtr (.t 15) (nI 1000)),
 oP 17 (.pick (.t 13) bT (.t 16)),
 oM 2 17]
def f66 : FRow := ⟨(.seq (.reg 0 c66r0) (.seq (.reg 0 c66r1) .ret)), [.tmp 2], 18⟩
theorem okf66 : f66.Ok Try.prog 66 := ⟨_, _, Try.func66, rfl, by kernel_rfl, by kernel_rfl, by kernel_rfl⟩
def c67r0 : List AOper := [
 oP 4 (.mov bF)]
def c67r1 : List AOper := [
 oM 5 0,
 oM 6 1,
 oP 7 (.call 95 [(.t 5), (.t 6)]),
 oP 8 (.cmp .geq (.t 7) (nI 0)),
 oM 4 8]
def f67 : FRow := ⟨(.seq (.reg 0 c67r0) (.seq (.reg 0 c67r1) .ret)), [.tmp 4], 9⟩
theorem okf67 : f67.Ok Try.prog 67 := ⟨_, _, Try.func67, rfl, by kernel_rfl, by kernel_rfl, by kernel_rfl⟩
def c68r0 : List AOper := [
 oP 4 (.mov (nI 0))]
def c68r1 : List AOper := [
 oM 9 0,
 oN 10 9,
 oP 11 (.mov (nI 0))]
def c68r2 : List AOper := [
 oP 12 (.cmp .lss (.t 11) (.t 10))]
def c68r3 : List AOper := [
 oM 13 11,
 oI 14 9 11,
 oL 15 14,
 oM 5 13,
 oM 6 15]
def c68r4 : List AOper := [
 oM 16 5,
 oM 17 1,
 oN 18 17,
 oP 19 (.cmp .geq (.t 16) (.t 18))]
def c68r5 : List AOper := [
 oP 4 (.mov (nI 1))]
def c68r6 : List AOper := [
 oM 20 1,
 oM 21 5,
 oI 22 20 21,
 oL 23 22,
 oM 7 23]
def c68r7 : List AOper := [
 oM 24 6,
 oM 25 7,
 oP 26 (.call 96 [(.t 24), (.t 25)]),
 oM 8 26]
def c68r8 : List AOper := [
 oM 27 8,
 oP 28 (.cmp .neq (.t 27) (nI 0))]
def c68r9 : List AOper := [
 oM 29 8,
 oM 4 29]
def c68r10 : List AOper := [
 oP 30 (.arith .add (.t 11) (nI 1)),
 oM 11 30]
def c68l11 : ACode := (.seq (.reg 0 c68r2) (.seq (.cond (.t 12) .skip (.exit 0)) (.seq (.block 1 (.seq (.reg 0 c68r3) (.seq (.seq (.reg 0 c68r4) (.cond (.t 19) (.seq (.reg 0 c68r5) .ret) .skip)) (.seq (.reg 0 c68r6) (.seq (.reg 0 c68r7) (.seq (.reg 0 c68r8) (.cond (.t 28) (.seq (.reg 0 c68r9) .ret) .skip))))))) (.reg 0 c68r10))))
def c68l11m : List Bool := [tT,tT,fF,fF,fF,fF,fF,fF,fF,tT,tT,tT,fF,fF,fF,fF,fF,fF,fF,fF,fF,fF,fF,fF,fF,fF,fF,fF,fF,fF,fF,fF,fF,fF,fF,fF]
def c68r12 : List AOper := [
 oM 31 0,
 oN 32 31,
 oM 33 1,
 oN 34 33,
 oP 35 (.cmp .lss (.t 32) (.t 34))]
def c68r13 : List AOper := [
 oP 4 (.mov (nI (-1)))]
def c68r14 : List AOper := [
 oP 4 (.mov (nI 0))]
def f68 : FRow := ⟨(.seq (.reg 0 c68r0) (.seq (.seq (.reg 0 c68r1) (.block 0 (.loop c68l11m [] c68l11))) (.seq (.seq (.reg 0 c68r12) (.cond (.t 35) (.seq (.reg 0 c68r13) .ret) .skip)) (.seq (.reg 0 c68r14) .ret)))), [.tmp 4], 36⟩
theorem okf68 : f68.Ok Try.prog 68 := ⟨_, _, Try.func68, rfl, by kernel_rfl, by kernel_rfl, by kernel_rfl⟩
def c69r0 : List AOper := [
 oP 2 (.boxS (.t 0)),
 oP 3 (.boxS (.t 1)),
 oP 4 (.mov bF)]
def c69r1 : List AOper := [
 oP 5 (.idxArrA 2 1 (.t 2) (nI 0)),
 oL 6 5,
 oP 7 (.idxArrA 2 1 (.t 3) (nI 0)),
 oL 8 7,
 oP 9 (.cmp .lss (.t 6) (.t 8)),
 oM 10 9,
 oG 11 10 false (.idxArrA 2 1 (.t 2) (nI 0)),
 oG 12 10 false (.load 1 false (.t 11)),
 oG 13 10 false (.idxArrA 2 1 (.t 3) (nI 0)),
 oG 14 10 false (.load 1 false (.t 13)),
 oG 15 10 false (.cmp .eql (.t 12) (.t 14)),
 oH 16 10 false 15,
 oG 17 16 true (.idxArrA 2 1 (.t 2) (nI 1)),
 oG 18 16 true (.load 1 false (.t 17)),
 oG 19 16 true (.idxArrA 2 1 (.t 3) (nI 1)),
 oG 20 16 true (.load 1 false (.t 19)),
 oG 21 16 true (.cmp .lss (.t 18) (.t 20)),
 oG 22 10 false (.pick (.t 16) (.t 21) bF),
 oP 23 (.pick (.t 10) bT (.t 22)),
 oM 4 23]
def f69 : FRow := ⟨(.seq (.reg 0 c69r0) (.seq (.reg 0 c69r1) .ret)), [.tmp 4], 24⟩
theorem okf69 : f69.Ok Try.prog 69 := ⟨_, _, Try.func69, rfl, by kernel_rfl, by kernel_rfl, by kernel_rfl⟩
def c70r0 : List AOper := [
 oP 3 (.boxS (.t 0)),
 oP 6 (.mov (.c (.s .nilp))),
 oP 7 (.mov (nI 0))]
def c70r1 : List AOper := [
 oP 11 (.load 2 true (.t 3)),
 oP 12 (.call 57 [(.t 11)]),
 oM 10 12,
 oP 13 (.ext (.t 10) 0),
 oP 14 (.ext (.t 10) 1),
 oM 8 13,
 oM 9 14]
def c70r2 : List AOper := [
 oM 16 9,
 oP 17 (.cmp .neq (.t 16) (nI 0)),
 oM 15 17]
def c70r3 : List AOper := [
 oM 18 9,
 oP 6 (.mov (.c (.s .nilp))),
 oM 7 18]
def c70r4 : List AOper := [
 oF 20 0 3,
 oL 21 20,
 oN 22 21,
 oP 23 (.arith .sub (.t 22) (nI 1)),
 oM 24 1,
 oM 25 2,
 oP 26 (.buildSl 1 2 (.int .i64 0) [(0, (.t 24)), (1, (.t 25))]),
 oP 27 (.call 58 [(nI 0), (.t 23), (.t 26)]),
 oP 28 (.not (.t 27)),
 oM 29 28,
 oH 30 29 false 1,
 oH 31 29 false 2,
 oG 32 29 false (.cmp .eql (.t 30) (.t 31)),
 oP 33 (.pick (.t 29) bT (.t 32)),
 oM 19 33]
def c70r5 : List AOper := [
 oP 6 (.mov (.c (.s .nilp))),
 oP 7 (.mov (nI 2))]
def c70r6 : List AOper := [
 oM 34 8,
 oM 6 34,
 oP 7 (.mov (nI 0))]
def f70 : FRow := ⟨(.seq (.reg 0 c70r0) (.seq (.reg 0 c70r1) (.seq (.block 0 (.seq (.reg 0 c70r2) (.cond (.t 15) (.seq (.reg 0 c70r3) .ret) (.seq (.reg 0 c70r4) (.cond (.t 19) (.seq (.reg 0 c70r5) .ret) .skip))))) (.seq (.reg 0 c70r6) .ret)))), [.tmp 6, .tmp 7], 35⟩
theorem okf70 : f70.Ok Try.prog 70 := ⟨_, _, Try.func70, rfl, by kernel_rfl, by kernel_rfl, by kernel_rfl⟩
def c71r0 : List AOper := [
 oP 6 (.mov bF)]
def c71r1 : List AOper := [
 oM 10 0,
 oM 11 1,
 oM 12 2,
 oP 13 (.call 97 [(.t 11), (.t 12)]),
 oP 14 (.mget true [(.int .i64), (.int .i64)] (.int .i64 0) (.t 10) (.t 13)),
 oM 9 14,
 oP 15 (.ext (.t 9) 0),
 oP 16 (.ext (.t 9) 1),
 oM 7 15,
 oM 8 16]
def c71r2 : List AOper := [
 oM 17 8,
 oM 6 17]
def f71 : FRow := ⟨(.seq (.reg 0 c71r0) (.seq (.reg 0 c71r1) (.seq (.reg 0 c71r2) .ret))), [.tmp 6], 18⟩
theorem okf71 : f71.Ok Try.prog 71 := ⟨_, _, Try.func71, rfl, by kernel_rfl, by kernel_rfl, by kernel_rfl⟩
def c73r0 : List AOper := [
 oP 2 (.mov (nI 0))]
def c73r1 : List AOper := [
 oM 5 0,
 oN 6 5,
 oP 7 (.cmp .lss (.t 6) (nI 1))]
def c73r2 : List AOper := [
 oP 8 (.dead),
 ⟨none, none, .dead⟩]
def c73r3 : List AOper := [
 oM 9 0,
 oP 10 (.idxA 1 (.t 9) (nI 0)),
 oL 11 10,
 oM 3 11]
def c73r4 : List AOper := [
 oP 4 (.mov (nI 1))]
def c73r5 : List AOper := [
 oM 12 4,
 oM 13 0,
 oN 14 13,
 oP 15 (.cmp .lss (.t 12) (.t 14))]
def c73r6 : List AOper := [
 oM 18 3,
 oM 19 0,
 oM 20 4,
 oI 21 19 20,
 oL 22 21,
 oP 23 (.max [(.t 18), (.t 22)]),
 oM 3 23]
def c73r7 : List AOper := [
 oM 16 4,
 oP 17 (.arith .add (.t 16) (nI 1)),
 oM 4 17]
def c73l8 : ACode := (.seq (.seq (.reg 0 c73r5) (.cond (.t 15) .skip (.exit 0))) (.seq (.block 1 (.reg 0 c73r6)) (.reg 0 c73r7)))
def c73l8m : List Bool := [tT,fF,fF,tT,tT,fF,fF,fF,fF,fF,fF,fF,fF,fF,fF,fF,fF,fF,fF,fF,fF,fF,fF,fF,fF]
def c73r9 : List AOper := [
 oM 24 3,
 oM 2 24]
def f73 : FRow := ⟨(.seq (.reg 0 c73r0) (.seq (.seq (.reg 0 c73r1) (.cond (.t 7) (.reg 0 c73r2) .skip)) (.seq (.reg 0 c73r3) (.seq (.seq (.reg 0 c73r4) (.block 0 (.loop c73l8m [] c73l8))) (.seq (.reg 0 c73r9) .ret))))), [.tmp 2], 25⟩
theorem okf73 : f73.Ok Try.prog 73 := ⟨_, _, Try.func73, rfl, by kernel_rfl, by kernel_rfl, by kernel_rfl⟩
def c74r0 : List AOper := [
 oP 2 (.mov (.c (.full [])))]
def c74r1 : List AOper := [
 oP 3 (.mov (nI 1))]
def c74r2 : List AOper := [
 oP 4 (.alloc [(.s (.int .i64 0)), (.s (.int .i64 0)), (.s (.int .i64 0)), (.s (.int .i64 0)), (.s (.int .i64 0)), (.s (.int .i64 0)), (.s (.int .i64 0)), (.s (.int .i64 0))])]
def c74r3 : List AOper := [
 oP 9 (.sliceArr 8 1 (.t 4) none none),
 ⟨none, none, .clear 1 [(.int .i64 0)] (.t 9)⟩]
def c74r4 : List AOper := [
 oM 10 0,
 oP 11 (.load 8 true (.t 4)),
 oM 12 3,
 oP 13 (.call 98 [(.t 10), (.t 11), (nI 0), (.t 12)]),
 ⟨none, none, .store 8 (.t 4) (.t 13)⟩]
def c74r5 : List AOper := [
 oP 14 (.load 8 true (.t 4)),
 oP 15 (.build [(.s (.int .i64 0)), (.s (.int .i64 0)), (.s (.int .i64 0)), (.s (.int .i64 0)), (.s (.int .i64 0)), (.s (.int .i64 0)), (.s (.int .i64 0)), (.s (.int .i64 0))] []),
 oP 16 (.eql true [(.int .i64), (.int .i64), (.int .i64), (.int .i64), (.int .i64), (.int .i64), (.int .i64), (.int .i64)] true (.t 14) (.t 15))]
def c74r6 : List AOper := [
 oM 17 0,
 oP 18 (.nilck (.t 17)),
 oF 19 0 18,
 oF 20 0 19,
 oL 21 20,
 oN 22 21,
 oP 23 (.mkslice 1 8 [(.int .i64 0)] (.t 22) (.t 22)),
 oM 5 23]
def c74r7 : List AOper := [
 oM 24 5,
 oN 25 24,
 oP 26 (.mov (nI 0))]
def c74r8 : List AOper := [
 oP 27 (.cmp .lss (.t 26) (.t 25))]
def c74r9 : List AOper := [
 oM 28 26,
 oM 6 28]
def c74r10 : List AOper := [
 oM 29 5,
 oM 30 6,
 oM 31 6,
 oP 32 (.idxArrA 8 1 (.t 4) (.t 31)),
 oL 33 32,
 oP 34 (.arith .sub (.t 33) (nI 1)),
 oI 35 29 30,
 ⟨none, none, .store 1 (.t 35) (.t 34)⟩]
def c74r11 : List AOper := [
 oP 36 (.arith .add (.t 26) (nI 1)),
 oM 26 36]
def c74l12 : ACode := (.seq (.reg 0 c74r8) (.seq (.cond (.t 27) .skip (.exit 2)) (.seq (.block 3 (.seq (.reg 0 c74r9) (.reg 0 c74r10))) (.reg 0 c74r11))))
def c74l12m : List Bool := [fF,fF,fF,fF,tT,tT,fF,fF,fF,fF,fF,fF,fF,fF,fF,fF,fF,fF,fF,fF,fF,fF,fF,fF,fF,tT,tT,fF,fF,fF,fF,fF,fF,fF,fF,fF,fF,fF]
def c74r13 : List AOper := [
 oM 37 5,
 oM 2 37]
def c74r14 : List AOper := [
 oM 7 3,
 oP 8 (.arith .add (.t 7) (nI 1)),
 oM 3 8]
def c74l15 : ACode := (.seq (.block 1 (.seq (.reg 1 c74r2) (.seq (.reg 0 c74r3) (.seq (.reg 0 c74r4) (.seq (.reg 0 c74r5) (.cond (.t 16) (.seq (.reg 1 c74r6) (.seq (.seq (.reg 0 c74r7) (.block 2 (.loop c74l12m [] c74l12))) (.seq (.reg 0 c74r13) .ret))) .skip)))))) (.reg 0 c74r14))
def c74l15m : List Bool := [tT,fF,fF,tT,fF,fF,fF,fF,fF,fF,fF,fF,fF,fF,fF,fF,fF,fF,fF,fF,fF,fF,fF,fF,fF,fF,fF,fF,fF,fF,fF,fF,fF,fF,fF,fF,fF,fF]
def f74 : FRow := ⟨(.seq (.reg 0 c74r0) (.seq (.reg 0 c74r1) (.block 0 (.loop c74l15m [] c74l15)))), [.tmp 2], 38⟩
theorem okf74 : f74.Ok Try.prog 74 := ⟨_, _, Try.func74, rfl, by kernel_rfl, by kernel_rfl, by kernel_rfl⟩
def c76r0 : List AOper := [
 oP 6 (.mov (nI 0))]
def c76r1 : List AOper := [
 oM 14 0,
 oN 15 14,
 oP 16 (.mov (nI 0))]
def c76r2 : List AOper := [
 oP 17 (.cmp .lss (.t 16) (.t 15))]
def c76r3 : List AOper := [
 oM 18 16,
 oI 19 14 16,
 oL 20 19,
 oP 8 (.alloc [(.s (.int .i64 0))]),
 oM 7 18,
 ⟨none, none, .store 1 (.t 8) (.t 20)⟩]
def c76r4 : List AOper := [
 oM 21 0,
 oM 22 7,
 oP 23 (.slice 1 (.t 21) none (some (.t 22)) none),
 oN 24 23,
 oP 25 (.mov (nI 0))]
def c76r5 : List AOper := [
 oP 26 (.cmp .lss (.t 25) (.t 24))]
def c76r6 : List AOper := [
 oI 27 23 25,
 oL 28 27,
 oM 10 28]
def c76r7 : List AOper := [
 oM 29 1,
 oM 30 10,
 oL 31 8,
 oP 32 (.call 71 [(.t 29), (.t 30), (.t 31)]),
 oP 33 (.not (.t 32))]
def c76r8 : List AOper := [
 oM 34 0,
 oP 35 (.callN 1 101 [(.t 34)]),
 oP 36 (.mkfn 102 [] [(.t 8)]),
 oP 37 (.callF 100 (.t 35) [(.t 36)]),
 oM 11 37]
def c76r9 : List AOper := [
 oM 38 0,
 oM 39 1,
 oM 40 10,
 oL 41 8,
 oP 42 (.call 97 [(.t 40), (.t 41)]),
 oP 43 (.call 103 [(.t 39), (.t 42)]),
 oM 44 2,
 oP 45 (.call 76 [(.t 38), (.t 43), (.t 44)]),
 oM 46 11,
 oM 47 1,
 oM 48 10,
 oL 49 8,
 oP 50 (.call 86 [(.t 47), (.t 48), (.t 49)]),
 oM 51 2,
 oP 52 (.call 76 [(.t 46), (.t 50), (.t 51)]),
 oP 53 (.arith .add (.t 45) (.t 52)),
 oM 6 53]
def c76r10 : List AOper := [
 oP 54 (.arith .add (.t 25) (nI 1)),
 oM 25 54]
def c76l11 : ACode := (.seq (.reg 0 c76r5) (.seq (.cond (.t 26) .skip (.exit 2)) (.seq (.block 3 (.seq (.reg 0 c76r6) (.seq (.reg 0 c76r7) (.cond (.t 33) (.seq (.reg 1 c76r8) (.seq (.reg 0 c76r9) .ret)) .skip)))) (.reg 0 c76r10))))
def c76l11m : List Bool := [tT,tT,tT,fF,fF,fF,fF,fF,tT,fF,fF,fF,fF,fF,tT,tT,tT,fF,fF,fF,fF,fF,fF,tT,tT,tT,fF,fF,fF,fF,fF,fF,fF,fF,fF,fF,fF,fF,fF,fF,fF,fF,fF,fF,fF,fF,fF,fF,fF,fF,fF,fF,fF,fF,fF,fF,fF,fF,fF,fF,fF,fF,fF,fF,fF,fF,fF,fF,fF]
def c76r12 : List AOper := [
 oP 55 (.arith .add (.t 16) (nI 1)),
 oM 16 55]
def c76l13 : ACode := (.seq (.reg 0 c76r2) (.seq (.cond (.t 17) .skip (.exit 0)) (.seq (.block 1 (.seq (.reg 1 c76r3) (.seq (.reg 0 c76r4) (.block 2 (.loop c76l11m [] c76l11))))) (.reg 0 c76r12))))
def c76l13m : List Bool := [tT,tT,tT,fF,fF,fF,fF,fF,fF,fF,fF,fF,fF,fF,tT,tT,tT,fF,fF,fF,fF,fF,fF,fF,fF,fF,fF,fF,fF,fF,fF,fF,fF,fF,fF,fF,fF,fF,fF,fF,fF,fF,fF,fF,fF,fF,fF,fF,fF,fF,fF,fF,fF,fF,fF,fF,fF,fF,fF,fF,fF,fF,fF,fF,fF,fF,fF,fF,fF]
def c76r14 : List AOper := [
 oP 12 (.mov (nI 1))]
def c76r15 : List AOper := [
 oM 56 0,
 oN 57 56,
 oP 58 (.mov (nI 0))]
def c76r16 : List AOper := [
 oP 59 (.cmp .lss (.t 58) (.t 57))]
def c76r17 : List AOper := [
 oM 60 58,
 oM 13 60]
def c76r18 : List AOper := [
 oM 61 12,
 oM 62 2,
 oM 63 13,
 oP 64 (.arith .sub (.t 62) (.t 63)),
 oP 65 (.max [(nI 0), (.t 64)]),
 oP 66 (.arith .mul (.t 61) (.t 65)),
 oM 12 66]
def c76r19 : List AOper := [
 oP 67 (.arith .add (.t 58) (nI 1)),
 oM 58 67]
def c76l20 : ACode := (.seq (.reg 0 c76r16) (.seq (.cond (.t 59) .skip (.exit 4)) (.seq (.block 5 (.seq (.reg 0 c76r17) (.reg 0 c76r18))) (.reg 0 c76r19))))
def c76l20m : List Bool := [fF,fF,tT,fF,fF,fF,fF,fF,fF,fF,fF,fF,tT,fF,fF,fF,fF,fF,fF,fF,fF,fF,fF,fF,fF,fF,fF,fF,fF,fF,fF,fF,fF,fF,fF,fF,fF,fF,fF,fF,fF,fF,fF,fF,fF,fF,fF,fF,fF,fF,fF,fF,fF,fF,fF,fF,fF,tT,tT,fF,fF,fF,fF,fF,fF,fF,fF,fF,fF]
def c76r21 : List AOper := [
 oM 68 12,
 oM 6 68]
def f76 : FRow := ⟨(.seq (.reg 0 c76r0) (.seq (.seq (.reg 0 c76r1) (.block 0 (.loop c76l13m [] c76l13))) (.seq (.reg 0 c76r14) (.seq (.seq (.reg 0 c76r15) (.block 4 (.loop c76l20m [] c76l20))) (.seq (.reg 0 c76r21) .ret))))), [.tmp 6], 69⟩
theorem okf76 : f76.Ok Try.prog 76 := ⟨_, _, Try.func76, rfl, by kernel_rfl, by kernel_rfl, by kernel_rfl⟩
def c77r0 : List AOper := [
 oP 2 (.mov (.c (.full [])))]
def c77r1 : List AOper := [
 oM 3 0,
 oP 4 (.call 85 [(.t 3), (nI (-1))]),
 oM 2 4]
def f77 : FRow := ⟨(.seq (.reg 0 c77r0) (.seq (.reg 0 c77r1) .ret)), [.tmp 2], 5⟩
theorem okf77 : f77.Ok Try.prog 77 := ⟨_, _, Try.func77, rfl, by kernel_rfl, by kernel_rfl, by kernel_rfl⟩
def c79r0 : List AOper := [
 oP 6 (.mov (.c (.full [])))]
def c79r1 : List AOper := [
 oP 10 (.frzv (.t 1)),
 oP 11 (.buildR 1 1 (.slice []) [(0, (.t 10))]),
 oM 7 11]
def c79r2 : List AOper := [
 oM 12 2,
 oM 8 12]
def c79r3 : List AOper := [
 oM 13 8,
 oM 14 0,
 oP 15 (.nilck (.t 14)),
 oF 16 0 15,
 oF 17 0 16,
 oL 18 17,
 oN 19 18,
 oP 20 (.cmp .lss (.t 13) (.t 19))]
def c79r4 : List AOper := [
 oM 23 1,
 oM 24 1,
 oN 25 24,
 oM 26 1,
 oN 27 26,
 oP 28 (.slice 1 (.t 23) none (some (.t 25)) (some (.t 27))),
 oM 29 8,
 oP 30 (.buildSl 1 1 (.int .i64 0) [(0, (.t 29))]),
 oP 31 (.appendZ 1 8 (.t 28) (.t 30)),
 oM 9 31]
def c79r5 : List AOper := [
 oM 32 0,
 oM 33 9,
 oP 34 (.call 84 [(.t 32), (.t 33)])]
def c79r6 : List AOper := [
 oM 35 7,
 oM 36 0,
 oM 37 9,
 oM 38 8,
 oP 39 (.arith .add (.t 38) (nI 1)),
 oP 40 (.call 79 [(.t 36), (.t 37), (.t 39)]),
 oP 41 (.buildSl 1 1 (.slice []) [(0, (.t 40))]),
 oP 42 (.append 1 24 (.t 35) (.t 41)),
 oM 7 42]
def c79r7 : List AOper := [
 oM 21 8,
 oP 22 (.arith .add (.t 21) (nI 1)),
 oM 8 22]
def c79l8 : ACode := (.seq (.seq (.reg 0 c79r3) (.cond (.t 20) .skip (.exit 0))) (.seq (.block 1 (.seq (.reg 0 c79r4) (.seq (.reg 0 c79r5) (.cond (.t 34) (.reg 1 c79r6) .skip)))) (.reg 0 c79r7)))
def c79l8m : List Bool := [tT,tT,fF,fF,fF,fF,fF,tT,tT,fF,fF,fF,fF,fF,fF,fF,fF,fF,fF,fF,fF,fF,fF,fF,fF,fF,fF,fF,fF,fF,fF,fF,fF,fF,fF,fF,fF,fF,fF,fF,fF,fF,fF,fF,fF]
def c79r9 : List AOper := [
 oP 43 (.frzv (.t 7)),
 oP 44 (.call 82 [(.t 43), (.c (.s (.fn 104 [] [])))]),
 oM 6 44]
def f79 : FRow := ⟨(.seq (.reg 0 c79r0) (.seq (.reg 1 c79r1) (.seq (.seq (.reg 0 c79r2) (.block 0 (.loop c79l8m [(7, none, 0)] c79l8))) (.seq (.reg 0 c79r9) .ret)))), [.tmp 6], 45⟩
theorem okf79 : f79.Ok Try.prog 79 := ⟨_, _, Try.func79, rfl, by kernel_rfl, by kernel_rfl, by kernel_rfl⟩
def c81r0 : List AOper := [
 oP 3 (.boxS (.t 1)),
 oP 4 (.alloc [(.full [])])]
def c81r1 : List AOper := [
 oP 10 (.loadO 1 false (.t 3)),
 oP 11 (.buildSl 1 1 (.int .i64 0) [(0, (.t 10))]),
 oP 12 (.buildSl 1 1 (.slice []) [(0, (.t 11))]),
 oP 5 (.frzv (.t 12))]
def c81r2 : List AOper := [
 oM 13 5,
 oN 14 13,
 oP 15 (.cmp .gtr (.t 14) (nI 0)),
 oM 16 15,
 oH 17 16 true 5,
 oG 18 16 true (.idxA 1 (.t 17) (nI 0)),
 oG 19 16 true (.load 1 false (.t 18)),
 oG 20 16 true (.len false (.t 19)),
 oH 21 16 true 0,
 oG 22 16 true (.nilck (.t 21)),
 oG 23 16 true (.fieldAddr 0 (.t 22)),
 oG 24 16 true (.fieldAddr 0 (.t 23)),
 oG 25 16 true (.loadO 1 false (.t 24)),
 oG 26 16 true (.len false (.t 25)),
 oG 27 16 true (.cmp .leq (.t 20) (.t 26)),
 oP 28 (.pick (.t 16) (.t 27) bF)]
def c81r3 : List AOper := [
 oP 6 (.alloc [(.full [])])]
def c81r4 : List AOper := [
 oM 29 5,
 oN 30 29,
 oP 31 (.mov (nI 0))]
def c81r5 : List AOper := [
 oP 32 (.cmp .lss (.t 31) (.t 30))]
def c81r6 : List AOper := [
 oI 33 29 31,
 oL 34 33,
 oP 8 (.alloc [(.full [])]),
 ⟨none, none, .store 1 (.t 8) (.t 34)⟩]
def c81r7 : List AOper := [
 oM 35 0,
 oP 36 (.loadO 1 false (.t 8)),
 oP 37 (.loadO 1 false (.t 8)),
 oN 38 37,
 oP 39 (.arith .sub (.t 38) (nI 1)),
 oI 40 36 39,
 oL 41 40,
 oP 42 (.call 105 [(.t 35), (.t 41)])]
def c81r8 : List AOper := [
 oP 9 (.alloc [(.s (.int .i64 0))]),
 ⟨none, none, .store 1 (.t 9) (.t 43)⟩]
def c81r9 : List AOper := [
 oP 44 (.loadO 1 false (.t 9)),
 oP 45 (.loadO 1 false (.t 3)),
 oP 46 (.cmp .eql (.t 44) (.t 45)),
 oM 47 46,
 oG 48 47 true (.loadO 1 false (.t 8)),
 oG 49 47 true (.len false (.t 48)),
 oG 50 47 true (.div .rem (.t 49) (nI 2)),
 oG 51 47 true (.cmp .eql (.t 50) (nI 1)),
 oP 52 (.pick (.t 47) (.t 51) bF)]
def c81r10 : List AOper := [
 oP 53 (.loadO 1 false (.t 8)),
 ⟨none, none, .store 1 (.t 4) (.t 53)⟩]
def c81r11 : List AOper := [
 oP 54 (.loadO 1 false (.t 6)),
 oP 55 (.mkfn 107 [] [(.t 9)]),
 oP 56 (.call 106 [(.t 54), (.t 55)]),
 oP 57 (.not (.t 56))]
def c81r12 : List AOper := [
 oP 58 (.loadO 1 false (.t 6)),
 oP 59 (.loadO 1 false (.t 8)),
 oP 60 (.loadO 1 false (.t 8)),
 oN 61 60,
 oP 62 (.loadO 1 false (.t 8)),
 oN 63 62,
 oP 64 (.slice 1 (.t 59) none (some (.t 61)) (some (.t 63))),
 oP 65 (.loadO 1 false (.t 9)),
 oP 66 (.buildSl 1 1 (.int .i64 0) [(0, (.t 65))]),
 oP 67 (.appendZ 1 8 (.t 64) (.t 66)),
 oP 68 (.buildSl 1 1 (.slice []) [(0, (.t 67))]),
 oP 69 (.append 1 24 (.t 58) (.t 68)),
 ⟨none, none, .store 1 (.t 6) (.t 69)⟩]
def c81b13 : ACode := (.block 5 (.seq (.seq (.reg 0 c81r9) (.cond (.t 52) (.seq (.reg 0 c81r10) .ret) .skip)) (.seq (.reg 0 c81r11) (.cond (.t 57) (.reg 1 c81r12) .skip))))
def c81b13a : ACode := (.reg 1 c81r8)
def c81r14 : List AOper := [
 oP 70 (.arith .add (.t 31) (nI 1)),
 oM 31 70]
def c81l15 : BCode := (.seq (.code (.reg 0 c81r5)) (.seq (.code (.cond (.t 32) .skip (.exit 2))) (.seq (.block 3 (.seq (.code (.reg 1 c81r6)) (.seq (.code (.reg 0 c81r7)) (.block 4 (.pin 8 (.rangeF 2 (.t 42) 43 c81b13a c81b13)))))) (.code (.reg 0 c81r14)))))
def c81l15m : List Bool := [tT,fF,fF,tT,tT,fF,tT,fF,fF,fF,fF,fF,fF,fF,fF,fF,fF,fF,fF,fF,fF,fF,fF,fF,fF,fF,fF,fF,fF,tT,tT,tT,fF,fF,fF,fF,fF,fF,fF,fF,fF,fF,fF,tT,fF,fF,fF,fF,fF,fF,fF,fF,fF,fF,fF,fF,fF,fF,fF,fF,fF,fF,fF,fF,fF,fF,fF,fF,fF,fF,fF,fF]
def c81r16 : List AOper := [
 oP 71 (.loadO 1 false (.t 6)),
 oP 5 (.frzv (.t 71))]
def c81l17 : BCode := (.seq (.code (.seq (.reg 0 c81r2) (.cond (.t 28) .skip (.exit 0)))) (.block 1 (.seq (.code (.reg 1 c81r3)) (.seq (.seq (.code (.reg 0 c81r4)) (.block 2 (.loop c81l15m [(6, some 0, 0)] c81l15))) (.code (.reg 0 c81r16))))))
def c81l17m : List Bool := [tT,fF,fF,tT,tT,tT,fF,fF,fF,fF,fF,fF,fF,fF,fF,fF,fF,fF,fF,fF,fF,fF,fF,fF,fF,fF,fF,fF,fF,fF,fF,fF,fF,fF,fF,fF,fF,fF,fF,fF,fF,fF,fF,tT,fF,fF,fF,fF,fF,fF,fF,fF,fF,fF,fF,fF,fF,fF,fF,fF,fF,fF,fF,fF,fF,fF,fF,fF,fF,fF,fF,fF]
def c81r18 : List AOper := [
 ⟨none, none, .store 1 (.t 4) (.c (.full []))⟩]
def t81 : BRow := ⟨(.seq (.code (.reg 1 c81r0)) (.seq (.code (.reg 0 c81r1)) (.seq (.block 0 (.loop c81l17m [] c81l17)) (.code (.seq (.reg 0 c81r18) .ret))))), [.cell 4 1 false], 72⟩
theorem okt81 : t81.Ok Try.prog 81 := ⟨_, _, Try.func81, rfl, by kernel_rfl, by kernel_rfl, by kernel_rfl⟩
def c82r0 : List AOper := [
 oP 4 (.mov (.c (.full [])))]
def c82r1 : List AOper := [
 oM 8 0,
 oP 9 (.idxA 1 (.t 8) (nI 0)),
 oL 10 9,
 oM 5 10]
def c82r2 : List AOper := [
 oM 11 0,
 oP 12 (.slice 1 (.t 11) (some (nI 1)) none none),
 oN 13 12,
 oP 14 (.mov (nI 0))]
def c82r3 : List AOper := [
 oP 15 (.cmp .lss (.t 14) (.t 13))]
def c82r4 : List AOper := [
 oI 16 12 14,
 oL 17 16,
 oM 7 17]
def c82r5 : List AOper := [
 oM 18 1,
 oM 19 7,
 oM 20 5,
 oP 21 (.callv (.t 18) [(.t 19), (.t 20)])]
def c82r6 : List AOper := [
 oM 22 7,
 oM 5 22]
def c82r7 : List AOper := [
 oP 23 (.arith .add (.t 14) (nI 1)),
 oM 14 23]
def c82l8 : ACode := (.seq (.reg 0 c82r3) (.seq (.cond (.t 15) .skip (.exit 0)) (.seq (.block 1 (.seq (.reg 0 c82r4) (.seq (.reg 0 c82r5) (.cond (.t 21) (.reg 0 c82r6) .skip)))) (.reg 0 c82r7))))
def c82l8m : List Bool := [fF,tT,fF,fF,fF,tT,fF,fF,fF,fF,fF,fF,tT,tT,tT,fF,fF,fF,fF,fF,fF,fF,fF,fF,fF]
def c82r9 : List AOper := [
 oM 24 5,
 oM 4 24]
def f82 : FRow := ⟨(.seq (.reg 0 c82r0) (.seq (.reg 0 c82r1) (.seq (.seq (.reg 0 c82r2) (.block 0 (.loop c82l8m [] c82l8))) (.seq (.reg 0 c82r9) .ret)))), [.tmp 4], 25⟩
theorem okf82 : f82.Ok Try.prog 82 := ⟨_, _, Try.func82, rfl, by kernel_rfl, by kernel_rfl, by kernel_rfl⟩
def c83r0 : List AOper := [
 oP 4 (.mov bF)]
def c83r1 : List AOper := [
 oM 5 0,
 oN 6 5,
 oM 7 1,
 oN 8 7,
 oP 9 (.cmp .lss (.t 6) (.t 8)),
 oM 4 9]
def f83 : FRow := ⟨(.seq (.reg 0 c83r0) (.seq (.reg 0 c83r1) .ret)), [.tmp 4], 10⟩
theorem okf83 : f83.Ok Try.prog 83 := ⟨_, _, Try.func83, rfl, by kernel_rfl, by kernel_rfl, by kernel_rfl⟩
def c84r0 : List AOper := [
 oP 4 (.mov bF)]
def c84r1 : List AOper := [
 oM 9 1,
 oN 10 9,
 oP 11 (.mov (nI 0))]
def c84r2 : List AOper := [
 oP 12 (.cmp .lss (.t 11) (.t 10))]
def c84r3 : List AOper := [
 oM 13 11,
 oI 14 9 11,
 oL 15 14,
 oM 5 13,
 oM 6 15]
def c84r4 : List AOper := [
 oM 16 1,
 oM 17 5,
 oP 18 (.slice 1 (.t 16) none (some (.t 17)) none),
 oN 19 18,
 oP 20 (.mov (nI 0))]
def c84r5 : List AOper := [
 oP 21 (.cmp .lss (.t 20) (.t 19))]
def c84r6 : List AOper := [
 oI 22 18 20,
 oL 23 22,
 oM 8 23]
def c84r7 : List AOper := [
 oM 24 0,
 oP 25 (.nilck (.t 24)),
 oF 26 2 25,
 oL 27 26,
 oM 28 8,
 oM 29 6,
 oP 30 (.call 71 [(.t 27), (.t 28), (.t 29)]),
 oP 31 (.not (.t 30))]
def c84r8 : List AOper := [
 oP 4 (.mov bF)]
def c84r9 : List AOper := [
 oP 32 (.arith .add (.t 20) (nI 1)),
 oM 20 32]
def c84l10 : ACode := (.seq (.reg 0 c84r5) (.seq (.cond (.t 21) .skip (.exit 2)) (.seq (.block 3 (.seq (.reg 0 c84r6) (.seq (.reg 0 c84r7) (.cond (.t 31) (.seq (.reg 0 c84r8) .ret) .skip)))) (.reg 0 c84r9))))
def c84l10m : List Bool := [tT,tT,fF,fF,fF,fF,tT,fF,fF,tT,tT,tT,fF,fF,fF,fF,fF,fF,tT,tT,tT,fF,fF,fF,fF,fF,fF,fF,fF,fF,fF,fF,fF,fF]
def c84r11 : List AOper := [
 oP 33 (.arith .add (.t 11) (nI 1)),
 oM 11 33]
def c84l12 : ACode := (.seq (.reg 0 c84r2) (.seq (.cond (.t 12) .skip (.exit 0)) (.seq (.block 1 (.seq (.reg 0 c84r3) (.seq (.reg 0 c84r4) (.block 2 (.loop c84l10m [] c84l10))))) (.reg 0 c84r11))))
def c84l12m : List Bool := [tT,tT,fF,fF,fF,fF,fF,fF,fF,tT,tT,tT,fF,fF,fF,fF,fF,fF,fF,fF,fF,fF,fF,fF,fF,fF,fF,fF,fF,fF,fF,fF,fF,fF]
def c84r13 : List AOper := [
 oP 4 (.mov bT)]
def f84 : FRow := ⟨(.seq (.reg 0 c84r0) (.seq (.seq (.reg 0 c84r1) (.block 0 (.loop c84l12m [] c84l12))) (.seq (.reg 0 c84r13) .ret))), [.tmp 4], 34⟩
theorem okf84 : f84.Ok Try.prog 84 := ⟨_, _, Try.func84, rfl, by kernel_rfl, by kernel_rfl, by kernel_rfl⟩
def c85r0 : List AOper := [
 oP 4 (.mov (.c (.full [])))]
def c85r1 : List AOper := [
 oP 5 (.mov (.c (.full [])))]
def c85r2 : List AOper := [
 oM 7 0,
 oP 8 (.nilck (.t 7)),
 oF 9 0 8,
 oF 10 0 9,
 oL 11 10,
 oN 12 11,
 oP 13 (.mov (nI 0))]
def c85r3 : List AOper := [
 oP 14 (.cmp .lss (.t 13) (.t 12))]
def c85r4 : List AOper := [
 oM 15 13,
 oM 6 15]
def c85r5 : List AOper := [
 oM 16 6,
 oM 17 1,
 oP 18 (.cmp .neq (.t 16) (.t 17))]
def c85r6 : List AOper := [
 oM 19 5,
 oM 20 6,
 oP 21 (.buildSl 1 1 (.int .i64 0) [(0, (.t 20))]),
 oP 22 (.append 1 8 (.t 19) (.t 21)),
 oM 5 22]
def c85r7 : List AOper := [
 oP 23 (.arith .add (.t 13) (nI 1)),
 oM 13 23]
def c85l8 : ACode := (.seq (.reg 0 c85r3) (.seq (.cond (.t 14) .skip (.exit 0)) (.seq (.block 1 (.seq (.reg 0 c85r4) (.seq (.reg 0 c85r5) (.cond (.t 18) (.reg 1 c85r6) .skip)))) (.reg 0 c85r7))))
def c85l8m : List Bool := [fF,tT,fF,fF,fF,tT,fF,fF,fF,fF,fF,fF,tT,tT,fF,fF,fF,fF,fF,fF,fF,fF,fF,fF,fF]
def c85r9 : List AOper := [
 oM 24 5,
 oM 4 24]
def f85 : FRow := ⟨(.seq (.reg 0 c85r0) (.seq (.reg 0 c85r1) (.seq (.seq (.reg 0 c85r2) (.block 0 (.loop c85l8m [(5, none, 0)] c85l8))) (.seq (.reg 0 c85r9) .ret)))), [.tmp 4], 25⟩
theorem okf85 : f85.Ok Try.prog 85 := ⟨_, _, Try.func85, rfl, by kernel_rfl, by kernel_rfl, by kernel_rfl⟩
def c86r0 : List AOper := [
 oP 6 (.mov (.c (.s (.map [] []))))]
def c86r1 : List AOper := [
 oP 10 (.mkmap),
 oM 7 10]
def c86r2 : List AOper := [
 oM 11 0,
 oP 12 (.rangeM (.t 11))]
def c86r3 : List AOper := [
 oP 13 (.nextM (.t 12)),
 oP 14 (.ext (.t 13) 0)]
def c86r4 : List AOper := [
 oP 15 (.entryM (.t 12)),
 oP 16 (.ext (.t 15) 0),
 oP 8 (.alloc [(.s (.int .i64 0)), (.s (.int .i64 0))]),
 ⟨none, none, .store 2 (.t 8) (.t 16)⟩]
def c86r5 : List AOper := [
 oM 17 7,
 oP 18 (.load 2 true (.t 8)),
 ⟨none, none, .mset [(.int .i64), (.int .i64)] (.t 17) (.t 18) (nI 1)⟩]
def c86l6 : ACode := (.seq (.reg 0 c86r3) (.seq (.cond (.t 14) .skip (.exit 0)) (.block 1 (.seq (.reg 1 c86r4) (.reg 0 c86r5)))))
def c86l6m : List Bool := [tT,tT,tT,fF,fF,fF,fF,tT,fF,fF,fF,fF,tT,fF,fF,fF,fF,fF,fF,fF,fF,fF,fF,fF,fF,fF,fF,fF,fF,fF,fF,fF,fF,fF,fF,fF,fF,fF,fF,fF,fF,fF,fF,fF,fF,fF,fF]
def c86r7 : List AOper := [
 oM 19 0,
 oP 20 (.rangeM (.t 19))]
def c86r8 : List AOper := [
 oP 21 (.nextM (.t 20)),
 oP 22 (.ext (.t 21) 0)]
def c86r9 : List AOper := [
 oP 23 (.entryM (.t 20)),
 oP 24 (.ext (.t 23) 0),
 oP 9 (.alloc [(.s (.int .i64 0)), (.s (.int .i64 0))]),
 ⟨none, none, .store 2 (.t 9) (.t 24)⟩]
def c86r10 : List AOper := [
 oM 25 2]
def c86r11 : List AOper := [
 oF 27 0 9,
 oL 28 27,
 oP 29 (.cmp .eql (.t 25) (.t 28)),
 oM 26 29]
def c86r12 : List AOper := [
 oM 30 7,
 oM 31 1,
 oF 32 1 9,
 oL 33 32,
 oP 34 (.call 97 [(.t 31), (.t 33)]),
 ⟨none, none, .mset [(.int .i64), (.int .i64)] (.t 30) (.t 34) (nI 1)⟩]
def c86r13 : List AOper := [
 oF 36 1 9,
 oL 37 36,
 oP 38 (.cmp .eql (.t 25) (.t 37)),
 oM 35 38]
def c86r14 : List AOper := [
 oM 39 7,
 oM 40 1,
 oF 41 0 9,
 oL 42 41,
 oP 43 (.call 97 [(.t 40), (.t 42)]),
 ⟨none, none, .mset [(.int .i64), (.int .i64)] (.t 39) (.t 43) (nI 1)⟩]
def c86r15 : List AOper := [
 oM 44 7,
 oP 45 (.load 2 true (.t 9)),
 ⟨none, none, .mdel [(.int .i64), (.int .i64)] (.t 44) (.t 45)⟩]
def c86l16 : ACode := (.seq (.reg 0 c86r8) (.seq (.cond (.t 22) .skip (.exit 2)) (.block 3 (.seq (.reg 1 c86r9) (.seq (.seq (.reg 0 c86r10) (.block 4 (.seq (.reg 0 c86r11) (.cond (.t 26) (.reg 0 c86r12) (.seq (.reg 0 c86r13) (.cond (.t 35) (.reg 0 c86r14) (.exit 3))))))) (.reg 0 c86r15))))))
def c86l16m : List Bool := [fF,tT,tT,fF,fF,fF,fF,tT,fF,fF,fF,fF,fF,fF,fF,fF,fF,fF,fF,fF,tT,fF,fF,fF,fF,fF,fF,fF,fF,fF,fF,fF,fF,fF,fF,fF,fF,fF,fF,fF,fF,fF,fF,fF,fF,fF,fF]
def c86r17 : List AOper := [
 oM 46 7,
 oM 6 46]
def f86 : FRow := ⟨(.seq (.reg 0 c86r0) (.seq (.reg 1 c86r1) (.seq (.seq (.reg 1 c86r2) (.block 0 (.loop c86l6m [] c86l6))) (.seq (.seq (.reg 1 c86r7) (.block 2 (.loop c86l16m [] c86l16))) (.seq (.reg 0 c86r17) .ret))))), [.tmp 6], 47⟩
theorem okf86 : f86.Ok Try.prog 86 := ⟨_, _, Try.func86, rfl, by kernel_rfl, by kernel_rfl, by kernel_rfl⟩
def c87r0 : List AOper := [
 oP 2 (.alloc [(.full []), (.full [])])]
def c87r1 : List AOper := [
 oP 3 (.alloc [(.full []), (.full [])])]
def c87r2 : List AOper := [
 oP 4 (.mov (nI 0))]
def c87r3 : List AOper := [
 oM 5 4,
 oP 6 (.arith .add (.t 5) (nI 1)),
 oM 7 0,
 oN 8 7,
 oP 9 (.cmp .lss (.t 6) (.t 8))]
def c87r4 : List AOper := [
 oF 12 0 3,
 oL 13 12,
 oM 14 0,
 oM 15 4,
 oI 16 14 15,
 oL 17 16,
 oM 18 0,
 oM 19 4,
 oP 20 (.arith .add (.t 19) (nI 1)),
 oI 21 18 20,
 oL 22 21,
 oP 23 (.build [(.s (.int .i64 0)), (.s (.int .i64 0))] [(0, 1, (.t 17)), (1, 1, (.t 22))]),
 oP 24 (.buildSl 2 1 (.agg [(.int .i64 0), (.int .i64 0)]) [(0, (.t 23))]),
 oP 25 (.append 2 16 (.t 13) (.t 24)),
 oF 26 0 3,
 ⟨none, none, .store 1 (.t 26) (.t 25)⟩]
def c87r5 : List AOper := [
 oM 10 4,
 oP 11 (.arith .add (.t 10) (nI 2)),
 oM 4 11]
def c87l6 : ACode := (.seq (.seq (.reg 0 c87r3) (.cond (.t 9) .skip (.exit 0))) (.seq (.block 1 (.reg 1 c87r4)) (.reg 0 c87r5)))
def c87l6m : List Bool := [tT,fF,tT,tT,tT,fF,fF,fF,fF,fF,fF,fF,fF,fF,fF,fF,fF,fF,fF,fF,fF,fF,fF,fF,fF,fF,fF,fF]
def c87r7 : List AOper := [
 oP 27 (.load 2 true (.t 3)),
 ⟨none, none, .store 2 (.t 2) (.t 27)⟩]
def f87 : FRow := ⟨(.seq (.reg 1 c87r0) (.seq (.reg 1 c87r1) (.seq (.seq (.reg 0 c87r2) (.block 0 (.loop c87l6m [(3, some 0, 1)] c87l6))) (.seq (.reg 0 c87r7) .ret)))), [.cell 2 2 true], 28⟩
theorem okf87 : f87.Ok Try.prog 87 := ⟨_, _, Try.func87, rfl, by kernel_rfl, by kernel_rfl, by kernel_rfl⟩
def c88r0 : List AOper := [
 oP 1 (.boxS (.t 0)),
 oP 2 (.mov (.c (.s .nilp)))]
def c88r1 : List AOper := [
 oP 10 (.load 2 true (.t 1)),
 oP 11 (.mkmap),
 oP 12 (.build [(.full []), (.full []), (.s (.map [] []))] [(0, 2, (.t 10)), (2, 1, (.t 11))]),
 oP 13 (.boxM (.t 12)),
 oM 3 13]
def c88r2 : List AOper := [
 oM 14 3,
 oP 15 (.nilck (.t 14)),
 oF 16 0 15,
 oF 17 0 16,
 oL 18 17,
 oN 19 18,
 oP 20 (.mov (nI 0))]
def c88r3 : List AOper := [
 oP 21 (.cmp .lss (.t 20) (.t 19))]
def c88r4 : List AOper := [
 oM 22 20,
 oP 23 (.idxA 2 (.t 18) (.t 20)),
 oP 24 (.load 2 true (.t 23)),
 oP 5 (.alloc [(.s (.int .i64 0)), (.s (.int .i64 0))]),
 oM 4 22,
 ⟨none, none, .store 2 (.t 5) (.t 24)⟩]
def c88r5 : List AOper := [
 oM 25 3,
 oP 26 (.nilck (.t 25)),
 oF 27 0 26,
 oF 28 0 27,
 oL 29 28,
 oM 30 4,
 oP 31 (.slice 2 (.t 29) none (some (.t 30)) none),
 oN 32 31,
 oP 33 (.mov (nI 0))]
def c88r6 : List AOper := [
 oP 34 (.cmp .lss (.t 33) (.t 32))]
def c88r7 : List AOper := [
 oM 35 33,
 oP 36 (.idxA 2 (.t 31) (.t 33)),
 oP 37 (.load 2 true (.t 36)),
 oP 7 (.alloc [(.s (.int .i64 0)), (.s (.int .i64 0))]),
 oM 6 35,
 ⟨none, none, .store 2 (.t 7) (.t 37)⟩]
def c88r8 : List AOper := [
 oF 38 0 7,
 oL 39 38,
 oF 40 1 5,
 oL 41 40,
 oP 42 (.cmp .leq (.t 39) (.t 41)),
 oM 43 42,
 oG 44 43 true (.fieldAddr 0 (.t 5)),
 oG 45 43 true (.load 1 false (.t 44)),
 oG 46 43 true (.fieldAddr 1 (.t 7)),
 oG 47 43 true (.load 1 false (.t 46)),
 oG 48 43 true (.cmp .leq (.t 45) (.t 47)),
 oP 49 (.pick (.t 43) (.t 48) bF)]
def c88r9 : List AOper := [
 oM 50 3,
 oP 51 (.nilck (.t 50)),
 oF 52 2 51,
 oL 53 52,
 oM 54 6,
 oM 55 4,
 oP 56 (.build [(.s (.int .i64 0)), (.s (.int .i64 0))] [(0, 1, (.t 54)), (1, 1, (.t 55))]),
 ⟨none, none, .mset [(.int .i64), (.int .i64)] (.t 53) (.t 56) (nI 1)⟩]
def c88r10 : List AOper := [
 oP 57 (.arith .add (.t 33) (nI 1)),
 oM 33 57]
def c88l11 : ACode := (.seq (.reg 0 c88r6) (.seq (.cond (.t 34) .skip (.exit 2)) (.seq (.block 3 (.seq (.reg 1 c88r7) (.seq (.reg 0 c88r8) (.cond (.t 49) (.reg 0 c88r9) .skip)))) (.reg 0 c88r10))))
def c88l11m : List Bool := [fF,fF,fF,tT,tT,tT,fF,fF,fF,fF,fF,fF,fF,fF,fF,fF,fF,fF,tT,tT,tT,fF,fF,fF,fF,fF,fF,fF,fF,fF,fF,tT,tT,tT,fF,fF,fF,fF,fF,fF,fF,fF,fF,fF,fF,fF,fF,fF,fF,fF,fF,fF,fF,fF,fF,fF,fF,fF,fF,fF,fF,fF,fF,fF,fF,fF,fF,fF,fF,fF,fF,fF,fF,fF,fF,fF,fF,fF,fF,fF]
def c88r12 : List AOper := [
 oP 58 (.arith .add (.t 20) (nI 1)),
 oM 20 58]
def c88l13 : ACode := (.seq (.reg 0 c88r3) (.seq (.cond (.t 21) .skip (.exit 0)) (.seq (.block 1 (.seq (.reg 1 c88r4) (.seq (.reg 0 c88r5) (.block 2 (.loop c88l11m [] c88l11))))) (.reg 0 c88r12))))
def c88l13m : List Bool := [fF,fF,fF,tT,fF,fF,fF,fF,fF,fF,fF,fF,fF,fF,fF,fF,fF,fF,tT,tT,tT,fF,fF,fF,fF,fF,fF,fF,fF,fF,fF,fF,fF,fF,fF,fF,fF,fF,fF,fF,fF,fF,fF,fF,fF,fF,fF,fF,fF,fF,fF,fF,fF,fF,fF,fF,fF,fF,fF,fF,fF,fF,fF,fF,fF,fF,fF,fF,fF,fF,fF,fF,fF,fF,fF,fF,fF,fF,fF,fF]
def c88r14 : List AOper := [
 oM 59 3,
 oP 60 (.nilck (.t 59)),
 oF 61 0 60,
 oF 62 1 61,
 oL 63 62,
 oN 64 63,
 oP 65 (.mov (nI 0))]
def c88r15 : List AOper := [
 oP 66 (.cmp .lss (.t 65) (.t 64))]
def c88r16 : List AOper := [
 oP 67 (.idxA 2 (.t 63) (.t 65)),
 oP 68 (.load 2 true (.t 67)),
 oP 9 (.alloc [(.s (.int .i64 0)), (.s (.int .i64 0))]),
 ⟨none, none, .store 2 (.t 9) (.t 68)⟩]
def c88r17 : List AOper := [
 oM 69 3,
 oP 70 (.nilck (.t 69)),
 oF 71 2 70,
 oL 72 71,
 oP 73 (.idxArrA 2 1 (.t 9) (nI 0)),
 oL 74 73,
 oP 75 (.idxArrA 2 1 (.t 9) (nI 1)),
 oL 76 75,
 oP 77 (.build [(.s (.int .i64 0)), (.s (.int .i64 0))] [(0, 1, (.t 74)), (1, 1, (.t 76))]),
 ⟨none, none, .mset [(.int .i64), (.int .i64)] (.t 72) (.t 77) (nI 1)⟩]
def c88r18 : List AOper := [
 oP 78 (.arith .add (.t 65) (nI 1)),
 oM 65 78]
def c88l19 : ACode := (.seq (.reg 0 c88r15) (.seq (.cond (.t 66) .skip (.exit 4)) (.seq (.block 5 (.seq (.reg 1 c88r16) (.reg 0 c88r17))) (.reg 0 c88r18))))
def c88l19m : List Bool := [fF,fF,fF,tT,fF,fF,fF,fF,fF,fF,fF,fF,fF,fF,fF,fF,fF,fF,fF,fF,fF,fF,fF,fF,fF,fF,fF,fF,fF,fF,fF,fF,fF,fF,fF,fF,fF,fF,fF,fF,fF,fF,fF,fF,fF,fF,fF,fF,fF,fF,fF,fF,fF,fF,fF,fF,fF,fF,fF,fF,fF,fF,fF,tT,tT,tT,fF,fF,fF,fF,fF,fF,fF,fF,fF,fF,fF,fF,fF,fF]
def c88r20 : List AOper := [
 oM 79 3,
 oM 2 79]
def f88 : FRow := ⟨(.seq (.reg 0 c88r0) (.seq (.reg 2 c88r1) (.seq (.seq (.reg 0 c88r2) (.block 0 (.loop c88l13m [] c88l13))) (.seq (.seq (.reg 0 c88r14) (.block 4 (.loop c88l19m [] c88l19))) (.seq (.reg 0 c88r20) .ret))))), [.tmp 2], 80⟩
theorem okf88 : f88.Ok Try.prog 88 := ⟨_, _, Try.func88, rfl, by kernel_rfl, by kernel_rfl, by kernel_rfl⟩
def c89r0 : List AOper := [
 oP 4 (.mov bF)]
def c89r1 : List AOper := [
 oM 5 0,
 oM 6 1,
 oP 7 (.call 108 [(.t 5), (.t 6)]),
 oP 8 (.cmp .geq (.t 7) (nI 0)),
 oM 4 8]
def f89 : FRow := ⟨(.seq (.reg 0 c89r0) (.seq (.reg 0 c89r1) .ret)), [.tmp 4], 9⟩
theorem okf89 : f89.Ok Try.prog 89 := ⟨_, _, Try.func89, rfl, by kernel_rfl, by kernel_rfl, by kernel_rfl⟩
def c90r0 : List AOper := [
 oP 4 (.mov bF)]
def c90r1 : List AOper := [
 oM 5 0,
 oL 6 1,
 oP 7 (.cmp .lss (.t 5) (.t 6)),
 oM 8 7,
 oH 9 8 false 0,
 oG 10 8 false (.load 1 false (.t 2)),
 oG 11 8 false (.cmp .gtr (.t 9) (.t 10)),
 oP 12 (.pick (.t 8) bT (.t 11)),
 oM 4 12]
def f90 : FRow := ⟨(.seq (.reg 0 c90r0) (.seq (.reg 0 c90r1) .ret)), [.tmp 4], 13⟩
theorem okf90 : f90.Ok Try.prog 90 := ⟨_, _, Try.func90, rfl, by kernel_rfl, by kernel_rfl, by kernel_rfl⟩
def c91r0 : List AOper := [
 oP 2 (.mov (.c (.full [])))]
def c91r1 : List AOper := [
 oM 3 0,
 oP 4 (.callN 1 109 [(.c (.full [])), (.t 3)]),
 oM 2 4]
def f91 : FRow := ⟨(.seq (.reg 0 c91r0) (.seq (.reg 1 c91r1) .ret)), [.tmp 2], 5⟩
theorem okf91 : f91.Ok Try.prog 91 := ⟨_, _, Try.func91, rfl, by kernel_rfl, by kernel_rfl, by kernel_rfl⟩
def c92r0 : List AOper := [
 oM 3 0,
 oN 4 3,
 oM 2 4]
def c92r1 : List AOper := [
 oM 5 0,
 oM 6 2,
 oM 7 2,
 oP 8 (.conv .u64 (.t 7)),
 oP 9 (.call 111 [(.t 8)]),
 oP 10 (.callI 110 [(.t 5), (nI 0), (.t 6), (.t 9)])]
def f92 : FRow := ⟨(.seq (.reg 0 c92r0) (.reg 0 c92r1)), [], 11⟩
def c93r0 : List AOper := [
 oL 5 1,
 oN 6 5,
 oP 7 (.mov (nI 0))]
def c93r1 : List AOper := [
 oP 8 (.cmp .lss (.t 7) (.t 6))]
def c93r2 : List AOper := [
 oI 9 5 7,
 oL 10 9,
 oM 4 10]
def c93r3 : List AOper := [
 oM 11 0,
 oM 12 4,
 oP 13 (.callv (.t 11) [(.t 12)]),
 oP 14 (.not (.t 13))]
def c93r4 : List AOper := [
 oP 15 (.arith .add (.t 7) (nI 1)),
 oM 7 15]
def c93l5 : ACode := (.seq (.reg 0 c93r1) (.seq (.cond (.t 8) .skip (.exit 0)) (.seq (.block 1 (.seq (.reg 0 c93r2) (.seq (.reg 0 c93r3) (.cond (.t 14) .ret .skip)))) (.reg 0 c93r4))))
def c93l5m : List Bool := [tT,fF,fF,fF,fF,tT,tT,tT,fF,fF,fF,fF,fF,fF,fF,fF]
def f93 : FRow := ⟨(.seq (.reg 0 c93r0) (.block 0 (.loop c93l5m [] c93l5))), [], 16⟩
def c94r0 : List AOper := [
 oP 4 (.mov bF)]
def c94r1 : List AOper := [
 oP 5 (.mov (nI 0))]
def c94r2 : List AOper := [
 oM 6 5,
 oM 7 0,
 oN 8 7,
 oP 9 (.cmp .lss (.t 6) (.t 8))]
def c94r3 : List AOper := [
 oM 12 0,
 oM 13 5,
 oI 14 12 13,
 oL 15 14,
 oM 16 1,
 oP 17 (.cmp .eql (.t 15) (.t 16))]
def c94r4 : List AOper := [
 oP 4 (.mov bT)]
def c94r5 : List AOper := [
 oM 10 5,
 oP 11 (.arith .add (.t 10) (nI 1)),
 oM 5 11]
def c94l6 : ACode := (.seq (.seq (.reg 0 c94r2) (.cond (.t 9) .skip (.exit 0))) (.seq (.block 1 (.seq (.reg 0 c94r3) (.cond (.t 17) (.seq (.reg 0 c94r4) .ret) .skip))) (.reg 0 c94r5)))
def c94l6m : List Bool := [tT,tT,fF,fF,fF,tT,fF,fF,fF,fF,fF,fF,fF,fF,fF,fF,fF,fF]
def c94r7 : List AOper := [
 oP 4 (.mov bF)]
def f94 : FRow := ⟨(.seq (.reg 0 c94r0) (.seq (.seq (.reg 0 c94r1) (.block 0 (.loop c94l6m [] c94l6))) (.seq (.reg 0 c94r7) .ret))), [.tmp 4], 18⟩
theorem okf94 : f94.Ok Try.prog 94 := ⟨_, _, Try.func94, rfl, by kernel_rfl, by kernel_rfl, by kernel_rfl⟩
def c95r0 : List AOper := [
 oP 4 (.mov (nI 0))]
def c95r1 : List AOper := [
 oM 6 0,
 oN 7 6,
 oP 8 (.mov (nI 0))]
def c95r2 : List AOper := [
 oP 9 (.cmp .lss (.t 8) (.t 7))]
def c95r3 : List AOper := [
 oM 10 8,
 oM 5 10]
def c95r4 : List AOper := [
 oM 11 1,
 oM 12 0,
 oM 13 5,
 oP 14 (.idxA 2 (.t 12) (.t 13)),
 oP 15 (.load 2 true (.t 14)),
 oP 16 (.callv (.t 11) [(.t 15)])]
def c95r5 : List AOper := [
 oM 17 5,
 oM 4 17]
def c95r6 : List AOper := [
 oP 18 (.arith .add (.t 8) (nI 1)),
 oM 8 18]
def c95l7 : ACode := (.seq (.reg 0 c95r2) (.seq (.cond (.t 9) .skip (.exit 0)) (.seq (.block 1 (.seq (.reg 0 c95r3) (.seq (.reg 0 c95r4) (.cond (.t 16) (.seq (.reg 0 c95r5) .ret) .skip)))) (.reg 0 c95r6))))
def c95l7m : List Bool := [tT,tT,fF,fF,fF,fF,fF,tT,tT,fF,fF,fF,fF,fF,fF,fF,fF,fF,fF]
def c95r8 : List AOper := [
 oP 4 (.mov (nI (-1)))]
def f95 : FRow := ⟨(.seq (.reg 0 c95r0) (.seq (.seq (.reg 0 c95r1) (.block 0 (.loop c95l7m [] c95l7))) (.seq (.reg 0 c95r8) .ret))), [.tmp 4], 19⟩
theorem okf95 : f95.Ok Try.prog 95 := ⟨_, _, Try.func95, rfl, by kernel_rfl, by kernel_rfl, by kernel_rfl⟩
def c96r0 : List AOper := [
 oP 4 (.mov (nI 0))]
def c96r1 : List AOper := [
 oM 7 0,
 oP 8 (.call 112 [(.t 7)]),
 oM 5 8]
def c96r2 : List AOper := [
 oM 9 1,
 oP 10 (.call 112 [(.t 9)]),
 oM 6 10]
def c96r3 : List AOper := [
 oM 11 5]
def c96r4 : List AOper := [
 oM 12 6]
def c96r5 : List AOper := [
 oP 4 (.mov (nI 0))]
def c96r6 : List AOper := [
 oP 4 (.mov (nI (-1)))]
def c96r7 : List AOper := [
 oM 13 6]
def c96r8 : List AOper := [
 oP 4 (.mov (nI 1))]
def c96r9 : List AOper := [
 oM 14 0,
 oM 15 1,
 oP 16 (.cmp .lss (.t 14) (.t 15))]
def c96r10 : List AOper := [
 oP 4 (.mov (nI (-1)))]
def c96r11 : List AOper := [
 oM 17 0,
 oM 18 1,
 oP 19 (.cmp .gtr (.t 17) (.t 18))]
def c96r12 : List AOper := [
 oP 4 (.mov (nI 1))]
def c96r13 : List AOper := [
 oP 4 (.mov (nI 0))]
def f96 : FRow := ⟨(.seq (.reg 0 c96r0) (.seq (.reg 0 c96r1) (.seq (.reg 0 c96r2) (.seq (.seq (.reg 0 c96r3) (.cond (.t 11) (.seq (.seq (.reg 0 c96r4) (.cond (.t 12) (.seq (.reg 0 c96r5) .ret) .skip)) (.seq (.reg 0 c96r6) .ret)) .skip)) (.seq (.seq (.reg 0 c96r7) (.cond (.t 13) (.seq (.reg 0 c96r8) .ret) .skip)) (.seq (.seq (.reg 0 c96r9) (.cond (.t 16) (.seq (.reg 0 c96r10) .ret) .skip)) (.seq (.seq (.reg 0 c96r11) (.cond (.t 19) (.seq (.reg 0 c96r12) .ret) .skip)) (.seq (.reg 0 c96r13) .ret)))))))), [.tmp 4], 20⟩
theorem okf96 : f96.Ok Try.prog 96 := ⟨_, _, Try.func96, rfl, by kernel_rfl, by kernel_rfl, by kernel_rfl⟩
def c97r0 : List AOper := [
 oP 4 (.alloc [(.s (.int .i64 0)), (.s (.int .i64 0))])]
def c97r1 : List AOper := [
 oM 5 0,
 oM 6 1,
 oP 7 (.min [(.t 5), (.t 6)]),
 oM 8 0,
 oM 9 1,
 oP 10 (.max [(.t 8), (.t 9)]),
 oP 11 (.build [(.s (.int .i64 0)), (.s (.int .i64 0))] [(0, 1, (.t 7)), (1, 1, (.t 10))]),
 ⟨none, none, .store 2 (.t 4) (.t 11)⟩]
def f97 : FRow := ⟨(.seq (.reg 1 c97r0) (.seq (.reg 0 c97r1) .ret)), [.cell 4 2 true], 12⟩
theorem okf97 : f97.Ok Try.prog 97 := ⟨_, _, Try.func97, rfl, by kernel_rfl, by kernel_rfl, by kernel_rfl⟩
def c98r0 : List AOper := [
 oP 5 (.boxS (.t 1)),
 oP 8 (.alloc [(.s (.int .i64 0)), (.s (.int .i64 0)), (.s (.int .i64 0)), (.s (.int .i64 0)), (.s (.int .i64 0)), (.s (.int .i64 0)), (.s (.int .i64 0)), (.s (.int .i64 0))])]
def c98r1 : List AOper := [
 oM 12 2,
 oM 13 0,
 oP 14 (.nilck (.t 13)),
 oF 15 0 14,
 oF 16 0 15,
 oL 17 16,
 oN 18 17,
 oP 19 (.cmp .eql (.t 12) (.t 18))]
def c98r2 : List AOper := [
 oP 20 (.load 8 true (.t 5)),
 ⟨none, none, .store 8 (.t 8) (.t 20)⟩]
def c98r3 : List AOper := [
 oP 9 (.alloc [(.s (.int .i64 0))]),
 ⟨none, none, .store 1 (.t 9) (nI 1)⟩]
def c98r4 : List AOper := [
 oL 21 9,
 oM 22 3,
 oP 23 (.cmp .leq (.t 21) (.t 22))]
def c98r5 : List AOper := [
 oM 26 0,
 oM 27 2,
 oP 28 (.call 105 [(.t 26), (.t 27)])]
def c98r6 : List AOper := [
 oM 10 29]
def c98r7 : List AOper := [
 oM 30 10,
 oP 31 (.idxArrA 8 1 (.t 5) (.t 30)),
 oL 32 31,
 oL 33 9,
 oP 34 (.cmp .eql (.t 32) (.t 33))]
def c98b8 : ACode := (.block 3 (.seq (.reg 0 c98r7) (.cond (.t 34) (.exit 1) .skip)))
def c98b8a : ACode := (.reg 0 c98r6)
def c98r9 : List AOper := [
 oP 35 (.load 8 true (.t 5)),
 oP 11 (.alloc [(.s (.int .i64 0)), (.s (.int .i64 0)), (.s (.int .i64 0)), (.s (.int .i64 0)), (.s (.int .i64 0)), (.s (.int .i64 0)), (.s (.int .i64 0)), (.s (.int .i64 0))]),
 ⟨none, none, .store 8 (.t 11) (.t 35)⟩]
def c98r10 : List AOper := [
 oM 36 2,
 oL 37 9,
 oP 38 (.idxArrA 8 1 (.t 11) (.t 36)),
 ⟨none, none, .store 1 (.t 38) (.t 37)⟩]
def c98r11 : List AOper := [
 oM 39 0,
 oP 40 (.load 8 true (.t 11)),
 oM 41 2,
 oP 42 (.arith .add (.t 41) (nI 1)),
 oM 43 3,
 oP 44 (.call 98 [(.t 39), (.t 40), (.t 42), (.t 43)]),
 ⟨none, none, .store 8 (.t 11) (.t 44)⟩]
def c98r12 : List AOper := [
 oP 45 (.load 8 true (.t 11)),
 oP 46 (.build [(.s (.int .i64 0)), (.s (.int .i64 0)), (.s (.int .i64 0)), (.s (.int .i64 0)), (.s (.int .i64 0)), (.s (.int .i64 0)), (.s (.int .i64 0)), (.s (.int .i64 0))] []),
 oP 47 (.eql true [(.int .i64), (.int .i64), (.int .i64), (.int .i64), (.int .i64), (.int .i64), (.int .i64), (.int .i64)] true (.t 45) (.t 46))]
def c98r13 : List AOper := [
 oP 48 (.load 8 true (.t 11)),
 ⟨none, none, .store 8 (.t 8) (.t 48)⟩]
def c98r14 : List AOper := [
 oL 49 9]
def c98r15 : List AOper := [
 oP 9 (.alloc [(.s (.int .i64 0))]),
 ⟨none, none, .store 1 (.t 9) (.t 49)⟩]
def c98r16 : List AOper := [
 oL 24 9,
 oP 25 (.arith .add (.t 24) (nI 1)),
 ⟨none, none, .store 1 (.t 9) (.t 25)⟩]
def c98l17 : BCode := (.seq (.code (.seq (.reg 0 c98r4) (.cond (.t 23) .skip (.exit 0)))) (.seq (.block 1 (.seq (.seq (.code (.reg 0 c98r5)) (.block 2 (.rangeF 0 (.t 28) 29 c98b8a c98b8))) (.code (.seq (.reg 1 c98r9) (.seq (.reg 0 c98r10) (.seq (.reg 0 c98r11) (.seq (.reg 0 c98r12) (.cond (.t 47) (.seq (.reg 0 c98r13) .ret) .skip)))))))) (.code (.seq (.seq (.reg 0 c98r14) (.reg 1 c98r15)) (.ren 9 1 (.reg 0 c98r16))))))
def c98l17m : List Bool := [tT,fF,tT,tT,fF,tT,fF,fF,tT,tT,fF,fF,fF,fF,fF,fF,fF,fF,fF,fF,fF,fF,fF,fF,fF,fF,fF,fF,fF,tT,fF,fF,fF,fF,fF,fF,fF,fF,fF,fF,fF,fF,fF,fF,fF,fF,fF,fF,fF,fF,fF]
def c98r18 : List AOper := [
 oP 50 (.build [(.s (.int .i64 0)), (.s (.int .i64 0)), (.s (.int .i64 0)), (.s (.int .i64 0)), (.s (.int .i64 0)), (.s (.int .i64 0)), (.s (.int .i64 0)), (.s (.int .i64 0))] []),
 ⟨none, none, .store 8 (.t 8) (.t 50)⟩]
def t98 : BRow := ⟨(.seq (.code (.reg 1 c98r0)) (.scope (.seq (.code (.seq (.reg 0 c98r1) (.cond (.t 19) (.seq (.reg 0 c98r2) .ret) .skip))) (.seq (.code (.label 0)) (.seq (.seq (.code (.reg 1 c98r3)) (.block 0 (.loop c98l17m [] c98l17))) (.code (.seq (.reg 0 c98r18) .ret))))))), [.cell 8 8 true], 51⟩
theorem okt98 : t98.Ok Try.prog 98 := ⟨_, _, Try.func98, rfl, by kernel_rfl, by kernel_rfl, by kernel_rfl⟩
def c100r0 : List AOper := [
 oP 4 (.mov (.c (.full [])))]
def c100r1 : List AOper := [
 oM 8 0,
 oM 9 1,
 oP 10 (.call 108 [(.t 8), (.t 9)]),
 oM 5 10]
def c100r2 : List AOper := [
 oM 11 5,
 oP 12 (.cmp .eql (.t 11) (nI (-1)))]
def c100r3 : List AOper := [
 oM 13 0,
 oM 4 13]
def c100r4 : List AOper := [
 oM 14 5,
 oP 15 (.arith .add (.t 14) (nI 1)),
 oM 6 15]
def c100r5 : List AOper := [
 oM 16 6,
 oM 17 0,
 oN 18 17,
 oP 19 (.cmp .lss (.t 16) (.t 18))]
def c100r6 : List AOper := [
 oM 22 0,
 oM 23 6,
 oI 24 22 23,
 oL 25 24,
 oM 7 25]
def c100r7 : List AOper := [
 oM 26 1,
 oM 27 7,
 oP 28 (.callv (.t 26) [(.t 27)]),
 oP 29 (.not (.t 28))]
def c100r8 : List AOper := [
 oM 30 0,
 oM 31 5,
 oM 32 7,
 oI 33 30 31,
 ⟨none, none, .store 1 (.t 33) (.t 32)⟩]
def c100r9 : List AOper := [
 oM 34 5,
 oP 35 (.arith .add (.t 34) (nI 1)),
 oM 5 35]
def c100r10 : List AOper := [
 oM 20 6,
 oP 21 (.arith .add (.t 20) (nI 1)),
 oM 6 21]
def c100l11 : ACode := (.seq (.seq (.reg 0 c100r5) (.cond (.t 19) .skip (.exit 0))) (.seq (.block 1 (.seq (.reg 0 c100r6) (.seq (.reg 0 c100r7) (.cond (.t 29) (.seq (.reg 0 c100r8) (.reg 0 c100r9)) .skip)))) (.reg 0 c100r10)))
def c100l11m : List Bool := [tT,tT,fF,fF,fF,tT,tT,fF,fF,fF,fF,fF,fF,fF,fF,fF,fF,fF,fF,fF,fF,fF,fF,fF,fF,fF,fF,fF,fF,fF,fF,fF,fF,fF,fF,fF,fF,fF,fF,fF,fF,fF]
def c100r12 : List AOper := [
 oM 36 0,
 oM 37 5,
 oP 38 (.slice 1 (.t 36) (some (.t 37)) none none),
 ⟨none, none, .clear 1 [(.int .i64 0)] (.t 38)⟩]
def c100r13 : List AOper := [
 oM 39 0,
 oM 40 5,
 oP 41 (.slice 1 (.t 39) none (some (.t 40)) none),
 oM 4 41]
def f100 : FRow := ⟨(.seq (.reg 0 c100r0) (.seq (.reg 0 c100r1) (.seq (.seq (.reg 0 c100r2) (.cond (.t 12) (.seq (.reg 0 c100r3) .ret) .skip)) (.seq (.seq (.reg 0 c100r4) (.block 0 (.loop c100l11m [] c100l11))) (.seq (.reg 0 c100r12) (.seq (.reg 0 c100r13) .ret)))))), [.tmp 4], 42⟩
theorem okf100 : f100.Ok Try.prog 100 := ⟨_, _, Try.func100, rfl, by kernel_rfl, by kernel_rfl, by kernel_rfl⟩
def c101r0 : List AOper := [
 oP 2 (.mov (.c (.full [])))]
def c101r1 : List AOper := [
 oM 3 0,
 oP 4 (.eqNil false (.t 3))]
def c101r2 : List AOper := [
 oP 2 (.mov (.c (.full [])))]
def c101r3 : List AOper := [
 oP 5 (.buildSl 1 0 (.int .i64 0) []),
 oM 6 0,
 oP 7 (.appendN 1 8 (.t 5) (.t 6)),
 oM 2 7]
def f101 : FRow := ⟨(.seq (.reg 0 c101r0) (.seq (.seq (.reg 0 c101r1) (.cond (.t 4) (.seq (.reg 0 c101r2) .ret) .skip)) (.seq (.reg 1 c101r3) .ret))), [.tmp 2], 8⟩
theorem okf101 : f101.Ok Try.prog 101 := ⟨_, _, Try.func101, rfl, by kernel_rfl, by kernel_rfl, by kernel_rfl⟩
def c102r0 : List AOper := [
 oP 3 (.mov bF)]
def c102r1 : List AOper := [
 oM 4 0,
 oL 5 1,
 oP 6 (.cmp .eql (.t 4) (.t 5)),
 oM 3 6]
def f102 : FRow := ⟨(.seq (.reg 0 c102r0) (.seq (.reg 0 c102r1) .ret)), [.tmp 3], 7⟩
theorem okf102 : f102.Ok Try.prog 102 := ⟨_, _, Try.func102, rfl, by kernel_rfl, by kernel_rfl, by kernel_rfl⟩
def c103r0 : List AOper := [
 oP 3 (.boxS (.t 1)),
 oP 4 (.mov (.c (.s (.map [] []))))]
def c103r1 : List AOper := [
 oP 7 (.mkmap),
 oP 8 (.load 2 true (.t 3)),
 ⟨none, none, .mset [(.int .i64), (.int .i64)] (.t 7) (.t 8) (nI 1)⟩,
 oM 9 7,
 oM 5 9]
def c103r2 : List AOper := [
 oM 10 0,
 oP 11 (.rangeM (.t 10))]
def c103r3 : List AOper := [
 oP 12 (.nextM (.t 11)),
 oP 13 (.ext (.t 12) 0)]
def c103r4 : List AOper := [
 oP 14 (.entryM (.t 11)),
 oP 15 (.ext (.t 14) 0),
 oP 6 (.alloc [(.s (.int .i64 0)), (.s (.int .i64 0))]),
 ⟨none, none, .store 2 (.t 6) (.t 15)⟩]
def c103r5 : List AOper := [
 oM 16 5,
 oP 17 (.load 2 true (.t 6)),
 ⟨none, none, .mset [(.int .i64), (.int .i64)] (.t 16) (.t 17) (nI 1)⟩]
def c103l6 : ACode := (.seq (.reg 0 c103r3) (.seq (.cond (.t 13) .skip (.exit 0)) (.block 1 (.seq (.reg 1 c103r4) (.reg 0 c103r5)))))
def c103l6m : List Bool := [fF,fF,fF,fF,fF,tT,fF,fF,fF,fF,fF,tT,fF,fF,fF,fF,fF,fF,fF]
def c103r7 : List AOper := [
 oM 18 5,
 oM 4 18]
def f103 : FRow := ⟨(.seq (.reg 0 c103r0) (.seq (.reg 1 c103r1) (.seq (.seq (.reg 1 c103r2) (.block 0 (.loop c103l6m [] c103l6))) (.seq (.reg 0 c103r7) .ret)))), [.tmp 4], 19⟩
theorem okf103 : f103.Ok Try.prog 103 := ⟨_, _, Try.func103, rfl, by kernel_rfl, by kernel_rfl, by kernel_rfl⟩
def c104r0 : List AOper := [
 oP 4 (.mov bF)]
def c104r1 : List AOper := [
 oM 5 0,
 oN 6 5,
 oM 7 1,
 oN 8 7,
 oP 9 (.cmp .gtr (.t 6) (.t 8)),
 oM 4 9]
def f104 : FRow := ⟨(.seq (.reg 0 c104r0) (.seq (.reg 0 c104r1) .ret)), [.tmp 4], 10⟩
theorem okf104 : f104.Ok Try.prog 104 := ⟨_, _, Try.func104, rfl, by kernel_rfl, by kernel_rfl, by kernel_rfl⟩
def c105r0 : List AOper := [
 oP 2 (.boxS (.t 0)),
 oP 3 (.boxS (.t 1)),
 oP 4 (.mov (.c .any))]
def c105r1 : List AOper := [
 oP 5 (.mkfn 113 [] [(.t 2), (.t 3)]),
 oM 4 5]
def f105 : FRow := ⟨(.seq (.reg 0 c105r0) (.seq (.reg 0 c105r1) .ret)), [.tmp 4], 6⟩
theorem okf105 : f105.Ok Try.prog 105 := ⟨_, _, Try.func105, rfl, by kernel_rfl, by kernel_rfl, by kernel_rfl⟩
def c106r0 : List AOper := [
 oP 4 (.mov bF)]
def c106r1 : List AOper := [
 oM 5 0,
 oM 6 1,
 oP 7 (.call 114 [(.t 5), (.t 6)]),
 oP 8 (.cmp .geq (.t 7) (nI 0)),
 oM 4 8]
def f106 : FRow := ⟨(.seq (.reg 0 c106r0) (.seq (.reg 0 c106r1) .ret)), [.tmp 4], 9⟩
theorem okf106 : f106.Ok Try.prog 106 := ⟨_, _, Try.func106, rfl, by kernel_rfl, by kernel_rfl, by kernel_rfl⟩
def c107r0 : List AOper := [
 oP 3 (.mov bF)]
def c107r1 : List AOper := [
 oM 4 0,
 oM 5 0,
 oN 6 5,
 oP 7 (.arith .sub (.t 6) (nI 1)),
 oI 8 4 7,
 oL 9 8,
 oL 10 1,
 oP 11 (.cmp .eql (.t 9) (.t 10)),
 oM 3 11]
def f107 : FRow := ⟨(.seq (.reg 0 c107r0) (.seq (.reg 0 c107r1) .ret)), [.tmp 3], 12⟩
theorem okf107 : f107.Ok Try.prog 107 := ⟨_, _, Try.func107, rfl, by kernel_rfl, by kernel_rfl, by kernel_rfl⟩
def c108r0 : List AOper := [
 oP 4 (.mov (nI 0))]
def c108r1 : List AOper := [
 oM 6 0,
 oN 7 6,
 oP 8 (.mov (nI 0))]
def c108r2 : List AOper := [
 oP 9 (.cmp .lss (.t 8) (.t 7))]
def c108r3 : List AOper := [
 oM 10 8,
 oM 5 10]
def c108r4 : List AOper := [
 oM 11 1,
 oM 12 0,
 oM 13 5,
 oI 14 12 13,
 oL 15 14,
 oP 16 (.callv (.t 11) [(.t 15)])]
def c108r5 : List AOper := [
 oM 17 5,
 oM 4 17]
def c108r6 : List AOper := [
 oP 18 (.arith .add (.t 8) (nI 1)),
 oM 8 18]
def c108l7 : ACode := (.seq (.reg 0 c108r2) (.seq (.cond (.t 9) .skip (.exit 0)) (.seq (.block 1 (.seq (.reg 0 c108r3) (.seq (.reg 0 c108r4) (.cond (.t 16) (.seq (.reg 0 c108r5) .ret) .skip)))) (.reg 0 c108r6))))
def c108l7m : List Bool := [tT,tT,fF,fF,fF,fF,fF,tT,tT,fF,fF,fF,fF,fF,fF,fF,fF,fF,fF]
def c108r8 : List AOper := [
 oP 4 (.mov (nI (-1)))]
def f108 : FRow := ⟨(.seq (.reg 0 c108r0) (.seq (.seq (.reg 0 c108r1) (.block 0 (.loop c108l7m [] c108l7))) (.seq (.reg 0 c108r8) .ret))), [.tmp 4], 19⟩
theorem okf108 : f108.Ok Try.prog 108 := ⟨_, _, Try.func108, rfl, by kernel_rfl, by kernel_rfl, by kernel_rfl⟩
def c109r0 : List AOper := [
 oP 2 (.boxM (.t 0)),
 oP 4 (.mov (.c (.full [])))]
def c109r1 : List AOper := [
 oM 6 1]
def c109r2 : List AOper := [
 oM 5 7]
def c109r3 : List AOper := [
 oL 8 2,
 oM 9 5,
 oP 10 (.buildSl 1 1 (.int .i64 0) [(0, (.t 9))]),
 oP 11 (.append 1 8 (.t 8) (.t 10)),
 ⟨none, none, .store 1 (.t 2) (.t 11)⟩]
def c109b4 : ACode := (.block 1 (.reg 1 c109r3))
def c109b4a : ACode := (.reg 0 c109r2)
def c109r5 : List AOper := [
 oL 12 2,
 oM 4 12]
def t109 : BRow := ⟨(.seq (.code (.reg 1 c109r0)) (.seq (.seq (.code (.reg 0 c109r1)) (.block 0 (.promo [(2, some 0, 0)] (.rangeF 1 (.t 6) 7 c109b4a c109b4)))) (.code (.seq (.reg 0 c109r5) .ret)))), [.tmp 4], 13⟩
theorem okt109 : t109.Ok Try.prog 109 := ⟨_, _, Try.func109, rfl, by kernel_rfl, by kernel_rfl, by kernel_rfl⟩
def c110r0 : List AOper := [
 oP 8 (.mov bT)]
def c110r1 : List AOper := [
 oP 9 (.mov bT)]
def c110r2 : List AOper := [
 oM 19 2,
 oM 20 1,
 oP 21 (.arith .sub (.t 19) (.t 20)),
 oM 10 21]
def c110r3 : List AOper := [
 oM 22 10,
 oP 23 (.cmp .leq (.t 22) (nI 12))]
def c110r4 : List AOper := [
 oM 24 0,
 oM 25 1,
 oM 26 2,
 oP 27 (.callI 115 [(.t 24), (.t 25), (.t 26)])]
def c110r5 : List AOper := [
 oM 28 3,
 oP 29 (.cmp .eql (.t 28) (nI 0))]
def c110r6 : List AOper := [
 oM 30 0,
 oM 31 1,
 oM 32 2,
 oP 33 (.callI 116 [(.t 30), (.t 31), (.t 32)])]
def c110r7 : List AOper := [
 oM 34 8,
 oP 35 (.not (.t 34))]
def c110r8 : List AOper := [
 oM 36 0,
 oM 37 1,
 oM 38 2,
 oP 39 (.callI 117 [(.t 36), (.t 37), (.t 38)])]
def c110r9 : List AOper := [
 oM 40 3,
 oP 41 (.arith .sub (.t 40) (nI 1)),
 oM 3 41]
def c110r10 : List AOper := [
 oM 43 0,
 oM 44 1,
 oM 45 2,
 oP 46 (.callI 118 [(.t 43), (.t 44), (.t 45)]),
 oM 42 46,
 oP 47 (.ext (.t 42) 0),
 oP 48 (.ext (.t 42) 1),
 oM 11 47,
 oM 12 48]
def c110r11 : List AOper := [
 oM 49 12,
 oP 50 (.cmp .eql (.t 49) (nI 2))]
def c110r12 : List AOper := [
 oM 51 0,
 oM 52 1,
 oM 53 2,
 oP 54 (.callI 119 [(.t 51), (.t 52), (.t 53)])]
def c110r13 : List AOper := [
 oM 55 2,
 oP 56 (.arith .sub (.t 55) (nI 1)),
 oM 57 11,
 oM 58 1,
 oP 59 (.arith .sub (.t 57) (.t 58)),
 oP 60 (.arith .sub (.t 56) (.t 59)),
 oM 11 60]
def c110r14 : List AOper := [
 oP 12 (.mov (nI 1))]
def c110r15 : List AOper := [
 oM 61 8,
 oM 62 61,
 oH 63 62 true 9,
 oP 64 (.pick (.t 62) (.t 63) bF),
 oM 65 64,
 oH 66 65 true 12,
 oG 67 65 true (.cmp .eql (.t 66) (nI 1)),
 oP 68 (.pick (.t 65) (.t 67) bF)]
def c110r16 : List AOper := [
 oM 69 0,
 oM 70 1,
 oM 71 2,
 oP 72 (.callI 120 [(.t 69), (.t 70), (.t 71)])]
def c110r17 : List AOper := [
 oM 73 1,
 oP 74 (.cmp .gtr (.t 73) (nI 0)),
 oM 75 74,
 oH 76 75 true 0,
 oH 77 75 true 1,
 oG 78 75 true (.arith .sub (.t 77) (nI 1)),
 oG 79 75 true (.idxA 1 (.t 76) (.t 78)),
 oG 80 75 true (.load 1 false (.t 79)),
 oH 81 75 true 0,
 oH 82 75 true 11,
 oG 83 75 true (.idxA 1 (.t 81) (.t 82)),
 oG 84 75 true (.load 1 false (.t 83)),
 oG 85 75 true (.call 121 [(.t 80), (.t 84)]),
 oG 86 75 true (.not (.t 85)),
 oP 87 (.pick (.t 75) (.t 86) bF)]
def c110r18 : List AOper := [
 oM 88 0,
 oM 89 1,
 oM 90 2,
 oM 91 11,
 oP 92 (.callI 122 [(.t 88), (.t 89), (.t 90), (.t 91)]),
 oM 13 92]
def c110r19 : List AOper := [
 oM 93 13,
 oM 1 93]
def c110r20 : List AOper := [
 oM 95 0,
 oM 96 1,
 oM 97 2,
 oM 98 11,
 oP 99 (.callI 123 [(.t 95), (.t 96), (.t 97), (.t 98)]),
 oM 94 99,
 oP 100 (.ext (.t 94) 0),
 oP 101 (.ext (.t 94) 1),
 oM 14 100,
 oM 15 101]
def c110r21 : List AOper := [
 oM 102 15,
 oM 9 102]
def c110r22 : List AOper := [
 oM 103 14,
 oM 104 1,
 oP 105 (.arith .sub (.t 103) (.t 104)),
 oM 106 2,
 oM 107 14,
 oP 108 (.arith .sub (.t 106) (.t 107)),
 oM 16 105,
 oM 17 108]
def c110r23 : List AOper := [
 oM 109 10,
 oP 110 (.div .quo (.t 109) (nI 8)),
 oM 18 110]
def c110r24 : List AOper := [
 oM 111 16,
 oM 112 17,
 oP 113 (.cmp .lss (.t 111) (.t 112))]
def c110r25 : List AOper := [
 oM 114 16,
 oM 115 18,
 oP 116 (.cmp .geq (.t 114) (.t 115)),
 oM 8 116]
def c110r26 : List AOper := [
 oM 117 0,
 oM 118 1,
 oM 119 14,
 oM 120 3,
 oP 121 (.callI 110 [(.t 117), (.t 118), (.t 119), (.t 120)])]
def c110r27 : List AOper := [
 oM 122 14,
 oP 123 (.arith .add (.t 122) (nI 1)),
 oM 1 123]
def c110r28 : List AOper := [
 oM 124 17,
 oM 125 18,
 oP 126 (.cmp .geq (.t 124) (.t 125)),
 oM 8 126]
def c110r29 : List AOper := [
 oM 127 0,
 oM 128 14,
 oP 129 (.arith .add (.t 128) (nI 1)),
 oM 130 2,
 oM 131 3,
 oP 132 (.callI 110 [(.t 127), (.t 129), (.t 130), (.t 131)])]
def c110r30 : List AOper := [
 oM 133 14,
 oM 2 133]
def c110l31 : ACode := (.block 1 (.seq (.reg 0 c110r2) (.seq (.seq (.reg 0 c110r3) (.cond (.t 23) (.seq (.reg 0 c110r4) .ret) .skip)) (.seq (.seq (.reg 0 c110r5) (.cond (.t 29) (.seq (.reg 0 c110r6) .ret) .skip)) (.seq (.seq (.reg 0 c110r7) (.cond (.t 35) (.seq (.reg 0 c110r8) (.reg 0 c110r9)) .skip)) (.seq (.reg 0 c110r10) (.seq (.seq (.reg 0 c110r11) (.cond (.t 50) (.seq (.reg 0 c110r12) (.seq (.reg 0 c110r13) (.reg 0 c110r14))) .skip)) (.seq (.seq (.reg 0 c110r15) (.cond (.t 68) (.seq (.reg 0 c110r16) (.cond (.t 72) .ret .skip)) .skip)) (.seq (.seq (.reg 0 c110r17) (.cond (.t 87) (.seq (.reg 0 c110r18) (.seq (.reg 0 c110r19) (.exit 1))) .skip)) (.seq (.reg 0 c110r20) (.seq (.reg 0 c110r21) (.seq (.reg 0 c110r22) (.seq (.reg 0 c110r23) (.seq (.reg 0 c110r24) (.cond (.t 113) (.seq (.reg 0 c110r25) (.seq (.reg 0 c110r26) (.reg 0 c110r27))) (.seq (.reg 0 c110r28) (.seq (.reg 0 c110r29) (.reg 0 c110r30))))))))))))))))))
def c110l31m : List Bool := [tT,tT,tT,tT,fF,fF,fF,fF,tT,tT,fF,fF,fF,fF,fF,fF,fF,fF,fF,fF,fF,fF,fF,fF,fF,fF,fF,fF,fF,fF,fF,fF,fF,fF,fF,fF,fF,fF,fF,fF,fF,fF,fF,fF,fF,fF,fF,fF,fF,fF,fF,fF,fF,fF,fF,fF,fF,fF,fF,fF,fF,fF,fF,fF,fF,fF,fF,fF,fF,fF,fF,fF,fF,fF,fF,fF,fF,fF,fF,fF,fF,fF,fF,fF,fF,fF,fF,fF,fF,fF,fF,fF,fF,fF,fF,fF,fF,fF,fF,fF,fF,fF,fF,fF,fF,fF,fF,fF,fF,fF,fF,fF,fF,fF,fF,fF,fF,fF,fF,fF,fF,fF,fF,fF,fF,fF,fF,fF,fF,fF,fF,fF,fF,fF]
def f110 : FRow := ⟨(.seq (.reg 0 c110r0) (.seq (.reg 0 c110r1) (.block 0 (.loop c110l31m [] c110l31)))), [], 134⟩
def c112r0 : List AOper := [
 oP 2 (.mov bF)]
def c112r1 : List AOper := [
 oM 3 0,
 oM 4 0,
 oP 5 (.cmp .neq (.t 3) (.t 4)),
 oM 2 5]
def f112 : FRow := ⟨(.seq (.reg 0 c112r0) (.seq (.reg 0 c112r1) .ret)), [.tmp 2], 6⟩
theorem okf112 : f112.Ok Try.prog 112 := ⟨_, _, Try.func112, rfl, by kernel_rfl, by kernel_rfl, by kernel_rfl⟩
def c113r0 : List AOper := [
 oL 5 1,
 oP 6 (.nilck (.t 5)),
 oF 7 0 6,
 oF 8 0 7,
 oL 9 8,
 oN 10 9,
 oP 11 (.mov (nI 0))]
def c113r1 : List AOper := [
 oP 12 (.cmp .lss (.t 11) (.t 10))]
def c113r2 : List AOper := [
 oM 13 11,
 oM 4 13]
def c113r3 : List AOper := [
 oM 14 4,
 oL 15 2,
 oP 16 (.cmp .neq (.t 14) (.t 15)),
 oM 17 16,
 oG 18 17 true (.load 1 false (.t 1)),
 oG 19 17 true (.nilck (.t 18)),
 oG 20 17 true (.fieldAddr 2 (.t 19)),
 oG 21 17 true (.load 1 false (.t 20)),
 oH 22 17 true 4,
 oG 23 17 true (.load 1 false (.t 2)),
 oG 24 17 true (.call 71 [(.t 21), (.t 22), (.t 23)]),
 oP 25 (.pick (.t 17) (.t 24) bF),
 oM 26 25,
 oH 27 26 true 0,
 oH 28 26 true 4,
 oG 29 26 true (.callv (.t 27) [(.t 28)]),
 oG 30 26 true (.not (.t 29)),
 oP 31 (.pick (.t 26) (.t 30) bF)]
def c113r4 : List AOper := [
 oP 32 (.arith .add (.t 11) (nI 1)),
 oM 11 32]
def c113l5 : ACode := (.seq (.reg 0 c113r1) (.seq (.cond (.t 12) .skip (.exit 0)) (.seq (.block 1 (.seq (.reg 0 c113r2) (.seq (.reg 0 c113r3) (.cond (.t 31) .ret .skip)))) (.reg 0 c113r4))))
def c113l5m : List Bool := [tT,tT,tT,fF,fF,fF,fF,fF,fF,fF,tT,tT,fF,fF,fF,fF,fF,fF,fF,fF,fF,fF,fF,fF,fF,fF,fF,fF,fF,fF,fF,fF,fF]
def f113 : FRow := ⟨(.seq (.reg 0 c113r0) (.block 0 (.loop c113l5m [] c113l5))), [], 33⟩
def c114r0 : List AOper := [
 oP 4 (.mov (nI 0))]
def c114r1 : List AOper := [
 oM 6 0,
 oN 7 6,
 oP 8 (.mov (nI 0))]
def c114r2 : List AOper := [
 oP 9 (.cmp .lss (.t 8) (.t 7))]
def c114r3 : List AOper := [
 oM 10 8,
 oM 5 10]
def c114r4 : List AOper := [
 oM 11 1,
 oM 12 0,
 oM 13 5,
 oI 14 12 13,
 oL 15 14,
 oP 16 (.callv (.t 11) [(.t 15)])]
def c114r5 : List AOper := [
 oM 17 5,
 oM 4 17]
def c114r6 : List AOper := [
 oP 18 (.arith .add (.t 8) (nI 1)),
 oM 8 18]
def c114l7 : ACode := (.seq (.reg 0 c114r2) (.seq (.cond (.t 9) .skip (.exit 0)) (.seq (.block 1 (.seq (.reg 0 c114r3) (.seq (.reg 0 c114r4) (.cond (.t 16) (.seq (.reg 0 c114r5) .ret) .skip)))) (.reg 0 c114r6))))
def c114l7m : List Bool := [tT,tT,fF,fF,fF,fF,fF,tT,tT,fF,fF,fF,fF,fF,fF,fF,fF,fF,fF]
def c114r8 : List AOper := [
 oP 4 (.mov (nI (-1)))]
def f114 : FRow := ⟨(.seq (.reg 0 c114r0) (.seq (.seq (.reg 0 c114r1) (.block 0 (.loop c114l7m [] c114l7))) (.seq (.reg 0 c114r8) .ret))), [.tmp 4], 19⟩
theorem okf114 : f114.Ok Try.prog 114 := ⟨_, _, Try.func114, rfl, by kernel_rfl, by kernel_rfl, by kernel_rfl⟩
def c115r0 : List AOper := [
 oM 8 1,
 oP 9 (.arith .add (.t 8) (nI 1)),
 oM 6 9]
def c115r1 : List AOper := [
 oM 10 6,
 oM 11 2,
 oP 12 (.cmp .lss (.t 10) (.t 11))]
def c115r2 : List AOper := [
 oM 15 6,
 oM 7 15]
def c115r3 : List AOper := [
 oM 16 7,
 oM 17 1,
 oP 18 (.cmp .gtr (.t 16) (.t 17)),
 oM 19 18,
 oH 20 19 true 0,
 oH 21 19 true 7,
 oG 22 19 true (.idxA 1 (.t 20) (.t 21)),
 oG 23 19 true (.load 1 false (.t 22)),
 oH 24 19 true 0,
 oH 25 19 true 7,
 oG 26 19 true (.arith .sub (.t 25) (nI 1)),
 oG 27 19 true (.idxA 1 (.t 24) (.t 26)),
 oG 28 19 true (.load 1 false (.t 27)),
 oG 29 19 true (.call 121 [(.t 23), (.t 28)]),
 oP 30 (.pick (.t 19) (.t 29) bF)]
def c115r4 : List AOper := [
 oM 33 0,
 oM 34 7,
 oM 35 0,
 oM 36 7,
 oP 37 (.arith .sub (.t 36) (nI 1)),
 oM 38 0,
 oM 39 7,
 oP 40 (.arith .sub (.t 39) (nI 1)),
 oI 41 38 40,
 oL 42 41,
 oM 43 0,
 oM 44 7,
 oI 45 43 44,
 oL 46 45,
 oI 47 33 34,
 ⟨none, none, .store 1 (.t 47) (.t 42)⟩,
 oI 48 35 37,
 ⟨none, none, .store 1 (.t 48) (.t 46)⟩]
def c115r5 : List AOper := [
 oM 31 7,
 oP 32 (.arith .sub (.t 31) (nI 1)),
 oM 7 32]
def c115l6 : ACode := (.seq (.seq (.reg 0 c115r3) (.cond (.t 30) .skip (.exit 2))) (.seq (.block 3 (.reg 0 c115r4)) (.reg 0 c115r5)))
def c115l6m : List Bool := [tT,tT,tT,fF,fF,fF,tT,tT,fF,fF,fF,fF,fF,fF,fF,fF,fF,fF,fF,fF,fF,fF,fF,fF,fF,fF,fF,fF,fF,fF,fF,fF,fF,fF,fF,fF,fF,fF,fF,fF,fF,fF,fF,fF,fF,fF,fF,fF,fF]
def c115r7 : List AOper := [
 oM 13 6,
 oP 14 (.arith .add (.t 13) (nI 1)),
 oM 6 14]
def c115l8 : ACode := (.seq (.seq (.reg 0 c115r1) (.cond (.t 12) .skip (.exit 0))) (.seq (.block 1 (.seq (.reg 0 c115r2) (.block 2 (.loop c115l6m [] c115l6)))) (.reg 0 c115r7)))
def c115l8m : List Bool := [tT,tT,tT,fF,fF,fF,tT,fF,fF,fF,fF,fF,fF,fF,fF,fF,fF,fF,fF,fF,fF,fF,fF,fF,fF,fF,fF,fF,fF,fF,fF,fF,fF,fF,fF,fF,fF,fF,fF,fF,fF,fF,fF,fF,fF,fF,fF,fF,fF]
def f115 : FRow := ⟨(.seq (.reg 0 c115r0) (.block 0 (.loop c115l8m [] c115l8))), [], 49⟩
def c121r0 : List AOper := [
 oP 4 (.mov bF)]
def c121r1 : List AOper := [
 oM 5 0,
 oP 6 (.call 112 [(.t 5)]),
 oM 7 6,
 oH 8 7 true 1,
 oG 9 7 true (.call 112 [(.t 8)]),
 oG 10 7 true (.not (.t 9)),
 oP 11 (.pick (.t 7) (.t 10) bF),
 oM 12 11,
 oH 13 12 false 0,
 oH 14 12 false 1,
 oG 15 12 false (.cmp .lss (.t 13) (.t 14)),
 oP 16 (.pick (.t 12) bT (.t 15)),
 oM 4 16]
def f121 : FRow := ⟨(.seq (.reg 0 c121r0) (.seq (.reg 0 c121r1) .ret)), [.tmp 4], 17⟩
end Go.Proofs.Ytmcjoahnlbckoaa.Sk

/- The code of functions in the value semantics, and that it stands for theirs. -/
namespace Go.Proofs.Ytmcjoahnlbckoaa.Sk
open Go Go.E
end Go.Proofs.Ytmcjoahnlbckoaa.Sk

/- The code of all functions in the value semantics. -/
namespace Go.Proofs.Ytmcjoahnlbckoaa.Sk
open Go Go.E
end Go.Proofs.Ytmcjoahnlbckoaa.Sk
