/- The code of functions in the value semantics, and that it stands for theirs. -/
import Derived.Test.YtglmjdpmpgphkaaM4
import Derived.Test.YtglmjdpmpgphkaaProg

set_option linter.all false

namespace Go.Proofs.Ytglmjdpmpgphkaa.Sk
open Go Go.E
abbrev oP (d : Nat) (o : AOp) : AOper := ⟨some d, none, o⟩
abbrev oG (d g : Nat) (b : Bool) (o : AOp) : AOper := ⟨some d, some (g, b), o⟩
abbrev nI (n : Int) : AX := .c (.s (.int .i64 n))
abbrev oM (d s : Nat) : AOper := ⟨some d, none, .mov (.t s)⟩
abbrev oL (d s : Nat) : AOper := ⟨some d, none, .load 1 false (.t s)⟩
abbrev oF (d k s : Nat) : AOper := ⟨some d, none, .fieldAddr k (.t s)⟩
abbrev oN (d s : Nat) : AOper := ⟨some d, none, .len false (.t s)⟩
abbrev oI (d a b : Nat) : AOper := ⟨some d, none, .idxA 1 (.t a) (.t b)⟩
abbrev oH (d g : Nat) (b : Bool) (s : Nat) : AOper := ⟨some d, some (g, b), .mov (.t s)⟩
abbrev bF : AX := .c (.s (.bool false))
abbrev bT : AX := .c (.s (.bool true))
abbrev fF : Bool := false
abbrev tT : Bool := true

def c16r0 : List AOper := [
 oP 1 (.boxS (.t 0)),
 oP 2 (.mov bF)]
def c16r1 : List AOper := [
 oF 5 1 1,
 oL 6 5,
 oN 7 6,
 oP 8 (.cmp .gtr (.t 7) (nI 20)),
 oM 9 8,
 oG 10 9 false (.fieldAddr 0 (.t 1)),
 oG 11 9 false (.load 1 false (.t 10)),
 oG 12 9 false (.len false (.t 11)),
 oG 13 9 false (.cmp .gtr (.t 12) (nI 20)),
 oP 14 (.pick (.t 9) bT (.t 13)),
 oM 15 14,
 oG 16 15 false (.fieldAddr 2 (.t 1)),
 oG 17 15 false (.load 1 false (.t 16)),
 oG 18 15 false (.len false (.t 17)),
 oG 19 15 false (.cmp .gtr (.t 18) (nI 20)),
 oP 20 (.pick (.t 15) bT (.t 19))]
def c16r2 : List AOper := [
 oP 2 (.mov bT)]
def c16r3 : List AOper := [
 oP 3 (.mov (nI 0))]
def c16r4 : List AOper := [
 oP 4 (.mov (nI 0))]
def c16r5 : List AOper := [
 oM 21 4,
 oF 22 1 1,
 oL 23 22,
 oN 24 23,
 oP 25 (.cmp .lss (.t 21) (.t 24))]
def c16r6 : List AOper := [
 oM 28 3,
 oF 29 1 1,
 oL 30 29,
 oM 31 4,
 oI 32 30 31,
 oL 33 32,
 oN 34 33,
 oP 35 (.max [(.t 28), (.t 34)]),
 oM 3 35]
def c16r7 : List AOper := [
 oM 26 4,
 oP 27 (.arith .add (.t 26) (nI 1)),
 oM 4 27]
def c16l8 : ACode := (.seq (.seq (.reg 0 c16r5) (.cond (.t 25) .skip (.exit 0))) (.seq (.block 1 (.reg 0 c16r6)) (.reg 0 c16r7)))
def c16l8m : List Bool := [fF,tT,fF,tT,tT,fF,fF,fF,fF,fF,fF,fF,fF,fF,fF,fF,fF,fF,fF,fF,fF,fF,fF,fF,fF,fF,fF,fF,fF,fF,fF,fF,fF,fF,fF,fF,fF,fF]
def c16r9 : List AOper := [
 oM 36 3,
 oP 37 (.cmp .gtr (.t 36) (nI 20)),
 oM 2 37]
def f16 : FRow := ⟨(.seq (.reg 0 c16r0) (.seq (.seq (.reg 0 c16r1) (.cond (.t 20) (.seq (.reg 0 c16r2) .ret) .skip)) (.seq (.reg 0 c16r3) (.seq (.seq (.reg 0 c16r4) (.block 0 (.loop c16l8m [] c16l8))) (.seq (.reg 0 c16r9) .ret))))), [.tmp 2], 38⟩
theorem okf16 : f16.Ok Try.prog 16 := ⟨_, _, Try.func16, rfl, by kernel_rfl, by kernel_rfl, by kernel_rfl⟩

def c17r0 : List AOper := [
 oP 0 (.mov bF)]
def c17r1 : List AOper := [
 oP 42 (.buildSl 1 2 (.int .i64 0) [(0, (nI 4)), (1, (nI 5))]),
 oP 43 (.call 55 [(.t 42)]),
 oP 44 (.buildSl 1 1 (.int .i64 0) [(0, (nI 4))]),
 oP 45 (.call 55 [(.t 44)]),
 oP 1 (.alloc [(.full []), (.full []), (.full [])]),
 oP 2 (.alloc [(.full []), (.full []), (.full [])]),
 ⟨none, none, .store 3 (.t 1) (.t 43)⟩,
 ⟨none, none, .store 3 (.t 2) (.t 45)⟩]
def c17r2 : List AOper := [
 oP 47 (.load 3 true (.t 1)),
 oP 48 (.call 18 [(.t 47)]),
 oM 46 48,
 oP 49 (.ext (.t 46) 0),
 oP 50 (.ext (.t 46) 1),
 oM 3 49,
 oM 4 50]
def c17r3 : List AOper := [
 oP 52 (.load 3 true (.t 2)),
 oP 53 (.call 18 [(.t 52)]),
 oM 51 53,
 oP 54 (.ext (.t 51) 0),
 oP 55 (.ext (.t 51) 1),
 oM 5 54,
 oM 6 55]
def c17r4 : List AOper := [
 oP 57 (.load 3 true (.t 2)),
 oP 58 (.call 25 [(.t 57)]),
 oM 56 58,
 oP 59 (.ext (.t 56) 0),
 oP 60 (.ext (.t 56) 1),
 oM 7 59,
 oM 8 60]
def c17r5 : List AOper := [
 oP 61 (.load 3 true (.t 2)),
 oP 62 (.buildSl 1 1 (.int .i64 0) [(0, (nI 4))]),
 oP 63 (.call 56 [(.t 62)]),
 oP 64 (.call 27 [(.t 61), (.t 63)]),
 oP 65 (.load 3 true (.t 2)),
 oP 66 (.buildSl 1 1 (.int .i64 0) [(0, (nI 0))]),
 oP 67 (.call 56 [(.t 66)]),
 oP 68 (.call 27 [(.t 65), (.t 67)]),
 oM 9 64,
 oM 10 68]
def c17r6 : List AOper := [
 oP 70 (.load 3 true (.t 1)),
 oP 71 (.buildSl 1 6 (.int .i64 0) [(0, (nI 5)), (1, (nI 4)), (2, (nI (-1))), (3, (nI 3)), (4, (nI 2)), (5, (nI 0))]),
 oP 72 (.call 56 [(.t 71)]),
 oP 73 (.call 23 [(.t 70), (.t 72)]),
 oM 69 73,
 oP 74 (.ext (.t 69) 0),
 oP 75 (.ext (.t 69) 1),
 oM 11 74,
 oM 12 75]
def c17r7 : List AOper := [
 oP 77 (.load 3 true (.t 1)),
 oP 78 (.buildSl 1 6 (.int .i64 0) [(0, (nI 2)), (1, (nI 2)), (2, (nI 4)), (3, (nI 1)), (4, (nI 1)), (5, (nI 0))]),
 oP 79 (.call 56 [(.t 78)]),
 oP 80 (.call 23 [(.t 77), (.t 79)]),
 oM 76 80,
 oP 81 (.ext (.t 76) 0),
 oP 82 (.ext (.t 76) 1),
 oM 13 81,
 oM 14 82]
def c17r8 : List AOper := [
 oP 84 (.load 3 true (.t 1)),
 oP 85 (.call 29 [(.t 84)]),
 oM 83 85,
 oP 86 (.ext (.t 83) 0),
 oP 87 (.ext (.t 83) 1),
 oM 15 86,
 oM 16 87]
def c17r9 : List AOper := [
 oP 89 (.load 3 true (.t 1)),
 oP 90 (.call 31 [(.t 89)]),
 oM 88 90,
 oP 91 (.ext (.t 88) 0),
 oP 92 (.ext (.t 88) 1),
 oM 17 91,
 oM 18 92]
def c17r10 : List AOper := [
 oP 94 (.load 3 true (.t 2)),
 oP 95 (.call 31 [(.t 94)]),
 oM 93 95,
 oP 96 (.ext (.t 93) 0),
 oP 97 (.ext (.t 93) 1),
 oM 19 96,
 oM 20 97]
def c17r11 : List AOper := [
 oP 99 (.load 3 true (.t 1)),
 oM 100 15,
 oM 101 17,
 oP 102 (.call 35 [(.t 99), (.t 100), (.t 101), (nI 2)]),
 oM 98 102,
 oP 103 (.ext (.t 98) 0),
 oP 104 (.ext (.t 98) 1),
 oP 105 (.ext (.t 98) 2),
 oM 21 103,
 oM 22 104,
 oM 23 105]
def c17r12 : List AOper := [
 oP 107 (.load 3 true (.t 2)),
 oP 108 (.buildSl 1 6 (.int .i64 0) [(0, (nI 1)), (1, (nI (-1))), (2, (nI (-1))), (3, (nI 5)), (4, (nI 4)), (5, (nI (-1)))]),
 oP 109 (.call 56 [(.t 108)]),
 oM 110 19,
 oP 111 (.call 35 [(.t 107), (.t 109), (.t 110), (nI 0)]),
 oM 106 111,
 oP 112 (.ext (.t 106) 0),
 oP 113 (.ext (.t 106) 1),
 oP 114 (.ext (.t 106) 2),
 oM 24 112,
 oM 25 113,
 oM 26 114]
def c17r13 : List AOper := [
 oP 116 (.load 3 true (.t 1)),
 oM 117 15,
 oP 118 (.call 37 [(.t 116), (.t 117), (nI 2)]),
 oM 115 118,
 oP 119 (.ext (.t 115) 0),
 oP 120 (.ext (.t 115) 1),
 oM 27 119,
 oM 28 120]
def c17r14 : List AOper := [
 oP 122 (.load 3 true (.t 1)),
 oP 123 (.buildSl 1 6 (.int .i64 0) [(0, (nI 2)), (1, (nI (-1))), (2, (nI (-1))), (3, (nI 5)), (4, (nI 5)), (5, (nI (-1)))]),
 oP 124 (.call 56 [(.t 123)]),
 oP 125 (.call 37 [(.t 122), (.t 124), (nI 0)]),
 oM 121 125,
 oP 126 (.ext (.t 121) 0),
 oP 127 (.ext (.t 121) 1),
 oM 29 126,
 oM 30 127]
def c17r15 : List AOper := [
 oP 129 (.load 3 true (.t 1)),
 oP 130 (.call 39 [(.t 129), (nI 2)]),
 oM 128 130,
 oP 131 (.ext (.t 128) 0),
 oP 132 (.ext (.t 128) 1),
 oM 31 131,
 oM 32 132]
def c17r16 : List AOper := [
 oP 134 (.load 3 true (.t 2)),
 oP 135 (.call 39 [(.t 134), (nI 0)]),
 oM 133 135,
 oP 136 (.ext (.t 133) 0),
 oP 137 (.ext (.t 133) 1),
 oM 33 136,
 oM 34 137]
def c17r17 : List AOper := [
 oP 138 (.load 3 true (.t 2)),
 oP 139 (.build [(.s (.int .i64 0)), (.s (.int .i64 0))] [(0, 1, (nI 1)), (1, 1, (nI 4))]),
 oP 140 (.buildSl 2 1 (.agg [(.int .i64 0), (.int .i64 0)]) [(0, (.t 139))]),
 oP 141 (.call 57 [(.t 140)]),
 oP 142 (.call 44 [(.t 138), (nI 0), (.t 141)]),
 oP 143 (.load 3 true (.t 2)),
 oP 144 (.build [(.s (.int .i64 0)), (.s (.int .i64 0))] [(0, 1, (nI 1)), (1, 1, (nI 3))]),
 oP 145 (.buildSl 2 1 (.agg [(.int .i64 0), (.int .i64 0)]) [(0, (.t 144))]),
 oP 146 (.call 57 [(.t 145)]),
 oP 147 (.call 44 [(.t 143), (nI 0), (.t 146)]),
 oP 148 (.load 3 true (.t 2)),
 oP 149 (.build [(.s (.int .i64 0)), (.s (.int .i64 0))] [(0, 1, (nI 2)), (1, 1, (nI 0))]),
 oP 150 (.build [(.s (.int .i64 0)), (.s (.int .i64 0))] [(0, 1, (nI 2)), (1, 1, (nI 5))]),
 oP 151 (.buildSl 2 2 (.agg [(.int .i64 0), (.int .i64 0)]) [(0, (.t 149)), (1, (.t 150))]),
 oP 152 (.call 57 [(.t 151)]),
 oP 153 (.call 44 [(.t 148), (nI 0), (.t 152)]),
 oM 35 142,
 oM 36 147,
 oM 37 153]
def c17r18 : List AOper := [
 oP 155 (.load 3 true (.t 2)),
 oP 156 (.call 42 [(.t 155), (nI 0)]),
 oM 154 156,
 oP 157 (.ext (.t 154) 0),
 oP 158 (.ext (.t 154) 1),
 oM 38 157,
 oM 39 158]
def c17r19 : List AOper := [
 oP 160 (.load 3 true (.t 1)),
 oP 161 (.call 42 [(.t 160), (nI 0)]),
 oM 159 161,
 oP 162 (.ext (.t 159) 0),
 oP 163 (.ext (.t 159) 1),
 oM 40 162,
 oM 41 163]
def c17r20 : List AOper := [
 oM 164 4,
 oP 165 (.cmp .neq (.t 164) (nI 0)),
 oM 166 165,
 oH 167 166 false 6,
 oG 168 166 false (.cmp .neq (.t 167) (nI 0)),
 oP 169 (.pick (.t 166) bT (.t 168)),
 oM 170 169,
 oH 171 170 false 8,
 oG 172 170 false (.cmp .neq (.t 171) (nI 0)),
 oP 173 (.pick (.t 170) bT (.t 172)),
 oM 174 173,
 oH 175 174 false 9,
 oG 176 174 false (.cmp .neq (.t 175) (nI 0)),
 oP 177 (.pick (.t 174) bT (.t 176)),
 oM 178 177,
 oH 179 178 false 10,
 oG 180 178 false (.cmp .neq (.t 179) (nI 14)),
 oP 181 (.pick (.t 178) bT (.t 180)),
 oM 182 181,
 oH 183 182 false 12,
 oG 184 182 false (.cmp .neq (.t 183) (nI 0)),
 oP 185 (.pick (.t 182) bT (.t 184)),
 oM 186 185,
 oH 187 186 false 14,
 oG 188 186 false (.cmp .neq (.t 187) (nI 14)),
 oP 189 (.pick (.t 186) bT (.t 188)),
 oM 190 189,
 oH 191 190 false 16,
 oG 192 190 false (.cmp .neq (.t 191) (nI 0)),
 oP 193 (.pick (.t 190) bT (.t 192)),
 oM 194 193,
 oH 195 194 false 18,
 oG 196 194 false (.cmp .neq (.t 195) (nI 0)),
 oP 197 (.pick (.t 194) bT (.t 196)),
 oM 198 197,
 oH 199 198 false 20,
 oG 200 198 false (.cmp .neq (.t 199) (nI 0)),
 oP 201 (.pick (.t 198) bT (.t 200)),
 oM 202 201,
 oH 203 202 false 23,
 oG 204 202 false (.cmp .neq (.t 203) (nI 0)),
 oP 205 (.pick (.t 202) bT (.t 204)),
 oM 206 205,
 oH 207 206 false 26,
 oG 208 206 false (.cmp .neq (.t 207) (nI 0)),
 oP 209 (.pick (.t 206) bT (.t 208)),
 oM 210 209,
 oH 211 210 false 28,
 oG 212 210 false (.cmp .neq (.t 211) (nI 0)),
 oP 213 (.pick (.t 210) bT (.t 212)),
 oM 214 213,
 oH 215 214 false 30,
 oG 216 214 false (.cmp .neq (.t 215) (nI 0)),
 oP 217 (.pick (.t 214) bT (.t 216)),
 oM 218 217,
 oH 219 218 false 32,
 oG 220 218 false (.cmp .neq (.t 219) (nI 0)),
 oP 221 (.pick (.t 218) bT (.t 220)),
 oM 222 221,
 oH 223 222 false 34,
 oG 224 222 false (.cmp .neq (.t 223) (nI 19)),
 oP 225 (.pick (.t 222) bT (.t 224)),
 oM 226 225,
 oH 227 226 false 35,
 oG 228 226 false (.cmp .neq (.t 227) (nI 0)),
 oP 229 (.pick (.t 226) bT (.t 228)),
 oM 230 229,
 oH 231 230 false 36,
 oG 232 230 false (.cmp .neq (.t 231) (nI 19)),
 oP 233 (.pick (.t 230) bT (.t 232)),
 oM 234 233,
 oH 235 234 false 37,
 oG 236 234 false (.cmp .neq (.t 235) (nI 16)),
 oP 237 (.pick (.t 234) bT (.t 236)),
 oM 238 237,
 oH 239 238 false 39,
 oG 240 238 false (.cmp .neq (.t 239) (nI 0)),
 oP 241 (.pick (.t 238) bT (.t 240)),
 oM 242 241,
 oH 243 242 false 41,
 oG 244 242 false (.cmp .neq (.t 243) (nI 5)),
 oP 245 (.pick (.t 242) bT (.t 244))]
def c17r21 : List AOper := [
 oP 0 (.mov bF)]
def c17r22 : List AOper := [
 oM 246 3,
 oP 247 (.buildSl 1 6 (.int .i64 0) [(0, (nI 3)), (1, (nI 2)), (2, (nI 4)), (3, (nI 1)), (4, (nI 1)), (5, (nI 0))]),
 oP 248 (.call 56 [(.t 247)]),
 oP 249 (.call 22 [(.t 246), (.t 248)]),
 oP 250 (.not (.t 249)),
 oM 251 250,
 oH 252 251 false 5,
 oG 253 251 false (.buildSl 1 6 (.int .i64 0) [(0, (nI (-1))), (1, (nI (-1))), (2, (nI (-1))), (3, (nI 1)), (4, (nI (-1))), (5, (nI 0))]),
 oG 254 251 false (.call 56 [(.t 253)]),
 oG 255 251 false (.call 22 [(.t 252), (.t 254)]),
 oG 256 251 false (.not (.t 255)),
 oP 257 (.pick (.t 251) bT (.t 256)),
 oM 258 257,
 oH 259 258 false 7,
 oG 260 258 false (.buildSl 1 4 (.int .i64 0) [(0, (nI 0)), (1, (nI 1)), (2, (nI 2)), (3, (nI 4))]),
 oG 261 258 false (.call 56 [(.t 260)]),
 oG 262 258 false (.call 22 [(.t 259), (.t 261)]),
 oG 263 258 false (.not (.t 262)),
 oP 264 (.pick (.t 258) bT (.t 263)),
 oM 265 264,
 oH 266 265 false 11,
 oG 267 265 false (.buildSl 1 5 (.int .i64 0) [(0, (nI 0)), (1, (nI 1)), (2, (nI 3)), (3, (nI 4)), (4, (nI 5))]),
 oG 268 265 false (.call 56 [(.t 267)]),
 oG 269 265 false (.call 22 [(.t 266), (.t 268)]),
 oG 270 265 false (.not (.t 269)),
 oP 271 (.pick (.t 265) bT (.t 270))]
def c17r23 : List AOper := [
 oP 0 (.mov bF)]
def c17r24 : List AOper := [
 oM 272 15,
 oP 273 (.buildSl 1 6 (.int .i64 0) [(0, (nI 1)), (1, (nI (-1))), (2, (nI (-1))), (3, (nI 5)), (4, (nI 5)), (5, (nI (-1)))]),
 oP 274 (.call 56 [(.t 273)]),
 oP 275 (.call 22 [(.t 272), (.t 274)]),
 oM 276 275,
 oH 277 276 true 17,
 oG 278 276 true (.buildSl 1 6 (.int .i64 0) [(0, (nI (-1))), (1, (nI 3)), (2, (nI 0)), (3, (nI (-1))), (4, (nI (-1))), (5, (nI (-1)))]),
 oG 279 276 true (.call 56 [(.t 278)]),
 oG 280 276 true (.call 22 [(.t 277), (.t 279)]),
 oP 281 (.pick (.t 276) (.t 280) bF),
 oM 282 281,
 oH 283 282 true 19,
 oG 284 282 true (.buildSl 1 6 (.int .i64 0) [(0, (nI (-1))), (1, (nI 4)), (2, (nI 0)), (3, (nI (-1))), (4, (nI (-1))), (5, (nI (-1)))]),
 oG 285 282 true (.call 56 [(.t 284)]),
 oG 286 282 true (.call 22 [(.t 283), (.t 285)]),
 oP 287 (.pick (.t 282) (.t 286) bF),
 oM 288 287,
 oH 289 288 true 21,
 oG 290 288 true (.buildSl 1 5 (.int .i64 0) [(0, (nI 2)), (1, (nI 0)), (2, (nI 1)), (3, (nI 3)), (4, (nI 5))]),
 oG 291 288 true (.call 56 [(.t 290)]),
 oG 292 288 true (.call 22 [(.t 289), (.t 291)]),
 oP 293 (.pick (.t 288) (.t 292) bF),
 oM 294 293,
 oH 295 294 true 22,
 oP 296 (.pick (.t 294) (.t 295) bF),
 oM 297 296,
 oH 298 297 true 24,
 oG 299 297 true (.buildSl 1 3 (.int .i64 0) [(0, (nI 0)), (1, (nI 1)), (2, (nI 4))]),
 oG 300 297 true (.call 56 [(.t 299)]),
 oG 301 297 true (.call 22 [(.t 298), (.t 300)]),
 oP 302 (.pick (.t 297) (.t 301) bF),
 oM 303 302,
 oH 304 303 true 25,
 oG 305 303 true (.not (.t 304)),
 oP 306 (.pick (.t 303) (.t 305) bF),
 oM 307 306,
 oH 308 307 true 27,
 oP 309 (.pick (.t 307) (.t 308) bF),
 oM 310 309,
 oH 311 310 true 29,
 oG 312 310 true (.not (.t 311)),
 oP 313 (.pick (.t 310) (.t 312) bF),
 oM 314 313,
 oH 315 314 true 31,
 oG 316 314 true (.cmp .eql (.t 315) (nI 4)),
 oP 317 (.pick (.t 314) (.t 316) bF),
 oM 318 317,
 oH 319 318 true 38,
 oG 320 318 true (.len false (.t 319)),
 oG 321 318 true (.cmp .eql (.t 320) (nI 1)),
 oP 322 (.pick (.t 318) (.t 321) bF),
 oM 323 322,
 oG 324 323 true (.load 3 true (.t 2)),
 oH 325 323 true 38,
 oG 326 323 true (.call 45 [(.t 324), (nI 0), (.t 325)]),
 oG 327 323 true (.cmp .eql (.t 326) (nI 0)),
 oP 328 (.pick (.t 323) (.t 327) bF),
 oM 0 328]
def f17 : FRow := ⟨(.seq (.reg 0 c17r0) (.seq (.reg 2 c17r1) (.seq (.reg 0 c17r2) (.seq (.reg 0 c17r3) (.seq (.reg 0 c17r4) (.seq (.reg 0 c17r5) (.seq (.reg 0 c17r6) (.seq (.reg 0 c17r7) (.seq (.reg 0 c17r8) (.seq (.reg 0 c17r9) (.seq (.reg 0 c17r10) (.seq (.reg 0 c17r11) (.seq (.reg 0 c17r12) (.seq (.reg 0 c17r13) (.seq (.reg 0 c17r14) (.seq (.reg 0 c17r15) (.seq (.reg 0 c17r16) (.seq (.reg 0 c17r17) (.seq (.reg 0 c17r18) (.seq (.reg 0 c17r19) (.seq (.seq (.reg 0 c17r20) (.cond (.t 245) (.seq (.reg 0 c17r21) .ret) .skip)) (.seq (.seq (.reg 0 c17r22) (.cond (.t 271) (.seq (.reg 0 c17r23) .ret) .skip)) (.seq (.reg 0 c17r24) .ret))))))))))))))))))))))), [.tmp 0], 329⟩
theorem okf17 : f17.Ok Try.prog 17 := ⟨_, _, Try.func17, rfl, by kernel_rfl, by kernel_rfl, by kernel_rfl⟩

def c18r0 : List AOper := [
 oP 1 (.boxS (.t 0)),
 oP 2 (.mov (.c (.full []))),
 oP 3 (.mov (nI 0))]
def c18r1 : List AOper := [
 oP 8 (.load 3 true (.t 1)),
 oP 9 (.call 58 [(.t 8), (.c (.full []))]),
 oM 7 9,
 oP 10 (.ext (.t 7) 0),
 oP 11 (.ext (.t 7) 1),
 oM 4 10,
 oM 5 11]
def c18r2 : List AOper := [
 oM 12 5,
 oP 13 (.cmp .neq (.t 12) (nI 0))]
def c18r3 : List AOper := [
 oM 14 5,
 oP 2 (.mov (.c (.full []))),
 oM 3 14]
def c18r4 : List AOper := [
 oF 15 1 1,
 oL 16 15,
 oN 17 16,
 oP 18 (.mkslice 1 8 [(.int .i64 0)] (.t 17) (.t 17)),
 oM 6 18]
def c18r5 : List AOper := [
 oM 19 6,
 oM 20 4,
 oP 21 (.nilck (.t 20)),
 oF 22 3 21,
 oP 23 (.sliceArr 14 1 (.t 22) none none),
 oP 24 (.copy 1 (.t 19) (.t 23))]
def c18r6 : List AOper := [
 oM 25 6,
 oM 2 25,
 oP 3 (.mov (nI 0))]
def f18 : FRow := ⟨(.seq (.reg 0 c18r0) (.seq (.reg 0 c18r1) (.seq (.seq (.reg 0 c18r2) (.cond (.t 13) (.seq (.reg 0 c18r3) .ret) .skip)) (.seq (.reg 1 c18r4) (.seq (.reg 0 c18r5) (.seq (.reg 0 c18r6) .ret)))))), [.tmp 2, .tmp 3], 26⟩
theorem okf18 : f18.Ok Try.prog 18 := ⟨_, _, Try.func18, rfl, by kernel_rfl, by kernel_rfl, by kernel_rfl⟩

def c20r0 : List AOper := [
 oP 1 (.boxS (.t 0)),
 oP 2 (.mov (nI 0))]
def c20r1 : List AOper := [
 oF 4 1 1,
 oL 5 4,
 oN 6 5,
 oP 3 (.alloc [(.s (.int .i64 0))]),
 ⟨none, none, .store 1 (.t 3) (.t 6)⟩]
def c20r2 : List AOper := [
 oL 8 3,
 oP 9 (.buildSl 1 1 (.int .i64 0) [(0, (.t 8))]),
 oP 10 (.call 60 [(nI 1), (nI 14), (.t 9)]),
 oP 11 (.not (.t 10)),
 oM 7 11]
def c20r3 : List AOper := [
 oP 2 (.mov (nI 6))]
def c20r4 : List AOper := [
 oF 13 0 1,
 oL 14 13,
 oN 15 14,
 oL 16 3,
 oP 17 (.cmp .neq (.t 15) (.t 16)),
 oM 18 17,
 oG 19 18 false (.fieldAddr 2 (.t 1)),
 oG 20 18 false (.load 1 false (.t 19)),
 oG 21 18 false (.len false (.t 20)),
 oG 22 18 false (.load 1 false (.t 3)),
 oG 23 18 false (.cmp .neq (.t 21) (.t 22)),
 oP 24 (.pick (.t 18) bT (.t 23)),
 oM 12 24]
def c20r5 : List AOper := [
 oP 2 (.mov (nI 15))]
def c20r6 : List AOper := [
 oF 26 1 1,
 oL 27 26,
 oP 28 (.mkfn 62 [] [(.t 3)]),
 oP 29 (.call 61 [(.t 27), (.t 28)]),
 oM 25 29]
def c20r7 : List AOper := [
 oP 2 (.mov (nI 2))]
def c20r8 : List AOper := [
 oP 2 (.mov (nI 0))]
def f20 : FRow := ⟨(.seq (.reg 0 c20r0) (.seq (.reg 1 c20r1) (.seq (.block 0 (.seq (.reg 0 c20r2) (.cond (.t 7) (.seq (.reg 0 c20r3) .ret) (.seq (.reg 0 c20r4) (.cond (.t 12) (.seq (.reg 0 c20r5) .ret) (.seq (.reg 0 c20r6) (.cond (.t 25) (.seq (.reg 0 c20r7) .ret) .skip))))))) (.seq (.reg 0 c20r8) .ret)))), [.tmp 2], 30⟩
theorem okf20 : f20.Ok Try.prog 20 := ⟨_, _, Try.func20, rfl, by kernel_rfl, by kernel_rfl, by kernel_rfl⟩

def c21r0 : List AOper := [
 oP 1 (.boxS (.t 0)),
 oP 2 (.mov (nI 0))]
def c21r1 : List AOper := [
 oF 5 1 1,
 oL 6 5,
 oN 7 6,
 oM 3 7]
def c21r2 : List AOper := [
 oM 8 3,
 oP 9 (.cmp .lss (.t 8) (nI 1)),
 oM 10 9,
 oH 11 10 false 3,
 oG 12 10 false (.cmp .gtr (.t 11) (nI 14)),
 oP 13 (.pick (.t 10) bT (.t 12))]
def c21r3 : List AOper := [
 oP 2 (.mov (nI 6))]
def c21r4 : List AOper := [
 oF 14 0 1,
 oL 15 14,
 oN 16 15,
 oM 17 3,
 oP 18 (.cmp .neq (.t 16) (.t 17)),
 oM 19 18,
 oG 20 19 false (.fieldAddr 2 (.t 1)),
 oG 21 19 false (.load 1 false (.t 20)),
 oG 22 19 false (.len false (.t 21)),
 oH 23 19 false 3,
 oG 24 19 false (.cmp .neq (.t 22) (.t 23)),
 oP 25 (.pick (.t 19) bT (.t 24))]
def c21r5 : List AOper := [
 oP 2 (.mov (nI 15))]
def c21r6 : List AOper := [
 oP 4 (.mov (nI 0))]
def c21r7 : List AOper := [
 oM 26 4,
 oM 27 3,
 oP 28 (.cmp .lss (.t 26) (.t 27))]
def c21r8 : List AOper := [
 oF 31 1 1,
 oL 32 31,
 oM 33 4,
 oI 34 32 33,
 oL 35 34,
 oM 36 3,
 oP 37 (.call 64 [(.t 35), (.t 36)]),
 oP 38 (.not (.t 37))]
def c21r9 : List AOper := [
 oP 2 (.mov (nI 2))]
def c21r10 : List AOper := [
 oM 29 4,
 oP 30 (.arith .add (.t 29) (nI 1)),
 oM 4 30]
def c21l11 : ACode := (.seq (.seq (.reg 0 c21r7) (.cond (.t 28) .skip (.exit 0))) (.seq (.block 1 (.seq (.reg 0 c21r8) (.cond (.t 38) (.seq (.reg 0 c21r9) .ret) .skip))) (.reg 0 c21r10)))
def c21l11m : List Bool := [fF,tT,fF,tT,tT,fF,fF,fF,fF,fF,fF,fF,fF,fF,fF,fF,fF,fF,fF,fF,fF,fF,fF,fF,fF,fF,fF,fF,fF,fF,fF,fF,fF,fF,fF,fF,fF,fF,fF]
def c21r12 : List AOper := [
 oP 2 (.mov (nI 0))]
def f21 : FRow := ⟨(.seq (.reg 0 c21r0) (.seq (.reg 0 c21r1) (.seq (.seq (.reg 0 c21r2) (.cond (.t 13) (.seq (.reg 0 c21r3) .ret) .skip)) (.seq (.seq (.reg 0 c21r4) (.cond (.t 25) (.seq (.reg 0 c21r5) .ret) .skip)) (.seq (.seq (.reg 0 c21r6) (.block 0 (.loop c21l11m [] c21l11))) (.seq (.reg 0 c21r12) .ret)))))), [.tmp 2], 39⟩
theorem okf21 : f21.Ok Try.prog 21 := ⟨_, _, Try.func21, rfl, by kernel_rfl, by kernel_rfl, by kernel_rfl⟩

def c22r0 : List AOper := [
 oP 4 (.mov bF)]
def c22r1 : List AOper := [
 oM 6 0,
 oN 7 6,
 oM 8 1,
 oN 9 8,
 oP 10 (.cmp .neq (.t 7) (.t 9))]
def c22r2 : List AOper := [
 oP 4 (.mov bF)]
def c22r3 : List AOper := [
 oP 5 (.mov (nI 0))]
def c22r4 : List AOper := [
 oM 11 5,
 oM 12 0,
 oN 13 12,
 oP 14 (.cmp .lss (.t 11) (.t 13))]
def c22r5 : List AOper := [
 oM 17 0,
 oM 18 5,
 oI 19 17 18,
 oL 20 19,
 oM 21 1,
 oM 22 5,
 oI 23 21 22,
 oL 24 23,
 oP 25 (.cmp .neq (.t 20) (.t 24))]
def c22r6 : List AOper := [
 oP 4 (.mov bF)]
def c22r7 : List AOper := [
 oM 15 5,
 oP 16 (.arith .add (.t 15) (nI 1)),
 oM 5 16]
def c22l8 : ACode := (.seq (.seq (.reg 0 c22r4) (.cond (.t 14) .skip (.exit 0))) (.seq (.block 1 (.seq (.reg 0 c22r5) (.cond (.t 25) (.seq (.reg 0 c22r6) .ret) .skip))) (.reg 0 c22r7)))
def c22l8m : List Bool := [tT,tT,fF,fF,fF,tT,fF,fF,fF,fF,fF,fF,fF,fF,fF,fF,fF,fF,fF,fF,fF,fF,fF,fF,fF,fF]
def c22r9 : List AOper := [
 oP 4 (.mov bT)]
def f22 : FRow := ⟨(.seq (.reg 0 c22r0) (.seq (.seq (.reg 0 c22r1) (.cond (.t 10) (.seq (.reg 0 c22r2) .ret) .skip)) (.seq (.seq (.reg 0 c22r3) (.block 0 (.loop c22l8m [] c22l8))) (.seq (.reg 0 c22r9) .ret)))), [.tmp 4], 26⟩
theorem okf22 : f22.Ok Try.prog 22 := ⟨_, _, Try.func22, rfl, by kernel_rfl, by kernel_rfl, by kernel_rfl⟩

def c23r0 : List AOper := [
 oP 2 (.boxS (.t 0)),
 oP 3 (.boxS (.t 1)),
 oP 4 (.mov (.c (.full []))),
 oP 5 (.mov (nI 0))]
def c23r1 : List AOper := [
 oP 13 (.load 3 true (.t 2)),
 oP 14 (.call 58 [(.t 13), (.c (.full []))]),
 oM 12 14,
 oP 15 (.ext (.t 12) 0),
 oP 16 (.ext (.t 12) 1),
 oM 6 15,
 oM 7 16]
def c23r2 : List AOper := [
 oM 18 7,
 oP 19 (.cmp .neq (.t 18) (nI 0)),
 oM 17 19]
def c23r3 : List AOper := [
 oM 20 7,
 oP 4 (.mov (.c (.full []))),
 oM 5 20]
def c23r4 : List AOper := [
 oL 22 3,
 oN 23 22,
 oF 24 1 2,
 oL 25 24,
 oN 26 25,
 oP 27 (.cmp .neq (.t 23) (.t 26)),
 oM 21 27]
def c23r5 : List AOper := [
 oP 4 (.mov (.c (.full []))),
 oP 5 (.mov (nI 15))]
def c23r6 : List AOper := [
 oL 29 3,
 oP 30 (.call 60 [(nI (-1)), (nI 14), (.t 29)]),
 oP 31 (.not (.t 30)),
 oM 28 31]
def c23r7 : List AOper := [
 oP 4 (.mov (.c (.full []))),
 oP 5 (.mov (nI 3))]
def c23r8 : List AOper := [
 oP 8 (.mov (.c (.full [])))]
def c23r9 : List AOper := [
 oL 32 3,
 oN 33 32,
 oP 34 (.mov (nI 0))]
def c23r10 : List AOper := [
 oP 35 (.cmp .lss (.t 34) (.t 33))]
def c23r11 : List AOper := [
 oM 36 34,
 oI 37 32 34,
 oL 38 37,
 oP 10 (.alloc [(.s (.int .i64 0))]),
 oM 9 36,
 ⟨none, none, .store 1 (.t 10) (.t 38)⟩]
def c23r12 : List AOper := [
 oP 39 (.mkfn 65 [] [(.t 10), (.t 3)]),
 oM 11 39]
def c23r13 : List AOper := [
 oL 41 10,
 oP 42 (.cmp .eql (.t 41) (nI 0)),
 oF 43 2 2,
 oL 44 43,
 oM 45 9,
 oI 46 44 45,
 oL 47 46,
 oP 48 (.eql false [.bool] true (.t 42) (.t 47)),
 oM 40 48]
def c23r14 : List AOper := [
 oP 4 (.mov (.c (.full []))),
 oP 5 (.mov (nI 14))]
def c23r15 : List AOper := [
 oL 50 10,
 oP 51 (.cmp .gtr (.t 50) (nI 0)),
 oM 52 51,
 oH 53 52 true 6,
 oH 54 52 true 9,
 oH 55 52 true 11,
 oG 56 52 true (.call 66 [(.t 53), (.t 54), (.t 55)]),
 oG 57 52 true (.not (.t 56)),
 oP 58 (.pick (.t 52) (.t 57) bF),
 oM 49 58]
def c23r16 : List AOper := [
 oP 4 (.mov (.c (.full []))),
 oP 5 (.mov (nI 14))]
def c23r17 : List AOper := [
 oL 60 10,
 oP 61 (.cmp .geq (.t 60) (nI 0)),
 oM 59 61]
def c23r18 : List AOper := [
 oM 62 8,
 oM 63 8,
 oN 64 63,
 oM 65 8,
 oN 66 65,
 oP 67 (.slice 1 (.t 62) none (some (.t 64)) (some (.t 66))),
 oM 68 9,
 oP 69 (.buildSl 1 1 (.int .i64 0) [(0, (.t 68))]),
 oP 70 (.append 1 8 (.t 67) (.t 69)),
 oM 8 70]
def c23r19 : List AOper := [
 oP 71 (.arith .add (.t 34) (nI 1)),
 oM 34 71]
def c23l20 : ACode := (.seq (.reg 0 c23r10) (.seq (.cond (.t 35) .skip (.exit 1)) (.seq (.block 2 (.seq (.reg 1 c23r11) (.seq (.reg 0 c23r12) (.block 3 (.seq (.reg 0 c23r13) (.cond (.t 40) (.seq (.reg 0 c23r14) .ret) (.seq (.reg 0 c23r15) (.cond (.t 49) (.seq (.reg 0 c23r16) .ret) (.seq (.reg 0 c23r17) (.cond (.t 59) (.reg 1 c23r18) .skip)))))))))) (.reg 0 c23r19))))
def c23l20m : List Bool := [fF,fF,tT,tT,fF,fF,tT,fF,tT,fF,fF,fF,fF,fF,fF,fF,fF,fF,fF,fF,fF,fF,fF,fF,fF,fF,fF,fF,fF,fF,fF,fF,tT,tT,tT,fF,fF,fF,fF,fF,fF,fF,fF,fF,fF,fF,fF,fF,fF,fF,fF,fF,fF,fF,fF,fF,fF,fF,fF,fF,fF,fF,fF,fF,fF,fF,fF,fF,fF,fF,fF,fF,fF]
def c23r21 : List AOper := [
 oM 72 8,
 oM 4 72,
 oP 5 (.mov (nI 0))]
def f23 : FRow := ⟨(.seq (.reg 0 c23r0) (.seq (.reg 0 c23r1) (.seq (.block 0 (.seq (.reg 0 c23r2) (.cond (.t 17) (.seq (.reg 0 c23r3) .ret) (.seq (.reg 0 c23r4) (.cond (.t 21) (.seq (.reg 0 c23r5) .ret) (.seq (.reg 0 c23r6) (.cond (.t 28) (.seq (.reg 0 c23r7) .ret) .skip))))))) (.seq (.reg 0 c23r8) (.seq (.seq (.reg 0 c23r9) (.block 1 (.loop c23l20m [(8, none, 0)] c23l20))) (.seq (.reg 0 c23r21) .ret)))))), [.tmp 4, .tmp 5], 73⟩
theorem okf23 : f23.Ok Try.prog 23 := ⟨_, _, Try.func23, rfl, by kernel_rfl, by kernel_rfl, by kernel_rfl⟩

def c25r0 : List AOper := [
 oP 1 (.boxS (.t 0)),
 oP 2 (.mov (.c (.full []))),
 oP 3 (.mov (nI 0))]
def c25r1 : List AOper := [
 oP 9 (.load 3 true (.t 1)),
 oP 10 (.call 58 [(.t 9), (.c (.full []))]),
 oM 8 10,
 oP 11 (.ext (.t 8) 0),
 oP 12 (.ext (.t 8) 1),
 oM 4 11,
 oM 5 12]
def c25r2 : List AOper := [
 oM 13 5,
 oP 14 (.cmp .neq (.t 13) (nI 0))]
def c25r3 : List AOper := [
 oM 15 5,
 oP 2 (.mov (.c (.full []))),
 oM 3 15]
def c25r4 : List AOper := [
 oP 6 (.mov (.c (.full [])))]
def c25r5 : List AOper := [
 oF 16 1 1,
 oL 17 16,
 oN 18 17,
 oP 19 (.mov (nI 0))]
def c25r6 : List AOper := [
 oP 20 (.cmp .lss (.t 19) (.t 18))]
def c25r7 : List AOper := [
 oM 21 19,
 oM 7 21]
def c25r8 : List AOper := [
 oM 22 4,
 oM 23 7,
 oP 24 (.nilck (.t 22)),
 oF 25 3 24,
 oP 26 (.idxArrA 14 1 (.t 25) (.t 23)),
 oL 27 26,
 oP 28 (.cmp .lss (.t 27) (nI 0))]
def c25r9 : List AOper := [
 oM 29 6,
 oM 30 7,
 oP 31 (.buildSl 1 1 (.int .i64 0) [(0, (.t 30))]),
 oP 32 (.append 1 8 (.t 29) (.t 31)),
 oM 6 32]
def c25r10 : List AOper := [
 oP 33 (.arith .add (.t 19) (nI 1)),
 oM 19 33]
def c25l11 : ACode := (.seq (.reg 0 c25r6) (.seq (.cond (.t 20) .skip (.exit 0)) (.seq (.block 1 (.seq (.reg 0 c25r7) (.seq (.reg 0 c25r8) (.cond (.t 28) (.reg 1 c25r9) .skip)))) (.reg 0 c25r10))))
def c25l11m : List Bool := [fF,fF,fF,fF,tT,fF,tT,fF,fF,fF,fF,fF,fF,fF,fF,fF,fF,fF,tT,tT,fF,fF,fF,fF,fF,fF,fF,fF,fF,fF,fF,fF,fF,fF,fF]
def c25r12 : List AOper := [
 oM 34 6,
 oM 2 34,
 oP 3 (.mov (nI 0))]
def f25 : FRow := ⟨(.seq (.reg 0 c25r0) (.seq (.reg 0 c25r1) (.seq (.seq (.reg 0 c25r2) (.cond (.t 14) (.seq (.reg 0 c25r3) .ret) .skip)) (.seq (.reg 0 c25r4) (.seq (.seq (.reg 0 c25r5) (.block 0 (.loop c25l11m [(6, none, 0)] c25l11))) (.seq (.reg 0 c25r12) .ret)))))), [.tmp 2, .tmp 3], 35⟩
theorem okf25 : f25.Ok Try.prog 25 := ⟨_, _, Try.func25, rfl, by kernel_rfl, by kernel_rfl, by kernel_rfl⟩

def c27r0 : List AOper := [
 oP 2 (.boxS (.t 0)),
 oP 3 (.boxS (.t 1)),
 oP 4 (.mov (nI 0))]
def c27r1 : List AOper := [
 oP 11 (.load 3 true (.t 2)),
 oP 12 (.call 58 [(.t 11), (.c (.full []))]),
 oM 10 12,
 oP 13 (.ext (.t 10) 0),
 oP 14 (.ext (.t 10) 1),
 oM 5 13,
 oM 6 14]
def c27r2 : List AOper := [
 oM 16 6,
 oP 17 (.cmp .neq (.t 16) (nI 0)),
 oM 15 17]
def c27r3 : List AOper := [
 oM 18 6,
 oM 4 18]
def c27r4 : List AOper := [
 oL 20 3,
 oF 21 1 2,
 oL 22 21,
 oN 23 22,
 oP 24 (.call 63 [(.t 20), (.t 23)]),
 oP 25 (.not (.t 24)),
 oM 19 25]
def c27r5 : List AOper := [
 oP 4 (.mov (nI 2))]
def c27r6 : List AOper := [
 oP 26 (.mkfn 68 [] [(.t 3)]),
 oM 7 26]
def c27r7 : List AOper := [
 oL 27 3,
 oN 28 27,
 oP 29 (.mov (nI 0))]
def c27r8 : List AOper := [
 oP 30 (.cmp .lss (.t 29) (.t 28))]
def c27r9 : List AOper := [
 oI 31 27 29,
 oL 32 31,
 oM 9 32]
def c27r10 : List AOper := [
 oF 33 2 2,
 oL 34 33,
 oM 35 9,
 oI 36 34 35,
 oL 37 36,
 oM 38 37,
 oH 39 38 false 5,
 oH 40 38 false 9,
 oH 41 38 false 7,
 oG 42 38 false (.call 66 [(.t 39), (.t 40), (.t 41)]),
 oP 43 (.pick (.t 38) bT (.t 42))]
def c27r11 : List AOper := [
 oP 4 (.mov (nI 14))]
def c27r12 : List AOper := [
 oP 44 (.arith .add (.t 29) (nI 1)),
 oM 29 44]
def c27l13 : ACode := (.seq (.reg 0 c27r8) (.seq (.cond (.t 30) .skip (.exit 1)) (.seq (.block 2 (.seq (.reg 0 c27r9) (.seq (.reg 0 c27r10) (.cond (.t 43) (.seq (.reg 0 c27r11) .ret) .skip)))) (.reg 0 c27r12))))
def c27l13m : List Bool := [fF,fF,tT,fF,fF,tT,fF,tT,fF,fF,fF,fF,fF,fF,fF,fF,fF,fF,fF,fF,fF,fF,fF,fF,fF,fF,fF,tT,tT,tT,fF,fF,fF,fF,fF,fF,fF,fF,fF,fF,fF,fF,fF,fF,fF]
def c27r14 : List AOper := [
 oP 4 (.mov (nI 0))]
def f27 : FRow := ⟨(.seq (.reg 0 c27r0) (.seq (.reg 0 c27r1) (.seq (.block 0 (.seq (.reg 0 c27r2) (.cond (.t 15) (.seq (.reg 0 c27r3) .ret) (.seq (.reg 0 c27r4) (.cond (.t 19) (.seq (.reg 0 c27r5) .ret) .skip))))) (.seq (.reg 0 c27r6) (.seq (.seq (.reg 0 c27r7) (.block 1 (.loop c27l13m [] c27l13))) (.seq (.reg 0 c27r14) .ret)))))), [.tmp 4], 45⟩
theorem okf27 : f27.Ok Try.prog 27 := ⟨_, _, Try.func27, rfl, by kernel_rfl, by kernel_rfl, by kernel_rfl⟩

def c29r0 : List AOper := [
 oP 1 (.boxS (.t 0)),
 oP 2 (.mov (.c (.full []))),
 oP 3 (.mov (nI 0))]
def c29r1 : List AOper := [
 oP 7 (.load 3 true (.t 1)),
 oP 8 (.call 58 [(.t 7), (.c (.full []))]),
 oM 6 8,
 oP 9 (.ext (.t 6) 0),
 oP 10 (.ext (.t 6) 1),
 oM 4 9,
 oM 5 10]
def c29r2 : List AOper := [
 oM 11 5,
 oP 12 (.cmp .neq (.t 11) (nI 0))]
def c29r3 : List AOper := [
 oM 13 5,
 oP 2 (.mov (.c (.full []))),
 oM 3 13]
def c29r4 : List AOper := [
 oM 14 4,
 oP 15 (.call 70 [(.t 14), bT]),
 oM 2 15,
 oP 3 (.mov (nI 0))]
def f29 : FRow := ⟨(.seq (.reg 0 c29r0) (.seq (.reg 0 c29r1) (.seq (.seq (.reg 0 c29r2) (.cond (.t 12) (.seq (.reg 0 c29r3) .ret) .skip)) (.seq (.reg 0 c29r4) .ret)))), [.tmp 2, .tmp 3], 16⟩
theorem okf29 : f29.Ok Try.prog 29 := ⟨_, _, Try.func29, rfl, by kernel_rfl, by kernel_rfl, by kernel_rfl⟩

def c31r0 : List AOper := [
 oP 1 (.boxS (.t 0)),
 oP 2 (.mov (.c (.full []))),
 oP 3 (.mov (nI 0))]
def c31r1 : List AOper := [
 oP 7 (.load 3 true (.t 1)),
 oP 8 (.call 58 [(.t 7), (.c (.full []))]),
 oM 6 8,
 oP 9 (.ext (.t 6) 0),
 oP 10 (.ext (.t 6) 1),
 oM 4 9,
 oM 5 10]
def c31r2 : List AOper := [
 oM 11 5,
 oP 12 (.cmp .neq (.t 11) (nI 0))]
def c31r3 : List AOper := [
 oM 13 5,
 oP 2 (.mov (.c (.full []))),
 oM 3 13]
def c31r4 : List AOper := [
 oM 14 4,
 oP 15 (.call 70 [(.t 14), bF]),
 oM 2 15,
 oP 3 (.mov (nI 0))]
def f31 : FRow := ⟨(.seq (.reg 0 c31r0) (.seq (.reg 0 c31r1) (.seq (.seq (.reg 0 c31r2) (.cond (.t 12) (.seq (.reg 0 c31r3) .ret) .skip)) (.seq (.reg 0 c31r4) .ret)))), [.tmp 2, .tmp 3], 16⟩
theorem okf31 : f31.Ok Try.prog 31 := ⟨_, _, Try.func31, rfl, by kernel_rfl, by kernel_rfl, by kernel_rfl⟩

def c33r0 : List AOper := [
 oP 3 (.boxS (.t 0)),
 oP 6 (.mov (nI 0))]
def c33r1 : List AOper := [
 oP 10 (.load 3 true (.t 3)),
 oP 11 (.call 20 [(.t 10)]),
 oM 7 11]
def c33r2 : List AOper := [
 oM 13 7,
 oP 14 (.cmp .neq (.t 13) (nI 0)),
 oM 12 14]
def c33r3 : List AOper := [
 oM 15 7,
 oM 6 15]
def c33r4 : List AOper := [
 oM 17 2,
 oN 18 17,
 oF 19 1 3,
 oL 20 19,
 oN 21 20,
 oP 22 (.cmp .neq (.t 18) (.t 21)),
 oM 16 22]
def c33r5 : List AOper := [
 oP 6 (.mov (nI 15))]
def c33r6 : List AOper := [
 oM 23 2,
 oN 24 23,
 oP 25 (.mov (nI 0))]
def c33r7 : List AOper := [
 oP 26 (.cmp .lss (.t 25) (.t 24))]
def c33r8 : List AOper := [
 oM 27 25,
 oI 28 23 25,
 oL 29 28,
 oM 8 27,
 oM 9 29]
def c33r9 : List AOper := [
 oM 30 9,
 oP 31 (.cmp .neq (.t 30) (nI (-1))),
 oM 32 31,
 oG 33 32 true (.fieldAddr 2 (.t 3)),
 oG 34 32 true (.load 1 false (.t 33)),
 oH 35 32 true 8,
 oG 36 32 true (.idxA 1 (.t 34) (.t 35)),
 oG 37 32 true (.load 1 false (.t 36)),
 oH 38 32 true 37,
 oG 39 38 false (.fieldAddr 0 (.t 3)),
 oG 40 38 false (.load 1 false (.t 39)),
 oH 41 38 false 8,
 oG 42 38 false (.idxA 1 (.t 40) (.t 41)),
 oG 43 38 false (.load 1 false (.t 42)),
 oH 44 38 false 1,
 oG 45 38 false (.eql false [.bool] true (.t 43) (.t 44)),
 oG 46 32 true (.pick (.t 38) bT (.t 45)),
 oH 47 32 true 46,
 oG 48 47 false (.fieldAddr 1 (.t 3)),
 oG 49 47 false (.load 1 false (.t 48)),
 oH 50 47 false 8,
 oG 51 47 false (.idxA 1 (.t 49) (.t 50)),
 oG 52 47 false (.load 1 false (.t 51)),
 oH 53 47 false 9,
 oG 54 47 false (.call 69 [(.t 52), (.t 53)]),
 oG 55 47 false (.not (.t 54)),
 oG 56 32 true (.pick (.t 47) bT (.t 55)),
 oP 57 (.pick (.t 32) (.t 56) bF)]
def c33r10 : List AOper := [
 oP 6 (.mov (nI 16))]
def c33r11 : List AOper := [
 oP 58 (.arith .add (.t 25) (nI 1)),
 oM 25 58]
def c33l12 : ACode := (.seq (.reg 0 c33r7) (.seq (.cond (.t 26) .skip (.exit 1)) (.seq (.block 2 (.seq (.reg 0 c33r8) (.seq (.reg 0 c33r9) (.cond (.t 57) (.seq (.reg 0 c33r10) .ret) .skip)))) (.reg 0 c33r11))))
def c33l12m : List Bool := [fF,tT,fF,tT,fF,fF,fF,fF,fF,fF,fF,fF,fF,fF,fF,fF,fF,fF,fF,fF,fF,fF,fF,tT,tT,tT,fF,fF,fF,fF,fF,fF,fF,fF,fF,fF,fF,fF,fF,fF,fF,fF,fF,fF,fF,fF,fF,fF,fF,fF,fF,fF,fF,fF,fF,fF,fF,fF,fF]
def c33r13 : List AOper := [
 oP 6 (.mov (nI 0))]
def f33 : FRow := ⟨(.seq (.reg 0 c33r0) (.seq (.reg 0 c33r1) (.seq (.block 0 (.seq (.reg 0 c33r2) (.cond (.t 12) (.seq (.reg 0 c33r3) .ret) (.seq (.reg 0 c33r4) (.cond (.t 16) (.seq (.reg 0 c33r5) .ret) .skip))))) (.seq (.seq (.reg 0 c33r6) (.block 1 (.loop c33l12m [] c33l12))) (.seq (.reg 0 c33r13) .ret))))), [.tmp 6], 59⟩
theorem okf33 : f33.Ok Try.prog 33 := ⟨_, _, Try.func33, rfl, by kernel_rfl, by kernel_rfl, by kernel_rfl⟩

def c35r0 : List AOper := [
 oP 4 (.boxS (.t 0)),
 oP 8 (.mov (.c (.full []))),
 oP 9 (.mov bF),
 oP 10 (.mov (nI 0))]
def c35r1 : List AOper := [
 oP 17 (.load 3 true (.t 4)),
 oM 18 1,
 oP 19 (.call 33 [(.t 17), bT, (.t 18)]),
 oM 11 19]
def c35r2 : List AOper := [
 oM 20 11,
 oP 21 (.cmp .neq (.t 20) (nI 0))]
def c35r3 : List AOper := [
 oM 22 11,
 oP 8 (.mov (.c (.full []))),
 oP 9 (.mov bF),
 oM 10 22]
def c35r4 : List AOper := [
 oP 23 (.load 3 true (.t 4)),
 oM 24 2,
 oP 25 (.call 33 [(.t 23), bF, (.t 24)]),
 oM 12 25]
def c35r5 : List AOper := [
 oM 26 12,
 oP 27 (.cmp .neq (.t 26) (nI 0))]
def c35r6 : List AOper := [
 oM 28 12,
 oP 8 (.mov (.c (.full []))),
 oP 9 (.mov bF),
 oM 10 28]
def c35r7 : List AOper := [
 oP 30 (.load 3 true (.t 4)),
 oM 31 3,
 oP 32 (.buildSl 1 1 (.int .i64 0) [(0, (.t 31))]),
 oP 33 (.call 58 [(.t 30), (.t 32)]),
 oM 29 33,
 oP 34 (.ext (.t 29) 0),
 oP 35 (.ext (.t 29) 1),
 oM 13 34,
 oM 14 35]
def c35r8 : List AOper := [
 oM 36 14,
 oP 37 (.cmp .neq (.t 36) (nI 0))]
def c35r9 : List AOper := [
 oM 38 14,
 oP 8 (.mov (.c (.full []))),
 oP 9 (.mov bF),
 oM 10 38]
def c35r10 : List AOper := [
 oP 15 (.mov (.c (.full [])))]
def c35r11 : List AOper := [
 oM 39 3,
 oM 16 39]
def c35r12 : List AOper := [
 oM 40 16,
 oP 41 (.cmp .neq (.t 40) (nI (-1))),
 oM 42 41,
 oH 43 42 true 15,
 oH 44 42 true 16,
 oG 45 42 true (.call 69 [(.t 43), (.t 44)]),
 oG 46 42 true (.not (.t 45)),
 oP 47 (.pick (.t 42) (.t 46) bF)]
def c35r13 : List AOper := [
 oM 48 15,
 oM 49 16,
 oP 50 (.buildSl 1 1 (.int .i64 0) [(0, (.t 49))]),
 oP 51 (.append 1 8 (.t 48) (.t 50)),
 oM 15 51]
def c35r14 : List AOper := [
 oF 52 0 4,
 oL 53 52,
 oM 54 16,
 oI 55 53 54,
 oL 56 55]
def c35r15 : List AOper := [
 oM 57 1,
 oM 58 16,
 oI 59 57 58,
 oL 60 59,
 oM 16 60]
def c35r16 : List AOper := [
 oM 61 2,
 oM 62 16,
 oI 63 61 62,
 oL 64 63,
 oM 16 64]
def c35l17 : ACode := (.seq (.seq (.reg 0 c35r12) (.cond (.t 47) .skip (.exit 0))) (.block 1 (.seq (.reg 1 c35r13) (.seq (.reg 0 c35r14) (.cond (.t 56) (.reg 0 c35r15) (.reg 0 c35r16))))))
def c35l17m : List Bool := [fF,tT,tT,fF,tT,fF,fF,fF,fF,fF,fF,fF,fF,fF,fF,tT,tT,fF,fF,fF,fF,fF,fF,fF,fF,fF,fF,fF,fF,fF,fF,fF,fF,fF,fF,fF,fF,fF,fF,fF,fF,fF,fF,fF,fF,fF,fF,fF,fF,fF,fF,fF,fF,fF,fF,fF,fF,fF,fF,fF,fF,fF,fF,fF,fF,fF,fF,fF,fF,fF,fF,fF,fF,fF,fF,fF]
def c35r18 : List AOper := [
 oM 65 15,
 oF 66 2 4,
 oL 67 66,
 oM 68 15,
 oM 69 15,
 oN 70 69,
 oP 71 (.arith .sub (.t 70) (nI 1)),
 oI 72 68 71,
 oL 73 72,
 oI 74 67 73,
 oL 75 74,
 oM 8 65,
 oM 9 75,
 oP 10 (.mov (nI 0))]
def f35 : FRow := ⟨(.seq (.reg 0 c35r0) (.seq (.seq (.reg 0 c35r1) (.seq (.reg 0 c35r2) (.cond (.t 21) (.seq (.reg 0 c35r3) .ret) .skip))) (.seq (.seq (.reg 0 c35r4) (.seq (.reg 0 c35r5) (.cond (.t 27) (.seq (.reg 0 c35r6) .ret) .skip))) (.seq (.seq (.reg 0 c35r7) (.seq (.reg 0 c35r8) (.cond (.t 37) (.seq (.reg 0 c35r9) .ret) .skip))) (.seq (.reg 0 c35r10) (.seq (.reg 0 c35r11) (.seq (.block 0 (.loop c35l17m [(15, none, 0)] c35l17)) (.seq (.reg 0 c35r18) .ret)))))))), [.tmp 8, .tmp 9, .tmp 10], 76⟩
theorem okf35 : f35.Ok Try.prog 35 := ⟨_, _, Try.func35, rfl, by kernel_rfl, by kernel_rfl, by kernel_rfl⟩

def c37r0 : List AOper := [
 oP 3 (.boxS (.t 0)),
 oP 6 (.mov bF),
 oP 7 (.mov (nI 0))]
def c37r1 : List AOper := [
 oP 14 (.loadO 3 true (.t 3)),
 oM 15 1,
 oP 16 (.call 33 [(.t 14), bT, (.t 15)]),
 oM 8 16]
def c37r2 : List AOper := [
 oM 17 8,
 oP 18 (.cmp .neq (.t 17) (nI 0))]
def c37r3 : List AOper := [
 oM 19 8,
 oP 6 (.mov bF),
 oM 7 19]
def c37r4 : List AOper := [
 oF 20 0 3,
 oP 21 (.loadO 1 false (.t 20)),
 oF 22 2 3,
 oP 23 (.loadO 1 false (.t 22)),
 oF 24 1 3,
 oP 25 (.loadO 1 false (.t 24)),
 oP 26 (.callN 1 73 [(.t 25)]),
 oP 27 (.build [(.full []), (.full []), (.full [])] [(0, 1, (.t 21)), (2, 1, (.t 23)), (1, 1, (.t 26))]),
 oP 9 (.alloc [(.full []), (.full []), (.full [])]),
 ⟨none, none, .store 3 (.t 9) (.t 27)⟩]
def c37r5 : List AOper := [
 oM 28 1,
 oN 29 28,
 oP 30 (.mov (nI 0))]
def c37r6 : List AOper := [
 oP 31 (.cmp .lss (.t 30) (.t 29))]
def c37r7 : List AOper := [
 oM 32 30,
 oI 33 28 30,
 oL 34 33,
 oP 11 (.alloc [(.s (.int .i64 0))]),
 oM 10 32,
 ⟨none, none, .store 1 (.t 11) (.t 34)⟩]
def c37r8 : List AOper := [
 oF 35 0 3,
 oP 36 (.loadO 1 false (.t 35)),
 oM 37 10,
 oI 38 36 37,
 oL 39 38]
def c37r9 : List AOper := [
 oF 40 1 9,
 oP 41 (.loadO 1 false (.t 40)),
 oM 42 10,
 oF 43 1 3,
 oP 44 (.loadO 1 false (.t 43)),
 oM 45 10,
 oI 46 44 45,
 oL 47 46,
 oP 48 (.callN 1 75 [(.t 47)]),
 oP 49 (.mkfn 76 [] [(.t 11)]),
 oP 50 (.callF 74 (.t 48) [(.t 49)]),
 oI 51 41 42,
 ⟨none, none, .storeR 1 (.t 51) (.t 50)⟩]
def c37r10 : List AOper := [
 oP 52 (.arith .add (.t 30) (nI 1)),
 oM 30 52]
def c37l11 : ACode := (.seq (.reg 0 c37r6) (.seq (.cond (.t 31) .skip (.exit 0)) (.seq (.block 1 (.seq (.reg 1 c37r7) (.seq (.reg 0 c37r8) (.cond (.t 39) (.reg 1 c37r9) .skip)))) (.reg 0 c37r10))))
def c37l11m : List Bool := [fF,fF,tT,tT,fF,fF,fF,fF,fF,tT,fF,fF,fF,fF,fF,fF,fF,fF,fF,fF,fF,fF,fF,fF,fF,fF,fF,fF,tT,tT,tT,fF,fF,fF,fF,fF,fF,fF,fF,fF,fF,fF,fF,fF,fF,fF,fF,fF,fF,fF,fF,fF,fF,fF,fF,fF,fF,fF,fF,fF,fF,fF,fF,fF,fF,fF,fF,fF,fF,fF]
def c37r12 : List AOper := [
 oP 54 (.loadO 3 true (.t 9)),
 oM 55 2,
 oP 56 (.buildSl 1 1 (.int .i64 0) [(0, (.t 55))]),
 oP 57 (.call 58 [(.t 54), (.t 56)]),
 oM 53 57,
 oP 58 (.ext (.t 53) 0),
 oP 59 (.ext (.t 53) 1),
 oM 12 58,
 oM 13 59]
def c37r13 : List AOper := [
 oM 60 13,
 oP 61 (.cmp .neq (.t 60) (nI 0))]
def c37r14 : List AOper := [
 oM 62 13,
 oP 6 (.mov bF),
 oM 7 62]
def c37r15 : List AOper := [
 oM 63 12,
 oM 64 2,
 oP 65 (.nilck (.t 63)),
 oF 66 3 65,
 oP 67 (.idxArrA 14 1 (.t 66) (.t 64)),
 oP 68 (.loadO 1 false (.t 67)),
 oP 69 (.cmp .geq (.t 68) (nI 0)),
 oM 6 69,
 oP 7 (.mov (nI 0))]
def f37 : FRow := ⟨(.seq (.reg 0 c37r0) (.seq (.seq (.reg 0 c37r1) (.seq (.reg 0 c37r2) (.cond (.t 18) (.seq (.reg 0 c37r3) .ret) .skip))) (.seq (.reg 2 c37r4) (.seq (.seq (.reg 0 c37r5) (.block 0 (.loop c37l11m [] c37l11))) (.seq (.zap 9 1 (.reg 0 c37r12)) (.seq (.seq (.reg 0 c37r13) (.cond (.t 61) (.seq (.reg 0 c37r14) .ret) .skip)) (.seq (.reg 0 c37r15) .ret))))))), [.tmp 6, .tmp 7], 70⟩
theorem okf37 : f37.Ok Try.prog 37 := ⟨_, _, Try.func37, rfl, by kernel_rfl, by kernel_rfl, by kernel_rfl⟩

def c39r0 : List AOper := [
 oP 2 (.boxS (.t 0)),
 oP 4 (.mov (nI 0)),
 oP 5 (.mov (nI 0))]
def c39r1 : List AOper := [
 oP 9 (.load 3 true (.t 2)),
 oM 10 1,
 oP 11 (.buildSl 1 1 (.int .i64 0) [(0, (.t 10))]),
 oP 12 (.call 58 [(.t 9), (.t 11)]),
 oM 8 12,
 oP 13 (.ext (.t 8) 0),
 oP 14 (.ext (.t 8) 1),
 oM 6 13,
 oM 7 14]
def c39r2 : List AOper := [
 oM 16 7,
 oP 17 (.cmp .neq (.t 16) (nI 0)),
 oM 15 17]
def c39r3 : List AOper := [
 oM 18 7,
 oP 4 (.mov (nI 0)),
 oM 5 18]
def c39r4 : List AOper := [
 oM 20 6,
 oM 21 1,
 oP 22 (.nilck (.t 20)),
 oF 23 3 22,
 oP 24 (.idxArrA 14 1 (.t 23) (.t 21)),
 oL 25 24,
 oP 26 (.cmp .lss (.t 25) (nI 0)),
 oM 19 26]
def c39r5 : List AOper := [
 oP 4 (.mov (nI 0)),
 oP 5 (.mov (nI 19))]
def c39r6 : List AOper := [
 oM 27 6,
 oM 28 1,
 oP 29 (.nilck (.t 27)),
 oF 30 3 29,
 oP 31 (.idxArrA 14 1 (.t 30) (.t 28)),
 oL 32 31,
 oM 4 32,
 oP 5 (.mov (nI 0))]
def f39 : FRow := ⟨(.seq (.reg 0 c39r0) (.seq (.reg 0 c39r1) (.seq (.block 0 (.seq (.reg 0 c39r2) (.cond (.t 15) (.seq (.reg 0 c39r3) .ret) (.seq (.reg 0 c39r4) (.cond (.t 19) (.seq (.reg 0 c39r5) .ret) .skip))))) (.seq (.reg 0 c39r6) .ret)))), [.tmp 4, .tmp 5], 33⟩
theorem okf39 : f39.Ok Try.prog 39 := ⟨_, _, Try.func39, rfl, by kernel_rfl, by kernel_rfl, by kernel_rfl⟩

def c41r0 : List AOper := [
 oP 1 (.boxS (.t 0)),
 oP 2 (.mov bF)]
def c41r1 : List AOper := [
 oP 3 (.load 3 true (.t 1)),
 oP 4 (.call 16 [(.t 3)]),
 oM 5 4,
 oG 6 5 false (.fieldAddr 1 (.t 1)),
 oG 7 5 false (.load 1 false (.t 6)),
 oG 8 5 false (.len false (.t 7)),
 oG 9 5 false (.cmp .gtr (.t 8) (nI 11)),
 oH 10 5 false 9,
 oG 11 10 true (.load 3 true (.t 1)),
 oG 12 10 true (.call 21 [(.t 11)]),
 oG 13 10 true (.cmp .eql (.t 12) (nI 0)),
 oG 14 5 false (.pick (.t 10) (.t 13) bF),
 oP 15 (.pick (.t 5) bT (.t 14)),
 oM 2 15]
def f41 : FRow := ⟨(.seq (.reg 0 c41r0) (.seq (.reg 0 c41r1) .ret)), [.tmp 2], 16⟩
theorem okf41 : f41.Ok Try.prog 41 := ⟨_, _, Try.func41, rfl, by kernel_rfl, by kernel_rfl, by kernel_rfl⟩

def c42r0 : List AOper := [
 oP 2 (.boxS (.t 0)),
 oP 4 (.mov (.c (.full []))),
 oP 5 (.mov (nI 0))]
def c42r1 : List AOper := [
 oP 11 (.load 3 true (.t 2)),
 oM 12 1,
 oP 13 (.buildSl 1 1 (.int .i64 0) [(0, (.t 12))]),
 oP 14 (.call 58 [(.t 11), (.t 13)]),
 oM 10 14,
 oP 15 (.ext (.t 10) 0),
 oP 16 (.ext (.t 10) 1),
 oM 6 15,
 oM 7 16]
def c42r2 : List AOper := [
 oM 18 7,
 oP 19 (.cmp .neq (.t 18) (nI 0)),
 oM 17 19]
def c42r3 : List AOper := [
 oM 20 7,
 oP 4 (.mov (.c (.full []))),
 oM 5 20]
def c42r4 : List AOper := [
 oM 22 6,
 oM 23 1,
 oP 24 (.nilck (.t 22)),
 oF 25 3 24,
 oP 26 (.idxArrA 14 1 (.t 25) (.t 23)),
 oL 27 26,
 oP 28 (.cmp .geq (.t 27) (nI 0)),
 oM 21 28]
def c42r5 : List AOper := [
 oP 4 (.mov (.c (.full []))),
 oP 5 (.mov (nI 5))]
def c42r6 : List AOper := [
 oM 30 6,
 oM 31 1,
 oP 32 (.call 78 [(.t 30), (.t 31)]),
 oM 29 32,
 oP 33 (.ext (.t 29) 0),
 oP 34 (.ext (.t 29) 1),
 oM 8 33,
 oM 9 34]
def c42r7 : List AOper := [
 oM 35 9,
 oP 36 (.not (.t 35))]
def c42r8 : List AOper := [
 oP 4 (.mov (.c (.full []))),
 oP 5 (.mov (nI 19))]
def c42r9 : List AOper := [
 oM 37 8,
 oM 4 37,
 oP 5 (.mov (nI 0))]
def f42 : FRow := ⟨(.seq (.reg 0 c42r0) (.seq (.reg 0 c42r1) (.seq (.block 0 (.seq (.reg 0 c42r2) (.cond (.t 17) (.seq (.reg 0 c42r3) .ret) (.seq (.reg 0 c42r4) (.cond (.t 21) (.seq (.reg 0 c42r5) .ret) .skip))))) (.seq (.reg 0 c42r6) (.seq (.seq (.reg 0 c42r7) (.cond (.t 36) (.seq (.reg 0 c42r8) .ret) .skip)) (.seq (.reg 0 c42r9) .ret)))))), [.tmp 4, .tmp 5], 38⟩
theorem okf42 : f42.Ok Try.prog 42 := ⟨_, _, Try.func42, rfl, by kernel_rfl, by kernel_rfl, by kernel_rfl⟩

def c44r0 : List AOper := [
 oP 3 (.boxS (.t 0)),
 oP 6 (.mov (nI 0))]
def c44r1 : List AOper := [
 oP 12 (.load 3 true (.t 3)),
 oM 13 1,
 oP 14 (.buildSl 1 1 (.int .i64 0) [(0, (.t 13))]),
 oP 15 (.call 58 [(.t 12), (.t 14)]),
 oM 11 15,
 oP 16 (.ext (.t 11) 0),
 oP 17 (.ext (.t 11) 1),
 oM 7 16,
 oM 8 17]
def c44r2 : List AOper := [
 oM 18 8,
 oP 19 (.cmp .neq (.t 18) (nI 0))]
def c44r3 : List AOper := [
 oM 20 8,
 oM 6 20]
def c44r4 : List AOper := [
 oM 22 7,
 oM 23 2,
 oP 24 (.call 79 [(.t 22), (.t 23)]),
 oM 21 24,
 oP 25 (.ext (.t 21) 0),
 oP 26 (.ext (.t 21) 1),
 oP 9 (.alloc [(.full []), (.full []), (.full [])]),
 ⟨none, none, .store 3 (.t 9) (.t 25)⟩,
 oM 10 26]
def c44r5 : List AOper := [
 oM 28 10,
 oP 29 (.not (.t 28)),
 oM 27 29]
def c44r6 : List AOper := [
 oP 6 (.mov (nI 16))]
def c44r7 : List AOper := [
 oP 31 (.load 3 true (.t 9)),
 oP 32 (.call 80 [(.t 31)]),
 oM 33 1,
 oP 34 (.nilck (.t 32)),
 oF 35 3 34,
 oP 36 (.idxArrA 14 1 (.t 35) (.t 33)),
 oL 37 36,
 oP 38 (.cmp .lss (.t 37) (nI 0)),
 oM 30 38]
def c44r8 : List AOper := [
 oP 6 (.mov (nI 19))]
def c44r9 : List AOper := [
 oP 6 (.mov (nI 0))]
def f44 : FRow := ⟨(.seq (.reg 0 c44r0) (.seq (.reg 0 c44r1) (.seq (.seq (.reg 0 c44r2) (.cond (.t 19) (.seq (.reg 0 c44r3) .ret) .skip)) (.seq (.reg 1 c44r4) (.seq (.block 0 (.seq (.reg 0 c44r5) (.cond (.t 27) (.seq (.reg 0 c44r6) .ret) (.seq (.reg 0 c44r7) (.cond (.t 30) (.seq (.reg 0 c44r8) .ret) .skip))))) (.seq (.reg 0 c44r9) .ret)))))), [.tmp 6], 39⟩
theorem okf44 : f44.Ok Try.prog 44 := ⟨_, _, Try.func44, rfl, by kernel_rfl, by kernel_rfl, by kernel_rfl⟩

def c45r0 : List AOper := [
 oP 3 (.boxS (.t 0)),
 oP 6 (.mov (nI 0))]
def c45r1 : List AOper := [
 oP 7 (.load 3 true (.t 3)),
 oP 8 (.call 21 [(.t 7)]),
 oP 9 (.cmp .neq (.t 8) (nI 0))]
def c45r2 : List AOper := [
 oP 10 (.load 3 true (.t 3)),
 oP 11 (.call 21 [(.t 10)]),
 oM 6 11]
def c45r3 : List AOper := [
 oM 12 1,
 oP 13 (.cmp .lss (.t 12) (nI 0)),
 oM 14 13,
 oH 15 14 false 1,
 oG 16 14 false (.fieldAddr 1 (.t 3)),
 oG 17 14 false (.load 1 false (.t 16)),
 oG 18 14 false (.len false (.t 17)),
 oG 19 14 false (.cmp .geq (.t 15) (.t 18)),
 oP 20 (.pick (.t 14) bT (.t 19))]
def c45r4 : List AOper := [
 oP 6 (.mov (nI 2))]
def c45r5 : List AOper := [
 oP 21 (.load 3 true (.t 3)),
 oM 22 2,
 oP 23 (.call 81 [(.t 21), (.t 22)]),
 oP 24 (.not (.t 23))]
def c45r6 : List AOper := [
 oP 6 (.mov (nI 16))]
def c45r7 : List AOper := [
 oP 25 (.load 3 true (.t 3)),
 oM 26 2,
 oP 27 (.call 54 [(.t 25), (.t 26)]),
 oP 28 (.call 59 [(.t 27)]),
 oM 29 1,
 oI 30 28 29,
 oL 31 30,
 oP 32 (.cmp .lss (.t 31) (nI 0))]
def c45r8 : List AOper := [
 oP 6 (.mov (nI 19))]
def c45r9 : List AOper := [
 oP 6 (.mov (nI 0))]
def f45 : FRow := ⟨(.seq (.reg 0 c45r0) (.seq (.seq (.reg 0 c45r1) (.cond (.t 9) (.seq (.reg 0 c45r2) .ret) .skip)) (.seq (.seq (.reg 0 c45r3) (.cond (.t 20) (.seq (.reg 0 c45r4) .ret) .skip)) (.seq (.seq (.reg 0 c45r5) (.cond (.t 24) (.seq (.reg 0 c45r6) .ret) .skip)) (.seq (.seq (.reg 0 c45r7) (.cond (.t 32) (.seq (.reg 0 c45r8) .ret) .skip)) (.seq (.reg 0 c45r9) .ret)))))), [.tmp 6], 33⟩
theorem okf45 : f45.Ok Try.prog 45 := ⟨_, _, Try.func45, rfl, by kernel_rfl, by kernel_rfl, by kernel_rfl⟩

def c47r0 : List AOper := [
 oP 1 (.boxS (.t 0)),
 oP 2 (.mov bF)]
def c47r1 : List AOper := [
 oP 3 (.load 3 true (.t 1)),
 oP 4 (.call 16 [(.t 3)]),
 oP 5 (.not (.t 4)),
 oM 6 5,
 oG 7 6 true (.load 3 true (.t 1)),
 oG 8 6 true (.call 21 [(.t 7)]),
 oG 9 6 true (.cmp .eql (.t 8) (nI 0)),
 oP 10 (.pick (.t 6) (.t 9) bF),
 oM 2 10]
def f47 : FRow := ⟨(.seq (.reg 0 c47r0) (.seq (.reg 0 c47r1) .ret)), [.tmp 2], 11⟩
theorem okf47 : f47.Ok Try.prog 47 := ⟨_, _, Try.func47, rfl, by kernel_rfl, by kernel_rfl, by kernel_rfl⟩


end Go.Proofs.Ytglmjdpmpgphkaa.Sk

/- The code of functions in the value semantics, and that it stands for theirs. -/
namespace Go.Proofs.Ytglmjdpmpgphkaa.Sk
open Go Go.E

def c49r0 : List AOper := [
 oP 4 (.mov bF)]
def c49r1 : List AOper := [
 oP 5 (.mov (nI 0))]
def c49r2 : List AOper := [
 oM 6 5,
 oM 7 0,
 oN 8 7,
 oP 9 (.cmp .lss (.t 6) (.t 8))]
def c49r3 : List AOper := [
 oM 12 0,
 oM 13 5,
 oI 14 12 13,
 oL 15 14,
 oM 16 1,
 oP 17 (.cmp .eql (.t 15) (.t 16))]
def c49r4 : List AOper := [
 oP 4 (.mov bT)]
def c49r5 : List AOper := [
 oM 10 5,
 oP 11 (.arith .add (.t 10) (nI 1)),
 oM 5 11]
def c49l6 : ACode := (.seq (.seq (.reg 0 c49r2) (.cond (.t 9) .skip (.exit 0))) (.seq (.block 1 (.seq (.reg 0 c49r3) (.cond (.t 17) (.seq (.reg 0 c49r4) .ret) .skip))) (.reg 0 c49r5)))
def c49l6m : List Bool := [tT,tT,fF,fF,fF,tT,fF,fF,fF,fF,fF,fF,fF,fF,fF,fF,fF,fF]
def c49r7 : List AOper := [
 oP 4 (.mov bF)]
def f49 : FRow := ⟨(.seq (.reg 0 c49r0) (.seq (.seq (.reg 0 c49r1) (.block 0 (.loop c49l6m [] c49l6))) (.seq (.reg 0 c49r7) .ret))), [.tmp 4], 18⟩
theorem okf49 : f49.Ok Try.prog 49 := ⟨_, _, Try.func49, rfl, by kernel_rfl, by kernel_rfl, by kernel_rfl⟩

def c53r0 : List AOper := [
 oP 1 (.boxS (.t 0)),
 oP 2 (.mov (.c (.full [])))]
def c53r1 : List AOper := [
 oP 6 (.load 3 true (.t 1)),
 oP 7 (.call 59 [(.t 6)]),
 oM 3 7]
def c53r2 : List AOper := [
 oP 4 (.mov (.c (.full [])))]
def c53r3 : List AOper := [
 oP 5 (.mov (nI 0))]
def c53r4 : List AOper := [
 oM 8 5,
 oM 9 3,
 oN 10 9,
 oP 11 (.cmp .lss (.t 8) (.t 10))]
def c53r5 : List AOper := [
 oM 14 3,
 oM 15 5,
 oI 16 14 15,
 oL 17 16,
 oP 18 (.cmp .lss (.t 17) (nI 0))]
def c53r6 : List AOper := [
 oM 19 4,
 oM 20 5,
 oP 21 (.buildSl 1 1 (.int .i64 0) [(0, (.t 20))]),
 oP 22 (.append 1 8 (.t 19) (.t 21)),
 oM 4 22]
def c53r7 : List AOper := [
 oM 12 5,
 oP 13 (.arith .add (.t 12) (nI 1)),
 oM 5 13]
def c53l8 : ACode := (.seq (.seq (.reg 0 c53r4) (.cond (.t 11) .skip (.exit 0))) (.seq (.block 1 (.seq (.reg 0 c53r5) (.cond (.t 18) (.reg 1 c53r6) .skip))) (.reg 0 c53r7)))
def c53l8m : List Bool := [fF,fF,fF,tT,tT,tT,fF,fF,fF,fF,fF,fF,fF,fF,fF,fF,fF,fF,fF,fF,fF,fF,fF,fF]
def c53r9 : List AOper := [
 oM 23 4,
 oM 2 23]
def f53 : FRow := ⟨(.seq (.reg 0 c53r0) (.seq (.reg 0 c53r1) (.seq (.reg 0 c53r2) (.seq (.seq (.reg 0 c53r3) (.block 0 (.loop c53l8m [(4, none, 0)] c53l8))) (.seq (.reg 0 c53r9) .ret))))), [.tmp 2], 24⟩
theorem okf53 : f53.Ok Try.prog 53 := ⟨_, _, Try.func53, rfl, by kernel_rfl, by kernel_rfl, by kernel_rfl⟩

def c54r0 : List AOper := [
 oP 2 (.boxS (.t 0)),
 oP 4 (.alloc [(.full []), (.full []), (.full [])])]
def c54r1 : List AOper := [
 oF 11 0 2,
 oL 12 11,
 oF 13 2 2,
 oL 14 13,
 oP 15 (.build [(.full []), (.full []), (.full [])] [(0, 1, (.t 12)), (2, 1, (.t 14))]),
 oP 5 (.alloc [(.full []), (.full []), (.full [])]),
 ⟨none, none, .store 3 (.t 5) (.t 15)⟩]
def c54r2 : List AOper := [
 oP 6 (.mov (nI 0))]
def c54r3 : List AOper := [
 oM 16 6,
 oF 17 1 2,
 oL 18 17,
 oN 19 18,
 oP 20 (.cmp .lss (.t 16) (.t 19))]
def c54r4 : List AOper := [
 oP 7 (.mov (.c (.full [])))]
def c54r5 : List AOper := [
 oP 8 (.mov (nI 0))]
def c54r6 : List AOper := [
 oM 23 8,
 oF 24 1 2,
 oL 25 24,
 oM 26 6,
 oI 27 25 26,
 oL 28 27,
 oN 29 28,
 oP 30 (.cmp .lss (.t 23) (.t 29))]
def c54r7 : List AOper := [
 oP 9 (.mov bF)]
def c54r8 : List AOper := [
 oP 10 (.mov (nI 0))]
def c54r9 : List AOper := [
 oM 33 10,
 oM 34 1,
 oN 35 34,
 oP 36 (.cmp .lss (.t 33) (.t 35))]
def c54r10 : List AOper := [
 oM 39 9,
 oM 40 39,
 oH 41 40 false 1,
 oH 42 40 false 10,
 oG 43 40 false (.idxA 2 (.t 41) (.t 42)),
 oG 44 40 false (.load 2 true (.t 43)),
 oH 45 40 false 6,
 oG 46 40 false (.fieldAddr 1 (.t 2)),
 oG 47 40 false (.load 1 false (.t 46)),
 oH 48 40 false 6,
 oG 49 40 false (.idxA 1 (.t 47) (.t 48)),
 oG 50 40 false (.load 1 false (.t 49)),
 oH 51 40 false 8,
 oG 52 40 false (.idxA 1 (.t 50) (.t 51)),
 oG 53 40 false (.load 1 false (.t 52)),
 oG 54 40 false (.build [(.s (.int .i64 0)), (.s (.int .i64 0))] [(0, 1, (.t 45)), (1, 1, (.t 53))]),
 oG 55 40 false (.eql true [(.int .i64), (.int .i64)] false (.t 44) (.t 54)),
 oP 56 (.pick (.t 40) bT (.t 55)),
 oM 9 56]
def c54r11 : List AOper := [
 oM 37 10,
 oP 38 (.arith .add (.t 37) (nI 1)),
 oM 10 38]
def c54l12 : ACode := (.seq (.seq (.reg 0 c54r9) (.cond (.t 36) .skip (.exit 4))) (.seq (.block 5 (.reg 0 c54r10)) (.reg 0 c54r11)))
def c54l12m : List Bool := [fF,tT,tT,fF,tT,tT,tT,tT,tT,tT,tT,fF,fF,fF,fF,fF,fF,fF,fF,fF,fF,fF,fF,fF,fF,fF,fF,fF,fF,fF,fF,fF,fF,fF,fF,fF,fF,fF,fF,fF,fF,fF,fF,fF,fF,fF,fF,fF,fF,fF,fF,fF,fF,fF,fF,fF,fF,fF,fF,fF,fF,fF,fF,fF,fF,fF,fF,fF,fF,fF,fF,fF,fF,fF,fF,fF,fF]
def c54r13 : List AOper := [
 oM 57 9,
 oP 58 (.not (.t 57))]
def c54r14 : List AOper := [
 oM 59 7,
 oF 60 1 2,
 oL 61 60,
 oM 62 6,
 oI 63 61 62,
 oL 64 63,
 oM 65 8,
 oI 66 64 65,
 oL 67 66,
 oP 68 (.buildSl 1 1 (.int .i64 0) [(0, (.t 67))]),
 oP 69 (.append 1 8 (.t 59) (.t 68)),
 oM 7 69]
def c54r15 : List AOper := [
 oM 31 8,
 oP 32 (.arith .add (.t 31) (nI 1)),
 oM 8 32]
def c54l16 : ACode := (.seq (.seq (.reg 0 c54r6) (.cond (.t 30) .skip (.exit 2))) (.seq (.block 3 (.seq (.reg 0 c54r7) (.seq (.seq (.reg 0 c54r8) (.block 4 (.loop c54l12m [] c54l12))) (.seq (.reg 0 c54r13) (.cond (.t 58) (.reg 1 c54r14) .skip))))) (.reg 0 c54r15)))
def c54l16m : List Bool := [fF,tT,tT,fF,tT,tT,tT,tT,tT,fF,fF,fF,fF,fF,fF,fF,fF,fF,fF,fF,fF,fF,fF,fF,fF,fF,fF,fF,fF,fF,fF,fF,fF,fF,fF,fF,fF,fF,fF,fF,fF,fF,fF,fF,fF,fF,fF,fF,fF,fF,fF,fF,fF,fF,fF,fF,fF,fF,fF,fF,fF,fF,fF,fF,fF,fF,fF,fF,fF,fF,fF,fF,fF,fF,fF,fF,fF]
def c54r17 : List AOper := [
 oF 70 1 5,
 oL 71 70,
 oP 72 (.frzv (.t 7)),
 oP 73 (.buildSl 1 1 (.slice []) [(0, (.t 72))]),
 oP 74 (.append 1 24 (.t 71) (.t 73)),
 oF 75 1 5,
 ⟨none, none, .store 1 (.t 75) (.t 74)⟩]
def c54r18 : List AOper := [
 oM 21 6,
 oP 22 (.arith .add (.t 21) (nI 1)),
 oM 6 22]
def c54l19 : ACode := (.seq (.seq (.reg 0 c54r3) (.cond (.t 20) .skip (.exit 0))) (.seq (.block 1 (.seq (.reg 0 c54r4) (.seq (.seq (.reg 0 c54r5) (.block 2 (.loop c54l16m [(7, none, 0)] c54l16))) (.reg 1 c54r17)))) (.reg 0 c54r18)))
def c54l19m : List Bool := [fF,tT,tT,fF,tT,tT,tT,fF,fF,fF,fF,fF,fF,fF,fF,fF,fF,fF,fF,fF,fF,fF,fF,fF,fF,fF,fF,fF,fF,fF,fF,fF,fF,fF,fF,fF,fF,fF,fF,fF,fF,fF,fF,fF,fF,fF,fF,fF,fF,fF,fF,fF,fF,fF,fF,fF,fF,fF,fF,fF,fF,fF,fF,fF,fF,fF,fF,fF,fF,fF,fF,fF,fF,fF,fF,fF,fF]
def c54r20 : List AOper := [
 oP 76 (.load 3 true (.t 5)),
 ⟨none, none, .store 3 (.t 4) (.t 76)⟩]
def f54 : FRow := ⟨(.seq (.reg 1 c54r0) (.seq (.reg 1 c54r1) (.seq (.seq (.reg 0 c54r2) (.block 0 (.loop c54l19m [(5, some 1, 0)] c54l19))) (.seq (.reg 0 c54r20) .ret)))), [.cell 4 3 true], 77⟩
theorem okf54 : f54.Ok Try.prog 54 := ⟨_, _, Try.func54, rfl, by kernel_rfl, by kernel_rfl, by kernel_rfl⟩

def c55r0 : List AOper := [
 oP 2 (.alloc [(.full []), (.full []), (.full [])])]
def c55r1 : List AOper := [
 oP 3 (.buildSl 1 6 (.int .i64 0) [(0, (nI 1)), (1, (nI 0)), (2, (nI 0)), (3, (nI 1)), (4, (nI 1)), (5, (nI 1))]),
 oP 4 (.call 56 [(.t 3)]),
 oP 5 (.buildSl 1 6 (.int .i64 0) [(0, (nI 0)), (1, (nI 0)), (2, (nI 0)), (3, (nI 0)), (4, (nI 0)), (5, (nI 1))]),
 oP 6 (.call 56 [(.t 5)]),
 oP 7 (.buildSl 1 2 (.int .i64 0) [(0, (nI 1)), (1, (nI 2))]),
 oP 8 (.call 56 [(.t 7)]),
 oP 9 (.buildSl 1 2 (.int .i64 0) [(0, (nI 3)), (1, (nI 4))]),
 oP 10 (.call 56 [(.t 9)]),
 oP 11 (.buildSl 1 2 (.int .i64 0) [(0, (nI 0)), (1, (nI 5))]),
 oP 12 (.call 56 [(.t 11)]),
 oP 13 (.buildSl 1 1 (.int .i64 0) [(0, (nI 5))]),
 oP 14 (.call 56 [(.t 13)]),
 oP 15 (.frzv (.t 0)),
 oP 16 (.buildSl 1 6 (.slice []) [(0, (.t 8)), (1, (.t 10)), (2, (.t 12)), (3, (.t 14)), (4, (.t 15)), (5, (.c (.full [])))]),
 oP 17 (.call 82 [(.t 4), (.t 6), (.t 16)]),
 ⟨none, none, .store 3 (.t 2) (.t 17)⟩]
def f55 : FRow := ⟨(.seq (.reg 1 c55r0) (.seq (.reg 0 c55r1) .ret)), [.cell 2 3 true], 18⟩
theorem okf55 : f55.Ok Try.prog 55 := ⟨_, _, Try.func55, rfl, by kernel_rfl, by kernel_rfl, by kernel_rfl⟩

def c56r0 : List AOper := [
 oP 2 (.mov (.c (.full [])))]
def c56r1 : List AOper := [
 oM 3 0,
 oM 2 3]
def f56 : FRow := ⟨(.seq (.reg 0 c56r0) (.seq (.reg 0 c56r1) .ret)), [.tmp 2], 4⟩
theorem okf56 : f56.Ok Try.prog 56 := ⟨_, _, Try.func56, rfl, by kernel_rfl, by kernel_rfl, by kernel_rfl⟩

def c57r0 : List AOper := [
 oP 2 (.mov (.c (.full [])))]
def c57r1 : List AOper := [
 oM 3 0,
 oM 2 3]
def f57 : FRow := ⟨(.seq (.reg 0 c57r0) (.seq (.reg 0 c57r1) .ret)), [.tmp 2], 4⟩
theorem okf57 : f57.Ok Try.prog 57 := ⟨_, _, Try.func57, rfl, by kernel_rfl, by kernel_rfl, by kernel_rfl⟩

def c58r0 : List AOper := [
 oP 2 (.boxS (.t 0)),
 oP 4 (.mov (.c (.s .nilp))),
 oP 5 (.mov (nI 0))]
def c58r1 : List AOper := [
 oP 7 (.load 3 true (.t 2)),
 oP 8 (.call 20 [(.t 7)]),
 oM 6 8]
def c58r2 : List AOper := [
 oM 10 6,
 oP 11 (.cmp .neq (.t 10) (nI 0)),
 oM 9 11]
def c58r3 : List AOper := [
 oM 12 6,
 oP 4 (.mov (.c (.s .nilp))),
 oM 5 12]
def c58r4 : List AOper := [
 oF 14 1 2,
 oL 15 14,
 oN 16 15,
 oP 17 (.arith .sub (.t 16) (nI 1)),
 oM 18 1,
 oP 19 (.call 60 [(nI 0), (.t 17), (.t 18)]),
 oP 20 (.not (.t 19)),
 oM 13 20]
def c58r5 : List AOper := [
 oP 4 (.mov (.c (.s .nilp))),
 oP 5 (.mov (nI 2))]
def c58r6 : List AOper := [
 oP 21 (.load 3 true (.t 2)),
 oP 22 (.call 80 [(.t 21)]),
 oM 4 22,
 oP 5 (.mov (nI 0))]
def f58 : FRow := ⟨(.seq (.reg 0 c58r0) (.seq (.reg 0 c58r1) (.seq (.block 0 (.seq (.reg 0 c58r2) (.cond (.t 9) (.seq (.reg 0 c58r3) .ret) (.seq (.reg 0 c58r4) (.cond (.t 13) (.seq (.reg 0 c58r5) .ret) .skip))))) (.seq (.reg 0 c58r6) .ret)))), [.tmp 4, .tmp 5], 23⟩
theorem okf58 : f58.Ok Try.prog 58 := ⟨_, _, Try.func58, rfl, by kernel_rfl, by kernel_rfl, by kernel_rfl⟩

def c59r0 : List AOper := [
 oP 1 (.boxS (.t 0)),
 oP 2 (.mov (.c (.full [])))]
def c59r1 : List AOper := [
 oF 9 1 1,
 oL 10 9,
 oN 11 10,
 oM 3 11]
def c59r2 : List AOper := [
 oM 12 3,
 oP 13 (.mkslice 1 8 [(.int .i64 0)] (.t 12) (.t 12)),
 oM 4 13]
def c59r3 : List AOper := [
 oP 5 (.mov (nI 0))]
def c59r4 : List AOper := [
 oM 14 5,
 oM 15 3,
 oP 16 (.cmp .lss (.t 14) (.t 15))]
def c59r5 : List AOper := [
 oM 19 4,
 oM 20 5,
 oI 21 19 20,
 ⟨none, none, .store 1 (.t 21) (nI (-1))⟩]
def c59r6 : List AOper := [
 oF 22 2 1,
 oL 23 22,
 oM 24 5,
 oI 25 23 24,
 oL 26 25]
def c59r7 : List AOper := [
 oM 27 4,
 oM 28 5,
 oI 29 27 28,
 ⟨none, none, .store 1 (.t 29) (nI 0)⟩]
def c59r8 : List AOper := [
 oM 17 5,
 oP 18 (.arith .add (.t 17) (nI 1)),
 oM 5 18]
def c59l9 : ACode := (.seq (.seq (.reg 0 c59r4) (.cond (.t 16) .skip (.exit 0))) (.seq (.block 1 (.seq (.reg 0 c59r5) (.seq (.reg 0 c59r6) (.cond (.t 26) (.reg 0 c59r7) .skip)))) (.reg 0 c59r8)))
def c59l9m : List Bool := [fF,tT,fF,tT,tT,tT,fF,fF,fF,fF,fF,fF,fF,fF,fF,fF,fF,fF,fF,fF,fF,fF,fF,fF,fF,fF,fF,fF,fF,fF,fF,fF,fF,fF,fF,fF,fF,fF,fF,fF,fF,fF,fF,fF,fF,fF,fF,fF,fF,fF,fF,fF,fF,fF,fF,fF,fF,fF,fF,fF]
def c59r10 : List AOper := [
 oP 6 (.mov (nI 1))]
def c59r11 : List AOper := [
 oM 30 6,
 oM 31 3,
 oP 32 (.cmp .leq (.t 30) (.t 31))]
def c59r12 : List AOper := [
 oP 35 (.buildSl 1 0 (.int .i64 0) []),
 oM 36 4,
 oP 37 (.appendN 1 8 (.t 35) (.t 36)),
 oM 7 37]
def c59r13 : List AOper := [
 oP 8 (.mov (nI 0))]
def c59r14 : List AOper := [
 oM 38 8,
 oM 39 3,
 oP 40 (.cmp .lss (.t 38) (.t 39))]
def c59r15 : List AOper := [
 oM 43 7,
 oM 44 8,
 oI 45 43 44,
 oL 46 45,
 oP 47 (.cmp .lss (.t 46) (nI 0)),
 oM 48 47,
 oG 49 48 true (.load 3 true (.t 1)),
 oH 50 48 true 8,
 oH 51 48 true 7,
 oG 52 48 true (.call 83 [(.t 49), (.t 50), (.t 51)]),
 oG 53 48 true (.cmp .geq (.t 52) (nI 0)),
 oP 54 (.pick (.t 48) (.t 53) bF)]
def c59r16 : List AOper := [
 oM 55 4,
 oM 56 8,
 oM 57 6,
 oI 58 55 56,
 ⟨none, none, .store 1 (.t 58) (.t 57)⟩]
def c59r17 : List AOper := [
 oM 41 8,
 oP 42 (.arith .add (.t 41) (nI 1)),
 oM 8 42]
def c59l18 : ACode := (.seq (.seq (.reg 0 c59r14) (.cond (.t 40) .skip (.exit 4))) (.seq (.block 5 (.seq (.reg 0 c59r15) (.cond (.t 54) (.reg 0 c59r16) .skip))) (.reg 0 c59r17)))
def c59l18m : List Bool := [fF,tT,fF,tT,tT,fF,tT,tT,tT,fF,fF,fF,fF,fF,fF,fF,fF,fF,fF,fF,fF,fF,fF,fF,fF,fF,fF,fF,fF,fF,fF,fF,fF,fF,fF,fF,fF,fF,fF,fF,fF,fF,fF,fF,fF,fF,fF,fF,fF,fF,fF,fF,fF,fF,fF,fF,fF,fF,fF,fF]
def c59r19 : List AOper := [
 oM 33 6,
 oP 34 (.arith .add (.t 33) (nI 1)),
 oM 6 34]
def c59l20 : ACode := (.seq (.seq (.reg 0 c59r11) (.cond (.t 32) .skip (.exit 2))) (.seq (.block 3 (.seq (.reg 1 c59r12) (.seq (.reg 0 c59r13) (.block 4 (.loop c59l18m [] c59l18))))) (.reg 0 c59r19)))
def c59l20m : List Bool := [fF,tT,fF,tT,tT,fF,tT,fF,fF,fF,fF,fF,fF,fF,fF,fF,fF,fF,fF,fF,fF,fF,fF,fF,fF,fF,fF,fF,fF,fF,fF,fF,fF,fF,fF,fF,fF,fF,fF,fF,fF,fF,fF,fF,fF,fF,fF,fF,fF,fF,fF,fF,fF,fF,fF,fF,fF,fF,fF,fF]
def c59r21 : List AOper := [
 oM 59 4,
 oM 2 59]
def f59 : FRow := ⟨(.seq (.reg 0 c59r0) (.seq (.reg 0 c59r1) (.seq (.reg 1 c59r2) (.seq (.seq (.reg 0 c59r3) (.block 0 (.loop c59l9m [] c59l9))) (.seq (.seq (.reg 0 c59r10) (.block 2 (.loop c59l20m [] c59l20))) (.seq (.reg 0 c59r21) .ret)))))), [.tmp 2], 60⟩
theorem okf59 : f59.Ok Try.prog 59 := ⟨_, _, Try.func59, rfl, by kernel_rfl, by kernel_rfl, by kernel_rfl⟩

def c60r0 : List AOper := [
 oP 3 (.boxS (.t 0)),
 oP 4 (.boxS (.t 1)),
 oP 6 (.mov bF)]
def c60r1 : List AOper := [
 oM 7 2,
 oP 8 (.mkfn 85 [] [(.t 3), (.t 4)]),
 oP 9 (.call 84 [(.t 7), (.t 8)]),
 oP 10 (.not (.t 9)),
 oM 6 10]
def f60 : FRow := ⟨(.seq (.reg 0 c60r0) (.seq (.reg 0 c60r1) .ret)), [.tmp 6], 11⟩
theorem okf60 : f60.Ok Try.prog 60 := ⟨_, _, Try.func60, rfl, by kernel_rfl, by kernel_rfl, by kernel_rfl⟩

def c61r0 : List AOper := [
 oP 4 (.mov bF)]
def c61r1 : List AOper := [
 oM 5 0,
 oM 6 1,
 oP 7 (.call 86 [(.t 5), (.t 6)]),
 oP 8 (.cmp .geq (.t 7) (nI 0)),
 oM 4 8]
def f61 : FRow := ⟨(.seq (.reg 0 c61r0) (.seq (.reg 0 c61r1) .ret)), [.tmp 4], 9⟩
theorem okf61 : f61.Ok Try.prog 61 := ⟨_, _, Try.func61, rfl, by kernel_rfl, by kernel_rfl, by kernel_rfl⟩

def c62r0 : List AOper := [
 oP 3 (.mov bF)]
def c62r1 : List AOper := [
 oM 4 0,
 oL 5 1,
 oP 6 (.call 63 [(.t 4), (.t 5)]),
 oP 7 (.not (.t 6)),
 oM 3 7]
def f62 : FRow := ⟨(.seq (.reg 0 c62r0) (.seq (.reg 0 c62r1) .ret)), [.tmp 3], 8⟩
theorem okf62 : f62.Ok Try.prog 62 := ⟨_, _, Try.func62, rfl, by kernel_rfl, by kernel_rfl, by kernel_rfl⟩

def c63r0 : List AOper := [
 oP 4 (.mov bF)]
def c63r1 : List AOper := [
 oP 5 (.mov (nI 0))]
def c63r2 : List AOper := [
 oM 8 0,
 oN 9 8,
 oP 10 (.mov (nI 0))]
def c63r3 : List AOper := [
 oP 11 (.cmp .lss (.t 10) (.t 9))]
def c63r4 : List AOper := [
 oI 12 8 10,
 oL 13 12,
 oM 7 13]
def c63r5 : List AOper := [
 oM 14 5,
 oM 15 1,
 oP 16 (.arith .sub (.t 15) (nI 1)),
 oM 17 7,
 oP 18 (.buildSl 1 1 (.int .i64 0) [(0, (.t 17))]),
 oP 19 (.call 60 [(.t 14), (.t 16), (.t 18)]),
 oP 20 (.not (.t 19))]
def c63r6 : List AOper := [
 oP 4 (.mov bF)]
def c63r7 : List AOper := [
 oM 21 7,
 oP 22 (.arith .add (.t 21) (nI 1)),
 oM 5 22]
def c63r8 : List AOper := [
 oP 23 (.arith .add (.t 10) (nI 1)),
 oM 10 23]
def c63l9 : ACode := (.seq (.reg 0 c63r3) (.seq (.cond (.t 11) .skip (.exit 0)) (.seq (.block 1 (.seq (.reg 0 c63r4) (.seq (.seq (.reg 0 c63r5) (.cond (.t 20) (.seq (.reg 0 c63r6) .ret) .skip)) (.reg 0 c63r7)))) (.reg 0 c63r8))))
def c63l9m : List Bool := [fF,tT,fF,fF,fF,tT,fF,fF,tT,tT,tT,fF,fF,fF,fF,fF,fF,fF,fF,fF,fF,fF,fF,fF]
def c63r10 : List AOper := [
 oP 4 (.mov bT)]
def f63 : FRow := ⟨(.seq (.reg 0 c63r0) (.seq (.reg 0 c63r1) (.seq (.seq (.reg 0 c63r2) (.block 0 (.loop c63l9m [] c63l9))) (.seq (.reg 0 c63r10) .ret)))), [.tmp 4], 24⟩
theorem okf63 : f63.Ok Try.prog 63 := ⟨_, _, Try.func63, rfl, by kernel_rfl, by kernel_rfl, by kernel_rfl⟩

def c64r0 : List AOper := [
 oP 4 (.mov bF)]
def c64r1 : List AOper := [
 oP 5 (.mov (nI 0))]
def c64r2 : List AOper := [
 oM 6 5,
 oM 7 0,
 oN 8 7,
 oP 9 (.cmp .lss (.t 6) (.t 8))]
def c64r3 : List AOper := [
 oM 12 0,
 oM 13 5,
 oI 14 12 13,
 oL 15 14,
 oP 16 (.cmp .lss (.t 15) (nI 0)),
 oM 17 16,
 oH 18 17 false 0,
 oH 19 17 false 5,
 oG 20 17 false (.idxA 1 (.t 18) (.t 19)),
 oG 21 17 false (.load 1 false (.t 20)),
 oH 22 17 false 1,
 oG 23 17 false (.cmp .geq (.t 21) (.t 22)),
 oP 24 (.pick (.t 17) bT (.t 23)),
 oM 25 24,
 oH 26 25 false 5,
 oG 27 25 false (.cmp .gtr (.t 26) (nI 0)),
 oH 28 25 false 27,
 oH 29 28 true 0,
 oH 30 28 true 5,
 oG 31 28 true (.idxA 1 (.t 29) (.t 30)),
 oG 32 28 true (.load 1 false (.t 31)),
 oH 33 28 true 0,
 oH 34 28 true 5,
 oG 35 28 true (.arith .sub (.t 34) (nI 1)),
 oG 36 28 true (.idxA 1 (.t 33) (.t 35)),
 oG 37 28 true (.load 1 false (.t 36)),
 oG 38 28 true (.cmp .leq (.t 32) (.t 37)),
 oG 39 25 false (.pick (.t 28) (.t 38) bF),
 oP 40 (.pick (.t 25) bT (.t 39))]
def c64r4 : List AOper := [
 oP 4 (.mov bF)]
def c64r5 : List AOper := [
 oM 10 5,
 oP 11 (.arith .add (.t 10) (nI 1)),
 oM 5 11]
def c64l6 : ACode := (.seq (.seq (.reg 0 c64r2) (.cond (.t 9) .skip (.exit 0))) (.seq (.block 1 (.seq (.reg 0 c64r3) (.cond (.t 40) (.seq (.reg 0 c64r4) .ret) .skip))) (.reg 0 c64r5)))
def c64l6m : List Bool := [tT,tT,fF,fF,fF,tT,fF,fF,fF,fF,fF,fF,fF,fF,fF,fF,fF,fF,fF,fF,fF,fF,fF,fF,fF,fF,fF,fF,fF,fF,fF,fF,fF,fF,fF,fF,fF,fF,fF,fF,fF]
def c64r7 : List AOper := [
 oP 4 (.mov bT)]
def f64 : FRow := ⟨(.seq (.reg 0 c64r0) (.seq (.seq (.reg 0 c64r1) (.block 0 (.loop c64l6m [] c64l6))) (.seq (.reg 0 c64r7) .ret))), [.tmp 4], 41⟩
theorem okf64 : f64.Ok Try.prog 64 := ⟨_, _, Try.func64, rfl, by kernel_rfl, by kernel_rfl, by kernel_rfl⟩

def c65r0 : List AOper := [
 oP 4 (.mov bF)]
def c65r1 : List AOper := [
 oL 5 1,
 oP 6 (.arith .sub (.t 5) (nI 1)),
 oL 7 2,
 oM 8 0,
 oI 9 7 8,
 oL 10 9,
 oP 11 (.buildSl 1 1 (.int .i64 0) [(0, (.t 10))]),
 oP 12 (.call 60 [(nI 0), (.t 6), (.t 11)]),
 oM 4 12]
def f65 : FRow := ⟨(.seq (.reg 0 c65r0) (.seq (.reg 0 c65r1) .ret)), [.tmp 4], 13⟩
theorem okf65 : f65.Ok Try.prog 65 := ⟨_, _, Try.func65, rfl, by kernel_rfl, by kernel_rfl, by kernel_rfl⟩

def c66r0 : List AOper := [
 oP 5 (.boxS (.t 2)),
 oP 6 (.mov bF)]
def c66r1 : List AOper := [
 oP 8 (.mkfn 87 [] [(.t 5)]),
 oM 7 8]
def c66r2 : List AOper := [
 oM 9 0,
 oP 10 (.nilck (.t 9)),
 oF 11 0 10,
 oF 12 0 11,
 oL 13 12,
 oM 14 1,
 oI 15 13 14,
 oL 16 15]
def c66r3 : List AOper := [
 oM 17 0,
 oP 18 (.nilck (.t 17)),
 oF 19 0 18,
 oF 20 1 19,
 oL 21 20,
 oM 22 1,
 oI 23 21 22,
 oL 24 23,
 oL 25 5,
 oP 26 (.call 84 [(.t 24), (.t 25)]),
 oM 6 26]
def c66r4 : List AOper := [
 oM 27 0,
 oP 28 (.nilck (.t 27)),
 oF 29 0 28,
 oF 30 1 29,
 oL 31 30,
 oM 32 1,
 oI 33 31 32,
 oL 34 33,
 oN 35 34,
 oP 36 (.cmp .gtr (.t 35) (nI 0)),
 oM 37 36,
 oH 38 37 true 0,
 oG 39 37 true (.nilck (.t 38)),
 oG 40 37 true (.fieldAddr 0 (.t 39)),
 oG 41 37 true (.fieldAddr 1 (.t 40)),
 oG 42 37 true (.load 1 false (.t 41)),
 oH 43 37 true 1,
 oG 44 37 true (.idxA 1 (.t 42) (.t 43)),
 oG 45 37 true (.load 1 false (.t 44)),
 oH 46 37 true 7,
 oG 47 37 true (.call 84 [(.t 45), (.t 46)]),
 oG 48 37 true (.not (.t 47)),
 oP 49 (.pick (.t 37) (.t 48) bF),
 oM 6 49]
def f66 : FRow := ⟨(.seq (.reg 0 c66r0) (.seq (.reg 0 c66r1) (.seq (.seq (.reg 0 c66r2) (.cond (.t 16) (.seq (.reg 0 c66r3) .ret) .skip)) (.seq (.reg 0 c66r4) .ret)))), [.tmp 6], 50⟩
theorem okf66 : f66.Ok Try.prog 66 := ⟨_, _, Try.func66, rfl, by kernel_rfl, by kernel_rfl, by kernel_rfl⟩

def c68r0 : List AOper := [
 oP 3 (.mov bF)]
def c68r1 : List AOper := [
 oL 4 1,
 oM 5 0,
 oP 6 (.call 69 [(.t 4), (.t 5)]),
 oP 7 (.not (.t 6)),
 oM 3 7]
def f68 : FRow := ⟨(.seq (.reg 0 c68r0) (.seq (.reg 0 c68r1) .ret)), [.tmp 3], 8⟩
theorem okf68 : f68.Ok Try.prog 68 := ⟨_, _, Try.func68, rfl, by kernel_rfl, by kernel_rfl, by kernel_rfl⟩

def c69r0 : List AOper := [
 oP 4 (.mov bF)]
def c69r1 : List AOper := [
 oM 5 0,
 oM 6 1,
 oP 7 (.call 88 [(.t 5), (.t 6)]),
 oP 8 (.cmp .geq (.t 7) (nI 0)),
 oM 4 8]
def f69 : FRow := ⟨(.seq (.reg 0 c69r0) (.seq (.reg 0 c69r1) .ret)), [.tmp 4], 9⟩
theorem okf69 : f69.Ok Try.prog 69 := ⟨_, _, Try.func69, rfl, by kernel_rfl, by kernel_rfl, by kernel_rfl⟩

def c70r0 : List AOper := [
 oP 2 (.boxS (.t 0)),
 oP 4 (.mov (.c (.full [])))]
def c70r1 : List AOper := [
 oL 11 2,
 oP 12 (.nilck (.t 11)),
 oF 13 0 12,
 oF 14 1 13,
 oL 15 14,
 oN 16 15,
 oP 17 (.mkslice 1 8 [(.int .i64 0)] (.t 16) (.t 16)),
 oM 5 17]
def c70r2 : List AOper := [
 oL 18 2,
 oP 19 (.nilck (.t 18)),
 oF 20 0 19,
 oF 21 1 20,
 oL 22 21,
 oN 23 22,
 oP 24 (.mov (nI 0))]
def c70r3 : List AOper := [
 oP 25 (.cmp .lss (.t 24) (.t 23))]
def c70r4 : List AOper := [
 oM 26 24,
 oI 27 22 24,
 oL 28 27,
 oM 6 26,
 oM 7 28]
def c70r5 : List AOper := [
 oM 29 5,
 oM 30 6,
 oI 31 29 30,
 ⟨none, none, .store 1 (.t 31) (nI (-1))⟩]
def c70r6 : List AOper := [
 oL 32 2,
 oM 33 6,
 oP 34 (.nilck (.t 32)),
 oF 35 3 34,
 oP 36 (.idxArrA 14 1 (.t 35) (.t 33)),
 oL 37 36,
 oP 38 (.arith .sub (.t 37) (nI 1)),
 oP 8 (.alloc [(.s (.int .i64 0))]),
 ⟨none, none, .store 1 (.t 8) (.t 38)⟩]
def c70r7 : List AOper := [
 oL 40 2,
 oP 41 (.nilck (.t 40)),
 oF 42 0 41,
 oF 43 0 42,
 oL 44 43,
 oM 45 6,
 oI 46 44 45,
 oL 47 46,
 oM 48 1,
 oP 49 (.eql false [.bool] true (.t 47) (.t 48)),
 oM 50 49,
 oG 51 50 false (.load 1 false (.t 2)),
 oH 52 50 false 6,
 oG 53 50 false (.nilck (.t 51)),
 oG 54 50 false (.fieldAddr 3 (.t 53)),
 oG 55 50 false (.idxArrA 14 1 (.t 54) (.t 52)),
 oG 56 50 false (.load 1 false (.t 55)),
 oG 57 50 false (.cmp .eql (.t 56) (nI 0)),
 oP 58 (.pick (.t 50) bT (.t 57)),
 oM 59 58,
 oH 60 59 false 1,
 oH 61 59 false 60,
 oG 62 61 true (.load 1 false (.t 2)),
 oH 63 61 true 6,
 oG 64 61 true (.nilck (.t 62)),
 oG 65 61 true (.fieldAddr 3 (.t 64)),
 oG 66 61 true (.idxArrA 14 1 (.t 65) (.t 63)),
 oG 67 61 true (.load 1 false (.t 66)),
 oG 68 61 true (.cmp .lss (.t 67) (nI 0)),
 oG 69 59 false (.pick (.t 61) (.t 68) bF),
 oP 70 (.pick (.t 59) bT (.t 69)),
 oM 39 70]
def c70r8 : List AOper := [
 oL 72 2,
 oM 73 6,
 oP 74 (.nilck (.t 72)),
 oF 75 3 74,
 oP 76 (.idxArrA 14 1 (.t 75) (.t 73)),
 oL 77 76,
 oP 78 (.cmp .lss (.t 77) (nI 0)),
 oM 71 78]
def c70r9 : List AOper := [
 ⟨none, none, .store 1 (.t 8) (nI (-1))⟩]
def c70r10 : List AOper := [
 oM 80 7,
 oP 81 (.mkfn 90 [] [(.t 2), (.t 8)]),
 oP 82 (.call 89 [(.t 80), (.t 81)]),
 oM 79 82,
 oP 83 (.ext (.t 79) 0),
 oP 84 (.ext (.t 79) 1),
 oM 9 83,
 oM 10 84]
def c70r11 : List AOper := [
 oM 85 10]
def c70r12 : List AOper := [
 oM 86 5,
 oM 87 6,
 oM 88 9,
 oI 89 86 87,
 ⟨none, none, .store 1 (.t 89) (.t 88)⟩]
def c70r13 : List AOper := [
 oP 90 (.arith .add (.t 24) (nI 1)),
 oM 24 90]
def c70l14 : ACode := (.seq (.reg 0 c70r3) (.seq (.cond (.t 25) .skip (.exit 0)) (.seq (.block 1 (.seq (.reg 0 c70r4) (.seq (.reg 0 c70r5) (.seq (.reg 1 c70r6) (.seq (.block 2 (.seq (.reg 0 c70r7) (.cond (.t 39) (.exit 1) (.seq (.reg 0 c70r8) (.cond (.t 71) (.reg 0 c70r9) .skip))))) (.seq (.reg 0 c70r10) (.seq (.reg 0 c70r11) (.cond (.t 85) (.reg 0 c70r12) .skip)))))))) (.reg 0 c70r13))))
def c70l14m : List Bool := [fF,tT,tT,fF,fF,tT,fF,fF,fF,fF,fF,fF,fF,fF,fF,fF,fF,fF,fF,fF,fF,fF,tT,tT,tT,fF,fF,fF,fF,fF,fF,fF,fF,fF,fF,fF,fF,fF,fF,fF,fF,fF,fF,fF,fF,fF,fF,fF,fF,fF,fF,fF,fF,fF,fF,fF,fF,fF,fF,fF,fF,fF,fF,fF,fF,fF,fF,fF,fF,fF,fF,fF,fF,fF,fF,fF,fF,fF,fF,fF,fF,fF,fF,fF,fF,fF,fF,fF,fF,fF,fF,fF]
def c70r15 : List AOper := [
 oM 91 5,
 oM 4 91]
def f70 : FRow := ⟨(.seq (.reg 0 c70r0) (.seq (.reg 1 c70r1) (.seq (.seq (.reg 0 c70r2) (.block 0 (.loop c70l14m [] c70l14))) (.seq (.reg 0 c70r15) .ret)))), [.tmp 4], 92⟩
theorem okf70 : f70.Ok Try.prog 70 := ⟨_, _, Try.func70, rfl, by kernel_rfl, by kernel_rfl, by kernel_rfl⟩

def c73r0 : List AOper := [
 oP 2 (.mov (.c (.full [])))]
def c73r1 : List AOper := [
 oM 3 0,
 oP 4 (.eqNil false (.t 3))]
def c73r2 : List AOper := [
 oP 2 (.mov (.c (.full [])))]
def c73r3 : List AOper := [
 oP 5 (.buildSl 1 0 (.slice []) []),
 oM 6 0,
 oP 7 (.appendN 1 24 (.t 5) (.t 6)),
 oM 2 7]
def f73 : FRow := ⟨(.seq (.reg 0 c73r0) (.seq (.seq (.reg 0 c73r1) (.cond (.t 4) (.seq (.reg 0 c73r2) .ret) .skip)) (.seq (.reg 1 c73r3) .ret))), [.tmp 2], 8⟩
theorem okf73 : f73.Ok Try.prog 73 := ⟨_, _, Try.func73, rfl, by kernel_rfl, by kernel_rfl, by kernel_rfl⟩

def c74r0 : List AOper := [
 oP 4 (.mov (.c (.full [])))]
def c74r1 : List AOper := [
 oM 8 0,
 oM 9 1,
 oP 10 (.call 92 [(.t 8), (.t 9)]),
 oM 5 10]
def c74r2 : List AOper := [
 oM 11 5,
 oP 12 (.cmp .eql (.t 11) (nI (-1)))]
def c74r3 : List AOper := [
 oM 13 0,
 oM 4 13]
def c74r4 : List AOper := [
 oM 14 5,
 oP 15 (.arith .add (.t 14) (nI 1)),
 oM 6 15]
def c74r5 : List AOper := [
 oM 16 6,
 oM 17 0,
 oN 18 17,
 oP 19 (.cmp .lss (.t 16) (.t 18))]
def c74r6 : List AOper := [
 oM 22 0,
 oM 23 6,
 oI 24 22 23,
 oL 25 24,
 oM 7 25]
def c74r7 : List AOper := [
 oM 26 1,
 oM 27 7,
 oP 28 (.callv (.t 26) [(.t 27)]),
 oP 29 (.not (.t 28))]
def c74r8 : List AOper := [
 oM 30 0,
 oM 31 5,
 oM 32 7,
 oI 33 30 31,
 ⟨none, none, .store 1 (.t 33) (.t 32)⟩]
def c74r9 : List AOper := [
 oM 34 5,
 oP 35 (.arith .add (.t 34) (nI 1)),
 oM 5 35]
def c74r10 : List AOper := [
 oM 20 6,
 oP 21 (.arith .add (.t 20) (nI 1)),
 oM 6 21]
def c74l11 : ACode := (.seq (.seq (.reg 0 c74r5) (.cond (.t 19) .skip (.exit 0))) (.seq (.block 1 (.seq (.reg 0 c74r6) (.seq (.reg 0 c74r7) (.cond (.t 29) (.seq (.reg 0 c74r8) (.reg 0 c74r9)) .skip)))) (.reg 0 c74r10)))
def c74l11m : List Bool := [tT,tT,fF,fF,fF,tT,tT,fF,fF,fF,fF,fF,fF,fF,fF,fF,fF,fF,fF,fF,fF,fF,fF,fF,fF,fF,fF,fF,fF,fF,fF,fF,fF,fF,fF,fF,fF,fF,fF,fF,fF,fF]
def c74r12 : List AOper := [
 oM 36 0,
 oM 37 5,
 oP 38 (.slice 1 (.t 36) (some (.t 37)) none none),
 ⟨none, none, .clear 1 [(.int .i64 0)] (.t 38)⟩]
def c74r13 : List AOper := [
 oM 39 0,
 oM 40 5,
 oP 41 (.slice 1 (.t 39) none (some (.t 40)) none),
 oM 4 41]
def f74 : FRow := ⟨(.seq (.reg 0 c74r0) (.seq (.reg 0 c74r1) (.seq (.seq (.reg 0 c74r2) (.cond (.t 12) (.seq (.reg 0 c74r3) .ret) .skip)) (.seq (.seq (.reg 0 c74r4) (.block 0 (.loop c74l11m [] c74l11))) (.seq (.reg 0 c74r12) (.seq (.reg 0 c74r13) .ret)))))), [.tmp 4], 42⟩
theorem okf74 : f74.Ok Try.prog 74 := ⟨_, _, Try.func74, rfl, by kernel_rfl, by kernel_rfl, by kernel_rfl⟩

def c75r0 : List AOper := [
 oP 2 (.mov (.c (.full [])))]
def c75r1 : List AOper := [
 oM 3 0,
 oP 4 (.eqNil false (.t 3))]
def c75r2 : List AOper := [
 oP 2 (.mov (.c (.full [])))]
def c75r3 : List AOper := [
 oP 5 (.buildSl 1 0 (.int .i64 0) []),
 oM 6 0,
 oP 7 (.appendN 1 8 (.t 5) (.t 6)),
 oM 2 7]
def f75 : FRow := ⟨(.seq (.reg 0 c75r0) (.seq (.seq (.reg 0 c75r1) (.cond (.t 4) (.seq (.reg 0 c75r2) .ret) .skip)) (.seq (.reg 1 c75r3) .ret))), [.tmp 2], 8⟩
theorem okf75 : f75.Ok Try.prog 75 := ⟨_, _, Try.func75, rfl, by kernel_rfl, by kernel_rfl, by kernel_rfl⟩

def c76r0 : List AOper := [
 oP 3 (.mov bF)]
def c76r1 : List AOper := [
 oM 4 0,
 oL 5 1,
 oP 6 (.cmp .neq (.t 4) (.t 5)),
 oM 3 6]
def f76 : FRow := ⟨(.seq (.reg 0 c76r0) (.seq (.reg 0 c76r1) .ret)), [.tmp 3], 7⟩
theorem okf76 : f76.Ok Try.prog 76 := ⟨_, _, Try.func76, rfl, by kernel_rfl, by kernel_rfl, by kernel_rfl⟩

def c78r0 : List AOper := [
 oP 4 (.mov (.c (.full []))),
 oP 5 (.mov bF)]
def c78r1 : List AOper := [
 oM 23 0,
 oP 24 (.nilck (.t 23)),
 oF 25 0 24,
 oF 26 1 25,
 oP 27 (.loadO 1 false (.t 26)),
 oN 28 27,
 oM 6 28]
def c78r2 : List AOper := [
 oM 29 6,
 oP 30 (.shift .shl (nI 1) (.t 29)),
 oP 31 (.mkslice 1 8 [(.int .i64 0)] (.t 30) (.t 30)),
 oM 32 6,
 oP 33 (.shift .shl (nI 1) (.t 32)),
 oP 34 (.mkslice 1 8 [(.int .i64 0)] (.t 33) (.t 33)),
 oP 35 (.build [(.full []), (.full [])] [(0, 1, (.t 31)), (1, 1, (.t 34))]),
 oP 7 (.alloc [(.full []), (.full [])]),
 ⟨none, none, .store 2 (.t 7) (.t 35)⟩]
def c78r3 : List AOper := [
 oF 36 0 7,
 oP 37 (.loadO 1 false (.t 36)),
 oN 38 37,
 oP 39 (.mov (nI 0))]
def c78r4 : List AOper := [
 oP 40 (.cmp .lss (.t 39) (.t 38))]
def c78r5 : List AOper := [
 oM 41 39,
 oM 8 41]
def c78r6 : List AOper := [
 oF 42 0 7,
 oP 43 (.loadO 1 false (.t 42)),
 oM 44 8,
 oI 45 43 44,
 ⟨none, none, .storeR 1 (.t 45) (nI (-1))⟩]
def c78r7 : List AOper := [
 oP 46 (.arith .add (.t 39) (nI 1)),
 oM 39 46]
def c78l8 : ACode := (.seq (.reg 0 c78r4) (.seq (.cond (.t 40) .skip (.exit 0)) (.seq (.block 1 (.seq (.reg 0 c78r5) (.reg 0 c78r6))) (.reg 0 c78r7))))
def c78l8m : List Bool := [tT,tT,fF,fF,fF,fF,tT,tT,fF,fF,fF,fF,fF,fF,fF,fF,fF,fF,fF,fF,fF,fF,fF,fF,fF,fF,fF,fF,fF,fF,fF,fF,fF,fF,fF,fF,fF,fF,tT,tT,fF,fF,fF,fF,fF,fF,fF,fF,fF,fF,fF,fF,fF,fF,fF,fF,fF,fF,fF,fF,fF,fF,fF,fF,fF,fF,fF,fF,fF,fF,fF,fF,fF,fF,fF,fF,fF,fF,fF,fF,fF,fF,fF,fF,fF,fF,fF,fF,fF,fF,fF,fF,fF,fF,fF,fF,fF,fF,fF,fF,fF,fF,fF,fF,fF,fF,fF,fF,fF,fF,fF,fF,fF,fF,fF,fF,fF,fF,fF,fF,fF,fF,fF,fF,fF,fF,fF,fF,fF,fF,fF,fF,fF,fF,fF,fF,fF,fF,fF,fF,fF,fF,fF,fF,fF,fF,fF,fF,fF,fF,fF,fF,fF,fF,fF,fF,fF,fF,fF,fF,fF,fF,fF,fF,fF,fF,fF,fF,fF,fF,fF,fF,fF,fF,fF,fF,fF,fF,fF,fF,fF,fF,fF,fF,fF,fF,fF,fF,fF,fF,fF,fF,fF,fF,fF,fF,fF,fF,fF,fF,fF,fF,fF,fF,fF,fF,fF,fF]
def c78r9 : List AOper := [
 oP 9 (.mov (nI 0))]
def c78r10 : List AOper := [
 oM 47 0,
 oP 48 (.nilck (.t 47)),
 oF 49 0 48,
 oF 50 2 49,
 oP 51 (.loadO 1 false (.t 50)),
 oN 52 51,
 oP 53 (.mov (nI 0))]
def c78r11 : List AOper := [
 oP 54 (.cmp .lss (.t 53) (.t 52))]
def c78r12 : List AOper := [
 oM 55 53,
 oI 56 51 53,
 oL 57 56,
 oM 10 55,
 oM 11 57]
def c78r13 : List AOper := [
 oM 58 11]
def c78r14 : List AOper := [
 oM 59 9,
 oM 60 10,
 oP 61 (.shift .shl (nI 1) (.t 60)),
 oP 62 (.bits .or (.t 59) (.t 61)),
 oM 9 62]
def c78r15 : List AOper := [
 oP 63 (.arith .add (.t 53) (nI 1)),
 oM 53 63]
def c78l16 : ACode := (.seq (.reg 0 c78r11) (.seq (.cond (.t 54) .skip (.exit 2)) (.seq (.block 3 (.seq (.reg 0 c78r12) (.seq (.reg 0 c78r13) (.cond (.t 58) (.reg 0 c78r14) .skip)))) (.reg 0 c78r15))))
def c78l16m : List Bool := [tT,tT,fF,fF,fF,fF,tT,tT,fF,tT,fF,fF,fF,fF,fF,fF,fF,fF,fF,fF,fF,fF,fF,fF,fF,fF,fF,fF,fF,fF,fF,fF,fF,fF,fF,fF,fF,fF,fF,fF,fF,fF,fF,fF,fF,fF,fF,fF,fF,fF,fF,tT,tT,tT,fF,fF,fF,fF,fF,fF,fF,fF,fF,fF,fF,fF,fF,fF,fF,fF,fF,fF,fF,fF,fF,fF,fF,fF,fF,fF,fF,fF,fF,fF,fF,fF,fF,fF,fF,fF,fF,fF,fF,fF,fF,fF,fF,fF,fF,fF,fF,fF,fF,fF,fF,fF,fF,fF,fF,fF,fF,fF,fF,fF,fF,fF,fF,fF,fF,fF,fF,fF,fF,fF,fF,fF,fF,fF,fF,fF,fF,fF,fF,fF,fF,fF,fF,fF,fF,fF,fF,fF,fF,fF,fF,fF,fF,fF,fF,fF,fF,fF,fF,fF,fF,fF,fF,fF,fF,fF,fF,fF,fF,fF,fF,fF,fF,fF,fF,fF,fF,fF,fF,fF,fF,fF,fF,fF,fF,fF,fF,fF,fF,fF,fF,fF,fF,fF,fF,fF,fF,fF,fF,fF,fF,fF,fF,fF,fF,fF,fF,fF,fF,fF,fF,fF,fF,fF]
def c78r17 : List AOper := [
 oF 64 0 7,
 oP 65 (.loadO 1 false (.t 64)),
 oM 66 9,
 oI 67 65 66,
 ⟨none, none, .storeR 1 (.t 67) (nI 0)⟩]
def c78r18 : List AOper := [
 oP 12 (.mov (nI (-1)))]
def c78r19 : List AOper := [
 oF 68 0 7,
 oP 69 (.loadO 1 false (.t 68)),
 oN 70 69,
 oP 71 (.mov (nI 0))]
def c78r20 : List AOper := [
 oP 72 (.cmp .lss (.t 71) (.t 70))]
def c78r21 : List AOper := [
 oM 73 71,
 oM 13 73]
def c78r22 : List AOper := [
 oF 74 0 7,
 oP 75 (.loadO 1 false (.t 74)),
 oM 76 13,
 oI 77 75 76,
 oL 78 77,
 oM 14 78]
def c78r23 : List AOper := [
 oM 79 14,
 oP 80 (.cmp .lss (.t 79) (nI 0))]
def c78r24 : List AOper := [
 oM 81 13,
 oM 82 1,
 oP 83 (.shift .shr (.t 81) (.t 82)),
 oP 84 (.bits .and (.t 83) (nI 1)),
 oP 85 (.cmp .eql (.t 84) (nI 1)),
 oM 86 85,
 oH 87 86 true 12,
 oG 88 86 true (.cmp .lss (.t 87) (nI 0)),
 oH 89 86 true 88,
 oH 90 89 false 14,
 oG 91 89 false (.fieldAddr 0 (.t 7)),
 oG 92 89 false (.loadO 1 false (.t 91)),
 oH 93 89 false 12,
 oG 94 89 false (.idxA 1 (.t 92) (.t 93)),
 oG 95 89 false (.load 1 false (.t 94)),
 oG 96 89 false (.cmp .lss (.t 90) (.t 95)),
 oG 97 86 true (.pick (.t 89) bT (.t 96)),
 oP 98 (.pick (.t 86) (.t 97) bF)]
def c78r25 : List AOper := [
 oM 99 13,
 oM 12 99]
def c78r26 : List AOper := [
 oM 100 6,
 oP 101 (.mov (nI 0))]
def c78r27 : List AOper := [
 oP 102 (.cmp .lss (.t 101) (.t 100))]
def c78r28 : List AOper := [
 oM 103 101,
 oM 15 103]
def c78r29 : List AOper := [
 oM 104 0,
 oM 105 15,
 oM 106 13,
 oP 107 (.call 93 [(.t 104), (.t 105), (.t 106)]),
 oM 16 107]
def c78r30 : List AOper := [
 oM 108 13,
 oM 109 15,
 oP 110 (.shift .shr (.t 108) (.t 109)),
 oP 111 (.bits .and (.t 110) (nI 1)),
 oP 112 (.cmp .eql (.t 111) (nI 1)),
 oM 113 112,
 oH 114 113 false 16,
 oG 115 113 false (.cmp .lss (.t 114) (nI 0)),
 oP 116 (.pick (.t 113) bT (.t 115))]
def c78r31 : List AOper := [
 oF 117 0 7,
 oP 118 (.loadO 1 false (.t 117)),
 oM 119 13,
 oM 120 15,
 oP 121 (.shift .shl (nI 1) (.t 120)),
 oP 122 (.bits .or (.t 119) (.t 121)),
 oI 123 118 122,
 oL 124 123,
 oM 17 124]
def c78r32 : List AOper := [
 oM 125 17,
 oP 126 (.cmp .lss (.t 125) (nI 0)),
 oM 127 126,
 oH 128 127 false 14,
 oH 129 127 false 16,
 oG 130 127 false (.arith .add (.t 128) (.t 129)),
 oH 131 127 false 17,
 oG 132 127 false (.cmp .lss (.t 130) (.t 131)),
 oP 133 (.pick (.t 127) bT (.t 132))]
def c78r33 : List AOper := [
 oF 134 0 7,
 oP 135 (.loadO 1 false (.t 134)),
 oM 136 13,
 oM 137 15,
 oP 138 (.shift .shl (nI 1) (.t 137)),
 oP 139 (.bits .or (.t 136) (.t 138)),
 oF 140 1 7,
 oP 141 (.loadO 1 false (.t 140)),
 oM 142 13,
 oM 143 15,
 oP 144 (.shift .shl (nI 1) (.t 143)),
 oP 145 (.bits .or (.t 142) (.t 144)),
 oM 146 14,
 oM 147 16,
 oP 148 (.arith .add (.t 146) (.t 147)),
 oM 149 15,
 oI 150 135 139,
 ⟨none, none, .storeR 1 (.t 150) (.t 148)⟩,
 oI 151 141 145,
 ⟨none, none, .storeR 1 (.t 151) (.t 149)⟩]
def c78r34 : List AOper := [
 oP 152 (.arith .add (.t 101) (nI 1)),
 oM 101 152]
def c78l35 : ACode := (.seq (.reg 0 c78r27) (.seq (.cond (.t 102) .skip (.exit 6)) (.seq (.block 7 (.seq (.reg 0 c78r28) (.seq (.reg 0 c78r29) (.seq (.seq (.reg 0 c78r30) (.cond (.t 116) (.exit 7) .skip)) (.seq (.reg 0 c78r31) (.seq (.reg 0 c78r32) (.cond (.t 133) (.reg 0 c78r33) .skip))))))) (.reg 0 c78r34))))
def c78l35m : List Bool := [tT,tT,fF,fF,fF,fF,tT,tT,fF,tT,fF,fF,tT,tT,tT,fF,fF,fF,fF,fF,fF,fF,fF,fF,fF,fF,fF,fF,fF,fF,fF,fF,fF,fF,fF,fF,fF,fF,fF,fF,fF,fF,fF,fF,fF,fF,fF,fF,fF,fF,fF,fF,fF,fF,fF,fF,fF,fF,fF,fF,fF,fF,fF,fF,fF,fF,fF,fF,fF,fF,tT,tT,fF,fF,fF,fF,fF,fF,fF,fF,fF,fF,fF,fF,fF,fF,fF,fF,fF,fF,fF,fF,fF,fF,fF,fF,fF,fF,fF,fF,tT,tT,fF,fF,fF,fF,fF,fF,fF,fF,fF,fF,fF,fF,fF,fF,fF,fF,fF,fF,fF,fF,fF,fF,fF,fF,fF,fF,fF,fF,fF,fF,fF,fF,fF,fF,fF,fF,fF,fF,fF,fF,fF,fF,fF,fF,fF,fF,fF,fF,fF,fF,fF,fF,fF,fF,fF,fF,fF,fF,fF,fF,fF,fF,fF,fF,fF,fF,fF,fF,fF,fF,fF,fF,fF,fF,fF,fF,fF,fF,fF,fF,fF,fF,fF,fF,fF,fF,fF,fF,fF,fF,fF,fF,fF,fF,fF,fF,fF,fF,fF,fF,fF,fF,fF,fF,fF,fF]
def c78r36 : List AOper := [
 oP 153 (.arith .add (.t 71) (nI 1)),
 oM 71 153]
def c78l37 : ACode := (.seq (.reg 0 c78r20) (.seq (.cond (.t 72) .skip (.exit 4)) (.seq (.block 5 (.seq (.reg 0 c78r21) (.scope (.seq (.reg 0 c78r22) (.seq (.seq (.reg 0 c78r23) (.cond (.t 80) (.exit 5) .skip)) (.seq (.seq (.reg 0 c78r24) (.cond (.t 98) (.reg 0 c78r25) .skip)) (.seq (.label 0) (.seq (.reg 0 c78r26) (.block 6 (.loop c78l35m [] c78l35)))))))))) (.reg 0 c78r36))))
def c78l37m : List Bool := [tT,tT,fF,fF,fF,fF,tT,tT,fF,tT,fF,fF,tT,fF,fF,fF,fF,fF,fF,fF,fF,fF,fF,fF,fF,fF,fF,fF,fF,fF,fF,fF,fF,fF,fF,fF,fF,fF,fF,fF,fF,fF,fF,fF,fF,fF,fF,fF,fF,fF,fF,fF,fF,fF,fF,fF,fF,fF,fF,fF,fF,fF,fF,fF,fF,fF,fF,fF,fF,fF,tT,tT,fF,fF,fF,fF,fF,fF,fF,fF,fF,fF,fF,fF,fF,fF,fF,fF,fF,fF,fF,fF,fF,fF,fF,fF,fF,fF,fF,fF,fF,fF,fF,fF,fF,fF,fF,fF,fF,fF,fF,fF,fF,fF,fF,fF,fF,fF,fF,fF,fF,fF,fF,fF,fF,fF,fF,fF,fF,fF,fF,fF,fF,fF,fF,fF,fF,fF,fF,fF,fF,fF,fF,fF,fF,fF,fF,fF,fF,fF,fF,fF,fF,fF,fF,fF,fF,fF,fF,fF,fF,fF,fF,fF,fF,fF,fF,fF,fF,fF,fF,fF,fF,fF,fF,fF,fF,fF,fF,fF,fF,fF,fF,fF,fF,fF,fF,fF,fF,fF,fF,fF,fF,fF,fF,fF,fF,fF,fF,fF,fF,fF,fF,fF,fF,fF,fF,fF]
def c78r38 : List AOper := [
 oM 154 12,
 oP 155 (.cmp .lss (.t 154) (nI 0))]
def c78r39 : List AOper := [
 oP 4 (.mov (.c (.full []))),
 oP 5 (.mov bF)]
def c78r40 : List AOper := [
 oP 18 (.mov (.c (.full [])))]
def c78r41 : List AOper := [
 oM 156 12,
 oM 19 156]
def c78r42 : List AOper := [
 oM 157 19,
 oM 158 9,
 oP 159 (.cmp .neq (.t 157) (.t 158))]
def c78r43 : List AOper := [
 oF 160 1 7,
 oP 161 (.loadO 1 false (.t 160)),
 oM 162 19,
 oI 163 161 162,
 oL 164 163,
 oM 20 164]
def c78r44 : List AOper := [
 oM 165 19,
 oM 166 20,
 oP 167 (.shift .shl (nI 1) (.t 166)),
 oP 168 (.bits .andNot (.t 165) (.t 167)),
 oM 19 168]
def c78r45 : List AOper := [
 oM 169 0,
 oP 170 (.nilck (.t 169)),
 oF 171 0 170,
 oF 172 1 171,
 oP 173 (.loadO 1 false (.t 172)),
 oM 174 20,
 oI 175 173 174,
 oL 176 175,
 oN 177 176,
 oP 178 (.mov (nI 0))]
def c78r46 : List AOper := [
 oP 179 (.cmp .lss (.t 178) (.t 177))]
def c78r47 : List AOper := [
 oI 180 176 178,
 oL 181 180,
 oM 22 181]
def c78r48 : List AOper := [
 oM 182 0,
 oP 183 (.nilck (.t 182)),
 oF 184 0 183,
 oF 185 0 184,
 oP 186 (.loadO 1 false (.t 185)),
 oM 187 20,
 oI 188 186 187,
 oL 189 188,
 oP 190 (.not (.t 189)),
 oM 191 190,
 oH 192 191 true 19,
 oH 193 191 true 22,
 oG 194 191 true (.shift .shr (.t 192) (.t 193)),
 oG 195 191 true (.bits .and (.t 194) (nI 1)),
 oG 196 191 true (.cmp .eql (.t 195) (nI 0)),
 oP 197 (.pick (.t 191) (.t 196) bF)]
def c78r49 : List AOper := [
 oM 198 18,
 oM 199 20,
 oM 200 22,
 oP 201 (.build [(.s (.int .i64 0)), (.s (.int .i64 0))] [(0, 1, (.t 199)), (1, 1, (.t 200))]),
 oP 202 (.buildSl 2 1 (.agg [(.int .i64 0), (.int .i64 0)]) [(0, (.t 201))]),
 oP 203 (.append 2 16 (.t 198) (.t 202)),
 oM 18 203]
def c78r50 : List AOper := [
 oP 204 (.arith .add (.t 178) (nI 1)),
 oM 178 204]
def c78l51 : ACode := (.seq (.reg 0 c78r46) (.seq (.cond (.t 179) .skip (.exit 10)) (.seq (.block 11 (.seq (.reg 0 c78r47) (.seq (.reg 0 c78r48) (.cond (.t 197) (.reg 1 c78r49) .skip)))) (.reg 0 c78r50))))
def c78l51m : List Bool := [tT,fF,fF,fF,fF,fF,fF,tT,fF,tT,fF,fF,fF,fF,fF,fF,fF,fF,tT,tT,tT,fF,fF,fF,fF,fF,fF,fF,fF,fF,fF,fF,fF,fF,fF,fF,fF,fF,fF,fF,fF,fF,fF,fF,fF,fF,fF,fF,fF,fF,fF,fF,fF,fF,fF,fF,fF,fF,fF,fF,fF,fF,fF,fF,fF,fF,fF,fF,fF,fF,fF,fF,fF,fF,fF,fF,fF,fF,fF,fF,fF,fF,fF,fF,fF,fF,fF,fF,fF,fF,fF,fF,fF,fF,fF,fF,fF,fF,fF,fF,fF,fF,fF,fF,fF,fF,fF,fF,fF,fF,fF,fF,fF,fF,fF,fF,fF,fF,fF,fF,fF,fF,fF,fF,fF,fF,fF,fF,fF,fF,fF,fF,fF,fF,fF,fF,fF,fF,fF,fF,fF,fF,fF,fF,fF,fF,fF,fF,fF,fF,fF,fF,fF,fF,fF,fF,fF,fF,fF,fF,fF,fF,fF,fF,fF,fF,fF,fF,fF,fF,fF,fF,fF,fF,fF,fF,tT,tT,tT,fF,fF,fF,fF,fF,fF,fF,fF,fF,fF,fF,fF,fF,fF,fF,fF,fF,fF,fF,fF,fF,fF,fF,fF,fF,fF,fF,fF,fF]
def c78l52 : ACode := (.seq (.seq (.reg 0 c78r42) (.cond (.t 159) .skip (.exit 8))) (.block 9 (.seq (.reg 0 c78r43) (.seq (.reg 0 c78r44) (.seq (.reg 0 c78r45) (.block 10 (.loop c78l51m [(18, none, 1)] c78l51)))))))
def c78l52m : List Bool := [tT,fF,fF,fF,fF,fF,fF,tT,fF,tT,fF,fF,fF,fF,fF,fF,fF,fF,tT,tT,fF,fF,fF,fF,fF,fF,fF,fF,fF,fF,fF,fF,fF,fF,fF,fF,fF,fF,fF,fF,fF,fF,fF,fF,fF,fF,fF,fF,fF,fF,fF,fF,fF,fF,fF,fF,fF,fF,fF,fF,fF,fF,fF,fF,fF,fF,fF,fF,fF,fF,fF,fF,fF,fF,fF,fF,fF,fF,fF,fF,fF,fF,fF,fF,fF,fF,fF,fF,fF,fF,fF,fF,fF,fF,fF,fF,fF,fF,fF,fF,fF,fF,fF,fF,fF,fF,fF,fF,fF,fF,fF,fF,fF,fF,fF,fF,fF,fF,fF,fF,fF,fF,fF,fF,fF,fF,fF,fF,fF,fF,fF,fF,fF,fF,fF,fF,fF,fF,fF,fF,fF,fF,fF,fF,fF,fF,fF,fF,fF,fF,fF,fF,fF,fF,fF,fF,fF,fF,fF,fF,fF,fF,fF,fF,fF,fF,fF,fF,fF,fF,fF,fF,fF,fF,fF,fF,fF,fF,fF,fF,fF,fF,fF,fF,fF,fF,fF,fF,fF,fF,fF,fF,fF,fF,fF,fF,fF,fF,fF,fF,fF,fF,fF,fF,fF,fF,fF,fF]
def c78r53 : List AOper := [
 oM 205 18,
 oP 206 (.callI 94 [(.t 205), (.c (.s (.fn 95 [] [])))])]
def c78r54 : List AOper := [
 oM 207 18,
 oM 4 207,
 oP 5 (.mov bT)]
def f78 : FRow := ⟨(.seq (.reg 0 c78r0) (.seq (.reg 0 c78r1) (.seq (.reg 3 c78r2) (.seq (.seq (.reg 0 c78r3) (.block 0 (.loop c78l8m [] c78l8))) (.seq (.reg 0 c78r9) (.seq (.seq (.reg 0 c78r10) (.block 2 (.loop c78l16m [] c78l16))) (.seq (.reg 0 c78r17) (.seq (.reg 0 c78r18) (.seq (.seq (.reg 0 c78r19) (.block 4 (.loop c78l37m [] c78l37))) (.seq (.seq (.reg 0 c78r38) (.cond (.t 155) (.seq (.reg 0 c78r39) .ret) .skip)) (.seq (.reg 0 c78r40) (.seq (.seq (.reg 0 c78r41) (.block 8 (.loop c78l52m [(18, none, 1)] c78l52))) (.seq (.reg 0 c78r53) (.seq (.reg 0 c78r54) .ret)))))))))))))), [.tmp 4, .tmp 5], 208⟩
theorem okf78 : f78.Ok Try.prog 78 := ⟨_, _, Try.func78, rfl, by kernel_rfl, by kernel_rfl, by kernel_rfl⟩

def c79r0 : List AOper := [
 oP 4 (.alloc [(.full []), (.full []), (.full [])]),
 oP 5 (.alloc [(.s (.bool false))])]
def c79r1 : List AOper := [
 oP 12 (.mkmap),
 oP 6 (.alloc [(.s (.map [] []))]),
 ⟨none, none, .store 1 (.t 6) (.t 12)⟩]
def c79r2 : List AOper := [
 oP 13 (.build [(.s (.int .i64 0)), (.s (.int .i64 0))] [(0, 1, (nI (-1))), (1, 1, (nI (-1)))]),
 oP 7 (.alloc [(.s (.int .i64 0)), (.s (.int .i64 0))]),
 ⟨none, none, .store 2 (.t 7) (.t 13)⟩]
def c79r3 : List AOper := [
 oM 14 1,
 oN 15 14,
 oP 16 (.mov (nI 0))]
def c79r4 : List AOper := [
 oP 17 (.cmp .lss (.t 16) (.t 15))]
def c79r5 : List AOper := [
 oP 18 (.idxA 2 (.t 14) (.t 16)),
 oP 19 (.load 2 true (.t 18)),
 oP 9 (.alloc [(.s (.int .i64 0)), (.s (.int .i64 0))]),
 ⟨none, none, .store 2 (.t 9) (.t 19)⟩]
def c79r6 : List AOper := [
 oP 20 (.sliceArr 2 1 (.t 7) none none),
 oP 21 (.sliceArr 2 1 (.t 9) none none),
 oP 22 (.call 96 [(.t 20), (.t 21)]),
 oP 23 (.cmp .geq (.t 22) (nI 0))]
def c79r7 : List AOper := [
 oP 24 (.build [(.full []), (.full []), (.full [])] []),
 ⟨none, none, .store 3 (.t 4) (.t 24)⟩,
 ⟨none, none, .store 1 (.t 5) bF⟩]
def c79r8 : List AOper := [
 oP 25 (.loadO 1 false (.t 6)),
 oP 26 (.idxArrA 2 1 (.t 9) (nI 0)),
 oP 27 (.loadO 1 false (.t 26)),
 oP 28 (.idxArrA 2 1 (.t 9) (nI 1)),
 oP 29 (.loadO 1 false (.t 28)),
 oP 30 (.build [(.s (.int .i64 0)), (.s (.int .i64 0))] [(0, 1, (.t 27)), (1, 1, (.t 29))]),
 ⟨none, none, .mset [(.int .i64), (.int .i64)] (.t 25) (.t 30) (nI 1)⟩]
def c79r9 : List AOper := [
 oP 31 (.loadO 2 true (.t 9)),
 ⟨none, none, .store 2 (.t 7) (.t 31)⟩]
def c79r10 : List AOper := [
 oP 32 (.arith .add (.t 16) (nI 1)),
 oM 16 32]
def c79l11 : ACode := (.seq (.reg 0 c79r4) (.seq (.cond (.t 17) .skip (.exit 0)) (.seq (.block 1 (.seq (.reg 1 c79r5) (.seq (.seq (.reg 0 c79r6) (.cond (.t 23) (.seq (.reg 0 c79r7) .ret) .skip)) (.seq (.reg 0 c79r8) (.reg 0 c79r9))))) (.reg 0 c79r10))))
def c79l11m : List Bool := [tT,fF,fF,fF,tT,tT,tT,tT,fF,fF,fF,fF,fF,fF,tT,tT,tT,fF,fF,fF,fF,fF,fF,fF,fF,fF,fF,fF,fF,fF,fF,fF,fF,fF,fF,fF,fF,fF,fF,fF,fF,fF,fF,fF,fF,fF,fF,fF,fF,fF,fF,fF,tT,fF,fF,fF,fF,fF,fF,fF,fF,fF,fF,fF,fF,fF,fF,fF,fF,fF,fF,fF,fF,fF,fF,fF,fF,fF,fF,fF,fF,fF,fF,fF,fF,fF]
def c79r12 : List AOper := [
 oM 33 0,
 oP 34 (.nilck (.t 33)),
 oF 35 0 34,
 oF 36 0 35,
 oP 37 (.loadO 1 false (.t 36)),
 oM 38 0,
 oP 39 (.nilck (.t 38)),
 oF 40 0 39,
 oF 41 2 40,
 oP 42 (.loadO 1 false (.t 41)),
 oM 43 0,
 oP 44 (.nilck (.t 43)),
 oF 45 0 44,
 oF 46 1 45,
 oP 47 (.loadO 1 false (.t 46)),
 oP 48 (.callN 1 73 [(.t 47)]),
 oP 49 (.build [(.full []), (.full []), (.full [])] [(0, 1, (.t 37)), (2, 1, (.t 42)), (1, 1, (.t 48))]),
 oP 10 (.alloc [(.full []), (.full []), (.full [])]),
 ⟨none, none, .store 3 (.t 10) (.t 49)⟩]
def c79r13 : List AOper := [
 oM 50 0,
 oP 51 (.call 97 [(.t 50)])]
def c79r14 : List AOper := [
 oP 11 (.alloc [(.s (.int .i64 0)), (.s (.int .i64 0))]),
 ⟨none, none, .store 2 (.t 11) (.t 52)⟩]
def c79r15 : List AOper := [
 oP 53 (.loadO 1 false (.t 6)),
 oP 54 (.loadO 2 true (.t 11)),
 oP 55 (.mget false [(.int .i64), (.int .i64)] (.int .i64 0) (.t 53) (.t 54)),
 oP 56 (.cmp .eql (.t 55) (nI 0))]
def c79r16 : List AOper := [
 oF 57 1 10,
 oP 58 (.loadO 1 false (.t 57)),
 oF 59 0 11,
 oP 60 (.loadO 1 false (.t 59)),
 oF 61 1 10,
 oP 62 (.loadO 1 false (.t 61)),
 oF 63 0 11,
 oP 64 (.loadO 1 false (.t 63)),
 oI 65 62 64,
 oL 66 65,
 oP 67 (.callN 1 75 [(.t 66)]),
 oP 68 (.mkfn 98 [] [(.t 11)]),
 oP 69 (.callF 74 (.t 67) [(.t 68)]),
 oI 70 58 60,
 ⟨none, none, .storeR 1 (.t 70) (.t 69)⟩]
def c79r17 : List AOper := [
 oP 71 (.loadO 1 false (.t 6)),
 oP 72 (.loadO 2 true (.t 11)),
 ⟨none, none, .mdel [(.int .i64), (.int .i64)] (.t 71) (.t 72)⟩]
def c79r18 : List AOper := [
 oF 73 1 10,
 oP 74 (.loadO 1 false (.t 73)),
 oF 75 0 11,
 oP 76 (.loadO 1 false (.t 75)),
 oI 77 74 76,
 oL 78 77,
 oN 79 78,
 oP 80 (.cmp .eql (.t 79) (nI 0))]
def c79r19 : List AOper := [
 oP 81 (.build [(.full []), (.full []), (.full [])] []),
 ⟨none, none, .store 3 (.t 4) (.t 81)⟩,
 ⟨none, none, .store 1 (.t 5) bF⟩]
def c79b20 : ACode := (.block 3 (.seq (.seq (.reg 0 c79r15) (.cond (.t 56) (.exit 3) .skip)) (.seq (.reg 1 c79r16) (.seq (.reg 0 c79r17) (.seq (.reg 0 c79r18) (.cond (.t 80) (.seq (.reg 0 c79r19) .ret) .skip))))))
def c79r21 : List AOper := [
 oP 82 (.loadO 3 true (.t 10)),
 oP 83 (.loadO 1 false (.t 6)),
 oP 84 (.mlen (.t 83)),
 oP 85 (.cmp .eql (.t 84) (nI 0)),
 ⟨none, none, .store 3 (.t 4) (.t 82)⟩,
 ⟨none, none, .store 1 (.t 5) (.t 85)⟩]
def t79 : TRow := ⟨(.seq (.reg 2 c79r0) (.seq (.reg 2 c79r1) (.seq (.reg 1 c79r2) (.seq (.seq (.reg 0 c79r3) (.block 0 (.loop c79l11m [] c79l11))) (.seq (.reg 2 c79r12) (.rangeF (.reg 0 c79r13) 2 (.t 51) 52 (.reg 1 c79r14) c79b20 (.seq (.reg 0 c79r21) (.code .ret)))))))), [.cell 4 3 true, .cell 5 1 false], 86⟩
theorem okt79 : t79.Ok Try.prog 79 := ⟨_, _, Try.func79, rfl, by kernel_rfl, by kernel_rfl, by kernel_rfl⟩

def c80r0 : List AOper := [
 oP 1 (.boxS (.t 0)),
 oP 2 (.mov (.c (.s .nilp)))]
def c80r1 : List AOper := [
 oP 11 (.load 3 true (.t 1)),
 oP 12 (.build [(.full []), (.full []), (.full []), (.s (.int .i64 0)), (.s (.int .i64 0)), (.s (.int .i64 0)), (.s (.int .i64 0)), (.s (.int .i64 0)), (.s (.int .i64 0)), (.s (.int .i64 0)), (.s (.int .i64 0)), (.s (.int .i64 0)), (.s (.int .i64 0)), (.s (.int .i64 0)), (.s (.int .i64 0)), (.s (.int .i64 0)), (.s (.int .i64 0))] [(0, 3, (.t 11))]),
 oP 13 (.boxM (.t 12)),
 oM 3 13]
def c80r2 : List AOper := [
 oP 14 (.mov (nI 0))]
def c80r3 : List AOper := [
 oP 15 (.cmp .lss (.t 14) (nI 14))]
def c80r4 : List AOper := [
 oM 16 14,
 oM 4 16]
def c80r5 : List AOper := [
 oM 17 3,
 oM 18 4,
 oP 19 (.nilck (.t 17)),
 oF 20 3 19,
 oP 21 (.idxArrA 14 1 (.t 20) (.t 18)),
 ⟨none, none, .store 1 (.t 21) (nI (-1))⟩]
def c80r6 : List AOper := [
 oP 22 (.arith .add (.t 14) (nI 1)),
 oM 14 22]
def c80l7 : ACode := (.seq (.reg 0 c80r3) (.seq (.cond (.t 15) .skip (.exit 0)) (.seq (.block 1 (.seq (.reg 0 c80r4) (.reg 0 c80r5))) (.reg 0 c80r6))))
def c80l7m : List Bool := [fF,fF,fF,tT,fF,fF,fF,fF,fF,fF,fF,fF,fF,fF,tT,fF,fF,fF,fF,fF,fF,fF,fF,fF,fF,fF,fF,fF,fF,fF,fF,fF,fF,fF,fF,fF,fF,fF,fF,fF,fF,fF,fF,fF,fF,fF,fF,fF,fF,fF,fF,fF,fF,fF,fF,fF,fF,fF,fF,fF,fF,fF,fF,fF,fF,fF,fF,fF,fF,fF,fF,fF,fF,fF,fF,fF,fF,fF,fF,fF,fF]
def c80r8 : List AOper := [
 oM 23 3,
 oP 24 (.nilck (.t 23)),
 oF 25 0 24,
 oF 26 2 25,
 oL 27 26,
 oN 28 27,
 oP 29 (.mov (nI 0))]
def c80r9 : List AOper := [
 oP 30 (.cmp .lss (.t 29) (.t 28))]
def c80r10 : List AOper := [
 oM 31 29,
 oI 32 27 29,
 oL 33 32,
 oM 5 31,
 oM 6 33]
def c80r11 : List AOper := [
 oM 34 6]
def c80r12 : List AOper := [
 oM 35 3,
 oM 36 5,
 oP 37 (.nilck (.t 35)),
 oF 38 3 37,
 oP 39 (.idxArrA 14 1 (.t 38) (.t 36)),
 ⟨none, none, .store 1 (.t 39) (nI 0)⟩]
def c80r13 : List AOper := [
 oP 40 (.arith .add (.t 29) (nI 1)),
 oM 29 40]
def c80l14 : ACode := (.seq (.reg 0 c80r9) (.seq (.cond (.t 30) .skip (.exit 2)) (.seq (.block 3 (.seq (.reg 0 c80r10) (.seq (.reg 0 c80r11) (.cond (.t 34) (.reg 0 c80r12) .skip)))) (.reg 0 c80r13))))
def c80l14m : List Bool := [fF,fF,fF,tT,fF,fF,fF,fF,fF,fF,fF,fF,fF,fF,fF,fF,fF,fF,fF,fF,fF,fF,fF,fF,fF,fF,fF,tT,tT,tT,fF,fF,fF,fF,fF,fF,fF,fF,fF,fF,fF,fF,fF,fF,fF,fF,fF,fF,fF,fF,fF,fF,fF,fF,fF,fF,fF,fF,fF,fF,fF,fF,fF,fF,fF,fF,fF,fF,fF,fF,fF,fF,fF,fF,fF,fF,fF,fF,fF,fF,fF]
def c80r15 : List AOper := [
 oP 7 (.mov (nI 1))]
def c80r16 : List AOper := [
 oM 43 3,
 oP 44 (.nilck (.t 43)),
 oF 45 3 44,
 oP 46 (.load 14 true (.t 45)),
 oP 8 (.alloc [(.s (.int .i64 0)), (.s (.int .i64 0)), (.s (.int .i64 0)), (.s (.int .i64 0)), (.s (.int .i64 0)), (.s (.int .i64 0)), (.s (.int .i64 0)), (.s (.int .i64 0)), (.s (.int .i64 0)), (.s (.int .i64 0)), (.s (.int .i64 0)), (.s (.int .i64 0)), (.s (.int .i64 0)), (.s (.int .i64 0))]),
 ⟨none, none, .store 14 (.t 8) (.t 46)⟩]
def c80r17 : List AOper := [
 oP 47 (.mkfn 99 [] [(.t 8)]),
 oM 9 47]
def c80r18 : List AOper := [
 oM 48 3,
 oP 49 (.nilck (.t 48)),
 oF 50 0 49,
 oF 51 1 50,
 oL 52 51,
 oN 53 52,
 oP 54 (.mov (nI 0))]
def c80r19 : List AOper := [
 oP 55 (.cmp .lss (.t 54) (.t 53))]
def c80r20 : List AOper := [
 oM 56 54,
 oM 10 56]
def c80r21 : List AOper := [
 oM 57 10,
 oP 58 (.idxArrA 14 1 (.t 8) (.t 57)),
 oL 59 58,
 oP 60 (.cmp .lss (.t 59) (nI 0)),
 oM 61 60,
 oH 62 61 true 3,
 oH 63 61 true 10,
 oH 64 61 true 9,
 oG 65 61 true (.call 66 [(.t 62), (.t 63), (.t 64)]),
 oP 66 (.pick (.t 61) (.t 65) bF)]
def c80r22 : List AOper := [
 oM 67 3,
 oM 68 10,
 oM 69 7,
 oP 70 (.nilck (.t 67)),
 oF 71 3 70,
 oP 72 (.idxArrA 14 1 (.t 71) (.t 68)),
 ⟨none, none, .store 1 (.t 72) (.t 69)⟩]
def c80r23 : List AOper := [
 oP 73 (.arith .add (.t 54) (nI 1)),
 oM 54 73]
def c80l24 : ACode := (.seq (.reg 0 c80r19) (.seq (.cond (.t 55) .skip (.exit 6)) (.seq (.block 7 (.seq (.reg 0 c80r20) (.seq (.reg 0 c80r21) (.cond (.t 66) (.reg 0 c80r22) .skip)))) (.reg 0 c80r23))))
def c80l24m : List Bool := [fF,fF,fF,tT,fF,fF,fF,tT,tT,tT,fF,fF,fF,fF,fF,fF,fF,fF,fF,fF,fF,fF,fF,fF,fF,fF,fF,fF,fF,fF,fF,fF,fF,fF,fF,fF,fF,fF,fF,fF,fF,fF,fF,fF,fF,fF,fF,fF,fF,fF,fF,fF,fF,tT,tT,fF,fF,fF,fF,fF,fF,fF,fF,fF,fF,fF,fF,fF,fF,fF,fF,fF,fF,fF,fF,fF,fF,fF,fF,fF,fF]
def c80r25 : List AOper := [
 oM 74 3,
 oP 75 (.nilck (.t 74)),
 oF 76 3 75,
 oP 77 (.load 14 true (.t 76)),
 oP 78 (.load 14 true (.t 8)),
 oP 79 (.eql true [(.int .i64), (.int .i64), (.int .i64), (.int .i64), (.int .i64), (.int .i64), (.int .i64), (.int .i64), (.int .i64), (.int .i64), (.int .i64), (.int .i64), (.int .i64), (.int .i64)] false (.t 77) (.t 78))]
def c80r26 : List AOper := [
 oM 80 3,
 oM 2 80]
def c80r27 : List AOper := [
 oM 41 7,
 oP 42 (.arith .add (.t 41) (nI 1)),
 oM 7 42]
def c80l28 : ACode := (.seq (.block 5 (.seq (.reg 1 c80r16) (.seq (.reg 0 c80r17) (.seq (.seq (.reg 0 c80r18) (.block 6 (.loop c80l24m [] c80l24))) (.seq (.reg 0 c80r25) (.cond (.t 79) (.seq (.reg 0 c80r26) .ret) .skip)))))) (.reg 0 c80r27))
def c80l28m : List Bool := [fF,fF,fF,tT,fF,fF,fF,tT,fF,fF,fF,fF,fF,fF,fF,fF,fF,fF,fF,fF,fF,fF,fF,fF,fF,fF,fF,fF,fF,fF,fF,fF,fF,fF,fF,fF,fF,fF,fF,fF,fF,fF,fF,fF,fF,fF,fF,fF,fF,fF,fF,fF,fF,fF,fF,fF,fF,fF,fF,fF,fF,fF,fF,fF,fF,fF,fF,fF,fF,fF,fF,fF,fF,fF,fF,fF,fF,fF,fF,fF,fF]
def f80 : FRow := ⟨(.seq (.reg 0 c80r0) (.seq (.reg 1 c80r1) (.seq (.seq (.reg 0 c80r2) (.block 0 (.loop c80l7m [] c80l7))) (.seq (.seq (.reg 0 c80r8) (.block 2 (.loop c80l14m [] c80l14))) (.seq (.reg 0 c80r15) (.block 4 (.loop c80l28m [] c80l28))))))), [.tmp 2], 81⟩
theorem okf80 : f80.Ok Try.prog 80 := ⟨_, _, Try.func80, rfl, by kernel_rfl, by kernel_rfl, by kernel_rfl⟩

def c81r0 : List AOper := [
 oP 2 (.boxS (.t 0)),
 oP 4 (.mov bF)]
def c81r1 : List AOper := [
 oF 9 1 2,
 oL 10 9,
 oN 11 10,
 oP 12 (.mkslice 1 8 [(.int .i64 0)] (.t 11) (.t 11)),
 oM 5 12]
def c81r2 : List AOper := [
 oP 6 (.mov (nI 0))]
def c81r3 : List AOper := [
 oM 13 6,
 oM 14 1,
 oN 15 14,
 oP 16 (.cmp .lss (.t 13) (.t 15))]
def c81r4 : List AOper := [
 oM 19 1,
 oM 20 6,
 oP 21 (.idxA 2 (.t 19) (.t 20)),
 oP 22 (.idxArrA 2 1 (.t 21) (nI 0)),
 oL 23 22,
 oM 24 1,
 oM 25 6,
 oP 26 (.idxA 2 (.t 24) (.t 25)),
 oP 27 (.idxArrA 2 1 (.t 26) (nI 1)),
 oL 28 27,
 oM 7 23,
 oM 8 28]
def c81r5 : List AOper := [
 oM 29 7,
 oP 30 (.cmp .lss (.t 29) (nI 0)),
 oM 31 30,
 oH 32 31 false 7,
 oG 33 31 false (.fieldAddr 1 (.t 2)),
 oG 34 31 false (.load 1 false (.t 33)),
 oG 35 31 false (.len false (.t 34)),
 oG 36 31 false (.cmp .geq (.t 32) (.t 35)),
 oP 37 (.pick (.t 31) bT (.t 36)),
 oM 38 37,
 oG 39 38 false (.fieldAddr 0 (.t 2)),
 oG 40 38 false (.load 1 false (.t 39)),
 oH 41 38 false 7,
 oG 42 38 false (.idxA 1 (.t 40) (.t 41)),
 oG 43 38 false (.load 1 false (.t 42)),
 oP 44 (.pick (.t 38) bT (.t 43)),
 oM 45 44,
 oG 46 45 false (.fieldAddr 2 (.t 2)),
 oG 47 45 false (.load 1 false (.t 46)),
 oH 48 45 false 7,
 oG 49 45 false (.idxA 1 (.t 47) (.t 48)),
 oG 50 45 false (.load 1 false (.t 49)),
 oP 51 (.pick (.t 45) bT (.t 50)),
 oM 52 51,
 oG 53 52 false (.fieldAddr 1 (.t 2)),
 oG 54 52 false (.load 1 false (.t 53)),
 oH 55 52 false 7,
 oG 56 52 false (.idxA 1 (.t 54) (.t 55)),
 oG 57 52 false (.load 1 false (.t 56)),
 oH 58 52 false 8,
 oG 59 52 false (.call 49 [(.t 57), (.t 58)]),
 oG 60 52 false (.not (.t 59)),
 oP 61 (.pick (.t 52) bT (.t 60))]
def c81r6 : List AOper := [
 oP 4 (.mov bF)]
def c81r7 : List AOper := [
 oM 62 6,
 oP 63 (.cmp .gtr (.t 62) (nI 0)),
 oM 64 63,
 oH 65 64 true 7,
 oH 66 64 true 1,
 oH 67 64 true 6,
 oG 68 64 true (.arith .sub (.t 67) (nI 1)),
 oG 69 64 true (.idxA 2 (.t 66) (.t 68)),
 oG 70 64 true (.idxArrA 2 1 (.t 69) (nI 0)),
 oG 71 64 true (.load 1 false (.t 70)),
 oG 72 64 true (.cmp .lss (.t 65) (.t 71)),
 oH 73 64 true 72,
 oH 74 73 false 7,
 oH 75 73 false 1,
 oH 76 73 false 6,
 oG 77 73 false (.arith .sub (.t 76) (nI 1)),
 oG 78 73 false (.idxA 2 (.t 75) (.t 77)),
 oG 79 73 false (.idxArrA 2 1 (.t 78) (nI 0)),
 oG 80 73 false (.load 1 false (.t 79)),
 oG 81 73 false (.cmp .eql (.t 74) (.t 80)),
 oH 82 73 false 81,
 oH 83 82 true 8,
 oH 84 82 true 1,
 oH 85 82 true 6,
 oG 86 82 true (.arith .sub (.t 85) (nI 1)),
 oG 87 82 true (.idxA 2 (.t 84) (.t 86)),
 oG 88 82 true (.idxArrA 2 1 (.t 87) (nI 1)),
 oG 89 82 true (.load 1 false (.t 88)),
 oG 90 82 true (.cmp .leq (.t 83) (.t 89)),
 oG 91 73 false (.pick (.t 82) (.t 90) bF),
 oG 92 64 true (.pick (.t 73) bT (.t 91)),
 oP 93 (.pick (.t 64) (.t 92) bF)]
def c81r8 : List AOper := [
 oP 4 (.mov bF)]
def c81r9 : List AOper := [
 oM 94 5,
 oM 95 7,
 oI 96 94 95,
 oL 97 96,
 oP 98 (.arith .add (.t 97) (nI 1)),
 oI 99 94 95,
 ⟨none, none, .store 1 (.t 99) (.t 98)⟩]
def c81r10 : List AOper := [
 oM 100 5,
 oM 101 7,
 oI 102 100 101,
 oL 103 102,
 oF 104 1 2,
 oL 105 104,
 oM 106 7,
 oI 107 105 106,
 oL 108 107,
 oN 109 108,
 oP 110 (.cmp .eql (.t 103) (.t 109))]
def c81r11 : List AOper := [
 oP 4 (.mov bF)]
def c81r12 : List AOper := [
 oM 17 6,
 oP 18 (.arith .add (.t 17) (nI 1)),
 oM 6 18]
def c81l13 : ACode := (.seq (.seq (.reg 0 c81r3) (.cond (.t 16) .skip (.exit 0))) (.seq (.block 1 (.seq (.reg 0 c81r4) (.seq (.seq (.reg 0 c81r5) (.cond (.t 61) (.seq (.reg 0 c81r6) .ret) .skip)) (.seq (.seq (.reg 0 c81r7) (.cond (.t 93) (.seq (.reg 0 c81r8) .ret) .skip)) (.seq (.reg 0 c81r9) (.seq (.reg 0 c81r10) (.cond (.t 110) (.seq (.reg 0 c81r11) .ret) .skip))))))) (.reg 0 c81r12)))
def c81l13m : List Bool := [fF,tT,tT,fF,fF,tT,tT,fF,fF,fF,fF,fF,fF,fF,fF,fF,fF,fF,fF,fF,fF,fF,fF,fF,fF,fF,fF,fF,fF,fF,fF,fF,fF,fF,fF,fF,fF,fF,fF,fF,fF,fF,fF,fF,fF,fF,fF,fF,fF,fF,fF,fF,fF,fF,fF,fF,fF,fF,fF,fF,fF,fF,fF,fF,fF,fF,fF,fF,fF,fF,fF,fF,fF,fF,fF,fF,fF,fF,fF,fF,fF,fF,fF,fF,fF,fF,fF,fF,fF,fF,fF,fF,fF,fF,fF,fF,fF,fF,fF,fF,fF,fF,fF,fF,fF,fF,fF,fF,fF,fF,fF]
def c81r14 : List AOper := [
 oP 4 (.mov bT)]
def f81 : FRow := ⟨(.seq (.reg 0 c81r0) (.seq (.reg 1 c81r1) (.seq (.seq (.reg 0 c81r2) (.block 0 (.loop c81l13m [] c81l13))) (.seq (.reg 0 c81r14) .ret)))), [.tmp 4], 111⟩
theorem okf81 : f81.Ok Try.prog 81 := ⟨_, _, Try.func81, rfl, by kernel_rfl, by kernel_rfl, by kernel_rfl⟩

def c82r0 : List AOper := [
 oP 6 (.alloc [(.full []), (.full []), (.full [])])]
def c82r1 : List AOper := [
 oM 10 2,
 oP 11 (.build [(.full []), (.full []), (.full [])] [(1, 1, (.t 10))]),
 oP 7 (.alloc [(.full []), (.full []), (.full [])]),
 ⟨none, none, .store 3 (.t 7) (.t 11)⟩]
def c82r2 : List AOper := [
 oP 8 (.mov (nI 0))]
def c82r3 : List AOper := [
 oM 12 8,
 oM 13 0,
 oN 14 13,
 oP 15 (.cmp .lss (.t 12) (.t 14))]
def c82r4 : List AOper := [
 oF 18 0 7,
 oL 19 18,
 oM 20 0,
 oM 21 8,
 oI 22 20 21,
 oL 23 22,
 oP 24 (.cmp .eql (.t 23) (nI 1)),
 oP 25 (.buildSl 1 1 (.bool false) [(0, (.t 24))]),
 oP 26 (.append 1 1 (.t 19) (.t 25)),
 oF 27 0 7,
 ⟨none, none, .store 1 (.t 27) (.t 26)⟩]
def c82r5 : List AOper := [
 oM 16 8,
 oP 17 (.arith .add (.t 16) (nI 1)),
 oM 8 17]
def c82l6 : ACode := (.seq (.seq (.reg 0 c82r3) (.cond (.t 15) .skip (.exit 0))) (.seq (.block 1 (.reg 1 c82r4)) (.reg 0 c82r5)))
def c82l6m : List Bool := [tT,tT,fF,fF,fF,fF,tT,tT,tT,fF,fF,fF,fF,fF,fF,fF,fF,fF,fF,fF,fF,fF,fF,fF,fF,fF,fF,fF,fF,fF,fF,fF,fF,fF,fF,fF,fF,fF,fF,fF,fF,fF,fF,fF,fF]
def c82r7 : List AOper := [
 oP 9 (.mov (nI 0))]
def c82r8 : List AOper := [
 oM 28 9,
 oM 29 1,
 oN 30 29,
 oP 31 (.cmp .lss (.t 28) (.t 30))]
def c82r9 : List AOper := [
 oF 34 2 7,
 oL 35 34,
 oM 36 1,
 oM 37 9,
 oI 38 36 37,
 oL 39 38,
 oP 40 (.cmp .eql (.t 39) (nI 1)),
 oP 41 (.buildSl 1 1 (.bool false) [(0, (.t 40))]),
 oP 42 (.append 1 1 (.t 35) (.t 41)),
 oF 43 2 7,
 ⟨none, none, .store 1 (.t 43) (.t 42)⟩]
def c82r10 : List AOper := [
 oM 32 9,
 oP 33 (.arith .add (.t 32) (nI 1)),
 oM 9 33]
def c82l11 : ACode := (.seq (.seq (.reg 0 c82r8) (.cond (.t 31) .skip (.exit 2))) (.seq (.block 3 (.reg 1 c82r9)) (.reg 0 c82r10)))
def c82l11m : List Bool := [fF,tT,fF,fF,fF,fF,tT,tT,fF,tT,fF,fF,fF,fF,fF,fF,fF,fF,fF,fF,fF,fF,fF,fF,fF,fF,fF,fF,fF,fF,fF,fF,fF,fF,fF,fF,fF,fF,fF,fF,fF,fF,fF,fF,fF]
def c82r12 : List AOper := [
 oP 44 (.load 3 true (.t 7)),
 ⟨none, none, .store 3 (.t 6) (.t 44)⟩]
def f82 : FRow := ⟨(.seq (.reg 1 c82r0) (.seq (.reg 1 c82r1) (.seq (.seq (.reg 0 c82r2) (.block 0 (.loop c82l6m [(7, some 0, 0)] c82l6))) (.seq (.seq (.reg 0 c82r7) (.block 2 (.loop c82l11m [(7, some 2, 0)] c82l11))) (.seq (.reg 0 c82r12) .ret))))), [.cell 6 3 true], 45⟩
theorem okf82 : f82.Ok Try.prog 82 := ⟨_, _, Try.func82, rfl, by kernel_rfl, by kernel_rfl, by kernel_rfl⟩

def c83r0 : List AOper := [
 oP 3 (.boxS (.t 0)),
 oP 6 (.mov (nI 0))]
def c83r1 : List AOper := [
 oF 13 1 3,
 oL 14 13,
 oM 15 1,
 oI 16 14 15,
 oL 17 16,
 oM 7 17]
def c83r2 : List AOper := [
 oP 8 (.mov (nI (-1))),
 oP 9 (.mov (nI (-1))),
 oP 10 (.mov bF)]
def c83r3 : List AOper := [
 oP 11 (.mov (nI 0))]
def c83r4 : List AOper := [
 oM 18 11,
 oM 19 7,
 oN 20 19,
 oP 21 (.cmp .lss (.t 18) (.t 20))]
def c83r5 : List AOper := [
 oM 24 2,
 oM 25 7,
 oM 26 11,
 oI 27 25 26,
 oL 28 27,
 oI 29 24 28,
 oL 30 29,
 oM 12 30]
def c83r6 : List AOper := [
 oM 31 12,
 oP 32 (.cmp .lss (.t 31) (nI 0))]
def c83r7 : List AOper := [
 oP 10 (.mov bT)]
def c83r8 : List AOper := [
 oM 33 8,
 oP 34 (.cmp .lss (.t 33) (nI 0)),
 oM 35 34,
 oH 36 35 false 12,
 oH 37 35 false 8,
 oG 38 35 false (.cmp .lss (.t 36) (.t 37)),
 oP 39 (.pick (.t 35) bT (.t 38))]
def c83r9 : List AOper := [
 oM 40 12,
 oM 8 40]
def c83r10 : List AOper := [
 oM 41 9,
 oM 42 12,
 oP 43 (.max [(.t 41), (.t 42)]),
 oM 9 43]
def c83r11 : List AOper := [
 oM 22 11,
 oP 23 (.arith .add (.t 22) (nI 1)),
 oM 11 23]
def c83l12 : ACode := (.seq (.seq (.reg 0 c83r4) (.cond (.t 21) .skip (.exit 0))) (.seq (.block 1 (.seq (.reg 0 c83r5) (.seq (.seq (.reg 0 c83r6) (.cond (.t 32) (.seq (.reg 0 c83r7) (.exit 1)) .skip)) (.seq (.seq (.reg 0 c83r8) (.cond (.t 39) (.reg 0 c83r9) .skip)) (.reg 0 c83r10))))) (.reg 0 c83r11)))
def c83l12m : List Bool := [fF,tT,tT,tT,fF,fF,fF,tT,tT,tT,tT,tT,fF,fF,fF,fF,fF,fF,fF,fF,fF,fF,fF,fF,fF,fF,fF,fF,fF,fF,fF,fF,fF,fF,fF,fF,fF,fF,fF,fF,fF,fF,fF,fF,fF,fF,fF,fF,fF,fF,fF,fF,fF,fF,fF,fF,fF,fF,fF,fF,fF,fF,fF,fF,fF,fF]
def c83r13 : List AOper := [
 oM 44 8,
 oP 45 (.cmp .lss (.t 44) (nI 0)),
 oM 46 45,
 oG 47 46 false (.fieldAddr 0 (.t 3)),
 oG 48 46 false (.load 1 false (.t 47)),
 oH 49 46 false 1,
 oG 50 46 false (.idxA 1 (.t 48) (.t 49)),
 oG 51 46 false (.load 1 false (.t 50)),
 oG 52 46 false (.not (.t 51)),
 oH 53 46 false 52,
 oH 54 53 true 10,
 oG 55 46 false (.pick (.t 53) (.t 54) bF),
 oP 56 (.pick (.t 46) bT (.t 55))]
def c83r14 : List AOper := [
 oP 6 (.mov (nI (-1)))]
def c83r15 : List AOper := [
 oF 57 0 3,
 oL 58 57,
 oM 59 1,
 oI 60 58 59,
 oL 61 60]
def c83r16 : List AOper := [
 oM 62 8,
 oP 63 (.arith .add (.t 62) (nI 1)),
 oM 6 63]
def c83r17 : List AOper := [
 oM 64 9,
 oP 65 (.arith .add (.t 64) (nI 1)),
 oM 6 65]
def f83 : FRow := ⟨(.seq (.reg 0 c83r0) (.seq (.reg 0 c83r1) (.seq (.reg 0 c83r2) (.seq (.seq (.reg 0 c83r3) (.block 0 (.loop c83l12m [] c83l12))) (.seq (.seq (.reg 0 c83r13) (.cond (.t 56) (.seq (.reg 0 c83r14) .ret) .skip)) (.seq (.seq (.reg 0 c83r15) (.cond (.t 61) (.seq (.reg 0 c83r16) .ret) .skip)) (.seq (.reg 0 c83r17) .ret))))))), [.tmp 6], 66⟩
theorem okf83 : f83.Ok Try.prog 83 := ⟨_, _, Try.func83, rfl, by kernel_rfl, by kernel_rfl, by kernel_rfl⟩

def c84r0 : List AOper := [
 oP 4 (.mov bF)]
def c84r1 : List AOper := [
 oM 5 0,
 oM 6 1,
 oP 7 (.call 92 [(.t 5), (.t 6)]),
 oP 8 (.cmp .geq (.t 7) (nI 0)),
 oM 4 8]
def f84 : FRow := ⟨(.seq (.reg 0 c84r0) (.seq (.reg 0 c84r1) .ret)), [.tmp 4], 9⟩
theorem okf84 : f84.Ok Try.prog 84 := ⟨_, _, Try.func84, rfl, by kernel_rfl, by kernel_rfl, by kernel_rfl⟩

def c85r0 : List AOper := [
 oP 4 (.mov bF)]
def c85r1 : List AOper := [
 oM 5 0,
 oL 6 1,
 oP 7 (.cmp .lss (.t 5) (.t 6)),
 oM 8 7,
 oH 9 8 false 0,
 oG 10 8 false (.load 1 false (.t 2)),
 oG 11 8 false (.cmp .gtr (.t 9) (.t 10)),
 oP 12 (.pick (.t 8) bT (.t 11)),
 oM 4 12]
def f85 : FRow := ⟨(.seq (.reg 0 c85r0) (.seq (.reg 0 c85r1) .ret)), [.tmp 4], 13⟩
theorem okf85 : f85.Ok Try.prog 85 := ⟨_, _, Try.func85, rfl, by kernel_rfl, by kernel_rfl, by kernel_rfl⟩

def c86r0 : List AOper := [
 oP 4 (.mov (nI 0))]
def c86r1 : List AOper := [
 oM 6 0,
 oN 7 6,
 oP 8 (.mov (nI 0))]
def c86r2 : List AOper := [
 oP 9 (.cmp .lss (.t 8) (.t 7))]
def c86r3 : List AOper := [
 oM 10 8,
 oM 5 10]
def c86r4 : List AOper := [
 oM 11 1,
 oM 12 0,
 oM 13 5,
 oI 14 12 13,
 oL 15 14,
 oP 16 (.callv (.t 11) [(.t 15)])]
def c86r5 : List AOper := [
 oM 17 5,
 oM 4 17]
def c86r6 : List AOper := [
 oP 18 (.arith .add (.t 8) (nI 1)),
 oM 8 18]
def c86l7 : ACode := (.seq (.reg 0 c86r2) (.seq (.cond (.t 9) .skip (.exit 0)) (.seq (.block 1 (.seq (.reg 0 c86r3) (.seq (.reg 0 c86r4) (.cond (.t 16) (.seq (.reg 0 c86r5) .ret) .skip)))) (.reg 0 c86r6))))
def c86l7m : List Bool := [tT,tT,fF,fF,fF,fF,fF,tT,tT,fF,fF,fF,fF,fF,fF,fF,fF,fF,fF]
def c86r8 : List AOper := [
 oP 4 (.mov (nI (-1)))]
def f86 : FRow := ⟨(.seq (.reg 0 c86r0) (.seq (.seq (.reg 0 c86r1) (.block 0 (.loop c86l7m [] c86l7))) (.seq (.reg 0 c86r8) .ret))), [.tmp 4], 19⟩
theorem okf86 : f86.Ok Try.prog 86 := ⟨_, _, Try.func86, rfl, by kernel_rfl, by kernel_rfl, by kernel_rfl⟩

def c87r0 : List AOper := [
 oP 3 (.mov bF)]
def c87r1 : List AOper := [
 oL 4 1,
 oM 5 0,
 oP 6 (.callv (.t 4) [(.t 5)]),
 oP 7 (.not (.t 6)),
 oM 3 7]
def f87 : FRow := ⟨(.seq (.reg 0 c87r0) (.seq (.reg 0 c87r1) .ret)), [.tmp 3], 8⟩
theorem okf87 : f87.Ok Try.prog 87 := ⟨_, _, Try.func87, rfl, by kernel_rfl, by kernel_rfl, by kernel_rfl⟩

def c88r0 : List AOper := [
 oP 4 (.mov (nI 0))]
def c88r1 : List AOper := [
 oM 6 0,
 oN 7 6,
 oP 8 (.mov (nI 0))]
def c88r2 : List AOper := [
 oP 9 (.cmp .lss (.t 8) (.t 7))]
def c88r3 : List AOper := [
 oM 10 8,
 oM 5 10]
def c88r4 : List AOper := [
 oM 11 1,
 oM 12 0,
 oM 13 5,
 oI 14 12 13,
 oL 15 14,
 oP 16 (.cmp .eql (.t 11) (.t 15))]
def c88r5 : List AOper := [
 oM 17 5,
 oM 4 17]
def c88r6 : List AOper := [
 oP 18 (.arith .add (.t 8) (nI 1)),
 oM 8 18]
def c88l7 : ACode := (.seq (.reg 0 c88r2) (.seq (.cond (.t 9) .skip (.exit 0)) (.seq (.block 1 (.seq (.reg 0 c88r3) (.seq (.reg 0 c88r4) (.cond (.t 16) (.seq (.reg 0 c88r5) .ret) .skip)))) (.reg 0 c88r6))))
def c88l7m : List Bool := [tT,tT,fF,fF,fF,fF,fF,tT,tT,fF,fF,fF,fF,fF,fF,fF,fF,fF,fF]
def c88r8 : List AOper := [
 oP 4 (.mov (nI (-1)))]
def f88 : FRow := ⟨(.seq (.reg 0 c88r0) (.seq (.seq (.reg 0 c88r1) (.block 0 (.loop c88l7m [] c88l7))) (.seq (.reg 0 c88r8) .ret))), [.tmp 4], 19⟩
theorem okf88 : f88.Ok Try.prog 88 := ⟨_, _, Try.func88, rfl, by kernel_rfl, by kernel_rfl, by kernel_rfl⟩


end Go.Proofs.Ytglmjdpmpgphkaa.Sk

/- The code of functions in the value semantics, and that it stands for theirs. -/
namespace Go.Proofs.Ytglmjdpmpgphkaa.Sk
open Go Go.E

def c89r0 : List AOper := [
 oP 4 (.mov (nI 0)),
 oP 5 (.mov bF)]
def c89r1 : List AOper := [
 oM 9 0,
 oN 10 9,
 oP 11 (.mov (nI 0))]
def c89r2 : List AOper := [
 oP 12 (.cmp .lss (.t 11) (.t 10))]
def c89r3 : List AOper := [
 oI 13 9 11,
 oL 14 13,
 oM 7 14]
def c89r4 : List AOper := [
 oM 15 1,
 oM 16 7,
 oP 17 (.callv (.t 15) [(.t 16)])]
def c89r5 : List AOper := [
 oM 18 7,
 oM 4 18,
 oP 5 (.mov bT)]
def c89r6 : List AOper := [
 oP 19 (.arith .add (.t 11) (nI 1)),
 oM 11 19]
def c89l7 : ACode := (.seq (.reg 0 c89r2) (.seq (.cond (.t 12) .skip (.exit 0)) (.seq (.block 1 (.seq (.reg 0 c89r3) (.seq (.reg 0 c89r4) (.cond (.t 17) (.seq (.reg 0 c89r5) .ret) .skip)))) (.reg 0 c89r6))))
def c89l7m : List Bool := [fF,tT,fF,fF,fF,fF,fF,fF,fF,tT,tT,tT,fF,fF,fF,fF,fF,fF,fF,fF,fF]
def c89r8 : List AOper := [
 oP 8 (.mov (nI 0))]
def c89r9 : List AOper := [
 oM 20 8,
 oM 4 20,
 oP 5 (.mov bF)]
def f89 : FRow := ⟨(.seq (.reg 0 c89r0) (.seq (.seq (.reg 0 c89r1) (.block 0 (.loop c89l7m [] c89l7))) (.seq (.reg 0 c89r8) (.seq (.reg 0 c89r9) .ret)))), [.tmp 4, .tmp 5], 21⟩
theorem okf89 : f89.Ok Try.prog 89 := ⟨_, _, Try.func89, rfl, by kernel_rfl, by kernel_rfl, by kernel_rfl⟩

def c90r0 : List AOper := [
 oP 4 (.mov bF)]
def c90r1 : List AOper := [
 oL 5 1,
 oM 6 0,
 oP 7 (.nilck (.t 5)),
 oF 8 3 7,
 oP 9 (.idxArrA 14 1 (.t 8) (.t 6)),
 oL 10 9,
 oL 11 2,
 oP 12 (.cmp .eql (.t 10) (.t 11)),
 oM 4 12]
def f90 : FRow := ⟨(.seq (.reg 0 c90r0) (.seq (.reg 0 c90r1) .ret)), [.tmp 4], 13⟩
theorem okf90 : f90.Ok Try.prog 90 := ⟨_, _, Try.func90, rfl, by kernel_rfl, by kernel_rfl, by kernel_rfl⟩

def c92r0 : List AOper := [
 oP 4 (.mov (nI 0))]
def c92r1 : List AOper := [
 oM 6 0,
 oN 7 6,
 oP 8 (.mov (nI 0))]
def c92r2 : List AOper := [
 oP 9 (.cmp .lss (.t 8) (.t 7))]
def c92r3 : List AOper := [
 oM 10 8,
 oM 5 10]
def c92r4 : List AOper := [
 oM 11 1,
 oM 12 0,
 oM 13 5,
 oI 14 12 13,
 oL 15 14,
 oP 16 (.callv (.t 11) [(.t 15)])]
def c92r5 : List AOper := [
 oM 17 5,
 oM 4 17]
def c92r6 : List AOper := [
 oP 18 (.arith .add (.t 8) (nI 1)),
 oM 8 18]
def c92l7 : ACode := (.seq (.reg 0 c92r2) (.seq (.cond (.t 9) .skip (.exit 0)) (.seq (.block 1 (.seq (.reg 0 c92r3) (.seq (.reg 0 c92r4) (.cond (.t 16) (.seq (.reg 0 c92r5) .ret) .skip)))) (.reg 0 c92r6))))
def c92l7m : List Bool := [tT,tT,fF,fF,fF,fF,fF,tT,tT,fF,fF,fF,fF,fF,fF,fF,fF,fF,fF]
def c92r8 : List AOper := [
 oP 4 (.mov (nI (-1)))]
def f92 : FRow := ⟨(.seq (.reg 0 c92r0) (.seq (.seq (.reg 0 c92r1) (.block 0 (.loop c92l7m [] c92l7))) (.seq (.reg 0 c92r8) .ret))), [.tmp 4], 19⟩
theorem okf92 : f92.Ok Try.prog 92 := ⟨_, _, Try.func92, rfl, by kernel_rfl, by kernel_rfl, by kernel_rfl⟩

def c93r0 : List AOper := [
 oP 6 (.mov (nI 0))]
def c93r1 : List AOper := [
 oM 8 0,
 oP 9 (.nilck (.t 8)),
 oF 10 0 9,
 oF 11 1 10,
 oL 12 11,
 oM 13 1,
 oI 14 12 13,
 oL 15 14,
 oM 16 2,
 oP 17 (.call 100 [(.t 15), (.t 16)]),
 oM 7 17]
def c93r2 : List AOper := [
 oM 19 7,
 oP 20 (.cmp .eql (.t 19) (nI 0)),
 oM 18 20]
def c93r3 : List AOper := [
 oP 6 (.mov (nI (-1)))]
def c93r4 : List AOper := [
 oM 22 0,
 oP 23 (.nilck (.t 22)),
 oF 24 0 23,
 oF 25 0 24,
 oL 26 25,
 oM 27 1,
 oI 28 26 27,
 oL 29 28,
 oM 21 29]
def c93r5 : List AOper := [
 oP 6 (.mov (nI 0))]
def c93r6 : List AOper := [
 oM 30 0,
 oP 31 (.nilck (.t 30)),
 oF 32 0 31,
 oF 33 1 32,
 oL 34 33,
 oM 35 1,
 oI 36 34 35,
 oL 37 36,
 oN 38 37,
 oM 39 7,
 oP 40 (.arith .sub (.t 38) (.t 39)),
 oM 6 40]
def f93 : FRow := ⟨(.seq (.reg 0 c93r0) (.seq (.reg 0 c93r1) (.seq (.block 0 (.seq (.reg 0 c93r2) (.cond (.t 18) (.seq (.reg 0 c93r3) .ret) (.seq (.reg 0 c93r4) (.cond (.t 21) (.seq (.reg 0 c93r5) .ret) .skip))))) (.seq (.reg 0 c93r6) .ret)))), [.tmp 6], 41⟩
theorem okf93 : f93.Ok Try.prog 93 := ⟨_, _, Try.func93, rfl, by kernel_rfl, by kernel_rfl, by kernel_rfl⟩

def c94r0 : List AOper := [
 oM 5 0,
 oN 6 5,
 oM 4 6]
def c94r1 : List AOper := [
 oM 7 0,
 oM 8 4,
 oM 9 4,
 oP 10 (.conv .u64 (.t 9)),
 oP 11 (.call 102 [(.t 10)]),
 oM 12 1,
 oP 13 (.callI 101 [(.t 7), (nI 0), (.t 8), (.t 11), (.t 12)])]
def f94 : FRow := ⟨(.seq (.reg 0 c94r0) (.reg 0 c94r1)), [], 14⟩
theorem okf94 : f94.Ok Try.prog 94 := ⟨_, _, Try.func94, rfl, by kernel_rfl, by kernel_rfl, by kernel_rfl⟩

def c95r0 : List AOper := [
 oP 2 (.boxS (.t 0)),
 oP 3 (.boxS (.t 1)),
 oP 4 (.mov (nI 0))]
def c95r1 : List AOper := [
 oP 5 (.sliceArr 2 1 (.t 2) none none),
 oP 6 (.sliceArr 2 1 (.t 3) none none),
 oP 7 (.call 96 [(.t 5), (.t 6)]),
 oM 4 7]
def f95 : FRow := ⟨(.seq (.reg 0 c95r0) (.seq (.reg 0 c95r1) .ret)), [.tmp 4], 8⟩
theorem okf95 : f95.Ok Try.prog 95 := ⟨_, _, Try.func95, rfl, by kernel_rfl, by kernel_rfl, by kernel_rfl⟩

def c96r0 : List AOper := [
 oP 4 (.mov (nI 0))]
def c96r1 : List AOper := [
 oM 9 0,
 oN 10 9,
 oP 11 (.mov (nI 0))]
def c96r2 : List AOper := [
 oP 12 (.cmp .lss (.t 11) (.t 10))]
def c96r3 : List AOper := [
 oM 13 11,
 oI 14 9 11,
 oL 15 14,
 oM 5 13,
 oM 6 15]
def c96r4 : List AOper := [
 oM 16 5,
 oM 17 1,
 oN 18 17,
 oP 19 (.cmp .geq (.t 16) (.t 18))]
def c96r5 : List AOper := [
 oP 4 (.mov (nI 1))]
def c96r6 : List AOper := [
 oM 20 1,
 oM 21 5,
 oI 22 20 21,
 oL 23 22,
 oM 7 23]
def c96r7 : List AOper := [
 oM 24 6,
 oM 25 7,
 oP 26 (.call 103 [(.t 24), (.t 25)]),
 oM 8 26]
def c96r8 : List AOper := [
 oM 27 8,
 oP 28 (.cmp .neq (.t 27) (nI 0))]
def c96r9 : List AOper := [
 oM 29 8,
 oM 4 29]
def c96r10 : List AOper := [
 oP 30 (.arith .add (.t 11) (nI 1)),
 oM 11 30]
def c96l11 : ACode := (.seq (.reg 0 c96r2) (.seq (.cond (.t 12) .skip (.exit 0)) (.seq (.block 1 (.seq (.reg 0 c96r3) (.seq (.seq (.reg 0 c96r4) (.cond (.t 19) (.seq (.reg 0 c96r5) .ret) .skip)) (.seq (.reg 0 c96r6) (.seq (.reg 0 c96r7) (.seq (.reg 0 c96r8) (.cond (.t 28) (.seq (.reg 0 c96r9) .ret) .skip))))))) (.reg 0 c96r10))))
def c96l11m : List Bool := [tT,tT,fF,fF,fF,fF,fF,fF,fF,tT,tT,tT,fF,fF,fF,fF,fF,fF,fF,fF,fF,fF,fF,fF,fF,fF,fF,fF,fF,fF,fF,fF,fF,fF,fF,fF]
def c96r12 : List AOper := [
 oM 31 0,
 oN 32 31,
 oM 33 1,
 oN 34 33,
 oP 35 (.cmp .lss (.t 32) (.t 34))]
def c96r13 : List AOper := [
 oP 4 (.mov (nI (-1)))]
def c96r14 : List AOper := [
 oP 4 (.mov (nI 0))]
def f96 : FRow := ⟨(.seq (.reg 0 c96r0) (.seq (.seq (.reg 0 c96r1) (.block 0 (.loop c96l11m [] c96l11))) (.seq (.seq (.reg 0 c96r12) (.cond (.t 35) (.seq (.reg 0 c96r13) .ret) .skip)) (.seq (.reg 0 c96r14) .ret)))), [.tmp 4], 36⟩
theorem okf96 : f96.Ok Try.prog 96 := ⟨_, _, Try.func96, rfl, by kernel_rfl, by kernel_rfl, by kernel_rfl⟩

def c97r0 : List AOper := [
 oP 1 (.boxS (.t 0)),
 oP 2 (.mov (.c .any))]
def c97r1 : List AOper := [
 oP 3 (.mkfn 104 [] [(.t 1)]),
 oM 2 3]
def f97 : FRow := ⟨(.seq (.reg 0 c97r0) (.seq (.reg 0 c97r1) .ret)), [.tmp 2], 4⟩
theorem okf97 : f97.Ok Try.prog 97 := ⟨_, _, Try.func97, rfl, by kernel_rfl, by kernel_rfl, by kernel_rfl⟩

def c98r0 : List AOper := [
 oP 3 (.mov bF)]
def c98r1 : List AOper := [
 oM 4 0,
 oF 5 1 1,
 oL 6 5,
 oP 7 (.cmp .eql (.t 4) (.t 6)),
 oM 3 7]
def f98 : FRow := ⟨(.seq (.reg 0 c98r0) (.seq (.reg 0 c98r1) .ret)), [.tmp 3], 8⟩
theorem okf98 : f98.Ok Try.prog 98 := ⟨_, _, Try.func98, rfl, by kernel_rfl, by kernel_rfl, by kernel_rfl⟩

def c99r0 : List AOper := [
 oP 3 (.mov bF)]
def c99r1 : List AOper := [
 oM 4 0,
 oP 5 (.idxArrA 14 1 (.t 1) (.t 4)),
 oL 6 5,
 oP 7 (.cmp .geq (.t 6) (nI 0)),
 oM 3 7]
def f99 : FRow := ⟨(.seq (.reg 0 c99r0) (.seq (.reg 0 c99r1) .ret)), [.tmp 3], 8⟩
theorem okf99 : f99.Ok Try.prog 99 := ⟨_, _, Try.func99, rfl, by kernel_rfl, by kernel_rfl, by kernel_rfl⟩

def c100r0 : List AOper := [
 oP 4 (.mov (nI 0))]
def c100r1 : List AOper := [
 oM 10 0,
 oN 11 10,
 oP 12 (.mkslice 1 8 [(.int .i64 0)] (.t 11) (.t 11)),
 oM 5 12]
def c100r2 : List AOper := [
 oM 13 5,
 ⟨none, none, .clear 1 [(.int .i64 0)] (.t 13)⟩]
def c100r3 : List AOper := [
 oM 14 1,
 oP 15 (.mkfn 105 [(.t 14)] []),
 oM 6 15]
def c100r4 : List AOper := [
 oP 7 (.mov (nI 0))]
def c100r5 : List AOper := [
 oM 16 0,
 oN 17 16,
 oP 18 (.mov (nI 0))]
def c100r6 : List AOper := [
 oP 19 (.cmp .lss (.t 18) (.t 17))]
def c100r7 : List AOper := [
 oM 20 18,
 oI 21 16 18,
 oL 22 21,
 oM 8 20,
 oM 9 22]
def c100r8 : List AOper := [
 oM 23 6,
 oM 24 9,
 oP 25 (.callv (.t 23) [(.t 24)])]
def c100r9 : List AOper := [
 oM 26 5,
 oM 27 8,
 oI 28 26 27,
 oL 29 28,
 oP 30 (.arith .add (.t 29) (nI 1)),
 oI 31 26 27,
 ⟨none, none, .store 1 (.t 31) (.t 30)⟩]
def c100r10 : List AOper := [
 oM 32 7,
 oM 33 5,
 oM 34 8,
 oI 35 33 34,
 oL 36 35,
 oP 37 (.arith .add (.t 32) (.t 36)),
 oM 7 37]
def c100r11 : List AOper := [
 oP 38 (.arith .add (.t 18) (nI 1)),
 oM 18 38]
def c100l12 : ACode := (.seq (.reg 0 c100r6) (.seq (.cond (.t 19) .skip (.exit 0)) (.seq (.block 1 (.seq (.reg 0 c100r7) (.seq (.seq (.reg 0 c100r8) (.cond (.t 25) (.reg 0 c100r9) .skip)) (.reg 0 c100r10)))) (.reg 0 c100r11))))
def c100l12m : List Bool := [fF,fF,fF,fF,fF,tT,tT,tT,fF,fF,fF,fF,fF,fF,fF,fF,tT,tT,tT,fF,fF,fF,fF,fF,fF,fF,fF,fF,fF,fF,fF,fF,fF,fF,fF,fF,fF,fF,fF,fF]
def c100r13 : List AOper := [
 oM 39 7,
 oM 4 39]
def f100 : FRow := ⟨(.seq (.reg 0 c100r0) (.seq (.reg 1 c100r1) (.seq (.reg 0 c100r2) (.seq (.reg 0 c100r3) (.seq (.reg 0 c100r4) (.seq (.seq (.reg 0 c100r5) (.block 0 (.loop c100l12m [] c100l12))) (.seq (.reg 0 c100r13) .ret))))))), [.tmp 4], 40⟩
theorem okf100 : f100.Ok Try.prog 100 := ⟨_, _, Try.func100, rfl, by kernel_rfl, by kernel_rfl, by kernel_rfl⟩

def c101r0 : List AOper := [
 oP 10 (.mov bT)]
def c101r1 : List AOper := [
 oP 11 (.mov bT)]
def c101r2 : List AOper := [
 oM 21 2,
 oM 22 1,
 oP 23 (.arith .sub (.t 21) (.t 22)),
 oM 12 23]
def c101r3 : List AOper := [
 oM 24 12,
 oP 25 (.cmp .leq (.t 24) (nI 12))]
def c101r4 : List AOper := [
 oM 26 0,
 oM 27 1,
 oM 28 2,
 oM 29 4,
 oP 30 (.callI 106 [(.t 26), (.t 27), (.t 28), (.t 29)])]
def c101r5 : List AOper := [
 oM 31 3,
 oP 32 (.cmp .eql (.t 31) (nI 0))]
def c101r6 : List AOper := [
 oM 33 0,
 oM 34 1,
 oM 35 2,
 oM 36 4,
 oP 37 (.callI 107 [(.t 33), (.t 34), (.t 35), (.t 36)])]
def c101r7 : List AOper := [
 oM 38 10,
 oP 39 (.not (.t 38))]
def c101r8 : List AOper := [
 oM 40 0,
 oM 41 1,
 oM 42 2,
 oM 43 4,
 oP 44 (.callI 108 [(.t 40), (.t 41), (.t 42), (.t 43)])]
def c101r9 : List AOper := [
 oM 45 3,
 oP 46 (.arith .sub (.t 45) (nI 1)),
 oM 3 46]
def c101r10 : List AOper := [
 oM 48 0,
 oM 49 1,
 oM 50 2,
 oM 51 4,
 oP 52 (.callI 109 [(.t 48), (.t 49), (.t 50), (.t 51)]),
 oM 47 52,
 oP 53 (.ext (.t 47) 0),
 oP 54 (.ext (.t 47) 1),
 oM 13 53,
 oM 14 54]
def c101r11 : List AOper := [
 oM 55 14,
 oP 56 (.cmp .eql (.t 55) (nI 2))]
def c101r12 : List AOper := [
 oM 57 0,
 oM 58 1,
 oM 59 2,
 oM 60 4,
 oP 61 (.callI 110 [(.t 57), (.t 58), (.t 59), (.t 60)])]
def c101r13 : List AOper := [
 oM 62 2,
 oP 63 (.arith .sub (.t 62) (nI 1)),
 oM 64 13,
 oM 65 1,
 oP 66 (.arith .sub (.t 64) (.t 65)),
 oP 67 (.arith .sub (.t 63) (.t 66)),
 oM 13 67]
def c101r14 : List AOper := [
 oP 14 (.mov (nI 1))]
def c101r15 : List AOper := [
 oM 68 10,
 oM 69 68,
 oH 70 69 true 11,
 oP 71 (.pick (.t 69) (.t 70) bF),
 oM 72 71,
 oH 73 72 true 14,
 oG 74 72 true (.cmp .eql (.t 73) (nI 1)),
 oP 75 (.pick (.t 72) (.t 74) bF)]
def c101r16 : List AOper := [
 oM 76 0,
 oM 77 1,
 oM 78 2,
 oM 79 4,
 oP 80 (.callI 111 [(.t 76), (.t 77), (.t 78), (.t 79)])]
def c101r17 : List AOper := [
 oM 81 1,
 oP 82 (.cmp .gtr (.t 81) (nI 0)),
 oM 83 82,
 oH 84 83 true 4,
 oH 85 83 true 0,
 oH 86 83 true 1,
 oG 87 83 true (.arith .sub (.t 86) (nI 1)),
 oG 88 83 true (.idxA 2 (.t 85) (.t 87)),
 oG 89 83 true (.load 2 true (.t 88)),
 oH 90 83 true 0,
 oH 91 83 true 13,
 oG 92 83 true (.idxA 2 (.t 90) (.t 91)),
 oG 93 83 true (.load 2 true (.t 92)),
 oG 94 83 true (.callv (.t 84) [(.t 89), (.t 93)]),
 oG 95 83 true (.cmp .lss (.t 94) (nI 0)),
 oG 96 83 true (.not (.t 95)),
 oP 97 (.pick (.t 83) (.t 96) bF)]
def c101r18 : List AOper := [
 oM 98 0,
 oM 99 1,
 oM 100 2,
 oM 101 13,
 oM 102 4,
 oP 103 (.callI 112 [(.t 98), (.t 99), (.t 100), (.t 101), (.t 102)]),
 oM 15 103]
def c101r19 : List AOper := [
 oM 104 15,
 oM 1 104]
def c101r20 : List AOper := [
 oM 106 0,
 oM 107 1,
 oM 108 2,
 oM 109 13,
 oM 110 4,
 oP 111 (.callI 113 [(.t 106), (.t 107), (.t 108), (.t 109), (.t 110)]),
 oM 105 111,
 oP 112 (.ext (.t 105) 0),
 oP 113 (.ext (.t 105) 1),
 oM 16 112,
 oM 17 113]
def c101r21 : List AOper := [
 oM 114 17,
 oM 11 114]
def c101r22 : List AOper := [
 oM 115 16,
 oM 116 1,
 oP 117 (.arith .sub (.t 115) (.t 116)),
 oM 118 2,
 oM 119 16,
 oP 120 (.arith .sub (.t 118) (.t 119)),
 oM 18 117,
 oM 19 120]
def c101r23 : List AOper := [
 oM 121 12,
 oP 122 (.div .quo (.t 121) (nI 8)),
 oM 20 122]
def c101r24 : List AOper := [
 oM 123 18,
 oM 124 19,
 oP 125 (.cmp .lss (.t 123) (.t 124))]
def c101r25 : List AOper := [
 oM 126 18,
 oM 127 20,
 oP 128 (.cmp .geq (.t 126) (.t 127)),
 oM 10 128]
def c101r26 : List AOper := [
 oM 129 0,
 oM 130 1,
 oM 131 16,
 oM 132 3,
 oM 133 4,
 oP 134 (.callI 101 [(.t 129), (.t 130), (.t 131), (.t 132), (.t 133)])]
def c101r27 : List AOper := [
 oM 135 16,
 oP 136 (.arith .add (.t 135) (nI 1)),
 oM 1 136]
def c101r28 : List AOper := [
 oM 137 19,
 oM 138 20,
 oP 139 (.cmp .geq (.t 137) (.t 138)),
 oM 10 139]
def c101r29 : List AOper := [
 oM 140 0,
 oM 141 16,
 oP 142 (.arith .add (.t 141) (nI 1)),
 oM 143 2,
 oM 144 3,
 oM 145 4,
 oP 146 (.callI 101 [(.t 140), (.t 142), (.t 143), (.t 144), (.t 145)])]
def c101r30 : List AOper := [
 oM 147 16,
 oM 2 147]
def c101l31 : ACode := (.block 1 (.seq (.reg 0 c101r2) (.seq (.seq (.reg 0 c101r3) (.cond (.t 25) (.seq (.reg 0 c101r4) .ret) .skip)) (.seq (.seq (.reg 0 c101r5) (.cond (.t 32) (.seq (.reg 0 c101r6) .ret) .skip)) (.seq (.seq (.reg 0 c101r7) (.cond (.t 39) (.seq (.reg 0 c101r8) (.reg 0 c101r9)) .skip)) (.seq (.reg 0 c101r10) (.seq (.seq (.reg 0 c101r11) (.cond (.t 56) (.seq (.reg 0 c101r12) (.seq (.reg 0 c101r13) (.reg 0 c101r14))) .skip)) (.seq (.seq (.reg 0 c101r15) (.cond (.t 75) (.seq (.reg 0 c101r16) (.cond (.t 80) .ret .skip)) .skip)) (.seq (.seq (.reg 0 c101r17) (.cond (.t 97) (.seq (.reg 0 c101r18) (.seq (.reg 0 c101r19) (.exit 1))) .skip)) (.seq (.reg 0 c101r20) (.seq (.reg 0 c101r21) (.seq (.reg 0 c101r22) (.seq (.reg 0 c101r23) (.seq (.reg 0 c101r24) (.cond (.t 125) (.seq (.reg 0 c101r25) (.seq (.reg 0 c101r26) (.reg 0 c101r27))) (.seq (.reg 0 c101r28) (.seq (.reg 0 c101r29) (.reg 0 c101r30))))))))))))))))))
def c101l31m : List Bool := [tT,tT,tT,tT,tT,fF,fF,fF,fF,fF,tT,tT,fF,fF,fF,fF,fF,fF,fF,fF,fF,fF,fF,fF,fF,fF,fF,fF,fF,fF,fF,fF,fF,fF,fF,fF,fF,fF,fF,fF,fF,fF,fF,fF,fF,fF,fF,fF,fF,fF,fF,fF,fF,fF,fF,fF,fF,fF,fF,fF,fF,fF,fF,fF,fF,fF,fF,fF,fF,fF,fF,fF,fF,fF,fF,fF,fF,fF,fF,fF,fF,fF,fF,fF,fF,fF,fF,fF,fF,fF,fF,fF,fF,fF,fF,fF,fF,fF,fF,fF,fF,fF,fF,fF,fF,fF,fF,fF,fF,fF,fF,fF,fF,fF,fF,fF,fF,fF,fF,fF,fF,fF,fF,fF,fF,fF,fF,fF,fF,fF,fF,fF,fF,fF,fF,fF,fF,fF,fF,fF,fF,fF,fF,fF,fF,fF,fF,fF]
def f101 : FRow := ⟨(.seq (.reg 0 c101r0) (.seq (.reg 0 c101r1) (.block 0 (.loop c101l31m [] c101l31)))), [], 148⟩
theorem okf101 : f101.Ok Try.prog 101 := ⟨_, _, Try.func101, rfl, by kernel_rfl, by kernel_rfl, by kernel_rfl⟩

def c102r0 : List AOper := [
 oP 2 (.mov (nI 0))]
def c102r1 : List AOper := [
 oM 3 0,
 oP 4 (.conv .u32 (.t 3)),
 oP 5 (.call 114 [(.t 4)]),
 oM 2 5]
def c102r2 : List AOper := [
 oM 6 0,
 oP 7 (.call 115 [(.t 6)]),
 oM 2 7]
def f102 : FRow := ⟨(.seq (.reg 0 c102r0) (.seq (.cond bF (.seq (.reg 0 c102r1) .ret) .skip) (.seq (.reg 0 c102r2) .ret))), [.tmp 2], 8⟩
theorem okf102 : f102.Ok Try.prog 102 := ⟨_, _, Try.func102, rfl, by kernel_rfl, by kernel_rfl, by kernel_rfl⟩

def c103r0 : List AOper := [
 oP 4 (.mov (nI 0))]
def c103r1 : List AOper := [
 oM 7 0,
 oP 8 (.call 116 [(.t 7)]),
 oM 5 8]
def c103r2 : List AOper := [
 oM 9 1,
 oP 10 (.call 116 [(.t 9)]),
 oM 6 10]
def c103r3 : List AOper := [
 oM 11 5]
def c103r4 : List AOper := [
 oM 12 6]
def c103r5 : List AOper := [
 oP 4 (.mov (nI 0))]
def c103r6 : List AOper := [
 oP 4 (.mov (nI (-1)))]
def c103r7 : List AOper := [
 oM 13 6]
def c103r8 : List AOper := [
 oP 4 (.mov (nI 1))]
def c103r9 : List AOper := [
 oM 14 0,
 oM 15 1,
 oP 16 (.cmp .lss (.t 14) (.t 15))]
def c103r10 : List AOper := [
 oP 4 (.mov (nI (-1)))]
def c103r11 : List AOper := [
 oM 17 0,
 oM 18 1,
 oP 19 (.cmp .gtr (.t 17) (.t 18))]
def c103r12 : List AOper := [
 oP 4 (.mov (nI 1))]
def c103r13 : List AOper := [
 oP 4 (.mov (nI 0))]
def f103 : FRow := ⟨(.seq (.reg 0 c103r0) (.seq (.reg 0 c103r1) (.seq (.reg 0 c103r2) (.seq (.seq (.reg 0 c103r3) (.cond (.t 11) (.seq (.seq (.reg 0 c103r4) (.cond (.t 12) (.seq (.reg 0 c103r5) .ret) .skip)) (.seq (.reg 0 c103r6) .ret)) .skip)) (.seq (.seq (.reg 0 c103r7) (.cond (.t 13) (.seq (.reg 0 c103r8) .ret) .skip)) (.seq (.seq (.reg 0 c103r9) (.cond (.t 16) (.seq (.reg 0 c103r10) .ret) .skip)) (.seq (.seq (.reg 0 c103r11) (.cond (.t 19) (.seq (.reg 0 c103r12) .ret) .skip)) (.seq (.reg 0 c103r13) .ret)))))))), [.tmp 4], 20⟩
theorem okf103 : f103.Ok Try.prog 103 := ⟨_, _, Try.func103, rfl, by kernel_rfl, by kernel_rfl, by kernel_rfl⟩

def c104r0 : List AOper := [
 oL 7 1,
 oP 8 (.nilck (.t 7)),
 oF 9 0 8,
 oF 10 1 9,
 oL 11 10,
 oN 12 11,
 oP 13 (.mov (nI 0))]
def c104r1 : List AOper := [
 oP 14 (.cmp .lss (.t 13) (.t 12))]
def c104r2 : List AOper := [
 oM 15 13,
 oI 16 11 13,
 oL 17 16,
 oM 3 15,
 oM 4 17]
def c104r3 : List AOper := [
 oM 18 4,
 oN 19 18,
 oP 20 (.mov (nI 0))]
def c104r4 : List AOper := [
 oP 21 (.cmp .lss (.t 20) (.t 19))]
def c104r5 : List AOper := [
 oI 22 18 20,
 oL 23 22,
 oM 6 23]
def c104r6 : List AOper := [
 oL 24 1,
 oP 25 (.nilck (.t 24)),
 oF 26 0 25,
 oF 27 0 26,
 oL 28 27,
 oM 29 3,
 oI 30 28 29,
 oL 31 30,
 oP 32 (.not (.t 31)),
 oM 33 32,
 oG 34 33 true (.load 1 false (.t 1)),
 oG 35 33 true (.nilck (.t 34)),
 oG 36 33 true (.fieldAddr 0 (.t 35)),
 oG 37 33 true (.fieldAddr 2 (.t 36)),
 oG 38 33 true (.load 1 false (.t 37)),
 oH 39 33 true 3,
 oG 40 33 true (.idxA 1 (.t 38) (.t 39)),
 oG 41 33 true (.load 1 false (.t 40)),
 oG 42 33 true (.not (.t 41)),
 oP 43 (.pick (.t 33) (.t 42) bF),
 oM 44 43,
 oH 45 44 true 0,
 oH 46 44 true 3,
 oH 47 44 true 6,
 oG 48 44 true (.build [(.s (.int .i64 0)), (.s (.int .i64 0))] [(0, 1, (.t 46)), (1, 1, (.t 47))]),
 oG 49 44 true (.callv (.t 45) [(.t 48)]),
 oG 50 44 true (.not (.t 49)),
 oP 51 (.pick (.t 44) (.t 50) bF)]
def c104r7 : List AOper := [
 oP 52 (.arith .add (.t 20) (nI 1)),
 oM 20 52]
def c104l8 : ACode := (.seq (.reg 0 c104r4) (.seq (.cond (.t 21) .skip (.exit 2)) (.seq (.block 3 (.seq (.reg 0 c104r5) (.seq (.reg 0 c104r6) (.cond (.t 51) .ret .skip)))) (.reg 0 c104r7))))
def c104l8m : List Bool := [tT,tT,fF,tT,fF,fF,fF,fF,fF,fF,fF,tT,tT,tT,fF,fF,fF,fF,tT,tT,tT,fF,fF,fF,fF,fF,fF,fF,fF,fF,fF,fF,fF,fF,fF,fF,fF,fF,fF,fF,fF,fF,fF,fF,fF,fF,fF,fF,fF,fF,fF,fF,fF,fF]
def c104r9 : List AOper := [
 oP 53 (.arith .add (.t 13) (nI 1)),
 oM 13 53]
def c104l10 : ACode := (.seq (.reg 0 c104r1) (.seq (.cond (.t 14) .skip (.exit 0)) (.seq (.block 1 (.seq (.reg 0 c104r2) (.seq (.reg 0 c104r3) (.block 2 (.loop c104l8m [] c104l8))))) (.reg 0 c104r9))))
def c104l10m : List Bool := [tT,tT,fF,fF,fF,fF,fF,fF,fF,fF,fF,tT,tT,tT,fF,fF,fF,fF,fF,fF,fF,fF,fF,fF,fF,fF,fF,fF,fF,fF,fF,fF,fF,fF,fF,fF,fF,fF,fF,fF,fF,fF,fF,fF,fF,fF,fF,fF,fF,fF,fF,fF,fF,fF]
def f104 : FRow := ⟨(.seq (.reg 0 c104r0) (.block 0 (.loop c104l10m [] c104l10))), [], 54⟩
theorem okf104 : f104.Ok Try.prog 104 := ⟨_, _, Try.func104, rfl, by kernel_rfl, by kernel_rfl, by kernel_rfl⟩

def c105r0 : List AOper := [
 oP 4 (.mov bF)]
def c105r1 : List AOper := [
 oM 5 0,
 oM 6 1,
 oP 7 (.shift .shr (.t 5) (.t 6)),
 oP 8 (.bits .and (.t 7) (nI 1)),
 oP 9 (.cmp .eql (.t 8) (nI 1)),
 oM 4 9]
def f105 : FRow := ⟨(.seq (.reg 0 c105r0) (.seq (.reg 0 c105r1) .ret)), [.tmp 4], 10⟩
theorem okf105 : f105.Ok Try.prog 105 := ⟨_, _, Try.func105, rfl, by kernel_rfl, by kernel_rfl, by kernel_rfl⟩

def c106r0 : List AOper := [
 oM 10 1,
 oP 11 (.arith .add (.t 10) (nI 1)),
 oM 8 11]
def c106r1 : List AOper := [
 oM 12 8,
 oM 13 2,
 oP 14 (.cmp .lss (.t 12) (.t 13))]
def c106r2 : List AOper := [
 oM 17 8,
 oM 9 17]
def c106r3 : List AOper := [
 oM 18 9,
 oM 19 1,
 oP 20 (.cmp .gtr (.t 18) (.t 19)),
 oM 21 20,
 oH 22 21 true 3,
 oH 23 21 true 0,
 oH 24 21 true 9,
 oG 25 21 true (.idxA 2 (.t 23) (.t 24)),
 oG 26 21 true (.load 2 true (.t 25)),
 oH 27 21 true 0,
 oH 28 21 true 9,
 oG 29 21 true (.arith .sub (.t 28) (nI 1)),
 oG 30 21 true (.idxA 2 (.t 27) (.t 29)),
 oG 31 21 true (.load 2 true (.t 30)),
 oG 32 21 true (.callv (.t 22) [(.t 26), (.t 31)]),
 oG 33 21 true (.cmp .lss (.t 32) (nI 0)),
 oP 34 (.pick (.t 21) (.t 33) bF)]
def c106r4 : List AOper := [
 oM 37 0,
 oM 38 9,
 oM 39 0,
 oM 40 9,
 oP 41 (.arith .sub (.t 40) (nI 1)),
 oM 42 0,
 oM 43 9,
 oP 44 (.arith .sub (.t 43) (nI 1)),
 oP 45 (.idxA 2 (.t 42) (.t 44)),
 oP 46 (.load 2 true (.t 45)),
 oM 47 0,
 oM 48 9,
 oP 49 (.idxA 2 (.t 47) (.t 48)),
 oP 50 (.load 2 true (.t 49)),
 oP 51 (.idxA 2 (.t 37) (.t 38)),
 ⟨none, none, .store 2 (.t 51) (.t 46)⟩,
 oP 52 (.idxA 2 (.t 39) (.t 41)),
 ⟨none, none, .store 2 (.t 52) (.t 50)⟩]
def c106r5 : List AOper := [
 oM 35 9,
 oP 36 (.arith .sub (.t 35) (nI 1)),
 oM 9 36]
def c106l6 : ACode := (.seq (.seq (.reg 0 c106r3) (.cond (.t 34) .skip (.exit 2))) (.seq (.block 3 (.reg 0 c106r4)) (.reg 0 c106r5)))
def c106l6m : List Bool := [tT,tT,tT,tT,fF,fF,fF,fF,tT,tT,fF,fF,fF,fF,fF,fF,fF,fF,fF,fF,fF,fF,fF,fF,fF,fF,fF,fF,fF,fF,fF,fF,fF,fF,fF,fF,fF,fF,fF,fF,fF,fF,fF,fF,fF,fF,fF,fF,fF,fF,fF,fF,fF]
def c106r7 : List AOper := [
 oM 15 8,
 oP 16 (.arith .add (.t 15) (nI 1)),
 oM 8 16]
def c106l8 : ACode := (.seq (.seq (.reg 0 c106r1) (.cond (.t 14) .skip (.exit 0))) (.seq (.block 1 (.seq (.reg 0 c106r2) (.block 2 (.loop c106l6m [] c106l6)))) (.reg 0 c106r7)))
def c106l8m : List Bool := [tT,tT,tT,tT,fF,fF,fF,fF,tT,fF,fF,fF,fF,fF,fF,fF,fF,fF,fF,fF,fF,fF,fF,fF,fF,fF,fF,fF,fF,fF,fF,fF,fF,fF,fF,fF,fF,fF,fF,fF,fF,fF,fF,fF,fF,fF,fF,fF,fF,fF,fF,fF,fF]
def f106 : FRow := ⟨(.seq (.reg 0 c106r0) (.block 0 (.loop c106l8m [] c106l8))), [], 53⟩
theorem okf106 : f106.Ok Try.prog 106 := ⟨_, _, Try.func106, rfl, by kernel_rfl, by kernel_rfl, by kernel_rfl⟩

def c114r0 : List AOper := [
 oP 2 (.mov (nI 0))]
def c114r1 : List AOper := [
 oM 3 0,
 oP 4 (.cmp .geq (.t 3) (.c (.s (.int .u32 65536))))]
def c114r2 : List AOper := [
 oM 5 0,
 oP 6 (.shift .shr (.t 5) (.c (.s (.int .u64 16)))),
 oM 0 6]
def c114r3 : List AOper := [
 oP 2 (.mov (nI 16))]
def c114r4 : List AOper := [
 oM 7 0,
 oP 8 (.cmp .geq (.t 7) (.c (.s (.int .u32 256))))]
def c114r5 : List AOper := [
 oM 9 0,
 oP 10 (.shift .shr (.t 9) (.c (.s (.int .u64 8)))),
 oM 0 10]
def c114r6 : List AOper := [
 oM 11 2,
 oP 12 (.arith .add (.t 11) (nI 8)),
 oM 2 12]
def c114r7 : List AOper := [
 oM 13 2,
 oM 14 0,
 oP 15 (.conv .u8 (.t 14)),
 oP 16 (.sidx (.c (.s (.str ⟨#[0, 1, 2, 2, 3, 3, 3, 3, 4, 4, 4, 4, 4, 4, 4, 4, 5, 5, 5, 5, 5, 5, 5, 5, 5, 5, 5, 5, 5, 5, 5, 5, 6, 6, 6, 6, 6, 6, 6, 6, 6, 6, 6, 6, 6, 6, 6, 6, 6, 6, 6, 6, 6, 6, 6, 6, 6, 6, 6, 6, 6, 6, 6, 6, 7, 7, 7, 7, 7, 7, 7, 7, 7, 7, 7, 7, 7, 7, 7, 7, 7, 7, 7, 7, 7, 7, 7, 7, 7, 7, 7, 7, 7, 7, 7, 7, 7, 7, 7, 7, 7, 7, 7, 7, 7, 7, 7, 7, 7, 7, 7, 7, 7, 7, 7, 7, 7, 7, 7, 7, 7, 7, 7, 7, 7, 7, 7, 7, 8, 8, 8, 8, 8, 8, 8, 8, 8, 8, 8, 8, 8, 8, 8, 8, 8, 8, 8, 8, 8, 8, 8, 8, 8, 8, 8, 8, 8, 8, 8, 8, 8, 8, 8, 8, 8, 8, 8, 8, 8, 8, 8, 8, 8, 8, 8, 8, 8, 8, 8, 8, 8, 8, 8, 8, 8, 8, 8, 8, 8, 8, 8, 8, 8, 8, 8, 8, 8, 8, 8, 8, 8, 8, 8, 8, 8, 8, 8, 8, 8, 8, 8, 8, 8, 8, 8, 8, 8, 8, 8, 8, 8, 8, 8, 8, 8, 8, 8, 8, 8, 8, 8, 8, 8, 8, 8, 8, 8, 8, 8, 8, 8, 8, 8, 8, 8, 8, 8, 8, 8, 8, 8, 8, 8, 8, 8, 8]⟩))) (.t 15)),
 oP 17 (.conv .i64 (.t 16)),
 oP 18 (.arith .add (.t 13) (.t 17)),
 oM 2 18]
def f114 : FRow := ⟨(.seq (.reg 0 c114r0) (.seq (.seq (.reg 0 c114r1) (.cond (.t 4) (.seq (.reg 0 c114r2) (.reg 0 c114r3)) .skip)) (.seq (.seq (.reg 0 c114r4) (.cond (.t 8) (.seq (.reg 0 c114r5) (.reg 0 c114r6)) .skip)) (.seq (.reg 0 c114r7) .ret)))), [.tmp 2], 19⟩
theorem okf114 : f114.Ok Try.prog 114 := ⟨_, _, Try.func114, rfl, by kernel_rfl, by kernel_rfl, by kernel_rfl⟩

def c115r0 : List AOper := [
 oP 2 (.mov (nI 0))]
def c115r1 : List AOper := [
 oM 3 0,
 oP 4 (.cmp .geq (.t 3) (.c (.s (.int .u64 4294967296))))]
def c115r2 : List AOper := [
 oM 5 0,
 oP 6 (.shift .shr (.t 5) (.c (.s (.int .u64 32)))),
 oM 0 6]
def c115r3 : List AOper := [
 oP 2 (.mov (nI 32))]
def c115r4 : List AOper := [
 oM 7 0,
 oP 8 (.cmp .geq (.t 7) (.c (.s (.int .u64 65536))))]
def c115r5 : List AOper := [
 oM 9 0,
 oP 10 (.shift .shr (.t 9) (.c (.s (.int .u64 16)))),
 oM 0 10]
def c115r6 : List AOper := [
 oM 11 2,
 oP 12 (.arith .add (.t 11) (nI 16)),
 oM 2 12]
def c115r7 : List AOper := [
 oM 13 0,
 oP 14 (.cmp .geq (.t 13) (.c (.s (.int .u64 256))))]
def c115r8 : List AOper := [
 oM 15 0,
 oP 16 (.shift .shr (.t 15) (.c (.s (.int .u64 8)))),
 oM 0 16]
def c115r9 : List AOper := [
 oM 17 2,
 oP 18 (.arith .add (.t 17) (nI 8)),
 oM 2 18]
def c115r10 : List AOper := [
 oM 19 2,
 oM 20 0,
 oP 21 (.conv .u8 (.t 20)),
 oP 22 (.sidx (.c (.s (.str ⟨#[0, 1, 2, 2, 3, 3, 3, 3, 4, 4, 4, 4, 4, 4, 4, 4, 5, 5, 5, 5, 5, 5, 5, 5, 5, 5, 5, 5, 5, 5, 5, 5, 6, 6, 6, 6, 6, 6, 6, 6, 6, 6, 6, 6, 6, 6, 6, 6, 6, 6, 6, 6, 6, 6, 6, 6, 6, 6, 6, 6, 6, 6, 6, 6, 7, 7, 7, 7, 7, 7, 7, 7, 7, 7, 7, 7, 7, 7, 7, 7, 7, 7, 7, 7, 7, 7, 7, 7, 7, 7, 7, 7, 7, 7, 7, 7, 7, 7, 7, 7, 7, 7, 7, 7, 7, 7, 7, 7, 7, 7, 7, 7, 7, 7, 7, 7, 7, 7, 7, 7, 7, 7, 7, 7, 7, 7, 7, 7, 8, 8, 8, 8, 8, 8, 8, 8, 8, 8, 8, 8, 8, 8, 8, 8, 8, 8, 8, 8, 8, 8, 8, 8, 8, 8, 8, 8, 8, 8, 8, 8, 8, 8, 8, 8, 8, 8, 8, 8, 8, 8, 8, 8, 8, 8, 8, 8, 8, 8, 8, 8, 8, 8, 8, 8, 8, 8, 8, 8, 8, 8, 8, 8, 8, 8, 8, 8, 8, 8, 8, 8, 8, 8, 8, 8, 8, 8, 8, 8, 8, 8, 8, 8, 8, 8, 8, 8, 8, 8, 8, 8, 8, 8, 8, 8, 8, 8, 8, 8, 8, 8, 8, 8, 8, 8, 8, 8, 8, 8, 8, 8, 8, 8, 8, 8, 8, 8, 8, 8, 8, 8, 8, 8, 8, 8, 8, 8]⟩))) (.t 21)),
 oP 23 (.conv .i64 (.t 22)),
 oP 24 (.arith .add (.t 19) (.t 23)),
 oM 2 24]
def f115 : FRow := ⟨(.seq (.reg 0 c115r0) (.seq (.seq (.reg 0 c115r1) (.cond (.t 4) (.seq (.reg 0 c115r2) (.reg 0 c115r3)) .skip)) (.seq (.seq (.reg 0 c115r4) (.cond (.t 8) (.seq (.reg 0 c115r5) (.reg 0 c115r6)) .skip)) (.seq (.seq (.reg 0 c115r7) (.cond (.t 14) (.seq (.reg 0 c115r8) (.reg 0 c115r9)) .skip)) (.seq (.reg 0 c115r10) .ret))))), [.tmp 2], 25⟩
theorem okf115 : f115.Ok Try.prog 115 := ⟨_, _, Try.func115, rfl, by kernel_rfl, by kernel_rfl, by kernel_rfl⟩

def c116r0 : List AOper := [
 oP 2 (.mov bF)]
def c116r1 : List AOper := [
 oM 3 0,
 oM 4 0,
 oP 5 (.cmp .neq (.t 3) (.t 4)),
 oM 2 5]
def f116 : FRow := ⟨(.seq (.reg 0 c116r0) (.seq (.reg 0 c116r1) .ret)), [.tmp 2], 6⟩
theorem okf116 : f116.Ok Try.prog 116 := ⟨_, _, Try.func116, rfl, by kernel_rfl, by kernel_rfl, by kernel_rfl⟩


end Go.Proofs.Ytglmjdpmpgphkaa.Sk

/- The code of all functions in the value semantics. -/
namespace Go.Proofs.Ytglmjdpmpgphkaa.Sk
open Go Go.E

def tbl : FuncId → Option FRow
  | 16 => some f16
  | 17 => some f17
  | 18 => some f18
  | 20 => some f20
  | 21 => some f21
  | 22 => some f22
  | 23 => some f23
  | 25 => some f25
  | 27 => some f27
  | 29 => some f29
  | 31 => some f31
  | 33 => some f33
  | 35 => some f35
  | 37 => some f37
  | 39 => some f39
  | 41 => some f41
  | 42 => some f42
  | 44 => some f44
  | 45 => some f45
  | 47 => some f47
  | 49 => some f49
  | 53 => some f53
  | 54 => some f54
  | 55 => some f55
  | 56 => some f56
  | 57 => some f57
  | 58 => some f58
  | 59 => some f59
  | 60 => some f60
  | 61 => some f61
  | 62 => some f62
  | 63 => some f63
  | 64 => some f64
  | 65 => some f65
  | 66 => some f66
  | 68 => some f68
  | 69 => some f69
  | 70 => some f70
  | 73 => some f73
  | 74 => some f74
  | 75 => some f75
  | 76 => some f76
  | 78 => some f78
  | 80 => some f80
  | 81 => some f81
  | 82 => some f82
  | 83 => some f83
  | 84 => some f84
  | 85 => some f85
  | 86 => some f86
  | 87 => some f87
  | 88 => some f88
  | 89 => some f89
  | 90 => some f90
  | 92 => some f92
  | 93 => some f93
  | 94 => some f94
  | 95 => some f95
  | 96 => some f96
  | 97 => some f97
  | 98 => some f98
  | 99 => some f99
  | 100 => some f100
  | 101 => some f101
  | 102 => some f102
  | 103 => some f103
  | 104 => some f104
  | 105 => some f105
  | 106 => some f106
  | 114 => some f114
  | 115 => some f115
  | 116 => some f116
  | _ => none

theorem tbl_ok : ∀ f r, tbl f = some r → r.Ok Try.prog f := by
  intro f r h
  unfold tbl at h
  split at h <;> first | (cases h; done) | skip
  · cases h; exact okf16
  · cases h; exact okf17
  · cases h; exact okf18
  · cases h; exact okf20
  · cases h; exact okf21
  · cases h; exact okf22
  · cases h; exact okf23
  · cases h; exact okf25
  · cases h; exact okf27
  · cases h; exact okf29
  · cases h; exact okf31
  · cases h; exact okf33
  · cases h; exact okf35
  · cases h; exact okf37
  · cases h; exact okf39
  · cases h; exact okf41
  · cases h; exact okf42
  · cases h; exact okf44
  · cases h; exact okf45
  · cases h; exact okf47
  · cases h; exact okf49
  · cases h; exact okf53
  · cases h; exact okf54
  · cases h; exact okf55
  · cases h; exact okf56
  · cases h; exact okf57
  · cases h; exact okf58
  · cases h; exact okf59
  · cases h; exact okf60
  · cases h; exact okf61
  · cases h; exact okf62
  · cases h; exact okf63
  · cases h; exact okf64
  · cases h; exact okf65
  · cases h; exact okf66
  · cases h; exact okf68
  · cases h; exact okf69
  · cases h; exact okf70
  · cases h; exact okf73
  · cases h; exact okf74
  · cases h; exact okf75
  · cases h; exact okf76
  · cases h; exact okf78
  · cases h; exact okf80
  · cases h; exact okf81
  · cases h; exact okf82
  · cases h; exact okf83
  · cases h; exact okf84
  · cases h; exact okf85
  · cases h; exact okf86
  · cases h; exact okf87
  · cases h; exact okf88
  · cases h; exact okf89
  · cases h; exact okf90
  · cases h; exact okf92
  · cases h; exact okf93
  · cases h; exact okf94
  · cases h; exact okf95
  · cases h; exact okf96
  · cases h; exact okf97
  · cases h; exact okf98
  · cases h; exact okf99
  · cases h; exact okf100
  · cases h; exact okf101
  · cases h; exact okf102
  · cases h; exact okf103
  · cases h; exact okf104
  · cases h; exact okf105
  · cases h; exact okf106
  · cases h; exact okf114
  · cases h; exact okf115
  · cases h; exact okf116

theorem tbl_fn : ∀ f, (tbl f).isSome = true → okFn Try.prog f = true := by
  intro f h
  unfold tbl at h
  split at h <;> first | (cases h; done) | kernel_rfl

def tbl2 : FuncId → Option TRow
  | 79 => some t79
  | _ => none

theorem tbl2_ok : ∀ f r, tbl2 f = some r → r.Ok Try.prog f := by
  intro f r h
  unfold tbl2 at h
  split at h <;> first | (cases h; done) | skip
  · cases h; exact okt79

end Go.Proofs.Ytglmjdpmpgphkaa.Sk

/- Contracts of functions: searching, lists that rise, valid machines. -/
namespace Go.Proofs.Ytglmjdpmpgphkaa.Sk
open Go Go.E Go.E.Sm

def ints (l : List Int) : SV := .slice (l.map (.int .i64))

theorem inR_small {n : Int} (h0 : 0 ≤ n) (h1 : n ≤ 2 ^ 63 - 1) : inR .i64 n := by
  unfold inR IntKind.wrap
  have e : n % (2 ^ IntKind.i64.bits : Int) = n := Int.emod_eq_of_lt h0 (by simp only [IntKind.bits]; omega)
  simp only [e]
  have : ¬ (n ≥ (2 ^ (IntKind.i64.bits - 1) : Int)) := by simp only [IntKind.bits]; omega
  simp [this]

theorem maxLen_le : (maxLen : Int) ≤ 2 ^ 63 - 1 := Int.le_refl _

def idx {α : Type} (p : α → Bool) : List α → Int → Int
  | [], _ => -1
  | x :: xs, i => if p x then i else idx p xs (i + 1)

theorem idx_ge {α : Type} (p : α → Bool) : ∀ (xs : List α) (i : Nat), (0 ≤ idx p xs i) ↔ xs.any p = true
  | [], i => by simp [idx]
  | x :: xs, i => by
    simp only [idx, List.any_cons, Bool.or_eq_true]
    by_cases h : p x = true
    · simp [h]
    · have := idx_ge p xs (i + 1)
      rw [show ((i + 1 : Nat) : Int) = (i : Int) + 1 from rfl] at this
      simp [h, this]

def Asks (g : FuncId) (first caps : List SV) (x : SV) (b : Bool) : Prop := E.Fn Try.prog g (first ++ [x] ++ caps) [.bool b]
def Ok1 (g : FuncId) (first caps : List SV) : Prop := okFn Try.prog g = true ∧ ((first.map LV.s).all LV.isOne && (caps.map LV.s).all LV.isOne) = true

theorem k92 {g : FuncId} {first caps : List SV} {xs : List Int} {p : Int → Bool} (hg : Ok1 g first caps) (hp : ∀ x ∈ xs, Asks g first caps (.int .i64 x) (p x)) : E.Fn Try.prog 92 [ints xs, .fn g first caps] [.int .i64 (idx p xs 0)] := by
  refine fn_of_row okf92 ?_
  simp only [FRow.start, f92, c92r0, c92r1, ints, go_sem, List.replicate, List.append_nil, List.cons_append, List.nil_append, List.length_cons, List.length_nil, List.map_cons, List.map_nil, List.getElem?_cons_zero, List.getElem?_cons_succ, Nat.reduceAdd, Nat.reduceSub, Nat.reduceLT, Nat.reduceLeDiff, and_true, true_and, forall_const, if_true, if_false, ↓reduceIte, Int.toNat_natCast, List.getElem?_map, Option.map_some, Option.bind_some, Bool.not_true, Bool.not_false, reduceCtorEq, List.take_nil, List.length_map, eq_self, List.all_cons, List.all_nil, Bool.and_true, Int.ofNat_lt, Bool.and_self, finK, resK, Int.natCast_nonneg, implies_true, List.take_zero, Nat.zero_add, List.drop_zero, List.drop_succ_cons, List.take_succ_cons, List.set_cons_zero, List.set_cons_succ, decide_true, decide_false, Int.le_refl, Nat.le_refl, List.flatten_cons, List.flatten_nil]
  intro hlen
  have hlen' : (xs.length : Int) ≤ 2 ^ 63 - 1 := Int.le_trans (Int.ofNat_le.mpr hlen) maxLen_le
  refine loop_rule (fun n τ => ∃ i : Nat, n = xs.length - i ∧ i ≤ xs.length ∧ idx p xs 0 = idx p (xs.drop i) i ∧
    τ = ⟨[.s (.slice (xs.map (.int .i64))), .s (.fn g first caps), .any, .any, .any, .any, .any, .s (.int .i64 xs.length), .s (.int .i64 i), .any, .any, .any, .any, .any, .any, .any, .any, .any, .any], []⟩) xs.length rfl ?_ ?_
  · simp only [c92l7m, go_sem, List.replicate, List.append_nil, List.cons_append, List.nil_append, List.length_cons, List.length_nil, List.map_cons, List.map_nil, List.getElem?_cons_zero, List.getElem?_cons_succ, Nat.reduceAdd, Nat.reduceSub, Nat.reduceLT, Nat.reduceLeDiff, and_true, true_and, forall_const, if_true, if_false, ↓reduceIte, Int.toNat_natCast, List.getElem?_map, Option.map_some, Option.bind_some, Bool.not_true, Bool.not_false, reduceCtorEq, List.take_nil, List.length_map, eq_self, List.all_cons, List.all_nil, Bool.and_true, Int.ofNat_lt, Bool.and_self, finK, resK, Int.natCast_nonneg, implies_true, List.take_zero, Nat.zero_add, List.drop_zero, List.drop_succ_cons, List.take_succ_cons, List.set_cons_zero, List.set_cons_succ, decide_true, decide_false, Int.le_refl, Nat.le_refl, List.flatten_cons, List.flatten_nil]
    exact ⟨0, rfl, Nat.zero_le _, rfl, rfl⟩
  · rintro I n τ ⟨i, rfl, hi, hidx, rfl⟩ hI
    simp only [c92l7, c92r2, c92r3, go_sem, List.replicate, List.append_nil, List.cons_append, List.nil_append, List.length_cons, List.length_nil, List.map_cons, List.map_nil, List.getElem?_cons_zero, List.getElem?_cons_succ, Nat.reduceAdd, Nat.reduceSub, Nat.reduceLT, Nat.reduceLeDiff, and_true, true_and, forall_const, if_true, if_false, ↓reduceIte, Int.toNat_natCast, List.getElem?_map, Option.map_some, Option.bind_some, Bool.not_true, Bool.not_false, reduceCtorEq, List.take_nil, List.length_map, eq_self, List.all_cons, List.all_nil, Bool.and_true, Int.ofNat_lt, Bool.and_self, finK, resK, Int.natCast_nonneg, implies_true, List.take_zero, Nat.zero_add, List.drop_zero, List.drop_succ_cons, List.take_succ_cons, List.set_cons_zero, List.set_cons_succ, decide_true, decide_false, Int.le_refl, Nat.le_refl, List.flatten_cons, List.flatten_nil]
    refine ⟨fun hlt => ?_, fun hge => ?_⟩
    · have hx : xs[i]? = some xs[i] := List.getElem?_eq_getElem hlt
      have hdrop : xs.drop i = xs[i] :: xs.drop (i + 1) := List.drop_eq_getElem_cons hlt
      simp only [c92r4, hx, go_sem, List.replicate, List.append_nil, List.cons_append, List.nil_append, List.length_cons, List.length_nil, List.map_cons, List.map_nil, List.getElem?_cons_zero, List.getElem?_cons_succ, Nat.reduceAdd, Nat.reduceSub, Nat.reduceLT, Nat.reduceLeDiff, and_true, true_and, forall_const, if_true, if_false, ↓reduceIte, Int.toNat_natCast, List.getElem?_map, Option.map_some, Option.bind_some, Bool.not_true, Bool.not_false, reduceCtorEq, List.take_nil, List.length_map, eq_self, List.all_cons, List.all_nil, Bool.and_true, Int.ofNat_lt, Bool.and_self, finK, resK, Int.natCast_nonneg, implies_true, List.take_zero, Nat.zero_add, List.drop_zero, List.drop_succ_cons, List.take_succ_cons, List.set_cons_zero, List.set_cons_succ, decide_true, decide_false, Int.le_refl, Nat.le_refl, List.flatten_cons, List.flatten_nil]
      refine ⟨hg.1, hg.2, callK_of (by simp only [go_sem, List.replicate, List.append_nil, List.cons_append, List.nil_append, List.length_cons, List.length_nil, List.map_cons, List.map_nil, List.getElem?_cons_zero, List.getElem?_cons_succ, Nat.reduceAdd, Nat.reduceSub, Nat.reduceLT, Nat.reduceLeDiff, and_true, true_and, forall_const, if_true, if_false, ↓reduceIte, Int.toNat_natCast, List.getElem?_map, Option.map_some, Option.bind_some, Bool.not_true, Bool.not_false, reduceCtorEq, List.take_nil, List.length_map, eq_self, List.all_cons, List.all_nil, Bool.and_true, Int.ofNat_lt, Bool.and_self, finK, resK, Int.natCast_nonneg, implies_true, List.take_zero, Nat.zero_add, List.drop_zero, List.drop_succ_cons, List.take_succ_cons, List.set_cons_zero, List.set_cons_succ, decide_true, decide_false, Int.le_refl, Nat.le_refl, List.flatten_cons, List.flatten_nil]) (hp _ (List.getElem_mem hlt)) (.inl rfl) ?_⟩
      simp only [go_sem, List.replicate, List.append_nil, List.cons_append, List.nil_append, List.length_cons, List.length_nil, List.map_cons, List.map_nil, List.getElem?_cons_zero, List.getElem?_cons_succ, Nat.reduceAdd, Nat.reduceSub, Nat.reduceLT, Nat.reduceLeDiff, and_true, true_and, forall_const, if_true, if_false, ↓reduceIte, Int.toNat_natCast, List.getElem?_map, Option.map_some, Option.bind_some, Bool.not_true, Bool.not_false, reduceCtorEq, List.take_nil, List.length_map, eq_self, List.all_cons, List.all_nil, Bool.and_true, Int.ofNat_lt, Bool.and_self, finK, resK, Int.natCast_nonneg, implies_true, List.take_zero, Nat.zero_add, List.drop_zero, List.drop_succ_cons, List.take_succ_cons, List.set_cons_zero, List.set_cons_succ, decide_true, decide_false, Int.le_refl, Nat.le_refl, List.flatten_cons, List.flatten_nil]
      rw [hdrop, idx] at hidx
      cases hpx : p xs[i] with
      | true =>
        simp only [hpx, if_true] at hidx
        simp only [c92r5, hpx, hidx, go_sem, List.replicate, List.append_nil, List.cons_append, List.nil_append, List.length_cons, List.length_nil, List.map_cons, List.map_nil, List.getElem?_cons_zero, List.getElem?_cons_succ, Nat.reduceAdd, Nat.reduceSub, Nat.reduceLT, Nat.reduceLeDiff, and_true, true_and, forall_const, if_true, if_false, ↓reduceIte, Int.toNat_natCast, List.getElem?_map, Option.map_some, Option.bind_some, Bool.not_true, Bool.not_false, reduceCtorEq, List.take_nil, List.length_map, eq_self, List.all_cons, List.all_nil, Bool.and_true, Int.ofNat_lt, Bool.and_self, finK, resK, Int.natCast_nonneg, implies_true, List.take_zero, Nat.zero_add, List.drop_zero, List.drop_succ_cons, List.take_succ_cons, List.set_cons_zero, List.set_cons_succ, decide_true, decide_false, Int.le_refl, Nat.le_refl, List.flatten_cons, List.flatten_nil]
      | false =>
        simp only [hpx, Bool.false_eq_true, if_false] at hidx
        simp only [c92r6, hpx, c92l7m, go_sem, List.replicate, List.append_nil, List.cons_append, List.nil_append, List.length_cons, List.length_nil, List.map_cons, List.map_nil, List.getElem?_cons_zero, List.getElem?_cons_succ, Nat.reduceAdd, Nat.reduceSub, Nat.reduceLT, Nat.reduceLeDiff, and_true, true_and, forall_const, if_true, if_false, ↓reduceIte, Int.toNat_natCast, List.getElem?_map, Option.map_some, Option.bind_some, Bool.not_true, Bool.not_false, reduceCtorEq, List.take_nil, List.length_map, eq_self, List.all_cons, List.all_nil, Bool.and_true, Int.ofNat_lt, Bool.and_self, finK, resK, Int.natCast_nonneg, implies_true, List.take_zero, Nat.zero_add, List.drop_zero, List.drop_succ_cons, List.take_succ_cons, List.set_cons_zero, List.set_cons_succ, decide_true, decide_false, Int.le_refl, Nat.le_refl, List.flatten_cons, List.flatten_nil]
        refine ⟨inR_small (n := ((i : Int) + 1)) (by omega) (by omega), hI (xs.length - (i + 1)) _ (by omega) ⟨i + 1, rfl, by omega, by rw [hidx]; simp, by simp⟩⟩
    · have hie : i = xs.length := by omega
      subst hie
      simp only [List.drop_length, idx] at hidx
      simp only [c92r8, hidx, go_sem, List.replicate, List.append_nil, List.cons_append, List.nil_append, List.length_cons, List.length_nil, List.map_cons, List.map_nil, List.getElem?_cons_zero, List.getElem?_cons_succ, Nat.reduceAdd, Nat.reduceSub, Nat.reduceLT, Nat.reduceLeDiff, and_true, true_and, forall_const, if_true, if_false, ↓reduceIte, Int.toNat_natCast, List.getElem?_map, Option.map_some, Option.bind_some, Bool.not_true, Bool.not_false, reduceCtorEq, List.take_nil, List.length_map, eq_self, List.all_cons, List.all_nil, Bool.and_true, Int.ofNat_lt, Bool.and_self, finK, resK, Int.natCast_nonneg, implies_true, List.take_zero, Nat.zero_add, List.drop_zero, List.drop_succ_cons, List.take_succ_cons, List.set_cons_zero, List.set_cons_succ, decide_true, decide_false, Int.le_refl, Nat.le_refl, List.flatten_cons, List.flatten_nil]

end Go.Proofs.Ytglmjdpmpgphkaa.Sk

/- The iterator over answers. -/
namespace Go.Proofs.Ytglmjdpmpgphkaa.Sk
open Go Go.E Go.E.Sm

set_option maxRecDepth 10000
def bools (l : List Bool) : SV := .slice (l.map .bool)
def bd (pl : List Bool) (mv : List (List Int)) (wn : List Bool) (far : List SV) : List SV := bools pl :: .slice (mv.map ints) :: bools wn :: far
def mach (pl : List Bool) (mv : List (List Int)) (wn : List Bool) : SV := .agg [bools pl, .slice (mv.map ints), bools wn]

def stepv (i : Nat) (k : Int) : SV := .agg [.int .i64 i, .int .i64 k]
def ansAt (i : Nat) (p w : Bool) (l : List Int) : List SV := if p then [] else if w then [] else l.map (stepv i)
def ansFrom : Nat → List Bool → List (List Int) → List Bool → List SV
  | i, p :: ps, l :: ls, w :: ws => ansAt i p w l ++ ansFrom (i + 1) ps ls ws
  | _, _, _, _ => []

theorem ansFrom_flat : ∀ (i : Nat) (ps : List Bool) (ls : List (List Int)) (ws : List Bool), ∀ v ∈ ansFrom i ps ls ws, v.flat = true
  | i, p :: ps, l :: ls, w :: ws => by
    intro v hv
    simp only [ansFrom, List.mem_append] at hv
    rcases hv with hv | hv
    · unfold ansAt at hv
      split at hv
      · cases hv
      · split at hv
        · cases hv
        · obtain ⟨k, _, rfl⟩ := List.mem_map.1 hv
          rfl
    · exact ansFrom_flat _ _ _ _ v hv
  | _, [], _, _ => by intro v hv; simp [ansFrom] at hv
  | _, _ :: _, [], _ => by intro v hv; simp [ansFrom] at hv
  | _, _ :: _, _ :: _, [] => by intro v hv; simp [ansFrom] at hv

theorem k104 {pl wn : List Bool} {mv : List (List Int)} {far : List SV} (hpl : pl.length = mv.length) (hwn : wn.length = mv.length) :
    E.Yields Try.prog 104 [.ptr [.ptr (bd pl mv wn far)]] (ansFrom 0 pl mv wn) := by
  refine yields_of_row (nt := 54) Try.func104 rfl (by kernel_rfl) (by kernel_rfl) (by kernel_rfl) (by kernel_rfl) (ansFrom_flat _ _ _ _) (ac := f104.code) fun l => ?_
  simp only [f104, c104r0, bd, go_sem, List.replicate, List.append_nil, List.cons_append, List.nil_append, List.length_cons, List.length_nil, List.map_cons, List.map_nil, List.getElem?_cons_zero, List.getElem?_cons_succ, Nat.reduceAdd, Nat.reduceSub, Nat.reduceLT, Nat.reduceLeDiff, and_true, true_and, forall_const, if_true, if_false, ↓reduceIte, Int.toNat_natCast, List.getElem?_map, Option.map_some, Option.bind_some, Bool.not_true, Bool.not_false, reduceCtorEq, List.take_nil, List.length_map, eq_self, List.all_cons, List.all_nil, Bool.and_true, Int.ofNat_lt, Bool.and_self, finK, resK, Int.natCast_nonneg, implies_true, List.take_zero, Nat.zero_add, List.drop_zero, List.drop_succ_cons, List.take_succ_cons, List.set_cons_zero, List.set_cons_succ, decide_true, decide_false, Int.le_refl, Nat.le_refl, List.flatten_cons, List.flatten_nil]
  intro hlen
  have hlen' : (mv.length : Int) ≤ 2 ^ 63 - 1 := Int.le_trans (Int.ofNat_le.mpr hlen) maxLen_le
  refine ywp_loop (fun n fr rest => ∃ i : Nat, n = mv.length - i ∧ i ≤ mv.length ∧ rest = some (ansFrom i (pl.drop i) (mv.drop i) (wn.drop i)) ∧
    fr = [.yl l, .s (.ptr [.ptr (bd pl mv wn far)]), .any, .any, .any, .any, .any, .any, .any, .any, .any, .s (.slice (mv.map ints)), .s (.int .i64 mv.length), .s (.int .i64 i), .any, .any, .any, .any, .any, .any, .any, .any, .any, .any, .any, .any, .any, .any, .any, .any, .any, .any, .any, .any, .any, .any, .any, .any, .any, .any, .any, .any, .any, .any, .any, .any, .any, .any, .any, .any, .any, .any, .any, .any]) mv.length ?_ ?_
  · simp only [c104l10m, go_sem, List.replicate, List.append_nil, List.cons_append, List.nil_append, List.length_cons, List.length_nil, List.map_cons, List.map_nil, List.getElem?_cons_zero, List.getElem?_cons_succ, Nat.reduceAdd, Nat.reduceSub, Nat.reduceLT, Nat.reduceLeDiff, and_true, true_and, forall_const, if_true, if_false, ↓reduceIte, Int.toNat_natCast, List.getElem?_map, Option.map_some, Option.bind_some, Bool.not_true, Bool.not_false, reduceCtorEq, List.take_nil, List.length_map, eq_self, List.all_cons, List.all_nil, Bool.and_true, Int.ofNat_lt, Bool.and_self, finK, resK, Int.natCast_nonneg, implies_true, List.take_zero, Nat.zero_add, List.drop_zero, List.drop_succ_cons, List.take_succ_cons, List.set_cons_zero, List.set_cons_succ, decide_true, decide_false, Int.le_refl, Nat.le_refl, List.flatten_cons, List.flatten_nil]
    exact ⟨0, rfl, Nat.zero_le _, rfl, rfl⟩
  · rintro I n fr rest ⟨i, rfl, hi, rfl, rfl⟩ hI
    simp only [c104l10, c104r1, go_sem, List.replicate, List.append_nil, List.cons_append, List.nil_append, List.length_cons, List.length_nil, List.map_cons, List.map_nil, List.getElem?_cons_zero, List.getElem?_cons_succ, Nat.reduceAdd, Nat.reduceSub, Nat.reduceLT, Nat.reduceLeDiff, and_true, true_and, forall_const, if_true, if_false, ↓reduceIte, Int.toNat_natCast, List.getElem?_map, Option.map_some, Option.bind_some, Bool.not_true, Bool.not_false, reduceCtorEq, List.take_nil, List.length_map, eq_self, List.all_cons, List.all_nil, Bool.and_true, Int.ofNat_lt, Bool.and_self, finK, resK, Int.natCast_nonneg, implies_true, List.take_zero, Nat.zero_add, List.drop_zero, List.drop_succ_cons, List.take_succ_cons, List.set_cons_zero, List.set_cons_succ, decide_true, decide_false, Int.le_refl, Nat.le_refl, List.flatten_cons, List.flatten_nil]
    refine ⟨fun hlt => ?_, fun hge => ?_⟩
    · have hx : mv[i]? = some mv[i] := List.getElem?_eq_getElem hlt
      have hp : pl[i]? = some pl[i] := List.getElem?_eq_getElem (by omega)
      have hw : wn[i]? = some wn[i] := List.getElem?_eq_getElem (by omega)
      have hdrop : mv.drop i = mv[i] :: mv.drop (i + 1) := List.drop_eq_getElem_cons hlt
      have hdp : pl.drop i = pl[i] :: pl.drop (i + 1) := List.drop_eq_getElem_cons (by omega)
      have hdw : wn.drop i = wn[i] :: wn.drop (i + 1) := List.drop_eq_getElem_cons (by omega)
      rw [hdrop, hdp, hdw, ansFrom]
      generalize mv[i] = m at *
      generalize pl[i] = p at *
      generalize wn[i] = w at *
      simp only [c104r2, c104r3, hx, ints, go_sem, List.replicate, List.append_nil, List.cons_append, List.nil_append, List.length_cons, List.length_nil, List.map_cons, List.map_nil, List.getElem?_cons_zero, List.getElem?_cons_succ, Nat.reduceAdd, Nat.reduceSub, Nat.reduceLT, Nat.reduceLeDiff, and_true, true_and, forall_const, if_true, if_false, ↓reduceIte, Int.toNat_natCast, List.getElem?_map, Option.map_some, Option.bind_some, Bool.not_true, Bool.not_false, reduceCtorEq, List.take_nil, List.length_map, eq_self, List.all_cons, List.all_nil, Bool.and_true, Int.ofNat_lt, Bool.and_self, finK, resK, Int.natCast_nonneg, implies_true, List.take_zero, Nat.zero_add, List.drop_zero, List.drop_succ_cons, List.take_succ_cons, List.set_cons_zero, List.set_cons_succ, decide_true, decide_false, Int.le_refl, Nat.le_refl, List.flatten_cons, List.flatten_nil]
      intro hml
      have hml' : (m.length : Int) ≤ 2 ^ 63 - 1 := Int.le_trans (Int.ofNat_le.mpr hml) maxLen_le
      refine ywp_loop (fun n fr rest => ∃ j : Nat, n = m.length - j ∧ j ≤ m.length ∧ rest = some (ansAt i p w (m.drop j) ++ ansFrom (i + 1) (List.drop (i + 1) pl) (List.drop (i + 1) mv) (List.drop (i + 1) wn)) ∧
        fr = [.yl l, .s (.ptr [.ptr (bd pl mv wn far)]), .any, .s (.int .i64 i), .any, .any, .any, .any, .any, .any, .any, .s (.slice (mv.map ints)), .s (.int .i64 mv.length), .s (.int .i64 i), .any, .any, .any, .any, .s (.slice (m.map (.int .i64))), .s (.int .i64 m.length), .s (.int .i64 j), .any, .any, .any, .any, .any, .any, .any, .any, .any, .any, .any, .any, .any, .any, .any, .any, .any, .any, .any, .any, .any, .any, .any, .any, .any, .any, .any, .any, .any, .any, .any, .any, .any]) m.length ?_ ?_
      · simp only [c104l8m, go_sem, List.replicate, List.append_nil, List.cons_append, List.nil_append, List.length_cons, List.length_nil, List.map_cons, List.map_nil, List.getElem?_cons_zero, List.getElem?_cons_succ, Nat.reduceAdd, Nat.reduceSub, Nat.reduceLT, Nat.reduceLeDiff, and_true, true_and, forall_const, if_true, if_false, ↓reduceIte, Int.toNat_natCast, List.getElem?_map, Option.map_some, Option.bind_some, Bool.not_true, Bool.not_false, reduceCtorEq, List.take_nil, List.length_map, eq_self, List.all_cons, List.all_nil, Bool.and_true, Int.ofNat_lt, Bool.and_self, finK, resK, Int.natCast_nonneg, implies_true, List.take_zero, Nat.zero_add, List.drop_zero, List.drop_succ_cons, List.take_succ_cons, List.set_cons_zero, List.set_cons_succ, decide_true, decide_false, Int.le_refl, Nat.le_refl, List.flatten_cons, List.flatten_nil]
        exact ⟨0, rfl, Nat.zero_le _, rfl, rfl⟩
      · rintro I2 n fr rest ⟨j, rfl, hj, rfl, rfl⟩ hI2
        simp only [c104l8, c104r4, go_sem, List.replicate, List.append_nil, List.cons_append, List.nil_append, List.length_cons, List.length_nil, List.map_cons, List.map_nil, List.getElem?_cons_zero, List.getElem?_cons_succ, Nat.reduceAdd, Nat.reduceSub, Nat.reduceLT, Nat.reduceLeDiff, and_true, true_and, forall_const, if_true, if_false, ↓reduceIte, Int.toNat_natCast, List.getElem?_map, Option.map_some, Option.bind_some, Bool.not_true, Bool.not_false, reduceCtorEq, List.take_nil, List.length_map, eq_self, List.all_cons, List.all_nil, Bool.and_true, Int.ofNat_lt, Bool.and_self, finK, resK, Int.natCast_nonneg, implies_true, List.take_zero, Nat.zero_add, List.drop_zero, List.drop_succ_cons, List.take_succ_cons, List.set_cons_zero, List.set_cons_succ, decide_true, decide_false, Int.le_refl, Nat.le_refl, List.flatten_cons, List.flatten_nil]
        refine ⟨fun hlt2 => ?_, fun hge2 => ?_⟩
        · have hy : m[j]? = some m[j] := List.getElem?_eq_getElem hlt2
          have hdm : m.drop j = m[j] :: m.drop (j + 1) := List.drop_eq_getElem_cons hlt2
          rw [hdm]
          generalize m[j] = k at *
          cases p with
          | true =>
            simp only [c104r5, c104r6, hy, hp, bd, bools, c104r7, c104l8m, go_sem, List.replicate, List.append_nil, List.cons_append, List.nil_append, List.length_cons, List.length_nil, List.map_cons, List.map_nil, List.getElem?_cons_zero, List.getElem?_cons_succ, Nat.reduceAdd, Nat.reduceSub, Nat.reduceLT, Nat.reduceLeDiff, and_true, true_and, forall_const, if_true, if_false, ↓reduceIte, Int.toNat_natCast, List.getElem?_map, Option.map_some, Option.bind_some, Bool.not_true, Bool.not_false, reduceCtorEq, List.take_nil, List.length_map, eq_self, List.all_cons, List.all_nil, Bool.and_true, Int.ofNat_lt, Bool.and_self, finK, resK, Int.natCast_nonneg, implies_true, List.take_zero, Nat.zero_add, List.drop_zero, List.drop_succ_cons, List.take_succ_cons, List.set_cons_zero, List.set_cons_succ, decide_true, decide_false, Int.le_refl, Nat.le_refl, List.flatten_cons, List.flatten_nil]
            exact ⟨inR_small (by omega) (by omega), hI2 (m.length - (j + 1)) _ _ (by omega) ⟨j + 1, rfl, by omega, by simp [ansAt], rfl⟩⟩
          | false => cases w with
            | true =>
              simp only [c104r5, c104r6, hy, hp, hw, bd, bools, c104r7, c104l8m, go_sem, List.replicate, List.append_nil, List.cons_append, List.nil_append, List.length_cons, List.length_nil, List.map_cons, List.map_nil, List.getElem?_cons_zero, List.getElem?_cons_succ, Nat.reduceAdd, Nat.reduceSub, Nat.reduceLT, Nat.reduceLeDiff, and_true, true_and, forall_const, if_true, if_false, ↓reduceIte, Int.toNat_natCast, List.getElem?_map, Option.map_some, Option.bind_some, Bool.not_true, Bool.not_false, reduceCtorEq, List.take_nil, List.length_map, eq_self, List.all_cons, List.all_nil, Bool.and_true, Int.ofNat_lt, Bool.and_self, finK, resK, Int.natCast_nonneg, implies_true, List.take_zero, Nat.zero_add, List.drop_zero, List.drop_succ_cons, List.take_succ_cons, List.set_cons_zero, List.set_cons_succ, decide_true, decide_false, Int.le_refl, Nat.le_refl, List.flatten_cons, List.flatten_nil]
              exact ⟨inR_small (by omega) (by omega), hI2 (m.length - (j + 1)) _ _ (by omega) ⟨j + 1, rfl, by omega, by simp [ansAt], rfl⟩⟩
            | false =>
              simp only [c104r5, c104r6, hy, hp, hw, bd, bools, c104r7, c104l8m, ansAt, Bool.false_eq_true, stepv, go_sem, List.replicate, List.append_nil, List.cons_append, List.nil_append, List.length_cons, List.length_nil, List.map_cons, List.map_nil, List.getElem?_cons_zero, List.getElem?_cons_succ, Nat.reduceAdd, Nat.reduceSub, Nat.reduceLT, Nat.reduceLeDiff, and_true, true_and, forall_const, if_true, if_false, ↓reduceIte, Int.toNat_natCast, List.getElem?_map, Option.map_some, Option.bind_some, Bool.not_true, Bool.not_false, reduceCtorEq, List.take_nil, List.length_map, eq_self, List.all_cons, List.all_nil, Bool.and_true, Int.ofNat_lt, Bool.and_self, finK, resK, Int.natCast_nonneg, implies_true, List.take_zero, Nat.zero_add, List.drop_zero, List.drop_succ_cons, List.take_succ_cons, List.set_cons_zero, List.set_cons_succ, decide_true, decide_false, Int.le_refl, Nat.le_refl, List.flatten_cons, List.flatten_nil]
              exact ⟨⟨inR_small (by omega) (by omega), hI2 (m.length - (j + 1)) _ _ (by omega) ⟨j + 1, rfl, by omega, by simp [ansAt], rfl⟩⟩, .inr rfl⟩
        · have hje : j = m.length := by omega
          subst hje
          have he : ansAt i p w ([] : List Int) = [] := by unfold ansAt; cases p <;> cases w <;> rfl
          rw [List.drop_length, he, List.nil_append]
          simp only [c104r9, c104l10m, go_sem, List.replicate, List.append_nil, List.cons_append, List.nil_append, List.length_cons, List.length_nil, List.map_cons, List.map_nil, List.getElem?_cons_zero, List.getElem?_cons_succ, Nat.reduceAdd, Nat.reduceSub, Nat.reduceLT, Nat.reduceLeDiff, and_true, true_and, forall_const, if_true, if_false, ↓reduceIte, Int.toNat_natCast, List.getElem?_map, Option.map_some, Option.bind_some, Bool.not_true, Bool.not_false, reduceCtorEq, List.take_nil, List.length_map, eq_self, List.all_cons, List.all_nil, Bool.and_true, Int.ofNat_lt, Bool.and_self, finK, resK, Int.natCast_nonneg, implies_true, List.take_zero, Nat.zero_add, List.drop_zero, List.drop_succ_cons, List.take_succ_cons, List.set_cons_zero, List.set_cons_succ, decide_true, decide_false, Int.le_refl, Nat.le_refl, List.flatten_cons, List.flatten_nil]
          exact ⟨inR_small (by omega) (by omega), hI (mv.length - (i + 1)) _ _ (by omega) ⟨i + 1, rfl, by omega, rfl, rfl⟩⟩
    · have hie : i = mv.length := by omega
      subst hie
      simp only [finY, go_sem, List.replicate, List.append_nil, List.cons_append, List.nil_append, List.length_cons, List.length_nil, List.map_cons, List.map_nil, List.getElem?_cons_zero, List.getElem?_cons_succ, Nat.reduceAdd, Nat.reduceSub, Nat.reduceLT, Nat.reduceLeDiff, and_true, true_and, forall_const, if_true, if_false, ↓reduceIte, Int.toNat_natCast, List.getElem?_map, Option.map_some, Option.bind_some, Bool.not_true, Bool.not_false, reduceCtorEq, List.take_nil, List.length_map, eq_self, List.all_cons, List.all_nil, Bool.and_true, Int.ofNat_lt, Bool.and_self, finK, resK, Int.natCast_nonneg, implies_true, List.take_zero, Nat.zero_add, List.drop_zero, List.drop_succ_cons, List.take_succ_cons, List.set_cons_zero, List.set_cons_succ, decide_true, decide_false, Int.le_refl, Nat.le_refl, List.flatten_cons, List.flatten_nil]
      left
      simp [ansFrom]
end Go.Proofs.Ytglmjdpmpgphkaa.Sk

/- Known answers of functions, and an iterator, by a table. -/
namespace Go.Proofs.Ytglmjdpmpgphkaa.Sk
open Go Go.E

mutual
def sveq : SV → SV → Bool
  | .bool a, .bool b => a == b
  | .int k n, .int k' n' => decide (k = k') && decide (n = n')
  | .str a, .str b => decide (a.data = b.data)
  | .agg a, .agg b => svseq a b
  | .slice a, .slice b => svseq a b
  | .ptr a, .ptr b => svseq a b
  | .nilp, .nilp => true
  | .fn f a b, .fn f' a' b' => decide (f = f') && svseq a a' && svseq b b'
  | .map a b, .map a' b' => svseq a a' && svseq b b'
  | .nili, .nili => true
  | _, _ => false
def svseq : List SV → List SV → Bool
  | [], [] => true
  | x :: xs, y :: ys => sveq x y && svseq xs ys
  | _, _ => false
end

mutual
theorem sveq_eq : ∀ {a b : SV}, sveq a b = true → a = b
  | .bool _, b, h => by cases b <;> simp_all [sveq]
  | .int _ _, b, h => by cases b <;> simp_all [sveq]
  | .str x, b, h => by
    cases b <;> simp only [sveq, Bool.false_eq_true, decide_eq_true_eq] at h
    rename_i y; cases x; cases y; simp_all
  | .agg _, b, h => by cases b <;> simp only [sveq, Bool.false_eq_true] at h; rw [svseq_eq h]
  | .slice _, b, h => by cases b <;> simp only [sveq, Bool.false_eq_true] at h; rw [svseq_eq h]
  | .ptr _, b, h => by cases b <;> simp only [sveq, Bool.false_eq_true] at h; rw [svseq_eq h]
  | .nilp, b, h => by cases b <;> simp_all [sveq]
  | .fn _ _ _, b, h => by
    cases b <;> simp only [sveq, Bool.false_eq_true, Bool.and_eq_true, decide_eq_true_eq] at h
    rw [h.1.1, svseq_eq h.1.2, svseq_eq h.2]
  | .map _ _, b, h => by
    cases b <;> simp only [sveq, Bool.false_eq_true, Bool.and_eq_true] at h
    rw [svseq_eq h.1, svseq_eq h.2]
  | .nili, b, h => by cases b <;> simp_all [sveq]
theorem svseq_eq : ∀ {a b : List SV}, svseq a b = true → a = b
  | [], b, h => by cases b <;> simp_all [svseq]
  | x :: xs, b, h => by
    cases b <;> simp only [svseq, Bool.false_eq_true, Bool.and_eq_true] at h
    rw [sveq_eq h.1, svseq_eq h.2]
end

structure Fact where
  f : FuncId
  args : List SV
  rs : List SV

def tabFind : List Fact → FuncId → List SV → Option (List SV)
  | [], _, _ => none
  | e :: l, f, args => if e.f = f then if svseq e.args args = true then some e.rs else tabFind l f args else tabFind l f args
theorem tabFind_ok {P : Program} : ∀ {l : List Fact}, (∀ e ∈ l, E.Fn P e.f e.args e.rs) → ∀ {f : FuncId} {args rs : List SV}, tabFind l f args = some rs → E.Fn P f args rs
  | [], _, _, _, _, h => by cases h
  | e :: l, hl, f, args, rs, h => by
    have ih := tabFind_ok (l := l) (fun x hx => hl x (by simp [hx])) (f := f) (args := args) (rs := rs)
    unfold tabFind at h
    split at h
    · rename_i hf
      split at h
      · rename_i ha
        cases h
        rw [← hf, ← svseq_eq ha]
        exact hl e (by simp)
      · exact ih h
    · exact ih h

def ansTab (pl : List Bool) (mv : List (List Int)) (wn : List Bool) : FuncId → List SV → Option (List SV)
  | 104, [.ptr [.ptr (a :: b :: c :: _)]] => if (sveq a (bools pl) && sveq b (.slice (mv.map ints)) && sveq c (bools wn) && decide (pl.length = mv.length) && decide (wn.length = mv.length)) = true then some (ansFrom 0 pl mv wn) else none
  | _, _ => none
theorem ansTab_ok {pl wn : List Bool} {mv : List (List Int)} {g : FuncId} {caps xs : List SV} (h : ansTab pl mv wn g caps = some xs) : E.Yields Try.prog g caps xs := by
  unfold ansTab at h
  split at h
  · split at h
    · rename_i hc
      cases h
      simp only [Bool.and_eq_true, decide_eq_true_eq] at hc
      rw [sveq_eq hc.1.1.1.1, sveq_eq hc.1.1.1.2, sveq_eq hc.1.1.2]
      exact k104 hc.1.2 hc.2
    · cases h
  · cases h
end Go.Proofs.Ytglmjdpmpgphkaa.Sk

/- A copy of no elements. -/
namespace Go.Proofs.Ytglmjdpmpgphkaa.Sk
open Go Go.E Go.E.Sm
set_option maxRecDepth 10000
theorem k75nil : E.FnNew Try.prog 75 1 [.slice []] [] := by
  refine new_of_row okf75 ?_
  simp only [FRow.start, f75, c75r0, c75r1, c75r2, c75r3, go_sem, List.replicate, List.append_nil, List.cons_append, List.nil_append, List.length_cons, List.length_nil, List.map_cons, List.map_nil, List.getElem?_cons_zero, List.getElem?_cons_succ, Nat.reduceAdd, Nat.reduceSub, Nat.reduceLT, Nat.reduceLeDiff, and_true, true_and, forall_const, if_true, if_false, ↓reduceIte, Int.toNat_natCast, List.getElem?_map, Option.map_some, Option.bind_some, Bool.not_true, Bool.not_false, reduceCtorEq, List.take_nil, List.length_map, eq_self, List.all_cons, List.all_nil, Bool.and_true, Int.ofNat_lt, Bool.and_self, finK, resK, Int.natCast_nonneg, implies_true, List.take_zero, Nat.zero_add, List.drop_zero, List.drop_succ_cons, List.take_succ_cons, List.set_cons_zero, List.set_cons_succ, decide_true, decide_false, Int.le_refl, Nat.le_refl, List.flatten_cons, List.flatten_nil]
  simp [finN, newOf, fget, fitsE]
end Go.Proofs.Ytglmjdpmpgphkaa.Sk

/- Facts about the examples: valid machines. -/
namespace Go.Proofs.Ytglmjdpmpgphkaa.Sk
open Go Go.E

def newW : FuncId → Nat → List SV → Option (List SV)
  | 75, 1, [.slice []] => some []
  | _, _, _ => none
theorem newW_ok {f : FuncId} {sz : Nat} {args xs : List SV} (h : newW f sz args = some xs) : E.FnNew Try.prog f sz args xs := by
  unfold newW at h
  split at h
  · cases h; exact k75nil
  · cases h
def tabN (N Y : FuncId → List SV → Option (List SV)) : Tab := exAll Try.prog tbl tbl2 N Y newW 1000 12
def none2 (_ : FuncId) (_ : List SV) : Option (List SV) := none
theorem tab_fn {N Y : FuncId → List SV → Option (List SV)} (hN : ∀ f args rs, N f args = some rs → E.Fn Try.prog f args rs) (hY : ∀ g caps xs, Y g caps = some xs → E.Yields Try.prog g caps xs) {f : FuncId} {args rs : List SV} (h : (tabN N Y).fn f args = some rs) : E.Fn Try.prog f args rs :=
  (exAll_ok tbl_ok tbl2_ok tbl_fn hN hY (fun _ _ _ _ h => newW_ok h) 1000 12).fn f args rs h
theorem tab_none {f : FuncId} {args rs : List SV} (h : (tabN none2 none2).fn f args = some rs) : E.Fn Try.prog f args rs :=
  tab_fn (fun _ _ _ h => by cases h) (fun _ _ _ h => by cases h) h

def pl0 : List Bool := [true, false, false, true, true, true]
def wn0 : List Bool := [false, false, false, false, false, true]
def exM : SV := mach pl0 [[1, 2], [3, 4], [0, 5], [5], [4, 5], []] wn0
def exN : SV := mach pl0 [[1, 2], [3, 4], [0, 5], [5], [4], []] wn0
def exB1 : SV := mach pl0 [[1], [3, 4], [0, 5], [5], [5], []] wn0
def exB2 : SV := mach pl0 [[2], [3, 4], [0, 5], [5], [5], []] wn0
def exT1 : SV := mach pl0 [[1, 2], [3], [0, 5], [5], [4], []] wn0
def exT2 : SV := mach pl0 [[1, 2], [4], [0, 5], [5], [4], []] wn0
def boardOf (m : SV) (d : List Int) : SV := .ptr (m.cells ++ (d ++ List.replicate (14 - d.length) (-1)).map (.int .i64))
def ok0 : List SV := [.int .i64 0]

theorem c20M : E.Fn Try.prog 20 [exM] ok0 := tab_none (by kernel_rfl)
theorem c20N : E.Fn Try.prog 20 [exN] ok0 := tab_none (by kernel_rfl)
theorem c20B1 : E.Fn Try.prog 20 [exB1] ok0 := tab_none (by kernel_rfl)
theorem c20B2 : E.Fn Try.prog 20 [exB2] ok0 := tab_none (by kernel_rfl)
end Go.Proofs.Ytglmjdpmpgphkaa.Sk
