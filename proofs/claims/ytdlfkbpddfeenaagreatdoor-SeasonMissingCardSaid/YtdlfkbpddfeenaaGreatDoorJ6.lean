/- The code of functions in the value semantics, and that it stands for theirs. -/
import Derived.Test.YtdlfkbpddfeenaaGreatDoorJ5
import Derived.Test.YtdlfkbpddfeenaaGreatDoorProg
import Derived.WalkMore
import Derived.Laws.EntriesVeiled
import Derived.Lib.Strings
import Derived.Lib.Slices
import Derived.Lib.Walk
import Derived.Lib.Builder
import Derived.Lib.AppendStr
import Derived.Lib.UnsafeStr
import Derived.Shelf.Strings.Builder1
import Derived.Shelf.Strconv.Itoa3
import Derived.Shelf.Strconv.AtoiAll
import Derived.Shelf.Strings.Split

set_option linter.all false

namespace Go.Proofs.YtdlfkbpddfeenaaGreatDoor.Sk
open Go Go.E
abbrev oP (d : Nat) (o : AOp) : AOper := ⟨some d, none, o⟩
abbrev oG (d g : Nat) (b : Bool) (o : AOp) : AOper := ⟨some d, some (g, b), o⟩
abbrev nI (n : Int) : AX := .c (.s (.int .i64 n))
abbrev aI (n : Int) : LV := .s (.int .i64 n)
abbrev aN : LV := .any
abbrev aZ0 : List LV := []
abbrev aZ8 : List LV := aN::aN::aN::aN::aN::aN::aN::aN::aZ0
abbrev aZ16 : List LV := aN::aN::aN::aN::aN::aN::aN::aN::aZ8
abbrev aZ24 : List LV := aN::aN::aN::aN::aN::aN::aN::aN::aZ16
abbrev aZ32 : List LV := aN::aN::aN::aN::aN::aN::aN::aN::aZ24
abbrev aZ40 : List LV := aN::aN::aN::aN::aN::aN::aN::aN::aZ32
abbrev aZ48 : List LV := aN::aN::aN::aN::aN::aN::aN::aN::aZ40
abbrev aZ56 : List LV := aN::aN::aN::aN::aN::aN::aN::aN::aZ48
abbrev aZ64 : List LV := aN::aN::aN::aN::aN::aN::aN::aN::aZ56
abbrev aZ72 : List LV := aN::aN::aN::aN::aN::aN::aN::aN::aZ64
abbrev aZ80 : List LV := aN::aN::aN::aN::aN::aN::aN::aN::aZ72
abbrev aZ88 : List LV := aN::aN::aN::aN::aN::aN::aN::aN::aZ80
abbrev aZ96 : List LV := aN::aN::aN::aN::aN::aN::aN::aN::aZ88
abbrev aZ104 : List LV := aN::aN::aN::aN::aN::aN::aN::aN::aZ96
abbrev aZ112 : List LV := aN::aN::aN::aN::aN::aN::aN::aN::aZ104
abbrev aZ120 : List LV := aN::aN::aN::aN::aN::aN::aN::aN::aZ112
abbrev aZ128 : List LV := aN::aN::aN::aN::aN::aN::aN::aN::aZ120
abbrev aZ136 : List LV := aN::aN::aN::aN::aN::aN::aN::aN::aZ128
abbrev aZ144 : List LV := aN::aN::aN::aN::aN::aN::aN::aN::aZ136
abbrev aZ152 : List LV := aN::aN::aN::aN::aN::aN::aN::aN::aZ144
abbrev aZ160 : List LV := aN::aN::aN::aN::aN::aN::aN::aN::aZ152
abbrev aZ168 : List LV := aN::aN::aN::aN::aN::aN::aN::aN::aZ160
abbrev aZ176 : List LV := aN::aN::aN::aN::aN::aN::aN::aN::aZ168
abbrev aZ184 : List LV := aN::aN::aN::aN::aN::aN::aN::aN::aZ176
abbrev aZ192 : List LV := aN::aN::aN::aN::aN::aN::aN::aN::aZ184
abbrev aZ200 : List LV := aN::aN::aN::aN::aN::aN::aN::aN::aZ192
abbrev aZ208 : List LV := aN::aN::aN::aN::aN::aN::aN::aN::aZ200
abbrev aZ216 : List LV := aN::aN::aN::aN::aN::aN::aN::aN::aZ208
abbrev aZ224 : List LV := aN::aN::aN::aN::aN::aN::aN::aN::aZ216
abbrev aZ232 : List LV := aN::aN::aN::aN::aN::aN::aN::aN::aZ224
abbrev aZ240 : List LV := aN::aN::aN::aN::aN::aN::aN::aN::aZ232
abbrev aZ248 : List LV := aN::aN::aN::aN::aN::aN::aN::aN::aZ240
abbrev aZ256 : List LV := aN::aN::aN::aN::aN::aN::aN::aN::aZ248
abbrev oM (d s : Nat) : AOper := ⟨some d, none, .mov (.t s)⟩
abbrev oL (d s : Nat) : AOper := ⟨some d, none, .load 1 false (.t s)⟩
abbrev oF (d k s : Nat) : AOper := ⟨some d, none, .fieldAddr k (.t s)⟩
abbrev oN (d s : Nat) : AOper := ⟨some d, none, .len false (.t s)⟩
abbrev oI (d a b : Nat) : AOper := ⟨some d, none, .idxA 1 (.t a) (.t b)⟩
abbrev oH (d g : Nat) (b : Bool) (s : Nat) : AOper := ⟨some d, some (g, b), .mov (.t s)⟩
abbrev bF : AX := .c (.s (.bool false))
abbrev bT : AX := .c (.s (.bool true))
abbrev LO := List AOper
abbrev zF (l : List Bool) : List Bool := false :: l
abbrev zT (l : List Bool) : List Bool := true :: l
abbrev z8 (l : List Bool) : List Bool := false :: false :: false :: false :: false :: false :: false :: false :: l
abbrev sR (c : LO) (k : ACode) : ACode := .seq (.reg 0 c) k
abbrev rG (c : LO) : ACode := .reg 0 c
def c17r0 : LO := [oP 1 (.boxS (.t 0)),oP 2 (.mov bF)]
def c17r1 : LO := [oF 3 0 1,oL 4 3,oN 5 4,oP 6 (.cmp .gtr (.t 5) (nI 30)),oM 2 6]
def f17 : FRow := ⟨(sR c17r0 (sR c17r1 .ret)), [.tmp 2], 7⟩
theorem okf17 : f17.Ok Tryz.prog 17 := ⟨_, _, Tryz.func17, rfl, by kernel_rfl, by kernel_rfl, by kernel_rfl⟩
def c18r0 : LO := [oP 0 (.mov bF)]
def c18r1 : LO := [oP 32 (.call 54 []),oP 33 (.call 28 [(.t 32)]),oM 31 33,oP 34 (.ext (.t 31) 0),oP 35 (.ext (.t 31) 1),oM 1 34,oM 2 35]
def c18r2 : LO := [oP 37 (.call 54 []),oP 38 (.call 30 [(.t 37), (nI 0)]),oM 36 38,oP 39 (.ext (.t 36) 0),oP 40 (.ext (.t 36) 1),oM 3 39,oM 4 40]
def c18r3 : LO := [oP 42 (.call 54 []),oP 43 (.call 30 [(.t 42), (nI 5)]),oM 41 43,oP 44 (.ext (.t 41) 0),oP 45 (.ext (.t 41) 1),oM 5 44,oM 6 45]
def c18r4 : LO := [oP 47 (.call 54 []),oP 48 (.call 35 [(.t 47), (nI 0)]),oM 46 48,oP 49 (.ext (.t 46) 0),oP 50 (.ext (.t 46) 1),oP 7 (.alloc [(.s (.int .i64 0)), (.s (.int .i64 0)), (.s (.int .i64 0)), (.s (.int .i64 0)), (.s (.int .i64 0)), (.full [])]),⟨none, none, .store 6 (.t 7) (.t 49)⟩,oM 8 50]
def c18r5 : LO := [oP 52 (.call 54 []),oP 53 (.call 35 [(.t 52), (nI 2)]),oM 51 53,oP 54 (.ext (.t 51) 0),oP 55 (.ext (.t 51) 1),oP 9 (.alloc [(.s (.int .i64 0)), (.s (.int .i64 0)), (.s (.int .i64 0)), (.s (.int .i64 0)), (.s (.int .i64 0)), (.full [])]),⟨none, none, .store 6 (.t 9) (.t 54)⟩,oM 10 55]
def c18r6 : LO := [oP 57 (.call 54 []),oP 58 (.call 55 []),oP 59 (.call 21 [(.t 57), (.t 58)]),oM 56 59,oP 60 (.ext (.t 56) 0),oP 61 (.ext (.t 56) 1),oP 11 (.alloc [(.full [])]),⟨none, none, .store 1 (.t 11) (.t 60)⟩,oM 12 61]
def c18r7 : LO := [oP 63 (.load 1 true (.t 11)),oP 64 (.call 35 [(.t 63), (nI 0)]),oM 62 64,oP 65 (.ext (.t 62) 0),oP 66 (.ext (.t 62) 1),oP 13 (.alloc [(.s (.int .i64 0)), (.s (.int .i64 0)), (.s (.int .i64 0)), (.s (.int .i64 0)), (.s (.int .i64 0)), (.full [])]),⟨none, none, .store 6 (.t 13) (.t 65)⟩,oM 14 66]
def c18r8 : LO := [oP 68 (.call 54 []),oP 69 (.call 37 [(.t 68)]),oM 67 69,oP 70 (.ext (.t 67) 0),oP 71 (.ext (.t 67) 1),oM 15 70,oM 16 71]
def c18r9 : LO := [oP 73 (.call 53 []),oP 74 (.call 37 [(.t 73)]),oM 72 74,oP 75 (.ext (.t 72) 0),oP 76 (.ext (.t 72) 1),oM 17 75,oM 18 76]
def c18r10 : LO := [oP 78 (.call 54 []),oP 79 (.call 51 [(nI 0), (nI 2), (nI 2), (nI 3)]),oP 80 (.call 19 [(.t 78), (.t 79)]),oM 77 80,oP 81 (.ext (.t 77) 0),oP 82 (.ext (.t 77) 1),oP 19 (.alloc [(.full [])]),⟨none, none, .store 1 (.t 19) (.t 81)⟩,oM 20 82]
def c18r11 : LO := [oP 84 (.call 54 []),oP 85 (.call 51 [(nI 0), (nI 4), (nI 5), (nI 4)]),oP 86 (.call 19 [(.t 84), (.t 85)]),oM 83 86,oP 87 (.ext (.t 83) 0),oP 88 (.ext (.t 83) 1),oP 21 (.alloc [(.full [])]),⟨none, none, .store 1 (.t 21) (.t 87)⟩,oM 22 88]
def c18r12 : LO := [oP 90 (.call 53 []),oP 91 (.buildSl 1 5 (.int .i64 0) [(0, (nI 3)), (1, (nI 0)), (2, (nI 3)), (3, (nI 0)), (4, (nI 0))]),oP 92 (.call 56 [(.t 91)]),oP 93 (.call 32 [(.t 90), (.t 92)]),oM 89 93,oP 94 (.ext (.t 89) 0),oP 95 (.ext (.t 89) 1),oP 23 (.alloc [(.full [])]),⟨none, none, .store 1 (.t 23) (.t 94)⟩,oM 24 95]
def c18r13 : LO := [oP 97 (.call 53 []),oP 98 (.buildSl 1 3 (.int .i64 0) [(0, (nI 0)), (1, (nI 0)), (2, (nI 0))]),oP 99 (.call 56 [(.t 98)]),oP 100 (.call 32 [(.t 97), (.t 99)]),oM 96 100,oP 101 (.ext (.t 96) 0),oP 102 (.ext (.t 96) 1),oP 25 (.alloc [(.full [])]),⟨none, none, .store 1 (.t 25) (.t 101)⟩,oM 26 102]
def c18r14 : LO := [oP 104 (.call 55 []),oP 105 (.call 40 [(.t 104)]),oM 103 105,oP 106 (.ext (.t 103) 0),oP 107 (.ext (.t 103) 1),oM 27 106,oM 28 107]
def c18r15 : LO := [oM 109 27,oP 110 (.call 42 [(.t 109)]),oM 108 110,oP 111 (.ext (.t 108) 0),oP 112 (.ext (.t 108) 1),oP 29 (.alloc [(.full [])]),⟨none, none, .store 1 (.t 29) (.t 111)⟩,oM 30 112]
def c18r16 : LO := [oM 113 2,oP 114 (.cmp .neq (.t 113) (nI 0)),oM 115 114,oH 116 115 false 4,oG 117 115 false (.cmp .neq (.t 116) (nI 0)),oP 118 (.pick (.t 115) bT (.t 117)),oM 119 118,oH 120 119 false 6,oG 121 119 false (.cmp .neq (.t 120) (nI 2)),oP 122 (.pick (.t 119) bT (.t 121)),oM 123 122,oH 124 123 false 8,oG 125 123 false (.cmp .neq (.t 124) (nI 0)),oP 126 (.pick (.t 123) bT (.t 125)),oM 127 126,oH 128 127 false 10,oG 129 127 false (.cmp .neq (.t 128) (nI 0)),oP 130 (.pick (.t 127) bT (.t 129)),oM 131 130,oH 132 131 false 12,oG 133 131 false (.cmp .neq (.t 132) (nI 0)),oP 134 (.pick (.t 131) bT (.t 133)),oM 135 134,oH 136 135 false 14,oG 137 135 false (.cmp .neq (.t 136) (nI 0)),oP 138 (.pick (.t 135) bT (.t 137)),oM 139 138,oH 140 139 false 16,oG 141 139 false (.cmp .neq (.t 140) (nI 0)),oP 142 (.pick (.t 139) bT (.t 141)),oM 143 142,oH 144 143 false 18,oG 145 143 false (.cmp .neq (.t 144) (nI 0)),oP 146 (.pick (.t 143) bT (.t 145)),oM 147 146,oH 148 147 false 20,oG 149 147 false (.cmp .neq (.t 148) (nI 15)),oP 150 (.pick (.t 147) bT (.t 149)),oM 151 150,oH 152 151 false 22,oG 153 151 false (.cmp .neq (.t 152) (nI 2)),oP 154 (.pick (.t 151) bT (.t 153)),oM 155 154,oH 156 155 false 24,oG 157 155 false (.cmp .neq (.t 156) (nI 0)),oP 158 (.pick (.t 155) bT (.t 157)),oM 159 158,oH 160 159 false 26,oG 161 159 false (.cmp .neq (.t 160) (nI 3)),oP 162 (.pick (.t 159) bT (.t 161)),oM 163 162,oH 164 163 false 28,oG 165 163 false (.cmp .neq (.t 164) (nI 0)),oP 166 (.pick (.t 163) bT (.t 165)),oM 167 166,oH 168 167 false 30,oG 169 167 false (.cmp .neq (.t 168) (nI 0)),oP 170 (.pick (.t 167) bT (.t 169))]
def c18r17 : LO := [oP 0 (.mov bF)]
def c18r18 : LO := [oM 171 1,oP 172 (.buildSl 1 5 (.int .i64 0) [(0, (nI 3)), (1, (nI 0)), (2, (nI 3)), (3, (nI 0)), (4, (nI 0))]),oP 173 (.call 56 [(.t 172)]),oP 174 (.call 34 [(.t 171), (.t 173)]),oM 175 174,oH 176 175 true 3,oG 177 175 true (.buildSl 1 1 (.int .i64 0) [(0, (nI 4))]),oG 178 175 true (.call 56 [(.t 177)]),oG 179 175 true (.call 34 [(.t 176), (.t 178)]),oP 180 (.pick (.t 175) (.t 179) bF),oM 181 180,oG 182 181 true (.load 6 true (.t 7)),oG 183 181 true (.call 57 [(nI 4), (nI 1), (nI 2), (nI 2), (nI 0), (.c (.full []))]),oG 184 181 true (.call 39 [(.t 182), (.t 183)]),oP 185 (.pick (.t 181) (.t 184) bF),oM 186 185,oG 187 186 true (.load 6 true (.t 9)),oG 188 186 true (.buildSl 1 1 (.int .i64 0) [(0, (nI 2))]),oG 189 186 true (.call 57 [(nI 0), (nI 0), (nI 0), (nI 0), (nI 0), (.t 188)]),oG 190 186 true (.call 39 [(.t 187), (.t 189)]),oP 191 (.pick (.t 186) (.t 190) bF),oM 192 191,oG 193 192 true (.load 1 true (.t 11)),oG 194 192 true (.call 53 []),oG 195 192 true (.call 27 [(.t 193), (.t 194)]),oP 196 (.pick (.t 192) (.t 195) bF),oM 197 196,oG 198 197 true (.load 6 true (.t 13)),oG 199 197 true (.call 57 [(nI 5), (nI 2), (nI 1), (nI 2), (nI 1), (.c (.full []))]),oG 200 197 true (.call 39 [(.t 198), (.t 199)]),oP 201 (.pick (.t 197) (.t 200) bF),oM 202 201,oH 203 202 true 15,oG 204 202 true (.cmp .eql (.t 203) (nI 2)),oP 205 (.pick (.t 202) (.t 204) bF),oM 206 205,oH 207 206 true 17,oG 208 206 true (.cmp .eql (.t 207) (nI 1)),oP 209 (.pick (.t 206) (.t 208) bF),oM 210 209,oG 211 210 true (.load 1 true (.t 23)),oG 212 210 true (.buildSl 1 8 (.int .i64 0) [(0, (nI 0)), (1, (nI 4)), (2, (nI 4)), (3, (nI 1)), (4, (nI 0)), (5, (nI 5)), (6, (nI 1)), (7, (nI 1))]),oG 213 210 true (.call 58 [(.t 212)]),oG 214 210 true (.call 27 [(.t 211), (.t 213)]),oP 215 (.pick (.t 210) (.t 214) bF),oM 216 215,oH 217 216 true 27,oG 218 216 true (.eql false [.str] false (.t 217) (.c (.s (.str ⟨#[48, 32, 51, 32, 98, 111, 120, 32, 50, 10, 48, 32, 52, 32, 112, 108, 101, 97, 32, 49, 10, 101, 110, 100, 32, 50, 10]⟩)))),oP 219 (.pick (.t 216) (.t 218) bF),oM 220 219,oG 221 220 true (.load 1 true (.t 29)),oG 222 220 true (.call 55 []),oG 223 220 true (.call 27 [(.t 221), (.t 222)]),oP 224 (.pick (.t 220) (.t 223) bF),oM 0 224]
def f18 : FRow := ⟨(sR c18r0 (sR c18r1 (sR c18r2 (sR c18r3 (.seq (.reg 1 c18r4) (.seq (.reg 1 c18r5) (.seq (.reg 1 c18r6) (.seq (.reg 1 c18r7) (sR c18r8 (sR c18r9 (.seq (.reg 1 c18r10) (.seq (.reg 1 c18r11) (.seq (.reg 1 c18r12) (.seq (.reg 1 c18r13) (sR c18r14 (.seq (.reg 1 c18r15) (.seq (sR c18r16 (.cond (.t 170) (sR c18r17 .ret) .skip)) (sR c18r18 .ret)))))))))))))))))), [.tmp 0], 225⟩
theorem okf18 : f18.Ok Tryz.prog 18 := ⟨_, _, Tryz.func18, rfl, by kernel_rfl, by kernel_rfl, by kernel_rfl⟩
def c19r0 : LO := [oP 2 (.boxS (.t 0)),oP 3 (.boxS (.t 1)),oP 4 (.alloc [(.full [])]),oP 5 (.mov (nI 0))]
def c19r1 : LO := [oP 8 (.load 1 true (.t 2)),oP 9 (.call 25 [(.t 8)]),oM 6 9]
def c19r2 : LO := [oM 10 6,oP 11 (.cmp .neq (.t 10) (nI 0))]
def c19r3 : LO := [oP 12 (.build [(.full [])] []),oM 13 6,⟨none, none, .store 1 (.t 4) (.t 12)⟩,oM 5 13]
def c19r4 : LO := [oP 14 (.load 4 true (.t 3)),oP 15 (.call 23 [(.t 14)]),oM 7 15]
def c19r5 : LO := [oM 16 7,oP 17 (.cmp .neq (.t 16) (nI 0))]
def c19r6 : LO := [oP 18 (.build [(.full [])] []),oM 19 7,⟨none, none, .store 1 (.t 4) (.t 18)⟩,oM 5 19]
def c19r7 : LO := [oP 20 (.load 1 true (.t 2)),oP 21 (.load 4 true (.t 3)),oP 22 (.buildSl 4 1 (.agg [(.int .i64 0), (.int .i64 0), (.int .i64 0), (.int .i64 0)]) [(0, (.t 21))]),oP 23 (.build [(.full [])] [(0, 1, (.t 22))]),oP 24 (.call 21 [(.t 20), (.t 23)]),oP 25 (.ext (.t 24) 0),oP 26 (.ext (.t 24) 1),⟨none, none, .store 1 (.t 4) (.t 25)⟩,oM 5 26]
def f19 : FRow := ⟨(.seq (.reg 1 c19r0) (.seq (sR c19r1 (sR c19r2 (.cond (.t 11) (sR c19r3 .ret) .skip))) (.seq (sR c19r4 (sR c19r5 (.cond (.t 17) (sR c19r6 .ret) .skip))) (sR c19r7 .ret)))), [.cell 4 1 true, .tmp 5], 27⟩
theorem okf19 : f19.Ok Tryz.prog 19 := ⟨_, _, Tryz.func19, rfl, by kernel_rfl, by kernel_rfl, by kernel_rfl⟩
def c20r0 : LO := [oP 2 (.boxS (.t 0)),oP 3 (.boxS (.t 1)),oP 4 (.alloc [(.full [])]),oP 5 (.mov (nI 0))]
def c20r1 : LO := [oP 11 (.load 1 true (.t 2)),oP 12 (.call 26 [(.t 11)]),oP 13 (.cmp .neq (.t 12) (nI 0))]
def c20r2 : LO := [oP 14 (.build [(.full [])] []),oP 15 (.load 1 true (.t 2)),oP 16 (.call 26 [(.t 15)]),⟨none, none, .store 1 (.t 4) (.t 14)⟩,oM 5 16]
def c20r3 : LO := [oP 17 (.load 4 true (.t 3)),oP 18 (.call 24 [(.t 17)]),oP 19 (.cmp .neq (.t 18) (nI 0))]
def c20r4 : LO := [oP 20 (.build [(.full [])] []),oP 21 (.load 4 true (.t 3)),oP 22 (.call 24 [(.t 21)]),⟨none, none, .store 1 (.t 4) (.t 20)⟩,oM 5 22]
def c20r5 : LO := [oP 23 (.buildSl 4 0 (.agg [(.int .i64 0), (.int .i64 0), (.int .i64 0), (.int .i64 0)]) []),oF 24 0 2,oL 25 24,oP 26 (.appendN 4 32 (.t 23) (.t 25)),oP 27 (.build [(.full [])] [(0, 1, (.t 26))]),oP 6 (.alloc [(.full [])]),⟨none, none, .store 1 (.t 6) (.t 27)⟩]
def c20r6 : LO := [oP 29 (.load 1 true (.t 2)),oF 30 0 3,oL 31 30,oF 32 1 3,oL 33 32,oP 34 (.call 48 [(.t 29), (.t 31), (.t 33)]),oM 28 34,oP 35 (.ext (.t 28) 0),oP 36 (.ext (.t 28) 1),oP 7 (.alloc [(.s (.int .i64 0)), (.s (.int .i64 0)), (.s (.int .i64 0)), (.s (.int .i64 0))]),⟨none, none, .store 4 (.t 7) (.t 35)⟩,oM 8 36]
def c20r7 : LO := [oM 37 8,oM 38 37,oG 39 38 true (.load 4 true (.t 7)),oG 40 38 true (.load 4 true (.t 3)),oG 41 38 true (.eql true [(.int .i64), (.int .i64), (.int .i64), (.int .i64)] false (.t 39) (.t 40)),oP 42 (.pick (.t 38) (.t 41) bF)]
def c20r8 : LO := [oP 43 (.load 1 true (.t 6)),⟨none, none, .store 1 (.t 4) (.t 43)⟩,oP 5 (.mov (nI 0))]
def c20r9 : LO := [oM 44 8]
def c20r10 : LO := [oP 45 (.build [(.full [])] []),⟨none, none, .store 1 (.t 4) (.t 45)⟩,oP 5 (.mov (nI 15))]
def c20r11 : LO := [oF 46 0 2,oL 47 46,oN 48 47,oP 49 (.cmp .eql (.t 48) (nI 24))]
def c20r12 : LO := [oP 50 (.build [(.full [])] []),⟨none, none, .store 1 (.t 4) (.t 50)⟩,oP 5 (.mov (nI 6))]
def c20r13 : LO := [oF 51 0 6,oL 52 51,oP 53 (.load 4 true (.t 3)),oP 54 (.buildSl 4 1 (.agg [(.int .i64 0), (.int .i64 0), (.int .i64 0), (.int .i64 0)]) [(0, (.t 53))]),oP 55 (.append 4 32 (.t 52) (.t 54)),oM 9 55]
def c20r14 : LO := [oM 56 9,oN 57 56,oP 58 (.arith .sub (.t 57) (nI 1)),oM 10 58]
def c20r15 : LO := [oM 59 10,oP 60 (.cmp .gtr (.t 59) (nI 0)),oM 61 60,oH 62 61 true 9,oH 63 61 true 10,oG 64 61 true (.idxA 4 (.t 62) (.t 63)),oG 65 61 true (.load 4 true (.t 64)),oH 66 61 true 9,oH 67 61 true 10,oG 68 61 true (.arith .sub (.t 67) (nI 1)),oG 69 61 true (.idxA 4 (.t 66) (.t 68)),oG 70 61 true (.load 4 true (.t 69)),oG 71 61 true (.call 59 [(.t 65), (.t 70)]),oP 72 (.pick (.t 61) (.t 71) bF)]
def c20r16 : LO := [oM 75 9,oM 76 10,oM 77 9,oM 78 10,oP 79 (.arith .sub (.t 78) (nI 1)),oM 80 9,oM 81 10,oP 82 (.arith .sub (.t 81) (nI 1)),oP 83 (.idxA 4 (.t 80) (.t 82)),oP 84 (.load 4 true (.t 83)),oM 85 9,oM 86 10,oP 87 (.idxA 4 (.t 85) (.t 86)),oP 88 (.load 4 true (.t 87)),oP 89 (.idxA 4 (.t 75) (.t 76)),⟨none, none, .store 4 (.t 89) (.t 84)⟩,oP 90 (.idxA 4 (.t 77) (.t 79)),⟨none, none, .store 4 (.t 90) (.t 88)⟩]
def c20r17 : LO := [oM 73 10,oP 74 (.arith .sub (.t 73) (nI 1)),oM 10 74]
def c20l18 : ACode := (.seq (sR c20r15 (.cond (.t 72) .skip (.exit 0))) (.seq (.block 1 (rG c20r16)) (rG c20r17)))
def c20l18m : List Bool := zF<|zF<|zF<|zF<|zT<|zF<|zF<|zF<|zF<|zT<|zT<|z8<|z8<|z8<|z8<|z8<|z8<|z8<|z8<|z8<|z8<|zF<|zF<|[]
def c20r19 : LO := [oM 91 9,oP 92 (.build [(.full [])] [(0, 1, (.t 91))]),⟨none, none, .store 1 (.t 4) (.t 92)⟩,oP 5 (.mov (nI 0))]
def f20 : FRow := ⟨(.seq (.reg 1 c20r0) (.seq (sR c20r1 (.cond (.t 13) (sR c20r2 .ret) .skip)) (.seq (sR c20r3 (.cond (.t 19) (sR c20r4 .ret) .skip)) (.seq (.reg 2 c20r5) (.seq (.reg 1 c20r6) (.seq (sR c20r7 (.cond (.t 42) (sR c20r8 .ret) .skip)) (.seq (sR c20r9 (.cond (.t 44) (sR c20r10 .ret) .skip)) (.seq (sR c20r11 (.cond (.t 49) (sR c20r12 .ret) .skip)) (.seq (.reg 1 c20r13) (.seq (sR c20r14 (.block 0 (.loop c20l18m [] c20l18))) (sR c20r19 .ret))))))))))), [.cell 4 1 true, .tmp 5], 93⟩
theorem okf20 : f20.Ok Tryz.prog 20 := ⟨_, _, Tryz.func20, rfl, by kernel_rfl, by kernel_rfl, by kernel_rfl⟩
def c21r0 : LO := [oP 2 (.boxS (.t 0)),oP 3 (.boxS (.t 1)),oP 4 (.alloc [(.full [])]),oP 5 (.mov (nI 0))]
def c21r1 : LO := [oP 15 (.load 1 true (.t 2)),oP 16 (.call 60 [(.t 15)]),oM 14 16,oP 17 (.ext (.t 14) 0),oP 18 (.ext (.t 14) 1),oM 6 17,oM 7 18]
def c21r2 : LO := [oM 19 7,oP 20 (.cmp .neq (.t 19) (nI 0))]
def c21r3 : LO := [oP 21 (.build [(.full [])] []),oM 22 7,⟨none, none, .store 1 (.t 4) (.t 21)⟩,oM 5 22]
def c21r4 : LO := [oP 23 (.load 1 true (.t 3)),oP 24 (.call 25 [(.t 23)]),oM 8 24]
def c21r5 : LO := [oM 25 8,oP 26 (.cmp .neq (.t 25) (nI 0))]
def c21r6 : LO := [oP 27 (.build [(.full [])] []),oM 28 8,⟨none, none, .store 1 (.t 4) (.t 27)⟩,oM 5 28]
def c21r7 : LO := [oF 29 0 2,oL 30 29,oP 31 (.callN 4 61 [(.t 30)]),oM 9 31]
def c21r8 : LO := [oF 32 0 3,oL 33 32,oN 34 33,oP 35 (.mov (nI 0))]
def c21r9 : LO := [oP 36 (.cmp .lss (.t 35) (.t 34))]
def c21r10 : LO := [oP 37 (.idxA 4 (.t 33) (.t 35)),oP 38 (.load 4 true (.t 37)),oP 11 (.alloc [(.s (.int .i64 0)), (.s (.int .i64 0)), (.s (.int .i64 0)), (.s (.int .i64 0))]),⟨none, none, .store 4 (.t 11) (.t 38)⟩]
def c21r11 : LO := [oM 40 6,oP 41 (.nilck (.t 40)),oF 42 1 41,oL 43 42,oP 44 (.load 4 true (.t 11)),oP 45 (.call 62 [(.t 44)]),oP 46 (.mgetS true [(.int .i64), (.int .i64)] (.agg [(.int .i64 0), (.int .i64 0), (.int .i64 0), (.int .i64 0)]) (.t 43) (.t 45)),oM 39 46,oP 47 (.ext (.t 39) 0),oP 48 (.ext (.t 39) 1),oP 12 (.alloc [(.s (.int .i64 0)), (.s (.int .i64 0)), (.s (.int .i64 0)), (.s (.int .i64 0))]),⟨none, none, .store 4 (.t 12) (.t 47)⟩,oM 13 48]
def c21r12 : LO := [oM 50 13,oM 51 50,oG 52 51 true (.load 4 true (.t 12)),oG 53 51 true (.load 4 true (.t 11)),oG 54 51 true (.eql true [(.int .i64), (.int .i64), (.int .i64), (.int .i64)] true (.t 52) (.t 53)),oP 55 (.pick (.t 51) (.t 54) bF),oM 49 55]
def c21r13 : LO := [oP 56 (.build [(.full [])] []),⟨none, none, .store 1 (.t 4) (.t 56)⟩,oP 5 (.mov (nI 15))]
def c21r14 : LO := [oM 58 13,oP 59 (.not (.t 58)),oM 57 59]
def c21r15 : LO := [oM 60 9,oP 61 (.load 4 true (.t 11)),oP 62 (.buildSl 4 1 (.agg [(.int .i64 0), (.int .i64 0), (.int .i64 0), (.int .i64 0)]) [(0, (.t 61))]),oP 63 (.append 4 32 (.t 60) (.t 62)),oM 9 63]
def c21r16 : LO := [oP 64 (.arith .add (.t 35) (nI 1)),oM 35 64]
def c21l17 : ACode := (sR c21r9 (.seq (.cond (.t 36) .skip (.exit 0)) (.seq (.block 1 (.seq (.reg 1 c21r10) (.seq (.reg 1 c21r11) (.block 2 (sR c21r12 (.cond (.t 49) (sR c21r13 .ret) (sR c21r14 (.cond (.t 57) (.reg 1 c21r15) .skip)))))))) (rG c21r16))))
def c21l17m : List Bool := zF<|zF<|zF<|zF<|zT<|zF<|zT<|zF<|zF<|zT<|z8<|z8<|zF<|zF<|zF<|zF<|zF<|zF<|zF<|zT<|zT<|zT<|z8<|z8<|z8<|z8<|zF<|zF<|zF<|zF<|zF<|[]
def c21r18 : LO := [oM 65 9,oN 66 65,oP 67 (.cmp .gtr (.t 66) (nI 24))]
def c21r19 : LO := [oP 68 (.build [(.full [])] []),⟨none, none, .store 1 (.t 4) (.t 68)⟩,oP 5 (.mov (nI 6))]
def c21r20 : LO := [oM 69 9,oP 70 (.callI 63 [(.t 69), (.c (.s (.fn 64 [] [])))])]
def c21r21 : LO := [oM 71 9,oP 72 (.build [(.full [])] [(0, 1, (.t 71))]),⟨none, none, .store 1 (.t 4) (.t 72)⟩,oP 5 (.mov (nI 0))]
def f21 : FRow := ⟨(.seq (.reg 1 c21r0) (sR c21r1 (.seq (sR c21r2 (.cond (.t 20) (sR c21r3 .ret) .skip)) (.seq (sR c21r4 (sR c21r5 (.cond (.t 26) (sR c21r6 .ret) .skip))) (.seq (.reg 1 c21r7) (.seq (sR c21r8 (.block 0 (.loop c21l17m [(9, none, 3)] c21l17))) (.seq (sR c21r18 (.cond (.t 67) (sR c21r19 .ret) .skip)) (sR c21r20 (sR c21r21 .ret))))))))), [.cell 4 1 true, .tmp 5], 73⟩
theorem okf21 : f21.Ok Tryz.prog 21 := ⟨_, _, Tryz.func21, rfl, by kernel_rfl, by kernel_rfl, by kernel_rfl⟩
def c23r0 : LO := [oP 1 (.boxS (.t 0)),oP 2 (.mov (nI 0))]
def c23r1 : LO := [oF 3 0 1,oL 4 3,oP 5 (.buildSl 1 1 (.int .i64 0) [(0, (.t 4))]),oP 6 (.call 65 [(nI 0), (nI 4), (.t 5)]),oP 7 (.not (.t 6)),oM 8 7,oG 9 8 false (.fieldAddr 1 (.t 1)),oG 10 8 false (.load 1 false (.t 9)),oG 11 8 false (.buildSl 1 1 (.int .i64 0) [(0, (.t 10))]),oG 12 8 false (.call 65 [(nI 1), (nI 30), (.t 11)]),oG 13 8 false (.not (.t 12)),oP 14 (.pick (.t 8) bT (.t 13)),oM 15 14,oG 16 15 false (.fieldAddr 3 (.t 1)),oG 17 15 false (.load 1 false (.t 16)),oG 18 15 false (.buildSl 1 1 (.int .i64 0) [(0, (.t 17))]),oG 19 15 false (.call 65 [(nI 0), (nI 100), (.t 18)]),oG 20 15 false (.not (.t 19)),oP 21 (.pick (.t 15) bT (.t 20))]
def c23r2 : LO := [oP 2 (.mov (nI 3))]
def c23r3 : LO := [oF 22 2 1,oL 23 22]
def c23r4 : LO := [oP 25 (.cmp .eql (.t 23) (nI 2)),oM 24 25]
def c23r5 : LO := [oP 26 (.cmp .eql (.t 23) (nI 3)),oM 24 26]
def c23r6 : LO := [oP 2 (.mov (nI 0))]
def c23r7 : LO := [oP 28 (.cmp .eql (.t 23) (nI 1)),oM 27 28]
def c23r8 : LO := [oP 29 (.cmp .eql (.t 23) (nI 4)),oM 27 29]
def c23r9 : LO := [oF 30 3 1,oL 31 30,oP 32 (.cmp .gtr (.t 31) (nI 0))]
def c23r10 : LO := [oP 2 (.mov (nI 0))]
def c23r11 : LO := [oP 34 (.cmp .eql (.t 23) (nI 5)),oM 33 34]
def c23r12 : LO := [oF 35 1 1,oL 36 35,oP 37 (.arith .sub (.t 36) (nI 1)),oF 38 3 1,oL 39 38,oP 40 (.buildSl 1 1 (.int .i64 0) [(0, (.t 39))]),oP 41 (.call 65 [(nI 1), (.t 37), (.t 40)])]
def c23r13 : LO := [oP 2 (.mov (nI 0))]
def c23r14 : LO := [oP 2 (.mov (nI 2))]
def f23 : FRow := ⟨(sR c23r0 (.seq (sR c23r1 (.cond (.t 21) (sR c23r2 .ret) .skip)) (.seq (sR c23r3 (.block 0 (.seq (sR c23r4 (.cond (.t 24) .skip (rG c23r5))) (.cond (.t 24) (sR c23r6 .ret) (.seq (sR c23r7 (.cond (.t 27) .skip (rG c23r8))) (.cond (.t 27) (sR c23r9 (.cond (.t 32) (sR c23r10 .ret) .skip)) (sR c23r11 (.cond (.t 33) (sR c23r12 (.cond (.t 41) (sR c23r13 .ret) .skip)) .skip)))))))) (sR c23r14 .ret)))), [.tmp 2], 42⟩
theorem okf23 : f23.Ok Tryz.prog 23 := ⟨_, _, Tryz.func23, rfl, by kernel_rfl, by kernel_rfl, by kernel_rfl⟩
def c24r0 : LO := [oP 1 (.boxS (.t 0)),oP 2 (.mov (nI 0))]
def c24r1 : LO := [oF 3 0 1,oL 4 3,oP 5 (.cmp .lss (.t 4) (nI 0)),oM 6 5,oG 7 6 false (.fieldAddr 0 (.t 1)),oG 8 6 false (.load 1 false (.t 7)),oG 9 6 false (.cmp .gtr (.t 8) (nI 4)),oP 10 (.pick (.t 6) bT (.t 9)),oM 11 10,oG 12 11 false (.fieldAddr 1 (.t 1)),oG 13 11 false (.load 1 false (.t 12)),oG 14 11 false (.cmp .lss (.t 13) (nI 1)),oP 15 (.pick (.t 11) bT (.t 14)),oM 16 15,oG 17 16 false (.fieldAddr 1 (.t 1)),oG 18 16 false (.load 1 false (.t 17)),oG 19 16 false (.cmp .gtr (.t 18) (nI 30)),oP 20 (.pick (.t 16) bT (.t 19)),oM 21 20,oG 22 21 false (.fieldAddr 3 (.t 1)),oG 23 21 false (.load 1 false (.t 22)),oG 24 21 false (.cmp .lss (.t 23) (nI 0)),oP 25 (.pick (.t 21) bT (.t 24)),oM 26 25,oG 27 26 false (.fieldAddr 3 (.t 1)),oG 28 26 false (.load 1 false (.t 27)),oG 29 26 false (.cmp .gtr (.t 28) (nI 100)),oP 30 (.pick (.t 26) bT (.t 29))]
def c24r2 : LO := [oP 2 (.mov (nI 3))]
def c24r3 : LO := [oF 31 2 1,oL 32 31,oP 33 (.cmp .lss (.t 32) (nI 1)),oM 34 33,oG 35 34 false (.fieldAddr 2 (.t 1)),oG 36 34 false (.load 1 false (.t 35)),oG 37 34 false (.cmp .gtr (.t 36) (nI 5)),oP 38 (.pick (.t 34) bT (.t 37))]
def c24r4 : LO := [oP 2 (.mov (nI 2))]
def c24r5 : LO := [oF 39 2 1,oL 40 39,oP 41 (.cmp .eql (.t 40) (nI 1)),oM 42 41,oG 43 42 false (.fieldAddr 2 (.t 1)),oG 44 42 false (.load 1 false (.t 43)),oG 45 42 false (.cmp .eql (.t 44) (nI 4)),oP 46 (.pick (.t 42) bT (.t 45)),oM 47 46,oG 48 47 true (.fieldAddr 3 (.t 1)),oG 49 47 true (.load 1 false (.t 48)),oG 50 47 true (.cmp .lss (.t 49) (nI 1)),oP 51 (.pick (.t 47) (.t 50) bF)]
def c24r6 : LO := [oP 2 (.mov (nI 2))]
def c24r7 : LO := [oF 52 2 1,oL 53 52,oP 54 (.cmp .eql (.t 53) (nI 5)),oM 55 54,oG 56 55 true (.fieldAddr 3 (.t 1)),oG 57 55 true (.load 1 false (.t 56)),oG 58 55 true (.cmp .lss (.t 57) (nI 1)),oH 59 55 true 58,oG 60 59 false (.fieldAddr 3 (.t 1)),oG 61 59 false (.load 1 false (.t 60)),oG 62 59 false (.fieldAddr 1 (.t 1)),oG 63 59 false (.load 1 false (.t 62)),oG 64 59 false (.cmp .geq (.t 61) (.t 63)),oG 65 55 true (.pick (.t 59) bT (.t 64)),oP 66 (.pick (.t 55) (.t 65) bF)]
def c24r8 : LO := [oP 2 (.mov (nI 2))]
def c24r9 : LO := [oP 2 (.mov (nI 0))]
def f24 : FRow := ⟨(sR c24r0 (.seq (sR c24r1 (.cond (.t 30) (sR c24r2 .ret) .skip)) (.seq (sR c24r3 (.cond (.t 38) (sR c24r4 .ret) .skip)) (.seq (sR c24r5 (.cond (.t 51) (sR c24r6 .ret) .skip)) (.seq (sR c24r7 (.cond (.t 66) (sR c24r8 .ret) .skip)) (sR c24r9 .ret)))))), [.tmp 2], 67⟩
theorem okf24 : f24.Ok Tryz.prog 24 := ⟨_, _, Tryz.func24, rfl, by kernel_rfl, by kernel_rfl, by kernel_rfl⟩
def c25r0 : LO := [oP 1 (.boxS (.t 0)),oP 2 (.mov (nI 0))]
def c25r1 : LO := [oF 8 0 1,oL 9 8,oN 10 9,oP 11 (.cmp .gtr (.t 10) (nI 24))]
def c25r2 : LO := [oP 2 (.mov (nI 6))]
def c25r3 : LO := [oF 12 0 1,oL 13 12,oN 14 13,oP 15 (.mov (nI 0))]
def c25r4 : LO := [oP 16 (.cmp .lss (.t 15) (.t 14))]
def c25r5 : LO := [oP 17 (.idxA 4 (.t 13) (.t 15)),oP 18 (.load 4 true (.t 17)),oP 4 (.alloc [(.s (.int .i64 0)), (.s (.int .i64 0)), (.s (.int .i64 0)), (.s (.int .i64 0))]),⟨none, none, .store 4 (.t 4) (.t 18)⟩]
def c25r6 : LO := [oP 19 (.load 4 true (.t 4)),oP 20 (.call 23 [(.t 19)]),oM 5 20]
def c25r7 : LO := [oM 21 5,oP 22 (.cmp .neq (.t 21) (nI 0))]
def c25r8 : LO := [oM 23 5,oM 2 23]
def c25r9 : LO := [oP 24 (.arith .add (.t 15) (nI 1)),oM 15 24]
def c25l10 : ACode := (sR c25r4 (.seq (.cond (.t 16) .skip (.exit 0)) (.seq (.block 1 (.seq (.reg 1 c25r5) (sR c25r6 (sR c25r7 (.cond (.t 22) (sR c25r8 .ret) .skip))))) (rG c25r9))))
def c25l10m : List Bool := zF<|zT<|z8<|zF<|zF<|zF<|zT<|zT<|zT<|z8<|z8<|z8<|zF<|zF<|zF<|zF<|zF<|zF<|zF<|[]
def c25r11 : LO := [oF 25 0 1,oL 26 25,oN 27 26,oP 28 (.mov (nI 0))]
def c25r12 : LO := [oP 29 (.cmp .lss (.t 28) (.t 27))]
def c25r13 : LO := [oM 30 28,oP 31 (.idxA 4 (.t 26) (.t 28)),oP 32 (.load 4 true (.t 31)),oP 7 (.alloc [(.s (.int .i64 0)), (.s (.int .i64 0)), (.s (.int .i64 0)), (.s (.int .i64 0))]),oM 6 30,⟨none, none, .store 4 (.t 7) (.t 32)⟩]
def c25r14 : LO := [oM 33 6,oP 34 (.cmp .gtr (.t 33) (nI 0)),oM 35 34,oG 36 35 true (.fieldAddr 0 (.t 1)),oG 37 35 true (.load 1 false (.t 36)),oH 38 35 true 6,oG 39 35 true (.arith .sub (.t 38) (nI 1)),oG 40 35 true (.idxA 4 (.t 37) (.t 39)),oG 41 35 true (.load 4 true (.t 40)),oG 42 35 true (.load 4 true (.t 7)),oG 43 35 true (.call 64 [(.t 41), (.t 42)]),oG 44 35 true (.cmp .geq (.t 43) (nI 0)),oP 45 (.pick (.t 35) (.t 44) bF)]
def c25r15 : LO := [oP 2 (.mov (nI 16))]
def c25r16 : LO := [oP 46 (.arith .add (.t 28) (nI 1)),oM 28 46]
def c25l17 : ACode := (sR c25r12 (.seq (.cond (.t 29) .skip (.exit 2)) (.seq (.block 3 (.seq (.reg 1 c25r13) (sR c25r14 (.cond (.t 45) (sR c25r15 .ret) .skip)))) (rG c25r16))))
def c25l17m : List Bool := zF<|zT<|z8<|z8<|z8<|zT<|zT<|zT<|z8<|z8<|zF<|zF<|[]
def c25r18 : LO := [oP 2 (.mov (nI 0))]
def f25 : FRow := ⟨(sR c25r0 (.seq (sR c25r1 (.cond (.t 11) (sR c25r2 .ret) .skip)) (.seq (sR c25r3 (.block 0 (.loop c25l10m [] c25l10))) (.seq (sR c25r11 (.block 2 (.loop c25l17m [] c25l17))) (sR c25r18 .ret))))), [.tmp 2], 47⟩
theorem okf25 : f25.Ok Tryz.prog 25 := ⟨_, _, Tryz.func25, rfl, by kernel_rfl, by kernel_rfl, by kernel_rfl⟩
def c26r0 : LO := [oP 1 (.boxS (.t 0)),oP 2 (.mov (nI 0))]
def c26r1 : LO := [oF 6 0 1,oL 7 6,oM 3 7]
def c26r2 : LO := [oM 8 3,oN 9 8,oP 10 (.cmp .gtr (.t 9) (nI 24))]
def c26r3 : LO := [oP 2 (.mov (nI 6))]
def c26r4 : LO := [oP 4 (.mov (nI 0))]
def c26r5 : LO := [oM 11 4,oM 12 3,oN 13 12,oP 14 (.cmp .lss (.t 11) (.t 13))]
def c26r6 : LO := [oM 17 3,oM 18 4,oP 19 (.idxA 4 (.t 17) (.t 18)),oP 20 (.load 4 true (.t 19)),oP 21 (.call 24 [(.t 20)]),oP 22 (.cmp .neq (.t 21) (nI 0))]
def c26r7 : LO := [oM 23 3,oM 24 4,oP 25 (.idxA 4 (.t 23) (.t 24)),oP 26 (.load 4 true (.t 25)),oP 27 (.call 24 [(.t 26)]),oM 2 27]
def c26r8 : LO := [oM 15 4,oP 16 (.arith .add (.t 15) (nI 1)),oM 4 16]
def c26l9 : ACode := (.seq (sR c26r5 (.cond (.t 14) .skip (.exit 0))) (.seq (.block 1 (sR c26r6 (.cond (.t 22) (sR c26r7 .ret) .skip))) (rG c26r8)))
def c26l9m : List Bool := zF<|zF<|zF<|zT<|zT<|z8<|z8<|z8<|z8<|z8<|[]
def c26r10 : LO := [oP 5 (.mov (nI 1))]
def c26r11 : LO := [oM 28 5,oM 29 3,oN 30 29,oP 31 (.cmp .lss (.t 28) (.t 30))]
def c26r12 : LO := [oM 34 3,oM 35 5,oP 36 (.arith .sub (.t 35) (nI 1)),oP 37 (.idxA 4 (.t 34) (.t 36)),oP 38 (.load 4 true (.t 37)),oM 39 3,oM 40 5,oP 41 (.idxA 4 (.t 39) (.t 40)),oP 42 (.load 4 true (.t 41)),oP 43 (.call 59 [(.t 38), (.t 42)]),oP 44 (.not (.t 43))]
def c26r13 : LO := [oP 2 (.mov (nI 16))]
def c26r14 : LO := [oM 32 5,oP 33 (.arith .add (.t 32) (nI 1)),oM 5 33]
def c26l15 : ACode := (.seq (sR c26r11 (.cond (.t 31) .skip (.exit 2))) (.seq (.block 3 (sR c26r12 (.cond (.t 44) (sR c26r13 .ret) .skip))) (rG c26r14)))
def c26l15m : List Bool := zF<|zF<|zF<|zT<|zF<|zT<|z8<|z8<|z8<|z8<|zF<|zF<|zF<|zF<|zF<|zF<|zF<|[]
def c26r16 : LO := [oP 2 (.mov (nI 0))]
def f26 : FRow := ⟨(sR c26r0 (sR c26r1 (.seq (sR c26r2 (.cond (.t 10) (sR c26r3 .ret) .skip)) (.seq (sR c26r4 (.block 0 (.loop c26l9m [] c26l9))) (.seq (sR c26r10 (.block 2 (.loop c26l15m [] c26l15))) (sR c26r16 .ret)))))), [.tmp 2], 45⟩
theorem okf26 : f26.Ok Tryz.prog 26 := ⟨_, _, Tryz.func26, rfl, by kernel_rfl, by kernel_rfl, by kernel_rfl⟩
def c27r0 : LO := [oP 2 (.boxS (.t 0)),oP 3 (.boxS (.t 1)),oP 4 (.mov bF)]
def c27r1 : LO := [oF 6 0 2,oL 7 6,oN 8 7,oF 9 0 3,oL 10 9,oN 11 10,oP 12 (.cmp .neq (.t 8) (.t 11))]
def c27r2 : LO := [oP 4 (.mov bF)]
def c27r3 : LO := [oP 5 (.mov (nI 0))]
def c27r4 : LO := [oM 13 5,oF 14 0 2,oL 15 14,oN 16 15,oP 17 (.cmp .lss (.t 13) (.t 16))]
def c27r5 : LO := [oF 20 0 2,oL 21 20,oM 22 5,oP 23 (.idxA 4 (.t 21) (.t 22)),oP 24 (.load 4 true (.t 23)),oF 25 0 3,oL 26 25,oM 27 5,oP 28 (.idxA 4 (.t 26) (.t 27)),oP 29 (.load 4 true (.t 28)),oP 30 (.eql true [(.int .i64), (.int .i64), (.int .i64), (.int .i64)] true (.t 24) (.t 29))]
def c27r6 : LO := [oP 4 (.mov bF)]
def c27r7 : LO := [oM 18 5,oP 19 (.arith .add (.t 18) (nI 1)),oM 5 19]
def c27l8 : ACode := (.seq (sR c27r4 (.cond (.t 17) .skip (.exit 0))) (.seq (.block 1 (sR c27r5 (.cond (.t 30) (sR c27r6 .ret) .skip))) (rG c27r7)))
def c27l8m : List Bool := zF<|zF<|zT<|zT<|zF<|zT<|z8<|z8<|z8<|zF<|[]
def c27r9 : LO := [oP 4 (.mov bT)]
def f27 : FRow := ⟨(sR c27r0 (.seq (sR c27r1 (.cond (.t 12) (sR c27r2 .ret) .skip)) (.seq (sR c27r3 (.block 0 (.loop c27l8m [] c27l8))) (sR c27r9 .ret)))), [.tmp 4], 31⟩
theorem okf27 : f27.Ok Tryz.prog 27 := ⟨_, _, Tryz.func27, rfl, by kernel_rfl, by kernel_rfl, by kernel_rfl⟩
def c28r0 : LO := [oP 1 (.boxS (.t 0)),oP 2 (.mov (.c (.full []))),oP 3 (.mov (nI 0))]
def c28r1 : LO := [oP 8 (.load 1 true (.t 1)),oP 9 (.call 60 [(.t 8)]),oM 7 9,oP 10 (.ext (.t 7) 0),oP 11 (.ext (.t 7) 1),oM 4 10,oM 5 11]
def c28r2 : LO := [oM 12 5,oP 13 (.cmp .neq (.t 12) (nI 0))]
def c28r3 : LO := [oM 14 5,oP 2 (.mov (.c (.full []))),oM 3 14]
def c28r4 : LO := [oP 15 (.mkslice 1 8 [(.int .i64 0)] (nI 5) (nI 5)),oM 6 15]
def c28r5 : LO := [oM 16 6,oM 17 4,oP 18 (.nilck (.t 17)),oF 19 2 18,oP 20 (.sliceArr 5 1 (.t 19) none none),oP 21 (.copy 1 (.t 16) (.t 20))]
def c28r6 : LO := [oM 22 6,oM 2 22,oP 3 (.mov (nI 0))]
def f28 : FRow := ⟨(sR c28r0 (sR c28r1 (.seq (sR c28r2 (.cond (.t 13) (sR c28r3 .ret) .skip)) (.seq (.reg 1 c28r4) (sR c28r5 (sR c28r6 .ret)))))), [.tmp 2, .tmp 3], 23⟩
theorem okf28 : f28.Ok Tryz.prog 28 := ⟨_, _, Tryz.func28, rfl, by kernel_rfl, by kernel_rfl, by kernel_rfl⟩
def c30r0 : LO := [oP 2 (.boxS (.t 0)),oP 4 (.mov (.c (.full []))),oP 5 (.mov (nI 0))]
def c30r1 : LO := [oP 9 (.load 1 true (.t 2)),oP 10 (.call 60 [(.t 9)]),oM 8 10,oP 11 (.ext (.t 8) 0),oP 12 (.ext (.t 8) 1),oM 6 11,oM 7 12]
def c30r2 : LO := [oM 14 7,oP 15 (.cmp .neq (.t 14) (nI 0)),oM 13 15]
def c30r3 : LO := [oM 16 7,oP 4 (.mov (.c (.full []))),oM 5 16]
def c30r4 : LO := [oM 18 1,oP 19 (.buildSl 1 1 (.int .i64 0) [(0, (.t 18))]),oP 20 (.call 65 [(nI 0), (nI 4), (.t 19)]),oP 21 (.not (.t 20)),oM 17 21]
def c30r5 : LO := [oP 4 (.mov (.c (.full []))),oP 5 (.mov (nI 2))]
def c30r6 : LO := [oM 22 6,oM 23 1,oP 24 (.call 67 [(.t 22), (.t 23)]),oM 4 24,oP 5 (.mov (nI 0))]
def f30 : FRow := ⟨(sR c30r0 (sR c30r1 (.seq (.block 0 (sR c30r2 (.cond (.t 13) (sR c30r3 .ret) (sR c30r4 (.cond (.t 17) (sR c30r5 .ret) .skip))))) (sR c30r6 .ret)))), [.tmp 4, .tmp 5], 25⟩
theorem okf30 : f30.Ok Tryz.prog 30 := ⟨_, _, Tryz.func30, rfl, by kernel_rfl, by kernel_rfl, by kernel_rfl⟩
def c32r0 : LO := [oP 2 (.boxS (.t 0)),oP 3 (.boxS (.t 1)),oP 4 (.alloc [(.full [])]),oP 5 (.mov (nI 0))]
def c32r1 : LO := [oP 8 (.load 1 true (.t 2)),oP 9 (.call 25 [(.t 8)]),oM 6 9]
def c32r2 : LO := [oM 11 6,oP 12 (.cmp .neq (.t 11) (nI 0)),oM 10 12]
def c32r3 : LO := [oP 13 (.build [(.full [])] []),oM 14 6,⟨none, none, .store 1 (.t 4) (.t 13)⟩,oM 5 14]
def c32r4 : LO := [oL 16 3,oN 17 16,oP 18 (.cmp .neq (.t 17) (nI 5)),oM 19 18,oG 20 19 false (.load 1 false (.t 3)),oG 21 19 false (.call 65 [(nI 0), (nI 30), (.t 20)]),oG 22 19 false (.not (.t 21)),oP 23 (.pick (.t 19) bT (.t 22)),oM 15 23]
def c32r5 : LO := [oP 24 (.build [(.full [])] []),⟨none, none, .store 1 (.t 4) (.t 24)⟩,oP 5 (.mov (nI 3))]
def c32r6 : LO := [oP 25 (.mkfn 69 [] [(.t 3)]),oM 7 25]
def c32r7 : LO := [oF 26 0 2,oL 27 26,oP 28 (.callN 4 61 [(.t 27)]),oM 29 7,oP 30 (.callF 70 (.t 28) [(.t 29)]),oP 31 (.build [(.full [])] [(0, 1, (.t 30))]),⟨none, none, .store 1 (.t 4) (.t 31)⟩,oP 5 (.mov (nI 0))]
def f32 : FRow := ⟨(.seq (.reg 1 c32r0) (sR c32r1 (.seq (.block 0 (sR c32r2 (.cond (.t 10) (sR c32r3 .ret) (sR c32r4 (.cond (.t 15) (sR c32r5 .ret) .skip))))) (sR c32r6 (.seq (.reg 1 c32r7) .ret))))), [.cell 4 1 true, .tmp 5], 32⟩
theorem okf32 : f32.Ok Tryz.prog 32 := ⟨_, _, Tryz.func32, rfl, by kernel_rfl, by kernel_rfl, by kernel_rfl⟩
def c34r0 : LO := [oP 4 (.mov bF)]
def c34r1 : LO := [oM 6 0,oN 7 6,oM 8 1,oN 9 8,oP 10 (.cmp .neq (.t 7) (.t 9))]
def c34r2 : LO := [oP 4 (.mov bF)]
def c34r3 : LO := [oP 5 (.mov (nI 0))]
def c34r4 : LO := [oM 11 5,oM 12 0,oN 13 12,oP 14 (.cmp .lss (.t 11) (.t 13))]
def c34r5 : LO := [oM 17 0,oM 18 5,oI 19 17 18,oL 20 19,oM 21 1,oM 22 5,oI 23 21 22,oL 24 23,oP 25 (.cmp .neq (.t 20) (.t 24))]
def c34r6 : LO := [oP 4 (.mov bF)]
def c34r7 : LO := [oM 15 5,oP 16 (.arith .add (.t 15) (nI 1)),oM 5 16]
def c34l8 : ACode := (.seq (sR c34r4 (.cond (.t 14) .skip (.exit 0))) (.seq (.block 1 (sR c34r5 (.cond (.t 25) (sR c34r6 .ret) .skip))) (rG c34r7)))
def c34l8m : List Bool := zT<|zT<|zF<|zF<|zF<|zT<|z8<|z8<|zF<|zF<|zF<|zF<|[]
def c34r9 : LO := [oP 4 (.mov bT)]
def f34 : FRow := ⟨(sR c34r0 (.seq (sR c34r1 (.cond (.t 10) (sR c34r2 .ret) .skip)) (.seq (sR c34r3 (.block 0 (.loop c34l8m [] c34l8))) (sR c34r9 .ret)))), [.tmp 4], 26⟩
theorem okf34 : f34.Ok Tryz.prog 34 := ⟨_, _, Tryz.func34, rfl, by kernel_rfl, by kernel_rfl, by kernel_rfl⟩
def c35r0 : LO := [oP 2 (.boxS (.t 0)),oP 4 (.alloc [(.s (.int .i64 0)), (.s (.int .i64 0)), (.s (.int .i64 0)), (.s (.int .i64 0)), (.s (.int .i64 0)), (.full [])]),oP 5 (.mov (nI 0))]
def c35r1 : LO := [oP 9 (.load 1 true (.t 2)),oP 10 (.call 60 [(.t 9)]),oM 8 10,oP 11 (.ext (.t 8) 0),oP 12 (.ext (.t 8) 1),oM 6 11,oM 7 12]
def c35r2 : LO := [oM 14 7,oP 15 (.cmp .neq (.t 14) (nI 0)),oM 13 15]
def c35r3 : LO := [oP 16 (.build [(.s (.int .i64 0)), (.s (.int .i64 0)), (.s (.int .i64 0)), (.s (.int .i64 0)), (.s (.int .i64 0)), (.full [])] []),oM 17 7,⟨none, none, .store 6 (.t 4) (.t 16)⟩,oM 5 17]
def c35r4 : LO := [oM 19 1,oP 20 (.buildSl 1 1 (.int .i64 0) [(0, (.t 19))]),oP 21 (.call 65 [(nI 0), (nI 4), (.t 20)]),oP 22 (.not (.t 21)),oM 18 22]
def c35r5 : LO := [oP 23 (.build [(.s (.int .i64 0)), (.s (.int .i64 0)), (.s (.int .i64 0)), (.s (.int .i64 0)), (.s (.int .i64 0)), (.full [])] []),⟨none, none, .store 6 (.t 4) (.t 23)⟩,oP 5 (.mov (nI 2))]
def c35r6 : LO := [oM 24 6,oM 25 1,oP 26 (.call 72 [(.t 24), (.t 25)]),⟨none, none, .store 6 (.t 4) (.t 26)⟩,oP 5 (.mov (nI 0))]
def f35 : FRow := ⟨(.seq (.reg 1 c35r0) (sR c35r1 (.seq (.block 0 (sR c35r2 (.cond (.t 13) (sR c35r3 .ret) (sR c35r4 (.cond (.t 18) (sR c35r5 .ret) .skip))))) (sR c35r6 .ret)))), [.cell 4 6 true, .tmp 5], 27⟩
theorem okf35 : f35.Ok Tryz.prog 35 := ⟨_, _, Tryz.func35, rfl, by kernel_rfl, by kernel_rfl, by kernel_rfl⟩
def c37r0 : LO := [oP 1 (.boxS (.t 0)),oP 2 (.mov (nI 0)),oP 3 (.mov (nI 0))]
def c37r1 : LO := [oP 9 (.load 1 true (.t 1)),oP 10 (.call 60 [(.t 9)]),oM 8 10,oP 11 (.ext (.t 8) 0),oP 12 (.ext (.t 8) 1),oM 4 11,oM 5 12]
def c37r2 : LO := [oM 13 5,oP 14 (.cmp .neq (.t 13) (nI 0))]
def c37r3 : LO := [oM 15 5,oP 2 (.mov (nI 0)),oM 3 15]
def c37r4 : LO := [oP 6 (.mov (nI 0))]
def c37r5 : LO := [oM 16 4,oP 17 (.nilck (.t 16)),oF 18 2 17,oP 19 (.load 5 true (.t 18)),oP 20 (.build [(.s (.int .i64 0)), (.s (.int .i64 0)), (.s (.int .i64 0)), (.s (.int .i64 0)), (.s (.int .i64 0))] []),oP 21 (.eql true [(.int .i64), (.int .i64), (.int .i64), (.int .i64), (.int .i64)] false (.t 19) (.t 20))]
def c37r6 : LO := [oM 22 6,oM 2 22,oP 3 (.mov (nI 0))]
def c37r7 : LO := [oP 23 (.mov (nI 0))]
def c37r8 : LO := [oP 24 (.cmp .lss (.t 23) (nI 5))]
def c37r9 : LO := [oM 25 23,oM 7 25]
def c37r10 : LO := [oM 26 6,oM 27 4,oM 28 7,oP 29 (.call 72 [(.t 27), (.t 28)]),oP 30 (.field 2 1 false (.t 29)),oP 31 (.arith .add (.t 26) (.t 30)),oM 6 31]
def c37r11 : LO := [oP 32 (.arith .add (.t 23) (nI 1)),oM 23 32]
def c37l12 : ACode := (sR c37r8 (.seq (.cond (.t 24) .skip (.exit 0)) (.seq (.block 1 (sR c37r9 (rG c37r10))) (rG c37r11))))
def c37l12m : List Bool := zF<|zF<|zF<|zF<|zT<|zF<|zT<|z8<|z8<|zT<|z8<|zF<|zF<|[]
def c37r13 : LO := [oM 33 6,oM 2 33,oP 3 (.mov (nI 0))]
def f37 : FRow := ⟨(sR c37r0 (sR c37r1 (.seq (sR c37r2 (.cond (.t 14) (sR c37r3 .ret) .skip)) (sR c37r4 (.seq (sR c37r5 (.cond (.t 21) (sR c37r6 .ret) .skip)) (.seq (sR c37r7 (.block 0 (.loop c37l12m [] c37l12))) (sR c37r13 .ret))))))), [.tmp 2, .tmp 3], 34⟩
theorem okf37 : f37.Ok Tryz.prog 37 := ⟨_, _, Tryz.func37, rfl, by kernel_rfl, by kernel_rfl, by kernel_rfl⟩
def c39r0 : LO := [oP 2 (.boxS (.t 0)),oP 3 (.boxS (.t 1)),oP 4 (.mov bF)]
def c39r1 : LO := [oF 5 0 2,oL 6 5,oF 7 0 3,oL 8 7,oP 9 (.cmp .eql (.t 6) (.t 8)),oM 10 9,oG 11 10 true (.fieldAddr 1 (.t 2)),oG 12 10 true (.load 1 false (.t 11)),oG 13 10 true (.fieldAddr 1 (.t 3)),oG 14 10 true (.load 1 false (.t 13)),oG 15 10 true (.cmp .eql (.t 12) (.t 14)),oP 16 (.pick (.t 10) (.t 15) bF),oM 17 16,oG 18 17 true (.fieldAddr 2 (.t 2)),oG 19 17 true (.load 1 false (.t 18)),oG 20 17 true (.fieldAddr 2 (.t 3)),oG 21 17 true (.load 1 false (.t 20)),oG 22 17 true (.cmp .eql (.t 19) (.t 21)),oP 23 (.pick (.t 17) (.t 22) bF),oM 24 23,oG 25 24 true (.fieldAddr 3 (.t 2)),oG 26 24 true (.load 1 false (.t 25)),oG 27 24 true (.fieldAddr 3 (.t 3)),oG 28 24 true (.load 1 false (.t 27)),oG 29 24 true (.cmp .eql (.t 26) (.t 28)),oP 30 (.pick (.t 24) (.t 29) bF),oM 31 30,oG 32 31 true (.fieldAddr 4 (.t 2)),oG 33 31 true (.load 1 false (.t 32)),oG 34 31 true (.fieldAddr 4 (.t 3)),oG 35 31 true (.load 1 false (.t 34)),oG 36 31 true (.cmp .eql (.t 33) (.t 35)),oP 37 (.pick (.t 31) (.t 36) bF),oM 38 37,oG 39 38 true (.fieldAddr 5 (.t 2)),oG 40 38 true (.load 1 false (.t 39)),oG 41 38 true (.fieldAddr 5 (.t 3)),oG 42 38 true (.load 1 false (.t 41)),oG 43 38 true (.call 34 [(.t 40), (.t 42)]),oP 44 (.pick (.t 38) (.t 43) bF),oM 4 44]
def f39 : FRow := ⟨(sR c39r0 (sR c39r1 .ret)), [.tmp 4], 45⟩
theorem okf39 : f39.Ok Tryz.prog 39 := ⟨_, _, Tryz.func39, rfl, by kernel_rfl, by kernel_rfl, by kernel_rfl⟩
def c40r0 : LO := [oP 1 (.boxS (.t 0)),oP 2 (.mov (.c (.s (.str ⟨#[]⟩)))),oP 3 (.mov (nI 0))]
def c40r1 : LO := [oP 8 (.load 1 true (.t 1)),oP 9 (.call 25 [(.t 8)]),oM 4 9]
def c40r2 : LO := [oM 10 4,oP 11 (.cmp .neq (.t 10) (nI 0))]
def c40r3 : LO := [oM 12 4,oP 2 (.mov (.c (.s (.str ⟨#[]⟩)))),oM 3 12]
def c40r4 : LO := [oP 5 (.allocV 101)]
def c40r5 : LO := [oF 13 0 1,oL 14 13,oN 15 14,oP 16 (.mov (nI 0))]
def c40r6 : LO := [oP 17 (.cmp .lss (.t 16) (.t 15))]
def c40r7 : LO := [oP 18 (.idxA 4 (.t 14) (.t 16)),oP 19 (.load 4 true (.t 18)),oP 7 (.alloc [(.s (.int .i64 0)), (.s (.int .i64 0)), (.s (.int .i64 0)), (.s (.int .i64 0))]),⟨none, none, .store 4 (.t 7) (.t 19)⟩]
def c40r8 : LO := [oF 20 0 7,oL 21 20,oP 22 (.call 75 [(.t 21)]),oP 23 (.sop .cat [(.t 22), (.c (.s (.str ⟨#[32]⟩)))]),oF 24 1 7,oL 25 24,oP 26 (.call 75 [(.t 25)]),oP 27 (.sop .cat [(.t 23), (.t 26)]),oP 28 (.sop .cat [(.t 27), (.c (.s (.str ⟨#[32]⟩)))]),oP 29 (.call 76 []),oF 30 2 7,oL 31 30,oP 32 (.arith .sub (.t 31) (nI 1)),oI 33 29 32,oL 34 33,oP 35 (.sop .cat [(.t 28), (.t 34)]),oP 36 (.sop .cat [(.t 35), (.c (.s (.str ⟨#[32]⟩)))]),oF 37 3 7,oL 38 37,oP 39 (.call 75 [(.t 38)]),oP 40 (.sop .cat [(.t 36), (.t 39)]),oP 41 (.sop .cat [(.t 40), (.c (.s (.str ⟨#[10]⟩)))]),oP 42 (.callI 74 [(.t 5), (.t 41)])]
def c40r9 : LO := [oP 43 (.arith .add (.t 16) (nI 1)),oM 16 43]
def c40l10 : ACode := (sR c40r6 (.seq (.cond (.t 17) .skip (.exit 0)) (.seq (.block 1 (.seq (.reg 1 c40r7) (rG c40r8))) (rG c40r9))))
def c40l10m : List Bool := zF<|zT<|zF<|zF<|zF<|zT<|z8<|zT<|zT<|zT<|z8<|z8<|z8<|z8<|zF<|zF<|zF<|[]
def c40r11 : LO := [oF 44 0 1,oL 45 44,oN 46 45,oP 47 (.call 75 [(.t 46)]),oP 48 (.sop .cat [(.c (.s (.str ⟨#[101, 110, 100, 32]⟩))), (.t 47)]),oP 49 (.sop .cat [(.t 48), (.c (.s (.str ⟨#[10]⟩)))]),oP 50 (.callI 74 [(.t 5), (.t 49)])]
def c40r12 : LO := [oP 51 (.callI 77 [(.t 5)]),oM 2 51,oP 3 (.mov (nI 0))]
def f40 : FRow := ⟨(sR c40r0 (.seq (sR c40r1 (sR c40r2 (.cond (.t 11) (sR c40r3 .ret) .skip))) (.seq (.reg 1 c40r4) (.seq (sR c40r5 (.block 0 (.loop c40l10m [(5, some 1, 0)] c40l10))) (sR c40r11 (sR c40r12 .ret)))))), [.tmp 2, .tmp 3], 52⟩
theorem okf40 : f40.Ok Tryz.prog 40 := ⟨_, _, Tryz.func40, rfl, by kernel_rfl, by kernel_rfl, by kernel_rfl⟩
def c42r0 : LO := [oP 2 (.alloc [(.full [])]),oP 3 (.mov (nI 0))]
def c42r1 : LO := [oM 16 0,oP 17 (.len true (.t 16)),oP 18 (.cmp .gtr (.t 17) (nI 500))]
def c42r2 : LO := [oP 19 (.build [(.full [])] []),⟨none, none, .store 1 (.t 2) (.t 19)⟩,oP 3 (.mov (nI 7))]
def c42r3 : LO := [oM 21 0,oP 22 (.call 79 [(.t 21), (.c (.s (.str ⟨#[10]⟩)))]),oM 20 22,oP 23 (.ext (.t 20) 0),oP 24 (.ext (.t 20) 1),oM 4 23,oM 5 24]
def c42r4 : LO := [oM 25 5,oP 26 (.not (.t 25))]
def c42r5 : LO := [oP 27 (.build [(.full [])] []),⟨none, none, .store 1 (.t 2) (.t 27)⟩,oP 3 (.mov (nI 8))]
def c42r6 : LO := [oM 28 4,oP 29 (.call 80 [(.t 28), (.c (.s (.str ⟨#[10]⟩)))]),oM 6 29]
def c42r7 : LO := [oP 7 (.alloc [(.full [])])]
def c42r8 : LO := [oM 30 6,oM 31 6,oN 32 31,oP 33 (.arith .sub (.t 32) (nI 1)),oP 34 (.slice 1 (.t 30) none (some (.t 33)) none),oN 35 34,oP 36 (.mov (nI 0))]
def c42r9 : LO := [oP 37 (.cmp .lss (.t 36) (.t 35))]
def c42r10 : LO := [oI 38 34 36,oL 39 38,oM 9 39]
def c42r11 : LO := [oM 41 9,oP 42 (.call 81 [(.t 41)]),oM 40 42,oP 43 (.ext (.t 40) 0),oP 44 (.ext (.t 40) 1),oP 10 (.alloc [(.s (.int .i64 0)), (.s (.int .i64 0)), (.s (.int .i64 0)), (.s (.int .i64 0))]),⟨none, none, .store 4 (.t 10) (.t 43)⟩,oM 11 44]
def c42r12 : LO := [oM 45 11,oP 46 (.not (.t 45))]
def c42r13 : LO := [oP 47 (.build [(.full [])] []),⟨none, none, .store 1 (.t 2) (.t 47)⟩,oP 3 (.mov (nI 8))]
def c42r14 : LO := [oF 48 0 7,oL 49 48,oP 50 (.load 4 true (.t 10)),oP 51 (.buildSl 4 1 (.agg [(.int .i64 0), (.int .i64 0), (.int .i64 0), (.int .i64 0)]) [(0, (.t 50))]),oP 52 (.append 4 32 (.t 49) (.t 51)),oF 53 0 7,⟨none, none, .store 1 (.t 53) (.t 52)⟩]
def c42r15 : LO := [oP 54 (.arith .add (.t 36) (nI 1)),oM 36 54]
def c42l16 : ACode := (sR c42r9 (.seq (.cond (.t 37) .skip (.exit 0)) (.seq (.block 1 (sR c42r10 (.seq (.reg 1 c42r11) (.seq (sR c42r12 (.cond (.t 46) (sR c42r13 .ret) .skip)) (.reg 1 c42r14))))) (rG c42r15))))
def c42l16m : List Bool := zF<|zF<|zT<|zF<|zF<|zF<|zT<|zT<|z8<|z8<|z8<|zF<|zF<|zT<|zT<|zT<|z8<|z8<|z8<|z8<|z8<|z8<|z8<|[]
def c42r17 : LO := [oM 56 6,oM 57 6,oN 58 57,oP 59 (.arith .sub (.t 58) (nI 1)),oI 60 56 59,oL 61 60,oP 62 (.call 82 [(.t 61), (.c (.s (.str ⟨#[101, 110, 100, 32]⟩)))]),oM 55 62,oP 63 (.ext (.t 55) 0),oP 64 (.ext (.t 55) 1),oM 12 63,oM 5 64]
def c42r18 : LO := [oM 66 12,oP 67 (.call 83 [(.t 66)]),oM 65 67,oP 68 (.ext (.t 65) 0),oP 69 (.ext (.t 65) 1),oM 13 68,oM 14 69]
def c42r19 : LO := [oP 70 (.load 1 true (.t 7)),oP 71 (.call 25 [(.t 70)]),oM 15 71]
def c42r20 : LO := [oM 73 5,oP 74 (.not (.t 73)),oM 75 74,oH 76 75 false 14,oG 77 75 false (.not (.t 76)),oP 78 (.pick (.t 75) bT (.t 77)),oM 72 78]
def c42r21 : LO := [oP 79 (.build [(.full [])] []),⟨none, none, .store 1 (.t 2) (.t 79)⟩,oP 3 (.mov (nI 8))]
def c42r22 : LO := [oM 81 13,oF 82 0 7,oL 83 82,oN 84 83,oP 85 (.cmp .neq (.t 81) (.t 84)),oM 80 85]
def c42r23 : LO := [oP 86 (.build [(.full [])] []),⟨none, none, .store 1 (.t 2) (.t 86)⟩,oP 3 (.mov (nI 16))]
def c42r24 : LO := [oM 88 15,oP 89 (.cmp .neq (.t 88) (nI 0)),oM 87 89]
def c42r25 : LO := [oP 90 (.build [(.full [])] []),oM 91 15,⟨none, none, .store 1 (.t 2) (.t 90)⟩,oM 3 91]
def c42r26 : LO := [oP 92 (.load 1 true (.t 7)),⟨none, none, .store 1 (.t 2) (.t 92)⟩,oP 3 (.mov (nI 0))]
def f42 : FRow := ⟨(.seq (.reg 1 c42r0) (.seq (sR c42r1 (.cond (.t 18) (sR c42r2 .ret) .skip)) (sR c42r3 (.seq (sR c42r4 (.cond (.t 26) (sR c42r5 .ret) .skip)) (sR c42r6 (.seq (.reg 1 c42r7) (.seq (sR c42r8 (.block 0 (.loop c42l16m [(7, some 0, 3)] c42l16))) (sR c42r17 (sR c42r18 (sR c42r19 (.seq (.block 2 (sR c42r20 (.cond (.t 72) (sR c42r21 .ret) (sR c42r22 (.cond (.t 80) (sR c42r23 .ret) (sR c42r24 (.cond (.t 87) (sR c42r25 .ret) .skip))))))) (sR c42r26 .ret)))))))))))), [.cell 2 1 true, .tmp 3], 93⟩
theorem okf42 : f42.Ok Tryz.prog 42 := ⟨_, _, Tryz.func42, rfl, by kernel_rfl, by kernel_rfl, by kernel_rfl⟩
def c44r0 : LO := [oP 1 (.boxS (.t 0)),oP 2 (.mov bF)]
def c44r1 : LO := [oP 3 (.load 1 true (.t 1)),oP 4 (.call 17 [(.t 3)]),oP 5 (.not (.t 4)),oM 6 5,oG 7 6 true (.load 1 true (.t 1)),oG 8 6 true (.call 26 [(.t 7)]),oG 9 6 true (.cmp .eql (.t 8) (nI 0)),oP 10 (.pick (.t 6) (.t 9) bF),oM 2 10]
def f44 : FRow := ⟨(sR c44r0 (sR c44r1 .ret)), [.tmp 2], 11⟩
theorem okf44 : f44.Ok Tryz.prog 44 := ⟨_, _, Tryz.func44, rfl, by kernel_rfl, by kernel_rfl, by kernel_rfl⟩
def c45r0 : LO := [oP 3 (.boxS (.t 0)),oP 4 (.boxS (.t 1)),oP 6 (.mov bF)]
def c45r1 : LO := [oP 7 (.mov (nI 0))]
def c45r2 : LO := [oM 12 7,oP 13 (.cmp .leq (.t 12) (nI 4))]
def c45r3 : LO := [oP 17 (.load 1 true (.t 3)),oM 18 7,oP 19 (.call 35 [(.t 17), (.t 18)]),oM 16 19,oP 20 (.ext (.t 16) 0),oP 21 (.ext (.t 16) 1),oP 8 (.alloc [(.s (.int .i64 0)), (.s (.int .i64 0)), (.s (.int .i64 0)), (.s (.int .i64 0)), (.s (.int .i64 0)), (.full [])]),⟨none, none, .store 6 (.t 8) (.t 20)⟩,oM 9 21]
def c45r4 : LO := [oP 23 (.load 1 true (.t 4)),oM 24 7,oP 25 (.call 35 [(.t 23), (.t 24)]),oM 22 25,oP 26 (.ext (.t 22) 0),oP 27 (.ext (.t 22) 1),oP 10 (.alloc [(.s (.int .i64 0)), (.s (.int .i64 0)), (.s (.int .i64 0)), (.s (.int .i64 0)), (.s (.int .i64 0)), (.full [])]),⟨none, none, .store 6 (.t 10) (.t 26)⟩,oM 11 27]
def c45r5 : LO := [oM 28 9,oP 29 (.cmp .neq (.t 28) (nI 0)),oM 30 29,oH 31 30 false 11,oG 32 30 false (.cmp .neq (.t 31) (nI 0)),oP 33 (.pick (.t 30) bT (.t 32)),oM 34 33,oH 35 34 false 7,oH 36 34 false 2,oG 37 34 false (.cmp .neq (.t 35) (.t 36)),oH 38 34 false 37,oG 39 38 true (.load 6 true (.t 8)),oG 40 38 true (.load 6 true (.t 10)),oG 41 38 true (.call 39 [(.t 39), (.t 40)]),oG 42 38 true (.not (.t 41)),oG 43 34 false (.pick (.t 38) (.t 42) bF),oP 44 (.pick (.t 34) bT (.t 43))]
def c45r6 : LO := [oP 6 (.mov bF)]
def c45r7 : LO := [oM 14 7,oP 15 (.arith .add (.t 14) (nI 1)),oM 7 15]
def c45l8 : ACode := (.seq (sR c45r2 (.cond (.t 13) .skip (.exit 0))) (.seq (.block 1 (.seq (.reg 1 c45r3) (.seq (.reg 1 c45r4) (sR c45r5 (.cond (.t 44) (sR c45r6 .ret) .skip))))) (rG c45r7)))
def c45l8m : List Bool := zF<|zF<|zT<|zT<|zT<|zF<|zF<|zT<|z8<|z8<|z8<|z8<|zF<|zF<|zF<|zF<|zF<|[]
def c45r9 : LO := [oP 6 (.mov bT)]
def f45 : FRow := ⟨(sR c45r0 (.seq (sR c45r1 (.block 0 (.loop c45l8m [] c45l8))) (sR c45r9 .ret))), [.tmp 6], 45⟩
theorem okf45 : f45.Ok Tryz.prog 45 := ⟨_, _, Tryz.func45, rfl, by kernel_rfl, by kernel_rfl, by kernel_rfl⟩
def c46r0 : LO := [oP 2 (.boxS (.t 0)),oP 4 (.alloc [(.full [])])]
def c46r1 : LO := [oP 5 (.alloc [(.full [])])]
def c46r2 : LO := [oP 6 (.mov (nI 0))]
def c46r3 : LO := [oM 7 6,oF 8 0 2,oL 9 8,oN 10 9,oP 11 (.cmp .lss (.t 7) (.t 10))]
def c46r4 : LO := [oM 14 1,oM 15 6,oP 16 (.shift .shr (.t 14) (.t 15)),oP 17 (.bits .and (.t 16) (.c (.s (.int .u32 1)))),oP 18 (.cmp .eql (.t 17) (.c (.s (.int .u32 1))))]
def c46r5 : LO := [oF 19 0 5,oL 20 19,oF 21 0 2,oL 22 21,oM 23 6,oP 24 (.idxA 4 (.t 22) (.t 23)),oP 25 (.load 4 true (.t 24)),oP 26 (.buildSl 4 1 (.agg [(.int .i64 0), (.int .i64 0), (.int .i64 0), (.int .i64 0)]) [(0, (.t 25))]),oP 27 (.append 4 32 (.t 20) (.t 26)),oF 28 0 5,⟨none, none, .store 1 (.t 28) (.t 27)⟩]
def c46r6 : LO := [oM 12 6,oP 13 (.arith .add (.t 12) (nI 1)),oM 6 13]
def c46l7 : ACode := (.seq (sR c46r3 (.cond (.t 11) .skip (.exit 0))) (.seq (.block 1 (sR c46r4 (.cond (.t 18) (.reg 1 c46r5) .skip))) (rG c46r6)))
def c46l7m : List Bool := zF<|zT<|zT<|zF<|zT<|zT<|zT<|z8<|z8<|zF<|zF<|zF<|zF<|zF<|zF<|zF<|[]
def c46r8 : LO := [oP 29 (.load 1 true (.t 5)),⟨none, none, .store 1 (.t 4) (.t 29)⟩]
def f46 : FRow := ⟨(.seq (.reg 1 c46r0) (.seq (.reg 1 c46r1) (.seq (sR c46r2 (.block 0 (.loop c46l7m [(5, some 0, 3)] c46l7))) (sR c46r8 .ret)))), [.cell 4 1 true], 30⟩
theorem okf46 : f46.Ok Tryz.prog 46 := ⟨_, _, Tryz.func46, rfl, by kernel_rfl, by kernel_rfl, by kernel_rfl⟩
def c47r0 : LO := [oP 2 (.boxS (.t 0)),oP 4 (.mov (nI 0))]
def c47r1 : LO := [oP 5 (.mov (nI 0))]
def c47r2 : LO := [oP 9 (.load 1 true (.t 2)),oM 10 1,oM 11 5,oP 12 (.arith .add (.t 11) (nI 1)),oP 13 (.call 48 [(.t 9), (.t 10), (.t 12)]),oM 8 13,oP 14 (.ext (.t 8) 0),oP 15 (.ext (.t 8) 1),oP 6 (.alloc [(.s (.int .i64 0)), (.s (.int .i64 0)), (.s (.int .i64 0)), (.s (.int .i64 0))]),⟨none, none, .store 4 (.t 6) (.t 14)⟩,oM 7 15]
def c47r3 : LO := [oM 16 7,oP 17 (.not (.t 16))]
def c47r4 : LO := [oM 18 5,oM 4 18]
def c47r5 : LO := [oM 19 5,oP 20 (.arith .add (.t 19) (nI 1)),oM 5 20]
def c47l6 : ACode := (.block 1 (.seq (.reg 1 c47r2) (.seq (sR c47r3 (.cond (.t 17) (sR c47r4 .ret) .skip)) (rG c47r5))))
def c47l6m : List Bool := zF<|zT<|zT<|zF<|zF<|zT<|z8<|zF<|zF<|zF<|zF<|zF<|zF<|zF<|[]
def f47 : FRow := ⟨(sR c47r0 (sR c47r1 (.block 0 (.loop c47l6m [] c47l6)))), [.tmp 4], 21⟩
theorem okf47 : f47.Ok Tryz.prog 47 := ⟨_, _, Tryz.func47, rfl, by kernel_rfl, by kernel_rfl, by kernel_rfl⟩
def c48r0 : LO := [oP 3 (.boxS (.t 0)),oP 6 (.alloc [(.s (.int .i64 0)), (.s (.int .i64 0)), (.s (.int .i64 0)), (.s (.int .i64 0))]),oP 7 (.mov bF)]
def c48r1 : LO := [oP 8 (.mov (nI 0))]
def c48r2 : LO := [oM 9 8,oF 10 0 3,oL 11 10,oN 12 11,oP 13 (.cmp .lss (.t 9) (.t 12))]
def c48r3 : LO := [oF 16 0 3,oL 17 16,oM 18 8,oP 19 (.idxA 4 (.t 17) (.t 18)),oF 20 0 19,oL 21 20,oM 22 1,oP 23 (.cmp .eql (.t 21) (.t 22)),oM 24 23,oG 25 24 true (.fieldAddr 0 (.t 3)),oG 26 24 true (.load 1 false (.t 25)),oH 27 24 true 8,oG 28 24 true (.idxA 4 (.t 26) (.t 27)),oG 29 24 true (.fieldAddr 1 (.t 28)),oG 30 24 true (.load 1 false (.t 29)),oH 31 24 true 2,oG 32 24 true (.cmp .eql (.t 30) (.t 31)),oP 33 (.pick (.t 24) (.t 32) bF)]
def c48r4 : LO := [oF 34 0 3,oL 35 34,oM 36 8,oP 37 (.idxA 4 (.t 35) (.t 36)),oP 38 (.load 4 true (.t 37)),⟨none, none, .store 4 (.t 6) (.t 38)⟩,oP 7 (.mov bT)]
def c48r5 : LO := [oM 14 8,oP 15 (.arith .add (.t 14) (nI 1)),oM 8 15]
def c48l6 : ACode := (.seq (sR c48r2 (.cond (.t 13) .skip (.exit 0))) (.seq (.block 1 (sR c48r3 (.cond (.t 33) (sR c48r4 .ret) .skip))) (rG c48r5)))
def c48l6m : List Bool := zF<|zT<|zT<|zT<|zF<|zF<|zT<|zF<|zT<|z8<|z8<|z8<|zF<|zF<|zF<|zF<|zF<|zF<|zF<|[]
def c48r7 : LO := [oP 39 (.build [(.s (.int .i64 0)), (.s (.int .i64 0)), (.s (.int .i64 0)), (.s (.int .i64 0))] []),⟨none, none, .store 4 (.t 6) (.t 39)⟩,oP 7 (.mov bF)]
def f48 : FRow := ⟨(.seq (.reg 1 c48r0) (.seq (sR c48r1 (.block 0 (.loop c48l6m [] c48l6))) (sR c48r7 .ret))), [.cell 6 4 true, .tmp 7], 40⟩
theorem okf48 : f48.Ok Tryz.prog 48 := ⟨_, _, Tryz.func48, rfl, by kernel_rfl, by kernel_rfl, by kernel_rfl⟩
def c49r0 : LO := [oP 3 (.boxS (.t 0)),oP 6 (.mov bF)]
def c49r1 : LO := [oP 7 (.mov (nI 1))]
def c49r2 : LO := [oM 10 7,oP 11 (.load 1 true (.t 3)),oM 12 1,oP 13 (.call 47 [(.t 11), (.t 12)]),oP 14 (.cmp .leq (.t 10) (.t 13))]
def c49r3 : LO := [oP 18 (.load 1 true (.t 3)),oM 19 1,oM 20 7,oP 21 (.call 48 [(.t 18), (.t 19), (.t 20)]),oM 17 21,oP 22 (.ext (.t 17) 0),oP 23 (.ext (.t 17) 1),oP 8 (.alloc [(.s (.int .i64 0)), (.s (.int .i64 0)), (.s (.int .i64 0)), (.s (.int .i64 0))]),⟨none, none, .store 4 (.t 8) (.t 22)⟩,oM 9 23]
def c49r4 : LO := [oF 24 2 8,oL 25 24,oP 26 (.cmp .eql (.t 25) (nI 5)),oM 27 26,oG 28 27 true (.fieldAddr 3 (.t 8)),oG 29 27 true (.load 1 false (.t 28)),oH 30 27 true 2,oG 31 27 true (.cmp .eql (.t 29) (.t 30)),oP 32 (.pick (.t 27) (.t 31) bF)]
def c49r5 : LO := [oP 6 (.mov bT)]
def c49r6 : LO := [oM 15 7,oP 16 (.arith .add (.t 15) (nI 1)),oM 7 16]
def c49l7 : ACode := (.seq (sR c49r2 (.cond (.t 14) .skip (.exit 0))) (.seq (.block 1 (.seq (.reg 1 c49r3) (sR c49r4 (.cond (.t 32) (sR c49r5 .ret) .skip)))) (rG c49r6)))
def c49l7m : List Bool := zF<|zT<|zT<|zT<|zF<|zF<|zF<|zT<|z8<|z8<|z8<|zF<|[]
def c49r8 : LO := [oP 6 (.mov bF)]
def f49 : FRow := ⟨(sR c49r0 (.seq (sR c49r1 (.block 0 (.loop c49l7m [] c49l7))) (sR c49r8 .ret))), [.tmp 6], 33⟩
theorem okf49 : f49.Ok Tryz.prog 49 := ⟨_, _, Tryz.func49, rfl, by kernel_rfl, by kernel_rfl, by kernel_rfl⟩
def c50r0 : LO := [oP 2 (.boxS (.t 0)),oP 4 (.mov (nI 0))]
def c50r1 : LO := [oP 5 (.mov (nI 0))]
def c50r2 : LO := [oP 6 (.mov (nI 0))]
def c50r3 : LO := [oM 7 6,oF 8 0 2,oL 9 8,oN 10 9,oP 11 (.cmp .lss (.t 7) (.t 10))]
def c50r4 : LO := [oF 14 0 2,oL 15 14,oM 16 6,oP 17 (.idxA 4 (.t 15) (.t 16)),oF 18 0 17,oL 19 18,oM 20 1,oP 21 (.cmp .eql (.t 19) (.t 20))]
def c50r5 : LO := [oM 22 5,oF 23 0 2,oL 24 23,oM 25 6,oP 26 (.idxA 4 (.t 24) (.t 25)),oF 27 1 26,oL 28 27,oP 29 (.max [(.t 22), (.t 28)]),oM 5 29]
def c50r6 : LO := [oM 12 6,oP 13 (.arith .add (.t 12) (nI 1)),oM 6 13]
def c50l7 : ACode := (.seq (sR c50r3 (.cond (.t 11) .skip (.exit 0))) (.seq (.block 1 (sR c50r4 (.cond (.t 21) (rG c50r5) .skip))) (rG c50r6)))
def c50l7m : List Bool := zF<|zT<|zT<|zF<|zF<|zT<|zT<|z8<|z8<|z8<|[]
def c50r8 : LO := [oM 30 5,oM 4 30]
def f50 : FRow := ⟨(sR c50r0 (sR c50r1 (.seq (sR c50r2 (.block 0 (.loop c50l7m [] c50l7))) (sR c50r8 .ret)))), [.tmp 4], 31⟩
theorem okf50 : f50.Ok Tryz.prog 50 := ⟨_, _, Tryz.func50, rfl, by kernel_rfl, by kernel_rfl, by kernel_rfl⟩
def c51r0 : LO := [oP 8 (.alloc [(.s (.int .i64 0)), (.s (.int .i64 0)), (.s (.int .i64 0)), (.s (.int .i64 0))])]
def c51r1 : LO := [oM 9 0,oM 10 1,oM 11 2,oM 12 3,oP 13 (.build [(.s (.int .i64 0)), (.s (.int .i64 0)), (.s (.int .i64 0)), (.s (.int .i64 0))] [(0, 1, (.t 9)), (1, 1, (.t 10)), (2, 1, (.t 11)), (3, 1, (.t 12))]),⟨none, none, .store 4 (.t 8) (.t 13)⟩]
def f51 : FRow := ⟨(.seq (.reg 1 c51r0) (sR c51r1 .ret)), [.cell 8 4 true], 14⟩
theorem okf51 : f51.Ok Tryz.prog 51 := ⟨_, _, Tryz.func51, rfl, by kernel_rfl, by kernel_rfl, by kernel_rfl⟩
def c52r0 : LO := [oP 2 (.boxS (.t 0)),oP 4 (.alloc [(.full [])])]
def c52r1 : LO := [oP 5 (.alloc [(.full [])])]
def c52r2 : LO := [oP 6 (.mov (nI 0))]
def c52r3 : LO := [oM 7 6,oF 8 0 2,oL 9 8,oN 10 9,oP 11 (.cmp .lss (.t 7) (.t 10))]
def c52r4 : LO := [oF 14 0 2,oL 15 14,oM 16 6,oP 17 (.idxA 4 (.t 15) (.t 16)),oF 18 0 17,oL 19 18,oM 20 1,oP 21 (.cmp .eql (.t 19) (.t 20))]
def c52r5 : LO := [oF 22 0 5,oL 23 22,oF 24 0 2,oL 25 24,oM 26 6,oP 27 (.idxA 4 (.t 25) (.t 26)),oP 28 (.load 4 true (.t 27)),oP 29 (.buildSl 4 1 (.agg [(.int .i64 0), (.int .i64 0), (.int .i64 0), (.int .i64 0)]) [(0, (.t 28))]),oP 30 (.append 4 32 (.t 23) (.t 29)),oF 31 0 5,⟨none, none, .store 1 (.t 31) (.t 30)⟩]
def c52r6 : LO := [oM 12 6,oP 13 (.arith .add (.t 12) (nI 1)),oM 6 13]
def c52l7 : ACode := (.seq (sR c52r3 (.cond (.t 11) .skip (.exit 0))) (.seq (.block 1 (sR c52r4 (.cond (.t 21) (.reg 1 c52r5) .skip))) (rG c52r6)))
def c52l7m : List Bool := zF<|zT<|zT<|zF<|zT<|zT<|zT<|z8<|z8<|z8<|zF<|zF<|[]
def c52r8 : LO := [oP 32 (.load 1 true (.t 5)),⟨none, none, .store 1 (.t 4) (.t 32)⟩]
def f52 : FRow := ⟨(.seq (.reg 1 c52r0) (.seq (.reg 1 c52r1) (.seq (sR c52r2 (.block 0 (.loop c52l7m [(5, some 0, 3)] c52l7))) (sR c52r8 .ret)))), [.cell 4 1 true], 33⟩
theorem okf52 : f52.Ok Tryz.prog 52 := ⟨_, _, Tryz.func52, rfl, by kernel_rfl, by kernel_rfl, by kernel_rfl⟩
def c53r0 : LO := [oP 0 (.alloc [(.full [])])]
def c53r1 : LO := [oP 1 (.buildSl 1 32 (.int .i64 0) [(0, (nI 0)), (1, (nI 1)), (2, (nI 1)), (3, (nI 5)), (4, (nI 0)), (5, (nI 2)), (6, (nI 2)), (7, (nI 2)), (8, (nI 0)), (9, (nI 3)), (10, (nI 3)), (11, (nI 2)), (12, (nI 0)), (13, (nI 4)), (14, (nI 4)), (15, (nI 1)), (16, (nI 0)), (17, (nI 5)), (18, (nI 1)), (19, (nI 1)), (20, (nI 2)), (21, (nI 1)), (22, (nI 1)), (23, (nI 1)), (24, (nI 2)), (25, (nI 2)), (26, (nI 2)), (27, (nI 3)), (28, (nI 2)), (29, (nI 3)), (30, (nI 5)), (31, (nI 1))]),oP 2 (.call 58 [(.t 1)]),⟨none, none, .store 1 (.t 0) (.t 2)⟩]
def f53 : FRow := ⟨(.seq (.reg 1 c53r0) (sR c53r1 .ret)), [.cell 0 1 true], 3⟩
theorem okf53 : f53.Ok Tryz.prog 53 := ⟨_, _, Tryz.func53, rfl, by kernel_rfl, by kernel_rfl, by kernel_rfl⟩
def c54r0 : LO := [oP 0 (.alloc [(.full [])])]
def c54r1 : LO := [oP 1 (.buildSl 1 28 (.int .i64 0) [(0, (nI 0)), (1, (nI 1)), (2, (nI 1)), (3, (nI 5)), (4, (nI 0)), (5, (nI 2)), (6, (nI 2)), (7, (nI 2)), (8, (nI 0)), (9, (nI 3)), (10, (nI 3)), (11, (nI 2)), (12, (nI 0)), (13, (nI 5)), (14, (nI 1)), (15, (nI 1)), (16, (nI 2)), (17, (nI 1)), (18, (nI 1)), (19, (nI 1)), (20, (nI 2)), (21, (nI 2)), (22, (nI 2)), (23, (nI 3)), (24, (nI 2)), (25, (nI 3)), (26, (nI 5)), (27, (nI 1))]),oP 2 (.call 58 [(.t 1)]),⟨none, none, .store 1 (.t 0) (.t 2)⟩]
def f54 : FRow := ⟨(.seq (.reg 1 c54r0) (sR c54r1 .ret)), [.cell 0 1 true], 3⟩
theorem okf54 : f54.Ok Tryz.prog 54 := ⟨_, _, Tryz.func54, rfl, by kernel_rfl, by kernel_rfl, by kernel_rfl⟩
def c55r0 : LO := [oP 0 (.alloc [(.full [])])]
def c55r1 : LO := [oP 1 (.buildSl 1 8 (.int .i64 0) [(0, (nI 0)), (1, (nI 3)), (2, (nI 3)), (3, (nI 2)), (4, (nI 0)), (5, (nI 4)), (6, (nI 4)), (7, (nI 1))]),oP 2 (.call 58 [(.t 1)]),⟨none, none, .store 1 (.t 0) (.t 2)⟩]
def f55 : FRow := ⟨(.seq (.reg 1 c55r0) (sR c55r1 .ret)), [.cell 0 1 true], 3⟩
theorem okf55 : f55.Ok Tryz.prog 55 := ⟨_, _, Tryz.func55, rfl, by kernel_rfl, by kernel_rfl, by kernel_rfl⟩
def c56r0 : LO := [oP 2 (.mov (.c (.full [])))]
def c56r1 : LO := [oM 3 0,oM 2 3]
def f56 : FRow := ⟨(sR c56r0 (sR c56r1 .ret)), [.tmp 2], 4⟩
theorem okf56 : f56.Ok Tryz.prog 56 := ⟨_, _, Tryz.func56, rfl, by kernel_rfl, by kernel_rfl, by kernel_rfl⟩
def c57r0 : LO := [oP 12 (.alloc [(.s (.int .i64 0)), (.s (.int .i64 0)), (.s (.int .i64 0)), (.s (.int .i64 0)), (.s (.int .i64 0)), (.full [])])]
def c57r1 : LO := [oM 13 0,oM 14 1,oM 15 2,oM 16 3,oM 17 4,oM 18 5,oP 19 (.build [(.s (.int .i64 0)), (.s (.int .i64 0)), (.s (.int .i64 0)), (.s (.int .i64 0)), (.s (.int .i64 0)), (.full [])] [(0, 1, (.t 13)), (1, 1, (.t 14)), (2, 1, (.t 15)), (3, 1, (.t 16)), (4, 1, (.t 17)), (5, 1, (.t 18))]),⟨none, none, .store 6 (.t 12) (.t 19)⟩]
def f57 : FRow := ⟨(.seq (.reg 1 c57r0) (sR c57r1 .ret)), [.cell 12 6 true], 20⟩
theorem okf57 : f57.Ok Tryz.prog 57 := ⟨_, _, Tryz.func57, rfl, by kernel_rfl, by kernel_rfl, by kernel_rfl⟩
def c59r0 : LO := [oP 2 (.boxS (.t 0)),oP 3 (.boxS (.t 1)),oP 4 (.mov bF)]
def c59r1 : LO := [oF 5 0 2,oL 6 5,oF 7 0 3,oL 8 7,oP 9 (.cmp .lss (.t 6) (.t 8)),oM 10 9,oG 11 10 false (.fieldAddr 0 (.t 2)),oG 12 10 false (.load 1 false (.t 11)),oG 13 10 false (.fieldAddr 0 (.t 3)),oG 14 10 false (.load 1 false (.t 13)),oG 15 10 false (.cmp .eql (.t 12) (.t 14)),oH 16 10 false 15,oG 17 16 true (.fieldAddr 1 (.t 2)),oG 18 16 true (.load 1 false (.t 17)),oG 19 16 true (.fieldAddr 1 (.t 3)),oG 20 16 true (.load 1 false (.t 19)),oG 21 16 true (.cmp .lss (.t 18) (.t 20)),oG 22 10 false (.pick (.t 16) (.t 21) bF),oP 23 (.pick (.t 10) bT (.t 22)),oM 4 23]
def f59 : FRow := ⟨(sR c59r0 (sR c59r1 .ret)), [.tmp 4], 24⟩
theorem okf59 : f59.Ok Tryz.prog 59 := ⟨_, _, Tryz.func59, rfl, by kernel_rfl, by kernel_rfl, by kernel_rfl⟩
def c60r0 : LO := [oP 1 (.boxS (.t 0)),oP 2 (.mov (.c (.s .nilp))),oP 3 (.mov (nI 0))]
def c60r1 : LO := [oP 5 (.load 1 true (.t 1)),oP 6 (.call 25 [(.t 5)]),oM 4 6]
def c60r2 : LO := [oM 7 4,oP 8 (.cmp .neq (.t 7) (nI 0))]
def c60r3 : LO := [oM 9 4,oP 2 (.mov (.c (.s .nilp))),oM 3 9]
def c60r4 : LO := [oP 10 (.load 1 true (.t 1)),oP 11 (.call 87 [(.t 10)]),oM 2 11,oP 3 (.mov (nI 0))]
def f60 : FRow := ⟨(sR c60r0 (.seq (sR c60r1 (sR c60r2 (.cond (.t 8) (sR c60r3 .ret) .skip))) (sR c60r4 .ret))), [.tmp 2, .tmp 3], 12⟩
theorem okf60 : f60.Ok Tryz.prog 60 := ⟨_, _, Tryz.func60, rfl, by kernel_rfl, by kernel_rfl, by kernel_rfl⟩
def c61r0 : LO := [oP 2 (.mov (.c (.full [])))]
def c61r1 : LO := [oM 3 0,oP 4 (.eqNil false (.t 3))]
def c61r2 : LO := [oP 2 (.mov (.c (.full [])))]
def c61r3 : LO := [oP 5 (.buildSl 4 0 (.agg [(.int .i64 0), (.int .i64 0), (.int .i64 0), (.int .i64 0)]) []),oM 6 0,oP 7 (.appendN 4 32 (.t 5) (.t 6)),oM 2 7]
def f61 : FRow := ⟨(sR c61r0 (.seq (sR c61r1 (.cond (.t 4) (sR c61r2 .ret) .skip)) (.seq (.reg 1 c61r3) .ret))), [.tmp 2], 8⟩
theorem okf61 : f61.Ok Tryz.prog 61 := ⟨_, _, Tryz.func61, rfl, by kernel_rfl, by kernel_rfl, by kernel_rfl⟩
def c62r0 : LO := [oP 1 (.boxS (.t 0)),oP 2 (.alloc [(.s (.int .i64 0)), (.s (.int .i64 0))])]
def c62r1 : LO := [oF 3 0 1,oL 4 3,oF 5 1 1,oL 6 5,oP 7 (.build [(.s (.int .i64 0)), (.s (.int .i64 0))] [(0, 1, (.t 4)), (1, 1, (.t 6))]),⟨none, none, .store 2 (.t 2) (.t 7)⟩]
def f62 : FRow := ⟨(.seq (.reg 1 c62r0) (sR c62r1 .ret)), [.cell 2 2 true], 8⟩
theorem okf62 : f62.Ok Tryz.prog 62 := ⟨_, _, Tryz.func62, rfl, by kernel_rfl, by kernel_rfl, by kernel_rfl⟩
def c63r0 : LO := [oM 5 0,oN 6 5,oM 4 6]
def c63r1 : LO := [oM 7 0,oM 8 4,oM 9 4,oP 10 (.conv .u64 (.t 9)),oP 11 (.call 89 [(.t 10)]),oM 12 1,oP 13 (.callI 88 [(.t 7), (nI 0), (.t 8), (.t 11), (.t 12)])]
def f63 : FRow := ⟨(sR c63r0 (rG c63r1)), [], 14⟩
def c64r0 : LO := [oP 2 (.boxS (.t 0)),oP 3 (.boxS (.t 1)),oP 4 (.mov (nI 0))]
def c64r1 : LO := [oF 5 0 2,oL 6 5,oF 7 0 3,oL 8 7,oP 9 (.cmp .neq (.t 6) (.t 8))]
def c64r2 : LO := [oF 10 0 2,oL 11 10,oF 12 0 3,oL 13 12,oP 14 (.arith .sub (.t 11) (.t 13)),oM 4 14]
def c64r3 : LO := [oF 15 1 2,oL 16 15,oF 17 1 3,oL 18 17,oP 19 (.arith .sub (.t 16) (.t 18)),oM 4 19]
def f64 : FRow := ⟨(sR c64r0 (.seq (sR c64r1 (.cond (.t 9) (sR c64r2 .ret) .skip)) (sR c64r3 .ret))), [.tmp 4], 20⟩
theorem okf64 : f64.Ok Tryz.prog 64 := ⟨_, _, Tryz.func64, rfl, by kernel_rfl, by kernel_rfl, by kernel_rfl⟩
def c65r0 : LO := [oP 3 (.boxS (.t 0)),oP 4 (.boxS (.t 1)),oP 6 (.mov bF)]
def c65r1 : LO := [oM 7 2,oP 8 (.mkfn 91 [] [(.t 3), (.t 4)]),oP 9 (.call 90 [(.t 7), (.t 8)]),oP 10 (.not (.t 9)),oM 6 10]
def f65 : FRow := ⟨(sR c65r0 (sR c65r1 .ret)), [.tmp 6], 11⟩
theorem okf65 : f65.Ok Tryz.prog 65 := ⟨_, _, Tryz.func65, rfl, by kernel_rfl, by kernel_rfl, by kernel_rfl⟩
def c67r0 : LO := [oP 4 (.mov (.c (.full [])))]
def c67r1 : LO := [oP 5 (.alloc [(.full [])])]
def c67r2 : LO := [oP 6 (.alloc [(.s (.int .i64 0))]),⟨none, none, .store 1 (.t 6) (nI 1)⟩]
def c67r3 : LO := [oM 8 0,oM 9 1,oP 10 (.call 92 [(.t 8), (.t 9)])]
def c67r4 : LO := [oP 7 (.alloc [(.s (.int .i64 0)), (.s (.int .i64 0)), (.s (.int .i64 0)), (.s (.int .i64 0))]),⟨none, none, .store 4 (.t 7) (.t 11)⟩]
def c67r5 : LO := [oL 12 6,oF 13 1 7,oL 14 13,oP 15 (.cmp .geq (.t 12) (.t 14))]
def c67r6 : LO := [oL 16 5,oL 17 5,oN 18 17,oL 19 5,oN 20 19,oP 21 (.slice 1 (.t 16) none (some (.t 18)) (some (.t 20))),oL 22 6,oP 23 (.buildSl 1 1 (.int .i64 0) [(0, (.t 22))]),oP 24 (.append 1 8 (.t 21) (.t 23)),⟨none, none, .store 1 (.t 5) (.t 24)⟩]
def c67r7 : LO := [oL 25 6,oP 26 (.arith .add (.t 25) (nI 1)),⟨none, none, .store 1 (.t 6) (.t 26)⟩]
def c67l8 : ACode := (.block 3 (.seq (sR c67r5 (.cond (.t 15) (.exit 2) .skip)) (.seq (.reg 1 c67r6) (rG c67r7))))
def c67l8m : List Bool := zF<|zF<|zF<|zF<|zF<|zT<|zT<|zT<|z8<|z8<|zF<|zF<|zF<|zF<|zF<|zF<|zF<|[]
def c67r9 : LO := [oF 27 1 7,oL 28 27,oP 29 (.arith .add (.t 28) (nI 1)),⟨none, none, .store 1 (.t 6) (.t 29)⟩]
def c67b10 : ACode := (.block 1 (.scope (.seq (.label 0) (.seq (.block 2 (.loop c67l8m [(5, some 0, 0)] c67l8)) (rG c67r9)))))
def c67b10a : ACode := (.reg 1 c67r4)
def c67r11 : LO := [oL 30 5,oM 4 30]
def t67 : BRow := ⟨(.seq (.code (rG c67r0)) (.seq (.code (.reg 1 c67r1)) (.seq (.code (.reg 1 c67r2)) (.seq (.seq (.code (rG c67r3)) (.block 0 (.promo [(5, some 0, 0)] (.rangeF 1 (.t 10) 11 c67b10a c67b10)))) (.code (sR c67r11 .ret)))))), [.tmp 4], 31⟩
theorem okt67 : t67.Ok Tryz.prog 67 := ⟨_, _, Tryz.func67, rfl, by kernel_rfl, by kernel_rfl, by kernel_rfl⟩
def c69r0 : LO := [oP 2 (.boxS (.t 0)),oP 3 (.mov bF)]
def c69r1 : LO := [oF 4 1 2,oL 5 4,oL 6 1,oF 7 0 2,oL 8 7,oI 9 6 8,oL 10 9,oP 11 (.cmp .leq (.t 5) (.t 10)),oM 3 11]
def f69 : FRow := ⟨(sR c69r0 (sR c69r1 .ret)), [.tmp 3], 12⟩
theorem okf69 : f69.Ok Tryz.prog 69 := ⟨_, _, Tryz.func69, rfl, by kernel_rfl, by kernel_rfl, by kernel_rfl⟩
def c70r0 : LO := [oP 4 (.mov (.c (.full [])))]
def c70r1 : LO := [oM 8 0,oM 9 1,oP 10 (.call 93 [(.t 8), (.t 9)]),oM 5 10]
def c70r2 : LO := [oM 11 5,oP 12 (.cmp .eql (.t 11) (nI (-1)))]
def c70r3 : LO := [oM 13 0,oM 4 13]
def c70r4 : LO := [oM 14 5,oP 15 (.arith .add (.t 14) (nI 1)),oM 6 15]
def c70r5 : LO := [oM 16 6,oM 17 0,oN 18 17,oP 19 (.cmp .lss (.t 16) (.t 18))]
def c70r6 : LO := [oM 22 0,oM 23 6,oP 24 (.idxA 4 (.t 22) (.t 23)),oP 25 (.load 4 true (.t 24)),oP 7 (.alloc [(.s (.int .i64 0)), (.s (.int .i64 0)), (.s (.int .i64 0)), (.s (.int .i64 0))]),⟨none, none, .store 4 (.t 7) (.t 25)⟩]
def c70r7 : LO := [oM 26 1,oP 27 (.load 4 true (.t 7)),oP 28 (.callv (.t 26) [(.t 27)]),oP 29 (.not (.t 28))]
def c70r8 : LO := [oM 30 0,oM 31 5,oP 32 (.load 4 true (.t 7)),oP 33 (.idxA 4 (.t 30) (.t 31)),⟨none, none, .store 4 (.t 33) (.t 32)⟩]
def c70r9 : LO := [oM 34 5,oP 35 (.arith .add (.t 34) (nI 1)),oM 5 35]
def c70r10 : LO := [oM 20 6,oP 21 (.arith .add (.t 20) (nI 1)),oM 6 21]
def c70l11 : ACode := (.seq (sR c70r5 (.cond (.t 19) .skip (.exit 0))) (.seq (.block 1 (.seq (.reg 1 c70r6) (sR c70r7 (.cond (.t 29) (sR c70r8 (rG c70r9)) .skip)))) (rG c70r10)))
def c70l11m : List Bool := zT<|zT<|zF<|zF<|zF<|zT<|zT<|z8<|z8<|z8<|z8<|zF<|zF<|zF<|[]
def c70r12 : LO := [oM 36 0,oM 37 5,oP 38 (.slice 4 (.t 36) (some (.t 37)) none none),⟨none, none, .clear 4 [(.int .i64 0), (.int .i64 0), (.int .i64 0), (.int .i64 0)] (.t 38)⟩]
def c70r13 : LO := [oM 39 0,oM 40 5,oP 41 (.slice 4 (.t 39) none (some (.t 40)) none),oM 4 41]
def f70 : FRow := ⟨(sR c70r0 (sR c70r1 (.seq (sR c70r2 (.cond (.t 12) (sR c70r3 .ret) .skip)) (.seq (sR c70r4 (.block 0 (.loop c70l11m [] c70l11))) (sR c70r12 (sR c70r13 .ret)))))), [.tmp 4], 42⟩
theorem okf70 : f70.Ok Tryz.prog 70 := ⟨_, _, Tryz.func70, rfl, by kernel_rfl, by kernel_rfl, by kernel_rfl⟩
def c72r0 : LO := [oP 2 (.boxS (.t 0)),oP 3 (.boxS (.t 1)),oP 4 (.alloc [(.s (.int .i64 0)), (.s (.int .i64 0)), (.s (.int .i64 0)), (.s (.int .i64 0)), (.s (.int .i64 0)), (.full [])])]
def c72r1 : LO := [oP 5 (.alloc [(.s (.int .i64 0)), (.s (.int .i64 0)), (.s (.int .i64 0)), (.s (.int .i64 0)), (.s (.int .i64 0)), (.full [])])]
def c72r2 : LO := [oL 15 2,oP 16 (.mkfn 92 [(.t 15)] []),oM 6 16]
def c72r3 : LO := [oP 17 (.mkmap),oP 7 (.alloc [(.s (.map [] []))]),⟨none, none, .store 1 (.t 7) (.t 17)⟩]
def c72r4 : LO := [oM 18 6,oL 19 3,oP 20 (.callv (.t 18) [(.t 19)])]
def c72r5 : LO := [oP 8 (.alloc [(.s (.int .i64 0)), (.s (.int .i64 0)), (.s (.int .i64 0)), (.s (.int .i64 0))]),⟨none, none, .store 4 (.t 8) (.t 21)⟩]
def c72r6 : LO := [oF 22 1 8,oL 23 22,oL 24 2,oL 25 3,oP 26 (.nilck (.t 24)),oF 27 2 26,oP 28 (.idxArrA 5 1 (.t 27) (.t 25)),oL 29 28,oP 30 (.cmp .leq (.t 23) (.t 29))]
def c72r7 : LO := [oL 31 7,oP 32 (.load 4 true (.t 8)),oP 33 (.call 62 [(.t 32)]),oP 34 (.load 4 true (.t 8)),⟨none, none, .mset [(.int .i64), (.int .i64)] (.t 31) (.t 33) (.t 34)⟩]
def c72b8 : ACode := (.block 1 (sR c72r6 (.cond (.t 30) (rG c72r7) .skip)))
def c72b8a : ACode := (.reg 1 c72r5)
def c72r9 : LO := [oM 35 6,oL 36 3,oP 37 (.callv (.t 35) [(.t 36)])]
def c72r10 : LO := [oP 9 (.alloc [(.s (.int .i64 0)), (.s (.int .i64 0)), (.s (.int .i64 0)), (.s (.int .i64 0))]),⟨none, none, .store 4 (.t 9) (.t 38)⟩]
def c72r11 : LO := [oF 39 2 9,oL 40 39,oP 41 (.cmp .eql (.t 40) (nI 5)),oM 42 41,oG 43 42 true (.fieldAddr 1 (.t 9)),oG 44 42 true (.load 1 false (.t 43)),oG 45 42 true (.load 1 false (.t 2)),oG 46 42 true (.load 1 false (.t 3)),oG 47 42 true (.nilck (.t 45)),oG 48 42 true (.fieldAddr 2 (.t 47)),oG 49 42 true (.idxArrA 5 1 (.t 48) (.t 46)),oG 50 42 true (.load 1 false (.t 49)),oG 51 42 true (.cmp .leq (.t 44) (.t 50)),oP 52 (.pick (.t 42) (.t 51) bF)]
def c72r12 : LO := [oL 53 7,oL 54 3,oF 55 3 9,oL 56 55,oP 57 (.build [(.s (.int .i64 0)), (.s (.int .i64 0))] [(0, 1, (.t 54)), (1, 1, (.t 56))]),⟨none, none, .mdel [(.int .i64), (.int .i64)] (.t 53) (.t 57)⟩]
def c72b13 : ACode := (.block 3 (sR c72r11 (.cond (.t 52) (rG c72r12) .skip)))
def c72b13a : ACode := (.reg 1 c72r10)
def c72r14 : LO := [oL 58 2,oL 59 3,oP 60 (.nilck (.t 58)),oF 61 2 60,oP 62 (.idxArrA 5 1 (.t 61) (.t 59)),oL 63 62,oP 64 (.mov (nI 0))]
def c72r15 : LO := [oP 65 (.cmp .lss (.t 64) (.t 63))]
def c72r16 : LO := [oM 66 64,oM 10 66]
def c72r17 : LO := [oL 68 7,oL 69 3,oM 70 10,oP 71 (.arith .add (.t 70) (nI 1)),oP 72 (.build [(.s (.int .i64 0)), (.s (.int .i64 0))] [(0, 1, (.t 69)), (1, 1, (.t 71))]),oP 73 (.mget true [(.int .i64), (.int .i64)] (.agg [(.int .i64 0), (.int .i64 0), (.int .i64 0), (.int .i64 0)]) (.t 68) (.t 72)),oM 67 73,oP 74 (.ext (.t 67) 0),oP 75 (.ext (.t 67) 1),oP 11 (.alloc [(.s (.int .i64 0)), (.s (.int .i64 0)), (.s (.int .i64 0)), (.s (.int .i64 0))]),⟨none, none, .store 4 (.t 11) (.t 74)⟩,oM 12 75]
def c72r18 : LO := [oP 77 (.call 95 []),oP 78 (.mkfn 96 [] [(.t 11)]),oP 79 (.call 94 [(.t 77), (.t 78)]),oM 76 79,oP 80 (.ext (.t 76) 0),oP 81 (.ext (.t 76) 1),oP 13 (.alloc [(.s (.int .i64 0)), (.s .nilf), (.s .nilf)]),⟨none, none, .store 3 (.t 13) (.t 80)⟩,oM 14 81]
def c72r19 : LO := [oM 90 12,oP 91 (.not (.t 90)),oM 92 91,oH 93 92 false 14,oG 94 92 false (.not (.t 93)),oP 95 (.pick (.t 92) bT (.t 94)),oM 89 95]
def c72r20 : LO := [oF 97 1 13,oL 98 97,oP 99 (.load 6 true (.t 5)),oF 100 3 11,oL 101 100,oP 102 (.callv (.t 98) [(.t 99), (.t 101)]),oM 96 102]
def c72r21 : LO := [oF 103 2 13,oL 104 103,oF 105 3 11,oL 106 105,oP 107 (.callvI (.t 104) [(.t 5), (.t 106)])]
def c72r22 : LO := [oF 82 5 5,oL 83 82,oF 84 1 11,oL 85 84,oP 86 (.buildSl 1 1 (.int .i64 0) [(0, (.t 85))]),oP 87 (.append 1 8 (.t 83) (.t 86)),oF 88 5 5,⟨none, none, .store 1 (.t 88) (.t 87)⟩]
def c72r23 : LO := [oP 108 (.arith .add (.t 64) (nI 1)),oM 64 108]
def c72l24 : ACode := (sR c72r15 (.seq (.cond (.t 65) .skip (.exit 4)) (.seq (.block 5 (sR c72r16 (.seq (.reg 1 c72r17) (.seq (.zapb 11 (.reg 1 c72r18)) (.block 6 (sR c72r19 (.cond (.t 89) .skip (sR c72r20 (.cond (.t 96) (rG c72r21) (.reg 1 c72r22)))))))))) (rG c72r23))))
def c72l24m : List Bool := zF<|zF<|zF<|zT<|zT<|zT<|zF<|zT<|z8<|z8<|z8<|z8<|z8<|z8<|zF<|zF<|zF<|zF<|zF<|zF<|zF<|zT<|zT<|z8<|z8<|z8<|z8<|z8<|zF<|zF<|zF<|zF<|zF<|[]
def c72r25 : LO := [oP 109 (.load 6 true (.t 5)),⟨none, none, .store 6 (.t 4) (.t 109)⟩]
def t72 : BRow := ⟨(.seq (.code (.reg 1 c72r0)) (.seq (.code (.reg 1 c72r1)) (.seq (.code (rG c72r2)) (.seq (.code (.reg 2 c72r3)) (.seq (.seq (.code (rG c72r4)) (.block 0 (.rangeF 0 (.t 20) 21 c72b8a c72b8))) (.seq (.seq (.code (rG c72r9)) (.block 2 (.rangeF 0 (.t 37) 38 c72b13a c72b13))) (.code (.seq (sR c72r14 (.block 4 (.loop c72l24m [(5, some 5, 0)] c72l24))) (sR c72r25 .ret))))))))), [.cell 4 6 true], 110⟩
theorem okt72 : t72.Ok Tryz.prog 72 := ⟨_, _, Tryz.func72, rfl, by kernel_rfl, by kernel_rfl, by kernel_rfl⟩
def c76r0 : LO := [oP 0 (.mov (.c (.full [])))]
def c76r1 : LO := [oP 1 (.buildSl 1 5 (.str ⟨#[]⟩) [(0, (.c (.s (.str ⟨#[99, 111, 105, 110]⟩)))), (1, (.c (.s (.str ⟨#[112, 108, 97, 121]⟩)))), (2, (.c (.s (.str ⟨#[98, 111, 120]⟩)))), (3, (.c (.s (.str ⟨#[112, 108, 101, 97]⟩)))), (4, (.c (.s (.str ⟨#[98, 97, 99, 107]⟩))))]),oM 0 1]
def f76 : FRow := ⟨(sR c76r0 (sR c76r1 .ret)), [.tmp 0], 2⟩
theorem okf76 : f76.Ok Tryz.prog 76 := ⟨_, _, Tryz.func76, rfl, by kernel_rfl, by kernel_rfl, by kernel_rfl⟩
def c81r0 : LO := [oP 2 (.alloc [(.s (.int .i64 0)), (.s (.int .i64 0)), (.s (.int .i64 0)), (.s (.int .i64 0))]),oP 3 (.mov bF)]
def c81r1 : LO := [oM 12 0,oP 13 (.call 80 [(.t 12), (.c (.s (.str ⟨#[32]⟩)))]),oM 4 13]
def c81r2 : LO := [oM 14 4,oN 15 14,oP 16 (.cmp .neq (.t 15) (nI 4))]
def c81r3 : LO := [oP 17 (.build [(.s (.int .i64 0)), (.s (.int .i64 0)), (.s (.int .i64 0)), (.s (.int .i64 0))] []),⟨none, none, .store 4 (.t 2) (.t 17)⟩,oP 3 (.mov bF)]
def c81r4 : LO := [oM 19 4,oP 20 (.idxA 1 (.t 19) (nI 0)),oL 21 20,oP 22 (.call 83 [(.t 21)]),oM 18 22,oP 23 (.ext (.t 18) 0),oP 24 (.ext (.t 18) 1),oM 5 23,oM 6 24]
def c81r5 : LO := [oM 26 4,oP 27 (.idxA 1 (.t 26) (nI 1)),oL 28 27,oP 29 (.call 83 [(.t 28)]),oM 25 29,oP 30 (.ext (.t 25) 0),oP 31 (.ext (.t 25) 1),oM 7 30,oM 8 31]
def c81r6 : LO := [oM 33 4,oP 34 (.idxA 1 (.t 33) (nI 3)),oL 35 34,oP 36 (.call 83 [(.t 35)]),oM 32 36,oP 37 (.ext (.t 32) 0),oP 38 (.ext (.t 32) 1),oM 9 37,oM 10 38]
def c81r7 : LO := [oP 39 (.call 76 []),oM 40 4,oP 41 (.idxA 1 (.t 40) (nI 2)),oL 42 41,oP 43 (.call 104 [(.t 39), (.t 42)]),oP 44 (.arith .add (.t 43) (nI 1)),oM 11 44]
def c81r8 : LO := [oM 45 5,oM 46 7,oM 47 11,oM 48 9,oP 49 (.build [(.s (.int .i64 0)), (.s (.int .i64 0)), (.s (.int .i64 0)), (.s (.int .i64 0))] [(0, 1, (.t 45)), (1, 1, (.t 46)), (2, 1, (.t 47)), (3, 1, (.t 48))]),oM 50 6,oM 51 50,oH 52 51 true 8,oP 53 (.pick (.t 51) (.t 52) bF),oM 54 53,oH 55 54 true 10,oP 56 (.pick (.t 54) (.t 55) bF),oM 57 56,oH 58 57 true 11,oG 59 57 true (.cmp .gtr (.t 58) (nI 0)),oP 60 (.pick (.t 57) (.t 59) bF),⟨none, none, .store 4 (.t 2) (.t 49)⟩,oM 3 60]
def f81 : FRow := ⟨(.seq (.reg 1 c81r0) (sR c81r1 (.seq (sR c81r2 (.cond (.t 16) (sR c81r3 .ret) .skip)) (sR c81r4 (sR c81r5 (sR c81r6 (sR c81r7 (sR c81r8 .ret)))))))), [.cell 2 4 true, .tmp 3], 61⟩
theorem okf81 : f81.Ok Tryz.prog 81 := ⟨_, _, Tryz.func81, rfl, by kernel_rfl, by kernel_rfl, by kernel_rfl⟩
def c87r0 : LO := [oP 1 (.boxS (.t 0)),oP 2 (.mov (.c (.s .nilp)))]
def c87r1 : LO := [oP 6 (.load 1 true (.t 1)),oP 7 (.mkmap),oP 8 (.build [(.full []), (.s (.map [] [])), (.s (.int .i64 0)), (.s (.int .i64 0)), (.s (.int .i64 0)), (.s (.int .i64 0)), (.s (.int .i64 0))] [(0, 1, (.t 6)), (1, 1, (.t 7))]),oP 9 (.boxM (.t 8)),oM 3 9]
def c87r2 : LO := [oM 10 3,oP 11 (.nilck (.t 10)),oF 12 2 11,oP 13 (.sliceArr 5 1 (.t 12) none none),⟨none, none, .clear 1 [(.int .i64 0)] (.t 13)⟩]
def c87r3 : LO := [oM 14 3,oP 15 (.nilck (.t 14)),oF 16 0 15,oF 17 0 16,oL 18 17,oN 19 18,oP 20 (.mov (nI 0))]
def c87r4 : LO := [oP 21 (.cmp .lss (.t 20) (.t 19))]
def c87r5 : LO := [oP 22 (.idxA 4 (.t 18) (.t 20)),oP 23 (.load 4 true (.t 22)),oP 5 (.alloc [(.s (.int .i64 0)), (.s (.int .i64 0)), (.s (.int .i64 0)), (.s (.int .i64 0))]),⟨none, none, .store 4 (.t 5) (.t 23)⟩]
def c87r6 : LO := [oM 24 3,oP 25 (.nilck (.t 24)),oF 26 1 25,oL 27 26,oP 28 (.load 4 true (.t 5)),oP 29 (.call 62 [(.t 28)]),oP 30 (.load 4 true (.t 5)),⟨none, none, .mset [(.int .i64), (.int .i64)] (.t 27) (.t 29) (.t 30)⟩]
def c87r7 : LO := [oF 31 1 5,oL 32 31,oM 33 3,oF 34 0 5,oL 35 34,oP 36 (.nilck (.t 33)),oF 37 2 36,oP 38 (.idxArrA 5 1 (.t 37) (.t 35)),oL 39 38,oP 40 (.arith .add (.t 39) (nI 1)),oP 41 (.cmp .eql (.t 32) (.t 40))]
def c87r8 : LO := [oM 42 3,oF 43 0 5,oL 44 43,oP 45 (.nilck (.t 42)),oF 46 2 45,oP 47 (.idxArrA 5 1 (.t 46) (.t 44)),oL 48 47,oP 49 (.arith .add (.t 48) (nI 1)),oP 50 (.nilck (.t 42)),oF 51 2 50,oP 52 (.idxArrA 5 1 (.t 51) (.t 44)),⟨none, none, .store 1 (.t 52) (.t 49)⟩]
def c87r9 : LO := [oP 53 (.arith .add (.t 20) (nI 1)),oM 20 53]
def c87l10 : ACode := (sR c87r4 (.seq (.cond (.t 21) .skip (.exit 0)) (.seq (.block 1 (.seq (.reg 1 c87r5) (sR c87r6 (sR c87r7 (.cond (.t 41) (rG c87r8) .skip))))) (rG c87r9))))
def c87l10m : List Bool := zF<|zF<|zF<|zT<|z8<|zF<|zF<|zF<|zF<|zF<|zF<|zT<|zT<|zT<|z8<|z8<|z8<|z8<|zF<|zF<|[]
def c87r11 : LO := [oM 54 3,oM 2 54]
def f87 : FRow := ⟨(sR c87r0 (.seq (.reg 2 c87r1) (sR c87r2 (.seq (sR c87r3 (.block 0 (.loop c87l10m [] c87l10))) (sR c87r11 .ret))))), [.tmp 2], 55⟩
theorem okf87 : f87.Ok Tryz.prog 87 := ⟨_, _, Tryz.func87, rfl, by kernel_rfl, by kernel_rfl, by kernel_rfl⟩
def c88r0 : LO := [oP 10 (.mov bT)]
def c88r1 : LO := [oP 11 (.mov bT)]
def c88r2 : LO := [oM 21 2,oM 22 1,oP 23 (.arith .sub (.t 21) (.t 22)),oM 12 23]
def c88r3 : LO := [oM 24 12,oP 25 (.cmp .leq (.t 24) (nI 12))]
def c88r4 : LO := [oM 26 0,oM 27 1,oM 28 2,oM 29 4,oP 30 (.callI 108 [(.t 26), (.t 27), (.t 28), (.t 29)])]
def c88r5 : LO := [oM 31 3,oP 32 (.cmp .eql (.t 31) (nI 0))]
def c88r6 : LO := [oM 33 0,oM 34 1,oM 35 2,oM 36 4,oP 37 (.callI 109 [(.t 33), (.t 34), (.t 35), (.t 36)])]
def c88r7 : LO := [oM 38 10,oP 39 (.not (.t 38))]
def c88r8 : LO := [oM 40 0,oM 41 1,oM 42 2,oM 43 4,oP 44 (.callI 110 [(.t 40), (.t 41), (.t 42), (.t 43)])]
def c88r9 : LO := [oM 45 3,oP 46 (.arith .sub (.t 45) (nI 1)),oM 3 46]
def c88r10 : LO := [oM 48 0,oM 49 1,oM 50 2,oM 51 4,oP 52 (.callI 111 [(.t 48), (.t 49), (.t 50), (.t 51)]),oM 47 52,oP 53 (.ext (.t 47) 0),oP 54 (.ext (.t 47) 1),oM 13 53,oM 14 54]
def c88r11 : LO := [oM 55 14,oP 56 (.cmp .eql (.t 55) (nI 2))]
def c88r12 : LO := [oM 57 0,oM 58 1,oM 59 2,oM 60 4,oP 61 (.callI 112 [(.t 57), (.t 58), (.t 59), (.t 60)])]
def c88r13 : LO := [oM 62 2,oP 63 (.arith .sub (.t 62) (nI 1)),oM 64 13,oM 65 1,oP 66 (.arith .sub (.t 64) (.t 65)),oP 67 (.arith .sub (.t 63) (.t 66)),oM 13 67]
def c88r14 : LO := [oP 14 (.mov (nI 1))]
def c88r15 : LO := [oM 68 10,oM 69 68,oH 70 69 true 11,oP 71 (.pick (.t 69) (.t 70) bF),oM 72 71,oH 73 72 true 14,oG 74 72 true (.cmp .eql (.t 73) (nI 1)),oP 75 (.pick (.t 72) (.t 74) bF)]
def c88r16 : LO := [oM 76 0,oM 77 1,oM 78 2,oM 79 4,oP 80 (.callI 113 [(.t 76), (.t 77), (.t 78), (.t 79)])]
def c88r17 : LO := [oM 81 1,oP 82 (.cmp .gtr (.t 81) (nI 0)),oM 83 82,oH 84 83 true 4,oH 85 83 true 0,oH 86 83 true 1,oG 87 83 true (.arith .sub (.t 86) (nI 1)),oG 88 83 true (.idxA 4 (.t 85) (.t 87)),oG 89 83 true (.load 4 true (.t 88)),oH 90 83 true 0,oH 91 83 true 13,oG 92 83 true (.idxA 4 (.t 90) (.t 91)),oG 93 83 true (.load 4 true (.t 92)),oG 94 83 true (.callv (.t 84) [(.t 89), (.t 93)]),oG 95 83 true (.cmp .lss (.t 94) (nI 0)),oG 96 83 true (.not (.t 95)),oP 97 (.pick (.t 83) (.t 96) bF)]
def c88r18 : LO := [oM 98 0,oM 99 1,oM 100 2,oM 101 13,oM 102 4,oP 103 (.callI 114 [(.t 98), (.t 99), (.t 100), (.t 101), (.t 102)]),oM 15 103]
def c88r19 : LO := [oM 104 15,oM 1 104]
def c88r20 : LO := [oM 106 0,oM 107 1,oM 108 2,oM 109 13,oM 110 4,oP 111 (.callI 115 [(.t 106), (.t 107), (.t 108), (.t 109), (.t 110)]),oM 105 111,oP 112 (.ext (.t 105) 0),oP 113 (.ext (.t 105) 1),oM 16 112,oM 17 113]
def c88r21 : LO := [oM 114 17,oM 11 114]
def c88r22 : LO := [oM 115 16,oM 116 1,oP 117 (.arith .sub (.t 115) (.t 116)),oM 118 2,oM 119 16,oP 120 (.arith .sub (.t 118) (.t 119)),oM 18 117,oM 19 120]
def c88r23 : LO := [oM 121 12,oP 122 (.div .quo (.t 121) (nI 8)),oM 20 122]
def c88r24 : LO := [oM 123 18,oM 124 19,oP 125 (.cmp .lss (.t 123) (.t 124))]
def c88r25 : LO := [oM 126 18,oM 127 20,oP 128 (.cmp .geq (.t 126) (.t 127)),oM 10 128]
def c88r26 : LO := [oM 129 0,oM 130 1,oM 131 16,oM 132 3,oM 133 4,oP 134 (.callI 88 [(.t 129), (.t 130), (.t 131), (.t 132), (.t 133)])]
def c88r27 : LO := [oM 135 16,oP 136 (.arith .add (.t 135) (nI 1)),oM 1 136]
def c88r28 : LO := [oM 137 19,oM 138 20,oP 139 (.cmp .geq (.t 137) (.t 138)),oM 10 139]
def c88r29 : LO := [oM 140 0,oM 141 16,oP 142 (.arith .add (.t 141) (nI 1)),oM 143 2,oM 144 3,oM 145 4,oP 146 (.callI 88 [(.t 140), (.t 142), (.t 143), (.t 144), (.t 145)])]
def c88r30 : LO := [oM 147 16,oM 2 147]
def c88l31 : ACode := (.block 1 (sR c88r2 (.seq (sR c88r3 (.cond (.t 25) (sR c88r4 .ret) .skip)) (.seq (sR c88r5 (.cond (.t 32) (sR c88r6 .ret) .skip)) (.seq (sR c88r7 (.cond (.t 39) (sR c88r8 (rG c88r9)) .skip)) (sR c88r10 (.seq (sR c88r11 (.cond (.t 56) (sR c88r12 (sR c88r13 (rG c88r14))) .skip)) (.seq (sR c88r15 (.cond (.t 75) (sR c88r16 (.cond (.t 80) .ret .skip)) .skip)) (.seq (sR c88r17 (.cond (.t 97) (sR c88r18 (sR c88r19 (.exit 1))) .skip)) (sR c88r20 (sR c88r21 (sR c88r22 (sR c88r23 (sR c88r24 (.cond (.t 125) (sR c88r25 (sR c88r26 (rG c88r27))) (sR c88r28 (sR c88r29 (rG c88r30))))))))))))))))))
def c88l31m : List Bool := zT<|zT<|zT<|zT<|zT<|zF<|zF<|zF<|zF<|zF<|zT<|zT<|z8<|z8<|z8<|z8<|z8<|z8<|z8<|z8<|z8<|z8<|z8<|z8<|z8<|z8<|z8<|z8<|z8<|[]
def f88 : FRow := ⟨(sR c88r0 (sR c88r1 (.block 0 (.loop c88l31m [] c88l31)))), [], 148⟩
def c90r0 : LO := [oP 4 (.mov bF)]
def c90r1 : LO := [oM 5 0,oM 6 1,oP 7 (.call 118 [(.t 5), (.t 6)]),oP 8 (.cmp .geq (.t 7) (nI 0)),oM 4 8]
def f90 : FRow := ⟨(sR c90r0 (sR c90r1 .ret)), [.tmp 4], 9⟩
theorem okf90 : f90.Ok Tryz.prog 90 := ⟨_, _, Tryz.func90, rfl, by kernel_rfl, by kernel_rfl, by kernel_rfl⟩
def c91r0 : LO := [oP 4 (.mov bF)]
def c91r1 : LO := [oM 5 0,oL 6 1,oP 7 (.cmp .lss (.t 5) (.t 6)),oM 8 7,oH 9 8 false 0,oG 10 8 false (.load 1 false (.t 2)),oG 11 8 false (.cmp .gtr (.t 9) (.t 10)),oP 12 (.pick (.t 8) bT (.t 11)),oM 4 12]
def f91 : FRow := ⟨(sR c91r0 (sR c91r1 .ret)), [.tmp 4], 13⟩
theorem okf91 : f91.Ok Tryz.prog 91 := ⟨_, _, Tryz.func91, rfl, by kernel_rfl, by kernel_rfl, by kernel_rfl⟩
def c92r0 : LO := [oP 2 (.boxS (.t 0)),oP 3 (.boxS (.t 1)),oP 4 (.mov (.c (.s .nilf)))]
def c92r1 : LO := [oP 5 (.mkfn 119 [] [(.t 2), (.t 3)]),oM 4 5]
def f92 : FRow := ⟨(sR c92r0 (sR c92r1 .ret)), [.tmp 4], 6⟩
theorem okf92 : f92.Ok Tryz.prog 92 := ⟨_, _, Tryz.func92, rfl, by kernel_rfl, by kernel_rfl, by kernel_rfl⟩
def c93r0 : LO := [oP 4 (.mov (nI 0))]
def c93r1 : LO := [oM 6 0,oN 7 6,oP 8 (.mov (nI 0))]
def c93r2 : LO := [oP 9 (.cmp .lss (.t 8) (.t 7))]
def c93r3 : LO := [oM 10 8,oM 5 10]
def c93r4 : LO := [oM 11 1,oM 12 0,oM 13 5,oP 14 (.idxA 4 (.t 12) (.t 13)),oP 15 (.load 4 true (.t 14)),oP 16 (.callv (.t 11) [(.t 15)])]
def c93r5 : LO := [oM 17 5,oM 4 17]
def c93r6 : LO := [oP 18 (.arith .add (.t 8) (nI 1)),oM 8 18]
def c93l7 : ACode := (sR c93r2 (.seq (.cond (.t 9) .skip (.exit 0)) (.seq (.block 1 (sR c93r3 (sR c93r4 (.cond (.t 16) (sR c93r5 .ret) .skip)))) (rG c93r6))))
def c93l7m : List Bool := zT<|zT<|zF<|zF<|zF<|zF<|zF<|zT<|zT<|z8<|zF<|zF<|[]
def c93r8 : LO := [oP 4 (.mov (nI (-1)))]
def f93 : FRow := ⟨(sR c93r0 (.seq (sR c93r1 (.block 0 (.loop c93l7m [] c93l7))) (sR c93r8 .ret))), [.tmp 4], 19⟩
theorem okf93 : f93.Ok Tryz.prog 93 := ⟨_, _, Tryz.func93, rfl, by kernel_rfl, by kernel_rfl, by kernel_rfl⟩
def c94r0 : LO := [oP 4 (.alloc [(.s (.int .i64 0)), (.s .nilf), (.s .nilf)]),oP 5 (.mov bF)]
def c94r1 : LO := [oM 9 0,oN 10 9,oP 11 (.mov (nI 0))]
def c94r2 : LO := [oP 12 (.cmp .lss (.t 11) (.t 10))]
def c94r3 : LO := [oP 13 (.idxA 3 (.t 9) (.t 11)),oP 14 (.load 3 true (.t 13)),oP 7 (.alloc [(.s (.int .i64 0)), (.s .nilf), (.s .nilf)]),⟨none, none, .store 3 (.t 7) (.t 14)⟩]
def c94r4 : LO := [oM 15 1,oP 16 (.load 3 true (.t 7)),oP 17 (.callv (.t 15) [(.t 16)])]
def c94r5 : LO := [oP 18 (.load 3 true (.t 7)),⟨none, none, .store 3 (.t 4) (.t 18)⟩,oP 5 (.mov bT)]
def c94r6 : LO := [oP 19 (.arith .add (.t 11) (nI 1)),oM 11 19]
def c94l7 : ACode := (sR c94r2 (.seq (.cond (.t 12) .skip (.exit 0)) (.seq (.block 1 (.seq (.reg 1 c94r3) (sR c94r4 (.cond (.t 17) (sR c94r5 .ret) .skip)))) (rG c94r6))))
def c94l7m : List Bool := zF<|zT<|zF<|zF<|zT<|zF<|zF<|zF<|zF<|zT<|zT<|zT<|z8<|zF<|[]
def c94r8 : LO := [oP 8 (.alloc [(.s (.int .i64 0)), (.s .nilf), (.s .nilf)])]
def c94r9 : LO := [oP 20 (.load 3 true (.t 8)),⟨none, none, .store 3 (.t 4) (.t 20)⟩,oP 5 (.mov bF)]
def f94 : FRow := ⟨(.seq (.reg 1 c94r0) (.seq (sR c94r1 (.block 0 (.loop c94l7m [] c94l7))) (.seq (.reg 1 c94r8) (sR c94r9 .ret)))), [.cell 4 3 true, .tmp 5], 21⟩
theorem okf94 : f94.Ok Tryz.prog 94 := ⟨_, _, Tryz.func94, rfl, by kernel_rfl, by kernel_rfl, by kernel_rfl⟩
def c96r0 : LO := [oP 2 (.boxS (.t 0)),oP 3 (.mov bF)]
def c96r1 : LO := [oF 4 0 2,oL 5 4,oF 6 2 1,oL 7 6,oP 8 (.cmp .eql (.t 5) (.t 7)),oM 3 8]
def f96 : FRow := ⟨(sR c96r0 (sR c96r1 .ret)), [.tmp 3], 9⟩
theorem okf96 : f96.Ok Tryz.prog 96 := ⟨_, _, Tryz.func96, rfl, by kernel_rfl, by kernel_rfl, by kernel_rfl⟩
def c104r0 : LO := [oP 4 (.mov (nI 0))]
def c104r1 : LO := [oM 6 0,oN 7 6,oP 8 (.mov (nI 0))]
def c104r2 : LO := [oP 9 (.cmp .lss (.t 8) (.t 7))]
def c104r3 : LO := [oM 10 8,oM 5 10]
def c104r4 : LO := [oM 11 1,oM 12 0,oM 13 5,oI 14 12 13,oL 15 14,oP 16 (.eql false [.str] false (.t 11) (.t 15))]
def c104r5 : LO := [oM 17 5,oM 4 17]
def c104r6 : LO := [oP 18 (.arith .add (.t 8) (nI 1)),oM 8 18]
def c104l7 : ACode := (sR c104r2 (.seq (.cond (.t 9) .skip (.exit 0)) (.seq (.block 1 (sR c104r3 (sR c104r4 (.cond (.t 16) (sR c104r5 .ret) .skip)))) (rG c104r6))))
def c104l7m : List Bool := zT<|zT<|zF<|zF<|zF<|zF<|zF<|zT<|zT<|z8<|zF<|zF<|[]
def c104r8 : LO := [oP 4 (.mov (nI (-1)))]
def f104 : FRow := ⟨(sR c104r0 (.seq (sR c104r1 (.block 0 (.loop c104l7m [] c104l7))) (sR c104r8 .ret))), [.tmp 4], 19⟩
theorem okf104 : f104.Ok Tryz.prog 104 := ⟨_, _, Tryz.func104, rfl, by kernel_rfl, by kernel_rfl, by kernel_rfl⟩
def c108r0 : LO := [oM 10 1,oP 11 (.arith .add (.t 10) (nI 1)),oM 8 11]
def c108r1 : LO := [oM 12 8,oM 13 2,oP 14 (.cmp .lss (.t 12) (.t 13))]
def c108r2 : LO := [oM 17 8,oM 9 17]
def c108r3 : LO := [oM 18 9,oM 19 1,oP 20 (.cmp .gtr (.t 18) (.t 19)),oM 21 20,oH 22 21 true 3,oH 23 21 true 0,oH 24 21 true 9,oG 25 21 true (.idxA 4 (.t 23) (.t 24)),oG 26 21 true (.load 4 true (.t 25)),oH 27 21 true 0,oH 28 21 true 9,oG 29 21 true (.arith .sub (.t 28) (nI 1)),oG 30 21 true (.idxA 4 (.t 27) (.t 29)),oG 31 21 true (.load 4 true (.t 30)),oG 32 21 true (.callv (.t 22) [(.t 26), (.t 31)]),oG 33 21 true (.cmp .lss (.t 32) (nI 0)),oP 34 (.pick (.t 21) (.t 33) bF)]
def c108r4 : LO := [oM 37 0,oM 38 9,oM 39 0,oM 40 9,oP 41 (.arith .sub (.t 40) (nI 1)),oM 42 0,oM 43 9,oP 44 (.arith .sub (.t 43) (nI 1)),oP 45 (.idxA 4 (.t 42) (.t 44)),oP 46 (.load 4 true (.t 45)),oM 47 0,oM 48 9,oP 49 (.idxA 4 (.t 47) (.t 48)),oP 50 (.load 4 true (.t 49)),oP 51 (.idxA 4 (.t 37) (.t 38)),⟨none, none, .store 4 (.t 51) (.t 46)⟩,oP 52 (.idxA 4 (.t 39) (.t 41)),⟨none, none, .store 4 (.t 52) (.t 50)⟩]
def c108r5 : LO := [oM 35 9,oP 36 (.arith .sub (.t 35) (nI 1)),oM 9 36]
def c108l6 : ACode := (.seq (sR c108r3 (.cond (.t 34) .skip (.exit 2))) (.seq (.block 3 (rG c108r4)) (rG c108r5)))
def c108l6m : List Bool := zT<|zT<|zT<|zT<|zF<|zF<|zF<|zF<|zT<|zT<|z8<|z8<|z8<|z8<|z8<|zF<|zF<|zF<|[]
def c108r7 : LO := [oM 15 8,oP 16 (.arith .add (.t 15) (nI 1)),oM 8 16]
def c108l8 : ACode := (.seq (sR c108r1 (.cond (.t 14) .skip (.exit 0))) (.seq (.block 1 (sR c108r2 (.block 2 (.loop c108l6m [] c108l6)))) (rG c108r7)))
def c108l8m : List Bool := zT<|zT<|zT<|zT<|zF<|zF<|zF<|zF<|zT<|z8<|z8<|z8<|z8<|z8<|zF<|zF<|zF<|zF<|[]
def f108 : FRow := ⟨(sR c108r0 (.block 0 (.loop c108l8m [] c108l8))), [], 53⟩
def c118r0 : LO := [oP 4 (.mov (nI 0))]
def c118r1 : LO := [oM 6 0,oN 7 6,oP 8 (.mov (nI 0))]
def c118r2 : LO := [oP 9 (.cmp .lss (.t 8) (.t 7))]
def c118r3 : LO := [oM 10 8,oM 5 10]
def c118r4 : LO := [oM 11 1,oM 12 0,oM 13 5,oI 14 12 13,oL 15 14,oP 16 (.callv (.t 11) [(.t 15)])]
def c118r5 : LO := [oM 17 5,oM 4 17]
def c118r6 : LO := [oP 18 (.arith .add (.t 8) (nI 1)),oM 8 18]
def c118l7 : ACode := (sR c118r2 (.seq (.cond (.t 9) .skip (.exit 0)) (.seq (.block 1 (sR c118r3 (sR c118r4 (.cond (.t 16) (sR c118r5 .ret) .skip)))) (rG c118r6))))
def c118l7m : List Bool := zT<|zT<|zF<|zF<|zF<|zF<|zF<|zT<|zT<|z8<|zF<|zF<|[]
def c118r8 : LO := [oP 4 (.mov (nI (-1)))]
def f118 : FRow := ⟨(sR c118r0 (.seq (sR c118r1 (.block 0 (.loop c118l7m [] c118l7))) (sR c118r8 .ret))), [.tmp 4], 19⟩
theorem okf118 : f118.Ok Tryz.prog 118 := ⟨_, _, Tryz.func118, rfl, by kernel_rfl, by kernel_rfl, by kernel_rfl⟩
def c119r0 : LO := [oL 6 1,oP 7 (.nilck (.t 6)),oF 8 0 7,oF 9 0 8,oL 10 9,oN 11 10,oP 12 (.mov (nI 0))]
def c119r1 : LO := [oP 13 (.cmp .lss (.t 12) (.t 11))]
def c119r2 : LO := [oP 14 (.idxA 4 (.t 10) (.t 12)),oP 15 (.load 4 true (.t 14)),oP 5 (.alloc [(.s (.int .i64 0)), (.s (.int .i64 0)), (.s (.int .i64 0)), (.s (.int .i64 0))]),⟨none, none, .store 4 (.t 5) (.t 15)⟩]
def c119r4 : LO := [oP 26 (.arith .add (.t 12) (nI 1)),oM 12 26]
def c119l5m : List Bool := zT<|zF<|zT<|zF<|zF<|zF<|zF<|zF<|zF<|zF<|zT<|zT<|zT<|z8<|zF<|zF<|zF<|zF<|zF<|zF<|[]
def c120r0 : LO := [oP 2 (.boxS (.t 0)),oP 4 (.mov bF)]
def c120r1 : LO := [oP 4 (.mov bT)]
def f120 : FRow := ⟨(sR c120r0 (sR c120r1 .ret)), [.tmp 4], 5⟩
theorem okf120 : f120.Ok Tryz.prog 120 := ⟨_, _, Tryz.func120, rfl, by kernel_rfl, by kernel_rfl, by kernel_rfl⟩
def c121r0 : LO := [oP 2 (.boxS (.t 0)),oP 4 (.mov bF)]
def c121r1 : LO := [oF 5 1 2,oL 6 5,oM 7 1,oP 8 (.cmp .geq (.t 6) (.t 7)),oM 4 8]
def f121 : FRow := ⟨(sR c121r0 (sR c121r1 .ret)), [.tmp 4], 9⟩
theorem okf121 : f121.Ok Tryz.prog 121 := ⟨_, _, Tryz.func121, rfl, by kernel_rfl, by kernel_rfl, by kernel_rfl⟩
def c122r0 : LO := [oP 2 (.boxS (.t 0)),oP 4 (.mov bF)]
def c122r1 : LO := [oF 5 2 2,oL 6 5,oM 7 1,oP 8 (.cmp .geq (.t 6) (.t 7)),oM 4 8]
def f122 : FRow := ⟨(sR c122r0 (sR c122r1 .ret)), [.tmp 4], 9⟩
theorem okf122 : f122.Ok Tryz.prog 122 := ⟨_, _, Tryz.func122, rfl, by kernel_rfl, by kernel_rfl, by kernel_rfl⟩
def c123r0 : LO := [oP 3 (.boxS (.t 0)),oP 5 (.mov bF)]
def c123r1 : LO := [oF 6 0 3,oL 7 6,oP 8 (.cmp .gtr (.t 7) (nI 0)),oM 9 8,oG 10 9 true (.load 1 false (.t 2)),oG 11 9 true (.load 6 true (.t 3)),oH 12 9 true 1,oG 13 9 true (.callv (.t 10) [(.t 11), (.t 12)]),oP 14 (.pick (.t 9) (.t 13) bF),oM 5 14]
def f123 : FRow := ⟨(sR c123r0 (sR c123r1 .ret)), [.tmp 5], 15⟩
theorem okf123 : f123.Ok Tryz.prog 123 := ⟨_, _, Tryz.func123, rfl, by kernel_rfl, by kernel_rfl, by kernel_rfl⟩
def c124r0 : LO := [oM 4 0,oM 5 0,oM 6 0,oP 7 (.nilck (.t 6)),oF 8 0 7,oL 9 8,oM 10 1,oP 11 (.arith .add (.t 9) (.t 10)),oM 12 0,oP 13 (.nilck (.t 12)),oF 14 1 13,oL 15 14,oM 16 1,oP 17 (.arith .add (.t 15) (.t 16)),oP 18 (.nilck (.t 4)),oF 19 0 18,⟨none, none, .store 1 (.t 19) (.t 11)⟩,oP 20 (.nilck (.t 5)),oF 21 1 20,⟨none, none, .store 1 (.t 21) (.t 17)⟩]
def f124 : FRow := ⟨(rG c124r0), [], 22⟩
theorem okf124 : f124.Ok Tryz.prog 124 := ⟨_, _, Tryz.func124, rfl, by kernel_rfl, by kernel_rfl, by kernel_rfl⟩
def c125r0 : LO := [oM 4 0,oM 5 0,oM 6 0,oM 7 0,oP 8 (.nilck (.t 7)),oF 9 0 8,oL 10 9,oP 11 (.arith .sub (.t 10) (nI 1)),oM 12 0,oP 13 (.nilck (.t 12)),oF 14 1 13,oL 15 14,oM 16 1,oP 17 (.arith .sub (.t 15) (.t 16)),oM 18 0,oP 19 (.nilck (.t 18)),oF 20 3 19,oL 21 20,oM 22 1,oP 23 (.arith .add (.t 21) (.t 22)),oP 24 (.nilck (.t 4)),oF 25 0 24,⟨none, none, .store 1 (.t 25) (.t 11)⟩,oP 26 (.nilck (.t 5)),oF 27 1 26,⟨none, none, .store 1 (.t 27) (.t 17)⟩,oP 28 (.nilck (.t 6)),oF 29 3 28,⟨none, none, .store 1 (.t 29) (.t 23)⟩]
def f125 : FRow := ⟨(rG c125r0), [], 30⟩
theorem okf125 : f125.Ok Tryz.prog 125 := ⟨_, _, Tryz.func125, rfl, by kernel_rfl, by kernel_rfl, by kernel_rfl⟩
def c126r0 : LO := [oM 4 0,oM 5 0,oM 6 0,oP 7 (.nilck (.t 6)),oF 8 1 7,oL 9 8,oM 10 1,oP 11 (.arith .sub (.t 9) (.t 10)),oM 12 0,oP 13 (.nilck (.t 12)),oF 14 2 13,oL 15 14,oM 16 1,oP 17 (.arith .add (.t 15) (.t 16)),oP 18 (.nilck (.t 4)),oF 19 1 18,⟨none, none, .store 1 (.t 19) (.t 11)⟩,oP 20 (.nilck (.t 5)),oF 21 2 20,⟨none, none, .store 1 (.t 21) (.t 17)⟩]
def f126 : FRow := ⟨(rG c126r0), [], 22⟩
theorem okf126 : f126.Ok Tryz.prog 126 := ⟨_, _, Tryz.func126, rfl, by kernel_rfl, by kernel_rfl, by kernel_rfl⟩
def c127r0 : LO := [oM 4 0,oM 5 0,oM 6 0,oP 7 (.nilck (.t 6)),oF 8 2 7,oL 9 8,oM 10 1,oP 11 (.arith .sub (.t 9) (.t 10)),oM 12 0,oP 13 (.nilck (.t 12)),oF 14 4 13,oL 15 14,oM 16 1,oP 17 (.arith .add (.t 15) (.t 16)),oP 18 (.nilck (.t 4)),oF 19 2 18,⟨none, none, .store 1 (.t 19) (.t 11)⟩,oP 20 (.nilck (.t 5)),oF 21 4 20,⟨none, none, .store 1 (.t 21) (.t 17)⟩]
def f127 : FRow := ⟨(rG c127r0), [], 22⟩
theorem okf127 : f127.Ok Tryz.prog 127 := ⟨_, _, Tryz.func127, rfl, by kernel_rfl, by kernel_rfl, by kernel_rfl⟩
def c129r0 : LO := [oP 4 (.mov (.c (.s (.str ⟨#[]⟩))))]
def c129r1 : LO := [oM 10 1,oP 11 (.cmp .eql (.t 10) (nI 10))]
def c129r2 : LO := [oM 12 0,oP 13 (.cmp .leq (nI 0) (.t 12)),oM 14 13,oH 15 14 true 0,oG 16 14 true (.cmp .lss (.t 15) (nI 100)),oP 17 (.pick (.t 14) (.t 16) bF)]
def c129r3 : LO := [oM 18 0,oP 19 (.call 142 [(.t 18)]),oM 4 19]
def c129r4 : LO := [oP 5 (.alloc [(.s (.int .u8 0)), (.s (.int .u8 0)), (.s (.int .u8 0)), (.s (.int .u8 0)), (.s (.int .u8 0)), (.s (.int .u8 0)), (.s (.int .u8 0)), (.s (.int .u8 0)), (.s (.int .u8 0)), (.s (.int .u8 0)), (.s (.int .u8 0)), (.s (.int .u8 0)), (.s (.int .u8 0)), (.s (.int .u8 0)), (.s (.int .u8 0)), (.s (.int .u8 0)), (.s (.int .u8 0)), (.s (.int .u8 0)), (.s (.int .u8 0)), (.s (.int .u8 0)), (.s (.int .u8 0)), (.s (.int .u8 0)), (.s (.int .u8 0)), (.s (.int .u8 0))])]
def c129r5 : LO := [oM 20 0,oP 21 (.conv .u64 (.t 20)),oM 6 21]
def c129r6 : LO := [oM 22 0,oP 23 (.cmp .lss (.t 22) (nI 0))]
def c129r7 : LO := [oM 24 6,oP 25 (.neg (.t 24)),oM 6 25]
def c129r8 : LO := [oM 26 6,oP 27 (.call 143 [(.t 26)]),oM 7 27]
def c129r9 : LO := [oM 28 7,oP 29 (.arith .add (nI 1) (.t 28)),oP 30 (.sliceArr 24 1 (.t 5) (some (nI 1)) (some (.t 29))),oM 31 6,oP 32 (.call 144 [(.t 30), (.t 31)])]
def c129r10 : LO := [oM 33 0,oP 34 (.cmp .lss (.t 33) (nI 0))]
def c129r11 : LO := [oP 35 (.idxArrA 24 1 (.t 5) (nI 0)),⟨none, none, .store 1 (.t 35) (.c (.s (.int .u8 45)))⟩]
def c129r12 : LO := [oM 36 7,oP 37 (.arith .add (nI 1) (.t 36)),oP 38 (.sliceArr 24 1 (.t 5) none (some (.t 37))),oP 39 (.sop .bts [(.t 38)]),oM 4 39]
def c129r13 : LO := [oM 40 7,oP 41 (.arith .add (nI 1) (.t 40)),oP 42 (.sliceArr 24 1 (.t 5) (some (nI 1)) (some (.t 41))),oP 43 (.sop .bts [(.t 42)]),oM 4 43]
def c129r14 : LO := [oM 45 0,oP 46 (.conv .u64 (.t 45)),oM 47 1,oM 48 0,oP 49 (.cmp .lss (.t 48) (nI 0)),oP 50 (.call 145 [(.c (.full [])), (.t 46), (.t 47), (.t 49), bF]),oM 44 50,oP 51 (.ext (.t 44) 0),oP 52 (.ext (.t 44) 1),oM 8 51,oM 9 52]
def c129r15 : LO := [oM 53 9,oM 4 53]
def f129 : FRow := ⟨(sR c129r0 (.seq (sR c129r1 (.cond (.t 11) (.seq (sR c129r2 (.cond (.t 17) (sR c129r3 .ret) .skip)) (.seq (.reg 1 c129r4) (sR c129r5 (.seq (sR c129r6 (.cond (.t 23) (rG c129r7) .skip)) (sR c129r8 (sR c129r9 (.seq (sR c129r10 (.cond (.t 34) (sR c129r11 (sR c129r12 .ret)) .skip)) (sR c129r13 .ret)))))))) .skip)) (sR c129r14 (sR c129r15 .ret)))), [.tmp 4], 54⟩
def c171r0 : LO := [oP 2 (.mov (.c (.s (.int .u32 0)))),oP 3 (.mov (.c (.s (.int .u32 0))))]
def c171r1 : LO := [oP 4 (.mov (.c (.s (.int .u32 0))))]
def c171r2 : LO := [oP 5 (.mov (nI 0))]
def c171r3 : LO := [oM 9 5,oM 10 0,oP 11 (.len true (.t 10)),oP 12 (.cmp .lss (.t 9) (.t 11))]
def c171r4 : LO := [oM 15 4,oP 16 (.arith .mul (.t 15) (.c (.s (.int .u32 16777619)))),oM 17 0,oM 18 5,oP 19 (.sidx (.t 17) (.t 18)),oP 20 (.conv .u32 (.t 19)),oP 21 (.arith .add (.t 16) (.t 20)),oM 4 21]
def c171r5 : LO := [oM 13 5,oP 14 (.arith .add (.t 13) (nI 1)),oM 5 14]
def c171l6 : ACode := (.seq (sR c171r3 (.cond (.t 12) .skip (.exit 0))) (.seq (.block 1 (rG c171r4)) (rG c171r5)))
def c171l6m : List Bool := zT<|zF<|zF<|zF<|zT<|zT<|z8<|z8<|z8<|z8<|zF<|[]
def c171r7 : LO := [oP 6 (.mov (.c (.s (.int .u32 1)))),oP 7 (.mov (.c (.s (.int .u32 16777619))))]
def c171r8 : LO := [oM 22 0,oP 23 (.len true (.t 22)),oM 8 23]
def c171r9 : LO := [oM 24 8,oP 25 (.cmp .gtr (.t 24) (nI 0))]
def c171r10 : LO := [oM 28 8,oP 29 (.bits .and (.t 28) (nI 1)),oP 30 (.cmp .neq (.t 29) (nI 0))]
def c171r11 : LO := [oM 31 6,oM 32 7,oP 33 (.arith .mul (.t 31) (.t 32)),oM 6 33]
def c171r12 : LO := [oM 34 7,oM 35 7,oP 36 (.arith .mul (.t 34) (.t 35)),oM 7 36]
def c171r13 : LO := [oM 26 8,oP 27 (.shift .shr (.t 26) (.c (.s (.int .u64 1)))),oM 8 27]
def c171l14 : ACode := (.seq (sR c171r9 (.cond (.t 25) .skip (.exit 2))) (.seq (.block 3 (.seq (sR c171r10 (.cond (.t 30) (rG c171r11) .skip)) (rG c171r12))) (rG c171r13)))
def c171l14m : List Bool := zF<|zF<|zF<|zF<|zT<|zF<|zT<|zT<|zT<|z8<|z8<|z8<|zF<|zF<|zF<|zF<|zF<|zF<|[]
def c171r15 : LO := [oM 37 4,oM 38 6,oM 2 37,oM 3 38]
def f171 : FRow := ⟨(sR c171r0 (sR c171r1 (.seq (sR c171r2 (.block 0 (.loop c171l6m [] c171l6))) (sR c171r7 (.seq (sR c171r8 (.block 2 (.loop c171l14m [] c171l14))) (sR c171r15 .ret)))))), [.tmp 2, .tmp 3], 39⟩
def c172r0 : LO := [oP 2 (.mov (.c (.s (.int .u8 0))))]
def c172r1 : LO := [oM 3 0,oP 4 (.bits .or (.t 3) (.c (.s (.int .u8 32)))),oM 2 4]
def f172 : FRow := ⟨(sR c172r0 (sR c172r1 .ret)), [.tmp 2], 5⟩
end Go.Proofs.YtdlfkbpddfeenaaGreatDoor.Sk
namespace Go.Proofs.YtdlfkbpddfeenaaGreatDoor.Sk
structure Ent where
  m : Int
  n : Int
  k : Int
  a : Int
  deriving DecidableEq
def ckE (e : Ent) : Int :=
 if e.m < 0 \/ 4 < e.m \/ e.n < 1 \/ 30 < e.n \/ e.a < 0 \/ 100 < e.a then 3
 else if e.k < 1 \/ 5 < e.k then 2
 else if (e.k = 1 \/ e.k = 4) /\ e.a < 1 then 2
 else if e.k = 5 /\ (e.a < 1 \/ e.n <= e.a) then 2 else 0
structure OkE (e : Ent) : Prop where
  m0 : 0 <= e.m
  m4 : e.m <= 4
  n1 : 1 <= e.n
  n30 : e.n <= 30
  a0 : 0 <= e.a
  a100 : e.a <= 100
  k1 : 1 <= e.k
  k5 : e.k <= 5
  am : e.k = 1 \/ e.k = 4 -> 1 <= e.a
  bk : e.k = 5 -> 1 <= e.a /\ e.a < e.n
theorem ckE_zero {e : Ent} : ckE e = 0 ↔ OkE e := by
 unfold ckE;constructor
 ·intro h
  split at h
  ·cases h
  ·split at h
   ·cases h
   ·split at h
    ·cases h
    ·split at h
     ·cases h
     ·constructor <;> omega
 ·intro h
  obtain ⟨h1, h2, h3, h4, h5, h6, h7, h8, h9, h10⟩ := h;rw [if_neg (by omega), if_neg (by omega), if_neg (by omega), if_neg (by omega)]
def Bef (x y : Ent) : Prop := x.m < y.m \/ x.m = y.m /\ x.n < y.n
instance {x y : Ent} : Decidable (Bef x y) := inferInstanceAs (Decidable (_ \/ _))
theorem Bef.irrefl {x : Ent} : ¬ Bef x x := by unfold Bef; omega
theorem Bef.trans {x y z : Ent} (h1 : Bef x y) (h2 : Bef y z) : Bef x z := by unfold Bef at *; omega
def Same (x y : Ent) : Prop := x.m = y.m /\ x.n = y.n
instance {x y : Ent} : Decidable (Same x y) := inferInstanceAs (Decidable (_ /\ _))
theorem bef_total {x y : Ent} : Bef x y \/ Same x y \/ Bef y x := by unfold Bef Same; omega
def srt : List Ent -> Bool
 | x :: y :: l => decide (Bef x y) && srt (y :: l)
 | _ => true
theorem srt_pw : ∀ {l : List Ent}, srt l = true ↔ l.Pairwise Bef
 | [] => by simp [srt]
 | [x] => by simp [srt]
 | x :: y :: l => by
  rw [srt, Bool.and_eq_true, decide_eq_true_eq, srt_pw];constructor
  ·rintro ⟨h1, h2⟩
   refine List.pairwise_cons.2 ⟨fun z hz => ?_, h2⟩
   rcases List.mem_cons.1 hz with rfl | hz
   ·exact h1
   ·exact h1.trans ((List.pairwise_cons.1 h2).1 z hz)
  ·intro h
   obtain ⟨h1, h2⟩ := List.pairwise_cons.1 h;exact ⟨h1 y (by simp), h2⟩
def ckS (L : List Ent) : Int :=
 if 24 < L.length then 6 else match L.find? fun e => decide (ckE e ≠ 0) with
 | some e => ckE e
 | none => if srt L then 0 else 16
structure OkS (L : List Ent) : Prop where
  len : L.length <= 24
  ent : ∀ e ∈ L, OkE e
  ord : L.Pairwise Bef
theorem ckS_zero {L : List Ent} : ckS L = 0 ↔ OkS L := by
 unfold ckS;constructor
 ·intro h
  split at h
  ·cases h
  ·split at h
   ·rename_i e he
    have := List.find?_some he;rw [decide_eq_true_eq] at this;exact absurd h this
   ·rename_i he
    rw [List.find?_eq_none] at he
    split at h
    ·rename_i hs
     exact ⟨by omega, fun e hm => ckE_zero.1 (by have := he e hm; simpa using this), srt_pw.1 hs⟩
    ·cases h
 ·intro h
  have he : (L.find? fun e => decide (ckE e ≠ 0)) = none := List.find?_eq_none.2 fun e hm => by simp [ckE_zero.2 (h.ent e hm)]
  rw [if_neg (by have := h.len; omega), he]
  simp only;rw [if_pos (srt_pw.2 h.ord)]
theorem sorted_ext : ∀ {l k : List Ent}, l.Pairwise Bef -> k.Pairwise Bef -> (∀ e, e ∈ l ↔ e ∈ k) -> l = k
 | [], [], _, _, _ => rfl
 | [], y :: k, _, _, h => absurd ((h y).2 (by simp)) (by simp)
 | x :: l, [], _, _, h => absurd ((h x).1 (by simp)) (by simp)
 | x :: l, y :: k, h1, h2, h => by
  obtain ⟨hx, h3⟩ := List.pairwise_cons.1 h1;obtain ⟨hy, h4⟩ := List.pairwise_cons.1 h2
  have e : x = y := by
   rcases List.mem_cons.1 ((h x).1 (by simp)) with e | hm
   ·exact e
   ·rcases List.mem_cons.1 ((h y).2 (by simp)) with e | hm2
    ·exact e.symm
    ·exact absurd ((hy x hm).trans (hx y hm2)) Bef.irrefl
  subst e
  congr 1
  refine sorted_ext h3 h4 fun e => ?_
  constructor
  ·intro hm
   rcases List.mem_cons.1 ((h e).1 (List.mem_cons_of_mem _ hm)) with rfl | h5
   ·exact absurd (hx _ hm) Bef.irrefl
   ·exact h5
  ·intro hm
   rcases List.mem_cons.1 ((h e).2 (List.mem_cons_of_mem _ hm)) with rfl | h5
   ·exact absurd (hy _ hm) Bef.irrefl
   ·exact h5
def fnd (L : List Ent) (m n : Int) : Option Ent := L.find? fun e => decide (e.m = m /\ e.n = n)
theorem fnd_some {L : List Ent} {m n : Int} {e : Ent} (h : fnd L m n = some e) : e ∈ L /\ e.m = m /\ e.n = n :=
 ⟨List.mem_of_find?_eq_some h, by simpa using List.find?_some h⟩
theorem fnd_none {L : List Ent} {m n : Int} : fnd L m n = none ↔ ∀ e ∈ L, ¬ (e.m = m /\ e.n = n) := by
 unfold fnd;rw [List.find?_eq_none];exact ⟨fun h e hm => by simpa using h e hm, fun h e hm => by simpa using h e hm⟩
theorem same_eq {L : List Ent} (h : L.Pairwise Bef) {x y : Ent} (hx : x ∈ L) (hy : y ∈ L) (hs : Same x y) : x = y := by
 induction L with
 | nil => cases hx
 | cons z l ih =>
  obtain ⟨h1, h2⟩ := List.pairwise_cons.1 h
  rcases List.mem_cons.1 hx with rfl | hx
  ·rcases List.mem_cons.1 hy with rfl | hy
   ·rfl
   ·have := h1 y (by assumption); unfold Bef Same at *; omega
  ·rcases List.mem_cons.1 hy with rfl | hy
   ·have := h1 x (by assumption); unfold Bef Same at *; omega
   ·exact ih h2 hx hy
theorem fnd_mem {L : List Ent} (h : L.Pairwise Bef) {e : Ent} (hm : e ∈ L) : fnd L e.m e.n = some e := by
 cases hf : fnd L e.m e.n with
 | none => exact absurd ⟨rfl, rfl⟩ (fnd_none.1 hf e hm)
 | some x =>
  obtain ⟨h1, h2⟩ := fnd_some hf;rw [same_eq h h1 hm h2]
def ins (e : Ent) (L : List Ent) : List Ent := (L.filter fun x => decide (Bef x e)) ++ e :: L.filter fun x => decide (Bef e x)
theorem mem_ins {e x : Ent} {L : List Ent} (hn : fnd L e.m e.n = none) : x ∈ ins e L ↔ x = e \/ x ∈ L := by
 unfold ins;rw [List.mem_append, List.mem_cons, List.mem_filter, List.mem_filter, decide_eq_true_eq, decide_eq_true_eq];constructor
 ·rintro (⟨h, _⟩ | h | ⟨h, _⟩)
  ·exact .inr h
  ·exact .inl h
  ·exact .inr h
 ·rintro (h | h)
  ·exact .inr (.inl h)
  ·rcases bef_total (x := x) (y := e) with h1 | h1 | h1
   ·exact .inl ⟨h, h1⟩
   ·exact absurd h1 (fnd_none.1 hn x h)
   ·exact .inr (.inr ⟨h, h1⟩)
theorem ins_ord {e : Ent} {L : List Ent} (h : L.Pairwise Bef) : (ins e L).Pairwise Bef := by
 unfold ins;rw [List.pairwise_append, List.pairwise_cons];refine ⟨h.filter _, ⟨fun x hx => by simpa using (List.mem_filter.1 hx).2, h.filter _⟩, fun x hx y hy => ?_⟩
 have h1 : Bef x e := by simpa using (List.mem_filter.1 hx).2
 rcases List.mem_cons.1 hy with rfl | hy
 ·exact h1
 ·exact h1.trans (by simpa using (List.mem_filter.1 hy).2)
theorem ins_len {e : Ent} {L : List Ent} (hn : fnd L e.m e.n = none) : (ins e L).length = L.length + 1 := by
 unfold ins;rw [List.length_append, List.length_cons]
 have key : ∀ l : List Ent, (∀ x ∈ l, ¬ (x.m = e.m /\ x.n = e.n)) -> (l.filter fun x => decide (Bef x e)).length + (l.filter fun x => decide (Bef e x)).length = l.length := fun l hl => by
  induction l with
  | nil => rfl
  | cons x l ih =>
   have ih := ih fun y hy => hl y (List.mem_cons_of_mem _ hy)
   have hx := hl x (by simp)
   rcases bef_total (x := x) (y := e) with h1 | h1 | h1
   ·have h2 : ¬ Bef e x := fun h2 => Bef.irrefl (h1.trans h2)
    rw [List.filter_cons_of_pos (by simpa using h1), List.filter_cons_of_neg (by simpa using h2), List.length_cons, List.length_cons]
    omega
   ·exact absurd h1 hx
   ·have h2 : ¬ Bef x e := fun h2 => Bef.irrefl (h1.trans h2)
    rw [List.filter_cons_of_neg (by simpa using h2), List.filter_cons_of_pos (by simpa using h1), List.length_cons, List.length_cons]
    omega
 have := key L (fnd_none.1 hn);omega
def srtL (l : List Ent) : List Ent := l.foldl (fun acc e => ins e acc) []
theorem fold_ins : ∀ {l acc : List Ent}, acc.Pairwise Bef -> l.Pairwise (fun x y => ¬ Same x y) -> (∀ x ∈ l, fnd acc x.m x.n = none) ->
  (l.foldl (fun acc e => ins e acc) acc).Pairwise Bef /\ (∀ x, x ∈ l.foldl (fun acc e => ins e acc) acc ↔ x ∈ acc \/ x ∈ l) /\ (l.foldl (fun acc e => ins e acc) acc).length = acc.length + l.length
 | [], acc, h, _, _ => ⟨h, fun x => by simp, by simp⟩
 | e :: l, acc, h, hd, hn => by
  obtain ⟨hd1, hd2⟩ := List.pairwise_cons.1 hd;have he := hn e (by simp)
  have hm : ∀ x, x ∈ ins e acc ↔ x = e \/ x ∈ acc := fun x => mem_ins he
  obtain ⟨h1, h2, h3⟩ := fold_ins (l := l) (acc := ins e acc) (ins_ord h) hd2 fun x hx => by
   rw [fnd_none];intro y hy
   rcases (hm y).1 hy with rfl | hy
   ·exact fun hs => hd1 x hx ⟨hs.1, hs.2⟩
   ·exact fnd_none.1 (hn x (List.mem_cons_of_mem _ hx)) y hy
  refine ⟨h1, fun x => ?_, ?_⟩
  ·rw [List.foldl_cons, h2, hm, List.mem_cons]
   constructor
   ·rintro ((h | h) | h)
    ·exact .inr (.inl h)
    ·exact .inl h
    ·exact .inr (.inr h)
   ·rintro (h | h | h)
    ·exact .inl (.inr h)
    ·exact .inl (.inl h)
    ·exact .inr h
  ·rw [List.foldl_cons, h3, ins_len he, List.length_cons]; omega
theorem srt_spec {l : List Ent} (hd : l.Pairwise fun x y => ¬ Same x y) : (srtL l).Pairwise Bef /\ (∀ x, x ∈ srtL l ↔ x ∈ l) /\ (srtL l).length = l.length := by
 obtain ⟨h1, h2, h3⟩ := fold_ins (l := l) (acc := []) List.Pairwise.nil hd fun x _ => rfl
 exact ⟨h1, fun x => by rw [srtL, h2]; simp, by rw [srtL, h3]; simp⟩
theorem bef_dist {L : List Ent} (h : L.Pairwise Bef) : L.Pairwise fun x y => ¬ Same x y := h.imp fun hb => by unfold Bef Same at *; omega
def newL (A B : List Ent) : List Ent := B.filter fun e => (fnd A e.m e.n).isNone
def jn (A B : List Ent) : List Ent := srtL (A ++ newL A B)
theorem mem_newL {A B : List Ent} {x : Ent} : x ∈ newL A B ↔ x ∈ B /\ fnd A x.m x.n = none := by
 unfold newL;rw [List.mem_filter, Option.isNone_iff_eq_none]
theorem app_dist {A B : List Ent} (hA : A.Pairwise Bef) (hB : B.Pairwise Bef) : (A ++ newL A B).Pairwise fun x y => ¬ Same x y := by
 rw [List.pairwise_append];refine ⟨bef_dist hA, (bef_dist hB).filter _, fun x hx y hy hs => ?_⟩
 exact fnd_none.1 (mem_newL.1 hy).2 x hx hs
theorem jn_spec {A B : List Ent} (hA : A.Pairwise Bef) (hB : B.Pairwise Bef) : (jn A B).Pairwise Bef /\ (∀ x, x ∈ jn A B ↔ x ∈ A \/ x ∈ B /\ fnd A x.m x.n = none) /\ (jn A B).length = A.length + (newL A B).length := by
 obtain ⟨h1, h2, h3⟩ := srt_spec (app_dist hA hB);refine ⟨h1, fun x => ?_, by rw [jn, h3, List.length_append]⟩
 rw [jn, h2, List.mem_append, mem_newL]
def clsh (A B : List Ent) : Bool := B.any fun e => match fnd A e.m e.n with
 | some old => decide (old ≠ e)
 | none => false
theorem clsh_no {A B : List Ent} : clsh A B = false ↔ ∀ e ∈ B, ∀ old, fnd A e.m e.n = some old -> old = e := by
 unfold clsh;rw [List.any_eq_false];constructor
 ·intro h e he old hf
  have := h e he;rw [hf] at this
  simpa using this
 ·intro h e he
  cases hf : fnd A e.m e.n with
  | none => simp
  | some old => simp [h e he old hf]
def joinR (A B : List Ent) : List Ent × Int :=
 if ckS A ≠ 0 then ([], ckS A) else if ckS B ≠ 0 then ([], ckS B) else if clsh A B = true then ([], 15) else if 24 < A.length + (newL A B).length then ([], 6) else (jn A B, 0)
def putR (A : List Ent) (e : Ent) : List Ent × Int :=
 if ckS A ≠ 0 then ([], ckS A) else if ckE e ≠ 0 then ([], ckE e) else joinR A [e]
theorem ck_one {e : Ent} (h : ckE e = 0) : ckS [e] = 0 := ckS_zero.2 ⟨by simp, fun x hx => by rw [List.mem_singleton.1 hx]; exact ckE_zero.1 h, by simp⟩
theorem join_ok {A B : List Ent} (hA : OkS A) (hB : OkS B) (hc : clsh A B = false) (hl : A.length + (newL A B).length <= 24) : joinR A B = (jn A B, 0) := by
 unfold joinR;rw [if_neg (by simp [ckS_zero.2 hA]), if_neg (by simp [ckS_zero.2 hB]), hc, if_neg (by simp), if_neg (by omega)]
theorem jn_ok {A B : List Ent} (hA : OkS A) (hB : OkS B) (hl : A.length + (newL A B).length <= 24) : OkS (jn A B) := by
 obtain ⟨h1, h2, h3⟩ := jn_spec hA.ord hB.ord;refine ⟨by omega, fun e he => ?_, h1⟩
 rcases (h2 e).1 he with h | h
 ·exact hA.ent e h
 ·exact hB.ent e h.1
theorem mem_jn {A B : List Ent} (hA : A.Pairwise Bef) (hB : B.Pairwise Bef) (hc : clsh A B = false) {x : Ent} : x ∈ jn A B ↔ x ∈ A \/ x ∈ B := by
 rw [(jn_spec hA hB).2.1];constructor
 ·rintro (h | h)
  ·exact .inl h
  ·exact .inr h.1
 ·rintro (h | h)
  ·exact .inl h
  ·cases hf : fnd A x.m x.n with
   | none => exact .inr ⟨h, rfl⟩
   | some old =>
    have := clsh_no.1 hc x h old hf;exact .inl (this ▸ (fnd_some hf).1)
def has (L : List Ent) (m n : Int) : Bool := (fnd L m n).isSome
theorem has_iff {L : List Ent} {m n : Int} : has L m n = true ↔ ∃ e ∈ L, e.m = m /\ e.n = n := by
 unfold has;rw [Option.isSome_iff_exists];constructor
 ·rintro ⟨e, h⟩
  exact ⟨e, fnd_some h⟩
 ·rintro ⟨e, h1, h2, h3⟩
  cases hf : fnd L m n with
  | none => exact absurd ⟨h2, h3⟩ (fnd_none.1 hf e h1)
  | some x => exact ⟨x, rfl⟩
theorem has_no {L : List Ent} {m n : Int} : has L m n = false ↔ fnd L m n = none := by
 unfold has; cases fnd L m n <;> simp
def mkT (L : List Ent) (m : Int) : Nat -> Nat -> Nat
 | 0, n => n
 | f + 1, n => if has L m ((n + 1 : Nat) : Int) then mkT L m f (n + 1) else n
def mark (L : List Ent) (m : Int) : Nat := mkT L m 31 0
theorem mkT_spec {L : List Ent} {m : Int} (hb : ∀ e ∈ L, e.n <= 30) : ∀ {f n : Nat}, (∀ j : Nat, 1 <= j -> j <= n -> has L m j = true) -> n + f = 31 ->
  (∀ j : Nat, 1 <= j -> j <= mkT L m f n -> has L m j = true) /\ has L m ((mkT L m f n + 1 : Nat) : Int) = false /\ mkT L m f n <= 30
 | 0, n, hn, hf => by
  have h1 := hn 31 (by decide) (by omega)
  obtain ⟨e, h2, _, h3⟩ := has_iff.1 h1;have := hb e h2;omega
 | f + 1, n, hn, hf => by
  rw [mkT]
  cases h : has L m ((n + 1 : Nat) : Int) with
  | true =>
   rw [if_pos rfl];refine mkT_spec hb (fun j h1 h2 => ?_) (by omega)
   by_cases e : j = n + 1
   ·rw [e]; exact h
   ·exact hn j h1 (by omega)
  | false =>
   rw [if_neg (by simp)]
   exact ⟨hn, h, by omega⟩
theorem mark_spec {L : List Ent} {m : Int} (hb : ∀ e ∈ L, e.n <= 30) : (∀ j : Nat, 1 <= j -> j <= mark L m -> has L m j = true) /\ has L m ((mark L m + 1 : Nat) : Int) = false /\ mark L m <= 30 :=
 mkT_spec hb (fun j h1 h2 => by omega) rfl
theorem mark_eq {L : List Ent} {m : Int} (hb : ∀ e ∈ L, e.n <= 30) {t : Nat} (h1 : ∀ j : Nat, 1 <= j -> j <= t -> has L m j = true) (h2 : has L m ((t + 1 : Nat) : Int) = false) : mark L m = t := by
 obtain ⟨h3, h4, _⟩ := mark_spec (m := m) hb
 rcases Nat.lt_trichotomy (mark L m) t with h | h | h
 ·have := h1 (mark L m + 1) (by omega) (by omega)
  rw [h4] at this; cases this
 ·exact h
 ·have := h3 (t + 1) (by omega) (by omega)
  rw [h2] at this; cases this
def scn (m : Int) (l : List Ent) : Int := l.foldl (fun t e => if e.m = m /\ e.n = t + 1 then t + 1 else t) 0
theorem scn_snoc {m : Int} {l : List Ent} {e : Ent} : scn m (l ++ [e]) = if e.m = m /\ e.n = scn m l + 1 then scn m l + 1 else scn m l := by
 unfold scn; rw [List.foldl_append]; rfl
theorem scn_spec {m : Int} : ∀ {k : Nat} {l : List Ent}, l.length = k -> l.Pairwise Bef -> (∀ e ∈ l, 1 <= e.n) ->
  ∃ t : Nat, scn m l = t /\ (∀ j : Nat, 1 <= j -> j <= t -> has l m j = true) /\ has l m ((t + 1 : Nat) : Int) = false
 | 0, l, hk, _, _ => by
  rw [List.length_eq_zero_iff.1 hk];exact ⟨0, rfl, fun j h1 h2 => by omega, rfl⟩
 | k + 1, l, hk, hp, hn => by
  have hne : l ≠ [] := fun e => by rw [e] at hk; cases hk
  obtain ⟨l', e, rfl⟩ : ∃ l' e, l = l' ++ [e] := ⟨l.dropLast, l.getLast hne, (List.dropLast_concat_getLast hne).symm⟩;rw [List.pairwise_append] at hp;obtain ⟨hp1, _, hp2⟩ := hp;obtain ⟨t, h1, h2, h3⟩ := scn_spec (m := m) (k := k) (l := l') (by simpa using hk) hp1 fun x hx => hn x (List.mem_append_left _ hx)
  have hm : ∀ n, has (l' ++ [e]) m n = true ↔ has l' m n = true \/ e.m = m /\ e.n = n := fun n => by
   rw [has_iff, has_iff];constructor
   ·rintro ⟨x, hx, h⟩
    rcases List.mem_append.1 hx with hx | hx
    ·exact .inl ⟨x, hx, h⟩
    ·rw [List.mem_singleton.1 hx] at h; exact .inr h
   ·rintro (⟨x, hx, h⟩ | h)
    ·exact ⟨x, List.mem_append_left _ hx, h⟩
    ·exact ⟨e, by simp, h⟩
  have hfl : ∀ n, has (l' ++ [e]) m n = false ↔ has l' m n = false /\ ¬ (e.m = m /\ e.n = n) := fun n => by
   rw [<- Bool.not_eq_true, hm, <- Bool.not_eq_true];exact not_or
  rw [scn_snoc, h1]
  by_cases h : e.m = m /\ e.n = (t : Int) + 1
  ·rw [if_pos h]
   refine ⟨t + 1, by omega, fun j h4 h5 => (hm _).2 ?_, (hfl _).2 ⟨?_, by omega⟩⟩
   ·by_cases e1 : j = t + 1
    ·exact .inr ⟨h.1, by omega⟩
    ·exact .inl (h2 j h4 (by omega))
   ·rw [<- Bool.not_eq_true, has_iff]
    rintro ⟨x, hx, hx1, hx2⟩;have := hp2 x hx e (by simp)
    unfold Bef at this;omega
  ·rw [if_neg h]
   exact ⟨t, rfl, fun j h4 h5 => (hm _).2 (.inl (h2 j h4 h5)), (hfl _).2 ⟨h3, fun e1 => h ⟨e1.1, by omega⟩⟩⟩
theorem scn_mark {m : Int} {L : List Ent} (h : OkS L) : scn m L = mark L m := by
 obtain ⟨t, h1, h2, h3⟩ := scn_spec (m := m) rfl h.ord fun e he => (h.ent e he).n1
 rw [h1, mark_eq (fun e he => (h.ent e he).n30) h2 h3]
def grt (L : List Ent) (m : Int) : Int := L.foldl (fun t e => if e.m = m then max t e.n else t) 0
def gap (L : List Ent) (m : Int) : List Int := ((List.range (grt L m).toNat).map fun k : Nat => (k : Int)).filter fun k => decide (1 <= k) && !has L m k
structure St where
  c : Int
  h : Int
  b : Int
  p : Int
  r : Int
  f : List Int
def st0 : St := ⟨0, 0, 0, 0, 0, []⟩
def rfs (s : St) (e : Ent) : Bool := decide (e.k = 2 /\ (s.c = 0 \/ s.h < e.a) \/ e.k = 3 /\ s.h < e.a \/ e.k = 4 /\ s.b < e.a)
def nxS (s : St) (e : Ent) : St :=
 if rfs s e then { s with f := s.f ++ [e.n] }
 else if e.k = 1 then { s with c := s.c + e.a, h := s.h + e.a }
 else if e.k = 2 then { s with c := s.c - 1, h := s.h - e.a, p := s.p + e.a }
 else if e.k = 3 then { s with h := s.h - e.a, b := s.b + e.a }
 else if e.k = 4 then { s with b := s.b - e.a, r := s.r + e.a }
 else s
def lft (L : List Ent) (m n : Int) : Bool := (List.range (mark L m)).any fun j => match fnd L m ((j + 1 : Nat) : Int) with
 | some e => decide (e.k = 5 /\ e.a = n)
 | none => false
def stT (L : List Ent) (m : Int) : Nat -> St
 | 0 => st0
 | j + 1 => if lft L m ((j + 1 : Nat) : Int) then stT L m j else match fnd L m ((j + 1 : Nat) : Int) with
  | some e => nxS (stT L m j) e
  | none => stT L m j
def stL (L : List Ent) (m : Int) : St := stT L m (mark L m)
end Go.Proofs.YtdlfkbpddfeenaaGreatDoor.Sk
namespace Go.Proofs.YtdlfkbpddfeenaaGreatDoor.Sk
open Go Go.E Go.E.Sm
set_option maxRecDepth 10000
@[go_sem] theorem agg_int {k : IntKind} {n : Int} : (SV.int k n).isAgg = false := rfl
@[go_sem] theorem agg_bool {b : Bool} : (SV.bool b).isAgg = false := rfl
@[go_sem] theorem agg_slice {l : List SV} : (SV.slice l).isAgg = false := rfl
@[go_sem] theorem agg_ptr {l : List SV} : (SV.ptr l).isAgg = false := rfl
@[go_sem] theorem agg_map {l m : List SV} : (SV.map l m).isAgg = false := rfl
@[go_sem] theorem agg_fn {f : FuncId} {l m : List SV} : (SV.fn f l m).isAgg = false := rfl
@[go_sem] theorem agg_agg {l : List SV} : (SV.agg l).isAgg = true := rfl
def ints (l : List Int) : SV := .slice (l.map (.int .i64))
@[go_sem] theorem agg_ints {l : List Int} : (ints l).isAgg = false := rfl
theorem inR_small {n : Int} (h0 : 0 <= n) (h1 : n <= 2 ^ 63 - 1) : inR .i64 n := by
 unfold inR IntKind.wrap;have e : n % (2 ^ IntKind.i64.bits : Int) = n := Int.emod_eq_of_lt h0 (by simp only [IntKind.bits]; omega)
 simp only [e];have : ¬ (n ≥ (2 ^ (IntKind.i64.bits - 1) : Int)) := by simp only [IntKind.bits]; omega
 simp [this]
theorem maxLen_le : (maxLen : Int) <= 2 ^ 63 - 1 := Int.le_refl _
def idx {α : Type} (p : α -> Bool) : List α -> Int -> Int
 | [], _ => -1
 | x :: xs, i => if p x then i else idx p xs (i + 1)
theorem idx_ge {α : Type} (p : α -> Bool) : ∀ (xs : List α) (i : Nat), (0 <= idx p xs i) ↔ xs.any p = true
 | [], i => by simp [idx]
 | x :: xs, i => by
  simp only [idx, List.any_cons, Bool.or_eq_true]
  by_cases h : p x = true
  ·simp [h]
  ·have := idx_ge p xs (i + 1)
   rw [show ((i + 1 : Nat) : Int) = (i : Int) + 1 from rfl] at this;simp [h, this]
def Asks (g : FuncId) (first caps : List SV) (x : SV) (b : Bool) : Prop := E.Fn Tryz.prog g (first ++ [x] ++ caps) [.bool b]
def Ok1 (g : FuncId) (first caps : List SV) : Prop := okFn Tryz.prog g = true /\ ((first.map LV.s).all LV.isOne && (caps.map LV.s).all LV.isOne) = true
theorem k118 {g : FuncId} {first caps : List SV} {xs : List Int} {p : Int -> Bool} (hg : Ok1 g first caps) (hp : ∀ x ∈ xs, Asks g first caps (.int .i64 x) (p x)) : E.Fn Tryz.prog 118 [ints xs, .fn g first caps] [.int .i64 (idx p xs 0)] := by
 refine fn_of_row okf118 ?_;simp only [FRow.start, f118, c118r0, c118r1, ints, go_sem, Nat.reduceAdd, Nat.reduceSub, true_implies];intro hlen;have hlen' : (xs.length : Int) <= 2 ^ 63 - 1 := Int.le_trans (Int.ofNat_le.mpr hlen) maxLen_le
 refine loop_rule (fun n τ => ∃ i : Nat, n = xs.length - i /\ i <= xs.length /\ idx p xs 0 = idx p (xs.drop i) i /\
  τ = ⟨[.s (.slice (xs.map (.int .i64))), .s (.fn g first caps), .any, .any, .any, .any, .any, aI xs.length, aI i, .any, .any, .any, .any, .any, .any, .any, .any, .any, .any], []⟩) xs.length rfl ?_ ?_
 ·simp only [c118l7m, go_sem]
  exact ⟨0, rfl, Nat.zero_le _, rfl, rfl⟩
 ·rintro I n τ ⟨i, rfl, hi, hidx, rfl⟩ hI
  simp only [c118l7, c118r2, c118r3, go_sem, ↓reduceIte, true_implies];refine ⟨fun hlt => ?_, fun hge => ?_⟩
  ·have hx : xs[i]? = some xs[i] := List.getElem?_eq_getElem hlt
   have hdrop : xs.drop i = xs[i] :: xs.drop (i + 1) := List.drop_eq_getElem_cons hlt;simp only [c118r4, hx, go_sem];refine ⟨hg.1, hg.2, callK_of (by simp only [go_sem]) (hp _ (List.getElem_mem hlt)) (.inl rfl) ?_⟩
   simp only [go_sem, true_implies];rw [hdrop, idx] at hidx
   cases hpx : p xs[i] with
   | true =>
    simp only [hpx, if_true] at hidx;simp only [c118r5, hidx, go_sem, true_implies]
   | false =>
    simp only [hpx, Bool.false_eq_true, if_false] at hidx;simp only [c118r6, c118l7m, go_sem, true_implies];refine ⟨inR_small (n := ((i : Int) + 1)) (by omega) (by omega), hI (xs.length - (i + 1)) _ (by omega) ⟨i + 1, rfl, by omega, by rw [hidx]; simp, by simp⟩⟩
  ·have hie : i = xs.length := by omega
   subst hie;simp only [List.drop_length, idx] at hidx;simp only [c118r8, hidx, go_sem, Int.reduceNeg, true_implies]
theorem k90 {g : FuncId} {first caps : List SV} {xs : List Int} {p : Int -> Bool} (hg : Ok1 g first caps) (hp : ∀ x ∈ xs, Asks g first caps (.int .i64 x) (p x)) : E.Fn Tryz.prog 90 [ints xs, .fn g first caps] [.bool (xs.any p)] := by
 refine fn_of_row okf90 ?_;simp only [FRow.start, f90, c90r0, c90r1, go_sem, Nat.reduceAdd, Nat.reduceSub, true_implies];refine callK_of (by simp only [go_sem]) (k118 hg hp) (.inl rfl) ?_
 simp only [go_sem, true_implies]
 have h : decide (0 <= idx p xs 0) = xs.any p := by
  have := idx_ge p xs 0;simp only [Int.cast_ofNat_Int] at this;rw [Bool.eq_iff_iff]
  simpa using this
 rw [h]
theorem k91 {lo hi x : Int} : E.Fn Tryz.prog 91 [.int .i64 x, .ptr [.int .i64 lo], .ptr [.int .i64 hi]] [.bool (decide (x < lo) || decide (hi < x))] := by
 refine fn_of_row okf91 ?_;simp only [FRow.start, f91, c91r0, c91r1, go_sem, Nat.reduceAdd, Nat.reduceSub, true_implies]
 by_cases h1 : x < lo
 ·simp only [h1, decide_true, true_implies, not_true, false_implies, go_sem, false_implies, true_implies]
  simp
 ·simp only [h1, decide_false, true_implies, not_false_eq_true, false_implies, go_sem, false_implies, true_implies, not_false_eq_true]
  simp
def withinB (lo hi : Int) (l : List Int) : Bool := !(l.any fun x => decide (x < lo) || decide (hi < x))
theorem k65 {lo hi : Int} {l : List Int} : E.Fn Tryz.prog 65 [.int .i64 lo, .int .i64 hi, ints l] [.bool (withinB lo hi l)] := by
 refine fn_of_row okf65 ?_;simp only [FRow.start, f65, c65r0, c65r1, SV.cells, go_sem, Nat.reduceAdd, Nat.reduceSub, true_implies];have h := k90 (g := 91) (first := []) (caps := [.ptr [.int .i64 lo], .ptr [.int .i64 hi]]) (xs := l) (p := fun x => decide (x < lo) || decide (hi < x)) ⟨by kernel_rfl, by rfl⟩ fun x _ => k91
 refine callK_of (by simp only [go_sem]) h (.inl rfl) ?_
 simp only [go_sem, true_implies];rfl
def ent (e : Ent) : SV := .agg [.int .i64 e.m, .int .i64 e.n, .int .i64 e.k, .int .i64 e.a]
@[go_sem] theorem agg_ent {e : Ent} : (ent e).isAgg = true := rfl
def ents (L : List Ent) : SV := .slice (L.map ent)
@[go_sem] theorem agg_ents {L : List Ent} : (ents L).isAgg = false := rfl
def ssn (L : List Ent) : SV := .agg [ents L]
@[go_sem] theorem agg_ssn {L : List Ent} : (ssn L).isAgg = true := rfl
theorem within_one {lo hi x : Int} : withinB lo hi [x] = (decide (lo <= x) && decide (x <= hi)) := by
 unfold withinB;rw [Bool.eq_iff_iff];simp only [List.any_cons, List.any_nil, Bool.or_false, Bool.not_eq_true', Bool.or_eq_false_iff, decide_eq_false_iff_not, Bool.and_eq_true, decide_eq_true_eq, Int.not_lt]
theorem spl2 {a b x y : LV} : splice [a, b] 0 [x, y] = [x, y] := rfl
theorem spl4 {a b c d x y z u : LV} : splice [a, b, c, d] 0 [x, y, z, u] = [x, y, z, u] := rfl
theorem k62 {e : Ent} : E.Fn Tryz.prog 62 [ent e] [.agg [.int .i64 e.m, .int .i64 e.n]] := by
 refine fn_of_row okf62 ?_;simp only [FRow.start, f62, c62r0, c62r1, ent, SV.cells, spl2, go_sem, ↓reduceIte, Nat.reduceAdd, Nat.reduceSub, Nat.reduceLeDiff, true_implies]
def cmpE (x y : Ent) : Int := if x.m = y.m then x.n - y.n else x.m - y.m
theorem k64 {x y : Ent} (h1 : inR .i64 (x.m - y.m)) (h2 : inR .i64 (x.n - y.n)) : E.Fn Tryz.prog 64 [ent x, ent y] [.int .i64 (cmpE x y)] := by
 refine fn_of_row okf64 ?_;simp only [FRow.start, f64, c64r0, c64r1, ent, SV.cells, go_sem, Nat.reduceAdd, Nat.reduceSub, Nat.reduceLeDiff, true_implies];refine ⟨fun h => ?_, fun h => ?_⟩
 ·simp only [c64r3, cmpE, h, h2, go_sem, ↓reduceIte, Nat.reduceAdd, Nat.reduceLeDiff, true_implies]
 ·simp only [c64r2, c64r3, cmpE, h, h1, go_sem, ↓reduceIte, Nat.reduceAdd, Nat.reduceLeDiff, true_implies]
theorem k59 {x y : Ent} : E.Fn Tryz.prog 59 [ent x, ent y] [.bool (decide (Bef x y))] := by
 refine fn_of_row okf59 ?_;simp only [FRow.start, f59, c59r0, c59r1, ent, SV.cells, go_sem, Nat.reduceAdd, Nat.reduceSub, Nat.reduceLeDiff, true_implies];refine ⟨fun h => ?_, fun h => ⟨fun h' => ?_, fun h' => ?_⟩⟩
 ·rw [decide_eq_true (show Bef x y from .inl h)]
 ·by_cases hn : x.n < y.n
  ·rw [decide_eq_true hn, decide_eq_true (show Bef x y from .inr ⟨h', hn⟩)]
  ·rw [decide_eq_false hn, decide_eq_false (show ¬ Bef x y from by unfold Bef; omega)]
 ·rw [decide_eq_false (show ¬ Bef x y from by unfold Bef; omega)]
theorem k65t {lo hi x : Int} (h : lo <= x /\ x <= hi) : E.Fn Tryz.prog 65 [.int .i64 lo, .int .i64 hi, .slice [.int .i64 x]] [.bool true] := by
 have h' := k65 (lo := lo) (hi := hi) (l := [x]);rw [within_one, decide_eq_true h.1, decide_eq_true h.2] at h';exact h'
theorem k65f {lo hi x : Int} (h : ¬ (lo <= x /\ x <= hi)) : E.Fn Tryz.prog 65 [.int .i64 lo, .int .i64 hi, .slice [.int .i64 x]] [.bool false] := by
 have h' := k65 (lo := lo) (hi := hi) (l := [x]);rw [within_one, show (decide (lo <= x) && decide (x <= hi)) = false from by simpa using h] at h'
 exact h'
theorem one_cells {x : Int} : ∀ y ∈ [SV.int .i64 x], y.cells.length = 1 := by
 intro y hy; rw [List.mem_singleton.1 hy]; rfl
theorem k23 {e : Ent} : E.Fn Tryz.prog 23 [ent e] [.int .i64 (ckE e)] := by
 refine fn_of_row okf23 ?_;simp only [FRow.start, f23, c23r0, c23r1, ent, go_sem, Nat.reduceAdd, Nat.reduceSub, Nat.reduceLeDiff, Nat.reduceMul, true_implies];refine ⟨by decide, by decide, rfl, one_cells, ?_⟩
 by_cases h1 : 0 <= e.m /\ e.m <= 4
 case neg =>
  refine callK_of (by simp only [go_sem]) (k65f h1) (.inl rfl) ?_
  simp only [c23r2, go_sem, true_implies];rw [show ckE e = 3 from by unfold ckE; rw [if_pos (by omega)]]
 refine callK_of (by simp only [go_sem]) (k65t h1) (.inl rfl) ?_
 simp only [go_sem, Nat.reduceAdd, Nat.reduceLeDiff, Nat.reduceMul];refine ⟨by decide, by decide, rfl, one_cells, ?_⟩
 by_cases h2 : 1 <= e.n /\ e.n <= 30
 case neg =>
  refine callK_of (by simp only [go_sem]) (k65f h2) (.inl rfl) ?_
  simp only [c23r2, go_sem, true_implies];rw [show ckE e = 3 from by unfold ckE; rw [if_pos (by omega)]]
 refine callK_of (by simp only [go_sem]) (k65t h2) (.inl rfl) ?_
 simp only [go_sem, Nat.reduceAdd, Nat.reduceLeDiff, Nat.reduceMul];refine ⟨by decide, by decide, rfl, one_cells, ?_⟩
 by_cases h3 : 0 <= e.a /\ e.a <= 100
 case neg =>
  refine callK_of (by simp only [go_sem]) (k65f h3) (.inl rfl) ?_
  simp only [c23r2, go_sem, true_implies];rw [show ckE e = 3 from by unfold ckE; rw [if_pos (by omega)]]
 refine callK_of (by simp only [go_sem]) (k65t h3) (.inl rfl) ?_
 by_cases e2 : e.k = 2
 ·simp only [c23r3, c23r4, c23r5, c23r6, e2, go_sem, Nat.reduceAdd, Nat.reduceLeDiff, true_implies]
  rw [show ckE e = 0 from by unfold ckE; repeat (first | rw [if_pos (by omega)] | rw [if_neg (by omega)])]
 by_cases e3 : e.k = 3
 ·simp only [c23r3, c23r4, c23r5, c23r6, e3, Int.reduceEq, go_sem, Nat.reduceAdd, Nat.reduceLeDiff, true_implies]
  rw [show ckE e = 0 from by unfold ckE; repeat (first | rw [if_pos (by omega)] | rw [if_neg (by omega)])]
 by_cases e1 : e.k = 1
 ·by_cases ha : 0 < e.a
  ·simp only [c23r3, c23r4, c23r5, c23r7, c23r8, c23r9, c23r10, e1, ha, Int.reduceEq, go_sem, Nat.reduceAdd, Nat.reduceLeDiff, true_implies]
   rw [show ckE e = 0 from by unfold ckE; repeat (first | rw [if_pos (by omega)] | rw [if_neg (by omega)])]
  ·simp only [c23r3, c23r4, c23r5, c23r7, c23r8, c23r9, c23r14, e1, ha, Int.reduceEq, go_sem, Nat.reduceAdd, Nat.reduceLeDiff, true_implies]
   rw [show ckE e = 2 from by unfold ckE; repeat (first | rw [if_pos (by omega)] | rw [if_neg (by omega)])]
 by_cases e4 : e.k = 4
 ·by_cases ha : 0 < e.a
  ·simp only [c23r3, c23r4, c23r5, c23r7, c23r8, c23r9, c23r10, e4, ha, Int.reduceEq, go_sem, Nat.reduceAdd, Nat.reduceLeDiff, true_implies]
   rw [show ckE e = 0 from by unfold ckE; repeat (first | rw [if_pos (by omega)] | rw [if_neg (by omega)])]
  ·simp only [c23r3, c23r4, c23r5, c23r7, c23r8, c23r9, c23r14, e4, ha, Int.reduceEq, go_sem, Nat.reduceAdd, Nat.reduceLeDiff, true_implies]
   rw [show ckE e = 2 from by unfold ckE; repeat (first | rw [if_pos (by omega)] | rw [if_neg (by omega)])]
 by_cases e5 : e.k = 5
 ·simp only [c23r3, c23r4, c23r5, c23r7, c23r8, c23r11, c23r12, e5, Int.reduceEq, go_sem, Nat.reduceAdd, Nat.reduceLeDiff, Nat.reduceMul, true_implies]
  refine ⟨inR_small (by omega) (by omega), by decide, by decide, rfl, one_cells, ?_⟩
  by_cases ha : 1 <= e.a /\ e.a <= e.n - 1
  ·refine callK_of (by simp only [go_sem]) (k65t ha) (.inl rfl) ?_
   simp only [c23r13, go_sem, true_implies];rw [show ckE e = 0 from by unfold ckE; repeat (first | rw [if_pos (by omega)] | rw [if_neg (by omega)])]
  ·refine callK_of (by simp only [go_sem]) (k65f ha) (.inl rfl) ?_
   simp only [c23r14, go_sem, true_implies];rw [show ckE e = 2 from by unfold ckE; repeat (first | rw [if_pos (by omega)] | rw [if_neg (by omega)])]
 ·simp only [c23r3, c23r4, c23r5, c23r7, c23r8, c23r11, c23r14, e1, e2, e3, e4, e5, go_sem, Nat.reduceAdd, Nat.reduceLeDiff, true_implies]
  rw [show ckE e = 2 from by unfold ckE; repeat (first | rw [if_pos (by omega)] | rw [if_neg (by omega)])]
theorem k24 {e : Ent} : E.Fn Tryz.prog 24 [ent e] [.int .i64 (ckE e)] := by
 refine fn_of_row okf24 ?_;simp only [FRow.start, f24, c24r0, c24r1, ent, go_sem, Nat.reduceAdd, Nat.reduceSub, Nat.reduceLeDiff, true_implies]
 by_cases h1 : e.m < 0 \/ 4 < e.m \/ e.n < 1 \/ 30 < e.n \/ e.a < 0 \/ 100 < e.a
 ·rw [show ckE e = 3 from by unfold ckE; rw [if_pos h1]]
  simp only [c24r2, go_sem, true_implies];omega
 ·have a1 : ¬ e.m < 0 := by omega
  have a2 : ¬ 4 < e.m := by omega
  have a3 : ¬ e.n < 1 := by omega
  have a4 : ¬ 30 < e.n := by omega
  have a5 : ¬ e.a < 0 := by omega
  have a6 : ¬ 100 < e.a := by omega
  simp only [a1, a2, a3, a4, a5, a6, c24r3, go_sem, Nat.reduceAdd, Nat.reduceLeDiff, false_implies, true_implies, not_false_eq_true]
  by_cases h2 : e.k < 1 \/ 5 < e.k
  ·rw [show ckE e = 2 from by unfold ckE; rw [if_neg h1, if_pos h2]]
   simp only [c24r4, go_sem, true_implies];omega
  ·have b1 : ¬ e.k < 1 := by omega
   have b2 : ¬ 5 < e.k := by omega
   simp only [b1, b2, c24r5, go_sem, Nat.reduceAdd, Nat.reduceLeDiff, false_implies, true_implies, not_false_eq_true]
   by_cases h3 : (e.k = 1 \/ e.k = 4) /\ e.a < 1
   ·rw [show ckE e = 2 from by unfold ckE; rw [if_neg h1, if_neg h2, if_pos h3]]
    simp only [c24r6, h3.2, go_sem, not_true_eq_false, false_implies, true_implies];omega
   ·by_cases h4 : e.k = 5 /\ (e.a < 1 \/ e.n <= e.a)
    ·rw [show ckE e = 2 from by unfold ckE; rw [if_neg h1, if_neg h2, if_neg h3, if_pos h4]]
     simp only [c24r6, c24r7, c24r8, h4.1, Int.reduceEq, go_sem, Nat.reduceAdd, Nat.reduceLeDiff, false_implies, true_implies, not_false_eq_true];omega
    ·rw [show ckE e = 0 from by unfold ckE; rw [if_neg h1, if_neg h2, if_neg h3, if_neg h4]]
     simp only [c24r6, c24r7, c24r8, c24r9, go_sem, Nat.reduceAdd, Nat.reduceLeDiff, true_implies];omega
theorem take_snoc {α : Type} {l : List α} {i : Nat} {x : α} (h : l[i]? = some x) : l.take (i + 1) = l.take i ++ [x] := by rw [List.take_succ, h]; rfl
theorem all_snoc {α : Type} {q : α -> Prop} {l : List α} {i : Nat} {x : α} (h : l[i]? = some x) (h1 : ∀ y ∈ l.take i, q y) (h2 : q x) : ∀ y ∈ l.take (i + 1), q y := by
 rw [take_snoc h];intro y hy
 rcases List.mem_append.1 hy with hy | hy
 ·exact h1 y hy
 ·rw [List.mem_singleton.1 hy]; exact h2
theorem ck_ent {L : List Ent} {i : Nat} {x : Ent} (h24 : ¬ 24 < L.length) (hall : ∀ e ∈ L.take i, ckE e = 0) (hx : L[i]? = some x) (hn : ckE x ≠ 0) : ckS L = ckE x := by
 unfold ckS;rw [if_neg h24];have hl := (List.getElem?_eq_some_iff.1 hx).1
 have e : L = L.take i ++ x :: L.drop (i + 1) := by
  rw [<- (List.getElem?_eq_some_iff.1 hx).2, <- List.drop_eq_getElem_cons hl, List.take_append_drop]
 have hf : (L.find? fun e => decide (ckE e ≠ 0)) = some x := by
  rw [e, List.find?_append, List.find?_eq_none.2 (fun y hy => by simp [hall y hy]), Option.none_or, List.find?_cons_of_pos]
  simpa using hn
 rw [hf]
theorem ck_rest {L : List Ent} (h24 : ¬ 24 < L.length) (hall : ∀ e ∈ L, ckE e = 0) : ckS L = if srt L then 0 else 16 := by
 unfold ckS;rw [if_neg h24, List.find?_eq_none.2 (fun y hy => by simp [hall y hy])]
theorem srt_iff : ∀ {L : List Ent}, srt L = true ↔ ∀ (k : Nat) (x y : Ent), L[k]? = some x -> L[k + 1]? = some y -> Bef x y
 | [] => by simp [srt]
 | [x] => by simp [srt]
 | a :: b :: l => by
  simp only [srt, Bool.and_eq_true, decide_eq_true_eq];rw [srt_iff (L := b :: l)];constructor
  ·rintro ⟨h1, h2⟩ k x y hx hy
   cases k with
   | zero => simp at hx hy; subst hx; subst hy; exact h1
   | succ k => exact h2 k x y (by simpa using hx) (by simpa using hy)
  ·intro h
   exact ⟨h 0 a b rfl rfl, fun k x y hx hy => h (k + 1) x y (by simpa using hx) (by simpa using hy)⟩
theorem ck_bad {L : List Ent} {k : Nat} {x y : Ent} (h24 : ¬ 24 < L.length) (hall : ∀ e ∈ L, ckE e = 0) (hx : L[k]? = some x) (hy : L[k + 1]? = some y) (hb : ¬ Bef x y) : ckS L = 16 := by
 rw [ck_rest h24 hall, if_neg];intro h;exact hb (srt_iff.1 h k x y hx hy)
theorem ck_fine {L : List Ent} (h24 : ¬ 24 < L.length) (hall : ∀ e ∈ L, ckE e = 0) (h : ∀ (k : Nat) (x y : Ent), k + 1 < L.length -> L[k]? = some x -> L[k + 1]? = some y -> Bef x y) : ckS L = 0 := by
 rw [ck_rest h24 hall, if_pos];exact srt_iff.2 fun k x y hx hy => h k x y (List.getElem?_eq_some_iff.1 hy).1 hx hy
theorem inR_i64 {n : Int} (h0 : -2 ^ 63 <= n) (h1 : n <= 2 ^ 63 - 1) : inR .i64 n := by
 by_cases h : 0 <= n
 ·exact inR_small h h1
 ·unfold inR IntKind.wrap
  have e : n % (2 ^ IntKind.i64.bits : Int) = n + 2 ^ 64 := by simp only [IntKind.bits]; omega
  simp only [e];have : (n + 2 ^ 64 ≥ (2 ^ (IntKind.i64.bits - 1) : Int)) := by simp only [IntKind.bits]; omega
  simp only [IntKind.bits] at this;simp [IntKind.bits];intro hs;have := hs rfl;omega
theorem cmp_bef {x y : Ent} : 0 <= cmpE x y ↔ ¬ Bef x y := by unfold cmpE Bef; split <;> omega
@[go_sem] theorem ent_cells {e : Ent} : (ent e).cells = [.int .i64 e.m, .int .i64 e.n, .int .i64 e.k, .int .i64 e.a] := rfl
@[go_sem] theorem cells_ents {L : List Ent} : (ents L).cells = [ents L] := rfl
theorem k25 {L : List Ent} : E.Fn Tryz.prog 25 [ssn L] [.int .i64 (ckS L)] := by
 refine fn_of_row okf25 ?_;generalize hr : ckS L = r;simp only [FRow.start, f25, c25r0, c25r1, ssn, ents, go_sem, Nat.reduceSub, Nat.reduceLeDiff, true_implies];intro hlen;have hlen' : (L.length : Int) <= 2 ^ 63 - 1 := Int.le_trans (Int.ofNat_le.mpr hlen) maxLen_le;refine ⟨fun h24 => ?_, fun h24 => ?_⟩
 ·simp only [c25r2, go_sem, true_implies]
  rw [<- hr, ckS, if_pos (by omega)]
 have h24 : ¬ 24 < L.length := by omega
 simp only [c25r3, go_sem, Nat.reduceLeDiff];intro _
 refine loop_rule (fun m τ => ∃ i : Nat, m = L.length - i /\ i <= L.length /\ (∀ e ∈ L.take i, ckE e = 0) /\
  τ = ⟨(aN::(.s (.ptr [.slice (L.map ent)]))::aN::aN::aN::aN::aN::aN::aN::aN::aN::aN::aN::(.s (.slice (L.map ent)))::(aI L.length)::(aI i)::aN::aN::aN::aN::aN::aN::aN::aZ24), []⟩) L.length rfl ?_ ?_
 ·simp only [c25l10m, go_sem]
  exact ⟨0, rfl, Nat.zero_le _, by simp, rfl⟩
 rintro I m τ ⟨i, rfl, hi, hall, rfl⟩ hI;simp only [c25l10, c25r4, go_sem, ↓reduceIte, true_implies];refine ⟨fun hlt => ?_, fun hge => ?_⟩
 ·have hx : L[i]? = some L[i] := List.getElem?_eq_getElem hlt
  generalize L[i] = x at hx;simp only [c25r5, hx, ent_cells, spl4, go_sem, Nat.reduceAdd, true_implies];simp only [c25r6, go_sem, Nat.reduceAdd];refine callK_of (by simp only [ent, go_sem]) (k23 (e := x)) (.inl rfl) ?_
  simp only [c25r7, go_sem, true_implies];refine ⟨fun heq => ?_, fun hne => ?_⟩
  rotate_left
  ·simp only [c25r8, go_sem, true_implies]
   rw [<- hr, ck_ent h24 hall hx hne]
  ·simp only [c25r9, c25l10m, go_sem, true_implies]
   exact ⟨inR_small (by omega) (by omega), hI (L.length - (i + 1)) _ (by omega) ⟨i + 1, rfl, by omega, all_snoc hx hall (by omega), rfl⟩⟩
 have hie : i = L.length := by omega
 subst hie;rw [List.take_length] at hall;have hok : ∀ e ∈ L, OkE e := fun e he => ckE_zero.1 (hall e he)
 clear hI;simp only [c25r11, go_sem, Nat.reduceLeDiff];intro _
 refine loop_rule (fun m τ => ∃ i : Nat, m = L.length - i /\ i <= L.length /\ (∀ (k : Nat) (x y : Ent), k + 1 < i -> L[k]? = some x -> L[k + 1]? = some y -> Bef x y) /\
  τ = ⟨(aN::(.s (.ptr [.slice (L.map ent)]))::aN::aN::aN::aN::aN::aN::aN::aN::aN::aN::aN::aN::aN::aN::aN::aN::aN::aN::aN::aN::aN::aN::aN::aN::(.s (.slice (L.map ent)))::(aI L.length)::(aI i)::aN::aN::aZ16), []⟩) L.length rfl ?_ ?_
 ·simp only [c25l17m, go_sem]
  exact ⟨0, rfl, Nat.zero_le _, fun k x y h => by omega, rfl⟩
 rintro I m τ ⟨i, rfl, hi, hsr, rfl⟩ hI;simp only [c25l17, c25r12, go_sem, ↓reduceIte, true_implies];refine ⟨fun hlt => ?_, fun hge => ?_⟩
 ·have hx : L[i]? = some L[i] := List.getElem?_eq_getElem hlt
  generalize L[i] = x at hx;simp only [c25r13, hx, ent_cells, spl4, go_sem, Nat.reduceAdd, true_implies]
  cases i with
  | zero =>
   have e0 : ¬ ((0 : Int) < ((0 : Nat) : Int)) := by omega
   simp only [c25r14, e0, c25r16, c25l17m, go_sem, true_implies];exact ⟨inR_small (by omega) (by omega), hI (L.length - 1) _ (by omega) ⟨1, rfl, by omega, fun k x y h => by omega, rfl⟩⟩
  | succ j =>
   have hy : L[j]? = some L[j] := List.getElem?_eq_getElem (by omega)
   generalize L[j] = y at hy;have e0 : (0 : Int) < ((j + 1 : Nat) : Int) := by omega
   have e1 : ((j + 1 : Nat) : Int) - 1 = j := by omega
   have ox := hok x (List.mem_of_getElem? hx);have oy := hok y (List.mem_of_getElem? hy);have := ox.m0; have := ox.m4; have := oy.m0; have := oy.m4; have := ox.n1; have := ox.n30; have := oy.n1; have := oy.n30;simp only [c25r14, e0, e1, hy, ent_cells, Int.toNat_natCast, go_sem, Nat.reduceAdd, Nat.reduceLeDiff];refine ⟨inR_small (by omega) (by omega), callK_of (by simp only [ent, go_sem]) (k64 (x := y) (y := x) (inR_i64 (by omega) (by omega)) (inR_i64 (by omega) (by omega))) (.inl rfl) ?_⟩
   by_cases hb : Bef y x
   ·have e2 : ¬ 0 <= cmpE y x := by rw [cmp_bef]; exact fun h => h hb
    simp only [e2, c25r16, c25l17m, go_sem, true_implies]
    exact ⟨inR_small (by omega) (by omega), hI (L.length - (j + 1 + 1)) _ (by omega) ⟨j + 1 + 1, rfl, by omega, fun k a b hk ha hb' => by
     by_cases hkj : k = j
     ·subst hkj; rw [hy] at ha; rw [hx] at hb'; cases ha; cases hb'; exact hb
     ·exact hsr k a b (by omega) ha hb', rfl⟩⟩
   ·have e2 : 0 <= cmpE y x := cmp_bef.2 hb
    simp only [e2, c25r15, go_sem, true_implies];rw [<- hr, ck_bad h24 hall hy hx hb]
 ·have hie : i = L.length := by omega
  simp only [c25r18, go_sem, true_implies];rw [<- hr, ck_fine h24 hall fun k x y hk => hsr k x y (by omega)]
theorem k26 {L : List Ent} : E.Fn Tryz.prog 26 [ssn L] [.int .i64 (ckS L)] := by
 refine fn_of_row okf26 ?_;generalize hr : ckS L = r;simp only [FRow.start, f26, c26r0, c26r1, c26r2, ssn, ents, go_sem, Nat.reduceSub, Nat.reduceLeDiff, true_implies];intro hlen;have hlen' : (L.length : Int) <= 2 ^ 63 - 1 := Int.le_trans (Int.ofNat_le.mpr hlen) maxLen_le;refine ⟨fun h24 => ?_, fun h24 => ?_⟩
 ·simp only [c26r3, go_sem, true_implies]
  rw [<- hr, ckS, if_pos (by omega)]
 have h24 : ¬ 24 < L.length := by omega
 simp only [c26r4, go_sem, true_implies]
 refine loop_rule (fun m τ => ∃ i : Nat, m = L.length - i /\ i <= L.length /\ (∀ e ∈ L.take i, ckE e = 0) /\
  τ = ⟨(aN::aN::aN::(.s (.slice (L.map ent)))::(aI i)::aZ40), []⟩) L.length rfl ?_ ?_
 ·simp only [c26l9m, go_sem]
  exact ⟨0, rfl, Nat.zero_le _, by simp, rfl⟩
 rintro I m τ ⟨i, rfl, hi, hall, rfl⟩ hI;simp only [c26l9, c26r5, go_sem, ↓reduceIte];intro _;refine ⟨fun hlt => ?_, fun hge => ?_⟩
 ·have hx : L[i]? = some L[i] := List.getElem?_eq_getElem hlt
  generalize L[i] = x at hx;simp only [c26r6, hx, ent_cells, go_sem, Nat.reduceAdd];refine callK_of (by simp only [ent, go_sem]) (k24 (e := x)) (.inl rfl) ?_
  simp only [go_sem, true_implies];refine ⟨fun heq => ?_, fun hne => ?_⟩
  rotate_left
  ·simp only [c26r7, hx, ent_cells, go_sem, Nat.reduceAdd]
   refine callK_of (by simp only [ent, go_sem]) (k24 (e := x)) (.inl rfl) ?_
   simp only [go_sem, true_implies];rw [<- hr, ck_ent h24 hall hx hne]
  ·simp only [c26r8, c26l9m, go_sem, true_implies]
   exact ⟨inR_small (by omega) (by omega), hI (L.length - (i + 1)) _ (by omega) ⟨i + 1, rfl, by omega, all_snoc hx hall (by omega), rfl⟩⟩
 have hie : i = L.length := by omega
 subst hie;rw [List.take_length] at hall;clear hI;simp only [c26r10, go_sem, true_implies]
 refine loop_rule (fun m τ => ∃ i : Nat, m = L.length - i /\ 1 <= i /\ (i <= L.length \/ i = 1) /\ (∀ (k : Nat) (x y : Ent), k + 1 < i -> L[k]? = some x -> L[k + 1]? = some y -> Bef x y) /\
  τ = ⟨(aN::aN::aN::(.s (.slice (L.map ent)))::aN::(aI i)::aN::aN::aN::aN::aN::aN::aN::aZ32), []⟩) (L.length - 1) rfl ?_ ?_
 ·simp only [c26l15m, go_sem]
  exact ⟨1, rfl, Nat.le_refl _, .inr rfl, fun k x y h => by omega, rfl⟩
 rintro I m τ ⟨i, rfl, hi1, hi, hsr, rfl⟩ hI;simp only [c26l15, c26r11, go_sem, ↓reduceIte];intro _;refine ⟨fun hlt => ?_, fun hge => ?_⟩
 ·obtain ⟨j, rfl⟩ : ∃ j, i = j + 1 := ⟨i - 1, by omega⟩
  have hx : L[j + 1]? = some L[j + 1] := List.getElem?_eq_getElem hlt;generalize L[j + 1] = x at hx;have hy : L[j]? = some L[j] := List.getElem?_eq_getElem (by omega)
  generalize L[j] = y at hy;have e1 : ((j + 1 : Nat) : Int) - 1 = j := by omega
  simp only [c26r12, e1, hx, hy, ent_cells, Int.toNat_natCast, go_sem, Nat.reduceAdd];refine ⟨inR_small (by omega) (by omega), callK_of (by simp only [ent, go_sem]) (k59 (x := y) (y := x)) (.inl rfl) ?_⟩
  by_cases hb : Bef y x
  ·have e2 : decide (Bef y x) = true := decide_eq_true hb
   simp only [e2, c26r14, c26l15m, go_sem, true_implies]
   exact ⟨inR_small (by omega) (by omega), hI (L.length - (j + 1 + 1)) _ (by omega) ⟨j + 1 + 1, rfl, by omega, .inl (by omega), fun k a b hk ha hb' => by
    by_cases hkj : k = j
    ·subst hkj; rw [hy] at ha; rw [hx] at hb'; cases ha; cases hb'; exact hb
    ·exact hsr k a b (by omega) ha hb', rfl⟩⟩
  ·have e2 : decide (Bef y x) = false := decide_eq_false hb
   simp only [e2, c26r13, go_sem, true_implies];rw [<- hr, ck_bad h24 hall hy hx hb]
 ·simp only [c26r16, go_sem, true_implies]
  rw [<- hr, ck_fine h24 hall fun k x y hk => hsr k x y (by omega)]
end Go.Proofs.YtdlfkbpddfeenaaGreatDoor.Sk
namespace Go.Proofs.YtdlfkbpddfeenaaGreatDoor.Sk
open Go Go.E Go.RowKit
set_option maxRecDepth 100000
theorem bld_info : ∃ j, Tryz.prog.info? 101 = some j /\ j.size = 2 := by
 have h : (Tryz.prog.info? 101).map (·.size) = some 2 := by kernel_rfl
 obtain ⟨j, hj, hjs⟩ := Option.map_eq_some_iff.1 h;exact ⟨j, hj, hjs⟩
theorem bld_lies : liesAt Tryz.prog Tryz.prog.depth 101 (2 / Tryz.prog.cellsOf 101) 0 101 1 = true := by kernel_rfl
theorem w98_used (b : Nat) (w : World) (h0 : w.cell? ⟨b, 0, none⟩ = some (.pointer (some ⟨b, 0, none⟩))) :
  Calls Tryz.prog 98 #[.pointer (some ⟨b, 0, none⟩)] w fun e w' => e = .returned (.tuple #[]) /\ w' = w := by
 obtain ⟨j, hj, _⟩ := bld_info
 go_enter Tryz.func98, Tryz.ntmps98
 go_wp2
 rw [Lib.run_neq_ptr_same w _ Tryz.underlying99 hj]
 go_wp2
 go_end0
 exact ⟨rfl, rfl⟩
theorem w98_fresh (b : Nat) (w : World) (h0 : w.cell? ⟨b, 0, none⟩ = some (.pointer none)) (hsh : w.shape? b = some (101, 2)) (hfz : w.frozen? ⟨b, 0, none⟩ = false) :
  Calls Tryz.prog 98 #[.pointer (some ⟨b, 0, none⟩)] w fun e w' => e = .returned (.tuple #[]) /\ w' = w.setCell ⟨b, 0, none⟩ (.pointer (some ⟨b, 0, none⟩)) := by
 obtain ⟨j, hj, hjs⟩ := bld_info
 go_enter Tryz.func98, Tryz.ntmps98
 go_wp2
 rw [Lib.run_to_unsafe w ⟨b, 0, none⟩ Tryz.underlying99 Tryz.underlying154 hj (by rw [hjs]; decide) hsh (Nat.zero_lt_succ 1)]
 simp only [Result.andThen];rw [Oper.upon_value]
 go_wp2
 rw [run_callFunc_extern Tryz.func128 (by kernel_rfl) (by kernel_rfl) (by kernel_rfl) (e := Extern.AbiNoEscape.same) (by kernel_rfl)]
 rw [Lib.run_noEscape];simp only [Result.andThen];rw [Oper.upon_value]
 go_wp2
 rw [Lib.run_from_unsafe w ⟨b, 0, none⟩ Tryz.underlying154 Tryz.underlying99 hj hsh bld_lies];simp only [Result.andThen];rw [Oper.upon_value]
 go_wp2
 go_end0
 exact ⟨rfl, rfl⟩
structure AppPost (w w' : World) (v : Value) (n : Nat) (xs : List Value) (e : TypeId) (s : ByteArray) (g cap : Nat) (cur : Array Value) : Prop where
  cells : w'.heap[g]? = some (.cells cur e (0, 0))
  le : n + s.size <= cap
  max : cap <= maxLen
  size : cur.size = cap
  take : cur.toList.take (n + s.size) = xs ++ Lib.strCells s
  own : v.ownBlock = some g \/ g = w.heap.size
  os : w'.os = w.os
  tape : w'.tape = w.tape
  output : w'.output = w.output
  drawn : w.drawn <= w'.drawn
  grows : w.heap.size <= w'.heap.size
  block : ∀ k, k < w.heap.size -> v.ownBlock ≠ some k -> w'.heap[k]? = w.heap[k]?
theorem app_str {P : Program} (w : World) (t u ty e : TypeId) (i : TypeInfo) (ht : P.underlying t = some (.slice e)) (hu : P.underlying u = some .string) (hi : P.info? e = some i) (hz : i.zero = some (.int .u8 0)) (hsize : i.size = 1) (hby : i.bytes = 1)
  (v : Value) (n : Nat) (xs : List Value) (hown : w.ownsRow 0 e 1 v n xs) (s : ByteArray) (hs : 0 < s.size) (h63 : n + s.size <= maxLen) (hbytes : n + s.size <= 140737488355328) :
  ∃ g cap cur w', (Builtin.append_ #[t, u] ty #[v, .string s]).run P w = .ok (.slice (some ⟨g, 0, none⟩) (n + s.size) cap) w' /\ AppPost w w' v n xs e s g cap cur := by
 obtain ⟨v', w', hr, hown', hg, _⟩ := Lib.run_append_own_string (P := P) w 0 t u ty e i ht hu hi hz hsize hby v n xs hown s h63 hbytes (Nat.zero_le _);have hxl : xs.length = n := by simpa using hown.1
 have hml : maxLen <= 9223372036854775807 := by decide
 have key : (v.ownBlock = v'.ownBlock \/ v'.ownBlock = some w.heap.size) /\ w.drawn <= w'.drawn := by
  rcases hown.2 with ⟨rfl, rfl⟩ | ⟨g, cap, cur, rfl, _, hgc, hnc, hcm, hcs, htake⟩
  ·have hx := run_append_nil_string (P := P) w t u ty e i (.int .u8 0) ht hu hi hz s hs (by omega) (by rw [hby]; omega)
   rw [hr] at hx
   injection hx with hx1 hx2
   subst hx1 hx2;exact ⟨.inr rfl, Nat.le_succ _⟩
  ·by_cases hroom : n + s.size <= cap
   ·have hx := Lib.run_append_room_string (P := P) w t u ty e i ht hu hi hsize g n cap cur hgc s hroom (by omega)
    rw [hr] at hx
    injection hx with hx1 hx2
    subst hx1 hx2;exact ⟨.inl rfl, Nat.le_refl _⟩
   ·have holds : ∀ j u, xs[j]? = some u -> w.cell? ((⟨g, 0, none⟩ : Addr).add j) = some u := hown.cells (g := g) rfl
    have hx := Lib.run_append_grow_string (P := P) w t u ty e i (.int .u8 0) ht hu hi hz ⟨g, 0, none⟩ n cap xs (by rw [hsize]; simpa using hxl) holds s (by omega) (by omega) (by rw [hby]; exact growslice_fits (by omega) (by omega))
    rw [hr] at hx
    injection hx with hx1 hx2
    subst hx1 hx2;exact ⟨.inr rfl, Nat.le_succ _⟩
 rcases hown'.2 with ⟨_, h0⟩ | ⟨g, cap, cur, rfl, _, hgc, hnc, hcm, hcs, htake⟩
 ·omega
 ·refine ⟨g, cap, cur, w', hr, hgc, hnc, hcm, by simpa using hcs, by simpa using htake, ?_, hg.os, hg.tape, hg.output, key.2, hg.size, fun k hk hne => hg.block k hk fun e => hne e.symm⟩
  rcases key.1 with h | h
  ·exact .inl h
  ·simp only [Value.ownBlock, Option.some.injEq] at h
   exact .inr h
theorem wpList_app {P : Program} {w : World} {ops : Array Oper} {rest : List Oper} {o : Oper} {a : Act} {Q : Exit -> Act -> World -> Prop} (hgd : o.guard = none) (sl x : Operand) (t u : TypeId)
  (ho : o.op = .call { callee := .builtin .append, args := #[sl, x], argTypes := #[t, u] })
  (e : TypeId) (i : TypeInfo) (ht : P.underlying t = some (.slice e)) (hu : P.underlying u = some .string) (hi : P.info? e = some i) (hz : i.zero = some (.int .u8 0)) (hsize : i.size = 1) (hby : i.bytes = 1)
  (v : Value) (n : Nat) (xs : List Value) (hs : a.eval sl = v) (hown : w.ownsRow 0 e 1 v n xs) (s : ByteArray) (hx : a.eval x = .string s) (hpos : 0 < s.size) (h63 : n + s.size <= maxLen) (hbytes : n + s.size <= 140737488355328)
  (h : ∀ g cap cur w', AppPost w w' v n xs e s g cap cur -> wpList P ops Q rest (a.put o.dst (.slice (some ⟨g, 0, none⟩) (n + s.size) cap)) w') : wpList P ops Q (o :: rest) a w := by
 refine wpList_plain hgd fun K hK => ?_
 obtain ⟨g, cap, cur, w', hr, hp⟩ := app_str (P := P) w t u o.type e i ht hu hi hz hsize hby v n xs hown s hpos h63 hbytes;unfold Oper.wp execOp;simp only [ho, resolve, invoke, builtin, Sem.run_bind, Sem.run_pure, Result.andThen_ok, List.map_toArray, List.map_cons, List.map_nil, hs, hx, hr];exact hK _ _ (h g cap cur w' hp)
theorem byte_info : ∃ i, Tryz.prog.info? 5 = some i /\ i.zero = some (.int .u8 0) /\ i.size = 1 /\ i.bytes = 1 := by
 have h : (Tryz.prog.info? 5).map (fun i => (i.zero, i.size, i.bytes)) = some (some (.int .u8 0), 1, 1) := by kernel_rfl
 obtain ⟨i, hi, he⟩ := Option.map_eq_some_iff.1 h;simp only [Prod.mk.injEq] at he;exact ⟨i, hi, he.1, he.2.1, he.2.2⟩
structure Turned (b : Nat) (w w' : World) : Prop where
  os : w'.os = w.os
  tape : w'.tape = w.tape
  output : w'.output = w.output
  drawn : w'.drawn = w.drawn
  size : w'.heap.size = w.heap.size
  block : ∀ k, k ≠ b -> w'.heap[k]? = w.heap[k]?
theorem w74 (b : Nat) (p v : Value) (n : Nat) (xs : List Value) (s : ByteArray) (w : World) (hp : p = .pointer none \/ p = .pointer (some ⟨b, 0, none⟩)) (hbk : w.heap[b]? = some (.cells #[p, v] 101 (0, 0)))
  (hown : w.ownsRow 0 5 1 v n xs) (hne : v.ownBlock ≠ some b) (hpos : 0 < s.size) (hlen : n + s.size <= 140737488355328) :
  Calls Tryz.prog 74 #[.pointer (some ⟨b, 0, none⟩), .string s] w fun e w' => e = .returned (.tuple #[.int .i64 s.size, .nilIface]) /\
   ∃ w1 g cap cur w2, Turned b w w1 /\ w1.heap[b]? = some (.cells #[.pointer (some ⟨b, 0, none⟩), v] 101 (0, 0)) /\ AppPost w1 w2 v n xs 5 s g cap cur /\ w' = w2.setCell ⟨b, 1, none⟩ (.slice (some ⟨g, 0, none⟩) (n + s.size) cap) := by
 obtain ⟨i0, hi, hz0, hz1, hz2⟩ := byte_info
 obtain ⟨w1, hc, ht, hb1⟩ : ∃ w1, (Calls Tryz.prog 98 #[.pointer (some ⟨b, 0, none⟩)] w fun e w' => e = .returned (.tuple #[]) /\ w' = w1) /\ Turned b w w1 /\ w1.heap[b]? = some (.cells #[.pointer (some ⟨b, 0, none⟩), v] 101 (0, 0)) := by
  rcases hp with rfl | rfl
  ·refine ⟨_, w98_fresh b w (by simp [World.cell?, hbk]) (by simp [World.shape?, hbk]) (by simp [World.frozen?, hbk]), ⟨rfl, rfl, rfl, rfl, by simp [World.setCell], fun k hk => Below.heap_setCell _ _ _ _ hk⟩, ?_⟩
   simp [World.setCell, Array.getElem?_modify, hbk]
  ·exact ⟨w, w98_used b w (by simp [World.cell?, hbk]), ⟨rfl, rfl, rfl, rfl, rfl, fun _ _ => rfl⟩, hbk⟩
 have ho1 : w1.ownsRow 0 5 1 v n xs := hown.kept (row := some b) ⟨ht.os, ht.tape, ht.output, by rw [ht.size]; exact Nat.le_refl _, fun k _ hk => ht.block k (fun e => hk (by rw [e]))⟩ (.inr hne)
 have c1 : w1.cell? ⟨b, 1, none⟩ = some v := by rw [Lib.cell_of_heap hb1]; rfl
 go_enter Tryz.func74, Tryz.ntmps74
 go_wp2_with (go_at_call 98; refine hc.mono ?_)
 rintro e w1 ⟨rfl, rfl⟩
 go_wp2_with (at_builtin; refine wpList_app rfl _ _ 56 9 rfl 5 i0 Tryz.underlying56 Tryz.underlying9 hi hz0 hz1 hz2 _ _ _ rfl ho1 s rfl hpos ?c4 hlen ?_)
 case c4 => unfold maxLen; omega
 intro g cap cur w2 hpost;have hlt : b < w1.heap.size := (Array.getElem?_eq_some_iff.1 hb1).1
 have hb2 : w2.heap[b]? = some (.cells #[.pointer (some ⟨b, 0, none⟩), v] 101 (0, 0)) := by
  rw [hpost.block b hlt hne]; exact hb1
 have d1 : w2.cell? ⟨b, 1, none⟩ = some v := by rw [Lib.cell_of_heap hb2]; rfl
 have f1 : w2.frozen? ⟨b, 1, none⟩ = false := Lib.frozen_of_heap hb2 1
 go_wp2
 go_ret2
 exact ⟨rfl, w1, g, cap, cur, w2, ht, hb1, hpost, rfl⟩
theorem byte_cells : Tryz.prog.cellsOf 5 = 1 := by kernel_rfl
theorem w77 (b g cap : Nat) (p : Value) (l : List UInt8) (cur : Array Value) (w : World) (hbk : w.heap[b]? = some (.cells #[p, .slice (some ⟨g, 0, none⟩) l.length cap] 101 (0, 0))) (hg : w.heap[g]? = some (.cells cur 5 (0, 0)))
  (hl0 : 0 < l.length) (hle : l.length <= cap) (hcm : cap <= maxLen) (hcs : cur.size = cap) (htake : cur.toList.take l.length = Lib.byteCells l) :
  Calls Tryz.prog 77 #[.pointer (some ⟨b, 0, none⟩)] w fun e w' => e = .returned (.string ⟨l.toArray⟩) /\ w' = w.drew.freeze ⟨g, 0, none⟩ l.length := by
 have hne : l ≠ [] := List.length_pos_iff.1 hl0
 have c1 : w.drew.cell? ⟨b, 1, none⟩ = some (.slice (some ⟨g, 0, none⟩) l.length cap) := by
  have : w.drew.heap[b]? = some (.cells #[p, .slice (some ⟨g, 0, none⟩) l.length cap] 101 (0, 0)) := hbk;rw [Lib.cell_of_heap this]; rfl
 have hSD : (Builtin.unsafeSliceData_ #[56] 139 #[.slice (some ⟨g, 0, none⟩) l.length cap]).run Tryz.prog w.drew = .ok (.pointer (some ⟨g, 0, none⟩)) w.drew :=
  Lib.run_unsafeSliceData_row _ _ _ _ _ _ (by omega)
 have hUS : (Builtin.unsafeString_ #[139, 3] 9 #[.pointer (some ⟨g, 0, none⟩), .int .i64 l.length]).run Tryz.prog w.drew = .ok (.string ⟨l.toArray⟩) (w.drew.freeze ⟨g, 0, none⟩ l.length) := by
  refine Lib.run_unsafeString_row w.drew 139 3 9 5 Tryz.underlying139 byte_cells g cur.size (by have hg' : w.drew.heap[g]? = some (.cells cur 5 (0, 0)) := hg; simp [World.shape?, hg']) l hne (by omega) (by unfold maxLen at hcm; omega) ?_
  intro j x hx
  have h1 : cur.toList[j]? = some (.int .u8 x.toNat) := by
   have h2 : (cur.toList.take l.length)[j]? = some (.int .u8 x.toNat) := by rw [htake]; simp [Lib.byteCells, hx]
   rw [List.getElem?_take] at h2
   split at h2
   ·exact h2
   ·cases h2
  have hj : (⟨g, 0, none⟩ : Addr).add j = ⟨g, j, none⟩ := by unfold Addr.add; split <;> simp_all
  rw [hj];have hg' : w.drew.heap[g]? = some (.cells cur 5 (0, 0)) := hg;rw [Lib.cell_of_heap hg']
  simpa using h1
 go_enter Tryz.func77, Tryz.ntmps77
 go_wp2
 go_region
 all_goals (go_wp2; go_ret; exact ⟨rfl, rfl⟩)
end Go.Proofs.YtdlfkbpddfeenaaGreatDoor.Sk
namespace Go.Proofs.YtdlfkbpddfeenaaGreatDoor.Sk
open Go Go.Shelf
def laysC172_ren : Go.Shelf.Ren := ⟨fun | 172 => 106 | 244 => 135 | 245 => 136 | 247 => 150 | 279 => 151 | 280 => 152 | 281 => 153 | 282 => 154 | 287 => 165 | 316 => 166 | 171 => 75 | 205 => 167 | 321 => 172 | 322 => 173 | 243 => 99 | 246 => 129 | 283 => 142 | 284 => 143 | 285 => 144 | 286 => 145 | 129 => 117 | 317 => 156 | 318 => 157 | 319 => 158 | 320 => 159 | 337 => 168 | 338 => 169 | n => n, fun | 9 => 9 | 3 => 3 | 75 => 103 | 76 => 104 | 4 => 4 | 5 => 5 | 167 => 175 | 37 => 56 | 0 => 0 | 85 => 176 | 2 => 2 | 168 => 178 | 53 => 152 | 175 => 188 | 46 => 121 | 210 => 192 | 127 => 139 | 145 => 204 | 143 => 202 | 21 => 21 | 171 => 167 | 173 => 169 | 212 => 186 | 51 => 59 | 20 => 20 | 213 => 187 | 232 => 205 | 233 => 206 | 80 => 109 | n => n, fun | 15 => 2 | 16 => 3 | 17 => 0 | 18 => 6 | 19 => 7 | n => n⟩
theorem laysC172 : Go.Proofs.LaysC.n172 Tryz.prog laysC172_ren := {
 mixed := by kernel_rfl
 f129 := Tryz.func117.trans (congrArg some (by kernel_rfl))
 f171 := Tryz.func75.trans (congrArg some (by kernel_rfl))
 f172 := Tryz.func106.trans (congrArg some (by kernel_rfl))
 f205 := Tryz.func167.trans (congrArg some (by kernel_rfl))
 f243 := Tryz.func99.trans (congrArg some (by kernel_rfl))
 f244 := Tryz.func135.trans (congrArg some (by kernel_rfl))
 f245 := Tryz.func136.trans (congrArg some (by kernel_rfl))
 f246 := Tryz.func129.trans (congrArg some (by kernel_rfl))
 f247 := Tryz.func150.trans (congrArg some (by kernel_rfl))
 f279 := Tryz.func151.trans (congrArg some (by kernel_rfl))
 f280 := Tryz.func152.trans (congrArg some (by kernel_rfl))
 f281 := Tryz.func153.trans (congrArg some (by kernel_rfl))
 f282 := Tryz.func154.trans (congrArg some (by kernel_rfl))
 f283 := Tryz.func142.trans (congrArg some (by kernel_rfl))
 f284 := Tryz.func143.trans (congrArg some (by kernel_rfl))
 f285 := Tryz.func144.trans (congrArg some (by kernel_rfl))
 f286 := Tryz.func145.trans (congrArg some (by kernel_rfl))
 f287 := Tryz.func165.trans (congrArg some (by kernel_rfl))
 f316 := Tryz.func166.trans (congrArg some (by kernel_rfl))
 f317 := Tryz.func156.trans (congrArg some (by kernel_rfl))
 f318 := Tryz.func157.trans (congrArg some (by kernel_rfl))
 f319 := Tryz.func158.trans (congrArg some (by kernel_rfl))
 f320 := Tryz.func159.trans (congrArg some (by kernel_rfl))
 f321 := Tryz.func172.trans (congrArg some (by kernel_rfl))
 f322 := Tryz.func173.trans (congrArg some (by kernel_rfl))
 f337 := Tryz.func168.trans (congrArg some (by kernel_rfl))
 f338 := Tryz.func169.trans (congrArg some (by kernel_rfl))
 t0 := Tryz.underlying0
 a0 := Tryz.isAgg0
 z0 := Tryz.sizeOf0
 v0 := Tryz.zeroValue0
 t2 := Tryz.underlying2
 a2 := Tryz.isAgg2
 z2 := Tryz.sizeOf2
 v2 := Tryz.zeroValue2
 t3 := Tryz.underlying3
 a3 := Tryz.isAgg3
 z3 := Tryz.sizeOf3
 v3 := Tryz.zeroValue3
 t4 := Tryz.underlying4
 a4 := Tryz.isAgg4
 z4 := Tryz.sizeOf4
 v4 := Tryz.zeroValue4
 t5 := Tryz.underlying5
 a5 := Tryz.isAgg5
 z5 := Tryz.sizeOf5
 v5 := Tryz.zeroValue5
 t9 := Tryz.underlying9
 a9 := Tryz.isAgg9
 z9 := Tryz.sizeOf9
 v9 := Tryz.zeroValue9
 t20 := Tryz.underlying20
 a20 := Tryz.isAgg20
 z20 := Tryz.sizeOf20
 v20 := Tryz.zeroValue20
 t21 := Tryz.underlying21
 a21 := Tryz.isAgg21
 z21 := Tryz.sizeOf21
 v21 := Tryz.zeroValue21
 t37 := Tryz.underlying56
 a37 := Tryz.isAgg56
 z37 := Tryz.sizeOf56
 v37 := Tryz.zeroValue56
 t46 := Tryz.underlying121
 a46 := Tryz.isAgg121
 z46 := Tryz.sizeOf121
 v46 := Tryz.zeroValue121
 t51 := Tryz.underlying59
 a51 := Tryz.isAgg59
 z51 := Tryz.sizeOf59
 v51 := Tryz.zeroValue59
 t53 := Tryz.underlying152
 a53 := Tryz.isAgg152
 z53 := Tryz.sizeOf152
 v53 := Tryz.zeroValue152
 t75 := Tryz.underlying103
 a75 := Tryz.isAgg103
 z75 := Tryz.sizeOf103
 v75 := Tryz.zeroValue103
 t76 := Tryz.underlying104
 a76 := Tryz.isAgg104
 z76 := Tryz.sizeOf104
 v76 := Tryz.zeroValue104
 t85 := Tryz.underlying176
 a85 := Tryz.isAgg176
 z85 := Tryz.sizeOf176
 v85 := Tryz.zeroValue176
 t127 := Tryz.underlying139
 a127 := Tryz.isAgg139
 z127 := Tryz.sizeOf139
 v127 := Tryz.zeroValue139
 t143 := Tryz.underlying202
 a143 := Tryz.isAgg202
 z143 := Tryz.sizeOf202
 v143 := Tryz.zeroValue202
 t145 := Tryz.underlying204
 a145 := Tryz.isAgg204
 z145 := Tryz.sizeOf204
 v145 := Tryz.zeroValue204
 t167 := Tryz.underlying175
 a167 := Tryz.isAgg175
 z167 := Tryz.sizeOf175
 v167 := Tryz.zeroValue175
 t168 := Tryz.underlying178
 a168 := Tryz.isAgg178
 z168 := Tryz.sizeOf178
 v168 := Tryz.zeroValue178
 t171 := Tryz.underlying167
 a171 := Tryz.isAgg167
 z171 := Tryz.sizeOf167
 v171 := Tryz.zeroValue167
 t173 := Tryz.underlying169
 a173 := Tryz.isAgg169
 z173 := Tryz.sizeOf169
 v173 := Tryz.zeroValue169
 t175 := Tryz.underlying188
 a175 := Tryz.isAgg188
 z175 := Tryz.sizeOf188
 v175 := Tryz.zeroValue188
 t210 := Tryz.underlying192
 a210 := Tryz.isAgg192
 z210 := Tryz.sizeOf192
 v210 := Tryz.zeroValue192
 t212 := Tryz.underlying186
 a212 := Tryz.isAgg186
 z212 := Tryz.sizeOf186
 v212 := Tryz.zeroValue186
 t213 := Tryz.underlying187
 a213 := Tryz.isAgg187
 z213 := Tryz.sizeOf187
 t232 := Tryz.underlying205
 a232 := Tryz.isAgg205
 z232 := Tryz.sizeOf205
 v232 := Tryz.zeroValue205
 t233 := Tryz.underlying206
 a233 := Tryz.isAgg206
 z233 := Tryz.sizeOf206
 v233 := Tryz.zeroValue206
 g15 := by kernel_rfl
 g16 := by kernel_rfl
 g17 := by kernel_rfl
 g18 := by kernel_rfl
 g19 := by kernel_rfl
 t80 := Tryz.underlying109
 a80 := Tryz.isAgg109
 z80 := Tryz.sizeOf109
 v80 := Tryz.zeroValue109
 i0 := by kernel_rfl
 i2 := by kernel_rfl
 i3 := by kernel_rfl
 i4 := by kernel_rfl
 i5 := by kernel_rfl
 i9 := by kernel_rfl
 i20 := by kernel_rfl
 i21 := by kernel_rfl
 i37 := by kernel_rfl
 i46 := by kernel_rfl
 i51 := by kernel_rfl
 i53 := by kernel_rfl
 i75 := by kernel_rfl
 i76 := by kernel_rfl
 i80 := by kernel_rfl
 i85 := by kernel_rfl
 i127 := by kernel_rfl
 i143 := by kernel_rfl
 i145 := by kernel_rfl
 i167 := by kernel_rfl
 i168 := by kernel_rfl
 i171 := by kernel_rfl
 i173 := by kernel_rfl
 i175 := by kernel_rfl
 i210 := by kernel_rfl
 i212 := by kernel_rfl
 i232 := by kernel_rfl
 i233 := by kernel_rfl
 m15 := by kernel_rfl
 m16 := by kernel_rfl
 m17 := by kernel_rfl
 m18 := by kernel_rfl
 m19 := by kernel_rfl
 c0 := by kernel_rfl
 c2 := by kernel_rfl
 c3 := by kernel_rfl
 c4 := by kernel_rfl
 c5 := by kernel_rfl
 c9 := by kernel_rfl
 c20 := by kernel_rfl
 c21 := by kernel_rfl
 c37 := by kernel_rfl
 c46 := by kernel_rfl
 c51 := by kernel_rfl
 c53 := by kernel_rfl
 c75 := by kernel_rfl
 c76 := by kernel_rfl
 c80 := by kernel_rfl
 c85 := by kernel_rfl
 c127 := by kernel_rfl
 c143 := by kernel_rfl
 c145 := by kernel_rfl
 c167 := by kernel_rfl
 c168 := by kernel_rfl
 c171 := by kernel_rfl
 c173 := by kernel_rfl
 c175 := by kernel_rfl
 c210 := by kernel_rfl
 c212 := by kernel_rfl
 c213 := by kernel_rfl
 c232 := by kernel_rfl
 c233 := by kernel_rfl }
def laysM171_ren : Go.Shelf.Ren := ⟨fun | 171 => 75 | 243 => 99 | 246 => 129 | 283 => 142 | 284 => 143 | 285 => 144 | 286 => 145 | 129 => 117 | 317 => 156 | 318 => 157 | 319 => 158 | 320 => 159 | 337 => 168 | 338 => 169 | n => n, fun | 3 => 3 | 9 => 9 | 2 => 2 | 4 => 4 | 171 => 167 | 0 => 0 | 53 => 152 | 37 => 56 | 5 => 5 | 173 => 169 | 212 => 186 | 51 => 59 | 20 => 20 | 213 => 187 | 46 => 121 | 232 => 205 | 233 => 206 | n => n, fun | 17 => 0 | 18 => 6 | 19 => 7 | n => n⟩
theorem laysM171 : Go.Proofs.LaysM.n171 Tryz.prog laysM171_ren := {
 mixed := by kernel_rfl
 f129 := Tryz.func117.trans (congrArg some (by kernel_rfl))
 f171 := Tryz.func75.trans (congrArg some (by kernel_rfl))
 f243 := Tryz.func99.trans (congrArg some (by kernel_rfl))
 f246 := Tryz.func129.trans (congrArg some (by kernel_rfl))
 f283 := Tryz.func142.trans (congrArg some (by kernel_rfl))
 f284 := Tryz.func143.trans (congrArg some (by kernel_rfl))
 f285 := Tryz.func144.trans (congrArg some (by kernel_rfl))
 f286 := Tryz.func145.trans (congrArg some (by kernel_rfl))
 f317 := Tryz.func156.trans (congrArg some (by kernel_rfl))
 f318 := Tryz.func157.trans (congrArg some (by kernel_rfl))
 f319 := Tryz.func158.trans (congrArg some (by kernel_rfl))
 f320 := Tryz.func159.trans (congrArg some (by kernel_rfl))
 f337 := Tryz.func168.trans (congrArg some (by kernel_rfl))
 f338 := Tryz.func169.trans (congrArg some (by kernel_rfl))
 t0 := Tryz.underlying0
 a0 := Tryz.isAgg0
 z0 := Tryz.sizeOf0
 v0 := Tryz.zeroValue0
 t2 := Tryz.underlying2
 a2 := Tryz.isAgg2
 z2 := Tryz.sizeOf2
 v2 := Tryz.zeroValue2
 t3 := Tryz.underlying3
 a3 := Tryz.isAgg3
 z3 := Tryz.sizeOf3
 v3 := Tryz.zeroValue3
 t4 := Tryz.underlying4
 a4 := Tryz.isAgg4
 z4 := Tryz.sizeOf4
 v4 := Tryz.zeroValue4
 t5 := Tryz.underlying5
 a5 := Tryz.isAgg5
 z5 := Tryz.sizeOf5
 v5 := Tryz.zeroValue5
 t9 := Tryz.underlying9
 a9 := Tryz.isAgg9
 z9 := Tryz.sizeOf9
 v9 := Tryz.zeroValue9
 t20 := Tryz.underlying20
 a20 := Tryz.isAgg20
 z20 := Tryz.sizeOf20
 v20 := Tryz.zeroValue20
 t37 := Tryz.underlying56
 a37 := Tryz.isAgg56
 z37 := Tryz.sizeOf56
 v37 := Tryz.zeroValue56
 t46 := Tryz.underlying121
 a46 := Tryz.isAgg121
 z46 := Tryz.sizeOf121
 v46 := Tryz.zeroValue121
 t51 := Tryz.underlying59
 a51 := Tryz.isAgg59
 z51 := Tryz.sizeOf59
 v51 := Tryz.zeroValue59
 t53 := Tryz.underlying152
 a53 := Tryz.isAgg152
 z53 := Tryz.sizeOf152
 v53 := Tryz.zeroValue152
 t171 := Tryz.underlying167
 a171 := Tryz.isAgg167
 z171 := Tryz.sizeOf167
 v171 := Tryz.zeroValue167
 t173 := Tryz.underlying169
 a173 := Tryz.isAgg169
 z173 := Tryz.sizeOf169
 v173 := Tryz.zeroValue169
 t212 := Tryz.underlying186
 a212 := Tryz.isAgg186
 z212 := Tryz.sizeOf186
 v212 := Tryz.zeroValue186
 t213 := Tryz.underlying187
 a213 := Tryz.isAgg187
 z213 := Tryz.sizeOf187
 t232 := Tryz.underlying205
 a232 := Tryz.isAgg205
 z232 := Tryz.sizeOf205
 v232 := Tryz.zeroValue205
 t233 := Tryz.underlying206
 a233 := Tryz.isAgg206
 z233 := Tryz.sizeOf206
 v233 := Tryz.zeroValue206
 g17 := by kernel_rfl
 g18 := by kernel_rfl
 g19 := by kernel_rfl
 i0 := by kernel_rfl
 i2 := by kernel_rfl
 i3 := by kernel_rfl
 i4 := by kernel_rfl
 i5 := by kernel_rfl
 i9 := by kernel_rfl
 i20 := by kernel_rfl
 i37 := by kernel_rfl
 i46 := by kernel_rfl
 i51 := by kernel_rfl
 i53 := by kernel_rfl
 i171 := by kernel_rfl
 i173 := by kernel_rfl
 i212 := by kernel_rfl
 i232 := by kernel_rfl
 i233 := by kernel_rfl
 m17 := by kernel_rfl
 m18 := by kernel_rfl
 m19 := by kernel_rfl }
def lays146_ren : Go.Shelf.Ren := ⟨fun | 146 => 80 | 221 => 103 | 268 => 131 | 138 => 132 | 143 => 133 | 195 => 146 | 197 => 147 | 218 => 148 | 219 => 149 | 260 => 160 | 217 => 161 | 225 => 162 | 224 => 163 | 267 => 164 | 266 => 170 | 314 => 171 | n => n, fun | 9 => 9 | 31 => 107 | 3 => 3 | 4 => 4 | 0 => 0 | 105 => 172 | 21 => 21 | 5 => 5 | 46 => 121 | 119 => 194 | 139 => 197 | 138 => 196 | 146 => 198 | 51 => 59 | n => n, fun | 1 => 1 | 3 => 4 | 4 => 5 | n => n⟩
theorem lays146 : Go.Proofs.Lays.n146 Tryz.prog lays146_ren := {
 mixed := by kernel_rfl
 f138 := Tryz.func132.trans (congrArg some (by kernel_rfl))
 f143 := Tryz.func133.trans (congrArg some (by kernel_rfl))
 f146 := Tryz.func80.trans (congrArg some (by kernel_rfl))
 f195 := Tryz.func146.trans (congrArg some (by kernel_rfl))
 f197 := Tryz.func147.trans (congrArg some (by kernel_rfl))
 f217 := Tryz.func161.trans (congrArg some (by kernel_rfl))
 f218 := Tryz.func148.trans (congrArg some (by kernel_rfl))
 f219 := Tryz.func149.trans (congrArg some (by kernel_rfl))
 f221 := Tryz.func103.trans (congrArg some (by kernel_rfl))
 f224 := Tryz.func163.trans (congrArg some (by kernel_rfl))
 f225 := Tryz.func162.trans (congrArg some (by kernel_rfl))
 f260 := Tryz.func160.trans (congrArg some (by kernel_rfl))
 f266 := Tryz.func170.trans (congrArg some (by kernel_rfl))
 f267 := Tryz.func164.trans (congrArg some (by kernel_rfl))
 f268 := Tryz.func131.trans (congrArg some (by kernel_rfl))
 f314 := Tryz.func171.trans (congrArg some (by kernel_rfl))
 t0 := Tryz.underlying0
 a0 := Tryz.isAgg0
 z0 := Tryz.sizeOf0
 v0 := Tryz.zeroValue0
 t3 := Tryz.underlying3
 a3 := Tryz.isAgg3
 z3 := Tryz.sizeOf3
 v3 := Tryz.zeroValue3
 t4 := Tryz.underlying4
 a4 := Tryz.isAgg4
 z4 := Tryz.sizeOf4
 v4 := Tryz.zeroValue4
 t5 := Tryz.underlying5
 a5 := Tryz.isAgg5
 z5 := Tryz.sizeOf5
 v5 := Tryz.zeroValue5
 t9 := Tryz.underlying9
 a9 := Tryz.isAgg9
 z9 := Tryz.sizeOf9
 v9 := Tryz.zeroValue9
 t21 := Tryz.underlying21
 a21 := Tryz.isAgg21
 z21 := Tryz.sizeOf21
 v21 := Tryz.zeroValue21
 t31 := Tryz.underlying107
 a31 := Tryz.isAgg107
 z31 := Tryz.sizeOf107
 v31 := Tryz.zeroValue107
 t46 := Tryz.underlying121
 a46 := Tryz.isAgg121
 z46 := Tryz.sizeOf121
 v46 := Tryz.zeroValue121
 t51 := Tryz.underlying59
 a51 := Tryz.isAgg59
 z51 := Tryz.sizeOf59
 v51 := Tryz.zeroValue59
 t105 := Tryz.underlying172
 a105 := Tryz.isAgg172
 z105 := Tryz.sizeOf172
 v105 := Tryz.zeroValue172
 t119 := Tryz.underlying194
 a119 := Tryz.isAgg194
 z119 := Tryz.sizeOf194
 t138 := Tryz.underlying196
 a138 := Tryz.isAgg196
 z138 := Tryz.sizeOf196
 v138 := Tryz.zeroValue196
 t139 := Tryz.underlying197
 a139 := Tryz.isAgg197
 z139 := Tryz.sizeOf197
 v139 := Tryz.zeroValue197
 t146 := Tryz.underlying198
 a146 := Tryz.isAgg198
 z146 := Tryz.sizeOf198
 v146 := Tryz.zeroValue198
 g1 := by kernel_rfl
 g3 := by kernel_rfl
 g4 := by kernel_rfl }
end Go.Proofs.YtdlfkbpddfeenaaGreatDoor.Sk
namespace Go.Proofs.YtdlfkbpddfeenaaGreatDoor.Sk
open Go Go.E Go.RowKit Go.Sort
set_option maxRecDepth 100000
def bL (l : List UInt8) : ByteArray := ⟨l.toArray⟩
theorem vrel_str {M : Mem} {s : ByteArray} : VRel M (.str s) (.string s) := vrel_of_one (by simp [CRel]) rfl
theorem vrel_int {M : Mem} {k : IntKind} {n : Int} : VRel M (.int k n) (.int k n) := vrel_of_one (by simp [CRel]) rfl
theorem vrel_bool {M : Mem} {b : Bool} : VRel M (.bool b) (.bool b) := vrel_of_one (by simp [CRel]) rfl
theorem vrel_str_inv {M : Mem} {s : ByteArray} {x : Value} (h : VRel M (.str s) x) : x = .string s := by
 have h1 := h.one rfl; simpa [CRel] using h1
theorem vrel_int_inv {M : Mem} {k : IntKind} {n : Int} {x : Value} (h : VRel M (.int k n) x) : x = .int k n := by
 have h1 := h.one rfl; simpa [CRel] using h1
theorem grow_touch' (w : World) (k : Nat) (os : Array Obj) : E.Touch [] w (grow (w.drewN k) os) :=
 ⟨rfl, rfl, rfl, by simp [grow, World.drewN], fun b hb _ => by simp only [grow, World.drewN]; rw [Array.getElem?_append_left hb]⟩
theorem below_touch {w w' : World} (h : Below w.heap.size w w') : E.Touch [] w w' := ⟨h.os, h.tape, h.output, h.size, fun k hk _ => h.block k hk⟩
theorem pw_name : Tryz.prog.globalNamed "internal/strconv.uint64pow10" = some 0 := by kernel_rfl
theorem tab_pow {M : Mem} {w : World} (h : GW M w) : Lib.TabIs Tryz.prog w "internal/strconv.uint64pow10" .u64 Lib.pow10Tab := by
 obtain ⟨⟨o, ⟨T, fz, rfl⟩, ho⟩, -⟩ := h 0 rfl;unfold Lib.TabIs World.var?;rw [pw_name, Option.bind_some, ho];simp only [pw10, Lib.pow10Tab]
theorem k75 {n : Int} (h0 : 0 <= n) (h1 : n <= 9223372036854775807) : E.Fn Tryz.prog 75 [.int .i64 n] [.str (bL (Lib.decDigits n.toNat))] := by
 intro M w vs hM hv;obtain ⟨y, ys, rfl, hy, hys⟩ := hv;simp only [VRelL] at hys;subst hys;rw [vrel_int_inv hy];refine (Any.strconv_Itoa laysM171 n (by omega) h1 w (tab_pow hM.2.2)).mono fun e w' ⟨he, k, os, hw⟩ => ?_
 subst hw;have ht := grow_touch' w k os;refine ⟨[.string (bL (Lib.decDigits n.toNat))], M, ?_, M.le_refl, hM.grow ht, ⟨_, _, rfl, vrel_str, rfl⟩, ht, Newer.refl _ _ _⟩;rw [he, Lib.itoa, if_neg (by omega)]
 rfl
def spl (s sep : ByteArray) : List ByteArray := Lib.splitB sep 0 (Lib.countB s sep) s
theorem spl_len {s sep : ByteArray} (h1 : 1 <= sep.size) : (spl s sep).length = Lib.countB s sep + 1 := Lib.splitB_all sep h1 0 _ s rfl
theorem crelC_strs {M : Mem} : ∀ (l : List ByteArray), CRelC M (l.map SV.str) (l.map fun s => [Value.string s])
 | [] => by simp [CRelC]
 | s :: l => by
  simp only [List.map_cons];exact crelC_cons (by simp [CRel]) (crelC_strs l)
theorem k80 {s sep : ByteArray} (hs : s.size < 4294967281) (h1 : 1 <= sep.size) : E.Fn Tryz.prog 80 [.str s, .str sep] [.slice ((spl s sep).map SV.str)] := by
 intro M w vs hM hv;obtain ⟨y, ys, rfl, hy, y2, ys2, rfl, hy2, hys⟩ := hv;simp only [VRelL] at hys;subst hys;rw [vrel_str_inv hy, vrel_str_inv hy2];obtain ⟨⟨o, ⟨m, T, fz, rfl⟩, ho⟩, -⟩ := hM.2.2 1 rfl;have hm : w.cell? ⟨1, 0, none⟩ = some (.int .i64 m) := by simp [World.cell?, ho]
 refine (Any.strings_Split lays146 (by kernel_rfl) s sep m w hs hm h1).mono fun e w' ⟨he, hw⟩ => ?_
 subst hw;have hlen := spl_len (s := s) h1;obtain ⟨b1, b2, b3, b4⟩ := Mem.lay_spec hM ((spl s sep).map Value.string).toArray (lays146_ren.t 9);refine ⟨[.slice (some ⟨w.heap.size, 0, none⟩) (Lib.countB s sep + 1) (Lib.countB s sep + 1)], _, he, b1, b3, ⟨_, _, rfl, vrel_of_one ?_ rfl, rfl⟩, touch_alloc w _, b2⟩;simp only [CRel];refine ⟨_, _, _, rfl, by rw [List.length_map, hlen], Nat.le_refl _, ?_, .inr ⟨w.heap.size, 0, 1, (spl s sep).map fun s => [Value.string s], rfl, crelC_strs _, by simp, ?_⟩⟩
 ·have := Lib.countB_le sep h1 s.size s (Nat.le_refl _)
  unfold maxLen; omega
 ·have e : ((spl s sep).map fun s => [Value.string s]).flatten = (spl s sep).map Value.string := by
   rw [<- List.flatMap_def]; induction spl s sep <;> simp_all
  rw [e]
  simpa using b4
def hasSuf (s p : ByteArray) : Bool := decide (p.size <= s.size) && ((s.extract (s.size - p.size) s.size).toList == p.toList)
def hasPre (s p : ByteArray) : Bool := decide (p.size <= s.size) && ((s.extract 0 p.size).toList == p.toList)
theorem w130 (s p : ByteArray) (w : World) (hs : s.size <= 9223372036854775807) :
  Calls Tryz.prog 130 #[.string s, .string p] w fun e w' => e = .returned (.bool (hasSuf s p)) /\ w' = w := by
 have hlo : p.size <= s.size -> ((s.size : Int) - (p.size : Int) + 9223372036854775808) % 18446744073709551616 - 9223372036854775808 = ((s.size - p.size : Nat) : Int) := fun _ => by omega
 go_enter Tryz.func130, Tryz.ntmps130
 go_wp2
 ·have h : p.size <= s.size := by assumption
  go_ret
  exact ⟨by simp [hasSuf, h], rfl⟩
 ·have h : ¬ p.size <= s.size := by assumption
  go_ret
  exact ⟨by simp [hasSuf, h], rfl⟩
theorem w134 (s p : ByteArray) (w : World) :
  Calls Tryz.prog 134 #[.string s, .string p] w fun e w' => e = .returned (.bool (hasPre s p)) /\ w' = w := by
 go_enter Tryz.func134, Tryz.ntmps134
 go_wp2
 ·have h : p.size <= s.size := by assumption
  go_ret
  exact ⟨by simp [hasPre, h], rfl⟩
 ·have h : ¬ p.size <= s.size := by assumption
  go_ret
  exact ⟨by simp [hasPre, h], rfl⟩
def cutSuf (s p : ByteArray) : ByteArray := if hasSuf s p = true then s.extract 0 (s.size - p.size) else s
def cutPre (s p : ByteArray) : ByteArray := if hasPre s p = true then s.extract p.size s.size else s
theorem w102 (s p : ByteArray) (w : World) (hs : s.size <= 9223372036854775807) :
  Calls Tryz.prog 102 #[.string s, .string p] w fun e w' => e = .returned (.tuple #[.string (cutSuf s p), .bool (hasSuf s p)]) /\ w' = w := by
 have hlo : p.size <= s.size -> ((s.size : Int) - (p.size : Int) + 9223372036854775808) % 18446744073709551616 - 9223372036854775808 = ((s.size - p.size : Nat) : Int) := fun _ => by omega
 cases hh : hasSuf s p
 ·go_enter Tryz.func102, Tryz.ntmps102
  go_wp2_with (go_at_call 130; refine (w130 s p _ hs).mono ?_; rintro e w' ⟨rfl, hw⟩; rw [hw, hh])
  go_ret2
  exact ⟨by simp [cutSuf, hh], rfl⟩
 ·have h : p.size <= s.size := by simp [hasSuf] at hh; exact hh.1
  go_enter Tryz.func102, Tryz.ntmps102
  go_wp2_with (go_at_call 130; refine (w130 s p _ hs).mono ?_; rintro e w' ⟨rfl, hw⟩; rw [hw, hh])
  go_ret2
  exact ⟨by simp [cutSuf, hh], rfl⟩
theorem w105 (s p : ByteArray) (w : World) :
  Calls Tryz.prog 105 #[.string s, .string p] w fun e w' => e = .returned (.tuple #[.string (cutPre s p), .bool (hasPre s p)]) /\ w' = w := by
 cases hh : hasPre s p
 ·go_enter Tryz.func105, Tryz.ntmps105
  go_wp2_with (go_at_call 134; refine (w134 s p _).mono ?_; rintro e w' ⟨rfl, hw⟩; rw [hw, hh])
  go_ret2
  exact ⟨by simp [cutPre, hh], rfl⟩
 ·have h : p.size <= s.size := by simp [hasPre] at hh; exact hh.1
  go_enter Tryz.func105, Tryz.ntmps105
  go_wp2_with (go_at_call 134; refine (w134 s p _).mono ?_; rintro e w' ⟨rfl, hw⟩; rw [hw, hh])
  go_ret2
  exact ⟨by simp [cutPre, hh], rfl⟩
theorem w79 (s p : ByteArray) (w : World) (hs : s.size <= 9223372036854775807) :
  Calls Tryz.prog 79 #[.string s, .string p] w fun e w' => e = .returned (.tuple #[.string (cutSuf s p), .bool (hasSuf s p)]) /\ w' = w := by
 go_enter Tryz.func79, Tryz.ntmps79
 go_wp2_with (go_at_call 102; refine (w102 s p _ hs).mono ?_; rintro e w' ⟨rfl, hw⟩; rw [hw])
 go_ret2
 exact ⟨rfl, rfl⟩
theorem w82 (s p : ByteArray) (w : World) :
  Calls Tryz.prog 82 #[.string s, .string p] w fun e w' => e = .returned (.tuple #[.string (cutPre s p), .bool (hasPre s p)]) /\ w' = w := by
 go_enter Tryz.func82, Tryz.ntmps82
 go_wp2_with (go_at_call 105; refine (w105 s p _).mono ?_; rintro e w' ⟨rfl, hw⟩; rw [hw])
 go_ret2
 exact ⟨rfl, rfl⟩
theorem fn_same {f : FuncId} {s p r : ByteArray} {b : Bool} (h : ∀ w, Calls Tryz.prog f #[.string s, .string p] w fun e w' => e = .returned (.tuple #[.string r, .bool b]) /\ w' = w) : E.Fn Tryz.prog f [.str s, .str p] [.str r, .bool b] := by
 intro M w vs hM hv;obtain ⟨y, ys, rfl, hy, y2, ys2, rfl, hy2, hys⟩ := hv;simp only [VRelL] at hys;subst hys;rw [vrel_str_inv hy, vrel_str_inv hy2];refine (h w).mono fun e w' ⟨he, hw⟩ => ?_
 subst hw;exact ⟨[.string r, .bool b], M, he, M.le_refl, hM, ⟨_, _, rfl, vrel_str, _, _, rfl, vrel_bool, rfl⟩, E.Touch.refl _ _, Newer.refl _ _ _⟩
theorem k79 {s p : ByteArray} (hs : s.size <= 9223372036854775807) : E.Fn Tryz.prog 79 [.str s, .str p] [.str (cutSuf s p), .bool (hasSuf s p)] := fn_same fun w => w79 s p w hs
theorem k82 {s p : ByteArray} : E.Fn Tryz.prog 82 [.str s, .str p] [.str (cutPre s p), .bool (hasPre s p)] := fn_same fun w => w82 s p w
def nuV (s : ByteArray) : Int := match Lib.atoiAll s.data.toList with | .ok v => v | .range => Lib.atoiSat s.data.toList | _ => 0
def nuB (s : ByteArray) : Bool := match Lib.atoiAll s.data.toList with | .ok v => decide (s.size <= 9) && decide (0 <= v) && (Lib.itoa v == s.toList) | _ => false
theorem touch_itoa {M : Mem} {w w' : World} (hM : E.Holds M w) (h : E.Touch [] w w') : Lib.TabIs Tryz.prog w' "internal/strconv.uint64pow10" .u64 Lib.pow10Tab := tab_pow (hM.grow h).2.2
theorem w83 {M : Mem} {s : ByteArray} {w : World} (hM : E.Holds M w) (hs : s.size <= 281474976710656) :
  Calls Tryz.prog 83 #[.string s] w fun e w' => e = .returned (.tuple #[.int .i64 (nuV s), .bool (nuB s)]) /\ E.Touch [] w w' := by
 cases h : Lib.atoiAll s.data.toList
 ·rename_i v
  obtain ⟨b0, b1⟩ := Lib.atoiAll_bounds h;have hc := Any.strconv_Atoi_ok laysC172 s (by omega) v h w
  have e1 : nuV s = v := by simp [nuV, h]
  have e2 : nuB s = (decide (s.size <= 9) && decide (0 <= v) && (Lib.itoa v == s.toList)) := by simp [nuB, h]
  rw [e1, e2]
  go_enter Tryz.func83, Tryz.ntmps83
  go_wp2_with (go_at_call 106; refine hc.mono ?_)
  rintro e w1 ⟨rfl, hw1⟩
  have ht1 : E.Touch [] w w1 := by
   rcases hw1 with rfl | ⟨t, rfl⟩
   ·exact E.Touch.refl _ _
   ·exact below_touch (Lib.bytesWorld_below _ _ _)
  clear hw1
  go_wp2_with (go_at_call 75; refine (Any.strconv_Itoa laysM171 v (by omega) (by omega) _ (touch_itoa hM ht1)).mono ?_; rintro e w2 ⟨rfl, k, os, hw2⟩; rw [hw2])
  ·have ha : (s.size : Int) <= 9 := by assumption
   have hb : 0 <= v := by assumption
   go_ret2
   refine ⟨?_, ht1.trans (grow_touch' _ _ _)⟩;rw [decide_eq_true (show s.size <= 9 by omega), decide_eq_true hb]
   rfl
  ·have hb : v < 0 := by assumption
   go_ret2
   refine ⟨?_, ht1⟩;rw [decide_eq_false (show ¬ 0 <= v by omega)]
   simp
  ·have ha : 9 < (s.size : Int) := by assumption
   go_ret2
   refine ⟨?_, ht1⟩;rw [decide_eq_false (show ¬ s.size <= 9 by omega)]
   simp
 ·obtain ⟨⟨o, ⟨ev, T, fz, rfl, hev⟩, ho⟩, -⟩ := hM.2.2 2 rfl
  have hv : w.cell? ⟨2, 0, none⟩ = some ev := by simp [World.cell?, ho]
  have hc := Any.strconv_Atoi_syntax laysC172 s hs h ev w hv hev;have e1 : nuV s = 0 := by simp [nuV, h]
  have e2 : nuB s = false := by simp [nuB, h]
  rw [e1, e2]
  go_enter Tryz.func83, Tryz.ntmps83
  go_wp2_with (go_at_call 106; refine hc.mono ?_)
  rintro e w' ⟨N, rfl, hN, _, hb⟩
  go_wp2
  go_ret2
  exact ⟨rfl, below_touch hb⟩
 ·obtain ⟨⟨o, ⟨ev, T, fz, rfl, hev⟩, ho⟩, -⟩ := hM.2.2 3 rfl
  have hv : w.cell? ⟨3, 0, none⟩ = some ev := by simp [World.cell?, ho]
  have hc := Any.strconv_Atoi_range laysC172 s hs h ev w hv hev;have e1 : nuV s = Lib.atoiSat s.data.toList := by simp [nuV, h]
  have e2 : nuB s = false := by simp [nuB, h]
  rw [e1, e2]
  go_enter Tryz.func83, Tryz.ntmps83
  go_wp2_with (go_at_call 106; refine hc.mono ?_)
  rintro e w' ⟨N, rfl, hN, _, hb⟩
  go_wp2
  go_ret2
  exact ⟨rfl, below_touch hb⟩
theorem k83 {s : ByteArray} (hs : s.size <= 281474976710656) : E.Fn Tryz.prog 83 [.str s] [.int .i64 (nuV s), .bool (nuB s)] := by
 intro M w vs hM hv;obtain ⟨y, ys, rfl, hy, hys⟩ := hv;simp only [VRelL] at hys;subst hys;rw [vrel_str_inv hy];refine (w83 hM hs).mono fun e w' ⟨he, ht⟩ => ?_
 exact ⟨[.int .i64 (nuV s), .bool (nuB s)], M, he, M.le_refl, hM.grow ht, ⟨_, _, rfl, vrel_int, _, _, rfl, vrel_bool, rfl⟩, ht, Newer.refl _ _ _⟩
end Go.Proofs.YtdlfkbpddfeenaaGreatDoor.Sk
