/- The code of a law in the value semantics. -/
import Derived.Test.YtmcjoahnlbckoaaJ11

set_option linter.all false

namespace Go.Proofs.Ytmcjoahnlbckoaa.Sk
open Go Go.E
def c13r0 : List AOper := [
 oP 3 (.boxS (.t 0)),
 oP 4 (.boxS (.t 1)),
 oP 6 (.mov bF)]
def c13r1 : List AOper := [
 oP 28 (.load 2 true (.t 3)),
 oP 29 (.call 45 [(.t 28)]),
 oP 30 (.not (.t 29)),
 oM 31 30,
 oG 32 31 false (.load 2 true (.t 4)),
 oG 33 31 false (.call 45 [(.t 32)]),
 oG 34 31 false (.not (.t 33)),
 oP 35 (.pick (.t 31) bT (.t 34)),
 oM 36 35,
 oG 37 36 false (.fieldAddr 0 (.t 3)),
 oG 38 36 false (.load 1 false (.t 37)),
 oG 39 36 false (.len false (.t 38)),
 oG 40 36 false (.fieldAddr 0 (.t 4)),
 oG 41 36 false (.load 1 false (.t 40)),
 oG 42 36 false (.len false (.t 41)),
 oG 43 36 false (.arith .add (.t 39) (.t 42)),
 oG 44 36 false (.cmp .gtr (.t 43) (nI 8)),
 oP 45 (.pick (.t 36) bT (.t 44)),
 oM 46 45,
 oG 47 46 false (.fieldAddr 1 (.t 3)),
 oG 48 46 false (.load 1 false (.t 47)),
 oG 49 46 false (.len false (.t 48)),
 oG 50 46 false (.fieldAddr 1 (.t 4)),
 oG 51 46 false (.load 1 false (.t 50)),
 oG 52 46 false (.len false (.t 51)),
 oG 53 46 false (.arith .add (.t 49) (.t 52)),
 oG 54 46 false (.cmp .gtr (.t 53) (nI 12)),
 oP 55 (.pick (.t 46) bT (.t 54))]
def c13r2 : List AOper := [
 oP 56 (.call 18 []),
 oM 6 56]
def c13r3 : List AOper := [
 oP 57 (.buildSl 2 0 (.agg [(.int .i64 0), (.int .i64 0)]) []),
 oF 58 0 3,
 oL 59 58,
 oP 60 (.appendN 2 16 (.t 57) (.t 59)),
 oP 61 (.buildSl 2 0 (.agg [(.int .i64 0), (.int .i64 0)]) []),
 oF 62 1 3,
 oL 63 62,
 oP 64 (.appendN 2 16 (.t 61) (.t 63)),
 oP 65 (.build [(.full []), (.full [])] [(0, 1, (.t 60)), (1, 1, (.t 64))]),
 oP 7 (.alloc [(.full []), (.full [])]),
 ⟨none, none, .store 2 (.t 7) (.t 65)⟩]
def c13r4 : List AOper := [
 oP 8 (.mov (nI 0))]
def c13r5 : List AOper := [
 oM 66 8,
 oF 67 0 3,
 oL 68 67,
 oN 69 68,
 oP 70 (.cmp .lss (.t 66) (.t 69))]
def c13r6 : List AOper := [
 oF 73 0 3,
 oL 74 73,
 oM 75 8,
 oP 76 (.idxA 2 (.t 74) (.t 75)),
 oF 77 1 76,
 oL 78 77,
 oP 79 (.cmp .gtr (.t 78) (nI 400))]
def c13r7 : List AOper := [
 oP 80 (.call 18 []),
 oM 6 80]
def c13r8 : List AOper := [
 oM 71 8,
 oP 72 (.arith .add (.t 71) (nI 1)),
 oM 8 72]
def c13l9 : ACode := (.seq (.seq (.reg 0 c13r5) (.cond (.t 70) .skip (.exit 0))) (.seq (.block 1 (.seq (.reg 0 c13r6) (.cond (.t 79) (.seq (.reg 0 c13r7) .ret) .skip))) (.reg 0 c13r8)))
def c13l9m : List Bool := [fF,fF,tT,tT,tT,fF,fF,tT,tT,fF,fF,fF,fF,fF,fF,fF,fF,fF,fF,fF,fF,fF,fF,fF,fF,fF,fF,fF,fF,fF,fF,fF,fF,fF,fF,fF,fF,fF,fF,fF,fF,fF,fF,fF,fF,fF,fF,fF,fF,fF,fF,fF,fF,fF,fF,fF,fF,fF,fF,fF,fF,fF,fF,fF,fF,fF,fF,fF,fF,fF,fF,fF,fF,fF,fF,fF,fF,fF,fF,fF,fF,fF,fF,fF,fF,fF,fF,fF,fF,fF,fF,fF,fF,fF,fF,fF,fF,fF,fF,fF,fF,fF,fF,fF,fF,fF,fF,fF,fF,fF,fF,fF,fF,fF,fF,fF,fF,fF,fF,fF,fF,fF,fF,fF,fF,fF,fF,fF,fF,fF,fF,fF,fF,fF,fF,fF,fF,fF,fF,fF,fF,fF,fF,fF,fF,fF,fF,fF,fF,fF,fF,fF,fF,fF,fF,fF,fF,fF,fF,fF,fF,fF,fF,fF,fF,fF,fF,fF,fF,fF,fF,fF,fF,fF,fF,fF,fF,fF,fF,fF,fF,fF,fF,fF,fF,fF,fF,fF,fF,fF,fF,fF,fF,fF,fF,fF,fF,fF,fF,fF,fF,fF,fF,fF,fF,fF,fF,fF,fF,fF,fF,fF,fF,fF,fF,fF,fF,fF,fF,fF]
def c13r10 : List AOper := [
 oF 81 0 3,
 oL 82 81,
 oN 83 82,
 oM 9 83]
def c13r11 : List AOper := [
 oP 10 (.mov (nI 0))]
def c13r12 : List AOper := [
 oM 84 10,
 oF 85 0 4,
 oL 86 85,
 oN 87 86,
 oP 88 (.cmp .lss (.t 84) (.t 87))]
def c13r13 : List AOper := [
 oF 91 0 4,
 oL 92 91,
 oM 93 10,
 oP 94 (.idxA 2 (.t 92) (.t 93)),
 oF 95 1 94,
 oL 96 95,
 oP 97 (.cmp .gtr (.t 96) (nI 400))]
def c13r14 : List AOper := [
 oP 98 (.call 18 []),
 oM 6 98]
def c13r15 : List AOper := [
 oF 99 0 7,
 oL 100 99,
 oF 101 0 4,
 oL 102 101,
 oM 103 10,
 oP 104 (.idxA 2 (.t 102) (.t 103)),
 oF 105 0 104,
 oL 106 105,
 oP 107 (.arith .add (.t 106) (nI 500)),
 oF 108 0 4,
 oL 109 108,
 oM 110 10,
 oP 111 (.idxA 2 (.t 109) (.t 110)),
 oF 112 1 111,
 oL 113 112,
 oP 114 (.arith .add (.t 113) (nI 500)),
 oP 115 (.build [(.s (.int .i64 0)), (.s (.int .i64 0))] [(0, 1, (.t 107)), (1, 1, (.t 114))]),
 oP 116 (.buildSl 2 1 (.agg [(.int .i64 0), (.int .i64 0)]) [(0, (.t 115))]),
 oP 117 (.append 2 16 (.t 100) (.t 116)),
 oF 118 0 7,
 ⟨none, none, .store 1 (.t 118) (.t 117)⟩]
def c13r16 : List AOper := [
 oM 89 10,
 oP 90 (.arith .add (.t 89) (nI 1)),
 oM 10 90]
def c13l17 : ACode := (.seq (.seq (.reg 0 c13r12) (.cond (.t 88) .skip (.exit 2))) (.seq (.block 3 (.seq (.seq (.reg 0 c13r13) (.cond (.t 97) (.seq (.reg 0 c13r14) .ret) .skip)) (.reg 1 c13r15))) (.reg 0 c13r16)))
def c13l17m : List Bool := [fF,fF,tT,tT,tT,fF,fF,tT,fF,tT,tT,fF,fF,fF,fF,fF,fF,fF,fF,fF,fF,fF,fF,fF,fF,fF,fF,fF,fF,fF,fF,fF,fF,fF,fF,fF,fF,fF,fF,fF,fF,fF,fF,fF,fF,fF,fF,fF,fF,fF,fF,fF,fF,fF,fF,fF,fF,fF,fF,fF,fF,fF,fF,fF,fF,fF,fF,fF,fF,fF,fF,fF,fF,fF,fF,fF,fF,fF,fF,fF,fF,fF,fF,fF,fF,fF,fF,fF,fF,fF,fF,fF,fF,fF,fF,fF,fF,fF,fF,fF,fF,fF,fF,fF,fF,fF,fF,fF,fF,fF,fF,fF,fF,fF,fF,fF,fF,fF,fF,fF,fF,fF,fF,fF,fF,fF,fF,fF,fF,fF,fF,fF,fF,fF,fF,fF,fF,fF,fF,fF,fF,fF,fF,fF,fF,fF,fF,fF,fF,fF,fF,fF,fF,fF,fF,fF,fF,fF,fF,fF,fF,fF,fF,fF,fF,fF,fF,fF,fF,fF,fF,fF,fF,fF,fF,fF,fF,fF,fF,fF,fF,fF,fF,fF,fF,fF,fF,fF,fF,fF,fF,fF,fF,fF,fF,fF,fF,fF,fF,fF,fF,fF,fF,fF,fF,fF,fF,fF,fF,fF,fF,fF,fF,fF,fF,fF,fF,fF,fF,fF]
def c13r18 : List AOper := [
 oP 11 (.mov (nI 0))]
def c13r19 : List AOper := [
 oM 119 11,
 oF 120 1 4,
 oL 121 120,
 oN 122 121,
 oP 123 (.cmp .lss (.t 119) (.t 122))]
def c13r20 : List AOper := [
 oF 126 1 7,
 oL 127 126,
 oF 128 1 4,
 oL 129 128,
 oM 130 11,
 oP 131 (.idxA 2 (.t 129) (.t 130)),
 oP 132 (.idxArrA 2 1 (.t 131) (nI 0)),
 oL 133 132,
 oM 134 9,
 oP 135 (.arith .add (.t 133) (.t 134)),
 oF 136 1 4,
 oL 137 136,
 oM 138 11,
 oP 139 (.idxA 2 (.t 137) (.t 138)),
 oP 140 (.idxArrA 2 1 (.t 139) (nI 1)),
 oL 141 140,
 oM 142 9,
 oP 143 (.arith .add (.t 141) (.t 142)),
 oP 144 (.build [(.s (.int .i64 0)), (.s (.int .i64 0))] [(0, 1, (.t 135)), (1, 1, (.t 143))]),
 oP 145 (.buildSl 2 1 (.agg [(.int .i64 0), (.int .i64 0)]) [(0, (.t 144))]),
 oP 146 (.append 2 16 (.t 127) (.t 145)),
 oF 147 1 7,
 ⟨none, none, .store 1 (.t 147) (.t 146)⟩]
def c13r21 : List AOper := [
 oM 124 11,
 oP 125 (.arith .add (.t 124) (nI 1)),
 oM 11 125]
def c13l22 : ACode := (.seq (.seq (.reg 0 c13r19) (.cond (.t 123) .skip (.exit 4))) (.seq (.block 5 (.reg 1 c13r20)) (.reg 0 c13r21)))
def c13l22m : List Bool := [fF,fF,tT,tT,tT,fF,fF,tT,fF,tT,fF,tT,fF,fF,fF,fF,fF,fF,fF,fF,fF,fF,fF,fF,fF,fF,fF,fF,fF,fF,fF,fF,fF,fF,fF,fF,fF,fF,fF,fF,fF,fF,fF,fF,fF,fF,fF,fF,fF,fF,fF,fF,fF,fF,fF,fF,fF,fF,fF,fF,fF,fF,fF,fF,fF,fF,fF,fF,fF,fF,fF,fF,fF,fF,fF,fF,fF,fF,fF,fF,fF,fF,fF,fF,fF,fF,fF,fF,fF,fF,fF,fF,fF,fF,fF,fF,fF,fF,fF,fF,fF,fF,fF,fF,fF,fF,fF,fF,fF,fF,fF,fF,fF,fF,fF,fF,fF,fF,fF,fF,fF,fF,fF,fF,fF,fF,fF,fF,fF,fF,fF,fF,fF,fF,fF,fF,fF,fF,fF,fF,fF,fF,fF,fF,fF,fF,fF,fF,fF,fF,fF,fF,fF,fF,fF,fF,fF,fF,fF,fF,fF,fF,fF,fF,fF,fF,fF,fF,fF,fF,fF,fF,fF,fF,fF,fF,fF,fF,fF,fF,fF,fF,fF,fF,fF,fF,fF,fF,fF,fF,fF,fF,fF,fF,fF,fF,fF,fF,fF,fF,fF,fF,fF,fF,fF,fF,fF,fF,fF,fF,fF,fF,fF,fF,fF,fF,fF,fF,fF,fF]
def c13r23 : List AOper := [
 oM 148 2,
 oP 149 (.conv .i64 (.t 148)),
 oP 150 (.div .rem (.t 149) (nI 9)),
 oM 12 150]
def c13r24 : List AOper := [
 oP 152 (.load 2 true (.t 3)),
 oP 153 (.call 46 [(.t 152)]),
 oM 151 153,
 oP 154 (.ext (.t 151) 0),
 oP 155 (.ext (.t 151) 1),
 oP 156 (.ext (.t 151) 2),
 oM 13 154,
 oM 14 155,
 oM 15 156]
def c13r25 : List AOper := [
 oP 158 (.load 2 true (.t 4)),
 oP 159 (.call 46 [(.t 158)]),
 oM 157 159,
 oP 160 (.ext (.t 157) 0),
 oP 161 (.ext (.t 157) 1),
 oP 162 (.ext (.t 157) 2),
 oM 16 160,
 oM 17 161,
 oM 18 162]
def c13r26 : List AOper := [
 oP 164 (.load 2 true (.t 7)),
 oP 165 (.call 46 [(.t 164)]),
 oM 163 165,
 oP 166 (.ext (.t 163) 0),
 oP 167 (.ext (.t 163) 1),
 oP 168 (.ext (.t 163) 2),
 oM 19 166,
 oM 20 167,
 oM 21 168]
def c13r27 : List AOper := [
 oP 170 (.load 2 true (.t 3)),
 oM 171 12,
 oP 172 (.call 50 [(.t 170), (.t 171)]),
 oM 169 172,
 oP 173 (.ext (.t 169) 0),
 oP 174 (.ext (.t 169) 1),
 oM 22 173,
 oM 23 174]
def c13r28 : List AOper := [
 oP 176 (.load 2 true (.t 4)),
 oM 177 12,
 oP 178 (.call 50 [(.t 176), (.t 177)]),
 oM 175 178,
 oP 179 (.ext (.t 175) 0),
 oP 180 (.ext (.t 175) 1),
 oM 24 179,
 oM 25 180]
def c13r29 : List AOper := [
 oP 182 (.load 2 true (.t 7)),
 oM 183 12,
 oP 184 (.call 50 [(.t 182), (.t 183)]),
 oM 181 184,
 oP 185 (.ext (.t 181) 0),
 oP 186 (.ext (.t 181) 1),
 oM 26 185,
 oM 27 186]
def c13r30 : List AOper := [
 oM 187 15,
 oM 188 187,
 oH 189 188 true 18,
 oP 190 (.pick (.t 188) (.t 189) bF),
 oM 191 190,
 oH 192 191 true 21,
 oP 193 (.pick (.t 191) (.t 192) bF),
 oM 194 193,
 oH 195 194 true 23,
 oP 196 (.pick (.t 194) (.t 195) bF),
 oM 197 196,
 oH 198 197 true 25,
 oP 199 (.pick (.t 197) (.t 198) bF),
 oM 200 199,
 oH 201 200 true 27,
 oP 202 (.pick (.t 200) (.t 201) bF),
 oM 203 202,
 oH 204 203 true 19,
 oH 205 203 true 13,
 oH 206 203 true 16,
 oG 207 203 true (.max [(.t 205), (.t 206)]),
 oG 208 203 true (.cmp .eql (.t 204) (.t 207)),
 oP 209 (.pick (.t 203) (.t 208) bF),
 oM 210 209,
 oH 211 210 true 26,
 oH 212 210 true 22,
 oH 213 210 true 24,
 oG 214 210 true (.arith .mul (.t 212) (.t 213)),
 oG 215 210 true (.cmp .eql (.t 211) (.t 214)),
 oP 216 (.pick (.t 210) (.t 215) bF),
 oM 217 216,
 oG 218 217 true (.call 18 []),
 oP 219 (.pick (.t 217) (.t 218) bF),
 oM 6 219]
def f13 : FRow := ⟨(.seq (.reg 0 c13r0) (.seq (.seq (.reg 0 c13r1) (.cond (.t 55) (.seq (.reg 0 c13r2) .ret) .skip)) (.seq (.reg 3 c13r3) (.seq (.seq (.reg 0 c13r4) (.block 0 (.loop c13l9m [] c13l9))) (.seq (.reg 0 c13r10) (.seq (.seq (.reg 0 c13r11) (.block 2 (.loop c13l17m [(7, some 0, 1)] c13l17))) (.seq (.seq (.reg 0 c13r18) (.block 4 (.loop c13l22m [(7, some 1, 1)] c13l22))) (.seq (.reg 0 c13r23) (.seq (.reg 0 c13r24) (.seq (.reg 0 c13r25) (.seq (.zap 7 1 (.zap 7 0 (.reg 0 c13r26))) (.seq (.reg 0 c13r27) (.seq (.reg 0 c13r28) (.seq (.zap 7 1 (.zap 7 0 (.reg 0 c13r29))) (.seq (.reg 0 c13r30) .ret))))))))))))))), [.tmp 6], 220⟩
theorem okf13 : f13.Ok Try.prog 13 := ⟨_, _, Try.func13, rfl, by kernel_rfl, by kernel_rfl, by kernel_rfl⟩
end Go.Proofs.Ytmcjoahnlbckoaa.Sk

/- RingApart, reckoned: at every two books and number of rings it answers true. -/
namespace Go.Proofs.Ytmcjoahnlbckoaa.Sk
open Go Go.E Go.E.Sm
set_option maxRecDepth 10000
theorem newRow_of {H : List ABlock} {i sz : Nat} {s : LV} {ys : List SV} {k : AK} (h : ys ≠ []) (hg : H[i]? = some .gone) (hk : k (.sl i 0 ys.length sz false) (H.set i (.row (flatE ys))) none True) : newRowK H i sz s [] ys k := by
 rw [newRowK_def]
 exact ⟨fun e => absurd e h, fun _ => ⟨hg, by simpa using hk⟩⟩
theorem newRow_or {H : List ABlock} {i sz : Nat} {s : LV} {ys : List SV} {k : AK} (hg : H[i]? = some .gone) (hk : ∀ c B, (ys = [] /\ c = s /\ B = .gone \/ ys ≠ [] /\ c = .sl i 0 ys.length sz false /\ B = .row (flatE ys)) -> k c (H.set i B) none True) : newRowK H i sz s [] ys k := by
 rw [newRowK_def]
 refine ⟨fun e => ?_, fun e => ⟨hg, ?_⟩⟩
 ·have := hk s .gone (.inl ⟨e, rfl, rfl⟩)
  obtain ⟨hl, hv⟩ := List.getElem?_eq_some_iff.1 hg
  rwa [<- hv, List.set_getElem_self] at this
 ·have := hk _ _ (.inr ⟨e, rfl, rfl⟩)
  simpa using this
theorem fits_pr {K : List (Int × Int)} (h : K.length <= 100) : fitsE 2 16 [] (K.map pr) := by
 refine ⟨by simp, fun y hy => ?_, ?_, ?_, by decide⟩
 ·obtain ⟨p, _, rfl⟩ := List.mem_map.1 hy; rfl
 ·rw [List.length_nil, List.length_map]; omega
 ·rw [List.length_nil, List.length_map]; omega
theorem tmod_nat13 (a b : Nat) : (a : Int).tmod (b : Int) = ((a % b : Nat) : Int) := by
 rw [Int.tmod_eq_emod_of_nonneg (by omega)]; exact (Int.natCast_emod _ _).symm
theorem row_two {K : List (Int × Int)} {n : Nat} (h : n = K.length) : rowOf 0 n 2 ((twoL K).map (.int .i64)) = some (K.map pr) := by
 subst h
 rw [rowOf, if_pos (by rw [List.length_map, twoL_len]; omega), elems, if_neg (by decide), List.drop_zero, chunk_two]
theorem promo_keep2 {σ : AState} {d b o off sz b2 o2 l2 z2 : Nat} {c2 : Bool} {cs : List LV} (h : fget σ.fr d = .loc b o) (hB : σ.hp[b]? = some (.obj cs)) (hc : cs[o + off]? = some (.sl b2 o2 l2 z2 c2)) : promote [(d, some off, sz)] σ = σ := by
 simp only [promote, promote1, h, hB, hc]
set_option maxHeartbeats 4000000 in
theorem law13 {K1 Q1 K2 Q2 : List (Int × Int)} {x1 : Int} (h1 : 0 <= x1 /\ x1 < 256) : E.Fn Try.prog 13 [bk K1 Q1, bk K2 Q2, .int .u8 x1] [.bool true] := by
 refine fn_of_row okf13 ?_
 have h45 := k45 (K := K1) (Q := Q1)
 have h45b := k45 (K := K2) (Q := Q2)
 simp only [FRow.start, f13, c13r0, c13r1, bk, SV.cells, go_sem, Nat.reduceAdd, Nat.reduceSub]
 refine callK_of (by simp only [bk, go_sem]) h45 (.inl rfl) ?_
 cases hf : (!greatB K1 Q1 && decide (ckB K1 Q1 = 0)) with
 | false =>
  simp only [c13r2, go_sem]
  refine wk ?_
  simp only [go_sem]
 | true =>
  rw [Bool.and_eq_true, decide_eq_true_eq] at hf
  have h01 := hf.2
  obtain ⟨hk1, hk8, hq12, _⟩ := ckB_zero h01
  simp only [go_sem, Nat.reduceAdd]
  refine callK_of (by simp only [bk, go_sem]) h45b (.inl rfl) ?_
  cases hf2 : (!greatB K2 Q2 && decide (ckB K2 Q2 = 0)) with
  | false =>
   simp only [c13r2, go_sem]
   refine wk ?_
   simp only [go_sem]
  | true =>
   rw [Bool.and_eq_true, decide_eq_true_eq] at hf2
   have h02 := hf2.2
   obtain ⟨hk1b, hk8b, hq12b, _⟩ := ckB_zero h02
   have i1 : inR .i64 ((K1.length : Int) + K2.length) := inR_small (by omega) (by omega)
   have i2 : inR .i64 ((Q1.length : Int) + Q2.length) := inR_small (by omega) (by omega)
   by_cases hA : (8 : Int) < (K1.length : Int) + K2.length
   ·simp only [kS, hA, c13r2, go_sem, Nat.reduceAdd, Nat.reduceLeDiff]
    refine ⟨i1, fun _ => wk ?_⟩
    simp only [go_sem]
   ·by_cases hB : (12 : Int) < (Q1.length : Int) + Q2.length
    ·simp only [kS, hA, hB, c13r2, go_sem, Nat.reduceAdd, Nat.reduceLeDiff]
     refine ⟨i1, i2, fun _ => wk ?_⟩
     simp only [go_sem]
    ·simp only [kS, hA, hB, c13r2, c13r3, go_sem, Nat.reduceAdd, Nat.reduceLeDiff, Nat.reduceMul]
     refine ⟨i1, i2, fun _ => ⟨by decide, by decide, rfl, by simp, fits_pr (by omega), newRow_of (by rw [ne_eq, List.map_eq_nil_iff]; intro e; rw [e] at hk1; simp at hk1) rfl ?_⟩⟩
     simp only [go_sem, Nat.reduceAdd, Nat.reduceLeDiff, Nat.reduceMul]
     refine ⟨by decide, by decide, rfl, by simp, fits_pr (by omega), newRow_or rfl fun c1 B1 hc => ?_⟩
     have hc1 : c1.isOne = true := by rcases hc with ⟨_, rfl, _⟩ | ⟨_, rfl, _⟩ <;> rfl
     have hc0 : c1.cells = some [c1] := by rcases hc with ⟨_, rfl, _⟩ | ⟨_, rfl, _⟩ <;> rfl
     have hc2 : fgt (fun b => decide (3 <= b)) c1 = c1 := by rcases hc with ⟨_, rfl, _⟩ | ⟨_, rfl, _⟩ <;> rfl
     have hc3 : fgtB (fun b => decide (3 <= b)) B1 = B1 := by rcases hc with ⟨_, _, rfl⟩ | ⟨_, _, rfl⟩ <;> rfl
     have hc4 : fgt (fun x => x == 0) c1 = c1 := by rcases hc with ⟨_, rfl, _⟩ | ⟨_, rfl, _⟩ <;> rfl
     have hc5 : fgtB (fun x => x == 0) B1 = B1 := by rcases hc with ⟨_, _, rfl⟩ | ⟨_, _, rfl⟩ <;> rfl
     rw [<- twoL_map, List.length_map] at *
     simp only [hc0, splice, c13r4, go_sem, ↓reduceIte, Nat.reduceAdd, Nat.reduceLeDiff]
     refine loop_rule (fun n τ => ∃ i : Nat, n = K1.length - i /\ i <= K1.length /\ (∀ k ∈ K1.take i, k.2 <= 400) /\
      τ = ⟨[.any, .any, .s (.int .u8 x1), .s (.ptr [.slice (K1.map pr), .slice (Q1.map pr)]), .s (.ptr [.slice (K2.map pr), .slice (Q2.map pr)]), .any, .any, .loc 2 0, .s (.int .i64 i), .any, .any, .any, .any, .any, .any, .any, .any, .any, .any, .any, .any, .any, .any, .any, .any, .any, .any, .any, .any, .any, .any, .any, .any, .any, .any, .any, .any, .any, .any, .any, .any, .any, .any, .any, .any, .any, .any, .any, .any, .any, .any, .any, .any, .any, .any, .any, .any, .any, .any, .any, .any, .any, .any, .any, .any, .any, .any, .any, .any, .any, .any, .any, .any, .any, .any, .any, .any, .any, .any, .any, .any, .any, .any, .any, .any, .any, .any, .any, .any, .any, .any, .any, .any, .any, .any, .any, .any, .any, .any, .any, .any, .any, .any, .any, .any, .any, .any, .any, .any, .any, .any, .any, .any, .any, .any, .any, .any, .any, .any, .any, .any, .any, .any, .any, .any, .any, .any, .any, .any, .any, .any, .any, .any, .any, .any, .any, .any, .any, .any, .any, .any, .any, .any, .any, .any, .any, .any, .any, .any, .any, .any, .any, .any, .any, .any, .any, .any, .any, .any, .any, .any, .any, .any, .any, .any, .any, .any, .any, .any, .any, .any, .any, .any, .any, .any, .any, .any, .any, .any, .any, .any, .any, .any, .any, .any, .any, .any, .any, .any, .any, .any, .any, .any, .any, .any, .any, .any, .any, .any, .any, .any, .any, .any, .any, .any, .any, .any, .any, .any, .any, .any, .any, .any, .any, .any, .any, .any, .any, .any, .any], [.row ((twoL K1).map (.int .i64)), B1, .obj [.sl 0 0 K1.length 2 false, c1]]⟩) K1.length rfl ?_ ?_
     ·simp only [hc2, hc3, c13l9m, go_sem, ↓reduceIte, reduceCtorEq, Nat.reduceAdd, Nat.reduceLeDiff]
      exact ⟨0, rfl, Nat.zero_le _, by simp, rfl⟩
     ·rintro I n τ ⟨i, rfl, hi, hall, rfl⟩ hI
      simp only [c13l9, c13r5, go_sem, ↓reduceIte, Nat.reduceAdd, Nat.reduceLeDiff]
      intro _
      refine ⟨fun hlt => ?_, fun hge => ?_⟩
      ·have hlt : i < K1.length := by omega
       have hx : K1[i]? = some K1[i] := List.getElem?_eq_getElem hlt
       have hall2 : K1[i].2 <= 400 -> ∀ k ∈ K1.take (i + 1), k.2 <= 400 := fun h k hk => by
        rw [List.take_succ, hx, List.mem_append] at hk
        rcases hk with hk | hk
        ·exact hall k hk
        ·simp at hk; rw [hk]; exact h
       generalize K1[i] = p at hx hall2
       by_cases hb : (400 : Int) < p.2
       ·simp only [c13r6, hx, pr, SV.cells, hb, c13r7, go_sem, Nat.reduceAdd, Nat.reduceLeDiff]
        refine wk ?_
        simp only [go_sem]
       ·simp only [c13r6, hx, pr, SV.cells, hb, c13r8, hc2, hc3, c13l9m, go_sem, ↓reduceIte, reduceCtorEq, Nat.reduceAdd, Nat.reduceLeDiff]
        exact ⟨inR_small (by omega) (by omega), hI (K1.length - (i + 1)) _ (by omega) ⟨i + 1, rfl, by omega, hall2 (by omega), rfl⟩⟩
      ·have hie : i = K1.length := by omega
       subst hie
       rw [List.take_length] at hall
       simp only [c13r10, c13r11, go_sem, Nat.reduceAdd, Nat.reduceLeDiff]
       intro _
       refine loop_rule (fun n τ => ∃ i : Nat, n = K2.length - i /\ i <= K2.length /\ (∀ k ∈ K2.take i, k.2 <= 400) /\
        τ = ⟨[.any, .any, .s (.int .u8 x1), .s (.ptr [.slice (K1.map pr), .slice (Q1.map pr)]), .s (.ptr [.slice (K2.map pr), .slice (Q2.map pr)]), .any, .any, .loc 2 0, .any, .s (.int .i64 K1.length), .s (.int .i64 i), .any, .any, .any, .any, .any, .any, .any, .any, .any, .any, .any, .any, .any, .any, .any, .any, .any, .any, .any, .any, .any, .any, .any, .any, .any, .any, .any, .any, .any, .any, .any, .any, .any, .any, .any, .any, .any, .any, .any, .any, .any, .any, .any, .any, .any, .any, .any, .any, .any, .any, .any, .any, .any, .any, .any, .any, .any, .any, .any, .any, .any, .any, .any, .any, .any, .any, .any, .any, .any, .any, .any, .any, .any, .any, .any, .any, .any, .any, .any, .any, .any, .any, .any, .any, .any, .any, .any, .any, .any, .any, .any, .any, .any, .any, .any, .any, .any, .any, .any, .any, .any, .any, .any, .any, .any, .any, .any, .any, .any, .any, .any, .any, .any, .any, .any, .any, .any, .any, .any, .any, .any, .any, .any, .any, .any, .any, .any, .any, .any, .any, .any, .any, .any, .any, .any, .any, .any, .any, .any, .any, .any, .any, .any, .any, .any, .any, .any, .any, .any, .any, .any, .any, .any, .any, .any, .any, .any, .any, .any, .any, .any, .any, .any, .any, .any, .any, .any, .any, .any, .any, .any, .any, .any, .any, .any, .any, .any, .any, .any, .any, .any, .any, .any, .any, .any, .any, .any, .any, .any, .any, .any, .any, .any, .any, .any, .any, .any, .any, .any, .any, .any, .any, .any, .any, .any, .any, .any, .any, .any], [.row ((twoL (K1 ++ (K2.take i).map lat)).map (.int .i64)), B1, .obj [.sl 0 0 (K1.length + i) 2 false, c1]]⟩) K2.length (promo_keep2 rfl rfl rfl) ?_ ?_
       ·simp only [hc2, hc3, c13l17m, go_sem, ↓reduceIte, reduceCtorEq, Nat.reduceAdd, Nat.reduceLeDiff]
        exact ⟨0, rfl, Nat.zero_le _, by simp, by simp⟩
       ·rintro I n τ ⟨i, rfl, hi, hal2, rfl⟩ hI
        simp only [c13l17, c13r12, go_sem, ↓reduceIte, Nat.reduceAdd, Nat.reduceLeDiff]
        intro _
        refine ⟨fun hlt => ?_, fun hge => ?_⟩
        ·have hlt : i < K2.length := by omega
         have hx : K2[i]? = some K2[i] := List.getElem?_eq_getElem hlt
         have hr := key_rng h02 (List.getElem_mem hlt)
         have hal3 : K2[i].2 <= 400 -> ∀ k ∈ K2.take (i + 1), k.2 <= 400 := fun h k hk => by
          rw [List.take_succ, hx, List.mem_append] at hk
          rcases hk with hk | hk
          ·exact hal2 k hk
          ·simp at hk; rw [hk]; exact h
         have hts : twoL (K1 ++ (K2.take (i + 1)).map lat) = twoL (K1 ++ (K2.take i).map lat) ++ [K2[i].1 + 500, K2[i].2 + 500] := by rw [List.take_succ, hx, List.map_append, <- List.append_assoc]; exact twoL_snoc
         have htl : (twoL (K1 ++ (K2.take i).map lat)).length = (K1.length + i) * 2 := by rw [twoL_len, List.length_append, List.length_map, List.length_take]; omega
         generalize K2[i] = p at hx hr hal3 hts
         by_cases hb : (400 : Int) < p.2
         ·simp only [c13r13, hx, pr, SV.cells, hb, c13r14, go_sem, Nat.reduceAdd, Nat.reduceLeDiff]
          refine wk ?_
          simp only [go_sem]
         ·simp only [c13r13, hx, pr, SV.cells, hb, c13r15, splice, Nat.reduceBEq, Bool.false_eq_true, go_sem, ↓reduceIte, Nat.reduceAdd, Nat.reduceLeDiff, Nat.reduceMul]
          refine ⟨inR_small (by omega) (by omega), inR_small (by omega) (by omega), by decide, by decide, rfl, one_pr (p := (p.1 + 500, p.2 + 500)), one_pr (p := (p.1 + 500, p.2 + 500)), htl.symm, by omega, by omega, ?_⟩
          have e2 : (twoL (K1 ++ (K2.take i).map lat)).map (SV.int .i64) ++ flatE [SV.agg [.int .i64 (p.1 + 500), .int .i64 (p.2 + 500)]] = (twoL (K1 ++ (K2.take (i + 1)).map lat)).map (SV.int .i64) := by rw [hts, List.map_append]; rfl
          rw [e2]
          simp only [c13r16, hc2, hc3, hc4, hc5, c13l17m, go_sem, ↓reduceIte, reduceCtorEq, Nat.reduceLeDiff]
          exact ⟨inR_small (by omega) (by omega), hI (K2.length - (i + 1)) _ (by omega) ⟨i + 1, rfl, by omega, hal3 (by omega), rfl⟩⟩
        ·have hie : i = K2.length := by omega
         subst hie
         rw [List.take_length] at hal2 ⊢
         obtain ⟨x1, rfl⟩ := Int.eq_ofNat_of_zero_le h1.1
         obtain ⟨m, hm, hm8⟩ : ∃ m : Nat, (x1 : Int).tmod 9 = m /\ m <= 8 := ⟨x1 % 9, tmod_nat13 x1 9, by omega⟩
         have hbx := ckB_two h01 h02 (by omega) (by omega) hal2
         have hl : (K1 ++ K2.map lat).length = K1.length + K2.length := by rw [List.length_append, List.length_map]
         have h46a := k46 h01
         have h46b := k46 h02
         have h46x := k46 hbx
         have h50a := k50 h01 hm8
         have h50b := k50 h02 hm8
         have h50x := k50 hbx hm8
         rw [hl] at h46x h50x
         obtain ⟨ht1, ht2⟩ := two_eq h01 h02 hall (Q1 := Q1) (Q2 := Q2)
         have hle := colC_le (R := rel0 (clsh (K1 ++ K2.map lat) (Q1 ++ Q2.map (qua K1.length)))) (m := m) (n := K1.length + K2.length)
         have hpw : m ^ (K1.length + K2.length) <= 16777216 := by
          have h1 : m ^ (K1.length + K2.length) <= 8 ^ (K1.length + K2.length) := Nat.pow_le_pow_left (by omega) _
          have h2 : 8 ^ (K1.length + K2.length) <= 8 ^ 8 := Nat.pow_le_pow_right (by decide) (by omega)
          have h3 : (8 : Nat) ^ 8 = 16777216 := by decide
          omega
         rw [ht2] at h46x
         have ht1 := ht1 m
         generalize colC (rel0 (clsh (K1 ++ K2.map lat) (Q1 ++ Q2.map (qua K1.length)))) m (K1.length + K2.length) = cx at *
         generalize rngs (clsh (K1 ++ K2.map lat) (Q1 ++ Q2.map (qua K1.length))) (K1.length + K2.length) = rx at *
         generalize colC (rel0 (clsh K1 Q1)) m K1.length = ca at *
         generalize colC (rel0 (clsh K2 Q2)) m K2.length = cb at *
         generalize rngs (clsh K1 Q1) K1.length = ra at *
         generalize rngs (clsh K2 Q2) K2.length = rb at *
         generalize fw (clsh K1 Q1) K1.length = fa at *
         generalize fw (clsh K2 Q2) K2.length = fb at *
         have hmul : (ca : Int) * (cb : Int) = (cx : Int) := by rw [ht1]; exact (Int.natCast_mul _ _).symm
         have hmax : ((max fa fb : Nat) : Int) = max (fa : Int) (fb : Int) := by omega
         rw [hmax] at h46x
         have hmx : maxL [(fa : Int), (fb : Int)] = max (fa : Int) (fb : Int) := by simp only [maxL, List.foldl]; try omega
         rcases hc with ⟨hq0, rfl, rfl⟩ | ⟨_, rfl, rfl⟩
         ·have hq0 := List.map_eq_nil_iff.1 hq0
          subst hq0
          rw [List.nil_append] at *
          rw [List.map_nil]
          simp only [c13r18, go_sem]
          refine loop_rule (fun n τ => ∃ i : Nat, n = Q2.length - i /\ i <= Q2.length /\
           τ = ⟨[.any, .any, .s (.int .u8 x1), .s (.ptr [.slice (K1.map pr), .slice []]), .s (.ptr [.slice (K2.map pr), .slice (Q2.map pr)]), .any, .any, .loc 2 0, .any, .s (.int .i64 K1.length), .any, .s (.int .i64 i), .any, .any, .any, .any, .any, .any, .any, .any, .any, .any, .any, .any, .any, .any, .any, .any, .any, .any, .any, .any, .any, .any, .any, .any, .any, .any, .any, .any, .any, .any, .any, .any, .any, .any, .any, .any, .any, .any, .any, .any, .any, .any, .any, .any, .any, .any, .any, .any, .any, .any, .any, .any, .any, .any, .any, .any, .any, .any, .any, .any, .any, .any, .any, .any, .any, .any, .any, .any, .any, .any, .any, .any, .any, .any, .any, .any, .any, .any, .any, .any, .any, .any, .any, .any, .any, .any, .any, .any, .any, .any, .any, .any, .any, .any, .any, .any, .any, .any, .any, .any, .any, .any, .any, .any, .any, .any, .any, .any, .any, .any, .any, .any, .any, .any, .any, .any, .any, .any, .any, .any, .any, .any, .any, .any, .any, .any, .any, .any, .any, .any, .any, .any, .any, .any, .any, .any, .any, .any, .any, .any, .any, .any, .any, .any, .any, .any, .any, .any, .any, .any, .any, .any, .any, .any, .any, .any, .any, .any, .any, .any, .any, .any, .any, .any, .any, .any, .any, .any, .any, .any, .any, .any, .any, .any, .any, .any, .any, .any, .any, .any, .any, .any, .any, .any, .any, .any, .any, .any, .any, .any, .any, .any, .any, .any, .any, .any, .any, .any, .any, .any, .any, .any, .any, .any, .any, .any, .any, .any], [.row ((twoL (K1 ++ K2.map lat)).map (.int .i64)), .gone, .obj [.sl 0 0 (K1.length + K2.length) 2 false, .sl 3 0 i 2 false], .row ((twoL ((Q2.take i).map (qua K1.length))).map (.int .i64))]⟩) Q2.length (promo_cell2 rfl rfl rfl) ?_ ?_
          ·simp only [c13l22m, go_sem, ↓reduceIte, reduceCtorEq, Nat.reduceAdd, Nat.reduceLeDiff]
           exact ⟨0, rfl, Nat.zero_le _, by simp [twoL]⟩
          ·rintro I n τ ⟨i, rfl, hi, rfl⟩ hI
           simp only [c13l22, c13r19, go_sem, ↓reduceIte, Nat.reduceAdd, Nat.reduceLeDiff]
           intro _
           refine ⟨fun hlt => ?_, fun hge => ?_⟩
           ·have hlt : i < Q2.length := by omega
            have hx : Q2[i]? = some Q2[i] := List.getElem?_eq_getElem hlt
            have hr := (ckQ_iff.1 (ckB_zero h02).2.2.2.2).1 _ (List.getElem_mem hlt)
            have hts : twoL ((Q2.take (i + 1)).map (qua K1.length)) = twoL ((Q2.take i).map (qua K1.length)) ++ [Q2[i].1 + K1.length, Q2[i].2 + K1.length] := by rw [List.take_succ, hx, List.map_append]; exact twoL_snoc
            have htl : (twoL ((Q2.take i).map (qua K1.length))).length = (i) * 2 := by rw [twoL_len, List.length_map, List.length_take]; omega
            generalize Q2[i] = p at hx hr hts
            simp only [c13r20, hx, pr, SV.cells, splice, Nat.reduceBEq, Bool.false_eq_true, go_sem, ↓reduceIte, Nat.reduceAdd, Nat.reduceLeDiff, Int.reduceLE, Int.reduceLT, Int.reduceToNat, Nat.reduceMul]
            refine ⟨inR_small (by omega) (by omega), inR_small (by omega) (by omega), by decide, by decide, rfl, one_pr (p := (p.1 + K1.length, p.2 + K1.length)), one_pr (p := (p.1 + K1.length, p.2 + K1.length)), htl.symm, by omega, by omega, ?_⟩
            have e2 : (twoL ((Q2.take i).map (qua K1.length))).map (SV.int .i64) ++ flatE [SV.agg [.int .i64 (p.1 + K1.length), .int .i64 (p.2 + K1.length)]] = (twoL ((Q2.take (i + 1)).map (qua K1.length))).map (SV.int .i64) := by rw [hts, List.map_append]; rfl
            rw [e2]
            simp only [c13r21, c13l22m, go_sem, ↓reduceIte, reduceCtorEq, Nat.reduceLeDiff]
            exact ⟨inR_small (by omega) (by omega), hI (Q2.length - (i + 1)) _ (by omega) ⟨i + 1, rfl, by omega, rfl⟩⟩
           ·have hie : i = Q2.length := by omega
            subst hie
            rw [List.take_length]
            simp only [c13r23, hm, go_sem, Nat.reduceAdd]
            refine ⟨inR_small (by omega) (by omega), by decide, ?_⟩
            simp only [c13r24, go_sem, Nat.reduceAdd]
            refine callK_of (by simp only [bk, kS, List.map_nil, go_sem]) h46a (.inr (by simp only [bk, kS, List.map_nil, go_sem])) ?_
            simp only [c13r25, go_sem, Nat.reduceAdd]
            refine callK_of (by simp only [bk, kS, go_sem]) h46b (.inr (by simp only [bk, kS, go_sem])) ?_
            simp only [c13r26, go_sem, Nat.reduceAdd]
            refine ⟨_, row_two (K := Q2.map (qua K1.length)) (by rw [List.length_map]), ?_⟩
            refine ⟨_, row_two (K := K1 ++ K2.map lat) hl.symm, ?_⟩
            refine callK_of (by simp only [bk, kS, go_sem]) h46x (.inr (by simp only [bk, kS, go_sem])) ?_
            simp only [c13r27, go_sem, Nat.reduceAdd]
            refine callK_of (by simp only [bk, kS, List.map_nil, go_sem]) h50a (.inl rfl) ?_
            simp only [c13r28, go_sem, Nat.reduceAdd]
            refine callK_of (by simp only [bk, kS, go_sem]) h50b (.inl rfl) ?_
            simp only [c13r29, go_sem, Nat.reduceAdd]
            refine callK_of (by simp only [bk, kS, go_sem]) h50x (.inl rfl) ?_
            simp only [c13r30, hmul, hmx, go_sem, reduceCtorEq, Nat.reduceAdd]
            refine ⟨inR_small (by omega) (by omega), wk ?_⟩
            simp only [go_sem]
         ·simp only [c13r18, go_sem]
          refine loop_rule (fun n τ => ∃ i : Nat, n = Q2.length - i /\ i <= Q2.length /\
           τ = ⟨[.any, .any, .s (.int .u8 x1), .s (.ptr [.slice (K1.map pr), .slice (Q1.map pr)]), .s (.ptr [.slice (K2.map pr), .slice (Q2.map pr)]), .any, .any, .loc 2 0, .any, .s (.int .i64 K1.length), .any, .s (.int .i64 i), .any, .any, .any, .any, .any, .any, .any, .any, .any, .any, .any, .any, .any, .any, .any, .any, .any, .any, .any, .any, .any, .any, .any, .any, .any, .any, .any, .any, .any, .any, .any, .any, .any, .any, .any, .any, .any, .any, .any, .any, .any, .any, .any, .any, .any, .any, .any, .any, .any, .any, .any, .any, .any, .any, .any, .any, .any, .any, .any, .any, .any, .any, .any, .any, .any, .any, .any, .any, .any, .any, .any, .any, .any, .any, .any, .any, .any, .any, .any, .any, .any, .any, .any, .any, .any, .any, .any, .any, .any, .any, .any, .any, .any, .any, .any, .any, .any, .any, .any, .any, .any, .any, .any, .any, .any, .any, .any, .any, .any, .any, .any, .any, .any, .any, .any, .any, .any, .any, .any, .any, .any, .any, .any, .any, .any, .any, .any, .any, .any, .any, .any, .any, .any, .any, .any, .any, .any, .any, .any, .any, .any, .any, .any, .any, .any, .any, .any, .any, .any, .any, .any, .any, .any, .any, .any, .any, .any, .any, .any, .any, .any, .any, .any, .any, .any, .any, .any, .any, .any, .any, .any, .any, .any, .any, .any, .any, .any, .any, .any, .any, .any, .any, .any, .any, .any, .any, .any, .any, .any, .any, .any, .any, .any, .any, .any, .any, .any, .any, .any, .any, .any, .any, .any, .any, .any, .any, .any, .any], [.row ((twoL (K1 ++ K2.map lat)).map (.int .i64)), .row ((twoL (Q1 ++ (Q2.take i).map (qua K1.length))).map (.int .i64)), .obj [.sl 0 0 (K1.length + K2.length) 2 false, .sl 1 0 (Q1.length + i) 2 false]]⟩) Q2.length (promo_keep2 rfl rfl rfl) ?_ ?_
          ·simp only [c13l22m, go_sem, ↓reduceIte, reduceCtorEq, Nat.reduceAdd, Nat.reduceLeDiff]
           exact ⟨0, rfl, Nat.zero_le _, by simp⟩
          ·rintro I n τ ⟨i, rfl, hi, rfl⟩ hI
           simp only [c13l22, c13r19, go_sem, ↓reduceIte, Nat.reduceAdd, Nat.reduceLeDiff]
           intro _
           refine ⟨fun hlt => ?_, fun hge => ?_⟩
           ·have hlt : i < Q2.length := by omega
            have hx : Q2[i]? = some Q2[i] := List.getElem?_eq_getElem hlt
            have hr := (ckQ_iff.1 (ckB_zero h02).2.2.2.2).1 _ (List.getElem_mem hlt)
            have hts : twoL (Q1 ++ (Q2.take (i + 1)).map (qua K1.length)) = twoL (Q1 ++ (Q2.take i).map (qua K1.length)) ++ [Q2[i].1 + K1.length, Q2[i].2 + K1.length] := by rw [List.take_succ, hx, List.map_append, <- List.append_assoc]; exact twoL_snoc
            have htl : (twoL (Q1 ++ (Q2.take i).map (qua K1.length))).length = (Q1.length + i) * 2 := by rw [twoL_len, List.length_append, List.length_map, List.length_take]; omega
            generalize Q2[i] = p at hx hr hts
            simp only [c13r20, hx, pr, SV.cells, splice, Nat.reduceBEq, Bool.false_eq_true, go_sem, ↓reduceIte, Nat.reduceAdd, Nat.reduceLeDiff, Int.reduceLE, Int.reduceLT, Int.reduceToNat, Nat.reduceMul]
            refine ⟨inR_small (by omega) (by omega), inR_small (by omega) (by omega), by decide, by decide, rfl, one_pr (p := (p.1 + K1.length, p.2 + K1.length)), one_pr (p := (p.1 + K1.length, p.2 + K1.length)), htl.symm, by omega, by omega, ?_⟩
            have e2 : (twoL (Q1 ++ (Q2.take i).map (qua K1.length))).map (SV.int .i64) ++ flatE [SV.agg [.int .i64 (p.1 + K1.length), .int .i64 (p.2 + K1.length)]] = (twoL (Q1 ++ (Q2.take (i + 1)).map (qua K1.length))).map (SV.int .i64) := by rw [hts, List.map_append]; rfl
            rw [e2]
            simp only [c13r21, c13l22m, go_sem, ↓reduceIte, reduceCtorEq, Nat.reduceLeDiff]
            exact ⟨inR_small (by omega) (by omega), hI (Q2.length - (i + 1)) _ (by omega) ⟨i + 1, rfl, by omega, rfl⟩⟩
           ·have hie : i = Q2.length := by omega
            subst hie
            rw [List.take_length]
            simp only [c13r23, hm, go_sem, Nat.reduceAdd]
            refine ⟨inR_small (by omega) (by omega), by decide, ?_⟩
            simp only [c13r24, go_sem, Nat.reduceAdd]
            refine callK_of (by simp only [bk, kS, go_sem]) h46a (.inr (by simp only [bk, kS, go_sem])) ?_
            simp only [c13r25, go_sem, Nat.reduceAdd]
            refine callK_of (by simp only [bk, kS, go_sem]) h46b (.inr (by simp only [bk, kS, go_sem])) ?_
            simp only [c13r26, go_sem, Nat.reduceAdd]
            refine ⟨_, row_two (K := Q1 ++ Q2.map (qua K1.length)) (by rw [List.length_append, List.length_map]), ?_⟩
            refine ⟨_, row_two (K := K1 ++ K2.map lat) hl.symm, ?_⟩
            refine callK_of (by simp only [bk, kS, go_sem]) h46x (.inr (by simp only [bk, kS, go_sem])) ?_
            simp only [c13r27, go_sem, Nat.reduceAdd]
            refine callK_of (by simp only [bk, kS, go_sem]) h50a (.inl rfl) ?_
            simp only [c13r28, go_sem, Nat.reduceAdd]
            refine callK_of (by simp only [bk, kS, go_sem]) h50b (.inl rfl) ?_
            simp only [c13r29, go_sem, Nat.reduceAdd]
            refine callK_of (by simp only [bk, kS, go_sem]) h50x (.inl rfl) ?_
            simp only [c13r30, hmul, hmx, go_sem, reduceCtorEq, Nat.reduceAdd]
            refine ⟨inR_small (by omega) (by omega), wk ?_⟩
            simp only [go_sem]
end Go.Proofs.Ytmcjoahnlbckoaa.Sk
