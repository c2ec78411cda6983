/- The code of a law in the value semantics. -/
import Derived.Test.YtmcjoahnlbckoaaJ11

set_option linter.all false

namespace Go.Proofs.Ytmcjoahnlbckoaa.Sk
open Go Go.E
def c11r0 : List AOper := [
 oP 4 (.boxS (.t 0)),
 oP 8 (.mov bF)]
def c11r1 : List AOper := [
 oP 29 (.load 2 true (.t 4)),
 oP 30 (.call 45 [(.t 29)]),
 oP 31 (.not (.t 30)),
 oM 32 31,
 oG 33 32 false (.fieldAddr 0 (.t 4)),
 oG 34 32 false (.load 1 false (.t 33)),
 oG 35 32 false (.len false (.t 34)),
 oG 36 32 false (.cmp .lss (.t 35) (nI 2)),
 oP 37 (.pick (.t 32) bT (.t 36))]
def c11r2 : List AOper := [
 oP 38 (.call 18 []),
 oM 8 38]
def c11r3 : List AOper := [
 oF 39 0 4,
 oL 40 39,
 oN 41 40,
 oM 9 41]
def c11r4 : List AOper := [
 oM 42 1,
 oP 43 (.conv .i64 (.t 42)),
 oM 44 9,
 oP 45 (.div .rem (.t 43) (.t 44)),
 oM 10 45]
def c11r5 : List AOper := [
 oM 46 10,
 oP 47 (.arith .add (.t 46) (nI 1)),
 oM 48 2,
 oP 49 (.conv .i64 (.t 48)),
 oM 50 9,
 oP 51 (.arith .sub (.t 50) (nI 1)),
 oP 52 (.div .rem (.t 49) (.t 51)),
 oP 53 (.arith .add (.t 47) (.t 52)),
 oM 54 9,
 oP 55 (.div .rem (.t 53) (.t 54)),
 oM 11 55]
def c11r6 : List AOper := [
 oM 56 10,
 oM 57 11,
 oP 58 (.min [(.t 56), (.t 57)]),
 oM 59 10,
 oM 60 11,
 oP 61 (.max [(.t 59), (.t 60)]),
 oM 10 58,
 oM 11 61]
def c11r7 : List AOper := [
 oP 62 (.load 2 true (.t 4)),
 oM 63 10,
 oM 64 11,
 oP 65 (.call 51 [(.t 62), (.t 63), (.t 64)])]
def c11r8 : List AOper := [
 oP 66 (.load 2 true (.t 4)),
 oM 67 10,
 oM 68 11,
 oP 69 (.call 25 [(.t 66), (.t 67), (.t 68)]),
 oP 70 (.cmp .eql (.t 69) (nI 23)),
 oM 71 70,
 oG 72 71 true (.call 18 []),
 oP 73 (.pick (.t 71) (.t 72) bF),
 oM 8 73]
def c11r9 : List AOper := [
 oP 75 (.load 2 true (.t 4)),
 oM 76 10,
 oM 77 11,
 oP 78 (.call 52 [(.t 75), (.t 76), (.t 77)]),
 oM 74 78,
 oP 79 (.ext (.t 74) 0),
 oP 80 (.ext (.t 74) 1),
 oP 12 (.alloc [(.full []), (.full [])]),
 ⟨none, none, .store 2 (.t 12) (.t 79)⟩,
 oM 13 80]
def c11r10 : List AOper := [
 oM 81 13,
 oP 82 (.not (.t 81))]
def c11r11 : List AOper := [
 oP 83 (.call 18 []),
 oM 8 83]
def c11r12 : List AOper := [
 oP 14 (.alloc [(.full []), (.full [])])]
def c11r13 : List AOper := [
 oP 15 (.mov (nI 0))]
def c11r14 : List AOper := [
 oM 84 15,
 oM 85 9,
 oP 86 (.arith .sub (.t 85) (nI 1)),
 oP 87 (.cmp .lss (.t 84) (.t 86))]
def c11r15 : List AOper := [
 oF 90 0 14,
 oL 91 90,
 oM 92 15,
 oM 93 15,
 oP 94 (.build [(.s (.int .i64 0)), (.s (.int .i64 0))] [(0, 1, (.t 92)), (1, 1, (.t 93))]),
 oP 95 (.buildSl 2 1 (.agg [(.int .i64 0), (.int .i64 0)]) [(0, (.t 94))]),
 oP 96 (.append 2 16 (.t 91) (.t 95)),
 oF 97 0 14,
 ⟨none, none, .store 1 (.t 97) (.t 96)⟩]
def c11r16 : List AOper := [
 oM 88 15,
 oP 89 (.arith .add (.t 88) (nI 1)),
 oM 15 89]
def c11l17 : ACode := (.seq (.seq (.reg 0 c11r14) (.cond (.t 87) .skip (.exit 0))) (.seq (.block 1 (.reg 1 c11r15)) (.reg 0 c11r16)))
def c11l17m : List Bool := [fF,fF,fF,tT,tT,fF,fF,fF,fF,tT,tT,tT,tT,fF,tT,tT,fF,fF,fF,fF,fF,fF,fF,fF,fF,fF,fF,fF,fF,fF,fF,fF,fF,fF,fF,fF,fF,fF,fF,fF,fF,fF,fF,fF,fF,fF,fF,fF,fF,fF,fF,fF,fF,fF,fF,fF,fF,fF,fF,fF,fF,fF,fF,fF,fF,fF,fF,fF,fF,fF,fF,fF,fF,fF,fF,fF,fF,fF,fF,fF,fF,fF,fF,fF,fF,fF,fF,fF,fF,fF,fF,fF,fF,fF,fF,fF,fF,fF,fF,fF,fF,fF,fF,fF,fF,fF,fF,fF,fF,fF,fF,fF,fF,fF,fF,fF,fF,fF,fF,fF,fF,fF,fF,fF,fF,fF,fF,fF,fF,fF,fF,fF,fF,fF,fF,fF,fF,fF,fF,fF,fF,fF,fF,fF,fF,fF,fF,fF,fF,fF,fF,fF,fF,fF,fF,fF,fF,fF,fF,fF,fF,fF,fF,fF,fF,fF,fF,fF,fF,fF,fF,fF,fF,fF,fF,fF,fF,fF,fF,fF,fF,fF,fF,fF,fF,fF,fF,fF,fF,fF]
def c11r18 : List AOper := [
 oP 16 (.mov (nI 0))]
def c11r19 : List AOper := [
 oM 98 16,
 oM 99 9,
 oP 100 (.cmp .lss (.t 98) (.t 99))]
def c11r20 : List AOper := [
 oM 103 16,
 oP 104 (.arith .add (.t 103) (nI 1)),
 oM 17 104]
def c11r21 : List AOper := [
 oM 105 17,
 oM 106 9,
 oP 107 (.cmp .lss (.t 105) (.t 106))]
def c11r22 : List AOper := [
 oM 110 16,
 oM 111 10,
 oM 112 11,
 oP 113 (.call 53 [(.t 110), (.t 111), (.t 112)]),
 oM 114 17,
 oM 115 10,
 oM 116 11,
 oP 117 (.call 53 [(.t 114), (.t 115), (.t 116)]),
 oM 18 113,
 oM 19 117]
def c11r23 : List AOper := [
 oM 118 18,
 oM 119 19,
 oP 120 (.cmp .neq (.t 118) (.t 119)),
 oM 121 120,
 oG 122 121 true (.load 2 true (.t 4)),
 oH 123 121 true 16,
 oH 124 121 true 17,
 oG 125 121 true (.call 51 [(.t 122), (.t 123), (.t 124)]),
 oP 126 (.pick (.t 121) (.t 125) bF),
 oM 127 126,
 oG 128 127 true (.fieldAddr 1 (.t 14)),
 oG 129 127 true (.load 1 false (.t 128)),
 oG 130 127 true (.len false (.t 129)),
 oG 131 127 true (.cmp .leq (.t 130) (nI 12)),
 oP 132 (.pick (.t 127) (.t 131) bF)]
def c11r24 : List AOper := [
 oP 134 (.load 2 true (.t 14)),
 oM 135 18,
 oM 136 19,
 oP 137 (.call 52 [(.t 134), (.t 135), (.t 136)]),
 oM 133 137,
 oP 138 (.ext (.t 133) 0),
 oP 139 (.ext (.t 133) 1),
 oP 20 (.alloc [(.full []), (.full [])]),
 ⟨none, none, .store 2 (.t 20) (.t 138)⟩,
 oM 21 139]
def c11r25 : List AOper := [
 oM 140 21,
 oM 141 140,
 oG 142 141 false (.fieldAddr 1 (.t 20)),
 oG 143 141 false (.load 1 false (.t 142)),
 oG 144 141 false (.len false (.t 143)),
 oG 145 141 false (.cmp .gtr (.t 144) (nI 12)),
 oP 146 (.pick (.t 141) bT (.t 145))]
def c11r26 : List AOper := [
 oP 147 (.load 2 true (.t 20)),
 ⟨none, none, .store 2 (.t 14) (.t 147)⟩]
def c11r27 : List AOper := [
 oM 108 17,
 oP 109 (.arith .add (.t 108) (nI 1)),
 oM 17 109]
def c11l28 : ACode := (.seq (.seq (.reg 0 c11r21) (.cond (.t 107) .skip (.exit 4))) (.seq (.block 5 (.seq (.reg 0 c11r22) (.seq (.reg 0 c11r23) (.cond (.t 132) (.seq (.reg 1 c11r24) (.seq (.reg 0 c11r25) (.cond (.t 146) (.reg 0 c11r26) .skip))) .skip)))) (.reg 0 c11r27)))
def c11l28m : List Bool := [fF,fF,fF,tT,tT,fF,fF,fF,fF,tT,tT,tT,tT,fF,tT,fF,tT,tT,fF,fF,fF,fF,fF,fF,fF,fF,fF,fF,fF,fF,fF,fF,fF,fF,fF,fF,fF,fF,fF,fF,fF,fF,fF,fF,fF,fF,fF,fF,fF,fF,fF,fF,fF,fF,fF,fF,fF,fF,fF,fF,fF,fF,fF,fF,fF,fF,fF,fF,fF,fF,fF,fF,fF,fF,fF,fF,fF,fF,fF,fF,fF,fF,fF,fF,fF,fF,fF,fF,fF,fF,fF,fF,fF,fF,fF,fF,fF,fF,fF,fF,fF,fF,fF,fF,fF,fF,fF,fF,fF,fF,fF,fF,fF,fF,fF,fF,fF,fF,fF,fF,fF,fF,fF,fF,fF,fF,fF,fF,fF,fF,fF,fF,fF,fF,fF,fF,fF,fF,fF,fF,fF,fF,fF,fF,fF,fF,fF,fF,fF,fF,fF,fF,fF,fF,fF,fF,fF,fF,fF,fF,fF,fF,fF,fF,fF,fF,fF,fF,fF,fF,fF,fF,fF,fF,fF,fF,fF,fF,fF,fF,fF,fF,fF,fF,fF,fF,fF,fF,fF,fF]
def c11r29 : List AOper := [
 oM 101 16,
 oP 102 (.arith .add (.t 101) (nI 1)),
 oM 16 102]
def c11l30 : ACode := (.seq (.seq (.reg 0 c11r19) (.cond (.t 100) .skip (.exit 2))) (.seq (.block 3 (.seq (.reg 0 c11r20) (.block 4 (.loop c11l28m [] c11l28)))) (.reg 0 c11r29)))
def c11l30m : List Bool := [fF,fF,fF,tT,tT,fF,fF,fF,fF,tT,tT,tT,tT,fF,tT,fF,tT,fF,fF,fF,fF,fF,fF,fF,fF,fF,fF,fF,fF,fF,fF,fF,fF,fF,fF,fF,fF,fF,fF,fF,fF,fF,fF,fF,fF,fF,fF,fF,fF,fF,fF,fF,fF,fF,fF,fF,fF,fF,fF,fF,fF,fF,fF,fF,fF,fF,fF,fF,fF,fF,fF,fF,fF,fF,fF,fF,fF,fF,fF,fF,fF,fF,fF,fF,fF,fF,fF,fF,fF,fF,fF,fF,fF,fF,fF,fF,fF,fF,fF,fF,fF,fF,fF,fF,fF,fF,fF,fF,fF,fF,fF,fF,fF,fF,fF,fF,fF,fF,fF,fF,fF,fF,fF,fF,fF,fF,fF,fF,fF,fF,fF,fF,fF,fF,fF,fF,fF,fF,fF,fF,fF,fF,fF,fF,fF,fF,fF,fF,fF,fF,fF,fF,fF,fF,fF,fF,fF,fF,fF,fF,fF,fF,fF,fF,fF,fF,fF,fF,fF,fF,fF,fF,fF,fF,fF,fF,fF,fF,fF,fF,fF,fF,fF,fF,fF,fF,fF,fF,fF,fF]
def c11r31 : List AOper := [
 oP 148 (.load 2 true (.t 14)),
 oP 149 (.call 45 [(.t 148)]),
 oP 150 (.not (.t 149))]
def c11r32 : List AOper := [
 oP 151 (.call 18 []),
 oM 8 151]
def c11r33 : List AOper := [
 oM 152 3,
 oP 153 (.conv .i64 (.t 152)),
 oP 154 (.div .rem (.t 153) (nI 9)),
 oM 22 154]
def c11r34 : List AOper := [
 oP 156 (.load 2 true (.t 4)),
 oM 157 22,
 oP 158 (.call 50 [(.t 156), (.t 157)]),
 oM 155 158,
 oP 159 (.ext (.t 155) 0),
 oP 160 (.ext (.t 155) 1),
 oM 23 159,
 oM 24 160]
def c11r35 : List AOper := [
 oP 162 (.load 2 true (.t 12)),
 oM 163 22,
 oP 164 (.call 50 [(.t 162), (.t 163)]),
 oM 161 164,
 oP 165 (.ext (.t 161) 0),
 oP 166 (.ext (.t 161) 1),
 oM 25 165,
 oM 26 166]
def c11r36 : List AOper := [
 oP 168 (.load 2 true (.t 14)),
 oM 169 22,
 oP 170 (.call 50 [(.t 168), (.t 169)]),
 oM 167 170,
 oP 171 (.ext (.t 167) 0),
 oP 172 (.ext (.t 167) 1),
 oM 27 171,
 oM 28 172]
def c11r37 : List AOper := [
 oM 173 24,
 oM 174 173,
 oH 175 174 true 26,
 oP 176 (.pick (.t 174) (.t 175) bF),
 oM 177 176,
 oH 178 177 true 28,
 oP 179 (.pick (.t 177) (.t 178) bF),
 oM 180 179,
 oH 181 180 true 23,
 oH 182 180 true 25,
 oH 183 180 true 27,
 oG 184 180 true (.arith .add (.t 182) (.t 183)),
 oG 185 180 true (.cmp .eql (.t 181) (.t 184)),
 oP 186 (.pick (.t 180) (.t 185) bF),
 oM 187 186,
 oG 188 187 true (.call 18 []),
 oP 189 (.pick (.t 187) (.t 188) bF),
 oM 8 189]
def f11 : FRow := ⟨(.seq (.reg 0 c11r0) (.seq (.seq (.reg 0 c11r1) (.cond (.t 37) (.seq (.reg 0 c11r2) .ret) .skip)) (.seq (.reg 0 c11r3) (.seq (.reg 0 c11r4) (.seq (.reg 0 c11r5) (.seq (.reg 0 c11r6) (.seq (.seq (.reg 0 c11r7) (.cond (.t 65) (.seq (.reg 0 c11r8) .ret) .skip)) (.seq (.reg 1 c11r9) (.seq (.seq (.reg 0 c11r10) (.cond (.t 82) (.seq (.reg 0 c11r11) .ret) .skip)) (.seq (.reg 1 c11r12) (.seq (.seq (.reg 0 c11r13) (.block 0 (.loop c11l17m [(14, some 0, 1)] c11l17))) (.seq (.seq (.zap 14 1 (.zap 14 0 (.reg 0 c11r18))) (.block 2 (.loop c11l30m [] c11l30))) (.seq (.seq (.reg 0 c11r31) (.cond (.t 150) (.seq (.reg 0 c11r32) .ret) .skip)) (.seq (.reg 0 c11r33) (.seq (.reg 0 c11r34) (.seq (.reg 0 c11r35) (.seq (.reg 0 c11r36) (.seq (.reg 0 c11r37) .ret)))))))))))))))))), [.tmp 8], 190⟩
theorem okf11 : f11.Ok Try.prog 11 := ⟨_, _, Try.func11, rfl, by kernel_rfl, by kernel_rfl, by kernel_rfl⟩
end Go.Proofs.Ytmcjoahnlbckoaa.Sk

/- RingParted, reckoned: at every book, two keys and number of rings it answers true. -/
namespace Go.Proofs.Ytmcjoahnlbckoaa.Sk
open Go Go.E Go.E.Sm
set_option maxRecDepth 10000
set_option maxHeartbeats 4000000 in
theorem law11 {K Q : List (Int × Int)} {x1 x2 x3 : Int} (h1 : 0 <= x1 /\ x1 < 256) (h2 : 0 <= x2 /\ x2 < 256) (h3 : 0 <= x3 /\ x3 < 256) : E.Fn Try.prog 11 [bk K Q, .int .u8 x1, .int .u8 x2, .int .u8 x3] [.bool true] := by
 refine fn_of_row okf11 ?_
 have h45 := k45 (K := K) (Q := Q)
 simp only [FRow.start, f11, c11r0, c11r1, bk, SV.cells, go_sem, Nat.reduceAdd, Nat.reduceSub]
 refine callK_of (by simp only [bk, go_sem]) h45 (.inl rfl) ?_
 cases hf : (!greatB K Q && decide (ckB K Q = 0)) with
 | false =>
  simp only [c11r2, go_sem]
  refine wk ?_
  simp only [go_sem]
 | true =>
  rw [Bool.and_eq_true, decide_eq_true_eq] at hf
  have h0 := hf.2
  obtain ⟨hk1, hk8, hq12, _⟩ := ckB_zero h0
  by_cases hA : (K.length : Int) < 2
  ·simp only [c11r2, kS, hA, go_sem, Nat.reduceAdd, Nat.reduceLeDiff]
   intro _
   refine wk ?_
   simp only [go_sem]
  ·simp only [c11r2, kS, hA, c11r3, c11r4, go_sem, Nat.reduceAdd, Nat.reduceLeDiff]
   refine fun _ _ => ⟨inR_small (by omega) (by omega), by omega, ?_⟩
   have ho1 := Int.tmod_nonneg (K.length : Int) h1.1
   have ho2 := Int.tmod_lt_of_pos x1 (show (0 : Int) < K.length by omega)
   have ht1 := Int.tmod_nonneg ((K.length : Int) - 1) h2.1
   have ht2 := Int.tmod_lt_of_pos x2 (show (0 : Int) < (K.length : Int) - 1 by omega)
   have hrot := rot_ne ⟨ho1, ho2⟩ ⟨ht1, ht2⟩
   generalize x1.tmod K.length = o at *
   simp only [c11r5, go_sem]
   refine ⟨inR_small (by omega) (by omega), inR_small (by omega) (by omega), inR_small (by omega) (by omega), by omega, inR_small (by omega) (by omega), by omega, ?_⟩
   generalize (o + 1 + x2.tmod ((K.length : Int) - 1)).tmod K.length = o2 at *
   obtain ⟨a, rfl⟩ := Int.eq_ofNat_of_zero_le ho1
   obtain ⟨b, rfl⟩ := Int.eq_ofNat_of_zero_le hrot.1
   have hmn : minL [(a : Int), (b : Int)] = ((min a b : Nat) : Int) := by rw [minL_two]; omega
   have hmx : maxL [(a : Int), (b : Int)] = ((max a b : Nat) : Int) := by rw [maxL_two]; omega
   have hik : min a b < max a b := by omega
   have hkn : max a b < K.length := by omega
   generalize min a b = i at *
   generalize max a b = k at *
   simp only [c11r6, hmn, hmx, go_sem, reduceCtorEq]
   have h51 := k51 h0 (a := i) (b := k) (by omega) (by omega) (by omega)
   have h25 := k25 (K := K) (Q := Q) (one := i) (two := k)
   have h52 := k52 (K := K) (Q := Q) (one := i) (two := k) (by omega)
   unfold pairE at h25
   rw [if_pos (ckP_ok h0 (by omega) (by omega) (by omega))] at h25
   simp only [c11r7, go_sem, Nat.reduceAdd]
   refine callK_of (by simp only [bk, kS, go_sem]) h51 (.inl rfl) ?_
   by_cases hc : pO (i : Int) (k : Int) ∈ clsh K Q
   ·rw [if_pos hc] at h25
    simp only [hc, c11r8, go_sem, Nat.reduceAdd]
    refine callK_of (by simp only [bk, kS, go_sem]) h25 (.inl rfl) ?_
    simp only [go_sem]
    refine wk ?_
    simp only [go_sem]
   ·have hqn : pO (i : Int) (k : Int) ∉ Q := fun h => hc (mem_clsh.2 (.inl h))
    rw [if_neg hqn] at h52
    simp only [hc, c11r9, go_sem, Nat.reduceAdd]
    refine callK_of (by simp only [bk, kS, go_sem]) h52 (.inr (by simp only [bk, kS, go_sem])) ?_
    by_cases hm : Q.length <= 11
    ·simp only [bk, kS, splice, SV.cells, hm, c11r10, c11r12, c11r13, go_sem, Nat.reduceAdd, Nat.reduceLeDiff]
     refine loop_rule (fun n τ => ∃ j : Nat, n = K.length - 1 - j /\ j <= K.length - 1 /\
      τ = ⟨[.any, .any, .any, .s (.int .u8 x3), .s (.ptr [.slice (K.map pr), .slice (Q.map pr)]), .any, .any, .any, .any, .s (.int .i64 K.length), .s (.int .i64 i), .s (.int .i64 k), .loc 0 0, .any, .loc 1 0, .s (.int .i64 j), .any, .any, .any, .any, .any, .any, .any, .any, .any, .any, .any, .any, .any, .any, .any, .any, .any, .any, .any, .any, .any, .any, .any, .any, .any, .any, .any, .any, .any, .any, .any, .any, .any, .any, .any, .any, .any, .any, .any, .any, .any, .any, .any, .any, .any, .any, .any, .any, .any, .any, .any, .any, .any, .any, .any, .any, .any, .any, .any, .any, .any, .any, .any, .any, .any, .any, .any, .any, .any, .any, .any, .any, .any, .any, .any, .any, .any, .any, .any, .any, .any, .any, .any, .any, .any, .any, .any, .any, .any, .any, .any, .any, .any, .any, .any, .any, .any, .any, .any, .any, .any, .any, .any, .any, .any, .any, .any, .any, .any, .any, .any, .any, .any, .any, .any, .any, .any, .any, .any, .any, .any, .any, .any, .any, .any, .any, .any, .any, .any, .any, .any, .any, .any, .any, .any, .any, .any, .any, .any, .any, .any, .any, .any, .any, .any, .any, .any, .any, .any, .any, .any, .any, .any, .any, .any, .any, .any, .any, .any, .any, .any, .any, .any, .any, .any, .any, .any, .any, .any, .any, .any, .any, .any, .any], [.obj [.s (.slice (K.map pr)), .s (.slice ((qi (pO i k) Q).map pr))], .obj [.sl 2 0 j 2 false, .full []], .row ((twoL (ownK j)).map (.int .i64))]⟩) (K.length - 1) (promo_cell2 rfl rfl rfl) ?_ ?_
     ·simp only [c11l17m, go_sem, ↓reduceIte, reduceCtorEq, Nat.reduceAdd, Nat.reduceLeDiff]
      exact ⟨0, rfl, Nat.zero_le _, rfl⟩
     ·rintro I n τ ⟨j, rfl, hj, rfl⟩ hI
      simp only [c11l17, c11r14, go_sem, ↓reduceIte, Nat.reduceAdd]
      refine ⟨inR_small (by omega) (by omega), ?_⟩
      refine ⟨fun hlt => ?_, fun hge => ?_⟩
      ·have hlt : j < K.length - 1 := by omega
       have htl : (twoL (ownK j)).length = j * 2 := by rw [twoL_len, ownK_len]; omega
       simp only [c11r15, SV.cells, splice, Nat.reduceBEq, Bool.false_eq_true, go_sem, ↓reduceIte, Nat.reduceAdd, Nat.reduceLeDiff, Nat.reduceMul]
       refine ⟨by decide, by decide, rfl, one_pr (p := ((j : Int), (j : Int))), one_pr (p := ((j : Int), (j : Int))), htl.symm, by omega, by omega, ?_⟩
       have e2 : (twoL (ownK j)).map (SV.int .i64) ++ flatE [SV.agg [.int .i64 (j : Int), .int .i64 (j : Int)]] = (twoL (ownK (j + 1))).map (SV.int .i64) := by rw [ownK_succ, twoL_snoc, List.map_append]; rfl
       rw [e2]
       simp only [c11r16, c11l17m, go_sem, ↓reduceIte, reduceCtorEq, Nat.reduceLeDiff]
       exact ⟨inR_small (by omega) (by omega), hI (K.length - 1 - (j + 1)) _ (by omega) ⟨j + 1, rfl, by omega, rfl⟩⟩
      ·have hje : j = K.length - 1 := by omega
       subst hje
       simp only [c11r18, go_sem]
       refine ⟨_, row_two2 ownK_len.symm, ?_⟩
       refine loop_rule (fun n τ => ∃ (u : Nat) (Qy : List (Int × Int)), n = K.length - u /\ u <= K.length /\ oky (clsh K Q) i k (fun c d => c < d /\ d < K.length /\ c < u) Qy /\
        τ = ⟨[.any, .any, .any, .s (.int .u8 x3), .s (.ptr [.slice (K.map pr), .slice (Q.map pr)]), .any, .any, .any, .any, .s (.int .i64 K.length), .s (.int .i64 i), .s (.int .i64 k), .loc 0 0, .any, .loc 1 0, .any, .s (.int .i64 u), .any, .any, .any, .any, .any, .any, .any, .any, .any, .any, .any, .any, .any, .any, .any, .any, .any, .any, .any, .any, .any, .any, .any, .any, .any, .any, .any, .any, .any, .any, .any, .any, .any, .any, .any, .any, .any, .any, .any, .any, .any, .any, .any, .any, .any, .any, .any, .any, .any, .any, .any, .any, .any, .any, .any, .any, .any, .any, .any, .any, .any, .any, .any, .any, .any, .any, .any, .any, .any, .any, .any, .any, .any, .any, .any, .any, .any, .any, .any, .any, .any, .any, .any, .any, .any, .any, .any, .any, .any, .any, .any, .any, .any, .any, .any, .any, .any, .any, .any, .any, .any, .any, .any, .any, .any, .any, .any, .any, .any, .any, .any, .any, .any, .any, .any, .any, .any, .any, .any, .any, .any, .any, .any, .any, .any, .any, .any, .any, .any, .any, .any, .any, .any, .any, .any, .any, .any, .any, .any, .any, .any, .any, .any, .any, .any, .any, .any, .any, .any, .any, .any, .any, .any, .any, .any, .any, .any, .any, .any, .any, .any, .any, .any, .any, .any, .any, .any, .any, .any, .any, .any, .any, .any], [.obj [.s (.slice (K.map pr)), .s (.slice ((qi (pO i k) Q).map pr))], .obj [.s (.slice ((ownK (K.length - 1)).map pr)), .s (.slice (Qy.map pr))], .frz ((twoL (ownK (K.length - 1))).map (.int .i64))]⟩) K.length rfl ?_ ?_
       ·simp only [c11l30m, go_sem, ↓reduceIte, reduceCtorEq, Nat.reduceAdd, Nat.reduceLeDiff]
        exact ⟨0, [], rfl, Nat.zero_le _, ⟨by simp, fun _ x => ⟨by simp, fun ⟨_, _, h, _⟩ => absurd h.2.2 (Nat.not_lt_zero _)⟩⟩, rfl⟩
       ·rintro I2 n τ ⟨u, Qy, rfl, hu, hoky, rfl⟩ hI2
        simp only [c11l30, c11r19, go_sem, ↓reduceIte, Nat.reduceAdd]
        refine ⟨fun hlt => ?_, fun hge => ?_⟩
        ·have hlt : u < K.length := by omega
         simp only [c11r20, go_sem]
         refine ⟨inR_small (by omega) (by omega), ?_⟩
         refine loop_rule (fun n τ => ∃ (v : Nat) (Qy : List (Int × Int)), n = K.length - v /\ u < v /\ v <= K.length /\ oky (clsh K Q) i k (fun c d => c < d /\ d < K.length /\ (c < u \/ c = u /\ d < v)) Qy /\
          τ = ⟨[.any, .any, .any, .s (.int .u8 x3), .s (.ptr [.slice (K.map pr), .slice (Q.map pr)]), .any, .any, .any, .any, .s (.int .i64 K.length), .s (.int .i64 i), .s (.int .i64 k), .loc 0 0, .any, .loc 1 0, .any, .s (.int .i64 u), .s (.int .i64 v), .any, .any, .any, .any, .any, .any, .any, .any, .any, .any, .any, .any, .any, .any, .any, .any, .any, .any, .any, .any, .any, .any, .any, .any, .any, .any, .any, .any, .any, .any, .any, .any, .any, .any, .any, .any, .any, .any, .any, .any, .any, .any, .any, .any, .any, .any, .any, .any, .any, .any, .any, .any, .any, .any, .any, .any, .any, .any, .any, .any, .any, .any, .any, .any, .any, .any, .any, .any, .any, .any, .any, .any, .any, .any, .any, .any, .any, .any, .any, .any, .any, .any, .any, .any, .any, .any, .any, .any, .any, .any, .any, .any, .any, .any, .any, .any, .any, .any, .any, .any, .any, .any, .any, .any, .any, .any, .any, .any, .any, .any, .any, .any, .any, .any, .any, .any, .any, .any, .any, .any, .any, .any, .any, .any, .any, .any, .any, .any, .any, .any, .any, .any, .any, .any, .any, .any, .any, .any, .any, .any, .any, .any, .any, .any, .any, .any, .any, .any, .any, .any, .any, .any, .any, .any, .any, .any, .any, .any, .any, .any, .any, .any, .any, .any, .any, .any, .any, .any, .any, .any, .any, .any], [.obj [.s (.slice (K.map pr)), .s (.slice ((qi (pO i k) Q).map pr))], .obj [.s (.slice ((ownK (K.length - 1)).map pr)), .s (.slice (Qy.map pr))], .frz ((twoL (ownK (K.length - 1))).map (.int .i64))]⟩) (K.length - (u + 1)) rfl ?_ ?_
         ·simp only [c11l28m, go_sem, ↓reduceIte, reduceCtorEq, Nat.reduceAdd, Nat.reduceLeDiff]
          exact ⟨u + 1, Qy, rfl, by omega, by omega, oky_congr hoky fun c d => by constructor <;> intro h <;> omega, rfl⟩
         ·rintro I3 n τ ⟨v, Qy, rfl, huv, hv, hoky, rfl⟩ hI3
          simp only [c11l28, c11r21, go_sem, ↓reduceIte, Nat.reduceAdd]
          refine ⟨fun hlt => ?_, fun hge => ?_⟩
          ·have hlt : v < K.length := by omega
           have hstep : ∀ Qn, oky (clsh K Q) i k (fun c d => (c < d /\ d < K.length /\ (c < u \/ c = u /\ d < v)) \/ c = u /\ d = v) Qn -> oky (clsh K Q) i k (fun c d => c < d /\ d < K.length /\ (c < u \/ c = u /\ d < v + 1)) Qn := fun Qn h => oky_congr h fun c d => by constructor <;> intro h <;> omega
           have h51 := k51 h0 (a := u) (b := v) (by omega) (by omega) (by omega)
           have h52 := k52 (K := ownK (K.length - 1)) (Q := Qy) (one := (jd i k u : Nat)) (two := (jd i k v : Nat)) (by have := hoky.1; omega)
           simp only [c11r22, go_sem]
           refine callK_of (by simp only [go_sem]) (k53 (a := u) (i := i) (k := k) (by omega)) (.inl rfl) ?_
           simp only [go_sem]
           refine callK_of (by simp only [go_sem]) (k53 (a := v) (i := i) (k := k) (by omega)) (.inl rfl) ?_
           by_cases hj : jd i k u = jd i k v
           ·have hj2 : ((jd i k u : Nat) : Int) = (jd i k v : Nat) := by omega
            simp only [c11r23, hj2, c11r27, c11l28m, go_sem, ↓reduceIte, reduceCtorEq, Nat.reduceAdd, Nat.reduceLeDiff]
            exact ⟨inR_small (by omega) (by omega), hI3 (K.length - (v + 1)) _ (by omega) ⟨v + 1, Qy, rfl, by omega, by omega, hstep _ (oky_same hoky (.inl hj)), rfl⟩⟩
           ·have hj2 : ¬ ((jd i k u : Nat) : Int) = (jd i k v : Nat) := by omega
            simp only [c11r23, hj2, go_sem, Nat.reduceAdd]
            refine callK_of (by simp only [bk, kS, go_sem]) h51 (.inl rfl) ?_
            by_cases hcl : pO (u : Int) (v : Int) ∈ clsh K Q
            ·by_cases hl : Qy.length <= 12
             ·have hl2 : (Qy.length : Int) <= 12 := by omega
              simp only [hcl, hl2, go_sem, Nat.reduceAdd]
              intro _
              by_cases hin : pO (jd i k u : Nat) (jd i k v : Nat) ∈ Qy
              ·rw [if_pos hin] at h52
               have hl3 : ¬ 12 < (Qy.length : Int) := by omega
               simp only [c11r24, go_sem, Nat.reduceAdd]
               refine callK_of (by simp only [bk, kS, go_sem]) h52 (.inr (by simp only [bk, kS, go_sem])) ?_
               simp only [bk, kS, splice, SV.cells, c11r25, hl3, go_sem, Nat.reduceAdd]
               intro _
               simp only [c11r27, c11l28m, go_sem, ↓reduceIte, reduceCtorEq, Nat.reduceLeDiff]
               exact ⟨inR_small (by omega) (by omega), hI3 (K.length - (v + 1)) _ (by omega) ⟨v + 1, Qy, rfl, by omega, by omega, hstep _ (oky_same hoky (.inr (.inr (.inr hin)))), rfl⟩⟩
              ·rw [if_neg hin] at h52
               simp only [c11r24, go_sem, Nat.reduceAdd]
               refine callK_of (by simp only [bk, kS, go_sem]) h52 (.inr (by simp only [bk, kS, go_sem])) ?_
               by_cases h11 : Qy.length <= 11
               ·simp only [bk, kS, splice, SV.cells, h11, c11r25, c11r26, c11r27, c11l28m, go_sem, ↓reduceIte, reduceCtorEq, Nat.reduceAdd, Nat.reduceLeDiff]
                exact ⟨inR_small (by omega) (by omega), hI3 (K.length - (v + 1)) _ (by omega) ⟨v + 1, _, rfl, by omega, by omega, hstep _ (oky_new hoky hl hcl hj), rfl⟩⟩
               ·have hq3 : 12 < ((qi (pO (jd i k u : Nat) (jd i k v : Nat)) Qy).length : Int) := by rw [qi_len]; omega
                simp only [bk, kS, splice, SV.cells, h11, c11r25, hq3, c11r26, c11r27, c11l28m, go_sem, ↓reduceIte, reduceCtorEq, Nat.reduceAdd, Nat.reduceLeDiff]
                intro _
                exact ⟨inR_small (by omega) (by omega), hI3 (K.length - (v + 1)) _ (by omega) ⟨v + 1, _, rfl, by omega, by omega, hstep _ (oky_new hoky hl hcl hj), rfl⟩⟩
             ·have hl2 : ¬ (Qy.length : Int) <= 12 := by omega
              simp only [hcl, hl2, c11r27, c11l28m, go_sem, ↓reduceIte, reduceCtorEq, Nat.reduceAdd, Nat.reduceLeDiff]
              intro _
              exact ⟨inR_small (by omega) (by omega), hI3 (K.length - (v + 1)) _ (by omega) ⟨v + 1, Qy, rfl, by omega, by omega, hstep _ (oky_same hoky (.inr (.inr (.inl (by omega))))), rfl⟩⟩
            ·simp only [hcl, c11r27, c11l28m, go_sem, ↓reduceIte, reduceCtorEq, Nat.reduceAdd, Nat.reduceLeDiff]
             exact ⟨inR_small (by omega) (by omega), hI3 (K.length - (v + 1)) _ (by omega) ⟨v + 1, Qy, rfl, by omega, by omega, hstep _ (oky_same hoky (.inr (.inl hcl))), rfl⟩⟩
          ·have hve : v = K.length := by omega
           subst hve
           simp only [c11r29, c11l30m, go_sem, ↓reduceIte, reduceCtorEq, Nat.reduceLeDiff]
           exact ⟨inR_small (by omega) (by omega), hI2 (K.length - (u + 1)) _ (by omega) ⟨u + 1, Qy, rfl, by omega, oky_congr hoky fun c d => by constructor <;> intro h <;> omega, rfl⟩⟩
        ·have hue : u = K.length := by omega
         subst hue
         have h45y := k45 (K := ownK (K.length - 1)) (Q := Qy)
         simp only [c11r31, go_sem, Nat.reduceAdd]
         refine callK_of (by simp only [bk, kS, go_sem]) h45y (.inl rfl) ?_
         cases hg : (!greatB (ownK (K.length - 1)) Qy && decide (ckB (ownK (K.length - 1)) Qy = 0)) with
         | false =>
          simp only [c11r32, go_sem, Nat.reduceAdd]
          refine wk ?_
          simp only [go_sem]
         | true =>
          rw [Bool.and_eq_true, decide_eq_true_eq] at hg
          have h0y := hg.2
          obtain ⟨_, _, hqy, _⟩ := ckB_zero h0y
          obtain ⟨x3, rfl⟩ := Int.eq_ofNat_of_zero_le h3.1
          obtain ⟨m, hmm, hm8⟩ : ∃ m : Nat, (x3 : Int).tmod 9 = m /\ m <= 8 := ⟨x3 % 9, tmod_nat x3 9, by omega⟩
          have hbx : ckB K (qi (pO (i : Int) (k : Int)) Q) = 0 := ckB_qi h0 (by rw [pO_nat hik]; simp only; omega) hqn (by omega)
          have h50a := k50 h0 hm8
          have h50b := k50 hbx hm8
          have h50y := k50 h0y hm8
          rw [ownK_len] at h50y
          have hcol := oky_col (m := m) hik hkn hc (fun x => clsh_qi) (oky_congr hoky fun c d => by constructor <;> intro h <;> omega) hqy
          have hle := colC_le (R := rel0 (clsh K Q)) (m := m) (n := K.length)
          have hpw : m ^ K.length <= 16777216 := by
           have h1 : m ^ K.length <= 8 ^ K.length := Nat.pow_le_pow_left (by omega) _
           have h2 : 8 ^ K.length <= 8 ^ 8 := Nat.pow_le_pow_right (by decide) (by omega)
           have h3 : (8 : Nat) ^ 8 = 16777216 := by decide
           omega
          generalize colC (rel0 (clsh K Q)) m K.length = ca at *
          generalize colC (rel0 (clsh K (qi (pO (i : Int) (k : Int)) Q))) m K.length = cb at *
          generalize colC (rel0 (clsh (ownK (K.length - 1)) Qy)) m (K.length - 1) = cy at *
          have hsum : (ca : Int) = (cb : Int) + cy := by omega
          simp only [c11r33, hmm, go_sem, Nat.reduceAdd]
          refine ⟨inR_small (by omega) (by omega), by decide, ?_⟩
          simp only [c11r34, go_sem, Nat.reduceAdd]
          refine callK_of (by simp only [bk, kS, go_sem]) h50a (.inl rfl) ?_
          simp only [c11r35, go_sem, Nat.reduceAdd]
          refine callK_of (by simp only [bk, kS, go_sem]) h50b (.inl rfl) ?_
          simp only [c11r36, go_sem, Nat.reduceAdd]
          refine callK_of (by simp only [bk, kS, go_sem]) h50y (.inl rfl) ?_
          simp only [c11r37, hsum, go_sem, Nat.reduceAdd]
          refine ⟨inR_small (by omega) (by omega), wk ?_⟩
          simp only [go_sem]
    ·simp only [bk, kS, splice, SV.cells, hm, c11r10, c11r11, go_sem, Nat.reduceAdd, Nat.reduceLeDiff]
     refine wk ?_
     simp only [go_sem]
end Go.Proofs.Ytmcjoahnlbckoaa.Sk
