/- The code of a law in the value semantics. -/
import Derived.Test.YtmcjoahnlbckoaaJ11

set_option linter.all false

namespace Go.Proofs.Ytmcjoahnlbckoaa.Sk
open Go Go.E
def c15r0 : List AOper := [
 oP 3 (.boxS (.t 0)),
 oP 6 (.mov bF)]
def c15r1 : List AOper := [
 oP 20 (.load 2 true (.t 3)),
 oP 21 (.call 45 [(.t 20)]),
 oP 22 (.not (.t 21)),
 oM 23 22,
 oG 24 23 false (.fieldAddr 0 (.t 3)),
 oG 25 23 false (.load 1 false (.t 24)),
 oG 26 23 false (.len false (.t 25)),
 oG 27 23 false (.cmp .lss (.t 26) (nI 2)),
 oP 28 (.pick (.t 23) bT (.t 27))]
def c15r2 : List AOper := [
 oP 29 (.call 18 []),
 oM 6 29]
def c15r3 : List AOper := [
 oM 30 1,
 oP 31 (.conv .i64 (.t 30)),
 oF 32 0 3,
 oL 33 32,
 oN 34 33,
 oP 35 (.div .rem (.t 31) (.t 34)),
 oM 7 35]
def c15r4 : List AOper := [
 oM 36 7,
 oP 37 (.arith .add (.t 36) (nI 1)),
 oM 38 2,
 oP 39 (.conv .i64 (.t 38)),
 oF 40 0 3,
 oL 41 40,
 oN 42 41,
 oP 43 (.arith .sub (.t 42) (nI 1)),
 oP 44 (.div .rem (.t 39) (.t 43)),
 oP 45 (.arith .add (.t 37) (.t 44)),
 oF 46 0 3,
 oL 47 46,
 oN 48 47,
 oP 49 (.div .rem (.t 45) (.t 48)),
 oM 8 49]
def c15r5 : List AOper := [
 oP 51 (.load 2 true (.t 3)),
 oP 52 (.call 46 [(.t 51)]),
 oM 50 52,
 oP 53 (.ext (.t 50) 0),
 oP 54 (.ext (.t 50) 1),
 oP 55 (.ext (.t 50) 2),
 oM 9 53,
 oM 10 54,
 oM 11 55]
def c15r6 : List AOper := [
 oP 57 (.load 2 true (.t 3)),
 oM 58 7,
 oM 59 8,
 oP 60 (.call 43 [(.t 57), (.t 58), (.t 59)]),
 oM 56 60,
 oP 61 (.ext (.t 56) 0),
 oP 62 (.ext (.t 56) 1),
 oM 12 61,
 oM 13 62]
def c15r7 : List AOper := [
 oP 64 (.load 2 true (.t 3)),
 oM 65 8,
 oM 66 7,
 oP 67 (.call 43 [(.t 64), (.t 65), (.t 66)]),
 oM 63 67,
 oP 68 (.ext (.t 63) 0),
 oP 69 (.ext (.t 63) 1),
 oM 14 68,
 oM 15 69]
def c15r8 : List AOper := [
 oM 70 11,
 oP 71 (.not (.t 70)),
 oM 72 71,
 oH 73 72 false 13,
 oG 74 72 false (.cmp .neq (.t 73) (nI 0)),
 oP 75 (.pick (.t 72) bT (.t 74)),
 oM 76 75,
 oH 77 76 false 15,
 oG 78 76 false (.cmp .neq (.t 77) (nI 0)),
 oP 79 (.pick (.t 76) bT (.t 78)),
 oM 80 79,
 oH 81 80 false 12,
 oH 82 80 false 14,
 oG 83 80 false (.cmp .neq (.t 81) (.t 82)),
 oP 84 (.pick (.t 80) bT (.t 83)),
 oM 85 84,
 oH 86 85 false 12,
 oG 87 85 false (.cmp .lss (.t 86) (nI 0)),
 oP 88 (.pick (.t 85) bT (.t 87)),
 oM 89 88,
 oH 90 89 false 12,
 oG 91 89 false (.cmp .gtr (.t 90) (nI 2)),
 oP 92 (.pick (.t 89) bT (.t 91))]
def c15r9 : List AOper := [
 oP 6 (.mov bF)]
def c15r10 : List AOper := [
 oM 93 12,
 oP 94 (.cmp .eql (.t 93) (nI 2)),
 oM 95 94,
 oH 96 95 true 10,
 oH 97 95 true 7,
 oG 98 95 true (.idxA 1 (.t 96) (.t 97)),
 oG 99 95 true (.load 1 false (.t 98)),
 oH 100 95 true 10,
 oH 101 95 true 8,
 oG 102 95 true (.idxA 1 (.t 100) (.t 101)),
 oG 103 95 true (.load 1 false (.t 102)),
 oG 104 95 true (.cmp .neq (.t 99) (.t 103)),
 oP 105 (.pick (.t 95) (.t 104) bF),
 oM 106 105,
 oH 107 106 false 12,
 oG 108 106 false (.cmp .eql (.t 107) (nI 0)),
 oH 109 106 false 108,
 oH 110 109 true 10,
 oH 111 109 true 7,
 oG 112 109 true (.idxA 1 (.t 110) (.t 111)),
 oG 113 109 true (.load 1 false (.t 112)),
 oH 114 109 true 10,
 oH 115 109 true 8,
 oG 116 109 true (.idxA 1 (.t 114) (.t 115)),
 oG 117 109 true (.load 1 false (.t 116)),
 oG 118 109 true (.cmp .eql (.t 113) (.t 117)),
 oG 119 106 false (.pick (.t 109) (.t 118) bF),
 oP 120 (.pick (.t 106) bT (.t 119))]
def c15r11 : List AOper := [
 oP 6 (.mov bF)]
def c15r12 : List AOper := [
 oP 121 (.load 2 true (.t 3)),
 oM 122 7,
 oM 123 8,
 oP 124 (.call 51 [(.t 121), (.t 122), (.t 123)])]
def c15r13 : List AOper := [
 oM 125 12,
 oP 126 (.cmp .eql (.t 125) (nI 0)),
 oM 127 126,
 oG 128 127 true (.call 18 []),
 oP 129 (.pick (.t 127) (.t 128) bF),
 oM 6 129]
def c15r14 : List AOper := [
 oP 131 (.load 2 true (.t 3)),
 oM 132 7,
 oM 133 8,
 oP 134 (.call 52 [(.t 131), (.t 132), (.t 133)]),
 oM 130 134,
 oP 135 (.ext (.t 130) 0),
 oP 136 (.ext (.t 130) 1),
 oP 16 (.alloc [(.full []), (.full [])]),
 ⟨none, none, .store 2 (.t 16) (.t 135)⟩,
 oM 17 136]
def c15r15 : List AOper := [
 oM 137 17,
 oP 138 (.not (.t 137))]
def c15r16 : List AOper := [
 oP 139 (.call 18 []),
 oM 6 139]
def c15r17 : List AOper := [
 oP 141 (.load 2 true (.t 16)),
 oP 142 (.call 46 [(.t 141)]),
 oM 140 142,
 oP 143 (.ext (.t 140) 0),
 oP 144 (.ext (.t 140) 1),
 oP 145 (.ext (.t 140) 2),
 oM 18 143,
 oM 19 144,
 oM 11 145]
def c15r18 : List AOper := [
 oM 146 11,
 oM 147 146,
 oH 148 147 true 12,
 oG 149 147 true (.cmp .eql (.t 148) (nI 2)),
 oH 150 147 true 18,
 oH 151 147 true 9,
 oG 152 147 true (.arith .add (.t 151) (nI 1)),
 oG 153 147 true (.cmp .eql (.t 150) (.t 152)),
 oG 154 147 true (.eql false [.bool] false (.t 149) (.t 153)),
 oP 155 (.pick (.t 147) (.t 154) bF),
 oM 156 155,
 oH 157 156 true 18,
 oH 158 156 true 9,
 oG 159 156 true (.cmp .eql (.t 157) (.t 158)),
 oH 160 156 true 159,
 oH 161 160 false 18,
 oH 162 160 false 9,
 oG 163 160 false (.arith .add (.t 162) (nI 1)),
 oG 164 160 false (.cmp .eql (.t 161) (.t 163)),
 oG 165 156 true (.pick (.t 160) bT (.t 164)),
 oP 166 (.pick (.t 156) (.t 165) bF),
 oM 167 166,
 oG 168 167 true (.call 18 []),
 oP 169 (.pick (.t 167) (.t 168) bF),
 oM 6 169]
def f15 : FRow := ⟨(.seq (.reg 0 c15r0) (.seq (.seq (.reg 0 c15r1) (.cond (.t 28) (.seq (.reg 0 c15r2) .ret) .skip)) (.seq (.reg 0 c15r3) (.seq (.reg 0 c15r4) (.seq (.reg 0 c15r5) (.seq (.reg 0 c15r6) (.seq (.reg 0 c15r7) (.seq (.seq (.reg 0 c15r8) (.cond (.t 92) (.seq (.reg 0 c15r9) .ret) .skip)) (.seq (.seq (.reg 0 c15r10) (.cond (.t 120) (.seq (.reg 0 c15r11) .ret) .skip)) (.seq (.seq (.reg 0 c15r12) (.cond (.t 124) (.seq (.reg 0 c15r13) .ret) .skip)) (.seq (.reg 1 c15r14) (.seq (.seq (.reg 0 c15r15) (.cond (.t 138) (.seq (.reg 0 c15r16) .ret) .skip)) (.seq (.reg 0 c15r17) (.seq (.reg 0 c15r18) .ret)))))))))))))), [.tmp 6], 170⟩
theorem okf15 : f15.Ok Try.prog 15 := ⟨_, _, Try.func15, rfl, by kernel_rfl, by kernel_rfl, by kernel_rfl⟩
end Go.Proofs.Ytmcjoahnlbckoaa.Sk

/- RingKind, reckoned: at every book and two keys it answers true. -/
namespace Go.Proofs.Ytmcjoahnlbckoaa.Sk
open Go Go.E Go.E.Sm
set_option maxRecDepth 10000
theorem get_getD {l : List Int} {i : Nat} (h : i < l.length) : l[i]? = some (l.getD i 0) := by
 rw [List.getD_eq_getElem?_getD, List.getElem?_eq_getElem h]; rfl
set_option maxHeartbeats 4000000 in
theorem law15 {K Q : List (Int × Int)} {x1 x2 : Int} (h1 : 0 <= x1 /\ x1 < 256) (h2 : 0 <= x2 /\ x2 < 256) : E.Fn Try.prog 15 [bk K Q, .int .u8 x1, .int .u8 x2] [.bool true] := by
  refine fn_of_row okf15 ?_
  have h45 := k45 (K := K) (Q := Q)
  simp only [FRow.start, f15, c15r0, c15r1, bk, SV.cells, go_sem, Nat.reduceAdd, Nat.reduceSub]
  refine callK_of (by simp only [bk, go_sem]) h45 (.inl rfl) ?_
  cases hf : (!greatB K Q && decide (ckB K Q = 0)) with
  | false =>
    simp only [c15r2, go_sem]
    refine wk ?_
    simp only [go_sem]
  | true =>
    rw [Bool.and_eq_true, decide_eq_true_eq] at hf
    have h0 := hf.2
    obtain ⟨hk1, hk8, hq12, _⟩ := ckB_zero h0
    by_cases hA : (K.length : Int) < 2
    · simp only [c15r2, kS, hA, go_sem, Nat.reduceAdd, Nat.reduceLeDiff]
      intro _
      refine wk ?_
      simp only [go_sem]
    · simp only [c15r2, kS, hA, c15r3, go_sem, Nat.reduceAdd, Nat.reduceLeDiff]
      refine fun _ => ⟨inR_small (by omega) (by omega), by omega, fun _ => ?_⟩
      have ho1 := Int.tmod_nonneg (K.length : Int) h1.1
      have ho2 := Int.tmod_lt_of_pos x1 (show (0 : Int) < K.length by omega)
      have ht1 := Int.tmod_nonneg ((K.length : Int) - 1) h2.1
      have ht2 := Int.tmod_lt_of_pos x2 (show (0 : Int) < (K.length : Int) - 1 by omega)
      have hrot := rot_ne ⟨ho1, ho2⟩ ⟨ht1, ht2⟩
      generalize x1.tmod K.length = o at *
      simp only [c15r4, go_sem, Nat.reduceAdd, Nat.reduceLeDiff]
      refine ⟨inR_small (by omega) (by omega), inR_small (by omega) (by omega), inR_small (by omega) (by omega), by omega, inR_small (by omega) (by omega), by omega, fun _ => ?_⟩
      generalize (o + 1 + x2.tmod ((K.length : Int) - 1)).tmod K.length = o2 at *
      obtain ⟨a, rfl⟩ := Int.eq_ofNat_of_zero_le ho1
      obtain ⟨b, rfl⟩ := Int.eq_ofNat_of_zero_le hrot.1
      have ha : a < K.length := by omega
      have hb : b < K.length := by omega
      have hab : a ≠ b := by omega
      have h43 := k43 (K := K) (Q := Q) (one := a) (two := b)
      have h43b := k43 (K := K) (Q := Q) (one := b) (two := a)
      rw [<- kndR_eq, kndR2, if_pos (ckP_ok h0 (by omega) (by omega) (by omega))] at h43
      rw [<- kndR_eq, kndR2, if_pos (ckP_ok h0 (by omega) (by omega) (by omega)), knd_comm] at h43b
      have hk := knd_law (cl := clsh K Q) hk1 ha hb hab
      have hf := hk.2.2.2 (clsh K (qi (pO a b) Q)) (fun x => clsh_qi)
      have hp := fw_plus (n := K.length) hab (fun x => clsh_qi (K := K) (Q := Q) (p := pO a b) (x := x))
      have hk3 := hk.2.2.1
      have hra := get_getD (l := rngs (clsh K Q) K.length) (i := a) (by rw [rngs_len hk1]; exact ha)
      have hrb := get_getD (l := rngs (clsh K Q) K.length) (i := b) (by rw [rngs_len hk1]; exact hb)
      have h51 := k51 h0 (a := a) (b := b) (by omega) (by omega) (by omega)
      have h52 := k52 (K := K) (Q := Q) (one := a) (two := b) (by omega)
      have h46 := k46 h0
      have hkr := knd_rng (cl := clsh K Q) (n := K.length) (a := a) (b := b)
      have h46x : pO a b ∉ Q -> Q.length + 1 <= 12 -> _ := fun hn hl => k46 (ckB_qi (p := pO a b) h0 (by unfold pO; simp only; omega) hn hl)
      have hwl := fw_le (cl := clsh K Q) (n := K.length)
      generalize kndV2 (clsh K Q) K.length a b = kv at *
      generalize (rngs (clsh K Q) K.length).getD a 0 = ra at *
      generalize (rngs (clsh K Q) K.length).getD b 0 = rb at *
      generalize rngs (clsh K Q) K.length = rr at *
      generalize fw (clsh K Q) K.length = w at *
      generalize fw (clsh K (qi (pO a b) Q)) K.length = mw at *
      have hn1 : ¬ kv < 0 := by omega
      have hn2 : ¬ 2 < kv := by omega
      simp only [c15r5, go_sem, Nat.reduceAdd]
      refine callK_of (by simp only [bk, kS, go_sem]) h46 (.inr (by simp only [bk, kS, go_sem])) ?_
      simp only [c15r6, go_sem, Nat.reduceAdd]
      refine callK_of (by simp only [bk, kS, go_sem]) h43 (.inl rfl) ?_
      simp only [c15r7, go_sem, Nat.reduceAdd]
      refine callK_of (by simp only [bk, kS, go_sem]) h43b (.inl rfl) ?_
      simp only [c15r8, hn1, hn2, go_sem]
      have hv : kv = 0 \/ kv = 1 \/ kv = 2 := by omega
      rcases hv with rfl | rfl | rfl
      case' inl =>
        have hne := hk.2.1 rfl
        simp only [c15r10, hra, hrb, hne, ints, Int.reduceEq, go_sem]
        have hd : decide ((mw : Int) = w + 1) = false := decide_eq_false fun e => absurd (hf.2 (by omega)) (by decide)
      case' inr.inl =>
        simp only [c15r10, Int.reduceEq, go_sem]
        have hd : decide ((mw : Int) = w + 1) = false := decide_eq_false fun e => absurd (hf.2 (by omega)) (by decide)
      case' inr.inr =>
        have hne := hk.1 rfl
        subst hne
        simp only [c15r10, hra, hrb, ints, Int.reduceEq, go_sem]
        have hd : decide ((mw : Int) = w + 1) = true := decide_eq_true (by have := hf.1 rfl; omega)
      all_goals
        simp only [c15r12, go_sem, Nat.reduceAdd]
        refine callK_of (by simp only [bk, kS, go_sem]) h51 (.inl rfl) ?_
        by_cases hc : pO (a : Int) (b : Int) ∈ clsh K Q
        · first
            | exact absurd (hk3 hc) (by decide)
            | (simp only [hc, c15r13, go_sem]
               exact wk (by simp only [go_sem]))
        · have hqn : pO (a : Int) (b : Int) ∉ Q := fun h => hc (mem_clsh.2 (.inl h))
          rw [if_neg hqn] at h52
          simp only [hc, c15r14, go_sem, Nat.reduceAdd]
          refine callK_of (by simp only [bk, kS, go_sem]) h52 (.inr (by simp only [bk, kS, go_sem])) ?_
          by_cases hm : Q.length <= 11
          · have h46y := h46x hqn (by omega)
            simp only [bk, kS, splice, SV.cells, hm, c15r15, c15r17, go_sem, Nat.reduceAdd, Nat.reduceLeDiff]
            refine callK_of (by simp only [bk, kS, go_sem]) h46y (.inr (by simp only [bk, kS, go_sem])) ?_
            simp only [c15r18, Int.reduceEq, hd, go_sem]
            refine ⟨inR_small (by omega) (by omega), fun e => ?_, fun e => ?_⟩
            · first
                | exact absurd (of_decide_eq_true hd) (by omega)
                | exact wk (by simp only [go_sem])
            · first
                | exact absurd (of_decide_eq_false hd) (by omega)
                | exact ⟨inR_small (by omega) (by omega), wk (by simp only [go_sem])⟩
          · simp only [bk, kS, splice, SV.cells, hm, c15r15, c15r16, go_sem, Nat.reduceAdd, Nat.reduceLeDiff]
            refine wk ?_
            simp only [go_sem]
end Go.Proofs.Ytmcjoahnlbckoaa.Sk
