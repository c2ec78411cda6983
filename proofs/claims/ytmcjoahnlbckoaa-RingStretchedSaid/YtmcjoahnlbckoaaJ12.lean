/- The code of a law in the value semantics. -/
import Derived.Test.YtmcjoahnlbckoaaJ11

set_option linter.all false

namespace Go.Proofs.Ytmcjoahnlbckoaa.Sk
open Go Go.E
def c14r0 : List AOper := [
 oP 5 (.boxS (.t 0)),
 oP 10 (.mov bF)]
def c14r1 : List AOper := [
 oP 29 (.load 2 true (.t 5)),
 oP 30 (.call 45 [(.t 29)]),
 oP 31 (.not (.t 30)),
 oM 32 31,
 oG 33 32 false (.fieldAddr 0 (.t 5)),
 oG 34 32 false (.load 1 false (.t 33)),
 oG 35 32 false (.len false (.t 34)),
 oG 36 32 false (.cmp .lss (.t 35) (nI 2)),
 oP 37 (.pick (.t 32) bT (.t 36))]
def c14r2 : List AOper := [
 oP 38 (.call 18 []),
 oM 10 38]
def c14r3 : List AOper := [
 oM 39 1,
 oP 40 (.div .rem (.t 39) (.c (.s (.int .u8 4)))),
 oP 41 (.conv .i64 (.t 40)),
 oP 42 (.arith .add (nI 1) (.t 41)),
 oM 43 2,
 oP 44 (.div .rem (.t 43) (.c (.s (.int .u8 201)))),
 oP 45 (.conv .i64 (.t 44)),
 oM 11 42,
 oM 12 45]
def c14r4 : List AOper := [
 oF 46 1 5,
 oL 47 46,
 oP 48 (.build [(.full []), (.full [])] [(1, 1, (.t 47))]),
 oP 13 (.alloc [(.full []), (.full [])]),
 ⟨none, none, .store 2 (.t 13) (.t 48)⟩]
def c14r5 : List AOper := [
 oP 14 (.mov (nI 0))]
def c14r6 : List AOper := [
 oM 49 14,
 oF 50 0 5,
 oL 51 50,
 oN 52 51,
 oP 53 (.cmp .lss (.t 49) (.t 52))]
def c14r7 : List AOper := [
 oF 56 0 5,
 oL 57 56,
 oM 58 14,
 oP 59 (.idxA 2 (.t 57) (.t 58)),
 oF 60 1 59,
 oL 61 60,
 oP 62 (.cmp .gtr (.t 61) (nI 200))]
def c14r8 : List AOper := [
 oP 63 (.call 18 []),
 oM 10 63]
def c14r9 : List AOper := [
 oF 64 0 13,
 oL 65 64,
 oF 66 0 5,
 oL 67 66,
 oM 68 14,
 oP 69 (.idxA 2 (.t 67) (.t 68)),
 oF 70 0 69,
 oL 71 70,
 oM 72 11,
 oP 73 (.arith .mul (.t 71) (.t 72)),
 oM 74 12,
 oP 75 (.arith .add (.t 73) (.t 74)),
 oF 76 0 5,
 oL 77 76,
 oM 78 14,
 oP 79 (.idxA 2 (.t 77) (.t 78)),
 oF 80 1 79,
 oL 81 80,
 oM 82 11,
 oP 83 (.arith .mul (.t 81) (.t 82)),
 oM 84 12,
 oP 85 (.arith .add (.t 83) (.t 84)),
 oP 86 (.build [(.s (.int .i64 0)), (.s (.int .i64 0))] [(0, 1, (.t 75)), (1, 1, (.t 85))]),
 oP 87 (.buildSl 2 1 (.agg [(.int .i64 0), (.int .i64 0)]) [(0, (.t 86))]),
 oP 88 (.append 2 16 (.t 65) (.t 87)),
 oF 89 0 13,
 ⟨none, none, .store 1 (.t 89) (.t 88)⟩]
def c14r10 : List AOper := [
 oM 54 14,
 oP 55 (.arith .add (.t 54) (nI 1)),
 oM 14 55]
def c14l11 : ACode := (.seq (.seq (.reg 0 c14r6) (.cond (.t 53) .skip (.exit 0))) (.seq (.block 1 (.seq (.seq (.reg 0 c14r7) (.cond (.t 62) (.seq (.reg 0 c14r8) .ret) .skip)) (.reg 1 c14r9))) (.reg 0 c14r10)))
def c14l11m : List Bool := [fF,fF,fF,tT,tT,tT,fF,fF,fF,fF,fF,tT,tT,tT,tT,fF,fF,fF,fF,fF,fF,fF,fF,fF,fF,fF,fF,fF,fF,fF,fF,fF,fF,fF,fF,fF,fF,fF,fF,fF,fF,fF,fF,fF,fF,fF,fF,fF,fF,fF,fF,fF,fF,fF,fF,fF,fF,fF,fF,fF,fF,fF,fF,fF,fF,fF,fF,fF,fF,fF,fF,fF,fF,fF,fF,fF,fF,fF,fF,fF,fF,fF,fF,fF,fF,fF,fF,fF,fF,fF,fF,fF,fF,fF,fF,fF,fF,fF,fF,fF,fF,fF,fF,fF,fF,fF,fF,fF,fF,fF,fF,fF,fF,fF,fF,fF,fF,fF,fF,fF,fF,fF,fF,fF,fF,fF,fF,fF,fF,fF,fF,fF,fF,fF,fF,fF,fF,fF,fF,fF,fF,fF,fF,fF,fF,fF,fF,fF,fF,fF,fF,fF,fF,fF,fF,fF,fF,fF,fF,fF,fF,fF,fF,fF,fF,fF,fF,fF,fF,fF,fF,fF,fF,fF,fF,fF,fF,fF,fF,fF,fF,fF,fF,fF]
def c14r12 : List AOper := [
 oM 90 3,
 oP 91 (.conv .i64 (.t 90)),
 oF 92 0 5,
 oL 93 92,
 oN 94 93,
 oP 95 (.div .rem (.t 91) (.t 94)),
 oM 15 95]
def c14r13 : List AOper := [
 oM 96 15,
 oP 97 (.arith .add (.t 96) (nI 1)),
 oM 98 4,
 oP 99 (.conv .i64 (.t 98)),
 oF 100 0 5,
 oL 101 100,
 oN 102 101,
 oP 103 (.arith .sub (.t 102) (nI 1)),
 oP 104 (.div .rem (.t 99) (.t 103)),
 oP 105 (.arith .add (.t 97) (.t 104)),
 oF 106 0 5,
 oL 107 106,
 oN 108 107,
 oP 109 (.div .rem (.t 105) (.t 108)),
 oM 16 109]
def c14r14 : List AOper := [
 oP 111 (.load 2 true (.t 5)),
 oP 112 (.call 46 [(.t 111)]),
 oM 110 112,
 oP 113 (.ext (.t 110) 0),
 oP 114 (.ext (.t 110) 1),
 oP 115 (.ext (.t 110) 2),
 oM 17 113,
 oM 18 114,
 oM 19 115]
def c14r15 : List AOper := [
 oP 117 (.load 2 true (.t 13)),
 oP 118 (.call 46 [(.t 117)]),
 oM 116 118,
 oP 119 (.ext (.t 116) 0),
 oP 120 (.ext (.t 116) 1),
 oP 121 (.ext (.t 116) 2),
 oM 20 119,
 oM 21 120,
 oM 22 121]
def c14r16 : List AOper := [
 oP 123 (.load 2 true (.t 5)),
 oP 124 (.call 21 [(.t 123)]),
 oM 122 124,
 oP 125 (.ext (.t 122) 0),
 oP 126 (.ext (.t 122) 1),
 oP 127 (.ext (.t 122) 2),
 oM 23 125,
 oM 24 126,
 oM 25 127]
def c14r17 : List AOper := [
 oP 129 (.load 2 true (.t 13)),
 oP 130 (.call 21 [(.t 129)]),
 oM 128 130,
 oP 131 (.ext (.t 128) 0),
 oP 132 (.ext (.t 128) 1),
 oP 133 (.ext (.t 128) 2),
 oM 26 131,
 oM 27 132,
 oM 28 133]
def c14r18 : List AOper := [
 oP 134 (.load 2 true (.t 5)),
 oM 135 15,
 oM 136 16,
 oP 137 (.call 25 [(.t 134), (.t 135), (.t 136)]),
 oP 138 (.load 2 true (.t 13)),
 oM 139 15,
 oM 140 16,
 oP 141 (.call 25 [(.t 138), (.t 139), (.t 140)]),
 oP 142 (.cmp .eql (.t 137) (.t 141)),
 oM 143 142,
 oH 144 143 true 19,
 oP 145 (.pick (.t 143) (.t 144) bF),
 oM 146 145,
 oH 147 146 true 22,
 oP 148 (.pick (.t 146) (.t 147) bF),
 oM 149 148,
 oH 150 149 true 17,
 oH 151 149 true 20,
 oG 152 149 true (.cmp .eql (.t 150) (.t 151)),
 oP 153 (.pick (.t 149) (.t 152) bF),
 oM 154 153,
 oH 155 154 true 18,
 oH 156 154 true 21,
 oG 157 154 true (.call 33 [(.t 155), (.t 156)]),
 oP 158 (.pick (.t 154) (.t 157) bF),
 oM 159 158,
 oH 160 159 true 25,
 oG 161 159 true (.cmp .eql (.t 160) (nI 0)),
 oP 162 (.pick (.t 159) (.t 161) bF),
 oM 163 162,
 oH 164 163 true 28,
 oG 165 163 true (.cmp .eql (.t 164) (nI 0)),
 oP 166 (.pick (.t 163) (.t 165) bF),
 oM 167 166,
 oH 168 167 true 24,
 oH 169 167 true 27,
 oG 170 167 true (.cmp .eql (.t 168) (.t 169)),
 oP 171 (.pick (.t 167) (.t 170) bF),
 oM 172 171,
 oH 173 172 true 26,
 oH 174 172 true 23,
 oH 175 172 true 11,
 oG 176 172 true (.arith .mul (.t 174) (.t 175)),
 oH 177 172 true 12,
 oG 178 172 true (.arith .add (.t 176) (.t 177)),
 oG 179 172 true (.cmp .eql (.t 173) (.t 178)),
 oP 180 (.pick (.t 172) (.t 179) bF),
 oM 181 180,
 oG 182 181 true (.call 18 []),
 oP 183 (.pick (.t 181) (.t 182) bF),
 oM 10 183]
def f14 : FRow := ⟨(.seq (.reg 0 c14r0) (.seq (.seq (.reg 0 c14r1) (.cond (.t 37) (.seq (.reg 0 c14r2) .ret) .skip)) (.seq (.reg 0 c14r3) (.seq (.reg 1 c14r4) (.seq (.seq (.reg 0 c14r5) (.block 0 (.loop c14l11m [(13, some 0, 1)] c14l11))) (.seq (.reg 0 c14r12) (.seq (.reg 0 c14r13) (.seq (.reg 0 c14r14) (.seq (.zap 13 0 (.reg 0 c14r15)) (.seq (.reg 0 c14r16) (.seq (.zap 13 0 (.reg 0 c14r17)) (.seq (.zap 13 0 (.reg 0 c14r18)) .ret)))))))))))), [.tmp 10], 184⟩
theorem okf14 : f14.Ok Try.prog 14 := ⟨_, _, Try.func14, rfl, by kernel_rfl, by kernel_rfl, by kernel_rfl⟩
end Go.Proofs.Ytmcjoahnlbckoaa.Sk

/- RingStretched, reckoned: at every book, stretch, shift and two keys it answers true. -/
namespace Go.Proofs.Ytmcjoahnlbckoaa.Sk
open Go Go.E Go.E.Sm
set_option maxRecDepth 10000
set_option maxHeartbeats 2000000 in
theorem law14 {K Q : List (Int × Int)} {x1 x2 x3 x4 : Int} (h1 : 0 <= x1 /\ x1 < 256) (h2 : 0 <= x2 /\ x2 < 256) (h3 : 0 <= x3 /\ x3 < 256) (h4 : 0 <= x4 /\ x4 < 256) : E.Fn Try.prog 14 [bk K Q, .int .u8 x1, .int .u8 x2, .int .u8 x3, .int .u8 x4] [.bool true] := by
 refine fn_of_row okf14 ?_
 have h45 := k45 (K := K) (Q := Q)
 simp only [FRow.start, f14, c14r0, c14r1, bk, SV.cells, go_sem, Nat.reduceAdd, Nat.reduceSub]
 refine callK_of (by simp only [bk, go_sem]) h45 (.inl rfl) ?_
 cases hf : (!greatB K Q && decide (ckB K Q = 0)) with
 | false =>
  simp only [c14r2, go_sem]
  refine wk ?_
  simp only [go_sem]
 | true =>
  rw [Bool.and_eq_true, decide_eq_true_eq] at hf
  have h0 := hf.2
  obtain ⟨hk1, hk8, _⟩ := ckB_zero h0
  by_cases hA : (K.length : Int) < 2
  ·simp only [c14r2, kS, hA, go_sem, Nat.reduceAdd, Nat.reduceLeDiff]
   intro _
   refine wk ?_
   simp only [go_sem]
  ·have ht : (x1.tmod 4) = x1 % 4 := Int.tmod_eq_emod_of_nonneg h1.1
   have hl : (x2.tmod 201) = x2 % 201 := Int.tmod_eq_emod_of_nonneg h2.1
   have hkr := fun k hk => key_rng (K := K) (k := k) h0 hk
   have ht1 : 1 <= 1 + x1.tmod 4 /\ 1 + x1.tmod 4 <= 4 := by omega
   have hl1 : 0 <= x2.tmod 201 /\ x2.tmod 201 <= 200 := by omega
   have in1 : inR .i64 (x1.tmod 4) := inR_small (by omega) (by omega)
   have in2 : inR .i64 (1 + x1.tmod 4) := inR_small (by omega) (by omega)
   have in3 : inR .i64 (x2.tmod 201) := inR_small (by omega) (by omega)
   simp only [c14r2, kS, hA, c14r3, go_sem, Nat.reduceAdd, Nat.reduceLeDiff]
   intro _
   refine ⟨by decide, in1, in2, by decide, in3, ?_⟩
   generalize 1 + x1.tmod 4 = t at *
   generalize x2.tmod 201 = l at *
   simp only [c14r4, splice, c14r5, go_sem, ↓reduceIte, Nat.reduceAdd, Nat.reduceLeDiff]
   refine loop_rule (fun n τ => ∃ i : Nat, n = K.length - i /\ i <= K.length /\ (∀ k ∈ K.take i, k.2 <= 200) /\
    τ = ⟨[.any, .any, .any, .s (.int .u8 x3), .s (.int .u8 x4), .s (.ptr [.slice (K.map pr), .slice (Q.map pr)]), .any, .any, .any, .any, .any, .s (.int .i64 t), .s (.int .i64 l), .loc 0 0, .s (.int .i64 i), .any, .any, .any, .any, .any, .any, .any, .any, .any, .any, .any, .any, .any, .any, .any, .any, .any, .any, .any, .any, .any, .any, .any, .any, .any, .any, .any, .any, .any, .any, .any, .any, .any, .any, .any, .any, .any, .any, .any, .any, .any, .any, .any, .any, .any, .any, .any, .any, .any, .any, .any, .any, .any, .any, .any, .any, .any, .any, .any, .any, .any, .any, .any, .any, .any, .any, .any, .any, .any, .any, .any, .any, .any, .any, .any, .any, .any, .any, .any, .any, .any, .any, .any, .any, .any, .any, .any, .any, .any, .any, .any, .any, .any, .any, .any, .any, .any, .any, .any, .any, .any, .any, .any, .any, .any, .any, .any, .any, .any, .any, .any, .any, .any, .any, .any, .any, .any, .any, .any, .any, .any, .any, .any, .any, .any, .any, .any, .any, .any, .any, .any, .any, .any, .any, .any, .any, .any, .any, .any, .any, .any, .any, .any, .any, .any, .any, .any, .any, .any, .any, .any, .any, .any, .any, .any, .any, .any, .any, .any, .any, .any, .any, .any, .any, .any, .any, .any, .any, .any], [.obj [.sl 1 0 i 2 false, .s (.slice (Q.map pr))], .row ((twoL ((K.take i).map (str t l))).map (.int .i64))]⟩) K.length (promo_cell2 rfl rfl rfl) ?_ ?_
   ·simp only [c14l11m, go_sem, ↓reduceIte, reduceCtorEq, Nat.reduceAdd, Nat.reduceLeDiff]
    exact ⟨0, rfl, Nat.zero_le _, by simp, rfl⟩
   ·rintro I n τ ⟨i, rfl, hi, hall, rfl⟩ hI
    simp only [c14l11, c14r6, go_sem, ↓reduceIte, Nat.reduceAdd, Nat.reduceLeDiff]
    intro _
    refine ⟨fun hlt => ?_, fun hge => ?_⟩
    ·have hlt : i < K.length := by omega
     have hx : K[i]? = some K[i] := List.getElem?_eq_getElem hlt
     have hr := hkr K[i] (List.getElem_mem hlt)
     have hts : twoL ((K.take (i + 1)).map (str t l)) = twoL ((K.take i).map (str t l)) ++ [K[i].1 * t + l, K[i].2 * t + l] := by rw [List.take_succ, hx, List.map_append]; exact twoL_snoc
     have htl : (twoL ((K.take i).map (str t l))).length = i * 2 := by rw [twoL_len, List.length_map, List.length_take]; omega
     have hall2 : K[i].2 <= 200 -> ∀ k ∈ K.take (i + 1), k.2 <= 200 := fun h k hk => by
      rw [List.take_succ, hx, List.mem_append] at hk
      rcases hk with hk | hk
      ·exact hall k hk
      ·simp at hk; rw [hk]; exact h
     generalize K[i] = p at hx hr hts hall2
     by_cases hb : (200 : Int) < p.2
     ·simp only [c14r7, hx, pr, SV.cells, hb, c14r8, go_sem, Nat.reduceAdd, Nat.reduceLeDiff]
      refine wk ?_
      simp only [go_sem]
     ·have hm1 := Int.mul_nonneg hr.1 (show 0 <= t by omega)
      have hm2 := Int.mul_le_mul_of_nonneg_right hr.2.1 (show 0 <= t by omega)
      have hm3 := Int.mul_le_mul (show p.2 <= 200 by omega) ht1.2 (show 0 <= t by omega) (by omega)
      simp only [c14r7, hx, pr, SV.cells, hb, c14r9, splice, Nat.reduceBEq, Bool.false_eq_true, go_sem, ↓reduceIte, Nat.reduceAdd, Nat.reduceLeDiff, Nat.reduceMul]
      refine ⟨inR_small (by omega) (by omega), inR_small (by omega) (by omega), inR_small (by omega) (by omega), inR_small (by omega) (by omega), by decide, by decide, rfl, one_pr (p := (p.1 * t + l, p.2 * t + l)), one_pr (p := (p.1 * t + l, p.2 * t + l)), htl.symm, by omega, by omega, ?_⟩
      have e2 : (twoL ((K.take i).map (str t l))).map (SV.int .i64) ++ flatE [SV.agg [.int .i64 (p.1 * t + l), .int .i64 (p.2 * t + l)]] = (twoL ((K.take (i + 1)).map (str t l))).map (SV.int .i64) := by rw [hts, List.map_append]; rfl
      rw [e2]
      simp only [c14r10, c14l11m, go_sem, ↓reduceIte, reduceCtorEq, Nat.reduceLeDiff]
      exact ⟨inR_small (by omega) (by omega), hI (K.length - (i + 1)) _ (by omega) ⟨i + 1, rfl, by omega, hall2 (by omega), rfl⟩⟩
    ·have hie : i = K.length := by omega
     subst hie
     rw [List.take_length] at hall ⊢
     have hb1 := ckB_str (l := l) (t := t) (by omega) ht1.2 hl1 h0 hall
     have hsl : (twoL (K.map (str t l))).length = K.length * 2 := by rw [twoL_len, List.length_map]; omega
     have hro : rowOf 0 K.length 2 ((twoL (K.map (str t l))).map (SV.int .i64)) = some ((K.map (str t l)).map pr) := by
      rw [rowOf, if_pos (by rw [List.length_map, hsl]; omega), elems, if_neg (by decide), List.drop_zero]
      have := chunk_two (K.map (str t l))
      rw [List.length_map] at this
      rw [this]
     have h46 := k46 h0
     have h46b := k46 hb1
     rw [clsh_str (by omega), List.length_map] at h46b
     have h21 := k21 (K := K) (Q := Q)
     have h21b := k21 (K := K.map (str t l)) (Q := Q)
     unfold dayR at h21 h21b
     rw [if_pos h0] at h21
     have hne : K ≠ [] := fun e => by rw [e] at hk1; simp at hk1
     rw [if_pos hb1, dayK_str (by omega) hne, show (str t l (dayK K)).1 = (dayK K).1 * t + l from rfl, outC_str (by omega)] at h21b
     have hd := hkr _ (dayK_spec hne).1
     have hm1 := Int.mul_nonneg hd.1 (show 0 <= t by omega)
     have hm3 := Int.mul_le_mul (show (dayK K).1 <= 1000 by omega) ht1.2 (show 0 <= t by omega) (by omega)
     simp only [c14r12, go_sem, Nat.reduceAdd, Nat.reduceLeDiff]
     refine ⟨inR_small (by omega) (by omega), by omega, fun _ => ?_⟩
     have ho1 := Int.tmod_nonneg (K.length : Int) h3.1
     have ho2 := Int.tmod_lt_of_pos x3 (show (0 : Int) < K.length by omega)
     have ho3 := Int.tmod_nonneg ((K.length : Int) - 1) h4.1
     have ho4 := Int.tmod_lt_of_pos x4 (show (0 : Int) < (K.length : Int) - 1 by omega)
     generalize x3.tmod K.length = o at *
     simp only [c14r13, go_sem, Nat.reduceAdd, Nat.reduceLeDiff]
     refine ⟨inR_small (by omega) (by omega), inR_small (by omega) (by omega), inR_small (by omega) (by omega), by omega, inR_small (by omega) (by omega), by omega, fun _ => ?_⟩
     generalize (o + 1 + x4.tmod ((K.length : Int) - 1)).tmod K.length = o2 at *
     have h25 := k25 (K := K) (Q := Q) (one := o) (two := o2)
     have h25b := k25 (K := K.map (str t l)) (Q := Q) (one := o) (two := o2)
     rw [pairE_str (by omega) h0 hb1] at h25b
     generalize pairE K Q o o2 = pe at *
     generalize fw (clsh K Q) K.length = few at *
     generalize rngs (clsh K Q) K.length = rr at *
     generalize outC K (dayK K).1 = oc at *
     generalize (dayK K).1 = d at *
     simp only [c14r14, go_sem, Nat.reduceAdd]
     refine callK_of (by simp only [bk, kS, go_sem]) h46 (.inr (by simp only [bk, kS, go_sem])) ?_
     simp only [c14r15, go_sem, Nat.reduceAdd]
     refine ⟨_, hro, ?_⟩
     refine callK_of (by simp only [bk, kS, go_sem]) h46b (.inr (by simp only [bk, kS, go_sem])) ?_
     simp only [c14r16, go_sem, Nat.reduceAdd]
     refine callK_of (by simp only [bk, kS, go_sem]) h21 (.inl rfl) ?_
     simp only [c14r17, go_sem, Nat.reduceAdd]
     refine callK_of (by simp only [bk, kS, go_sem]) h21b (.inl rfl) ?_
     simp only [c14r18, go_sem, Nat.reduceAdd]
     refine callK_of (by simp only [bk, kS, go_sem]) h25 (.inl rfl) ?_
     simp only [go_sem, Nat.reduceAdd]
     refine callK_of (by simp only [bk, kS, go_sem]) h25b (.inl rfl) ?_
     simp only [go_sem]
     refine callK_of (by simp only [go_sem]) (same33 (l := rr)) (.inl rfl) ?_
     simp only [go_sem]
     refine ⟨inR_small (by omega) (by omega), inR_small (by omega) (by omega), wk ?_⟩
     simp only [go_sem]
end Go.Proofs.Ytmcjoahnlbckoaa.Sk
