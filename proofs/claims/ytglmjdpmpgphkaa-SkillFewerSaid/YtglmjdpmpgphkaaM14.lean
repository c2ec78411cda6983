/- The code of a law in the value semantics. -/
import Derived.Test.YtglmjdpmpgphkaaM13

set_option linter.all false

namespace Go.Proofs.Ytglmjdpmpgphkaa.Sk
open Go Go.E

def c12r0 : List AOper := [
 oP 3 (.boxS (.t 0)),
 oP 6 (.mov bF)]
def c12r1 : List AOper := [
 oP 16 (.load 3 true (.t 3)),
 oP 17 (.call 41 [(.t 16)]),
 oM 18 17,
 oG 19 18 false (.load 3 true (.t 3)),
 oG 20 18 false (.call 47 [(.t 19)]),
 oG 21 18 false (.not (.t 20)),
 oP 22 (.pick (.t 18) bT (.t 21)),
 oM 23 22,
 oH 24 23 false 2,
 oG 25 23 false (.len false (.t 24)),
 oG 26 23 false (.cmp .gtr (.t 25) (nI 40)),
 oP 27 (.pick (.t 23) bT (.t 26))]
def c12r2 : List AOper := [
 oP 28 (.call 17 []),
 oM 6 28]
def c12r3 : List AOper := [
 oM 29 1,
 oP 30 (.conv .i64 (.t 29)),
 oF 31 1 3,
 oL 32 31,
 oN 33 32,
 oP 34 (.div .rem (.t 30) (.t 33)),
 oM 7 34]
def c12r4 : List AOper := [
 oP 36 (.load 3 true (.t 3)),
 oM 37 7,
 oP 38 (.call 42 [(.t 36), (.t 37)]),
 oM 35 38,
 oP 39 (.ext (.t 35) 0),
 oP 40 (.ext (.t 35) 1),
 oM 8 39,
 oM 9 40]
def c12r5 : List AOper := [
 oP 41 (.load 3 true (.t 3)),
 oM 42 7,
 oM 43 2,
 oP 44 (.call 44 [(.t 41), (.t 42), (.t 43)]),
 oM 10 44]
def c12r6 : List AOper := [
 oP 46 (.load 3 true (.t 3)),
 oM 47 7,
 oP 48 (.call 39 [(.t 46), (.t 47)]),
 oM 45 48,
 oP 49 (.ext (.t 45) 0),
 oP 50 (.ext (.t 45) 1),
 oM 11 49,
 oM 12 50]
def c12r7 : List AOper := [
 oM 51 9,
 oP 52 (.cmp .eql (.t 51) (nI 5)),
 oM 53 12,
 oP 54 (.cmp .eql (.t 53) (nI 0)),
 oP 55 (.eql false [.bool] true (.t 52) (.t 54)),
 oM 56 55,
 oH 57 56 false 10,
 oG 58 56 false (.cmp .neq (.t 57) (nI 0)),
 oH 59 56 false 58,
 oH 60 59 true 10,
 oG 61 59 true (.cmp .neq (.t 60) (nI 16)),
 oG 62 56 false (.pick (.t 59) (.t 61) bF),
 oH 63 56 false 62,
 oH 64 63 true 10,
 oG 65 63 true (.cmp .neq (.t 64) (nI 19)),
 oG 66 56 false (.pick (.t 63) (.t 65) bF),
 oP 67 (.pick (.t 56) bT (.t 66))]
def c12r8 : List AOper := [
 oP 6 (.mov bF)]
def c12r9 : List AOper := [
 oM 68 9,
 oP 69 (.cmp .neq (.t 68) (nI 0))]
def c12r10 : List AOper := [
 oM 70 9,
 oP 71 (.cmp .eql (.t 70) (nI 5)),
 oM 72 71,
 oH 73 72 false 9,
 oG 74 72 false (.cmp .eql (.t 73) (nI 19)),
 oH 75 72 false 74,
 oH 76 75 true 10,
 oG 77 75 true (.cmp .neq (.t 76) (nI 0)),
 oG 78 72 false (.pick (.t 75) (.t 77) bF),
 oP 79 (.pick (.t 72) bT (.t 78)),
 oM 80 79,
 oH 81 80 true 8,
 oG 82 80 true (.len false (.t 81)),
 oG 83 80 true (.cmp .eql (.t 82) (nI 0)),
 oP 84 (.pick (.t 80) (.t 83) bF),
 oM 85 84,
 oG 86 85 true (.call 17 []),
 oP 87 (.pick (.t 85) (.t 86) bF),
 oM 6 87]
def c12r11 : List AOper := [
 oM 88 8,
 oN 89 88,
 oP 90 (.cmp .lss (.t 89) (nI 1)),
 oM 91 90,
 oH 92 91 false 8,
 oG 93 91 false (.len false (.t 92)),
 oG 94 91 false (.cmp .gtr (.t 93) (nI 200)),
 oP 95 (.pick (.t 91) bT (.t 94)),
 oM 96 95,
 oG 97 96 false (.load 3 true (.t 3)),
 oH 98 96 false 7,
 oH 99 96 false 8,
 oG 100 96 false (.call 44 [(.t 97), (.t 98), (.t 99)]),
 oG 101 96 false (.cmp .neq (.t 100) (nI 0)),
 oP 102 (.pick (.t 96) bT (.t 101)),
 oM 103 102,
 oG 104 103 false (.load 3 true (.t 3)),
 oH 105 103 false 7,
 oH 106 103 false 8,
 oG 107 103 false (.call 45 [(.t 104), (.t 105), (.t 106)]),
 oG 108 103 false (.cmp .neq (.t 107) (nI 0)),
 oP 109 (.pick (.t 103) bT (.t 108)),
 oM 110 109,
 oH 111 110 false 10,
 oG 112 110 false (.cmp .eql (.t 111) (nI 0)),
 oH 113 110 false 112,
 oH 114 113 true 2,
 oG 115 113 true (.len false (.t 114)),
 oH 116 113 true 8,
 oG 117 113 true (.len false (.t 116)),
 oG 118 113 true (.cmp .lss (.t 115) (.t 117)),
 oG 119 110 false (.pick (.t 113) (.t 118) bF),
 oP 120 (.pick (.t 110) bT (.t 119))]
def c12r12 : List AOper := [
 oP 6 (.mov bF)]
def c12r13 : List AOper := [
 oP 121 (.load 3 true (.t 3)),
 oP 122 (.call 53 [(.t 121)]),
 oM 13 122]
def c12r14 : List AOper := [
 oP 14 (.mov (nI 0))]
def c12r15 : List AOper := [
 oM 123 14,
 oM 124 8,
 oN 125 124,
 oP 126 (.cmp .lss (.t 123) (.t 125))]
def c12r16 : List AOper := [
 oP 129 (.buildSl 2 0 (.agg [(.int .i64 0), (.int .i64 0)]) []),
 oM 130 8,
 oM 131 14,
 oP 132 (.slice 2 (.t 130) none (some (.t 131)) none),
 oP 133 (.appendN 2 16 (.t 129) (.t 132)),
 oM 134 8,
 oM 135 14,
 oP 136 (.arith .add (.t 135) (nI 1)),
 oP 137 (.slice 2 (.t 134) (some (.t 136)) none none),
 oP 138 (.append 2 16 (.t 133) (.t 137)),
 oM 15 138]
def c12r17 : List AOper := [
 oM 139 13,
 oM 140 8,
 oM 141 14,
 oP 142 (.idxA 2 (.t 140) (.t 141)),
 oP 143 (.idxArrA 2 1 (.t 142) (nI 0)),
 oL 144 143,
 oP 145 (.call 49 [(.t 139), (.t 144)]),
 oP 146 (.not (.t 145)),
 oM 147 146,
 oG 148 147 false (.load 3 true (.t 3)),
 oH 149 147 false 7,
 oH 150 147 false 15,
 oG 151 147 false (.call 44 [(.t 148), (.t 149), (.t 150)]),
 oG 152 147 false (.cmp .neq (.t 151) (nI 19)),
 oP 153 (.pick (.t 147) bT (.t 152))]
def c12r18 : List AOper := [
 oP 6 (.mov bF)]
def c12r19 : List AOper := [
 oM 127 14,
 oP 128 (.arith .add (.t 127) (nI 1)),
 oM 14 128]
def c12l20 : ACode := (.seq (.seq (.reg 0 c12r15) (.cond (.t 126) .skip (.exit 0))) (.seq (.block 1 (.seq (.reg 2 c12r16) (.seq (.reg 0 c12r17) (.cond (.t 153) (.seq (.reg 0 c12r18) .ret) .skip)))) (.reg 0 c12r19)))
def c12l20m : List Bool := [fF,fF,fF,tT,fF,fF,fF,tT,tT,fF,fF,fF,fF,tT,tT,fF,fF,fF,fF,fF,fF,fF,fF,fF,fF,fF,fF,fF,fF,fF,fF,fF,fF,fF,fF,fF,fF,fF,fF,fF,fF,fF,fF,fF,fF,fF,fF,fF,fF,fF,fF,fF,fF,fF,fF,fF,fF,fF,fF,fF,fF,fF,fF,fF,fF,fF,fF,fF,fF,fF,fF,fF,fF,fF,fF,fF,fF,fF,fF,fF,fF,fF,fF,fF,fF,fF,fF,fF,fF,fF,fF,fF,fF,fF,fF,fF,fF,fF,fF,fF,fF,fF,fF,fF,fF,fF,fF,fF,fF,fF,fF,fF,fF,fF,fF,fF,fF,fF,fF,fF,fF,fF,fF,fF,fF,fF,fF,fF,fF,fF,fF,fF,fF,fF,fF,fF,fF,fF,fF,fF,fF,fF,fF,fF,fF,fF,fF,fF,fF,fF,fF,fF,fF,fF,fF,fF,fF,fF,fF,fF,fF,fF,fF,fF,fF,fF,fF]
def c12r21 : List AOper := [
 oP 155 (.load 3 true (.t 3)),
 oM 156 8,
 oP 157 (.call 54 [(.t 155), (.t 156)]),
 oM 158 7,
 oP 159 (.call 39 [(.t 157), (.t 158)]),
 oM 154 159,
 oP 160 (.ext (.t 154) 0),
 oP 161 (.ext (.t 154) 1),
 oM 9 161]
def c12r22 : List AOper := [
 oM 162 9,
 oP 163 (.cmp .eql (.t 162) (nI 0)),
 oM 164 163,
 oG 165 164 true (.call 17 []),
 oP 166 (.pick (.t 164) (.t 165) bF),
 oM 6 166]
def f12 : FRow := ⟨(.seq (.reg 0 c12r0) (.seq (.seq (.reg 0 c12r1) (.cond (.t 27) (.seq (.reg 0 c12r2) .ret) .skip)) (.seq (.reg 0 c12r3) (.seq (.reg 0 c12r4) (.seq (.reg 0 c12r5) (.seq (.reg 0 c12r6) (.seq (.seq (.reg 0 c12r7) (.cond (.t 67) (.seq (.reg 0 c12r8) .ret) .skip)) (.seq (.seq (.reg 0 c12r9) (.cond (.t 69) (.seq (.reg 0 c12r10) .ret) .skip)) (.seq (.seq (.reg 0 c12r11) (.cond (.t 120) (.seq (.reg 0 c12r12) .ret) .skip)) (.seq (.reg 0 c12r13) (.seq (.seq (.reg 0 c12r14) (.block 0 (.loop c12l20m [] c12l20))) (.seq (.reg 0 c12r21) (.seq (.reg 0 c12r22) .ret))))))))))))), [.tmp 6], 167⟩
theorem okf12 : f12.Ok Try.prog 12 := ⟨_, _, Try.func12, rfl, by kernel_rfl, by kernel_rfl, by kernel_rfl⟩


end Go.Proofs.Ytglmjdpmpgphkaa.Sk

/- SkillFewer, reckoned: at every machine, number and answers it answers true. -/
namespace Go.Proofs.Ytglmjdpmpgphkaa.Sk
open Go Go.E Go.E.Sm
set_option maxRecDepth 10000

theorem fewer_cases {pl wn : List Bool} {mv : List (List Int)} {x : Nat} (hv : Valid pl mv wn) (h11 : mv.length ≤ 11) (hx : x < mv.length) :
    (0 ≤ getI (distW pl mv wn) x ∧ takS pl mv wn x = [.slice [], .int .i64 5]) ∨
    (getI (distW pl mv wn) x < 0 ∧ fewV pl mv wn x < 0 ∧ takS pl mv wn x = [.slice [], .int .i64 19]) ∨
    (getI (distW pl mv wn) x < 0 ∧ ∃ B, fewS pl mv wn x = some B ∧ takS pl mv wn x = [prs (srtP B), .int .i64 0] ∧ 0 < (srtP B).length ∧ ((srtP B).length : Int) = fewV pl mv wn x ∧ (srtP B).length ≤ 121 ∧ ckT pl mv wn x (srtP B) = 0 ∧ 0 ≤ getI (distW pl (wtM mv (srtP B)) wn) x) := by
  have h := of_valid hv
  have hc : ¬ (chkM pl mv wn ≠ 0) := fun hn => hn h
  have hin : inN mv.length (x : Int) = true := by simp [inN]; omega
  have hz := few_zero hv hx
  unfold takS
  simp only [if_neg hc, hin, Bool.true_eq_false, if_false, Int.toNat_natCast]
  by_cases hd : 0 ≤ getI (distW pl mv wn) x
  · left
    simp only [if_pos hd]
    exact ⟨hd, trivial⟩
  · right
    simp only [if_neg hd]
    rcases few_ok hv h11 hx with ⟨h1, h2⟩ | ⟨B, h1, h2, h3, h4, h5, h6, _⟩
    · left
      rw [h1]
      exact ⟨by omega, h2, rfl⟩
    · right
      have h0 : fewV pl mv wn x ≠ 0 := fun h => hd (hz.1 h)
      refine ⟨by omega, B, h1, by rw [h1], by omega, h3, h6, ?_, h5⟩
      unfold ckT
      simp only [if_neg hc, hin, h4, Bool.true_eq_false, if_false]
      rw [if_neg (by omega)]
theorem given_cases {pl wn : List Bool} {mv : List (List Int)} {x : Nat} {T : List (Int × Int)} (hv : Valid pl mv wn) (hx : x < mv.length) :
    ckT pl mv wn x T = 16 ∨ ckT pl mv wn x T = 19 ∨ (ckT pl mv wn x T = 0 ∧ 0 ≤ fewV pl mv wn x ∧ fewV pl mv wn x ≤ T.length) := by
  have h := of_valid hv
  have hc : ¬ (chkM pl mv wn ≠ 0) := fun hn => hn h
  have hin : inN mv.length (x : Int) = true := by simp [inN]; omega
  unfold ckT
  simp only [if_neg hc, hin, Bool.true_eq_false, if_false]
  cases ht : tkB pl mv wn T with
  | false => left; rfl
  | true =>
    right
    simp only [Bool.true_eq_false, if_false]
    by_cases hd : getI (distW pl (wtM mv T) wn) x < 0
    · left; rw [if_pos hd]
    · right
      rw [if_neg hd]
      refine ⟨rfl, few_least hv (fun y hy => ?_) hx (by omega)⟩
      obtain ⟨j, hj, rfl⟩ := List.mem_iff_getElem.1 hy
      have h2 := List.all_eq_true.1 ht j (by simpa using hj)
      rw [tkAt_spec, List.getD_eq_getElem?_getD, List.getElem?_eq_getElem hj] at h2
      exact h2.1
theorem cut_ck {pl wn : List Bool} {mv : List (List Int)} {x j : Nat} (hv : Valid pl mv wn) (h11 : mv.length ≤ 11) (hx : x < mv.length) {B : List (Int × Int)} (h : fewS pl mv wn x = some B) (hj : j < (srtP B).length) :
    ckT pl mv wn x (cutAt (srtP B) j) = 19 ∧ hasL (keepL pl mv wn) ((srtP B).getD j (0, 0)).1 = true := by
  obtain ⟨h1, h2, h3⟩ := few_cut hv h11 hx h hj
  have hc : ¬ (chkM pl mv wn ≠ 0) := fun hn => hn (of_valid hv)
  have hin : inN mv.length (x : Int) = true := by simp [inN]; omega
  refine ⟨?_, h3⟩
  unfold ckT
  simp only [if_neg hc, hin, h1, Bool.true_eq_false, if_false]
  rw [if_pos h2]

set_option maxHeartbeats 8000000 in
theorem loop12 {pl wn : List Bool} {mv : List (List Int)} {x : Nat} {S : List (Int × Int)} {K : List Int} {σ : AState} {Q : AExit → AState → Prop} (hS : S.length ≤ 121) (cut : ∀ j, j < S.length → ckT pl mv wn x (cutAt S j) = 19 ∧ hasL K (S.getD j (0, 0)).1 = true) (hlen : σ.hp.length = 0)
    (h0 : norm c12l20m 0 σ = ⟨[.any, .any, .any, .s (.ptr [.slice (pl.map .bool), .slice (mv.map ints), .slice (wn.map .bool)]), .any, .any, .any, .s (.int .i64 x), .s (.slice (S.map pr)), .any, .any, .any, .any, .s (.slice (K.map (.int .i64))), .s (.int .i64 0), .any, .any, .any, .any, .any, .any, .any, .any, .any, .any, .any, .any, .any, .any, .any, .any, .any, .any, .any, .any, .any, .any, .any, .any, .any, .any, .any, .any, .any, .any, .any, .any, .any, .any, .any, .any, .any, .any, .any, .any, .any, .any, .any, .any, .any, .any, .any, .any, .any, .any, .any, .any, .any, .any, .any, .any, .any, .any, .any, .any, .any, .any, .any, .any, .any, .any, .any, .any, .any, .any, .any, .any, .any, .any, .any, .any, .any, .any, .any, .any, .any, .any, .any, .any, .any, .any, .any, .any, .any, .any, .any, .any, .any, .any, .any, .any, .any, .any, .any, .any, .any, .any, .any, .any, .any, .any, .any, .any, .any, .any, .any, .any, .any, .any, .any, .any, .any, .any, .any, .any, .any, .any, .any, .any, .any, .any, .any, .any, .any, .any, .any, .any, .any, .any, .any, .any, .any, .any, .any, .any, .any, .any, .any, .any, .any, .any, .any, .any, .any, .any, .any, .any], []⟩)
    (hQ : ∀ fr, fr = [.any, .any, .any, .s (.ptr [.slice (pl.map .bool), .slice (mv.map ints), .slice (wn.map .bool)]), .any, .any, .any, .s (.int .i64 x), .s (.slice (S.map pr)), .any, .any, .any, .any, .s (.slice (K.map (.int .i64))), .s (.int .i64 S.length), .any, .any, .any, .any, .any, .any, .any, .any, .any, .any, .any, .any, .any, .any, .any, .any, .any, .any, .any, .any, .any, .any, .any, .any, .any, .any, .any, .any, .any, .any, .any, .any, .any, .any, .any, .any, .any, .any, .any, .any, .any, .any, .any, .any, .any, .any, .any, .any, .any, .any, .any, .any, .any, .any, .any, .any, .any, .any, .any, .any, .any, .any, .any, .any, .any, .any, .any, .any, .any, .any, .any, .any, .any, .any, .any, .any, .any, .any, .any, .any, .any, .any, .any, .any, .any, .any, .any, .any, .any, .any, .any, .any, .any, .any, .any, .any, .any, .any, .any, .any, .any, .any, .any, .any, .any, .any, .any, .any, .s (.int .i64 S.length), .s (.slice (S.map pr)), .s (.int .i64 S.length), .s (.bool (decide (S.length < S.length))), .any, .any, .any, .any, .any, .any, .any, .any, .any, .any, .any, .any, .any, .any, .any, .any, .any, .any, .any, .any, .any, .any, .any, .any, .any, .any, .any, .any, .any, .any, .any, .any, .any, .any, .any, .any, .any, .any, .any, .any] → Q (.exit 0) ⟨fr, []⟩) : awp Try.prog 0 (.loop c12l20m [] c12l20) σ Q := by
  refine loop_rule (σ' := σ) (fun n τ => ∃ j : Nat, n = S.length - j ∧ j ≤ S.length ∧
    τ = ⟨[.any, .any, .any, .s (.ptr [.slice (pl.map .bool), .slice (mv.map ints), .slice (wn.map .bool)]), .any, .any, .any, .s (.int .i64 x), .s (.slice (S.map pr)), .any, .any, .any, .any, .s (.slice (K.map (.int .i64))), .s (.int .i64 j), .any, .any, .any, .any, .any, .any, .any, .any, .any, .any, .any, .any, .any, .any, .any, .any, .any, .any, .any, .any, .any, .any, .any, .any, .any, .any, .any, .any, .any, .any, .any, .any, .any, .any, .any, .any, .any, .any, .any, .any, .any, .any, .any, .any, .any, .any, .any, .any, .any, .any, .any, .any, .any, .any, .any, .any, .any, .any, .any, .any, .any, .any, .any, .any, .any, .any, .any, .any, .any, .any, .any, .any, .any, .any, .any, .any, .any, .any, .any, .any, .any, .any, .any, .any, .any, .any, .any, .any, .any, .any, .any, .any, .any, .any, .any, .any, .any, .any, .any, .any, .any, .any, .any, .any, .any, .any, .any, .any, .any, .any, .any, .any, .any, .any, .any, .any, .any, .any, .any, .any, .any, .any, .any, .any, .any, .any, .any, .any, .any, .any, .any, .any, .any, .any, .any, .any, .any, .any, .any, .any, .any, .any, .any, .any, .any, .any, .any, .any, .any, .any, .any, .any], []⟩) S.length rfl ?_ ?_
  · rw [hlen, h0]
    exact ⟨0, rfl, Nat.zero_le _, rfl⟩
  · rw [hlen]
    rintro I n τ ⟨j, rfl, hj, rfl⟩ hI
    simp only [c12l20, c12r15, go_sem, ↓reduceIte, reduceCtorEq, Nat.reduceAdd, Nat.reduceSub, Nat.reduceLT, Nat.reduceLeDiff]
    intro _
    refine ⟨fun hlt => ?_, fun hge => ?_⟩
    · have hj' : j < S.length := by omega
      obtain ⟨c1, c2⟩ := cut j hj'
      have q49 := k49 (xs := K) (v := (S.getD j (0, 0)).1)
      rw [c2] at q49
      have q44 := k44 (pl := pl) (mv := mv) (wn := wn) (x := x) (T := cutAt S j) (by rw [cut_len hj']; omega)
      rw [c1] at q44
      have hel : ∀ y ∈ S.map pr, y.cells.length = 2 := fun y hy => by obtain ⟨z, _, rfl⟩ := List.mem_map.1 hy; rfl
      have htk : List.take (j - 0) (S.map pr) = (S.take j).map pr := by rw [Nat.sub_zero, List.map_take]
      have hdr : List.take (S.length - (j + 1)) (List.drop (j + 1) (S.map pr)) = (S.drop (j + 1)).map pr := by
        rw [List.map_drop, List.take_of_length_le (by simp)]
      have hx : S[j]? = some (S.getD j (0, 0)) := by rw [List.getD_eq_getElem?_getD, List.getElem?_eq_getElem hj']; rfl
      have hj1 : (0 : Int) ≤ (j : Int) + 1 := by omega
      have hjt : ((j : Int) + 1).toNat = j + 1 := by omega
      simp only [c12r16, go_sem, ↓reduceIte, reduceCtorEq, Nat.reduceAdd, Nat.reduceSub, Nat.reduceLT, Nat.reduceLeDiff]
      rw [htk]
      refine ⟨by decide, by decide, rfl, by simp, by omega, by omega, ⟨by simp, fun y hy => hel y (by rw [← htk] at hy; exact List.mem_of_mem_take hy), ?_, ?_, by decide⟩, fun he => ?_, fun hne => ⟨rfl, ?_⟩⟩
      · simp; omega
      · simp; omega
      · simp only [go_sem, ↓reduceIte, reduceCtorEq, Nat.reduceAdd, Nat.reduceSub, Nat.reduceLT, Nat.reduceLeDiff]
        refine ⟨inR_i64 (by omega) (by omega), ?_⟩
        rw [if_pos hj1, hjt]
        simp only [go_sem, ↓reduceIte, reduceCtorEq, Nat.reduceAdd, Nat.reduceSub, Nat.reduceLT, Nat.reduceLeDiff]
        rw [hdr]
        refine ⟨by omega, ?_, ⟨by simp, fun y hy => hel y (by rw [← hdr] at hy; exact List.mem_of_mem_drop (List.mem_of_mem_take hy)), ?_, ?_, by decide⟩, fun he2 => ?_, fun hne2 => ⟨rfl, ?_⟩⟩
        · exact .inr hel
        · simp; omega
        · simp; omega
        · simp only [go_sem, ↓reduceIte, reduceCtorEq, Nat.reduceAdd, Nat.reduceSub, Nat.reduceLT, Nat.reduceLeDiff]
          simp only [c12r17, hx, hj', pr, go_sem, ↓reduceIte, reduceCtorEq, Nat.reduceAdd, Nat.reduceSub, Nat.reduceLT, Nat.reduceLeDiff]
          refine ⟨by decide, by decide, ?_⟩
          simp only [Int.toNat_zero, Nat.zero_mul, go_sem, ↓reduceIte, reduceCtorEq, Nat.reduceAdd, Nat.reduceSub, Nat.reduceLT, Nat.reduceLeDiff]
          refine callK_of rfl q49 (.inl rfl) ?_
          simp only [go_sem, ↓reduceIte, reduceCtorEq, Nat.reduceAdd, Nat.reduceSub, Nat.reduceLT, Nat.reduceLeDiff]
          refine callK_of ?_ q44 (.inl rfl) ?_
          · simp only [go_sem, ↓reduceIte, reduceCtorEq, Nat.reduceAdd, Nat.reduceSub, Nat.reduceLT, Nat.reduceLeDiff]
            have e : cutAt S j = [] := by
              unfold cutAt
              rw [List.map_eq_nil_iff.1 he, List.map_eq_nil_iff.1 he2]; rfl
            rw [e]; rfl
          · simp only [c12r19, c12l20m, Int.reduceEq, go_sem, ↓reduceIte, reduceCtorEq, Nat.reduceAdd, Nat.reduceSub, Nat.reduceLT, Nat.reduceLeDiff]
            exact ⟨inR_i64 (by omega) (by omega), hI (S.length - (j + 1)) _ (by omega) ⟨j + 1, rfl, by omega, by simp⟩⟩
        · simp only [go_sem, ↓reduceIte, reduceCtorEq, Nat.reduceAdd, Nat.reduceSub, Nat.reduceLT, Nat.reduceLeDiff]
          simp only [c12r17, hx, hj', pr, go_sem, ↓reduceIte, reduceCtorEq, Nat.reduceAdd, Nat.reduceSub, Nat.reduceLT, Nat.reduceLeDiff]
          refine ⟨by decide, by decide, ?_⟩
          simp only [Int.toNat_zero, Nat.zero_mul, go_sem, ↓reduceIte, reduceCtorEq, Nat.reduceAdd, Nat.reduceSub, Nat.reduceLT, Nat.reduceLeDiff]
          refine callK_of rfl q49 (.inl rfl) ?_
          simp only [go_sem, ↓reduceIte, reduceCtorEq, Nat.reduceAdd, Nat.reduceSub, Nat.reduceLT, Nat.reduceLeDiff]
          refine callK_of ?_ q44 (.inl rfl) ?_
          · have e : cutAt S j = S.drop (j + 1) := by
              unfold cutAt
              rw [List.map_eq_nil_iff.1 he]; rfl
            rw [e]
            simp only [sliceOf_pr, go_sem, ↓reduceIte, reduceCtorEq, Nat.reduceAdd, Nat.reduceSub, Nat.reduceLT, Nat.reduceLeDiff]
            rfl
          · simp only [c12r19, c12l20m, Int.reduceEq, go_sem, ↓reduceIte, reduceCtorEq, Nat.reduceAdd, Nat.reduceSub, Nat.reduceLT, Nat.reduceLeDiff]
            exact ⟨inR_i64 (by omega) (by omega), hI (S.length - (j + 1)) _ (by omega) ⟨j + 1, rfl, by omega, by simp⟩⟩
      · simp only [go_sem, ↓reduceIte, reduceCtorEq, Nat.reduceAdd, Nat.reduceSub, Nat.reduceLT, Nat.reduceLeDiff]
        refine ⟨inR_i64 (by omega) (by omega), ?_⟩
        rw [if_pos hj1, hjt]
        simp only [go_sem, ↓reduceIte, reduceCtorEq, Nat.reduceAdd, Nat.reduceSub, Nat.reduceLT, Nat.reduceLeDiff]
        rw [hdr]
        refine ⟨by omega, ?_, fun y hy => hel y (by rw [← hdr] at hy; exact List.mem_of_mem_drop (List.mem_of_mem_take hy)), by rw [flat_pr], ?_, ?_, ?_⟩
        · exact .inr hel
        · simp; omega
        · simp; omega
        · simp only [go_sem, ↓reduceIte, reduceCtorEq, Nat.reduceAdd, Nat.reduceSub, Nat.reduceLT, Nat.reduceLeDiff]
          simp only [c12r17, hx, hj', pr, go_sem, ↓reduceIte, reduceCtorEq, Nat.reduceAdd, Nat.reduceSub, Nat.reduceLT, Nat.reduceLeDiff]
          refine ⟨by decide, by decide, ?_⟩
          simp only [Int.toNat_zero, Nat.zero_mul, go_sem, ↓reduceIte, reduceCtorEq, Nat.reduceAdd, Nat.reduceSub, Nat.reduceLT, Nat.reduceLeDiff]
          refine callK_of rfl q49 (.inl rfl) ?_
          simp only [go_sem, ↓reduceIte, reduceCtorEq, Nat.reduceAdd, Nat.reduceSub, Nat.reduceLT, Nat.reduceLeDiff]
          refine callK_of ?_ q44 (.inl rfl) ?_
          · have e := sliceOf_pr (T := cutAt S j)
            have e2 : flatE ((S.take j).map pr) ++ flatE ((S.drop (j + 1)).map pr) = flatE ((cutAt S j).map pr) := by simp [flatE, cutAt]
            have e3 : (S.take j).length + (S.drop (j + 1)).length = (cutAt S j).length := by rw [cutAt, List.length_append]
            rw [← e2, ← e3] at e
            simp only [e, go_sem, ↓reduceIte, reduceCtorEq, Nat.reduceAdd, Nat.reduceSub, Nat.reduceLT, Nat.reduceLeDiff]
            rfl
          · simp only [c12r19, c12l20m, Int.reduceEq, go_sem, ↓reduceIte, reduceCtorEq, Nat.reduceAdd, Nat.reduceSub, Nat.reduceLT, Nat.reduceLeDiff]
            exact ⟨inR_i64 (by omega) (by omega), hI (S.length - (j + 1)) _ (by omega) ⟨j + 1, rfl, by omega, by simp⟩⟩
    · have hje : j = S.length := by omega
      subst hje
      exact hQ _ rfl

set_option maxHeartbeats 8000000 in
theorem law12 {pl wn : List Bool} {mv : List (List Int)} {a : Int} {T : List (Int × Int)} (ha : 0 ≤ a ∧ a < 256) : E.Fn Try.prog 12 [mach pl mv wn, .int .u8 a, prs T] [.bool true] := by
  refine fn_of_row okf12 ?_
  simp only [FRow.start, f12, c12r0, c12r1, mach, bools, prs, go_sem, ↓reduceIte, reduceCtorEq, Nat.reduceAdd, Nat.reduceSub, Nat.reduceLT, Nat.reduceLeDiff]
  refine callK_of rfl (k41 (pl := pl) (mv := mv) (wn := wn)) (.inl rfl) ?_
  have wk : ∀ (H : List ABlock) (k : AK), k (LV.ofResults [.bool true]) H none True → callK Try.prog H 17 [] k := fun H k hk => callK_of rfl works_ok (.inl rfl) hk
  cases hf : wideB pl mv wn with
  | true =>
    simp only [c12r2, go_sem, ↓reduceIte, reduceCtorEq, Nat.reduceAdd, Nat.reduceSub, Nat.reduceLT, Nat.reduceLeDiff]
    refine wk _ _ ?_
    simp only [go_sem, ↓reduceIte, reduceCtorEq, Nat.reduceAdd, Nat.reduceSub, Nat.reduceLT, Nat.reduceLeDiff]
  | false =>
    simp only [go_sem, ↓reduceIte, reduceCtorEq, Nat.reduceAdd, Nat.reduceSub, Nat.reduceLT, Nat.reduceLeDiff]
    refine callK_of rfl (k47 (pl := pl) (mv := mv) (wn := wn)) (.inl rfl) ?_
    cases hf2 : (!greatB pl mv wn && decide (chkM pl mv wn = 0)) with
    | false =>
      simp only [c12r2, go_sem, ↓reduceIte, reduceCtorEq, Nat.reduceAdd, Nat.reduceSub, Nat.reduceLT, Nat.reduceLeDiff]
      refine wk _ _ ?_
      simp only [go_sem, ↓reduceIte, reduceCtorEq, Nat.reduceAdd, Nat.reduceSub, Nat.reduceLT, Nat.reduceLeDiff]
    | true =>
      simp only [Bool.and_eq_true, decide_eq_true_eq] at hf2
      have hv := valid_of hf2.2
      have h1 := hv.few
      have h2 := hv.pos
      have h11 : mv.length ≤ 11 := by
        simp only [wideB, Bool.or_eq_false_iff, Bool.and_eq_false_iff, decide_eq_false_iff_not] at hf
        omega
      simp only [go_sem, ↓reduceIte, reduceCtorEq, Nat.reduceAdd, Nat.reduceSub, Nat.reduceLT, Nat.reduceLeDiff]
      intro _
      refine ⟨fun _ => ?_, fun h40 => ?_⟩
      · simp only [c12r2, go_sem, ↓reduceIte, reduceCtorEq, Nat.reduceAdd, Nat.reduceSub, Nat.reduceLT, Nat.reduceLeDiff]
        refine wk _ _ ?_
        simp only [go_sem, ↓reduceIte, reduceCtorEq, Nat.reduceAdd, Nat.reduceSub, Nat.reduceLT, Nat.reduceLeDiff]
      · have hT : T.length ≤ 200 := by omega
        obtain ⟨x, hx, hxn⟩ : ∃ i : Nat, a.tmod (mv.length : Int) = i ∧ i < mv.length := by
          have := Int.tmod_nonneg (mv.length : Int) ha.1
          have := Int.tmod_lt_of_pos a (show (0 : Int) < mv.length by omega)
          exact ⟨(a.tmod (mv.length : Int)).toNat, by omega, by omega⟩
        simp only [c12r3, go_sem, ↓reduceIte, reduceCtorEq, Nat.reduceAdd, Nat.reduceSub, Nat.reduceLT, Nat.reduceLeDiff]
        refine ⟨inR_i64 (by omega) (by omega), by omega, fun _ => ?_⟩
        rw [hx]
        have q42 := k42 (pl := pl) (mv := mv) (wn := wn) (x := x) (fun _ => h11)
        have q44 := k44 (pl := pl) (mv := mv) (wn := wn) (x := x) hT
        have q39 := k39 (pl := pl) (mv := mv) (wn := wn) (x := x)
        have hc : ¬ (chkM pl mv wn ≠ 0) := fun hn => hn hf2.2
        have hin : inN mv.length (x : Int) = true := by simp [inN]; omega
        unfold sureR at q39
        simp only [if_neg hc, hin, Bool.true_eq_false, if_false] at q39
        rcases fewer_cases hv h11 hxn with ⟨g1, g2⟩ | ⟨g1, g2, g3⟩ | ⟨g1, B, g2, g3, g4, g5, g6, g7, g8⟩
        · rw [g2] at q42
          rw [if_neg (by omega)] at q39
          rcases given_cases (T := T) hv hxn with h | h | ⟨h, _⟩
          all_goals
            rw [h] at q44
            simp only [c12r4, go_sem, ↓reduceIte, reduceCtorEq, Nat.reduceAdd, Nat.reduceSub, Nat.reduceLT, Nat.reduceLeDiff]
            refine callK_of rfl q42 (.inr rfl) ?_
            simp only [c12r5, go_sem, ↓reduceIte, reduceCtorEq, Nat.reduceAdd, Nat.reduceSub, Nat.reduceLT, Nat.reduceLeDiff]
            refine callK_of rfl q44 (.inl rfl) ?_
            simp only [c12r6, go_sem, ↓reduceIte, reduceCtorEq, Nat.reduceAdd, Nat.reduceSub, Nat.reduceLT, Nat.reduceLeDiff]
            refine callK_of rfl q39 (.inl rfl) ?_
            simp only [c12r7, c12r9, c12r10, Int.reduceEq, decide_true, decide_false, true_implies, false_implies, not_true, not_false_eq_true, and_true, true_and, SV.bool.injEq, Bool.true_eq_false, Bool.false_eq_true, go_sem, ↓reduceIte, reduceCtorEq, Nat.reduceAdd, Nat.reduceSub, Nat.reduceLT, Nat.reduceLeDiff]
            refine ⟨fun _ => wk _ _ ?_, fun h => absurd rfl h⟩
            simp only [go_sem, ↓reduceIte, reduceCtorEq, Nat.reduceAdd, Nat.reduceSub, Nat.reduceLT, Nat.reduceLeDiff]
        · rw [g3] at q42
          rw [if_pos g1] at q39
          rcases given_cases (T := T) hv hxn with h | h | ⟨h, h3, _⟩
          · rw [h] at q44
            simp only [c12r4, go_sem, ↓reduceIte, reduceCtorEq, Nat.reduceAdd, Nat.reduceSub, Nat.reduceLT, Nat.reduceLeDiff]
            refine callK_of rfl q42 (.inr rfl) ?_
            simp only [c12r5, go_sem, ↓reduceIte, reduceCtorEq, Nat.reduceAdd, Nat.reduceSub, Nat.reduceLT, Nat.reduceLeDiff]
            refine callK_of rfl q44 (.inl rfl) ?_
            simp only [c12r6, go_sem, ↓reduceIte, reduceCtorEq, Nat.reduceAdd, Nat.reduceSub, Nat.reduceLT, Nat.reduceLeDiff]
            refine callK_of rfl q39 (.inl rfl) ?_
            simp only [c12r7, c12r9, c12r10, Int.reduceEq, decide_true, decide_false, true_implies, false_implies, not_true, not_false_eq_true, and_true, true_and, SV.bool.injEq, Bool.true_eq_false, Bool.false_eq_true, go_sem, ↓reduceIte, reduceCtorEq, Nat.reduceAdd, Nat.reduceSub, Nat.reduceLT, Nat.reduceLeDiff]
            refine ⟨fun _ => wk _ _ ?_, fun h => absurd rfl h⟩
            simp only [go_sem, ↓reduceIte, reduceCtorEq, Nat.reduceAdd, Nat.reduceSub, Nat.reduceLT, Nat.reduceLeDiff]
          · rw [h] at q44
            simp only [c12r4, go_sem, ↓reduceIte, reduceCtorEq, Nat.reduceAdd, Nat.reduceSub, Nat.reduceLT, Nat.reduceLeDiff]
            refine callK_of rfl q42 (.inr rfl) ?_
            simp only [c12r5, go_sem, ↓reduceIte, reduceCtorEq, Nat.reduceAdd, Nat.reduceSub, Nat.reduceLT, Nat.reduceLeDiff]
            refine callK_of rfl q44 (.inl rfl) ?_
            simp only [c12r6, go_sem, ↓reduceIte, reduceCtorEq, Nat.reduceAdd, Nat.reduceSub, Nat.reduceLT, Nat.reduceLeDiff]
            refine callK_of rfl q39 (.inl rfl) ?_
            simp only [c12r7, c12r9, c12r10, Int.reduceEq, decide_true, decide_false, true_implies, false_implies, not_true, not_false_eq_true, and_true, true_and, SV.bool.injEq, Bool.true_eq_false, Bool.false_eq_true, go_sem, ↓reduceIte, reduceCtorEq, Nat.reduceAdd, Nat.reduceSub, Nat.reduceLT, Nat.reduceLeDiff]
            refine ⟨fun _ => wk _ _ ?_, fun h => absurd rfl h⟩
            simp only [go_sem, ↓reduceIte, reduceCtorEq, Nat.reduceAdd, Nat.reduceSub, Nat.reduceLT, Nat.reduceLeDiff]
          · omega
        · rw [g3] at q42
          rw [if_pos g1] at q39
          have cut := fun j hj => cut_ck (j := j) hv h11 hxn g2 hj
          generalize srtP B = S at *
          have qs4 := k44 (pl := pl) (mv := mv) (wn := wn) (x := x) (T := S) (by omega)
          have qs5 := k45 (pl := pl) (mv := mv) (wn := wn) (x := x) (T := S) (by omega)
          rw [g7] at qs4 qs5
          have hS1 : ¬ ((S.length : Int) < 1) := by omega
          have hS2 : ¬ ((200 : Int) < S.length) := by omega
          have qk := k53 hv
          have q54 := k54 (T := S) hv (by omega)
          have q39b := k39 (pl := pl) (mv := wtM mv S) (wn := wn) (x := x)
          have hc2 : ¬ (chkM pl (wtM mv S) wn ≠ 0) := fun hn => hn (of_valid (wtM_valid hv))
          have hin2 : inN (wtM mv S).length (x : Int) = true := by rw [wtM_len]; exact hin
          have hd2 : ¬ getI (distW pl (wtM mv S) wn) x < 0 := by omega
          unfold sureR at q39b
          simp only [if_neg hc2, hin2, if_neg hd2, Bool.true_eq_false, if_false] at q39b
          generalize keepL pl mv wn = K at *
          generalize wtM mv S = mw at *
          generalize getI (distW pl mw wn) x = dd at *
          have hTS : ckT pl mv wn x T = 0 → ¬ ((T.length : Int) < S.length) := fun h => by
            rcases given_cases (T := T) hv hxn with k | k | ⟨_, k3, k4⟩
            · omega
            · omega
            · omega
          rcases given_cases (T := T) hv hxn with h | h | ⟨h, h3, h4⟩
          · rw [h] at q44
            simp only [c12r4, go_sem, ↓reduceIte, reduceCtorEq, Nat.reduceAdd, Nat.reduceSub, Nat.reduceLT, Nat.reduceLeDiff]
            refine callK_of rfl q42 (.inr rfl) ?_
            simp only [c12r5, go_sem, ↓reduceIte, reduceCtorEq, Nat.reduceAdd, Nat.reduceSub, Nat.reduceLT, Nat.reduceLeDiff]
            refine callK_of rfl q44 (.inl rfl) ?_
            simp only [c12r6, go_sem, ↓reduceIte, reduceCtorEq, Nat.reduceAdd, Nat.reduceSub, Nat.reduceLT, Nat.reduceLeDiff]
            refine callK_of rfl q39 (.inl rfl) ?_
            simp only [c12r7, c12r9, c12r11, prs, hS1, hS2, Int.reduceEq, decide_true, decide_false, true_implies, false_implies, not_true, not_false_eq_true, and_true, true_and, SV.bool.injEq, Bool.true_eq_false, Bool.false_eq_true, go_sem, ↓reduceIte, reduceCtorEq, Nat.reduceAdd, Nat.reduceSub, Nat.reduceLT, Nat.reduceLeDiff]
            refine callK_of rfl qs4 (.inl rfl) ?_
            simp only [Int.reduceEq, decide_true, decide_false, true_implies, false_implies, not_true, not_false_eq_true, and_true, true_and, SV.bool.injEq, Bool.true_eq_false, Bool.false_eq_true, go_sem, ↓reduceIte, reduceCtorEq, Nat.reduceAdd, Nat.reduceSub, Nat.reduceLT, Nat.reduceLeDiff]
            refine callK_of rfl qs5 (.inl rfl) ?_
            simp only [Int.reduceEq, decide_true, decide_false, true_implies, false_implies, not_true, not_false_eq_true, and_true, true_and, SV.bool.injEq, Bool.true_eq_false, Bool.false_eq_true, go_sem, ↓reduceIte, reduceCtorEq, Nat.reduceAdd, Nat.reduceSub, Nat.reduceLT, Nat.reduceLeDiff]
            intro _
            simp only [c12r13, go_sem, ↓reduceIte, reduceCtorEq, Nat.reduceAdd, Nat.reduceSub, Nat.reduceLT, Nat.reduceLeDiff]
            refine callK_of rfl qk (.inr rfl) ?_
            simp only [c12r14, ints, go_sem, ↓reduceIte, reduceCtorEq, Nat.reduceAdd, Nat.reduceSub, Nat.reduceLT, Nat.reduceLeDiff]
            refine loop12 (x := x) (by omega) cut rfl ?_ ?_
            · simp only [c12l20m, bools, go_sem, ↓reduceIte, reduceCtorEq, Nat.reduceAdd, Nat.reduceSub, Nat.reduceLT, Nat.reduceLeDiff]
            · intro fr hfr
              subst hfr
              simp only [c12r21, go_sem, ↓reduceIte, reduceCtorEq, Nat.reduceAdd, Nat.reduceSub, Nat.reduceLT, Nat.reduceLeDiff]
              refine callK_of rfl q54 (.inr rfl) ?_
              simp only [go_sem, ↓reduceIte, reduceCtorEq, Nat.reduceAdd, Nat.reduceSub, Nat.reduceLT, Nat.reduceLeDiff]
              refine callK_of rfl q39b (.inl rfl) ?_
              simp only [c12r22, go_sem, ↓reduceIte, reduceCtorEq, Nat.reduceAdd, Nat.reduceSub, Nat.reduceLT, Nat.reduceLeDiff]
              refine wk _ _ ?_
              simp only [go_sem, ↓reduceIte, reduceCtorEq, Nat.reduceAdd, Nat.reduceSub, Nat.reduceLT, Nat.reduceLeDiff]
          · rw [h] at q44
            simp only [c12r4, go_sem, ↓reduceIte, reduceCtorEq, Nat.reduceAdd, Nat.reduceSub, Nat.reduceLT, Nat.reduceLeDiff]
            refine callK_of rfl q42 (.inr rfl) ?_
            simp only [c12r5, go_sem, ↓reduceIte, reduceCtorEq, Nat.reduceAdd, Nat.reduceSub, Nat.reduceLT, Nat.reduceLeDiff]
            refine callK_of rfl q44 (.inl rfl) ?_
            simp only [c12r6, go_sem, ↓reduceIte, reduceCtorEq, Nat.reduceAdd, Nat.reduceSub, Nat.reduceLT, Nat.reduceLeDiff]
            refine callK_of rfl q39 (.inl rfl) ?_
            simp only [c12r7, c12r9, c12r11, prs, hS1, hS2, Int.reduceEq, decide_true, decide_false, true_implies, false_implies, not_true, not_false_eq_true, and_true, true_and, SV.bool.injEq, Bool.true_eq_false, Bool.false_eq_true, go_sem, ↓reduceIte, reduceCtorEq, Nat.reduceAdd, Nat.reduceSub, Nat.reduceLT, Nat.reduceLeDiff]
            refine callK_of rfl qs4 (.inl rfl) ?_
            simp only [Int.reduceEq, decide_true, decide_false, true_implies, false_implies, not_true, not_false_eq_true, and_true, true_and, SV.bool.injEq, Bool.true_eq_false, Bool.false_eq_true, go_sem, ↓reduceIte, reduceCtorEq, Nat.reduceAdd, Nat.reduceSub, Nat.reduceLT, Nat.reduceLeDiff]
            refine callK_of rfl qs5 (.inl rfl) ?_
            simp only [Int.reduceEq, decide_true, decide_false, true_implies, false_implies, not_true, not_false_eq_true, and_true, true_and, SV.bool.injEq, Bool.true_eq_false, Bool.false_eq_true, go_sem, ↓reduceIte, reduceCtorEq, Nat.reduceAdd, Nat.reduceSub, Nat.reduceLT, Nat.reduceLeDiff]
            intro _
            simp only [c12r13, go_sem, ↓reduceIte, reduceCtorEq, Nat.reduceAdd, Nat.reduceSub, Nat.reduceLT, Nat.reduceLeDiff]
            refine callK_of rfl qk (.inr rfl) ?_
            simp only [c12r14, ints, go_sem, ↓reduceIte, reduceCtorEq, Nat.reduceAdd, Nat.reduceSub, Nat.reduceLT, Nat.reduceLeDiff]
            refine loop12 (x := x) (by omega) cut rfl ?_ ?_
            · simp only [c12l20m, bools, go_sem, ↓reduceIte, reduceCtorEq, Nat.reduceAdd, Nat.reduceSub, Nat.reduceLT, Nat.reduceLeDiff]
            · intro fr hfr
              subst hfr
              simp only [c12r21, go_sem, ↓reduceIte, reduceCtorEq, Nat.reduceAdd, Nat.reduceSub, Nat.reduceLT, Nat.reduceLeDiff]
              refine callK_of rfl q54 (.inr rfl) ?_
              simp only [go_sem, ↓reduceIte, reduceCtorEq, Nat.reduceAdd, Nat.reduceSub, Nat.reduceLT, Nat.reduceLeDiff]
              refine callK_of rfl q39b (.inl rfl) ?_
              simp only [c12r22, go_sem, ↓reduceIte, reduceCtorEq, Nat.reduceAdd, Nat.reduceSub, Nat.reduceLT, Nat.reduceLeDiff]
              refine wk _ _ ?_
              simp only [go_sem, ↓reduceIte, reduceCtorEq, Nat.reduceAdd, Nat.reduceSub, Nat.reduceLT, Nat.reduceLeDiff]
          · rw [h] at q44
            simp only [c12r4, go_sem, ↓reduceIte, reduceCtorEq, Nat.reduceAdd, Nat.reduceSub, Nat.reduceLT, Nat.reduceLeDiff]
            refine callK_of rfl q42 (.inr rfl) ?_
            simp only [c12r5, go_sem, ↓reduceIte, reduceCtorEq, Nat.reduceAdd, Nat.reduceSub, Nat.reduceLT, Nat.reduceLeDiff]
            refine callK_of rfl q44 (.inl rfl) ?_
            simp only [c12r6, go_sem, ↓reduceIte, reduceCtorEq, Nat.reduceAdd, Nat.reduceSub, Nat.reduceLT, Nat.reduceLeDiff]
            refine callK_of rfl q39 (.inl rfl) ?_
            simp only [c12r7, c12r9, c12r11, prs, hS1, hS2, hTS h, Int.reduceEq, decide_true, decide_false, true_implies, false_implies, not_true, not_false_eq_true, and_true, true_and, SV.bool.injEq, Bool.true_eq_false, Bool.false_eq_true, go_sem, ↓reduceIte, reduceCtorEq, Nat.reduceAdd, Nat.reduceSub, Nat.reduceLT, Nat.reduceLeDiff]
            refine callK_of rfl qs4 (.inl rfl) ?_
            simp only [Int.reduceEq, decide_true, decide_false, true_implies, false_implies, not_true, not_false_eq_true, and_true, true_and, SV.bool.injEq, Bool.true_eq_false, Bool.false_eq_true, go_sem, ↓reduceIte, reduceCtorEq, Nat.reduceAdd, Nat.reduceSub, Nat.reduceLT, Nat.reduceLeDiff]
            refine callK_of rfl qs5 (.inl rfl) ?_
            have hTS1 := hTS h
            have hTS2 : ¬ (T.length < S.length) := by omega
            simp only [hTS1, hTS2, Int.reduceEq, decide_true, decide_false, true_implies, false_implies, not_true, not_false_eq_true, and_true, true_and, SV.bool.injEq, Bool.true_eq_false, Bool.false_eq_true, go_sem, ↓reduceIte, reduceCtorEq, Nat.reduceAdd, Nat.reduceSub, Nat.reduceLT, Nat.reduceLeDiff]
            intro _
            simp only [c12r13, go_sem, ↓reduceIte, reduceCtorEq, Nat.reduceAdd, Nat.reduceSub, Nat.reduceLT, Nat.reduceLeDiff]
            refine callK_of rfl qk (.inr rfl) ?_
            simp only [c12r14, ints, go_sem, ↓reduceIte, reduceCtorEq, Nat.reduceAdd, Nat.reduceSub, Nat.reduceLT, Nat.reduceLeDiff]
            refine loop12 (x := x) (by omega) cut rfl ?_ ?_
            · simp only [c12l20m, bools, go_sem, ↓reduceIte, reduceCtorEq, Nat.reduceAdd, Nat.reduceSub, Nat.reduceLT, Nat.reduceLeDiff]
            · intro fr hfr
              subst hfr
              simp only [c12r21, go_sem, ↓reduceIte, reduceCtorEq, Nat.reduceAdd, Nat.reduceSub, Nat.reduceLT, Nat.reduceLeDiff]
              refine callK_of rfl q54 (.inr rfl) ?_
              simp only [go_sem, ↓reduceIte, reduceCtorEq, Nat.reduceAdd, Nat.reduceSub, Nat.reduceLT, Nat.reduceLeDiff]
              refine callK_of rfl q39b (.inl rfl) ?_
              simp only [c12r22, go_sem, ↓reduceIte, reduceCtorEq, Nat.reduceAdd, Nat.reduceSub, Nat.reduceLT, Nat.reduceLeDiff]
              refine wk _ _ ?_
              simp only [go_sem, ↓reduceIte, reduceCtorEq, Nat.reduceAdd, Nat.reduceSub, Nat.reduceLT, Nat.reduceLeDiff]
end Go.Proofs.Ytglmjdpmpgphkaa.Sk
