/- The code of a law in the value semantics. -/
import Derived.Test.YtglmjdpmpgphkaaM13

set_option linter.all false

namespace Go.Proofs.Ytglmjdpmpgphkaa.Sk
open Go Go.E

def c10r0 : List AOper := [
 oP 1 (.boxS (.t 0)),
 oP 2 (.mov (.c (.s (.bool false))))]
def c10r1 : List AOper := [
 oP 16 (.load 3 true (.t 1)),
 oP 17 (.call 47 [(.t 16)]),
 oP 18 (.not (.t 17))]
def c10r2 : List AOper := [
 oP 19 (.call 17 []),
 oP 2 (.mov (.t 19))]
def c10r3 : List AOper := [
 oP 21 (.load 3 true (.t 1)),
 oP 22 (.call 48 [(.t 21)]),
 oP 20 (.mov (.t 22)),
 oP 23 (.ext (.t 20) 0),
 oP 24 (.ext (.t 20) 1),
 oP 3 (.mov (.t 23)),
 oP 4 (.mov (.t 24))]
def c10r4 : List AOper := [
 oP 26 (.load 3 true (.t 1)),
 oP 27 (.call 29 [(.t 26)]),
 oP 25 (.mov (.t 27)),
 oP 28 (.ext (.t 25) 0),
 oP 29 (.ext (.t 25) 1),
 oP 5 (.mov (.t 28)),
 oP 6 (.mov (.t 29))]
def c10r5 : List AOper := [
 oP 31 (.load 3 true (.t 1)),
 oP 32 (.call 31 [(.t 31)]),
 oP 30 (.mov (.t 32)),
 oP 33 (.ext (.t 30) 0),
 oP 34 (.ext (.t 30) 1),
 oP 7 (.mov (.t 33)),
 oP 8 (.mov (.t 34))]
def c10r6 : List AOper := [
 oP 35 (.mov (.t 4)),
 oP 36 (.not (.t 35)),
 oP 37 (.mov (.t 36)),
 oG 38 37 false (.mov (.t 6)),
 oG 39 37 false (.cmp .neq (.t 38) (nI 0)),
 oP 40 (.pick (.t 37) (.c (.s (.bool true))) (.t 39)),
 oP 41 (.mov (.t 40)),
 oG 42 41 false (.mov (.t 8)),
 oG 43 41 false (.cmp .neq (.t 42) (nI 0)),
 oP 44 (.pick (.t 41) (.c (.s (.bool true))) (.t 43))]
def c10r7 : List AOper := [
 oP 2 (.mov (.c (.s (.bool false))))]
def c10r8 : List AOper := [
 oP 9 (.mov (nI 0))]
def c10r9 : List AOper := [
 oP 45 (.mov (.t 9)),
 oP 46 (.mov (.t 3)),
 oP 47 (.len false (.t 46)),
 oP 48 (.cmp .lss (.t 45) (.t 47))]
def c10r10 : List AOper := [
 oP 52 (.load 3 true (.t 1)),
 oP 53 (.mov (.t 9)),
 oP 54 (.call 39 [(.t 52), (.t 53)]),
 oP 51 (.mov (.t 54)),
 oP 55 (.ext (.t 51) 0),
 oP 56 (.ext (.t 51) 1),
 oP 10 (.mov (.t 55)),
 oP 11 (.mov (.t 56))]
def c10r11 : List AOper := [
 oP 58 (.load 3 true (.t 1)),
 oP 59 (.mov (.t 5)),
 oP 60 (.mov (.t 7)),
 oP 61 (.mov (.t 9)),
 oP 62 (.call 35 [(.t 58), (.t 59), (.t 60), (.t 61)]),
 oP 57 (.mov (.t 62)),
 oP 63 (.ext (.t 57) 0),
 oP 64 (.ext (.t 57) 1),
 oP 65 (.ext (.t 57) 2),
 oP 12 (.mov (.t 63)),
 oP 13 (.mov (.t 64)),
 oP 14 (.mov (.t 65))]
def c10r12 : List AOper := [
 oP 66 (.mov (.t 14)),
 oP 67 (.cmp .neq (.t 66) (nI 0)),
 oP 68 (.mov (.t 67)),
 oG 69 68 false (.mov (.t 12)),
 oG 70 68 false (.len false (.t 69)),
 oG 71 68 false (.cmp .lss (.t 70) (nI 1)),
 oP 72 (.pick (.t 68) (.c (.s (.bool true))) (.t 71)),
 oP 73 (.mov (.t 72)),
 oG 74 73 false (.mov (.t 12)),
 oG 75 73 false (.len false (.t 74)),
 oG 76 73 false (.mov (.t 3)),
 oG 77 73 false (.len false (.t 76)),
 oG 78 73 false (.cmp .gtr (.t 75) (.t 77)),
 oP 79 (.pick (.t 73) (.c (.s (.bool true))) (.t 78)),
 oP 80 (.mov (.t 79)),
 oG 81 80 false (.mov (.t 12)),
 oG 82 80 false (.idxA 1 (.t 81) (nI 0)),
 oG 83 80 false (.load 1 false (.t 82)),
 oG 84 80 false (.mov (.t 9)),
 oG 85 80 false (.cmp .neq (.t 83) (.t 84)),
 oP 86 (.pick (.t 80) (.c (.s (.bool true))) (.t 85)),
 oP 87 (.mov (.t 86)),
 oG 88 87 false (.mov (.t 13)),
 oG 89 87 false (.mov (.t 3)),
 oG 90 87 false (.mov (.t 9)),
 oG 91 87 false (.idxA 1 (.t 89) (.t 90)),
 oG 92 87 false (.load 1 false (.t 91)),
 oG 93 87 false (.cmp .geq (.t 92) (nI 0)),
 oG 94 87 false (.eql false [.bool] true (.t 88) (.t 93)),
 oP 95 (.pick (.t 87) (.c (.s (.bool true))) (.t 94))]
def c10r13 : List AOper := [
 oP 2 (.mov (.c (.s (.bool false))))]
def c10r14 : List AOper := [
 oP 96 (.mov (.t 3)),
 oP 97 (.mov (.t 9)),
 oP 98 (.idxA 1 (.t 96) (.t 97)),
 oP 99 (.load 1 false (.t 98)),
 oP 100 (.cmp .lss (.t 99) (nI 0))]
def c10r15 : List AOper := [
 oP 101 (.mov (.t 11)),
 oP 102 (.cmp .neq (.t 101) (nI 19))]
def c10r16 : List AOper := [
 oP 2 (.mov (.c (.s (.bool false))))]
def c10r17 : List AOper := [
 oP 103 (.mov (.t 11)),
 oP 104 (.cmp .neq (.t 103) (nI 0)),
 oP 105 (.mov (.t 104)),
 oG 106 105 false (.mov (.t 10)),
 oG 107 105 false (.mov (.t 3)),
 oG 108 105 false (.mov (.t 9)),
 oG 109 105 false (.idxA 1 (.t 107) (.t 108)),
 oG 110 105 false (.load 1 false (.t 109)),
 oG 111 105 false (.cmp .neq (.t 106) (.t 110)),
 oP 112 (.pick (.t 105) (.c (.s (.bool true))) (.t 111)),
 oP 113 (.mov (.t 112)),
 oG 114 113 false (.mov (.t 12)),
 oG 115 113 false (.len false (.t 114)),
 oG 116 113 false (.mov (.t 10)),
 oG 117 113 false (.arith .add (.t 116) (nI 1)),
 oG 118 113 false (.cmp .neq (.t 115) (.t 117)),
 oP 119 (.pick (.t 113) (.c (.s (.bool true))) (.t 118))]
def c10r18 : List AOper := [
 oP 2 (.mov (.c (.s (.bool false))))]
def c10r19 : List AOper := [
 oP 15 (.mov (nI 0))]
def c10r20 : List AOper := [
 oP 120 (.mov (.t 15)),
 oP 121 (.mov (.t 12)),
 oP 122 (.len false (.t 121)),
 oP 123 (.cmp .lss (.t 120) (.t 122))]
def c10r21 : List AOper := [
 oP 126 (.mov (.t 12)),
 oP 127 (.mov (.t 15)),
 oP 128 (.idxA 1 (.t 126) (.t 127)),
 oP 129 (.load 1 false (.t 128)),
 oP 130 (.cmp .lss (.t 129) (nI 0)),
 oP 131 (.mov (.t 130)),
 oG 132 131 false (.mov (.t 12)),
 oG 133 131 false (.mov (.t 15)),
 oG 134 131 false (.idxA 1 (.t 132) (.t 133)),
 oG 135 131 false (.load 1 false (.t 134)),
 oG 136 131 false (.mov (.t 3)),
 oG 137 131 false (.len false (.t 136)),
 oG 138 131 false (.cmp .geq (.t 135) (.t 137)),
 oP 139 (.pick (.t 131) (.c (.s (.bool true))) (.t 138)),
 oP 140 (.mov (.t 139)),
 oG 141 140 false (.mov (.t 3)),
 oG 142 140 false (.mov (.t 12)),
 oG 143 140 false (.mov (.t 15)),
 oG 144 140 false (.idxA 1 (.t 142) (.t 143)),
 oG 145 140 false (.load 1 false (.t 144)),
 oG 146 140 false (.idxA 1 (.t 141) (.t 145)),
 oG 147 140 false (.load 1 false (.t 146)),
 oG 148 140 false (.mov (.t 10)),
 oG 149 140 false (.mov (.t 15)),
 oG 150 140 false (.arith .sub (.t 148) (.t 149)),
 oG 151 140 false (.cmp .neq (.t 147) (.t 150)),
 oP 152 (.pick (.t 140) (.c (.s (.bool true))) (.t 151))]
def c10r22 : List AOper := [
 oP 2 (.mov (.c (.s (.bool false))))]
def c10r23 : List AOper := [
 oP 124 (.mov (.t 15)),
 oP 125 (.arith .add (.t 124) (nI 1)),
 oP 15 (.mov (.t 125))]
def c10l24 : ACode := (.seq (.seq (.reg 0 c10r20) (.cond (.t 123) .skip (.exit 2))) (.seq (.block 3 (.seq (.reg 0 c10r21) (.cond (.t 152) (.seq (.reg 0 c10r22) .ret) .skip))) (.reg 0 c10r23)))
def c10l24m : List Bool := [false, true, false, true, false, true, false, true, false, true, true, false, true, false, false, true, false, false, false, false, false, false, false, false, false, false, false, false, false, false, false, false, false, false, false, false, false, false, false, false, false, false, false, false, false, false, false, false, false, false, false, false, false, false, false, false, false, false, false, false, false, false, false, false, false, false, false, false, false, false, false, false, false, false, false, false, false, false, false, false, false, false, false, false, false, false, false, false, false, false, false, false, false, false, false, false, false, false, false, false, false, false, false, false, false, false, false, false, false, false, false, false, false, false, false, false, false, false, false, false, false, false, false, false, false, false, false, false, false, false, false, false, false, false, false, false, false, false, false, false, false, false, false, false, false, false, false, false, false, false, false, false, false, false]
def c10r25 : List AOper := [
 oP 49 (.mov (.t 9)),
 oP 50 (.arith .add (.t 49) (nI 1)),
 oP 9 (.mov (.t 50))]
def c10l26 : ACode := (.seq (.seq (.reg 0 c10r9) (.cond (.t 48) .skip (.exit 0))) (.seq (.block 1 (.seq (.reg 0 c10r10) (.seq (.reg 0 c10r11) (.seq (.seq (.reg 0 c10r12) (.cond (.t 95) (.seq (.reg 0 c10r13) .ret) .skip)) (.seq (.seq (.reg 0 c10r14) (.cond (.t 100) (.seq (.seq (.reg 0 c10r15) (.cond (.t 102) (.seq (.reg 0 c10r16) .ret) .skip)) (.exit 1)) .skip)) (.seq (.seq (.reg 0 c10r17) (.cond (.t 119) (.seq (.reg 0 c10r18) .ret) .skip)) (.seq (.reg 0 c10r19) (.block 2 (.loop c10l24m [] c10l24))))))))) (.reg 0 c10r25)))
def c10l26m : List Bool := [false, true, false, true, false, true, false, true, false, true, false, false, false, false, false, false, false, false, false, false, false, false, false, false, false, false, false, false, false, false, false, false, false, false, false, false, false, false, false, false, false, false, false, false, false, false, false, false, false, false, false, false, false, false, false, false, false, false, false, false, false, false, false, false, false, false, false, false, false, false, false, false, false, false, false, false, false, false, false, false, false, false, false, false, false, false, false, false, false, false, false, false, false, false, false, false, false, false, false, false, false, false, false, false, false, false, false, false, false, false, false, false, false, false, false, false, false, false, false, false, false, false, false, false, false, false, false, false, false, false, false, false, false, false, false, false, false, false, false, false, false, false, false, false, false, false, false, false, false, false, false, false, false, false]
def c10r27 : List AOper := [
 oP 153 (.call 17 []),
 oP 2 (.mov (.t 153))]
def f10 : FRow := ⟨(.seq (.reg 0 c10r0) (.seq (.seq (.reg 0 c10r1) (.cond (.t 18) (.seq (.reg 0 c10r2) .ret) .skip)) (.seq (.reg 0 c10r3) (.seq (.reg 0 c10r4) (.seq (.reg 0 c10r5) (.seq (.seq (.reg 0 c10r6) (.cond (.t 44) (.seq (.reg 0 c10r7) .ret) .skip)) (.seq (.seq (.reg 0 c10r8) (.block 0 (.loop c10l26m [] c10l26))) (.seq (.reg 0 c10r27) .ret)))))))), [.tmp 2], 154⟩
theorem okf10 : f10.Ok Try.prog 10 := ⟨_, _, Try.func10, rfl, by kernel_rfl, by kernel_rfl, by kernel_rfl⟩


end Go.Proofs.Ytglmjdpmpgphkaa.Sk

/- SkillPlayed, reckoned: at every machine it answers true. -/
namespace Go.Proofs.Ytglmjdpmpgphkaa.Sk
open Go Go.E Go.E.Sm
set_option maxRecDepth 10000

set_option maxHeartbeats 4000000 in
theorem law10 {pl wn : List Bool} {mv : List (List Int)} : E.Fn Try.prog 10 [mach pl mv wn] [.bool true] := by
  refine fn_of_row okf10 ?_
  simp only [FRow.start, f10, c10r0, c10r1, mach, bools, ints, go_sem, ↓reduceIte, reduceCtorEq, Nat.reduceAdd, Nat.reduceSub, Nat.reduceLT, Nat.reduceLeDiff]
  refine callK_of rfl (k47 (pl := pl) (mv := mv) (wn := wn)) (.inl rfl) ?_
  have wk : ∀ (H : List ABlock) (k : AK), k (LV.ofResults [.bool true]) H none True → callK Try.prog H 17 [] k := fun H k hk => callK_of rfl works_ok (.inl rfl) hk
  cases hf : (!greatB pl mv wn && decide (chkM pl mv wn = 0)) with
  | false =>
    simp only [c10r2, go_sem, ↓reduceIte, reduceCtorEq, Nat.reduceAdd, Nat.reduceSub, Nat.reduceLT, Nat.reduceLeDiff]
    refine wk _ _ ?_
    simp only [go_sem, ↓reduceIte, reduceCtorEq, Nat.reduceAdd, Nat.reduceSub, Nat.reduceLT, Nat.reduceLeDiff]
  | true =>
    simp only [Bool.and_eq_true, decide_eq_true_eq] at hf
    have hv := valid_of hf.2
    have h1 := hv.few
    have h2 := hv.pos
    have hdl := distW_len hv
    have hw1 : waysR pl mv wn true = [ints (wayL pl mv wn true), .int .i64 0] := by unfold waysR; rw [if_pos hf.2]
    have hw2 : waysR pl mv wn false = [ints (wayL pl mv wn false), .int .i64 0] := by unfold waysR; rw [if_pos hf.2]
    simp only [c10r3, go_sem, ↓reduceIte, reduceCtorEq, Nat.reduceAdd, Nat.reduceSub, Nat.reduceLT, Nat.reduceLeDiff]
    refine callK_of rfl (k48 (pl := pl) (mv := mv) (wn := wn) hv) (.inr rfl) ?_
    simp only [c10r4, go_sem, ↓reduceIte, reduceCtorEq, Nat.reduceAdd, Nat.reduceSub, Nat.reduceLT, Nat.reduceLeDiff]
    refine callK_of rfl (k29 (pl := pl) (mv := mv) (wn := wn)) (.inr rfl) ?_
    rw [hw1]
    simp only [c10r5, go_sem, ↓reduceIte, reduceCtorEq, Nat.reduceAdd, Nat.reduceSub, Nat.reduceLT, Nat.reduceLeDiff]
    refine callK_of rfl (k31 (pl := pl) (mv := mv) (wn := wn)) (.inr rfl) ?_
    rw [hw2]
    have hpl := fun i hi => played hv (i := i) hi
    have hsu : ∀ i : Nat, i < mv.length → sureR pl mv wn i = if getI (distW pl mv wn) i < 0 then [.int .i64 0, .int .i64 19] else [.int .i64 (getI (distW pl mv wn) i), .int .i64 0] := fun i hi => by
      unfold sureR
      have : inN mv.length i = true := by simp [inN]; omega
      rw [if_neg (by rw [hf.2]; simp), if_neg (by rw [this]; simp)]
    have hpr : ∀ i : Nat, i < mv.length → ∀ P, playW pl mv (wayL pl mv wn true) (wayL pl mv wn false) i = P → playR pl mv wn (wayL pl mv wn true) (wayL pl mv wn false) i = [ints P, .bool (wn.getD (lastI P).toNat false), .int .i64 0] := fun i hi P hP => by
      unfold playR
      have : inN mv.length i = true := by simp [inN]; omega
      rw [if_neg (by rw [of_isWay hv (way_is hv)]; simp), if_neg (by rw [of_isWay hv (way_is hv)]; simp), if_neg (by rw [this]; simp), hP]; rfl
    generalize hA : wayL pl mv wn true = A at *
    generalize hB : wayL pl mv wn false = B at *
    generalize hD : distW pl mv wn = D at *
    simp only [c10r6, c10r8, ints, go_sem, ↓reduceIte, reduceCtorEq, Nat.reduceAdd, Nat.reduceSub, Nat.reduceLT, Nat.reduceLeDiff]
    refine loop_rule (fun n τ => ∃ i : Nat, n = mv.length - i ∧ i ≤ mv.length ∧
      τ = ⟨[.any, .s (.ptr [.slice (pl.map .bool), .slice (mv.map ints), .slice (wn.map .bool)]), .any, .s (.slice (D.map (.int .i64))), .any, .s (.slice (A.map (.int .i64))), .any, .s (.slice (B.map (.int .i64))), .any, .s (.int .i64 i), .any, .any, .any, .any, .any, .any, .any, .any, .any, .any, .any, .any, .any, .any, .any, .any, .any, .any, .any, .any, .any, .any, .any, .any, .any, .any, .any, .any, .any, .any, .any, .any, .any, .any, .any, .any, .any, .any, .any, .any, .any, .any, .any, .any, .any, .any, .any, .any, .any, .any, .any, .any, .any, .any, .any, .any, .any, .any, .any, .any, .any, .any, .any, .any, .any, .any, .any, .any, .any, .any, .any, .any, .any, .any, .any, .any, .any, .any, .any, .any, .any, .any, .any, .any, .any, .any, .any, .any, .any, .any, .any, .any, .any, .any, .any, .any, .any, .any, .any, .any, .any, .any, .any, .any, .any, .any, .any, .any, .any, .any, .any, .any, .any, .any, .any, .any, .any, .any, .any, .any, .any, .any, .any, .any, .any, .any, .any, .any, .any, .any, .any, .any, .any, .any, .any, .any, .any, .any, .any, .any, .any, .any, .any, .any], []⟩) mv.length rfl ?_ ?_
    · simp only [c10l26m, go_sem, ↓reduceIte, reduceCtorEq, Nat.reduceAdd, Nat.reduceSub, Nat.reduceLT, Nat.reduceLeDiff]
      exact ⟨0, rfl, Nat.zero_le _, rfl⟩
    · rintro I n τ ⟨i, rfl, hi, rfl⟩ hI
      simp only [c10l26, c10r9, hdl, go_sem, ↓reduceIte, reduceCtorEq, Nat.reduceAdd, Nat.reduceSub, Nat.reduceLT, Nat.reduceLeDiff]
      intro _
      refine ⟨fun hlt => ?_, fun hge => ?_⟩
      · have hlt' : i < mv.length := by omega
        have hx := getI_nat (W := D) (i := i) (by omega)
        have hx2 : i < D.length := by omega
        obtain ⟨P, hP, hp1, hp2, hp3, hp4, hp5⟩ := hpl i hlt'
        have hs := hsu i hlt'
        have hr := hpr i hlt' P hP
        have hp0 : 0 < P.length := hp1
        rw [hp4] at hr
        have hq1 : ¬ ((P.length : Int) < 1) := by omega
        have hq2 : ¬ (D.length < P.length) := by omega
        simp only [c10r10, go_sem, ↓reduceIte, reduceCtorEq, Nat.reduceAdd, Nat.reduceSub, Nat.reduceLT, Nat.reduceLeDiff]
        refine callK_of rfl (k39 (pl := pl) (mv := mv) (wn := wn) (x := i)) (.inr (by simp only [mach, bools, ints, go_sem, ↓reduceIte, reduceCtorEq, Nat.reduceAdd, Nat.reduceSub, Nat.reduceLT, Nat.reduceLeDiff])) ?_
        rw [hs]
        by_cases hneg : getI D i < 0
        · have hn1 : decide (0 ≤ getI D i) = false := by simp; omega
          rw [if_pos hneg]
          simp only [c10r11, go_sem, ↓reduceIte, reduceCtorEq, Nat.reduceAdd, Nat.reduceSub, Nat.reduceLT, Nat.reduceLeDiff]
          refine callK_of rfl (k35 (pl := pl) (mv := mv) (wn := wn) (own := A) (other := B) (x := i)) (.inr (by simp only [mach, bools, ints, go_sem, ↓reduceIte, reduceCtorEq, Nat.reduceAdd, Nat.reduceSub, Nat.reduceLT, Nat.reduceLeDiff])) ?_
          rw [hr, hn1]
          simp only [c10r12, Int.toNat_zero, hx, hx2, hp3, hp0, hq1, hq2, hn1, ints, hneg, c10r14, c10r15, go_sem, ↓reduceIte, reduceCtorEq, Nat.reduceAdd, Nat.reduceSub, Nat.reduceLT, Nat.reduceLeDiff]
          intro _
          simp only [c10r25, c10l26m, go_sem, ↓reduceIte, reduceCtorEq, Nat.reduceAdd, Nat.reduceSub, Nat.reduceLT, Nat.reduceLeDiff]
          exact ⟨inR_i64 (by omega) (by omega), hI (mv.length - (i + 1)) _ (by omega) ⟨i + 1, rfl, by omega, by simp⟩⟩
        · have hn1 : decide (0 ≤ getI D i) = true := by simp; omega
          obtain ⟨hp6, hp7⟩ := hp5 (by omega)
          rw [if_neg hneg]
          simp only [c10r11, go_sem, ↓reduceIte, reduceCtorEq, Nat.reduceAdd, Nat.reduceSub, Nat.reduceLT, Nat.reduceLeDiff]
          refine callK_of rfl (k35 (pl := pl) (mv := mv) (wn := wn) (own := A) (other := B) (x := i)) (.inr (by simp only [mach, bools, ints, go_sem, ↓reduceIte, reduceCtorEq, Nat.reduceAdd, Nat.reduceSub, Nat.reduceLT, Nat.reduceLeDiff])) ?_
          rw [hr, hn1]
          simp only [c10r12, Int.toNat_zero, hx, hx2, hp3, hp0, hq1, hq2, hn1, ints, hneg, c10r14, c10r17, go_sem, ↓reduceIte, reduceCtorEq, Nat.reduceAdd, Nat.reduceSub, Nat.reduceLT, Nat.reduceLeDiff]
          intro _
          have hdi := hp6
          refine ⟨inR_i64 (by omega) (by omega), fun _ => ⟨fun _ => ?_, fun hn => absurd hp6 hn⟩⟩
          simp only [c10r19, go_sem, ↓reduceIte, reduceCtorEq, Nat.reduceAdd, Nat.reduceSub, Nat.reduceLT, Nat.reduceLeDiff]
          refine loop_rule (fun n τ => ∃ j : Nat, n = P.length - j ∧ j ≤ P.length ∧
            τ = ⟨[.any, .s (.ptr [.slice (pl.map .bool), .slice (mv.map ints), .slice (wn.map .bool)]), .any, .s (.slice (D.map (.int .i64))), .any, .s (.slice (A.map (.int .i64))), .any, .s (.slice (B.map (.int .i64))), .any, .s (.int .i64 i), .s (.int .i64 (getI D i)), .any, .s (.slice (P.map (.int .i64))), .any, .any, .s (.int .i64 j), .any, .any, .any, .any, .any, .any, .any, .any, .any, .any, .any, .any, .any, .any, .any, .any, .any, .any, .any, .any, .any, .any, .any, .any, .any, .any, .any, .any, .any, .any, .any, .any, .any, .any, .any, .any, .any, .any, .any, .any, .any, .any, .any, .any, .any, .any, .any, .any, .any, .any, .any, .any, .any, .any, .any, .any, .any, .any, .any, .any, .any, .any, .any, .any, .any, .any, .any, .any, .any, .any, .any, .any, .any, .any, .any, .any, .any, .any, .any, .any, .any, .any, .any, .any, .any, .any, .any, .any, .any, .any, .any, .any, .any, .any, .any, .any, .any, .any, .any, .any, .any, .any, .any, .any, .any, .any, .any, .any, .any, .any, .any, .any, .any, .any, .any, .any, .any, .any, .any, .any, .any, .any, .any, .any, .any, .any, .any, .any, .any, .any, .any, .any, .any, .any, .any, .any, .any, .any], []⟩) P.length rfl ?_ ?_
          · simp only [c10l24m, go_sem, ↓reduceIte, reduceCtorEq, Nat.reduceAdd, Nat.reduceSub, Nat.reduceLT, Nat.reduceLeDiff]
            exact ⟨0, rfl, Nat.zero_le _, rfl⟩
          · rintro I2 n τ ⟨j, rfl, hj, rfl⟩ hI2
            simp only [c10l24, c10r20, go_sem, ↓reduceIte, reduceCtorEq, Nat.reduceAdd, Nat.reduceSub, Nat.reduceLT, Nat.reduceLeDiff]
            intro _
            refine ⟨fun hlj => ?_, fun hgj => ?_⟩
            · have hlj' : j < P.length := by omega
              have hy := getI_nat (W := P) (i := j) hlj'
              have hyp := hp7 j _ hy
              generalize getI P j = y at *
              have hz := getI_get (W := D) (x := y) hyp.1.1 (by omega)
              have hz2 : y.toNat < D.length := by omega
              have hn0 : ¬ (y < 0) := by omega
              have hn2 : ¬ ((D.length : Int) ≤ y) := by omega
              have hye := hyp.2
              simp only [c10r21, hy, hlj', hz, hz2, hn0, hn2, hye, ints, go_sem, ↓reduceIte, reduceCtorEq, Nat.reduceAdd, Nat.reduceSub, Nat.reduceLT, Nat.reduceLeDiff]
              refine ⟨hyp.1.1, inR_i64 (by omega) (by omega), fun _ => ?_⟩
              simp only [c10r23, c10l24m, go_sem, ↓reduceIte, reduceCtorEq, Nat.reduceAdd, Nat.reduceSub, Nat.reduceLT, Nat.reduceLeDiff]
              exact ⟨inR_i64 (by omega) (by omega), hI2 (P.length - (j + 1)) _ (by omega) ⟨j + 1, rfl, by omega, by simp⟩⟩
            · simp only [c10r25, c10l26m, go_sem, ↓reduceIte, reduceCtorEq, Nat.reduceAdd, Nat.reduceSub, Nat.reduceLT, Nat.reduceLeDiff]
              exact ⟨inR_i64 (by omega) (by omega), hI (mv.length - (i + 1)) _ (by omega) ⟨i + 1, rfl, by omega, by simp⟩⟩
      · have hie : i = mv.length := by omega
        subst hie
        simp only [c10r27, go_sem, ↓reduceIte, reduceCtorEq, Nat.reduceAdd, Nat.reduceSub, Nat.reduceLT, Nat.reduceLeDiff]
        refine wk _ _ ?_
        simp only [go_sem, ↓reduceIte, reduceCtorEq, Nat.reduceAdd, Nat.reduceSub, Nat.reduceLT, Nat.reduceLeDiff]
end Go.Proofs.Ytglmjdpmpgphkaa.Sk
