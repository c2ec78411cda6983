/- The code of a law in the value semantics. -/
import Derived.Test.YtglmjdpmpgphkaaM13

set_option linter.all false

namespace Go.Proofs.Ytglmjdpmpgphkaa.Sk
open Go Go.E

def c7r0 : List AOper := [
 oP 3 (.boxS (.t 0)),
 oP 6 (.mov bF)]
def c7r1 : List AOper := [
 oP 10 (.load 3 true (.t 3)),
 oP 11 (.call 41 [(.t 10)]),
 oM 12 11,
 oH 13 12 false 2,
 oG 14 12 false (.len false (.t 13)),
 oG 15 12 false (.cmp .gtr (.t 14) (nI 40)),
 oP 16 (.pick (.t 12) bT (.t 15))]
def c7r2 : List AOper := [
 oP 17 (.call 17 []),
 oM 6 17]
def c7r3 : List AOper := [
 oP 19 (.load 3 true (.t 3)),
 oM 20 1,
 oP 21 (.call 42 [(.t 19), (.t 20)]),
 oM 18 21,
 oP 22 (.ext (.t 18) 0),
 oP 23 (.ext (.t 18) 1),
 oM 7 22,
 oM 8 23]
def c7r4 : List AOper := [
 oP 24 (.load 3 true (.t 3)),
 oM 25 1,
 oP 26 (.call 43 [(.t 24), (.t 25)]),
 oM 9 26]
def c7r5 : List AOper := [
 oM 27 8,
 oM 28 9,
 oP 29 (.cmp .neq (.t 27) (.t 28)),
 oM 30 29,
 oG 31 30 false (.load 3 true (.t 3)),
 oH 32 30 false 1,
 oH 33 30 false 2,
 oG 34 30 false (.call 44 [(.t 31), (.t 32), (.t 33)]),
 oG 35 30 false (.load 3 true (.t 3)),
 oH 36 30 false 1,
 oH 37 30 false 2,
 oG 38 30 false (.call 45 [(.t 35), (.t 36), (.t 37)]),
 oG 39 30 false (.cmp .neq (.t 34) (.t 38)),
 oP 40 (.pick (.t 30) bT (.t 39))]
def c7r6 : List AOper := [
 oP 6 (.mov bF)]
def c7r7 : List AOper := [
 oM 41 9,
 oP 42 (.cmp .neq (.t 41) (nI 0))]
def c7r8 : List AOper := [
 oM 43 7,
 oN 44 43,
 oP 45 (.cmp .eql (.t 44) (nI 0)),
 oM 46 45,
 oG 47 46 true (.call 17 []),
 oP 48 (.pick (.t 46) (.t 47) bF),
 oM 6 48]
def c7r9 : List AOper := [
 oM 49 7,
 oN 50 49,
 oP 51 (.load 3 true (.t 3)),
 oM 52 1,
 oP 53 (.call 46 [(.t 51), (.t 52)]),
 oP 54 (.cmp .eql (.t 50) (.t 53)),
 oM 55 54,
 oG 56 55 true (.load 3 true (.t 3)),
 oH 57 55 true 1,
 oH 58 55 true 7,
 oG 59 55 true (.call 45 [(.t 56), (.t 57), (.t 58)]),
 oG 60 55 true (.cmp .eql (.t 59) (nI 0)),
 oP 61 (.pick (.t 55) (.t 60) bF),
 oM 62 61,
 oG 63 62 true (.call 17 []),
 oP 64 (.pick (.t 62) (.t 63) bF),
 oM 6 64]
def f7 : FRow := ⟨(.seq (.reg 0 c7r0) (.seq (.seq (.reg 0 c7r1) (.cond (.t 16) (.seq (.reg 0 c7r2) .ret) .skip)) (.seq (.reg 0 c7r3) (.seq (.reg 0 c7r4) (.seq (.seq (.reg 0 c7r5) (.cond (.t 40) (.seq (.reg 0 c7r6) .ret) .skip)) (.seq (.seq (.reg 0 c7r7) (.cond (.t 42) (.seq (.reg 0 c7r8) .ret) .skip)) (.seq (.reg 0 c7r9) .ret))))))), [.tmp 6], 65⟩
theorem okf7 : f7.Ok Try.prog 7 := ⟨_, _, Try.func7, rfl, by kernel_rfl, by kernel_rfl, by kernel_rfl⟩


end Go.Proofs.Ytglmjdpmpgphkaa.Sk

/- SkillTakes, reckoned: at every machine, number and answers it answers true. -/
namespace Go.Proofs.Ytglmjdpmpgphkaa.Sk
open Go Go.E Go.E.Sm
set_option maxRecDepth 10000

theorem tak_cases {pl wn : List Bool} {mv : List (List Int)} {x : Int} (h11 : chkM pl mv wn = 0 → mv.length ≤ 11) :
    (errT pl mv wn x ≠ 0 ∧ takS pl mv wn x = [.slice [], .int .i64 (errT pl mv wn x)]) ∨
    (errT pl mv wn x = 0 ∧ chkM pl mv wn = 0 ∧ inN mv.length x = true ∧ ∃ B, takS pl mv wn x = [prs (srtP B), .int .i64 0] ∧ ((srtP B).length : Int) = fewV pl mv wn x.toNat ∧ (srtP B).length ≤ 121 ∧ ckT pl mv wn x (srtP B) = 0) := by
  unfold errT takS
  by_cases h : chkM pl mv wn = 0
  · have hv := valid_of h
    have hc : ¬ (chkM pl mv wn ≠ 0) := fun hn => hn h
    simp only [if_neg hc]
    cases hx : inN mv.length x with
    | false => left; simp only [if_true]; exact ⟨by decide, trivial⟩
    | true =>
      have hx' := hx
      simp only [inN, Bool.and_eq_true, decide_eq_true_eq] at hx'
      have hz := few_zero hv (x := x.toNat) (by omega)
      rw [show ((x.toNat : Nat) : Int) = x by omega] at hz
      simp only [Bool.true_eq_false, if_false]
      rcases few_ok hv (h11 h) (x := x.toNat) (by omega) with ⟨h1, h2⟩ | ⟨B, h1, h2, h3, h4, h5, h6, _⟩
      · left
        have hd : ¬ 0 ≤ getI (distW pl mv wn) x := fun hd => by have := hz.2 hd; omega
        simp only [if_pos h2, if_neg hd, h1]
        exact ⟨by decide, trivial⟩
      · rw [show ((x.toNat : Nat) : Int) = x by omega] at h5
        have hn : ¬ fewV pl mv wn x.toNat < 0 := by omega
        by_cases h0 : fewV pl mv wn x.toNat = 0
        · left
          simp only [if_neg hn, if_pos h0, if_pos (hz.1 h0)]
          exact ⟨by decide, trivial⟩
        · right
          have hd : ¬ 0 ≤ getI (distW pl mv wn) x := fun hd => h0 (hz.2 hd)
          simp only [if_neg hn, if_neg h0, if_neg hd, h1]
          refine ⟨trivial, h, trivial, B, rfl, h3, h6, ?_⟩
          unfold ckT
          simp only [if_neg hc, hx, h4, Bool.true_eq_false, if_false]
          rw [if_neg (by omega)]
  · left
    simp only [if_pos (show chkM pl mv wn ≠ 0 from h)]
    exact ⟨h, trivial⟩

set_option maxHeartbeats 4000000 in
theorem law7 {pl wn : List Bool} {mv : List (List Int)} {x : Int} {T : List (Int × Int)} : E.Fn Try.prog 7 [mach pl mv wn, .int .i64 x, prs T] [.bool true] := by
  refine fn_of_row okf7 ?_
  simp only [FRow.start, f7, c7r0, c7r1, mach, bools, prs, go_sem, ↓reduceIte, reduceCtorEq, Nat.reduceAdd, Nat.reduceSub, Nat.reduceLT, Nat.reduceLeDiff]
  refine callK_of rfl (k41 (pl := pl) (mv := mv) (wn := wn)) (.inl rfl) ?_
  have wk : ∀ (H : List ABlock) (k : AK), k (LV.ofResults [.bool true]) H none True → callK Try.prog H 17 [] k := fun H k hk => callK_of rfl works_ok (.inl rfl) hk
  cases hf : wideB pl mv wn with
  | true =>
    simp only [c7r2, go_sem, ↓reduceIte, reduceCtorEq, Nat.reduceAdd, Nat.reduceSub, Nat.reduceLT, Nat.reduceLeDiff]
    refine wk _ _ ?_
    simp only [go_sem, ↓reduceIte, reduceCtorEq, Nat.reduceAdd, Nat.reduceSub, Nat.reduceLT, Nat.reduceLeDiff]
  | false =>
    have h11 : chkM pl mv wn = 0 → mv.length ≤ 11 := fun h => by
      simp only [wideB, Bool.or_eq_false_iff, Bool.and_eq_false_iff, decide_eq_false_iff_not] at hf
      omega
    simp only [go_sem, ↓reduceIte, reduceCtorEq, Nat.reduceAdd, Nat.reduceSub, Nat.reduceLT, Nat.reduceLeDiff]
    intro _
    refine ⟨fun _ => ?_, fun h40 => ?_⟩
    · simp only [c7r2, go_sem, ↓reduceIte, reduceCtorEq, Nat.reduceAdd, Nat.reduceSub, Nat.reduceLT, Nat.reduceLeDiff]
      refine wk _ _ ?_
      simp only [go_sem, ↓reduceIte, reduceCtorEq, Nat.reduceAdd, Nat.reduceSub, Nat.reduceLT, Nat.reduceLeDiff]
    · have hT : T.length ≤ 200 := by omega
      simp only [c7r3, go_sem, ↓reduceIte, reduceCtorEq, Nat.reduceAdd, Nat.reduceSub, Nat.reduceLT, Nat.reduceLeDiff]
      refine callK_of rfl (k42 (x := x) h11) (.inr rfl) ?_
      rcases tak_cases (x := x) h11 with ⟨h1, h2⟩ | ⟨h1, h2, h3, B, h4, h5, h6, h7⟩
      · rw [h2]
        simp only [c7r4, go_sem, ↓reduceIte, reduceCtorEq, Nat.reduceAdd, Nat.reduceSub, Nat.reduceLT, Nat.reduceLeDiff]
        refine callK_of rfl (k43 (x := x) h11) (.inl rfl) ?_
        simp only [c7r5, go_sem, ↓reduceIte, reduceCtorEq, Nat.reduceAdd, Nat.reduceSub, Nat.reduceLT, Nat.reduceLeDiff]
        refine callK_of rfl (k44 (x := x) hT) (.inl rfl) ?_
        simp only [go_sem, ↓reduceIte, reduceCtorEq, Nat.reduceAdd, Nat.reduceSub, Nat.reduceLT, Nat.reduceLeDiff]
        refine callK_of rfl (k45 (x := x) hT) (.inl rfl) ?_
        simp only [c7r7, h1, c7r8, go_sem, ↓reduceIte, reduceCtorEq, Nat.reduceAdd, Nat.reduceSub, Nat.reduceLT, Nat.reduceLeDiff]
        refine ⟨fun _ => wk _ _ ?_, fun h => absurd rfl h⟩
        simp only [go_sem, ↓reduceIte, reduceCtorEq, Nat.reduceAdd, Nat.reduceSub, Nat.reduceLT, Nat.reduceLeDiff]
      · rw [h4]
        have hv := valid_of h2
        simp only [inN, Bool.and_eq_true, decide_eq_true_eq] at h3
        have q := k46 (x := x.toNat) hv (h11 h2) (by omega)
        rw [show ((x.toNat : Nat) : Int) = x by omega, ← h5] at q
        have q2 := k45 (pl := pl) (mv := mv) (wn := wn) (x := x) (T := srtP B) (by omega)
        rw [h7] at q2
        have q3 := k43 (pl := pl) (mv := mv) (wn := wn) (x := x) h11
        rw [h1] at q3
        generalize srtP B = S at *
        simp only [c7r4, go_sem, ↓reduceIte, reduceCtorEq, Nat.reduceAdd, Nat.reduceSub, Nat.reduceLT, Nat.reduceLeDiff]
        refine callK_of rfl q3 (.inl rfl) ?_
        simp only [c7r5, go_sem, ↓reduceIte, reduceCtorEq, Nat.reduceAdd, Nat.reduceSub, Nat.reduceLT, Nat.reduceLeDiff]
        refine callK_of rfl (k44 (x := x) hT) (.inl rfl) ?_
        simp only [go_sem, ↓reduceIte, reduceCtorEq, Nat.reduceAdd, Nat.reduceSub, Nat.reduceLT, Nat.reduceLeDiff]
        refine callK_of rfl (k45 (x := x) hT) (.inl rfl) ?_
        simp only [c7r7, c7r9, prs, go_sem, ↓reduceIte, reduceCtorEq, Nat.reduceAdd, Nat.reduceSub, Nat.reduceLT, Nat.reduceLeDiff]
        refine callK_of rfl q (.inl rfl) ?_
        simp only [go_sem, ↓reduceIte, reduceCtorEq, Nat.reduceAdd, Nat.reduceSub, Nat.reduceLT, Nat.reduceLeDiff]
        refine callK_of rfl q2 (.inl rfl) ?_
        simp only [go_sem, ↓reduceIte, reduceCtorEq, Nat.reduceAdd, Nat.reduceSub, Nat.reduceLT, Nat.reduceLeDiff]
        refine wk _ _ ?_
        simp only [go_sem, ↓reduceIte, reduceCtorEq, Nat.reduceAdd, Nat.reduceSub, Nat.reduceLT, Nat.reduceLeDiff]
end Go.Proofs.Ytglmjdpmpgphkaa.Sk
