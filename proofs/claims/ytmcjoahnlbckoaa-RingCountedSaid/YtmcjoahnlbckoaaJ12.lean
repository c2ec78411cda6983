/- The code of a law in the value semantics. -/
import Derived.Test.YtmcjoahnlbckoaaJ11

set_option linter.all false

namespace Go.Proofs.Ytmcjoahnlbckoaa.Sk
open Go Go.E
def c10r0 : List AOper := [
 oP 2 (.boxS (.t 0)),
 oP 4 (.mov bF)]
def c10r1 : List AOper := [
 oP 17 (.load 2 true (.t 2)),
 oP 18 (.call 45 [(.t 17)]),
 oP 19 (.not (.t 18))]
def c10r2 : List AOper := [
 oP 20 (.call 18 []),
 oM 4 20]
def c10r3 : List AOper := [
 oM 21 1,
 oP 22 (.conv .i64 (.t 21)),
 oP 23 (.div .rem (.t 22) (nI 8)),
 oM 5 23]
def c10r4 : List AOper := [
 oP 25 (.load 2 true (.t 2)),
 oP 26 (.call 46 [(.t 25)]),
 oM 24 26,
 oP 27 (.ext (.t 24) 0),
 oP 28 (.ext (.t 24) 1),
 oP 29 (.ext (.t 24) 2),
 oM 6 27,
 oM 7 28,
 oM 8 29]
def c10r5 : List AOper := [
 oP 31 (.load 2 true (.t 2)),
 oM 32 5,
 oP 33 (.call 50 [(.t 31), (.t 32)]),
 oM 30 33,
 oP 34 (.ext (.t 30) 0),
 oP 35 (.ext (.t 30) 1),
 oM 9 34,
 oM 10 35]
def c10r6 : List AOper := [
 oP 37 (.load 2 true (.t 2)),
 oM 38 5,
 oP 39 (.arith .add (.t 38) (nI 1)),
 oP 40 (.call 50 [(.t 37), (.t 39)]),
 oM 36 40,
 oP 41 (.ext (.t 36) 0),
 oP 42 (.ext (.t 36) 1),
 oM 11 41,
 oM 12 42]
def c10r7 : List AOper := [
 oM 43 8,
 oP 44 (.not (.t 43)),
 oM 45 44,
 oH 46 45 false 10,
 oG 47 45 false (.not (.t 46)),
 oP 48 (.pick (.t 45) bT (.t 47)),
 oM 49 48,
 oH 50 49 false 12,
 oG 51 49 false (.not (.t 50)),
 oP 52 (.pick (.t 49) bT (.t 51)),
 oM 53 52,
 oH 54 53 false 9,
 oG 55 53 false (.cmp .eql (.t 54) (nI 0)),
 oH 56 53 false 5,
 oH 57 53 false 6,
 oG 58 53 false (.cmp .lss (.t 56) (.t 57)),
 oG 59 53 false (.eql false [.bool] true (.t 55) (.t 58)),
 oP 60 (.pick (.t 53) bT (.t 59)),
 oM 61 60,
 oH 62 61 false 11,
 oH 63 61 false 9,
 oG 64 61 false (.cmp .lss (.t 62) (.t 63)),
 oP 65 (.pick (.t 61) bT (.t 64)),
 oM 66 65,
 oH 67 66 false 9,
 oG 68 66 false (.cmp .gtr (.t 67) (nI 0)),
 oH 69 66 false 68,
 oH 70 69 true 11,
 oH 71 69 true 9,
 oG 72 69 true (.cmp .eql (.t 70) (.t 71)),
 oG 73 66 false (.pick (.t 69) (.t 72) bF),
 oP 74 (.pick (.t 66) bT (.t 73))]
def c10r8 : List AOper := [
 oP 4 (.mov bF)]
def c10r9 : List AOper := [
 oP 13 (.mov bF),
 oP 14 (.mov (nI 1))]
def c10r10 : List AOper := [
 oP 15 (.mov (nI 0))]
def c10r11 : List AOper := [
 oM 75 15,
 oF 76 0 2,
 oL 77 76,
 oN 78 77,
 oP 79 (.cmp .lss (.t 75) (.t 78))]
def c10r12 : List AOper := [
 oM 82 14,
 oM 83 5,
 oP 84 (.arith .mul (.t 82) (.t 83)),
 oM 14 84]
def c10r13 : List AOper := [
 oP 16 (.mov (nI 0))]
def c10r14 : List AOper := [
 oM 85 16,
 oM 86 15,
 oP 87 (.cmp .lss (.t 85) (.t 86))]
def c10r15 : List AOper := [
 oM 90 13,
 oM 91 90,
 oG 92 91 false (.load 2 true (.t 2)),
 oH 93 91 false 16,
 oH 94 91 false 15,
 oG 95 91 false (.call 51 [(.t 92), (.t 93), (.t 94)]),
 oP 96 (.pick (.t 91) bT (.t 95)),
 oM 13 96]
def c10r16 : List AOper := [
 oM 88 16,
 oP 89 (.arith .add (.t 88) (nI 1)),
 oM 16 89]
def c10l17 : ACode := (.seq (.seq (.reg 0 c10r14) (.cond (.t 87) .skip (.exit 2))) (.seq (.block 3 (.reg 0 c10r15)) (.reg 0 c10r16)))
def c10l17m : List Bool := [fF,fF,tT,fF,fF,tT,fF,fF,fF,tT,fF,fF,fF,tT,tT,tT,tT,fF,fF,fF,fF,fF,fF,fF,fF,fF,fF,fF,fF,fF,fF,fF,fF,fF,fF,fF,fF,fF,fF,fF,fF,fF,fF,fF,fF,fF,fF,fF,fF,fF,fF,fF,fF,fF,fF,fF,fF,fF,fF,fF,fF,fF,fF,fF,fF,fF,fF,fF,fF,fF,fF,fF,fF,fF,fF,fF,fF,fF,fF,fF,fF,fF,fF,fF,fF,fF,fF,fF,fF,fF,fF,fF,fF,fF,fF,fF,fF,fF,fF,fF,fF,fF,fF,fF,fF,fF,fF,fF,fF,fF,fF]
def c10r18 : List AOper := [
 oM 80 15,
 oP 81 (.arith .add (.t 80) (nI 1)),
 oM 15 81]
def c10l19 : ACode := (.seq (.seq (.reg 0 c10r11) (.cond (.t 79) .skip (.exit 0))) (.seq (.block 1 (.seq (.reg 0 c10r12) (.seq (.reg 0 c10r13) (.block 2 (.loop c10l17m [] c10l17))))) (.reg 0 c10r18)))
def c10l19m : List Bool := [fF,fF,tT,fF,fF,tT,fF,fF,fF,tT,fF,fF,fF,tT,tT,tT,fF,fF,fF,fF,fF,fF,fF,fF,fF,fF,fF,fF,fF,fF,fF,fF,fF,fF,fF,fF,fF,fF,fF,fF,fF,fF,fF,fF,fF,fF,fF,fF,fF,fF,fF,fF,fF,fF,fF,fF,fF,fF,fF,fF,fF,fF,fF,fF,fF,fF,fF,fF,fF,fF,fF,fF,fF,fF,fF,fF,fF,fF,fF,fF,fF,fF,fF,fF,fF,fF,fF,fF,fF,fF,fF,fF,fF,fF,fF,fF,fF,fF,fF,fF,fF,fF,fF,fF,fF,fF,fF,fF,fF,fF,fF]
def c10r20 : List AOper := [
 oM 97 9,
 oM 98 14,
 oP 99 (.cmp .leq (.t 97) (.t 98)),
 oM 100 99,
 oH 101 100 true 9,
 oH 102 100 true 14,
 oG 103 100 true (.cmp .eql (.t 101) (.t 102)),
 oH 104 100 true 103,
 oH 105 104 false 13,
 oG 106 100 true (.pick (.t 104) bT (.t 105)),
 oP 107 (.pick (.t 100) (.t 106) bF),
 oM 108 107,
 oG 109 108 true (.call 18 []),
 oP 110 (.pick (.t 108) (.t 109) bF),
 oM 4 110]
def f10 : FRow := ⟨(.seq (.reg 0 c10r0) (.seq (.seq (.reg 0 c10r1) (.cond (.t 19) (.seq (.reg 0 c10r2) .ret) .skip)) (.seq (.reg 0 c10r3) (.seq (.reg 0 c10r4) (.seq (.reg 0 c10r5) (.seq (.reg 0 c10r6) (.seq (.seq (.reg 0 c10r7) (.cond (.t 74) (.seq (.reg 0 c10r8) .ret) .skip)) (.seq (.reg 0 c10r9) (.seq (.seq (.reg 0 c10r10) (.block 0 (.loop c10l19m [] c10l19))) (.seq (.reg 0 c10r20) .ret)))))))))), [.tmp 4], 111⟩
theorem okf10 : f10.Ok Try.prog 10 := ⟨_, _, Try.func10, rfl, by kernel_rfl, by kernel_rfl, by kernel_rfl⟩
end Go.Proofs.Ytmcjoahnlbckoaa.Sk

/- RingCounted, reckoned: at every book and number of rings it answers true. -/
namespace Go.Proofs.Ytmcjoahnlbckoaa.Sk
open Go Go.E Go.E.Sm
set_option maxRecDepth 10000
theorem tmod_nat (a b : Nat) : (a : Int).tmod (b : Int) = ((a % b : Nat) : Int) := by
 rw [Int.tmod_eq_emod_of_nonneg (by omega)]; exact (Int.natCast_emod _ _).symm
set_option maxHeartbeats 4000000 in
theorem law10 {K Q : List (Int × Int)} {b : Int} (hb : 0 <= b /\ b < 256) : E.Fn Try.prog 10 [bk K Q, .int .u8 b] [.bool true] := by
 refine fn_of_row okf10 ?_
 obtain ⟨b, rfl⟩ := Int.eq_ofNat_of_zero_le hb.1
 simp only [FRow.start, f10, c10r0, c10r1, bk, SV.cells, go_sem, Nat.reduceAdd, Nat.reduceSub]
 refine callK_of (by simp only [bk, go_sem]) (k45 (K := K) (Q := Q)) (.inl rfl) ?_
 cases hf : (!greatB K Q && decide (ckB K Q = 0)) with
 | false =>
  simp only [c10r2, go_sem]
  refine wk ?_
  simp only [go_sem]
 | true =>
  simp only [Bool.and_eq_true, decide_eq_true_eq] at hf
  have h0 := hf.2
  obtain ⟨hk1, hk8, _⟩ := ckB_zero h0
  obtain ⟨m, hm, hm8⟩ : ∃ m : Nat, (b : Int).tmod 8 = m /\ m < 8 := ⟨b % 8, tmod_nat b 8, Nat.mod_lt _ (by decide)⟩
  have h50a := k50 h0 (m := m) (by omega)
  have h50b := k50 h0 (m := m + 1) (by omega)
  have hpos := colC_pos (cl := clsh K Q) (n := K.length) (m := m)
  obtain ⟨hmo, hst⟩ := colC_mono (cl := clsh K Q) (n := K.length) (m := m) hk1
  have hle := colC_le (R := rel0 (clsh K Q)) (m := m) (n := K.length)
  have hfree := colC_free (cl := clsh K Q) (m := m) (n := K.length)
  have h46 := k46 h0
  have h51 := fun (a b : Nat) (ha : a < K.length) (hb : b < K.length) (hn : a ≠ b) => k51 (K := K) (Q := Q) h0 (a := a) (b := b) ⟨by omega, by omega⟩ ⟨by omega, by omega⟩ (by omega)
  have hpw : ∀ i, i <= K.length -> m ^ i <= 16777216 := fun i hi => by
   have h1 : m ^ i <= 8 ^ i := Nat.pow_le_pow_left (by omega) _
   have h2 : 8 ^ i <= 8 ^ 8 := Nat.pow_le_pow_right (by decide) (by omega)
   have h3 : (8 : Nat) ^ 8 = 16777216 := by decide
   omega
  have hm1 : ((m + 1 : Nat) : Int) = (m : Int) + 1 := rfl
  rw [hm1] at h50b
  generalize rngs (clsh K Q) K.length = rl at *
  generalize colC (rel0 (clsh K Q)) m K.length = x at *
  generalize colC (rel0 (clsh K Q)) (m + 1) K.length = y at *
  generalize fw (clsh K Q) K.length = w at *
  generalize clsh K Q = cl at *
  simp only [c10r3, go_sem]
  refine ⟨inR_small (by omega) (by omega), by decide, ?_⟩
  rw [hm]
  simp only [c10r4, go_sem, Nat.reduceAdd]
  refine callK_of (by simp only [bk, go_sem]) h46 (.inr (by simp only [bk, go_sem])) ?_
  simp only [c10r5, go_sem, Nat.reduceAdd]
  refine callK_of (by simp only [bk, go_sem]) h50a (.inl rfl) ?_
  simp only [c10r6, go_sem, Nat.reduceAdd]
  refine ⟨inR_small (by omega) (by omega), ?_⟩
  refine callK_of (by simp only [bk, go_sem]) h50b (.inl rfl) ?_
  have e1 : decide ((x : Int) = 0) = decide (m < w) := by rw [decide_eq_decide]; omega
  have e2 : ¬ y < x := by omega
  simp only [c10r7, e1, e2, go_sem]
  refine ⟨fun h => ?_, fun h => ?_⟩
  case' refine_1 =>
   have e3 : ¬ (y : Int) = (x : Int) := by have := hst (by omega); omega
   simp only [e3, go_sem]
  all_goals
   simp only [c10r9, c10r10, go_sem]
   refine loop_rule (fun n τ => ∃ (i : Nat) (c : Bool), n = K.length - i /\ i <= K.length /\ (c = false -> ∀ k i' : Nat, k < i' -> i' < i -> pO (k : Int) (i' : Int) ∉ cl) /\
    τ = ⟨[.any, .any, .s (.ptr [kS K, kS Q]), .any, .any, .s (.int .i64 m), .any, .any, .any, .s (.int .i64 x), .any, .any, .any, .s (.bool c), .s (.int .i64 ((m ^ i : Nat) : Int)), .s (.int .i64 i), .any, .any, .any, .any, .any, .any, .any, .any, .any, .any, .any, .any, .any, .any, .any, .any, .any, .any, .any, .any, .any, .any, .any, .any, .any, .any, .any, .any, .any, .any, .any, .any, .any, .any, .any, .any, .any, .any, .any, .any, .any, .any, .any, .any, .any, .any, .any, .any, .any, .any, .any, .any, .any, .any, .any, .any, .any, .any, .any, .any, .any, .any, .any, .any, .any, .any, .any, .any, .any, .any, .any, .any, .any, .any, .any, .any, .any, .any, .any, .any, .any, .any, .any, .any, .any, .any, .any, .any, .any, .any, .any, .any, .any, .any, .any], []⟩) K.length rfl ?_ ?_
   ·simp only [c10l19m, go_sem]
    exact ⟨0, false, rfl, Nat.zero_le _, fun _ k i _ h => absurd h (Nat.not_lt_zero _), rfl⟩
   ·rintro I n τ ⟨i, c, rfl, hi, hc, rfl⟩ hI
    simp only [c10l19, c10r11, kS, go_sem, ↓reduceIte, Nat.reduceAdd, Nat.reduceLeDiff]
    intro _
    refine ⟨fun hlt => ?_, fun hge => ?_⟩
    ·have hlt : i < K.length := by omega
     have hmul : ((m ^ i : Nat) : Int) * (m : Int) = ((m ^ (i + 1) : Nat) : Int) := by rw [Nat.pow_succ, Int.natCast_mul]
     have hpi := hpw (i + 1) (by omega)
     generalize hp1 : m ^ (i + 1) = p1 at *
     generalize m ^ i = p at *
     simp only [c10r12, go_sem]
     refine ⟨by rw [hmul]; exact inR_small (by omega) (by omega), ?_⟩
     rw [hmul]
     simp only [c10r13, go_sem]
     refine loop_rule (fun n τ => ∃ (k : Nat) (c : Bool), n = i - k /\ k <= i /\ (c = false -> (∀ k i' : Nat, k < i' -> i' < i -> pO (k : Int) (i' : Int) ∉ cl) /\ ∀ k' : Nat, k' < k -> pO (k' : Int) (i : Int) ∉ cl) /\
      τ = ⟨[.any, .any, .s (.ptr [kS K, kS Q]), .any, .any, .s (.int .i64 m), .any, .any, .any, .s (.int .i64 x), .any, .any, .any, .s (.bool c), .s (.int .i64 (p1 : Int)), .s (.int .i64 i), .s (.int .i64 k), .any, .any, .any, .any, .any, .any, .any, .any, .any, .any, .any, .any, .any, .any, .any, .any, .any, .any, .any, .any, .any, .any, .any, .any, .any, .any, .any, .any, .any, .any, .any, .any, .any, .any, .any, .any, .any, .any, .any, .any, .any, .any, .any, .any, .any, .any, .any, .any, .any, .any, .any, .any, .any, .any, .any, .any, .any, .any, .any, .any, .any, .any, .any, .any, .any, .any, .any, .any, .any, .any, .any, .any, .any, .any, .any, .any, .any, .any, .any, .any, .any, .any, .any, .any, .any, .any, .any, .any, .any, .any, .any, .any, .any, .any], []⟩) i rfl ?_ ?_
     ·simp only [c10l17m, go_sem]
      exact ⟨0, c, rfl, Nat.zero_le _, fun h => ⟨hc h, fun k h => absurd h (Nat.not_lt_zero _)⟩, rfl⟩
     ·rintro I2 n τ ⟨k, c, rfl, hk, hc, rfl⟩ hI2
      have hin : inR .i64 ((k : Int) + 1) := inR_small (by omega) (by omega)
      simp only [c10l17, c10r14, go_sem, ↓reduceIte]
      refine ⟨fun hlt2 => ?_, fun hge2 => ?_⟩
      ·have hlt2 : k < i := by omega
       cases c with
       | true =>
        simp only [c10r15, c10r16, c10l17m, go_sem]
        exact ⟨hin, hI2 (i - (k + 1)) _ (by omega) ⟨k + 1, true, rfl, by omega, fun h => (by cases h), rfl⟩⟩
       | false =>
        obtain ⟨hc1, hc2⟩ := hc rfl
        simp only [c10r15, go_sem, Nat.reduceAdd]
        refine callK_of (by simp only [bk, kS, go_sem]) (h51 k i (by omega) (by omega) (by omega)) (.inl rfl) ?_
        by_cases h5 : pO (k : Int) (i : Int) ∈ cl
        ·simp only [h5, decide_true]
         simp only [c10r16, c10l17m, go_sem]
         exact ⟨hin, hI2 (i - (k + 1)) _ (by omega) ⟨k + 1, true, rfl, by omega, fun h => (by cases h), rfl⟩⟩
        ·simp only [h5, decide_false]
         simp only [c10r16, c10l17m, go_sem]
         refine ⟨hin, hI2 (i - (k + 1)) _ (by omega) ⟨k + 1, false, rfl, by omega, fun _ => ⟨hc1, fun k' hk' => ?_⟩, rfl⟩⟩
         by_cases e : k' = k
         ·rw [e]; exact h5
         ·exact hc2 k' (by omega)
      ·have hke : k = i := by omega
       subst hke
       simp only [c10r18, c10l19m, go_sem]
       refine ⟨inR_small (by omega) (by omega), hI (K.length - (k + 1)) _ (by omega) ⟨k + 1, c, rfl, by omega, fun h k' i' h1 h2 => ?_, ?_⟩⟩
       ·obtain ⟨h3, h4⟩ := hc h
        by_cases e : i' = k
        ·rw [e]; exact h4 k' (by omega)
        ·exact h3 k' i' h1 (by omega)
       ·rw [hp1]; rfl
    ·have hie : i = K.length := by omega
     subst hie
     have e4 : (x : Int) <= ((m ^ K.length : Nat) : Int) := by omega
     cases c with
     | true =>
      simp only [c10r20, e4, go_sem]
      refine ⟨fun _ => wk ?_, fun _ => wk ?_⟩
      ·simp only [go_sem]
      ·simp only [go_sem]
     | false =>
      have e5 := hfree (fun i k h1 h2 => hc rfl i k h1 h2)
      simp only [c10r20, e5, go_sem]
      refine wk ?_
      simp only [go_sem]
end Go.Proofs.Ytmcjoahnlbckoaa.Sk
