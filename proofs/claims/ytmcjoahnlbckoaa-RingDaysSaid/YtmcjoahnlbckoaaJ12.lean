/- The code of a law in the value semantics. -/
import Derived.Test.YtmcjoahnlbckoaaJ11

set_option linter.all false

namespace Go.Proofs.Ytmcjoahnlbckoaa.Sk
open Go Go.E
def c8r0 : List AOper := [
 oP 2 (.boxS (.t 0)),
 oP 4 (.mov bF)]
def c8r1 : List AOper := [
 oP 21 (.load 2 true (.t 2)),
 oP 22 (.call 45 [(.t 21)]),
 oP 23 (.not (.t 22))]
def c8r2 : List AOper := [
 oP 24 (.call 18 []),
 oM 4 24]
def c8r3 : List AOper := [
 oF 25 0 2,
 oL 26 25,
 oP 27 (.build [(.full []), (.full [])] [(0, 1, (.t 26))]),
 oP 5 (.alloc [(.full []), (.full [])]),
 ⟨none, none, .store 2 (.t 5) (.t 27)⟩]
def c8r4 : List AOper := [
 oP 29 (.load 2 true (.t 5)),
 oP 30 (.call 46 [(.t 29)]),
 oM 28 30,
 oP 31 (.ext (.t 28) 0),
 oP 32 (.ext (.t 28) 1),
 oP 33 (.ext (.t 28) 2),
 oM 6 31,
 oM 7 32,
 oM 8 33]
def c8r5 : List AOper := [
 oP 35 (.load 2 true (.t 5)),
 oP 36 (.call 34 [(.t 35)]),
 oM 34 36,
 oP 37 (.ext (.t 34) 0),
 oP 38 (.ext (.t 34) 1),
 oM 9 37,
 oM 10 38]
def c8r6 : List AOper := [
 oP 40 (.load 2 true (.t 5)),
 oP 41 (.call 21 [(.t 40)]),
 oM 39 41,
 oP 42 (.ext (.t 39) 0),
 oP 43 (.ext (.t 39) 1),
 oP 44 (.ext (.t 39) 2),
 oM 11 42,
 oM 12 43,
 oM 13 44]
def c8r7 : List AOper := [
 oM 45 8,
 oP 46 (.not (.t 45)),
 oM 47 46,
 oH 48 47 false 10,
 oG 49 47 false (.cmp .neq (.t 48) (nI 0)),
 oP 50 (.pick (.t 47) bT (.t 49)),
 oM 51 50,
 oH 52 51 false 13,
 oG 53 51 false (.cmp .neq (.t 52) (nI 0)),
 oP 54 (.pick (.t 51) bT (.t 53)),
 oM 55 54,
 oH 56 55 false 6,
 oH 57 55 false 9,
 oG 58 55 false (.len false (.t 57)),
 oG 59 55 false (.cmp .neq (.t 56) (.t 58)),
 oP 60 (.pick (.t 55) bT (.t 59)),
 oM 61 60,
 oH 62 61 false 6,
 oH 63 61 false 12,
 oG 64 61 false (.cmp .neq (.t 62) (.t 63)),
 oP 65 (.pick (.t 61) bT (.t 64)),
 oM 66 65,
 oH 67 66 false 11,
 oG 68 66 false (.cmp .lss (.t 67) (nI 0)),
 oP 69 (.pick (.t 66) bT (.t 68)),
 oM 70 69,
 oH 71 70 false 11,
 oG 72 70 false (.cmp .gtr (.t 71) (nI 1000)),
 oP 73 (.pick (.t 70) bT (.t 72)),
 oM 74 73,
 oG 75 74 false (.load 2 true (.t 5)),
 oH 76 74 false 11,
 oG 77 74 false (.call 49 [(.t 75), (.t 76)]),
 oG 78 74 false (.len false (.t 77)),
 oH 79 74 false 12,
 oG 80 74 false (.cmp .neq (.t 78) (.t 79)),
 oP 81 (.pick (.t 74) bT (.t 80))]
def c8r8 : List AOper := [
 oP 4 (.mov bF)]
def c8r9 : List AOper := [
 oM 82 1,
 oP 83 (.conv .i64 (.t 82)),
 oP 84 (.div .rem (.t 83) (nI 1001)),
 oM 14 84]
def c8r10 : List AOper := [
 oP 85 (.load 2 true (.t 5)),
 oM 86 14,
 oP 87 (.call 49 [(.t 85), (.t 86)]),
 oN 88 87,
 oM 15 88]
def c8r11 : List AOper := [
 oM 89 15,
 oM 90 12,
 oP 91 (.cmp .gtr (.t 89) (.t 90)),
 oM 92 91,
 oH 93 92 false 15,
 oH 94 92 false 12,
 oG 95 92 false (.cmp .eql (.t 93) (.t 94)),
 oH 96 92 false 95,
 oH 97 96 true 14,
 oH 98 96 true 11,
 oG 99 96 true (.cmp .lss (.t 97) (.t 98)),
 oG 100 92 false (.pick (.t 96) (.t 99) bF),
 oP 101 (.pick (.t 92) bT (.t 100))]
def c8r12 : List AOper := [
 oP 4 (.mov bF)]
def c8r13 : List AOper := [
 oP 103 (.load 2 true (.t 2)),
 oP 104 (.call 21 [(.t 103)]),
 oM 102 104,
 oP 105 (.ext (.t 102) 0),
 oP 106 (.ext (.t 102) 1),
 oP 107 (.ext (.t 102) 2),
 oM 16 105,
 oM 17 106,
 oM 18 107]
def c8r14 : List AOper := [
 oP 109 (.load 2 true (.t 2)),
 oP 110 (.call 46 [(.t 109)]),
 oM 108 110,
 oP 111 (.ext (.t 108) 0),
 oP 112 (.ext (.t 108) 1),
 oP 113 (.ext (.t 108) 2),
 oM 19 111,
 oM 20 112,
 oM 8 113]
def c8r15 : List AOper := [
 oM 114 18,
 oP 115 (.cmp .eql (.t 114) (nI 0)),
 oM 116 115,
 oH 117 116 true 16,
 oH 118 116 true 11,
 oG 119 116 true (.cmp .eql (.t 117) (.t 118)),
 oP 120 (.pick (.t 116) (.t 119) bF),
 oM 121 120,
 oH 122 121 true 17,
 oH 123 121 true 12,
 oG 124 121 true (.cmp .eql (.t 122) (.t 123)),
 oP 125 (.pick (.t 121) (.t 124) bF),
 oM 126 125,
 oH 127 126 true 8,
 oP 128 (.pick (.t 126) (.t 127) bF),
 oM 129 128,
 oH 130 129 true 19,
 oH 131 129 true 6,
 oG 132 129 true (.cmp .geq (.t 130) (.t 131)),
 oP 133 (.pick (.t 129) (.t 132) bF),
 oM 134 133,
 oG 135 134 true (.call 18 []),
 oP 136 (.pick (.t 134) (.t 135) bF),
 oM 4 136]
def f8 : FRow := ⟨(.seq (.reg 0 c8r0) (.seq (.seq (.reg 0 c8r1) (.cond (.t 23) (.seq (.reg 0 c8r2) .ret) .skip)) (.seq (.reg 1 c8r3) (.seq (.reg 0 c8r4) (.seq (.reg 0 c8r5) (.seq (.reg 0 c8r6) (.seq (.seq (.reg 0 c8r7) (.cond (.t 81) (.seq (.reg 0 c8r8) .ret) .skip)) (.seq (.reg 0 c8r9) (.seq (.reg 0 c8r10) (.seq (.seq (.reg 0 c8r11) (.cond (.t 101) (.seq (.reg 0 c8r12) .ret) .skip)) (.seq (.reg 0 c8r13) (.seq (.reg 0 c8r14) (.seq (.reg 0 c8r15) .ret))))))))))))), [.tmp 4], 137⟩
theorem okf8 : f8.Ok Try.prog 8 := ⟨_, _, Try.func8, rfl, by kernel_rfl, by kernel_rfl, by kernel_rfl⟩
end Go.Proofs.Ytmcjoahnlbckoaa.Sk

/- RingDays, reckoned: at every book and day it answers true. -/
namespace Go.Proofs.Ytmcjoahnlbckoaa.Sk
open Go Go.E Go.E.Sm
set_option maxRecDepth 10000
set_option maxHeartbeats 2000000 in
theorem law8 {K Q : List (Int × Int)} {b : Int} (hb : 0 <= b /\ b < 65536) : E.Fn Try.prog 8 [bk K Q, .int .u16 b] [.bool true] := by
 refine fn_of_row okf8 ?_
 have h45 := k45 (K := K) (Q := Q)
 simp only [FRow.start, f8, c8r0, c8r1, bk, SV.cells, go_sem, Nat.reduceAdd, Nat.reduceSub]
 refine callK_of (by simp only [bk, go_sem]) h45 (.inl rfl) ?_
 cases hf : (!greatB K Q && decide (ckB K Q = 0)) with
 | false =>
  simp only [c8r2, go_sem]
  refine wk ?_
  simp only [go_sem]
 | true =>
  rw [Bool.and_eq_true, decide_eq_true_eq] at hf
  have h0 := hf.2
  obtain ⟨hk1, hk8, _⟩ := ckB_zero h0
  have h01 := ckB_none h0
  have h46 := k46 h01
  have h34 := k34 (K := K) (Q := [])
  unfold grpR at h34
  rw [if_pos h01] at h34
  have h21 := k21 (K := K) (Q := [])
  unfold dayR at h21
  rw [if_pos h01] at h21
  have h21b := k21 (K := K) (Q := Q)
  unfold dayR at h21b
  rw [if_pos h0] at h21b
  have h46b := k46 h0
  obtain ⟨e1, e2⟩ := days_eq h0
  have hmo := fw_mono (n := K.length) (cl := clsh K []) (cl' := clsh K Q) (fun p hp => clsh_more hp)
  have h49 := k49 (K := K) (Q := []) (d := (dayK K).1) hk8
  have ho := dayF_all (K := K)
  rw [day_eq h0] at ho
  obtain ⟨ho1, ho2⟩ := ho
  have hoth : 0 <= b.tmod 1001 /\ b.tmod 1001 <= 1000 := by
   rw [Int.tmod_eq_emod_of_nonneg hb.1]; omega
  have h49b := k49 (K := K) (Q := []) (d := b.tmod 1001) hk8
  obtain ⟨ho3, ho4⟩ := ho2 _ hoth.1 hoth.2
  have hl1 := outL_len (K := K) (d := (dayK K).1)
  have hl2 := outL_len (K := K) (d := b.tmod 1001)
  rw [e1] at h46 hmo
  generalize outL K (dayK K).1 = o1 at *
  generalize (dayK K).1 = d at *
  generalize outL K (b.tmod 1001) = o2 at *
  generalize outC K (b.tmod 1001) = m2 at *
  generalize outC K d = m at *
  generalize gst (clsh K []) K.length (K.length + 1) [] 0 = G at *
  generalize fw (clsh K Q) K.length = few at *
  generalize rngs (clsh K Q) K.length = rr at *
  generalize rngs (clsh K []) K.length = rr0 at *
  have hwb : IntKind.wrap .i64 b = b := inR_small (by omega) (by omega)
  simp only [c8r2, c8r3, kS, c8r4, splice, go_sem, ↓reduceIte, Nat.reduceAdd, Nat.reduceLeDiff]
  refine callK_of (by simp only [bk, kS, go_sem]) h46 (.inr (by simp only [bk, kS, go_sem])) ?_
  simp only [c8r5, go_sem, Nat.reduceAdd]
  refine callK_of (by simp only [bk, kS, go_sem]) h34 (.inr (by simp only [bk, kS, go_sem])) ?_
  simp only [c8r6, go_sem, Nat.reduceAdd]
  refine callK_of (by simp only [bk, kS, go_sem]) h21 (.inl rfl) ?_
  have n1 : ¬ d < 0 := by omega
  have n2 : ¬ (1000 : Int) < d := by omega
  have n3 : ((m : Nat) : Int) = G.length := by omega
  simp only [c8r7, n1, n2, e2, go_sem, Nat.reduceAdd]
  refine callK_of (by simp only [bk, kS, go_sem]) h49 (.inr (by simp only [bk, kS, go_sem])) ?_
  have n4 : ¬ ((m : Nat) : Int) < m2 := by omega
  simp only [hl1, go_sem]
  intro _
  simp only [c8r9, go_sem]
  refine ⟨inR_small (by omega) (by omega), by decide, ?_⟩
  simp only [c8r10, go_sem, Nat.reduceAdd]
  refine callK_of (by simp only [bk, kS, go_sem]) h49b (.inr (by simp only [bk, kS, go_sem])) ?_
  have n7 : ((m : Nat) : Int) <= few := by omega
  by_cases e : ((m2 : Nat) : Int) = m
  ·have n5 : ¬ b.tmod 1001 < d := by have := ho4 (by omega); omega
   simp only [hl2, c8r11, e, n5, Nat.lt_irrefl, c8r13, go_sem, Nat.reduceAdd]
   intro _
   refine callK_of (by simp only [bk, kS, go_sem]) h21b (.inl rfl) ?_
   simp only [c8r14, go_sem, Nat.reduceAdd]
   refine callK_of (by simp only [bk, kS, go_sem]) h46b (.inr (by simp only [bk, kS, go_sem])) ?_
   simp only [c8r15, n7, go_sem]
   refine wk ?_
   simp only [go_sem]
  ·simp only [hl2, c8r11, n4, e, c8r13, go_sem, Nat.reduceAdd]
   intro _
   refine callK_of (by simp only [bk, kS, go_sem]) h21b (.inl rfl) ?_
   simp only [c8r14, go_sem, Nat.reduceAdd]
   refine callK_of (by simp only [bk, kS, go_sem]) h46b (.inr (by simp only [bk, kS, go_sem])) ?_
   simp only [c8r15, n7, go_sem]
   refine wk ?_
   simp only [go_sem]
end Go.Proofs.Ytmcjoahnlbckoaa.Sk
