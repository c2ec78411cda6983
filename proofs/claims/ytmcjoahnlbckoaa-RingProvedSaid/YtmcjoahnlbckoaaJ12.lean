/- The code of a law in the value semantics. -/
import Derived.Test.YtmcjoahnlbckoaaJ11

set_option linter.all false

namespace Go.Proofs.Ytmcjoahnlbckoaa.Sk
open Go Go.E
def c7r0 : List AOper := [
 oP 4 (.boxS (.t 0)),
 oP 8 (.mov bF)]
def c7r1 : List AOper := [
 oP 19 (.load 2 true (.t 4)),
 oP 20 (.call 45 [(.t 19)]),
 oP 21 (.not (.t 20)),
 oM 22 21,
 oH 23 22 false 1,
 oG 24 22 false (.len false (.t 23)),
 oG 25 22 false (.cmp .gtr (.t 24) (nI 30)),
 oP 26 (.pick (.t 22) bT (.t 25)),
 oM 27 26,
 oH 28 27 false 3,
 oG 29 27 false (.len false (.t 28)),
 oG 30 27 false (.cmp .gtr (.t 29) (nI 20)),
 oP 31 (.pick (.t 27) bT (.t 30))]
def c7r2 : List AOper := [
 oP 32 (.call 18 []),
 oM 8 32]
def c7r3 : List AOper := [
 oP 34 (.load 2 true (.t 4)),
 oP 35 (.call 46 [(.t 34)]),
 oM 33 35,
 oP 36 (.ext (.t 33) 0),
 oP 37 (.ext (.t 33) 1),
 oP 38 (.ext (.t 33) 2),
 oM 9 36,
 oM 10 37,
 oM 11 38]
def c7r4 : List AOper := [
 oP 40 (.load 2 true (.t 4)),
 oP 41 (.call 34 [(.t 40)]),
 oM 39 41,
 oP 42 (.ext (.t 39) 0),
 oP 43 (.ext (.t 39) 1),
 oM 12 42,
 oM 13 43]
def c7r5 : List AOper := [
 oM 44 2,
 oP 45 (.conv .i64 (.t 44)),
 oF 46 0 4,
 oL 47 46,
 oN 48 47,
 oP 49 (.call 47 [(.t 45), (.t 48)]),
 oM 14 49]
def c7r6 : List AOper := [
 oP 50 (.load 2 true (.t 4)),
 oM 51 14,
 oP 52 (.call 38 [(.t 50), (.t 51)]),
 oP 53 (.load 2 true (.t 4)),
 oM 54 3,
 oP 55 (.call 40 [(.t 53), (.t 54)]),
 oM 15 52,
 oM 16 55]
def c7r7 : List AOper := [
 oM 56 11,
 oP 57 (.not (.t 56)),
 oM 58 57,
 oH 59 58 false 13,
 oG 60 58 false (.cmp .neq (.t 59) (nI 0)),
 oP 61 (.pick (.t 58) bT (.t 60)),
 oM 62 61,
 oG 63 62 false (.load 2 true (.t 4)),
 oH 64 62 false 12,
 oG 65 62 false (.call 39 [(.t 63), (.t 64)]),
 oG 66 62 false (.cmp .neq (.t 65) (nI 0)),
 oP 67 (.pick (.t 62) bT (.t 66)),
 oM 68 67,
 oG 69 68 false (.load 2 true (.t 4)),
 oH 70 68 false 12,
 oG 71 68 false (.call 38 [(.t 69), (.t 70)]),
 oG 72 68 false (.cmp .neq (.t 71) (nI 0)),
 oP 73 (.pick (.t 68) bT (.t 72)),
 oM 74 73,
 oH 75 74 false 12,
 oG 76 74 false (.len false (.t 75)),
 oH 77 74 false 9,
 oG 78 74 false (.cmp .gtr (.t 76) (.t 77)),
 oP 79 (.pick (.t 74) bT (.t 78))]
def c7r8 : List AOper := [
 oP 8 (.mov bF)]
def c7r9 : List AOper := [
 oM 80 15,
 oP 81 (.cmp .eql (.t 80) (nI 0)),
 oM 82 81,
 oH 83 82 true 14,
 oG 84 82 true (.len false (.t 83)),
 oH 85 82 true 12,
 oG 86 82 true (.len false (.t 85)),
 oG 87 82 true (.cmp .gtr (.t 84) (.t 86)),
 oP 88 (.pick (.t 82) (.t 87) bF),
 oM 89 88,
 oH 90 89 false 16,
 oG 91 89 false (.cmp .eql (.t 90) (nI 0)),
 oH 92 89 false 91,
 oH 93 92 true 9,
 oG 94 92 true (.cmp .lss (.t 93) (nI 3)),
 oG 95 89 false (.pick (.t 92) (.t 94) bF),
 oP 96 (.pick (.t 89) bT (.t 95))]
def c7r10 : List AOper := [
 oP 8 (.mov bF)]
def c7r11 : List AOper := [
 oP 98 (.load 2 true (.t 4)),
 oF 99 0 4,
 oL 100 99,
 oN 101 100,
 oM 102 1,
 oP 103 (.call 48 [(.t 101), (.t 102)]),
 oP 104 (.call 19 [(.t 98), (.t 103)]),
 oM 97 104,
 oP 105 (.ext (.t 97) 0),
 oP 106 (.ext (.t 97) 1),
 oM 17 105,
 oM 18 106]
def c7r12 : List AOper := [
 oM 107 18,
 oP 108 (.cmp .neq (.t 107) (nI 0))]
def c7r13 : List AOper := [
 oM 109 18,
 oP 110 (.cmp .eql (.t 109) (nI 23)),
 oM 111 110,
 oG 112 111 true (.call 18 []),
 oP 113 (.pick (.t 111) (.t 112) bF),
 oM 8 113]
def c7r14 : List AOper := [
 oM 114 17,
 oM 115 9,
 oP 116 (.cmp .geq (.t 114) (.t 115)),
 oM 117 116,
 oH 118 117 true 15,
 oG 119 117 true (.cmp .neq (.t 118) (nI 0)),
 oH 120 117 true 119,
 oH 121 120 false 17,
 oH 122 120 false 14,
 oG 123 120 false (.len false (.t 122)),
 oG 124 120 false (.cmp .geq (.t 121) (.t 123)),
 oG 125 117 true (.pick (.t 120) bT (.t 124)),
 oP 126 (.pick (.t 117) (.t 125) bF),
 oM 127 126,
 oH 128 127 true 16,
 oG 129 127 true (.cmp .neq (.t 128) (nI 0)),
 oH 130 127 true 129,
 oH 131 130 false 17,
 oG 132 130 false (.cmp .geq (.t 131) (nI 3)),
 oG 133 127 true (.pick (.t 130) bT (.t 132)),
 oP 134 (.pick (.t 127) (.t 133) bF),
 oM 135 134,
 oG 136 135 true (.call 18 []),
 oP 137 (.pick (.t 135) (.t 136) bF),
 oM 8 137]
def f7 : FRow := ⟨(.seq (.reg 0 c7r0) (.seq (.seq (.reg 0 c7r1) (.cond (.t 31) (.seq (.reg 0 c7r2) .ret) .skip)) (.seq (.reg 0 c7r3) (.seq (.reg 0 c7r4) (.seq (.reg 0 c7r5) (.seq (.reg 0 c7r6) (.seq (.seq (.reg 0 c7r7) (.cond (.t 79) (.seq (.reg 0 c7r8) .ret) .skip)) (.seq (.seq (.reg 0 c7r9) (.cond (.t 96) (.seq (.reg 0 c7r10) .ret) .skip)) (.seq (.reg 0 c7r11) (.seq (.seq (.reg 0 c7r12) (.cond (.t 108) (.seq (.reg 0 c7r13) .ret) .skip)) (.seq (.reg 0 c7r14) .ret))))))))))), [.tmp 8], 138⟩
theorem okf7 : f7.Ok Try.prog 7 := ⟨_, _, Try.func7, rfl, by kernel_rfl, by kernel_rfl, by kernel_rfl⟩
end Go.Proofs.Ytmcjoahnlbckoaa.Sk

/- RingProved, reckoned: at every book, numbers, group and circle it answers true. -/
namespace Go.Proofs.Ytmcjoahnlbckoaa.Sk
open Go Go.E Go.E.Sm
set_option maxRecDepth 10000
set_option maxHeartbeats 2000000 in
theorem law7 {K Q : List (Int × Int)} {l : List Int} {b : Int} {L : List Int} (hl : ∀ n ∈ l, 0 <= n /\ n < 256) (hb : 0 <= b /\ b < 256) : E.Fn Try.prog 7 [bk K Q, .slice (l.map (.int .u8)), .int .u8 b, ints L] [.bool true] := by
 refine fn_of_row okf7 ?_
 obtain ⟨b, rfl⟩ := Int.eq_ofNat_of_zero_le hb.1
 have hwb : IntKind.wrap .i64 (b : Int) = b := inR_small (by omega) (by omega)
 have h45 := k45 (K := K) (Q := Q)
 simp only [FRow.start, f7, c7r0, c7r1, bk, SV.cells, go_sem, Nat.reduceAdd, Nat.reduceSub]
 refine callK_of (by simp only [bk, go_sem]) h45 (.inl rfl) ?_
 cases hf : (!greatB K Q && decide (ckB K Q = 0)) with
 | false =>
  simp only [c7r2, go_sem]
  refine wk ?_
  simp only [go_sem]
 | true =>
  rw [Bool.and_eq_true, decide_eq_true_eq] at hf
  have h0 := hf.2
  obtain ⟨hk1, hk8, _⟩ := ckB_zero h0
  by_cases hA : (30 : Int) < l.length
  ·simp only [c7r2, hA, go_sem]
   intro _
   refine wk ?_
   simp only [go_sem]
  ·by_cases hB : (20 : Int) < L.length
   ·simp only [c7r2, hA, hB, ints, go_sem]
    intro _
    refine wk ?_
    simp only [go_sem]
   ·have h46 := k46 h0
    have h34 := k34 (K := K) (Q := Q)
    unfold grpR at h34
    rw [if_pos h0] at h34
    have hG1 := gst_le h0
    have hG2 := gst_ok h0
    have hG3 := ckG_gst h0 (L := lstd b K.length)
    have hS1 := ckG_le h0 (L := lstd b K.length)
    have hC := ckC_three (K := K) (Q := Q) (L := L)
    have h47 := k47 (s := b) (n := K.length) (by omega) hk8
    have h38 := k38 (K := K) (Q := Q) (keys := lstd b K.length)
    have h40 := k40 (K := K) (Q := Q) (keys := L) (by omega)
    have hR := ckR_or h0 (rings := hungL l K.length) hungL_len (hungL_mem fun x hx => (hl x hx).1)
    have h48 := k48 (l := l) (n := K.length) hk8 hl
    have h19 := k19 (K := K) (Q := Q) (rings := hungL l K.length)
    have hfw := fw_le (cl := clsh K Q) (n := K.length)
    generalize ckR K Q (hungL l K.length) = rr at *
    generalize hungL l K.length = hu at *
    generalize fw (clsh K Q) K.length = few at *
    generalize rngs (clsh K Q) K.length = rn at *
    generalize gst (clsh K Q) K.length (K.length + 1) [] 0 = G at *
    generalize ckC K Q L = ec at *
    generalize ckG K Q (lstd b K.length) = eg at *
    generalize lstd b K.length = S at *
    have h38G := k38 (K := K) (Q := Q) (keys := G)
    have h39G := k39 (K := K) (Q := Q) (keys := G)
    rw [hG2] at h38G h39G
    have hfG : ¬ (few : Int) < G.length := by omega
    simp only [c7r2, hA, hB, ints, c7r3, go_sem, Nat.reduceAdd]
    intro _
    refine callK_of (by simp only [bk, go_sem]) h46 (.inr (by simp only [bk, go_sem])) ?_
    simp only [c7r4, ints, go_sem, Nat.reduceAdd]
    refine callK_of (by simp only [bk, go_sem]) h34 (.inr (by simp only [bk, go_sem])) ?_
    simp only [c7r5, kS, go_sem, Nat.reduceAdd, Nat.reduceLeDiff]
    refine ⟨inR_small (by omega) (by omega), callK_of (by simp only [go_sem]) h47 (.inr (by simp only [go_sem])) ?_⟩
    simp only [c7r6, go_sem, Nat.reduceAdd]
    intro _
    refine callK_of (by simp only [bk, ints, kS, go_sem]) h38 (.inl rfl) ?_
    simp only [go_sem, Nat.reduceAdd]
    refine callK_of (by simp only [bk, ints, kS, go_sem]) h40 (.inl rfl) ?_
    simp only [c7r7, go_sem, Nat.reduceAdd]
    refine callK_of (by simp only [bk, ints, kS, go_sem]) h39G (.inl rfl) ?_
    simp only [go_sem, Nat.reduceAdd]
    refine callK_of (by simp only [bk, ints, kS, go_sem]) h38G (.inl rfl) ?_
    simp only [ints, hfG, go_sem]
    intro _
    have h23 : ¬ (23 : Int) = 0 := by decide
    by_cases e1 : eg = 0
    ·have f1 := hG3 e1
     have f2 := hS1 e1
     have f1' : ¬ (G.length : Int) < S.length := by omega
     by_cases e2 : ec = 0
     ·have f3 := hC e2
      have f3' : ¬ (few : Int) < 3 := by omega
      simp only [c7r9, e1, e2, f1', f3', c7r11, go_sem, Nat.reduceAdd, Nat.reduceLeDiff]
      intro _
      refine callK_of (by simp only [go_sem]) h48 (.inr (by simp only [go_sem])) ?_
      simp only [go_sem]
      refine callK_of (by simp only [bk, ints, kS, go_sem]) h19 (.inl rfl) ?_
      rcases hR with rfl | ⟨d, rfl, hd⟩
      ·simp only [c7r12, c7r13, h23, go_sem]
       intro _
       refine wk ?_
       simp only [go_sem]
      ·have d1 : (few : Int) <= d := by omega
       have d2 : (S.length : Int) <= d := by omega
       have d3 : (3 : Int) <= d := by omega
       simp only [c7r12, c7r14, d1, d2, d3, go_sem]
       intro _
       refine wk ?_
       simp only [go_sem]
     ·simp only [c7r9, e1, e2, f1', c7r11, go_sem, Nat.reduceAdd, Nat.reduceLeDiff]
      intro _
      refine callK_of (by simp only [go_sem]) h48 (.inr (by simp only [go_sem])) ?_
      simp only [go_sem]
      refine callK_of (by simp only [bk, ints, kS, go_sem]) h19 (.inl rfl) ?_
      rcases hR with rfl | ⟨d, rfl, hd⟩
      ·simp only [c7r12, c7r13, h23, go_sem]
       intro _
       refine wk ?_
       simp only [go_sem]
      ·have d1 : (few : Int) <= d := by omega
       have d2 : (S.length : Int) <= d := by omega
       simp only [c7r12, c7r14, e2, d1, d2, go_sem]
       intro _
       refine wk ?_
       simp only [go_sem]
    ·by_cases e2 : ec = 0
     ·have f3 := hC e2
      have f3' : ¬ (few : Int) < 3 := by omega
      simp only [c7r9, e1, e2, f3', c7r11, go_sem, Nat.reduceAdd, Nat.reduceLeDiff]
      refine callK_of (by simp only [go_sem]) h48 (.inr (by simp only [go_sem])) ?_
      simp only [go_sem]
      refine callK_of (by simp only [bk, ints, kS, go_sem]) h19 (.inl rfl) ?_
      rcases hR with rfl | ⟨d, rfl, hd⟩
      ·simp only [c7r12, c7r13, h23, go_sem]
       intro _
       refine wk ?_
       simp only [go_sem]
      ·have d1 : (few : Int) <= d := by omega
       have d3 : (3 : Int) <= d := by omega
       simp only [c7r12, c7r14, e1, d1, d3, go_sem]
       intro _
       refine wk ?_
       simp only [go_sem]
     ·simp only [c7r9, e1, e2, c7r11, go_sem, Nat.reduceAdd, Nat.reduceLeDiff]
      refine callK_of (by simp only [go_sem]) h48 (.inr (by simp only [go_sem])) ?_
      simp only [go_sem]
      refine callK_of (by simp only [bk, ints, kS, go_sem]) h19 (.inl rfl) ?_
      rcases hR with rfl | ⟨d, rfl, hd⟩
      ·simp only [c7r12, c7r13, h23, go_sem]
       intro _
       refine wk ?_
       simp only [go_sem]
      ·have d1 : (few : Int) <= d := by omega
       simp only [c7r12, c7r14, e1, e2, d1, go_sem]
       intro _
       refine wk ?_
       simp only [go_sem]
end Go.Proofs.Ytmcjoahnlbckoaa.Sk
