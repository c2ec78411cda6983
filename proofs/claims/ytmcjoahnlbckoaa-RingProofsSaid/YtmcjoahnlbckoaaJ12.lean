/- The code of a law in the value semantics. -/
import Derived.Test.YtmcjoahnlbckoaaJ11

set_option linter.all false

namespace Go.Proofs.Ytmcjoahnlbckoaa.Sk
open Go Go.E
def c5r0 : List AOper := [
 oP 3 (.boxS (.t 0)),
 oP 6 (.mov bF)]
def c5r1 : List AOper := [
 oP 14 (.load 2 true (.t 3)),
 oP 15 (.call 17 [(.t 14)]),
 oM 16 15,
 oH 17 16 false 1,
 oG 18 16 false (.len false (.t 17)),
 oG 19 16 false (.cmp .gtr (.t 18) (nI 20)),
 oP 20 (.pick (.t 16) bT (.t 19)),
 oM 21 20,
 oH 22 21 false 2,
 oG 23 21 false (.len false (.t 22)),
 oG 24 21 false (.cmp .gtr (.t 23) (nI 20)),
 oP 25 (.pick (.t 21) bT (.t 24))]
def c5r2 : List AOper := [
 oP 26 (.call 18 []),
 oM 6 26]
def c5r3 : List AOper := [
 oP 28 (.load 2 true (.t 3)),
 oP 29 (.call 34 [(.t 28)]),
 oM 27 29,
 oP 30 (.ext (.t 27) 0),
 oP 31 (.ext (.t 27) 1),
 oM 7 30,
 oM 8 31]
def c5r4 : List AOper := [
 oP 33 (.load 2 true (.t 3)),
 oP 34 (.call 35 [(.t 33)]),
 oM 32 34,
 oP 35 (.ext (.t 32) 0),
 oP 36 (.ext (.t 32) 1),
 oM 9 35,
 oM 10 36]
def c5r5 : List AOper := [
 oP 38 (.load 2 true (.t 3)),
 oP 39 (.call 36 [(.t 38)]),
 oM 37 39,
 oP 40 (.ext (.t 37) 0),
 oP 41 (.ext (.t 37) 1),
 oM 11 40,
 oM 12 41]
def c5r6 : List AOper := [
 oP 42 (.load 2 true (.t 3)),
 oP 43 (.call 37 [(.t 42)]),
 oM 13 43]
def c5r7 : List AOper := [
 oP 44 (.load 2 true (.t 3)),
 oM 45 1,
 oP 46 (.call 38 [(.t 44), (.t 45)]),
 oP 47 (.load 2 true (.t 3)),
 oM 48 1,
 oP 49 (.call 39 [(.t 47), (.t 48)]),
 oP 50 (.cmp .neq (.t 46) (.t 49)),
 oM 51 50,
 oG 52 51 false (.load 2 true (.t 3)),
 oH 53 51 false 2,
 oG 54 51 false (.call 40 [(.t 52), (.t 53)]),
 oG 55 51 false (.load 2 true (.t 3)),
 oH 56 51 false 2,
 oG 57 51 false (.call 41 [(.t 55), (.t 56)]),
 oG 58 51 false (.cmp .neq (.t 54) (.t 57)),
 oP 59 (.pick (.t 51) bT (.t 58)),
 oM 60 59,
 oH 61 60 false 7,
 oH 62 60 false 9,
 oG 63 60 false (.call 33 [(.t 61), (.t 62)]),
 oG 64 60 false (.not (.t 63)),
 oP 65 (.pick (.t 60) bT (.t 64)),
 oM 66 65,
 oH 67 66 false 8,
 oH 68 66 false 10,
 oG 69 66 false (.cmp .neq (.t 67) (.t 68)),
 oP 70 (.pick (.t 66) bT (.t 69)),
 oM 71 70,
 oH 72 71 false 12,
 oH 73 71 false 13,
 oG 74 71 false (.cmp .neq (.t 72) (.t 73)),
 oP 75 (.pick (.t 71) bT (.t 74))]
def c5r8 : List AOper := [
 oP 6 (.mov bF)]
def c5r9 : List AOper := [
 oM 76 13,
 oP 77 (.cmp .neq (.t 76) (nI 0))]
def c5r10 : List AOper := [
 oM 78 11,
 oN 79 78,
 oP 80 (.cmp .eql (.t 79) (nI 0)),
 oM 81 80,
 oG 82 81 true (.call 18 []),
 oP 83 (.pick (.t 81) (.t 82) bF),
 oM 6 83]
def c5r11 : List AOper := [
 oP 84 (.load 2 true (.t 3)),
 oM 85 11,
 oP 86 (.call 41 [(.t 84), (.t 85)]),
 oP 87 (.cmp .eql (.t 86) (nI 0)),
 oM 88 87,
 oH 89 88 true 11,
 oG 90 88 true (.len false (.t 89)),
 oG 91 88 true (.load 2 true (.t 3)),
 oG 92 88 true (.call 42 [(.t 91)]),
 oG 93 88 true (.cmp .eql (.t 90) (.t 92)),
 oP 94 (.pick (.t 88) (.t 93) bF),
 oM 95 94,
 oG 96 95 true (.call 18 []),
 oP 97 (.pick (.t 95) (.t 96) bF),
 oM 6 97]
def f5 : FRow := ⟨(.seq (.reg 0 c5r0) (.seq (.seq (.reg 0 c5r1) (.cond (.t 25) (.seq (.reg 0 c5r2) .ret) .skip)) (.seq (.reg 0 c5r3) (.seq (.reg 0 c5r4) (.seq (.reg 0 c5r5) (.seq (.reg 0 c5r6) (.seq (.seq (.reg 0 c5r7) (.cond (.t 75) (.seq (.reg 0 c5r8) .ret) .skip)) (.seq (.seq (.reg 0 c5r9) (.cond (.t 77) (.seq (.reg 0 c5r10) .ret) .skip)) (.seq (.reg 0 c5r11) .ret))))))))), [.tmp 6], 98⟩
theorem okf5 : f5.Ok Try.prog 5 := ⟨_, _, Try.func5, rfl, by kernel_rfl, by kernel_rfl, by kernel_rfl⟩
end Go.Proofs.Ytmcjoahnlbckoaa.Sk

/- RingProofs, reckoned: at every book and two lists of keys it answers true. -/
namespace Go.Proofs.Ytmcjoahnlbckoaa.Sk
open Go Go.E Go.E.Sm
set_option maxRecDepth 10000
theorem cir_two {K Q : List (Int × Int)} : ∃ (c : List Int) (e : Int), cirR K Q = [ints c, .int .i64 e] /\ cirE K Q = e /\ ((e ≠ 0 /\ c = []) \/ (e = 0 /\ ckB K Q = 0 /\ ckC K Q c = 0 /\ c.length = shst (clsh K Q) K.length /\ c.length <= 8)) := by
 unfold cirR cirE
 by_cases h0 : ckB K Q = 0
 ·rw [if_pos h0, if_pos h0]
  obtain ⟨hk1, hk8, _⟩ := ckB_zero h0
  rcases cir_spec (clsh_clR h0) with ⟨h1, h2⟩ | ⟨c, cs, h1, h2, h3, h4, h5⟩
  ·rw [h1, if_pos h2]
   exact ⟨[], 5, rfl, rfl, .inl ⟨by decide, rfl⟩⟩
  ·rw [h1, if_neg h2]
   have h6 := (shst_spec (clsh_clR h0)).1 h2
   obtain ⟨_, _, _, h7, _⟩ := h6
   exact ⟨_, 0, rfl, rfl, .inr ⟨rfl, h0, (ckC_iff h0).2 ⟨h5, h4⟩, h3, by omega⟩⟩
 ·rw [if_neg h0, if_neg h0]
  exact ⟨[], _, rfl, rfl, .inl ⟨h0, rfl⟩⟩
set_option maxHeartbeats 2000000 in
theorem law5 {K Q : List (Int × Int)} {G L : List Int} : E.Fn Try.prog 5 [bk K Q, ints G, ints L] [.bool true] := by
 refine fn_of_row okf5 ?_
 simp only [FRow.start, f5, c5r0, c5r1, bk, SV.cells, go_sem, Nat.reduceAdd, Nat.reduceSub]
 refine callK_of (by simp only [bk, go_sem]) (k17 (K := K) (Q := Q)) (.inl rfl) ?_
 cases hg : greatB K Q with
 | true =>
  simp only [c5r2, go_sem]
  refine wk ?_
  simp only [go_sem]
 | false =>
  by_cases hA : (20 : Int) < G.length
  ·simp only [c5r2, hA, go_sem]
   intro _
   refine wk ?_
   simp only [go_sem]
  ·by_cases hB : (20 : Int) < L.length
   ·simp only [c5r2, hA, hB, go_sem]
    intro _
    refine wk ?_
    simp only [go_sem]
   ·have h34 := k34 (K := K) (Q := Q)
    have h35 := k35 (K := K) (Q := Q)
    have h36 := k36 (K := K) (Q := Q)
    have h37 := k37 (K := K) (Q := Q)
    have h38 := k38 (K := K) (Q := Q) (keys := G)
    have h39 := k39 (K := K) (Q := Q) (keys := G)
    have h40 := k40 (K := K) (Q := Q) (keys := L) (by omega)
    have h41 := k41 (K := K) (Q := Q) (keys := L)
    rw [grpR_eq] at h35
    obtain ⟨g, e1, hd⟩ : ∃ (l : List Int) (e : Int), grpR K Q = [ints l, .int .i64 e] := by
     unfold grpR
     split
     ·exact ⟨_, _, rfl⟩
     ·exact ⟨[], _, rfl⟩
    rw [hd] at h34 h35
    obtain ⟨c, e, h1, h2, h3⟩ := cir_two (K := K) (Q := Q)
    rw [h1] at h36
    rw [h2] at h37
    generalize ckG K Q G = x1 at *
    generalize ckC K Q L = x2 at *
    simp only [c5r2, hA, hB, c5r3, go_sem, Nat.reduceAdd]
    intro _
    refine callK_of (by simp only [bk, go_sem]) h34 (.inr (by simp only [bk, go_sem])) ?_
    simp only [c5r4, go_sem, Nat.reduceAdd]
    refine callK_of (by simp only [bk, go_sem]) h35 (.inr (by simp only [bk, go_sem])) ?_
    simp only [c5r5, go_sem, Nat.reduceAdd]
    refine callK_of (by simp only [bk, go_sem]) h36 (.inr (by simp only [bk, go_sem])) ?_
    simp only [c5r6, go_sem, Nat.reduceAdd]
    refine callK_of (by simp only [bk, go_sem]) h37 (.inl rfl) ?_
    simp only [c5r7, go_sem, Nat.reduceAdd]
    refine callK_of (by simp only [bk, go_sem]) h38 (.inl rfl) ?_
    simp only [go_sem, Nat.reduceAdd]
    refine callK_of (by simp only [bk, go_sem]) h39 (.inl rfl) ?_
    simp only [go_sem, Nat.reduceAdd]
    refine callK_of (by simp only [bk, go_sem]) h40 (.inl rfl) ?_
    simp only [go_sem, Nat.reduceAdd]
    refine callK_of (by simp only [bk, go_sem]) h41 (.inl rfl) ?_
    simp only [go_sem]
    refine callK_of (by simp only [go_sem]) (k33 (xs := g) (ys := g)) (.inl rfl) ?_
    rcases h3 with ⟨h3, rfl⟩ | ⟨rfl, h0, h3, h4, h5⟩
    ·simp only [c5r9, h3, c5r10, go_sem]
     refine wk ?_
     simp only [go_sem]
    ·have h41c := k41 (K := K) (Q := Q) (keys := c)
     rw [h3] at h41c
     have h42 := k42 h0
     rw [<- h4] at h42
     simp only [c5r9, c5r11, go_sem, Nat.reduceAdd]
     refine callK_of (by simp only [bk, go_sem]) h41c (.inl rfl) ?_
     simp only [go_sem, Nat.reduceAdd]
     refine callK_of (by simp only [bk, go_sem]) h42 (.inl rfl) ?_
     simp only [go_sem]
     refine wk ?_
     simp only [go_sem]
end Go.Proofs.Ytmcjoahnlbckoaa.Sk
