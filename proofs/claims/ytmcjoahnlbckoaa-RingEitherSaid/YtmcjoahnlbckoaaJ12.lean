/- The code of a law in the value semantics. -/
import Derived.Test.YtmcjoahnlbckoaaJ11

set_option linter.all false

namespace Go.Proofs.Ytmcjoahnlbckoaa.Sk
open Go Go.E
def c9r0 : List AOper := [
 oP 2 (.boxS (.t 0)),
 oP 4 (.mov bF)]
def c9r1 : List AOper := [
 oP 11 (.load 2 true (.t 2)),
 oP 12 (.call 45 [(.t 11)]),
 oP 13 (.not (.t 12)),
 oM 14 13,
 oH 15 14 false 1,
 oG 16 14 false (.len false (.t 15)),
 oG 17 14 false (.cmp .gtr (.t 16) (nI 20)),
 oP 18 (.pick (.t 14) bT (.t 17))]
def c9r2 : List AOper := [
 oP 19 (.call 18 []),
 oM 4 19]
def c9r3 : List AOper := [
 oP 21 (.load 2 true (.t 2)),
 oP 22 (.call 46 [(.t 21)]),
 oM 20 22,
 oP 23 (.ext (.t 20) 0),
 oP 24 (.ext (.t 20) 1),
 oP 25 (.ext (.t 20) 2),
 oM 5 23,
 oM 6 24,
 oM 7 25]
def c9r4 : List AOper := [
 oP 27 (.load 2 true (.t 2)),
 oP 28 (.call 36 [(.t 27)]),
 oM 26 28,
 oP 29 (.ext (.t 26) 0),
 oP 30 (.ext (.t 26) 1),
 oM 8 29,
 oM 9 30]
def c9r5 : List AOper := [
 oP 31 (.load 2 true (.t 2)),
 oM 32 1,
 oP 33 (.call 40 [(.t 31), (.t 32)]),
 oM 10 33]
def c9r6 : List AOper := [
 oM 34 7,
 oP 35 (.not (.t 34))]
def c9r7 : List AOper := [
 oP 4 (.mov bF)]
def c9r8 : List AOper := [
 oM 36 5,
 oP 37 (.cmp .leq (.t 36) (nI 2))]
def c9r9 : List AOper := [
 oM 38 9,
 oP 39 (.cmp .eql (.t 38) (nI 5)),
 oM 40 39,
 oH 41 40 true 8,
 oG 42 40 true (.len false (.t 41)),
 oG 43 40 true (.cmp .eql (.t 42) (nI 0)),
 oP 44 (.pick (.t 40) (.t 43) bF),
 oM 45 44,
 oH 46 45 true 10,
 oG 47 45 true (.cmp .neq (.t 46) (nI 0)),
 oP 48 (.pick (.t 45) (.t 47) bF),
 oM 49 48,
 oG 50 49 true (.call 18 []),
 oP 51 (.pick (.t 49) (.t 50) bF),
 oM 4 51]
def c9r10 : List AOper := [
 oM 52 9,
 oP 53 (.cmp .eql (.t 52) (nI 0)),
 oM 54 53,
 oG 55 54 true (.load 2 true (.t 2)),
 oH 56 54 true 8,
 oG 57 54 true (.call 40 [(.t 55), (.t 56)]),
 oG 58 54 true (.cmp .eql (.t 57) (nI 0)),
 oP 59 (.pick (.t 54) (.t 58) bF),
 oM 60 59,
 oG 61 60 true (.load 2 true (.t 2)),
 oH 62 60 true 8,
 oG 63 60 true (.call 41 [(.t 61), (.t 62)]),
 oG 64 60 true (.cmp .eql (.t 63) (nI 0)),
 oP 65 (.pick (.t 60) (.t 64) bF),
 oM 66 65,
 oH 67 66 true 10,
 oG 68 66 true (.cmp .neq (.t 67) (nI 0)),
 oH 69 66 true 68,
 oH 70 69 false 1,
 oG 71 69 false (.len false (.t 70)),
 oH 72 69 false 8,
 oG 73 69 false (.len false (.t 72)),
 oG 74 69 false (.cmp .geq (.t 71) (.t 73)),
 oG 75 66 true (.pick (.t 69) bT (.t 74)),
 oP 76 (.pick (.t 66) (.t 75) bF),
 oM 77 76,
 oG 78 77 true (.call 18 []),
 oP 79 (.pick (.t 77) (.t 78) bF),
 oM 4 79]
def f9 : FRow := ⟨(.seq (.reg 0 c9r0) (.seq (.seq (.reg 0 c9r1) (.cond (.t 18) (.seq (.reg 0 c9r2) .ret) .skip)) (.seq (.reg 0 c9r3) (.seq (.reg 0 c9r4) (.seq (.reg 0 c9r5) (.seq (.seq (.reg 0 c9r6) (.cond (.t 35) (.seq (.reg 0 c9r7) .ret) .skip)) (.seq (.seq (.reg 0 c9r8) (.cond (.t 37) (.seq (.reg 0 c9r9) .ret) .skip)) (.seq (.reg 0 c9r10) .ret)))))))), [.tmp 4], 80⟩
theorem okf9 : f9.Ok Try.prog 9 := ⟨_, _, Try.func9, rfl, by kernel_rfl, by kernel_rfl, by kernel_rfl⟩
end Go.Proofs.Ytmcjoahnlbckoaa.Sk

/- RingEither, reckoned: at every book and keys it answers true. -/
namespace Go.Proofs.Ytmcjoahnlbckoaa.Sk
open Go Go.E Go.E.Sm
set_option maxRecDepth 10000
set_option maxHeartbeats 2000000 in
theorem law9 {K Q : List (Int × Int)} {L : List Int} : E.Fn Try.prog 9 [bk K Q, ints L] [.bool true] := by
 refine fn_of_row okf9 ?_
 have h45 := k45 (K := K) (Q := Q)
 simp only [FRow.start, f9, c9r0, c9r1, bk, SV.cells, go_sem, Nat.reduceAdd, Nat.reduceSub]
 refine callK_of (by simp only [bk, go_sem]) h45 (.inl rfl) ?_
 cases hf : (!greatB K Q && decide (ckB K Q = 0)) with
 | false =>
  simp only [c9r2, go_sem]
  refine wk ?_
  simp only [go_sem]
 | true =>
  rw [Bool.and_eq_true, decide_eq_true_eq] at hf
  have h0 := hf.2
  obtain ⟨hk1, hk8, _⟩ := ckB_zero h0
  by_cases hB : (20 : Int) < L.length
  ·simp only [c9r2, hB, go_sem]
   intro _
   refine wk ?_
   simp only [go_sem]
  ·have h46 := k46 h0
   have h36 := k36 (K := K) (Q := Q)
   have h40 := k40 (K := K) (Q := Q) (keys := L) (by omega)
   have hL3 := ckC_three (K := K) (Q := Q) (L := L)
   have hLs := ckC_shst (K := K) (Q := Q) (L := L)
   have h2r := two_rings (clsh_clR h0)
   generalize ckC K Q L = x2 at *
   simp only [c9r2, hB, c9r3, go_sem, Nat.reduceAdd]
   intro _
   refine callK_of (by simp only [bk, go_sem]) h46 (.inr (by simp only [bk, go_sem])) ?_
   simp only [c9r4, go_sem, Nat.reduceAdd]
   unfold cirR at h36
   rw [if_pos h0] at h36
   rcases cir_spec (clsh_clR h0) with ⟨h1, h2⟩ | ⟨c, cs, h1, h2, h3, h4, h5⟩
   ·rw [h1] at h36
    have h6 := h2r h2
    have h7 : ((fw (clsh K Q) K.length : Nat) : Int) <= 2 := by omega
    have h8 : ¬ x2 = 0 := fun e => by have := hL3 e; omega
    refine callK_of (by simp only [bk, go_sem]) h36 (.inr (by simp only [bk, go_sem])) ?_
    simp only [c9r5, go_sem, Nat.reduceAdd]
    refine callK_of (by simp only [bk, go_sem]) h40 (.inl rfl) ?_
    simp only [c9r6, c9r8, h7, c9r9, h8, go_sem]
    refine wk ?_
    simp only [go_sem]
   ·rw [h1] at h36
    have hc := (ckC_iff h0).2 ⟨h5, h4⟩
    have h6 := ckC_three hc
    have h7 : ¬ ((fw (clsh K Q) K.length : Nat) : Int) <= 2 := by omega
    obtain ⟨_, _, _, h8, _⟩ := (shst_spec (clsh_clR h0)).1 h2
    simp only at h36
    generalize bestF shoB c cs = r at *
    have h40r := k40 (K := K) (Q := Q) (keys := r) (by omega)
    have h41r := k41 (K := K) (Q := Q) (keys := r)
    rw [hc] at h40r h41r
    refine callK_of (by simp only [bk, go_sem]) h36 (.inr (by simp only [bk, go_sem])) ?_
    simp only [c9r5, go_sem, Nat.reduceAdd]
    refine callK_of (by simp only [bk, go_sem]) h40 (.inl rfl) ?_
    simp only [c9r6, c9r8, h7, c9r10, go_sem, Nat.reduceAdd]
    refine callK_of (by simp only [bk, go_sem]) h40r (.inl rfl) ?_
    simp only [go_sem, Nat.reduceAdd]
    refine callK_of (by simp only [bk, go_sem]) h41r (.inl rfl) ?_
    by_cases e2 : x2 = 0
    ·have h9 : (r.length : Int) <= L.length := by have := hLs e2; omega
     simp only [e2, h9, go_sem]
     refine wk ?_
     simp only [go_sem]
    ·simp only [e2, go_sem]
     refine wk ?_
     simp only [go_sem]
end Go.Proofs.Ytmcjoahnlbckoaa.Sk
