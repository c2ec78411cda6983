/- The code of a law in the value semantics. -/
import Derived.Test.YtmcjoahnlbckoaaJ11

set_option linter.all false

namespace Go.Proofs.Ytmcjoahnlbckoaa.Sk
open Go Go.E
def c12r0 : List AOper := [
 oP 5 (.boxS (.t 0)),
 oP 10 (.mov bF)]
def c12r1 : List AOper := [
 oP 28 (.loadO 2 true (.t 5)),
 oP 29 (.call 45 [(.t 28)]),
 oP 30 (.not (.t 29)),
 oM 31 30,
 oG 32 31 false (.fieldAddr 0 (.t 5)),
 oG 33 31 false (.loadO 1 false (.t 32)),
 oG 34 31 false (.len false (.t 33)),
 oG 35 31 false (.cmp .lss (.t 34) (nI 2)),
 oP 36 (.pick (.t 31) bT (.t 35))]
def c12r2 : List AOper := [
 oP 37 (.call 18 []),
 oM 10 37]
def c12r3 : List AOper := [
 oP 39 (.loadO 2 true (.t 5)),
 oP 40 (.call 46 [(.t 39)]),
 oM 38 40,
 oP 41 (.ext (.t 38) 0),
 oP 42 (.ext (.t 38) 1),
 oP 43 (.ext (.t 38) 2),
 oM 11 41,
 oM 12 42,
 oM 13 43]
def c12r4 : List AOper := [
 oM 44 13,
 oP 45 (.not (.t 44))]
def c12r5 : List AOper := [
 oP 10 (.mov bF)]
def c12r6 : List AOper := [
 oM 46 1,
 oP 47 (.conv .i64 (.t 46)),
 oF 48 0 5,
 oP 49 (.loadO 1 false (.t 48)),
 oN 50 49,
 oP 51 (.div .rem (.t 47) (.t 50)),
 oM 14 51]
def c12r7 : List AOper := [
 oM 52 14,
 oP 53 (.arith .add (.t 52) (nI 1)),
 oM 54 2,
 oP 55 (.conv .i64 (.t 54)),
 oF 56 0 5,
 oP 57 (.loadO 1 false (.t 56)),
 oN 58 57,
 oP 59 (.arith .sub (.t 58) (nI 1)),
 oP 60 (.div .rem (.t 55) (.t 59)),
 oP 61 (.arith .add (.t 53) (.t 60)),
 oF 62 0 5,
 oP 63 (.loadO 1 false (.t 62)),
 oN 64 63,
 oP 65 (.div .rem (.t 61) (.t 64)),
 oM 15 65]
def c12r8 : List AOper := [
 oP 67 (.loadO 2 true (.t 5)),
 oM 68 14,
 oM 69 15,
 oP 70 (.call 52 [(.t 67), (.t 68), (.t 69)]),
 oM 66 70,
 oP 71 (.ext (.t 66) 0),
 oP 72 (.ext (.t 66) 1),
 oP 16 (.alloc [(.full []), (.full [])]),
 ⟨none, none, .store 2 (.t 16) (.t 71)⟩,
 oM 17 72]
def c12r9 : List AOper := [
 oM 73 17]
def c12r10 : List AOper := [
 oP 75 (.loadO 2 true (.t 16)),
 oP 76 (.call 46 [(.t 75)]),
 oM 74 76,
 oP 77 (.ext (.t 74) 0),
 oP 78 (.ext (.t 74) 1),
 oP 79 (.ext (.t 74) 2),
 oM 18 77,
 oM 19 78,
 oM 20 79]
def c12r11 : List AOper := [
 oP 81 (.loadO 2 true (.t 5)),
 oM 82 19,
 oP 83 (.call 19 [(.t 81), (.t 82)]),
 oM 80 83,
 oP 84 (.ext (.t 80) 0),
 oP 85 (.ext (.t 80) 1),
 oM 21 84,
 oM 22 85]
def c12r12 : List AOper := [
 oM 86 20,
 oP 87 (.not (.t 86)),
 oM 88 87,
 oH 89 88 false 18,
 oH 90 88 false 11,
 oG 91 88 false (.cmp .lss (.t 89) (.t 90)),
 oP 92 (.pick (.t 88) bT (.t 91)),
 oM 93 92,
 oH 94 93 false 18,
 oH 95 93 false 11,
 oG 96 93 false (.arith .add (.t 95) (nI 1)),
 oG 97 93 false (.cmp .gtr (.t 94) (.t 96)),
 oP 98 (.pick (.t 93) bT (.t 97)),
 oM 99 98,
 oH 100 99 false 22,
 oG 101 99 false (.cmp .neq (.t 100) (nI 0)),
 oP 102 (.pick (.t 99) bT (.t 101)),
 oM 103 102,
 oH 104 103 false 21,
 oH 105 103 false 18,
 oG 106 103 false (.cmp .neq (.t 104) (.t 105)),
 oP 107 (.pick (.t 103) bT (.t 106))]
def c12r13 : List AOper := [
 oP 10 (.mov bF)]
def c12r14 : List AOper := [
 oF 108 0 5,
 oP 109 (.loadO 1 false (.t 108)),
 oN 110 109,
 oP 111 (.cmp .geq (.t 110) (nI 8))]
def c12r15 : List AOper := [
 oP 112 (.call 18 []),
 oM 10 112]
def c12r16 : List AOper := [
 oM 113 3,
 oM 114 4,
 oP 115 (.min [(.t 113), (.t 114)]),
 oP 116 (.conv .i64 (.t 115)),
 oP 117 (.div .rem (.t 116) (nI 1001)),
 oM 118 3,
 oM 119 4,
 oP 120 (.max [(.t 118), (.t 119)]),
 oP 121 (.conv .i64 (.t 120)),
 oP 122 (.div .rem (.t 121) (nI 1001)),
 oM 23 117,
 oM 24 122]
def c12r17 : List AOper := [
 oP 123 (.buildSl 2 0 (.agg [(.int .i64 0), (.int .i64 0)]) []),
 oF 124 0 5,
 oP 125 (.loadO 1 false (.t 124)),
 oP 126 (.appendN 2 16 (.t 123) (.t 125)),
 oM 127 23,
 oM 128 24,
 oP 129 (.min [(.t 127), (.t 128)]),
 oM 130 23,
 oM 131 24,
 oP 132 (.max [(.t 130), (.t 131)]),
 oP 133 (.build [(.s (.int .i64 0)), (.s (.int .i64 0))] [(0, 1, (.t 129)), (1, 1, (.t 132))]),
 oP 134 (.buildSl 2 1 (.agg [(.int .i64 0), (.int .i64 0)]) [(0, (.t 133))]),
 oP 135 (.appendZ 2 16 (.t 126) (.t 134)),
 oF 136 1 5,
 oP 137 (.loadO 1 false (.t 136)),
 oP 138 (.build [(.full []), (.full [])] [(0, 1, (.t 135)), (1, 1, (.t 137))]),
 oP 25 (.alloc [(.full []), (.full [])]),
 ⟨none, none, .store 2 (.t 25) (.t 138)⟩]
def c12r18 : List AOper := [
 oP 140 (.loadO 2 true (.t 25)),
 oP 141 (.call 46 [(.t 140)]),
 oM 139 141,
 oP 142 (.ext (.t 139) 0),
 oP 143 (.ext (.t 139) 1),
 oP 144 (.ext (.t 139) 2),
 oM 26 142,
 oM 27 143,
 oM 13 144]
def c12r19 : List AOper := [
 oM 145 13,
 oM 146 145,
 oH 147 146 true 26,
 oH 148 146 true 11,
 oG 149 146 true (.cmp .geq (.t 147) (.t 148)),
 oP 150 (.pick (.t 146) (.t 149) bF),
 oM 151 150,
 oH 152 151 true 26,
 oH 153 151 true 11,
 oG 154 151 true (.arith .add (.t 153) (nI 1)),
 oG 155 151 true (.cmp .leq (.t 152) (.t 154)),
 oP 156 (.pick (.t 151) (.t 155) bF),
 oM 157 156,
 oG 158 157 true (.call 18 []),
 oP 159 (.pick (.t 157) (.t 158) bF),
 oM 10 159]
def f12 : FRow := ⟨(.seq (.reg 0 c12r0) (.seq (.seq (.reg 0 c12r1) (.cond (.t 36) (.seq (.reg 0 c12r2) .ret) .skip)) (.seq (.reg 0 c12r3) (.seq (.seq (.reg 0 c12r4) (.cond (.t 45) (.seq (.reg 0 c12r5) .ret) .skip)) (.seq (.reg 0 c12r6) (.seq (.reg 0 c12r7) (.seq (.reg 1 c12r8) (.seq (.seq (.reg 0 c12r9) (.cond (.t 73) (.seq (.reg 0 c12r10) (.seq (.reg 0 c12r11) (.seq (.reg 0 c12r12) (.cond (.t 107) (.seq (.reg 0 c12r13) .ret) .skip)))) .skip)) (.seq (.seq (.reg 0 c12r14) (.cond (.t 111) (.seq (.reg 0 c12r15) .ret) .skip)) (.seq (.reg 0 c12r16) (.seq (.reg 2 c12r17) (.seq (.reg 0 c12r18) (.seq (.reg 0 c12r19) .ret))))))))))))), [.tmp 10], 160⟩
theorem okf12 : f12.Ok Try.prog 12 := ⟨_, _, Try.func12, rfl, by kernel_rfl, by kernel_rfl, by kernel_rfl⟩
end Go.Proofs.Ytmcjoahnlbckoaa.Sk

/- RingMore, reckoned: at every book, two keys and days it answers true. -/
namespace Go.Proofs.Ytmcjoahnlbckoaa.Sk
open Go Go.E Go.E.Sm
set_option maxRecDepth 10000
theorem ckR_more {K Q cl : List (Int × Int)} (h : ckB K Q = 0) (hc : ∀ p ∈ clsh K Q, p ∈ cl) : ckR K Q (rngs cl K.length) = (((fw cl K.length : Nat) : Int), 0) := by
 obtain ⟨hk1, hk8, _⟩ := ckB_zero h
 obtain ⟨g, h1, h2, h3⟩ := rngs_pcs (cl := cl) hk1
 have h4 := fw_le (cl := cl) (n := K.length)
 obtain ⟨h5, h6⟩ := mem_col.1 h2
 rw [h1, ckR_good h (by rw [toI_len]; exact h5) (fun x hx => by
  obtain ⟨y, hy, rfl⟩ := List.mem_map.1 hx
  have := h3.1 y hy
  omega) (fun i k hik hk hp e => by
  rw [toI_getD, toI_getD] at e
  exact (h6 k hk).2 i hik (by simpa [rel0] using hc _ hp) (by omega)), rgP_dn h3]
set_option maxHeartbeats 4000000 in
theorem law12 {K Q : List (Int × Int)} {x1 x2 x3 x4 : Int} (h1 : 0 <= x1 /\ x1 < 256) (h2 : 0 <= x2 /\ x2 < 256) (h3 : 0 <= x3 /\ x3 < 65536) (h4 : 0 <= x4 /\ x4 < 65536) :
  E.Fn Try.prog 12 [bk K Q, .int .u8 x1, .int .u8 x2, .int .u16 x3, .int .u16 x4] [.bool true] := by
 refine fn_of_row okf12 ?_
 have h45 := k45 (K := K) (Q := Q)
 simp only [FRow.start, f12, c12r0, c12r1, bk, SV.cells, go_sem, Nat.reduceAdd, Nat.reduceSub]
 refine callK_of (by simp only [bk, go_sem]) h45 (.inl rfl) ?_
 cases hf : (!greatB K Q && decide (ckB K Q = 0)) with
 | false =>
  simp only [c12r2, go_sem]
  refine wk ?_
  simp only [go_sem]
 | true =>
  rw [Bool.and_eq_true, decide_eq_true_eq] at hf
  have h0 := hf.2
  obtain ⟨hk1, hk8, hq12, _⟩ := ckB_zero h0
  by_cases hA : (K.length : Int) < 2
  ·simp only [c12r2, kS, hA, go_sem, Nat.reduceAdd, Nat.reduceLeDiff]
   intro _
   refine wk ?_
   simp only [go_sem]
  ·have h46 := k46 h0
   have hwl := fw_le (cl := clsh K Q) (n := K.length)
   simp only [c12r2, kS, hA, c12r3, go_sem, Nat.reduceAdd, Nat.reduceLeDiff]
   refine fun _ => callK_of (by simp only [bk, kS, go_sem]) h46 (.inr (by simp only [bk, kS, go_sem])) ?_
   simp only [c12r4, c12r6, go_sem, Nat.reduceAdd, Nat.reduceLeDiff]
   refine ⟨inR_small (by omega) (by omega), by omega, fun _ => ?_⟩
   have ho1 := Int.tmod_nonneg (K.length : Int) h1.1
   have ho2 := Int.tmod_lt_of_pos x1 (show (0 : Int) < K.length by omega)
   have ht1 := Int.tmod_nonneg ((K.length : Int) - 1) h2.1
   have ht2 := Int.tmod_lt_of_pos x2 (show (0 : Int) < (K.length : Int) - 1 by omega)
   have hrot := rot_ne ⟨ho1, ho2⟩ ⟨ht1, ht2⟩
   generalize x1.tmod K.length = o at *
   simp only [c12r7, go_sem, Nat.reduceAdd, Nat.reduceLeDiff]
   refine ⟨inR_small (by omega) (by omega), inR_small (by omega) (by omega), inR_small (by omega) (by omega), by omega, inR_small (by omega) (by omega), by omega, fun _ => ?_⟩
   generalize (o + 1 + x2.tmod ((K.length : Int) - 1)).tmod K.length = o2 at *
   obtain ⟨a, rfl⟩ := Int.eq_ofNat_of_zero_le ho1
   obtain ⟨b, rfl⟩ := Int.eq_ofNat_of_zero_le hrot.1
   have ha : a < K.length := by omega
   have hb : b < K.length := by omega
   have hab : a ≠ b := by omega
   have hp := fw_plus (n := K.length) hab (fun x => clsh_qi (K := K) (Q := Q) (p := pO a b) (x := x))
   have h52 := k52 (K := K) (Q := Q) (one := a) (two := b) (by omega)
   have h46x : pO (a : Int) (b : Int) ∉ Q -> Q.length + 1 <= 12 -> _ := fun hn hl => k46 (ckB_qi (p := pO a b) h0 (by unfold pO; simp only; omega) hn hl)
   have h19 := k19 (K := K) (Q := Q) (rings := rngs (clsh K (qi (pO a b) Q)) K.length)
   rw [ckR_more h0 (fun p hp => clsh_qi.2 (.inr hp))] at h19
   generalize rngs (clsh K (qi (pO a b) Q)) K.length = rx at *
   generalize fw (clsh K (qi (pO a b) Q)) K.length = mw at *
   -- the key more
   have hkey : ∀ x : Int × Int, 0 <= x.1 /\ x.1 <= x.2 /\ x.2 <= 1000 -> K.length + 1 <= 8 -> ∃ (w2 : Nat) (r2 : List Int), E.Fn Try.prog 46 [bk (K ++ [x]) Q] [.int .i64 w2, ints r2, .bool true] /\ fw (clsh K Q) K.length <= w2 /\ w2 <= fw (clsh K Q) K.length + 1 := fun x hx hl => by
    have h8 := k46 (ckB_key h0 hx hl)
    rw [List.length_append, List.length_singleton] at h8
    exact ⟨_, _, h8, (fw_more fun a b hab hb => clsh_key hab hb).1, (fw_more fun a b hab hb => clsh_key hab hb).2⟩
   generalize rngs (clsh K Q) K.length = rr at *
   generalize fw (clsh K Q) K.length = w at *
   simp only [c12r8, go_sem, Nat.reduceAdd]
   refine callK_of (by simp only [bk, kS, go_sem]) h52 ?_ ?_
   ·split <;> exact .inr (by simp only [bk, kS, go_sem])
   have hcs : pO (a : Int) (b : Int) ∈ Q \/ (pO (a : Int) (b : Int) ∉ Q /\ Q.length <= 11) \/ (pO (a : Int) (b : Int) ∉ Q /\ ¬ Q.length <= 11) := by
    by_cases h5 : pO (a : Int) (b : Int) ∈ Q
    ·exact .inl h5
    ·by_cases h6 : Q.length <= 11
     ·exact .inr (.inl ⟨h5, h6⟩)
     ·exact .inr (.inr ⟨h5, h6⟩)
   rcases hcs with hq | ⟨hq, hm⟩ | ⟨hq, hm⟩
   case' inl =>
    rw [if_pos hq]
    simp only [bk, kS, splice, SV.cells, c12r9, c12r14, go_sem, Nat.reduceAdd, Nat.reduceLeDiff]
   case' inr.inr =>
    rw [if_neg hq]
    simp only [bk, kS, splice, SV.cells, hm, c12r9, c12r14, go_sem, Nat.reduceAdd, Nat.reduceLeDiff]
   case' inr.inl =>
    rw [if_neg hq]
    have h46y := h46x hq (by omega)
    simp only [bk, kS, splice, SV.cells, hm, c12r9, c12r10, go_sem, Nat.reduceAdd, Nat.reduceLeDiff]
    refine callK_of (by simp only [bk, kS, go_sem]) h46y (.inr (by simp only [bk, kS, go_sem])) ?_
    simp only [c12r11, go_sem, Nat.reduceAdd]
    refine callK_of (by simp only [bk, kS, go_sem]) h19 (.inl rfl) ?_
    have e1 : ¬ mw < w := by omega
    have e2 : ¬ ((w : Int) + 1 < mw) := by omega
    simp only [c12r12, e1, e2, go_sem]
    refine ⟨inR_small (by omega) (by omega), ?_⟩
    simp only [c12r14, go_sem, Nat.reduceAdd, Nat.reduceLeDiff]
   all_goals
    intro _
    refine ⟨fun hlt => ?_, fun hge => ?_⟩
    ·simp only [c12r15, go_sem]
     refine wk ?_
     simp only [go_sem]
    ·simp only [c12r16, go_sem, reduceCtorEq]
     have hm1 : 0 <= minL [x3, x4] /\ minL [x3, x4] < 65536 := by rw [minL_two]; omega
     have hm2 : 0 <= maxL [x3, x4] /\ maxL [x3, x4] < 65536 := by rw [maxL_two]; omega
     have hr1 := Int.tmod_nonneg 1001 hm1.1
     have hr2 := Int.tmod_lt_of_pos (minL [x3, x4]) (show (0 : Int) < 1001 by decide)
     have hr3 := Int.tmod_nonneg 1001 hm2.1
     have hr4 := Int.tmod_lt_of_pos (maxL [x3, x4]) (show (0 : Int) < 1001 by decide)
     refine ⟨inR_small (by omega) (by omega), by decide, inR_small (by omega) (by omega), by decide, ?_⟩
     generalize (minL [x3, x4]).tmod 1001 = f1 at *
     generalize (maxL [x3, x4]).tmod 1001 = f2 at *
     have hmn : minL [f1, f2] = min f1 f2 := minL_two
     have hmx : maxL [f1, f2] = max f1 f2 := maxL_two
     obtain ⟨w2, r2, h46z, hw1, hw2⟩ := hkey (min f1 f2, max f1 f2) (by simp only; omega) (by omega)
     simp only [c12r17, go_sem, Nat.reduceAdd, Nat.reduceLeDiff, Nat.reduceMul]
     refine ⟨by decide, by decide, rfl, by simp, fits_pr2 (by omega), newRow_of2 (by rw [ne_eq, List.map_eq_nil_iff]; intro e; rw [e] at hk1; simp at hk1) rfl ?_⟩
     rw [<- twoL_map, List.length_map]
     simp only [hmn, hmx, SV.cells, go_sem, ↓reduceIte, reduceCtorEq, Nat.reduceAdd, Nat.reduceLeDiff, Nat.reduceMul]
     refine ⟨by decide, by decide, rfl, one_pr (p := (min f1 f2, max f1 f2)), one_pr (p := (min f1 f2, max f1 f2)), by rw [twoL_len]; omega, by omega, by omega, by omega, K.map pr, row_two2 rfl, fun x hx => ?_, ?_⟩
     ·obtain ⟨p, _, rfl⟩ := List.mem_map.1 hx; rfl
     ·have e3 : K.map pr ++ [SV.agg [.int .i64 (min f1 f2), .int .i64 (max f1 f2)]] = (K ++ [(min f1 f2, max f1 f2)]).map pr := by rw [List.map_append]; rfl
      rw [e3]
      simp only [splice, c12r18, go_sem, Nat.reduceAdd]
      refine callK_of (by simp only [bk, kS, go_sem]) h46z (.inr (by simp only [bk, kS, go_sem])) ?_
      have e1 : (w : Int) <= w2 := by omega
      have e2 : (w2 : Int) <= w + 1 := by omega
      simp only [c12r19, e1, e2, go_sem, Nat.reduceAdd]
      refine ⟨inR_small (by omega) (by omega), wk ?_⟩
      simp only [go_sem]
end Go.Proofs.Ytmcjoahnlbckoaa.Sk
