/- The code of a law in the value semantics. -/
import Derived.Test.YtglmjdpmpgphkaaM13

set_option linter.all false

namespace Go.Proofs.Ytglmjdpmpgphkaa.Sk
open Go Go.E

def c13r0 : List AOper := [
 oP 2 (.boxS (.t 0)),
 oP 4 (.mov (.c (.s (.bool false))))]
def c13r1 : List AOper := [
 oP 16 (.loadO 3 true (.t 2)),
 oP 17 (.call 47 [(.t 16)]),
 oP 18 (.not (.t 17))]
def c13r2 : List AOper := [
 oP 19 (.call 17 []),
 oP 4 (.mov (.t 19))]
def c13r3 : List AOper := [
 oP 20 (.fieldAddr 1 (.t 2)),
 oP 21 (.loadO 1 false (.t 20)),
 oP 22 (.len false (.t 21)),
 oP 5 (.mov (.t 22))]
def c13r4 : List AOper := [
 oP 23 (.mov (.t 1)),
 oP 24 (.conv .i64 (.t 23)),
 oP 25 (.mov (.t 5)),
 oP 26 (.div .rem (.t 24) (.t 25)),
 oP 6 (.mov (.t 26))]
def c13r5 : List AOper := [
 oP 27 (.mov (.t 5)),
 oP 28 (.mkslice 1 1 [(.bool false)] (.t 27) (.t 27)),
 oP 29 (.mov (.t 5)),
 oP 30 (.mkslice 1 1 [(.bool false)] (.t 29) (.t 29)),
 oP 31 (.mov (.t 5)),
 oP 32 (.mkslice 1 24 [(.slice [])] (.t 31) (.t 31)),
 oP 33 (.build [(.full []), (.full []), (.full [])] [(0, 1, (.t 28)), (2, 1, (.t 30)), (1, 1, (.t 32))]),
 oP 7 (.alloc [(.full []), (.full []), (.full [])]),
 ⟨none, none, .store 3 (.t 7) (.t 33)⟩]
def c13r6 : List AOper := [
 oP 8 (.mov (nI 0))]
def c13r7 : List AOper := [
 oP 34 (.mov (.t 8)),
 oP 35 (.mov (.t 5)),
 oP 36 (.cmp .lss (.t 34) (.t 35))]
def c13r8 : List AOper := [
 oP 39 (.mov (.t 8)),
 oP 40 (.mov (.t 6)),
 oP 41 (.arith .add (.t 39) (.t 40)),
 oP 42 (.mov (.t 5)),
 oP 43 (.div .rem (.t 41) (.t 42)),
 oP 9 (.mov (.t 43))]
def c13r9 : List AOper := [
 oP 44 (.fieldAddr 0 (.t 7)),
 oP 45 (.loadO 1 false (.t 44)),
 oP 46 (.mov (.t 9)),
 oP 47 (.fieldAddr 2 (.t 7)),
 oP 48 (.loadO 1 false (.t 47)),
 oP 49 (.mov (.t 9)),
 oP 50 (.fieldAddr 0 (.t 2)),
 oP 51 (.loadO 1 false (.t 50)),
 oP 52 (.mov (.t 8)),
 oP 53 (.idxA 1 (.t 51) (.t 52)),
 oP 54 (.load 1 false (.t 53)),
 oP 55 (.fieldAddr 2 (.t 2)),
 oP 56 (.loadO 1 false (.t 55)),
 oP 57 (.mov (.t 8)),
 oP 58 (.idxA 1 (.t 56) (.t 57)),
 oP 59 (.load 1 false (.t 58)),
 oP 60 (.idxA 1 (.t 45) (.t 46)),
 ⟨none, none, .storeR 1 (.t 60) (.t 54)⟩,
 oP 61 (.idxA 1 (.t 48) (.t 49)),
 ⟨none, none, .storeR 1 (.t 61) (.t 59)⟩]
def c13r10 : List AOper := [
 oP 10 (.mov (nI 0))]
def c13r11 : List AOper := [
 oP 62 (.mov (.t 10)),
 oP 63 (.mov (.t 5)),
 oP 64 (.cmp .lss (.t 62) (.t 63))]
def c13r12 : List AOper := [
 oP 67 (.fieldAddr 1 (.t 2)),
 oP 68 (.loadO 1 false (.t 67)),
 oP 69 (.mov (.t 8)),
 oP 70 (.idxA 1 (.t 68) (.t 69)),
 oP 71 (.load 1 false (.t 70)),
 oP 72 (.mov (.t 10)),
 oP 73 (.mov (.t 5)),
 oP 74 (.arith .add (.t 72) (.t 73)),
 oP 75 (.mov (.t 6)),
 oP 76 (.arith .sub (.t 74) (.t 75)),
 oP 77 (.mov (.t 5)),
 oP 78 (.div .rem (.t 76) (.t 77)),
 oP 79 (.call 49 [(.t 71), (.t 78)])]
def c13r13 : List AOper := [
 oP 80 (.fieldAddr 1 (.t 7)),
 oP 81 (.loadO 1 false (.t 80)),
 oP 82 (.mov (.t 9)),
 oP 83 (.buildSl 1 0 (.int .i64 0) []),
 oP 84 (.fieldAddr 1 (.t 7)),
 oP 85 (.loadO 1 false (.t 84)),
 oP 86 (.mov (.t 9)),
 oP 87 (.idxA 1 (.t 85) (.t 86)),
 oP 88 (.load 1 false (.t 87)),
 oP 89 (.appendN 1 8 (.t 83) (.t 88)),
 oP 90 (.mov (.t 10)),
 oP 91 (.buildSl 1 1 (.int .i64 0) [(0, (.t 90))]),
 oP 92 (.appendZ 1 8 (.t 89) (.t 91)),
 oP 93 (.idxA 1 (.t 81) (.t 82)),
 ⟨none, none, .storeR 1 (.t 93) (.t 92)⟩]
def c13r14 : List AOper := [
 oP 65 (.mov (.t 10)),
 oP 66 (.arith .add (.t 65) (nI 1)),
 oP 10 (.mov (.t 66))]
def c13l15 : ACode := (.seq (.seq (.reg 0 c13r11) (.cond (.t 64) .skip (.exit 2))) (.seq (.block 3 (.seq (.reg 0 c13r12) (.cond (.t 79) (.reg 1 c13r13) .skip))) (.reg 0 c13r14)))
def c13l15m : List Bool := [false, false, true, false, false, true, true, true, true, true, true, false, false, false, false, false, false, false, false, false, false, false, false, false, false, false, false, false, false, false, false, false, false, false, false, false, false, false, false, false, false, false, false, false, false, false, false, false, false, false, false, false, false, false, false, false, false, false, false, false, false, false, false, false, false, false, false, false, false, false, false, false, false, false, false, false, false, false, false, false, false, false, false, false, false, false, false, false, false, false, false, false, false, false, false, false, false, false, false, false, false, false, false, false, false, false, false, false, false, false, false, false, false, false, false, false, false, false, false, false, false, false, false, false, false, false, false, false, false]
def c13r16 : List AOper := [
 oP 37 (.mov (.t 8)),
 oP 38 (.arith .add (.t 37) (nI 1)),
 oP 8 (.mov (.t 38))]
def c13l17 : ACode := (.seq (.seq (.reg 0 c13r7) (.cond (.t 36) .skip (.exit 0))) (.seq (.block 1 (.seq (.reg 0 c13r8) (.seq (.reg 0 c13r9) (.seq (.reg 0 c13r10) (.block 2 (.loop c13l15m [] c13l15)))))) (.reg 0 c13r16)))
def c13l17m : List Bool := [false, false, true, false, false, true, true, true, true, false, false, false, false, false, false, false, false, false, false, false, false, false, false, false, false, false, false, false, false, false, false, false, false, false, false, false, false, false, false, false, false, false, false, false, false, false, false, false, false, false, false, false, false, false, false, false, false, false, false, false, false, false, false, false, false, false, false, false, false, false, false, false, false, false, false, false, false, false, false, false, false, false, false, false, false, false, false, false, false, false, false, false, false, false, false, false, false, false, false, false, false, false, false, false, false, false, false, false, false, false, false, false, false, false, false, false, false, false, false, false, false, false, false, false, false, false, false, false, false]
def c13r18 : List AOper := [
 oP 95 (.loadO 3 true (.t 2)),
 oP 96 (.call 48 [(.t 95)]),
 oP 94 (.mov (.t 96)),
 oP 97 (.ext (.t 94) 0),
 oP 98 (.ext (.t 94) 1),
 oP 11 (.mov (.t 97)),
 oP 12 (.mov (.t 98))]
def c13r19 : List AOper := [
 oP 100 (.loadO 3 true (.t 7)),
 oP 101 (.call 48 [(.t 100)]),
 oP 99 (.mov (.t 101)),
 oP 102 (.ext (.t 99) 0),
 oP 103 (.ext (.t 99) 1),
 oP 13 (.mov (.t 102)),
 oP 14 (.mov (.t 103))]
def c13r20 : List AOper := [
 oP 104 (.mov (.t 12)),
 oP 105 (.not (.t 104)),
 oP 106 (.mov (.t 105)),
 oG 107 106 false (.mov (.t 14)),
 oG 108 106 false (.not (.t 107)),
 oP 109 (.pick (.t 106) (.c (.s (.bool true))) (.t 108))]
def c13r21 : List AOper := [
 oP 4 (.mov (.c (.s (.bool false))))]
def c13r22 : List AOper := [
 oP 15 (.mov (nI 0))]
def c13r23 : List AOper := [
 oP 110 (.mov (.t 15)),
 oP 111 (.mov (.t 5)),
 oP 112 (.cmp .lss (.t 110) (.t 111))]
def c13r24 : List AOper := [
 oP 115 (.mov (.t 11)),
 oP 116 (.mov (.t 15)),
 oP 117 (.idxA 1 (.t 115) (.t 116)),
 oP 118 (.load 1 false (.t 117)),
 oP 119 (.mov (.t 13)),
 oP 120 (.mov (.t 15)),
 oP 121 (.mov (.t 6)),
 oP 122 (.arith .add (.t 120) (.t 121)),
 oP 123 (.mov (.t 5)),
 oP 124 (.div .rem (.t 122) (.t 123)),
 oP 125 (.idxA 1 (.t 119) (.t 124)),
 oP 126 (.load 1 false (.t 125)),
 oP 127 (.cmp .neq (.t 118) (.t 126))]
def c13r25 : List AOper := [
 oP 4 (.mov (.c (.s (.bool false))))]
def c13r26 : List AOper := [
 oP 113 (.mov (.t 15)),
 oP 114 (.arith .add (.t 113) (nI 1)),
 oP 15 (.mov (.t 114))]
def c13l27 : ACode := (.seq (.seq (.reg 0 c13r23) (.cond (.t 112) .skip (.exit 4))) (.seq (.block 5 (.seq (.reg 0 c13r24) (.cond (.t 127) (.seq (.reg 0 c13r25) .ret) .skip))) (.reg 0 c13r26)))
def c13l27m : List Bool := [false, false, false, false, false, true, true, false, false, false, false, true, false, true, false, true, false, false, false, false, false, false, false, false, false, false, false, false, false, false, false, false, false, false, false, false, false, false, false, false, false, false, false, false, false, false, false, false, false, false, false, false, false, false, false, false, false, false, false, false, false, false, false, false, false, false, false, false, false, false, false, false, false, false, false, false, false, false, false, false, false, false, false, false, false, false, false, false, false, false, false, false, false, false, false, false, false, false, false, false, false, false, false, false, false, false, false, false, false, false, false, false, false, false, false, false, false, false, false, false, false, false, false, false, false, false, false, false, false]
def c13r28 : List AOper := [
 oP 128 (.call 17 []),
 oP 4 (.mov (.t 128))]
def f13 : FRow := ⟨(.seq (.reg 0 c13r0) (.seq (.seq (.reg 0 c13r1) (.cond (.t 18) (.seq (.reg 0 c13r2) .ret) .skip)) (.seq (.reg 0 c13r3) (.seq (.reg 0 c13r4) (.seq (.reg 4 c13r5) (.seq (.seq (.reg 0 c13r6) (.block 0 (.loop c13l17m [] c13l17))) (.seq (.reg 0 c13r18) (.seq (.zap 7 2 (.zap 7 1 (.zap 7 0 (.reg 0 c13r19)))) (.seq (.seq (.reg 0 c13r20) (.cond (.t 109) (.seq (.reg 0 c13r21) .ret) .skip)) (.seq (.seq (.reg 0 c13r22) (.block 4 (.loop c13l27m [] c13l27))) (.seq (.reg 0 c13r28) .ret))))))))))), [.tmp 4], 129⟩
theorem okf13 : f13.Ok Try.prog 13 := ⟨_, _, Try.func13, rfl, by kernel_rfl, by kernel_rfl, by kernel_rfl⟩


end Go.Proofs.Ytglmjdpmpgphkaa.Sk

/- SkillTurned, reckoned: at every machine and number it answers true. -/
namespace Go.Proofs.Ytglmjdpmpgphkaa.Sk
open Go Go.E Go.E.Sm
set_option maxRecDepth 10000

set_option maxHeartbeats 4000000 in
theorem law13 {pl wn : List Bool} {mv : List (List Int)} {b : Int} (hb : 0 ≤ b ∧ b < 256) : E.Fn Try.prog 13 [mach pl mv wn, .int .u8 b] [.bool true] := by
  refine fn_of_row okf13 ?_
  simp only [FRow.start, f13, c13r0, c13r1, mach, bools, ldOK, ldOB, go_sem, ↓reduceIte, reduceCtorEq, Nat.reduceAdd, Nat.reduceSub, Nat.reduceLT, Nat.reduceLeDiff]
  refine callK_of rfl (k47 (pl := pl) (mv := mv) (wn := wn)) (.inl rfl) ?_
  have wk : ∀ (H : List ABlock) (k : AK), k (LV.ofResults [.bool true]) H none True → callK Try.prog H 17 [] k := fun H k hk => callK_of rfl works_ok (.inl rfl) hk
  cases hf : (!greatB pl mv wn && decide (chkM pl mv wn = 0)) with
  | false =>
    simp only [c13r2, go_sem, ↓reduceIte, reduceCtorEq, Nat.reduceAdd, Nat.reduceSub, Nat.reduceLT, Nat.reduceLeDiff]
    refine wk _ _ ?_
    simp only [go_sem, ↓reduceIte, reduceCtorEq, Nat.reduceAdd, Nat.reduceSub, Nat.reduceLT, Nat.reduceLeDiff]
  | true =>
    simp only [Bool.and_eq_true, decide_eq_true_eq] at hf
    have hv := valid_of hf.2
    have h1 := hv.few
    have h2 := hv.pos
    obtain ⟨s, hs, hsn⟩ : ∃ s : Nat, b.tmod (mv.length : Int) = s ∧ s < mv.length := by
      have := Int.tmod_nonneg (mv.length : Int) hb.1
      have := Int.tmod_lt_of_pos b (show (0 : Int) < mv.length by omega)
      exact ⟨(b.tmod (mv.length : Int)).toNat, by omega, by omega⟩
    obtain ⟨hv2, htd⟩ := turn_dist hv hsn
    simp only [c13r3, ldOK, ldOB, go_sem, ↓reduceIte, reduceCtorEq, Nat.reduceAdd, Nat.reduceSub, Nat.reduceLT, Nat.reduceLeDiff]
    intro _
    simp only [c13r4, go_sem, ↓reduceIte, reduceCtorEq, Nat.reduceAdd, Nat.reduceSub, Nat.reduceLT, Nat.reduceLeDiff]
    refine ⟨inR_i64 (by omega) (by omega), by omega, ?_⟩
    rw [hs]
    simp only [c13r5, splice, flat_rep1, go_sem, ↓reduceIte, reduceCtorEq, Nat.reduceAdd, Nat.reduceSub, Nat.reduceLT, Nat.reduceLeDiff]
    refine ⟨by omega, by omega, by omega, by omega, by omega, by omega, ?_⟩
    have hrb : List.replicate mv.length (SV.bool false) = (List.replicate mv.length false).map SV.bool := by rw [List.map_replicate]
    have hrm : List.replicate mv.length (SV.slice []) = (List.replicate mv.length ([] : List Int)).map ints := by rw [List.map_replicate]; rfl
    rw [hrb, hrm]
    have hd1 := distW_len hv
    have hd2 := distW_len hv2
    have q1 := k48 hv
    have q2 := k48 hv2
    have hP0 := parT_0 (n := mv.length) (s := s) (f := fun k => pl.getD (back mv.length s k) false) (d := false)
    have hW0 := parT_0 (n := mv.length) (s := s) (f := fun k => wn.getD (back mv.length s k) false) (d := false)
    have hV0 := parT_0 (n := mv.length) (s := s) (f := fun k => turnL mv.length s (mv.getD (back mv.length s k) []) mv.length) (d := [])
    have hPn := turnB_eq (pl := pl) hsn
    have hWn := turnB_eq (pl := wn) hsn
    have hVn := turnM_eq (mv := mv) hsn
    have hPl := fun i => parT_len (n := mv.length) (s := s) (i := i) (f := fun k => pl.getD (back mv.length s k) false) (d := false)
    have hWl := fun i => parT_len (n := mv.length) (s := s) (i := i) (f := fun k => wn.getD (back mv.length s k) false) (d := false)
    have hVl := fun i => parT_len (n := mv.length) (s := s) (i := i) (f := fun k => turnL mv.length s (mv.getD (back mv.length s k) []) mv.length) (d := [])
    have hPs := fun i (hi : i < mv.length) => parT_succ (n := mv.length) (s := s) (i := i) (f := fun k => pl.getD (back mv.length s k) false) (d := false) hsn hi
    have hWs := fun i (hi : i < mv.length) => parT_succ (n := mv.length) (s := s) (i := i) (f := fun k => wn.getD (back mv.length s k) false) (d := false) hsn hi
    have hVs := fun i (hi : i < mv.length) => parT_succ (n := mv.length) (s := s) (i := i) (f := fun k => turnL mv.length s (mv.getD (back mv.length s k) []) mv.length) (d := []) hsn hi
    have hVe := fun i (hi : i < mv.length) => parT_same (n := mv.length) (s := s) (i := i) (f := fun k => turnL mv.length s (mv.getD (back mv.length s k) []) mv.length) (d := []) hsn hi
    generalize parT mv.length s (fun k => pl.getD (back mv.length s k) false) false = PP at *
    generalize parT mv.length s (fun k => wn.getD (back mv.length s k) false) false = WW at *
    generalize parT mv.length s (fun k => turnL mv.length s (mv.getD (back mv.length s k) []) mv.length) [] = VV at *
    rw [← hP0, ← hV0]
    have hPW : PP 0 = WW 0 := by rw [hP0, hW0]
    simp only [c13r6, go_sem, ↓reduceIte, reduceCtorEq, Nat.reduceAdd, Nat.reduceSub, Nat.reduceLT, Nat.reduceLeDiff]
    refine loop_rule (fun n τ => ∃ i : Nat, n = mv.length - i ∧ i ≤ mv.length ∧
      τ = ⟨[.any, .any, .s (.ptr [.slice (pl.map .bool), .slice (mv.map ints), .slice (wn.map .bool)]), .any, .any, .s (.int .i64 mv.length), .s (.int .i64 s), .loc 3 0, .s (.int .i64 i), .any, .any, .any, .any, .any, .any, .any, .any, .any, .any, .any, .any, .any, .any, .any, .any, .any, .any, .any, .any, .any, .any, .any, .any, .any, .any, .any, .any, .any, .any, .any, .any, .any, .any, .any, .any, .any, .any, .any, .any, .any, .any, .any, .any, .any, .any, .any, .any, .any, .any, .any, .any, .any, .any, .any, .any, .any, .any, .any, .any, .any, .any, .any, .any, .any, .any, .any, .any, .any, .any, .any, .any, .any, .any, .any, .any, .any, .any, .any, .any, .any, .any, .any, .any, .any, .any, .any, .any, .any, .any, .any, .any, .any, .any, .any, .any, .any, .any, .any, .any, .any, .any, .any, .any, .any, .any, .any, .any, .any, .any, .any, .any, .any, .any, .any, .any, .any, .any, .any, .any], [.row ((PP i).map SV.bool), .row ((WW i).map SV.bool), .row ((VV i).map ints), .obj [.sl 0 0 mv.length 1 true, .sl 2 0 mv.length 1 true, .sl 1 0 mv.length 1 true]]⟩) mv.length rfl ?_ ?_
    · simp only [c13l17m, go_sem, ↓reduceIte, reduceCtorEq, Nat.reduceAdd, Nat.reduceSub, Nat.reduceLT, Nat.reduceLeDiff]
      exact ⟨0, rfl, Nat.zero_le _, by rw [← hPW]; rfl⟩
    · rintro I n τ ⟨i, rfl, hi, rfl⟩ hI
      have hPli := hPl i
      have hWli := hWl i
      have hVli := hVl i
      generalize hPi : PP i = pp at *
      generalize hWi : WW i = ww at *
      generalize hVi : VV i = vv at *
      simp only [c13l17, c13r7, go_sem, ↓reduceIte, reduceCtorEq, Nat.reduceAdd, Nat.reduceSub, Nat.reduceLT, Nat.reduceLeDiff]
      refine ⟨fun hlt => ?_, fun hge => ?_⟩
      · have hlt' : i < mv.length := by omega
        obtain ⟨hm, hp, hw, hm2, hp2, hw2, hins⟩ := hv.at' hlt'
        have hrl := rot_lt hsn hlt'
        have hps := hPs i hlt'
        have hws := hWs i hlt'
        have hvs := hVs i hlt'
        have hve := hVe i hlt'
        rw [back_rot hsn hlt'] at hps hws hvs
        rw [hPi] at hps
        rw [hWi] at hws
        rw [hVi] at hvs hve
        simp only [c13r8, go_sem, ↓reduceIte, reduceCtorEq, Nat.reduceAdd, Nat.reduceSub, Nat.reduceLT, Nat.reduceLeDiff]
        refine ⟨inR_i64 (by omega) (by omega), by omega, ?_⟩
        rw [rot_int]
        generalize hrr : rot mv.length s i = r at *
        simp only [c13r9, ldOK, ldOB, stRK, stRB, hp, hp2, hw, hw2, go_sem, ↓reduceIte, reduceCtorEq, Nat.reduceAdd, Nat.reduceSub, Nat.reduceLT, Nat.reduceLeDiff]
        have hsp1 : splice (pp.map SV.bool) (r * 1) [SV.bool (pl.getD i false)] = (PP (i + 1)).map SV.bool := by rw [Nat.mul_one, splice_rowG (e := SV.bool) (x := pl.getD i false) (by omega), hps]
        have hsp2 : splice (ww.map SV.bool) (r * 1) [SV.bool (wn.getD i false)] = (WW (i + 1)).map SV.bool := by rw [Nat.mul_one, splice_rowG (e := SV.bool) (x := wn.getD i false) (by omega), hws]
        refine ⟨hrl, by omega, hrl, by omega, ?_⟩
        rw [hsp1, hsp2]
        generalize hl : mv.getD i [] = l at *
        simp only [c13r10, go_sem, ↓reduceIte, reduceCtorEq, Nat.reduceAdd, Nat.reduceSub, Nat.reduceLT, Nat.reduceLeDiff]
        refine loop_rule (fun n τ => ∃ k : Nat, n = mv.length - k ∧ k ≤ mv.length ∧
          τ = ⟨[.any, .any, .s (.ptr [.slice (pl.map .bool), .slice (mv.map ints), .slice (wn.map .bool)]), .any, .any, .s (.int .i64 mv.length), .s (.int .i64 s), .loc 3 0, .s (.int .i64 i), .s (.int .i64 r), .s (.int .i64 k), .any, .any, .any, .any, .any, .any, .any, .any, .any, .any, .any, .any, .any, .any, .any, .any, .any, .any, .any, .any, .any, .any, .any, .any, .any, .any, .any, .any, .any, .any, .any, .any, .any, .any, .any, .any, .any, .any, .any, .any, .any, .any, .any, .any, .any, .any, .any, .any, .any, .any, .any, .any, .any, .any, .any, .any, .any, .any, .any, .any, .any, .any, .any, .any, .any, .any, .any, .any, .any, .any, .any, .any, .any, .any, .any, .any, .any, .any, .any, .any, .any, .any, .any, .any, .any, .any, .any, .any, .any, .any, .any, .any, .any, .any, .any, .any, .any, .any, .any, .any, .any, .any, .any, .any, .any, .any, .any, .any, .any, .any, .any, .any, .any, .any, .any, .any, .any, .any], [.row ((PP (i + 1)).map SV.bool), .row ((WW (i + 1)).map SV.bool), .row ((vv.set r (turnL mv.length s l k)).map ints), .obj [.sl 0 0 mv.length 1 true, .sl 2 0 mv.length 1 true, .sl 1 0 mv.length 1 true]]⟩) mv.length rfl ?_ ?_
        · simp only [c13l15m, go_sem, ↓reduceIte, reduceCtorEq, Nat.reduceAdd, Nat.reduceSub, Nat.reduceLT, Nat.reduceLeDiff]
          exact ⟨0, rfl, Nat.zero_le _, by rw [turnL_0, hve]; rfl⟩
        · rintro I2 n τ ⟨k, rfl, hk, rfl⟩ hI2
          have hbk := back_int (n := mv.length) (s := s) (k := k) hsn
          have htl := turnL_len (n := mv.length) (s := s) (l := l) (k := k)
          have hts := turnL_succ (n := mv.length) (s := s) (l := l) (k := k)
          simp only [c13l15, c13r11, go_sem, ↓reduceIte, reduceCtorEq, Nat.reduceAdd, Nat.reduceSub, Nat.reduceLT, Nat.reduceLeDiff]
          refine ⟨fun hlt2 => ?_, fun hge2 => ?_⟩
          · have hlt2' : k < mv.length := by omega
            have hvat : (vv.set r (turnL mv.length s l k))[r]? = some (turnL mv.length s l k) := by rw [List.getElem?_set, if_pos rfl, if_pos (by omega)]
            have hvll : r < (vv.set r (turnL mv.length s l k)).length := by rw [List.length_set]; omega
            have fin : ∀ y, turnL mv.length s l (k + 1) = y → I2 ⟨[.any, .any, .s (.ptr [.slice (pl.map .bool), .slice (mv.map ints), .slice (wn.map .bool)]), .any, .any, .s (.int .i64 mv.length), .s (.int .i64 s), .loc 3 0, .s (.int .i64 i), .s (.int .i64 r), .s (.int .i64 (k + 1)), .any, .any, .any, .any, .any, .any, .any, .any, .any, .any, .any, .any, .any, .any, .any, .any, .any, .any, .any, .any, .any, .any, .any, .any, .any, .any, .any, .any, .any, .any, .any, .any, .any, .any, .any, .any, .any, .any, .any, .any, .any, .any, .any, .any, .any, .any, .any, .any, .any, .any, .any, .any, .any, .any, .any, .any, .any, .any, .any, .any, .any, .any, .any, .any, .any, .any, .any, .any, .any, .any, .any, .any, .any, .any, .any, .any, .any, .any, .any, .any, .any, .any, .any, .any, .any, .any, .any, .any, .any, .any, .any, .any, .any, .any, .any, .any, .any, .any, .any, .any, .any, .any, .any, .any, .any, .any, .any, .any, .any, .any, .any, .any, .any, .any, .any, .any, .any, .any], [.row ((PP (i + 1)).map SV.bool), .row ((WW (i + 1)).map SV.bool), .row ((vv.set r y).map ints), .obj [.sl 0 0 mv.length 1 true, .sl 2 0 mv.length 1 true, .sl 1 0 mv.length 1 true]]⟩ := fun y hy => by
              subst hy
              exact hI2 (mv.length - (k + 1)) _ (by omega) ⟨k + 1, rfl, by omega, by simp⟩
            simp only [c13r12, ldOK, ldOB, hm, hm2, ints, go_sem, ↓reduceIte, reduceCtorEq, Nat.reduceAdd, Nat.reduceSub, Nat.reduceLT, Nat.reduceLeDiff]
            refine ⟨inR_i64 (by omega) (by omega), inR_i64 (by omega) (by omega), by omega, ?_⟩
            rw [hbk]
            refine callK_of rfl (k49 (xs := l) (v := (back mv.length s k : Nat))) (.inl rfl) ?_
            generalize hT : turnL mv.length s l k = T at *
            cases hq : hasL l (back mv.length s k : Nat) with
            | false =>
              rw [hq, if_neg (by simp)] at hts
              simp only [c13r14, c13l15m, go_sem, ↓reduceIte, reduceCtorEq, Nat.reduceAdd, Nat.reduceSub, Nat.reduceLT, Nat.reduceLeDiff]
              exact ⟨inR_i64 (by omega) (by omega), fin _ hts⟩
            | true =>
              rw [hq, if_pos rfl] at hts
              cases T with
              | nil =>
                simp only [c13r13, ldOK, ldOB, Nat.mul_one, hvat, hvll, go_sem, ↓reduceIte, reduceCtorEq, Nat.reduceAdd, Nat.reduceSub, Nat.reduceLT, Nat.reduceLeDiff]
                refine ⟨by decide, by decide, rfl, by simp, hrl, rfl, ?_⟩
                simp only [ints, go_sem, ↓reduceIte, reduceCtorEq, Nat.reduceAdd, Nat.reduceSub, Nat.reduceLT, Nat.reduceLeDiff]
                refine ⟨⟨by simp, by simp, by decide, by decide, by decide⟩, by decide, by decide, rfl, one1, ⟨by simp, one1, by simp only [List.length_nil, List.length_cons]; decide, by simp only [List.length_nil, List.length_cons]; decide, by decide⟩, by simp, hrl, ?_⟩
                simp only [Nat.mul_one, Nat.zero_add, stRK, stRB, go_sem, ↓reduceIte, reduceCtorEq, Nat.reduceAdd, Nat.reduceSub, Nat.reduceLT, Nat.reduceLeDiff]
                refine ⟨by omega, ?_⟩
                have hsp : splice ((vv.set r []).map ints) r [SV.slice [SV.int .i64 (k : Int)]] = (vv.set r [(k : Int)]).map ints := by
                  rw [show SV.slice [SV.int .i64 (k : Int)] = ints [(k : Int)] from rfl, splice_rowG (e := ints) (by rw [List.length_set]; omega), List.set_set]
                rw [hsp]
                simp only [c13r14, c13l15m, go_sem, ↓reduceIte, reduceCtorEq, Nat.reduceAdd, Nat.reduceSub, Nat.reduceLT, Nat.reduceLeDiff]
                exact ⟨inR_i64 (by omega) (by omega), fin _ hts⟩
              | cons t T =>
                have hTne : (t :: T).map (SV.int .i64) ≠ [] := by simp
                generalize t :: T = T at *
                simp only [c13r13, ldOK, ldOB, Nat.mul_one, hvat, hvll, go_sem, ↓reduceIte, reduceCtorEq, Nat.reduceAdd, Nat.reduceSub, Nat.reduceLT, Nat.reduceLeDiff]
                refine ⟨by decide, by decide, rfl, by simp, hrl, rfl, ?_⟩
                simp only [ints, go_sem, ↓reduceIte, reduceCtorEq, Nat.reduceAdd, Nat.reduceSub, Nat.reduceLT, Nat.reduceLeDiff]
                refine ⟨⟨by simp, one_cells, by simp only [List.length_nil, List.length_map]; omega, by simp only [List.length_nil, List.length_map]; omega, by decide⟩, fun e => absurd e hTne, fun _ => ⟨rfl, ?_⟩⟩
                have hTl : 0 < T.length := List.length_pos_iff.2 (fun e => hTne (by rw [e]; rfl))
                simp only [flatE_ints, go_sem, ↓reduceIte, reduceCtorEq, Nat.reduceAdd, Nat.reduceSub, Nat.reduceLT, Nat.reduceLeDiff]
                refine ⟨by decide, by decide, rfl, one1, one1, by omega, by omega, by omega, hTl, by simp, _, rowOf_all (by simp), one_cells, hrl, ?_⟩
                rw [show T.map (SV.int .i64) ++ [SV.int .i64 (k : Int)] = (T ++ [(k : Int)]).map (SV.int .i64) by rw [List.map_append]; rfl]
                simp only [Nat.mul_one, Nat.zero_add, stRK, stRB, go_sem, ↓reduceIte, reduceCtorEq, Nat.reduceAdd, Nat.reduceSub, Nat.reduceLT, Nat.reduceLeDiff]
                refine ⟨by omega, ?_⟩
                have hsp : splice ((vv.set r T).map ints) r [SV.slice ((T ++ [(k : Int)]).map (SV.int .i64))] = (vv.set r (T ++ [(k : Int)])).map ints := by
                  rw [show SV.slice ((T ++ [(k : Int)]).map (SV.int .i64)) = ints (T ++ [(k : Int)]) from rfl, splice_rowG (e := ints) (by rw [List.length_set]; omega), List.set_set]
                rw [hsp]
                simp only [c13r14, c13l15m, go_sem, ↓reduceIte, reduceCtorEq, Nat.reduceAdd, Nat.reduceSub, Nat.reduceLT, Nat.reduceLeDiff]
                exact ⟨inR_i64 (by omega) (by omega), fin _ hts⟩
          · have hke : k = mv.length := by omega
            subst hke
            rw [hvs]
            simp only [c13r16, c13l17m, go_sem, ↓reduceIte, reduceCtorEq, Nat.reduceAdd, Nat.reduceSub, Nat.reduceLT, Nat.reduceLeDiff]
            exact ⟨inR_i64 (by omega) (by omega), hI (mv.length - (i + 1)) _ (by omega) ⟨i + 1, rfl, by omega, by simp⟩⟩
      · have hie : i = mv.length := by omega
        subst hie
        simp only [c13r18, ldOK, ldOB, go_sem, ↓reduceIte, reduceCtorEq, Nat.reduceAdd, Nat.reduceSub, Nat.reduceLT, Nat.reduceLeDiff]
        refine callK_of (by simp only [mach, bools, ints, go_sem, ↓reduceIte, reduceCtorEq, Nat.reduceAdd, Nat.reduceSub, Nat.reduceLT, Nat.reduceLeDiff]) q1 (.inr (by simp only [mach, bools, ints, go_sem, ↓reduceIte, reduceCtorEq, Nat.reduceAdd, Nat.reduceSub, Nat.reduceLT, Nat.reduceLeDiff])) ?_
        simp only [go_sem, ↓reduceIte, reduceCtorEq, Nat.reduceAdd, Nat.reduceSub, Nat.reduceLT, Nat.reduceLeDiff]
        have hro1 : rowOf 0 mv.length 1 (ww.map SV.bool) = some (ww.map SV.bool) := rowOf_all (by rw [List.length_map]; omega)
        have hro2 : rowOf 0 mv.length 1 (vv.map ints) = some (vv.map ints) := rowOf_all (by rw [List.length_map]; omega)
        have hro3 : rowOf 0 mv.length 1 (pp.map SV.bool) = some (pp.map SV.bool) := rowOf_all (by rw [List.length_map]; omega)
        refine ⟨_, hro1, _, hro2, _, hro3, ?_⟩
        have ep : turnB mv.length s pl = pp := by rw [← hPn, hPi]
        have ew : turnB mv.length s wn = ww := by rw [← hWn, hWi]
        have ev : turnM mv.length s mv = vv := by rw [← hVn, hVi]
        rw [ep, ew, ev] at q2
        rw [ep, ew, ev] at htd hd2
        have htd' := htd
        generalize distW pp vv ww = F at *
        generalize distW pl mv wn = D at *
        simp only [c13r19, ldOK, ldOB, go_sem, ↓reduceIte, reduceCtorEq, Nat.reduceAdd, Nat.reduceSub, Nat.reduceLT, Nat.reduceLeDiff]
        refine callK_of (by simp only [mach, bools, ints, go_sem, ↓reduceIte, reduceCtorEq, Nat.reduceAdd, Nat.reduceSub, Nat.reduceLT, Nat.reduceLeDiff]) q2 (.inr (by simp only [mach, bools, ints, go_sem, ↓reduceIte, reduceCtorEq, Nat.reduceAdd, Nat.reduceSub, Nat.reduceLT, Nat.reduceLeDiff])) ?_
        simp only [c13r20, c13r22, go_sem, ↓reduceIte, reduceCtorEq, Nat.reduceAdd, Nat.reduceSub, Nat.reduceLT, Nat.reduceLeDiff]
        refine loop_rule (fun n τ => ∃ i : Nat, n = mv.length - i ∧ i ≤ mv.length ∧
          τ = ⟨[.any, .any, .any, .any, .any, .s (.int .i64 mv.length), .s (.int .i64 s), .any, .any, .any, .any, .s (ints D), .any, .s (ints F), .any, .s (.int .i64 i), .any, .any, .any, .any, .any, .any, .any, .any, .any, .any, .any, .any, .any, .any, .any, .any, .any, .any, .any, .any, .any, .any, .any, .any, .any, .any, .any, .any, .any, .any, .any, .any, .any, .any, .any, .any, .any, .any, .any, .any, .any, .any, .any, .any, .any, .any, .any, .any, .any, .any, .any, .any, .any, .any, .any, .any, .any, .any, .any, .any, .any, .any, .any, .any, .any, .any, .any, .any, .any, .any, .any, .any, .any, .any, .any, .any, .any, .any, .any, .any, .any, .any, .any, .any, .any, .any, .any, .any, .any, .any, .any, .any, .any, .any, .any, .any, .any, .any, .any, .any, .any, .any, .any, .any, .any, .any, .any, .any, .any, .any, .any, .any, .any], [.frz (pp.map SV.bool), .frz (ww.map SV.bool), .frz (vv.map ints), .obj [.s (.slice (pp.map .bool)), .s (.slice (vv.map ints)), .s (.slice (ww.map .bool))]]⟩) mv.length rfl ?_ ?_
        · simp only [c13l27m, go_sem, ↓reduceIte, reduceCtorEq, Nat.reduceAdd, Nat.reduceSub, Nat.reduceLT, Nat.reduceLeDiff]
          exact ⟨0, rfl, Nat.zero_le _, rfl⟩
        · rintro I n τ ⟨i, rfl, hi, rfl⟩ hI
          simp only [c13l27, c13r23, go_sem, ↓reduceIte, reduceCtorEq, Nat.reduceAdd, Nat.reduceSub, Nat.reduceLT, Nat.reduceLeDiff]
          refine ⟨fun hlt => ?_, fun hge => ?_⟩
          · have hlt' : i < mv.length := by omega
            have hd := getI_nat (W := D) (i := i) (by omega)
            have hdl : i < D.length := by omega
            have hrl := rot_lt hsn hlt'
            have hfd := getI_nat (W := F) (i := rot mv.length s i) (by omega)
            have hfl : rot mv.length s i < F.length := by omega
            have he := htd i hlt'
            rw [he] at hfd
            have hri : ((i : Int) + s).tmod mv.length = (rot mv.length s i : Nat) := rot_int
            generalize hrr : rot mv.length s i = r at *
            simp only [c13r24, hd, hdl, ints, go_sem, ↓reduceIte, reduceCtorEq, Nat.reduceAdd, Nat.reduceSub, Nat.reduceLT, Nat.reduceLeDiff]
            refine ⟨inR_i64 (by omega) (by omega), by omega, by rw [hri]; omega, ?_⟩
            rw [hri]
            simp only [Int.toNat_natCast, hfd, hfl, c13r26, c13l27m, go_sem, ↓reduceIte, reduceCtorEq, Nat.reduceAdd, Nat.reduceSub, Nat.reduceLT, Nat.reduceLeDiff]
            exact ⟨inR_i64 (by omega) (by omega), hI (mv.length - (i + 1)) _ (by omega) ⟨i + 1, rfl, by omega, by simp [ints]⟩⟩
          · simp only [c13r28, go_sem, ↓reduceIte, reduceCtorEq, Nat.reduceAdd, Nat.reduceSub, Nat.reduceLT, Nat.reduceLeDiff]
            refine wk _ _ ?_
            simp only [go_sem, ↓reduceIte, reduceCtorEq, Nat.reduceAdd, Nat.reduceSub, Nat.reduceLT, Nat.reduceLeDiff]
end Go.Proofs.Ytglmjdpmpgphkaa.Sk
