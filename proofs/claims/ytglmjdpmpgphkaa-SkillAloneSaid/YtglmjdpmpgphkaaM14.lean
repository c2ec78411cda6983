/- The code of a law in the value semantics. -/
import Derived.Test.YtglmjdpmpgphkaaM13

set_option linter.all false

namespace Go.Proofs.Ytglmjdpmpgphkaa.Sk
open Go Go.E

def c14r0 : List AOper := [
 oP 1 (.boxS (.t 0)),
 oP 2 (.mov (.c (.s (.bool false))))]
def c14r1 : List AOper := [
 oP 17 (.load 3 true (.t 1)),
 oP 18 (.call 47 [(.t 17)]),
 oP 19 (.not (.t 18))]
def c14r2 : List AOper := [
 oP 20 (.call 17 []),
 oP 2 (.mov (.t 20))]
def c14r3 : List AOper := [
 oP 21 (.fieldAddr 1 (.t 1)),
 oP 22 (.load 1 false (.t 21)),
 oP 23 (.len false (.t 22)),
 oP 3 (.mov (.t 23))]
def c14r4 : List AOper := [
 oP 24 (.mov (.t 3)),
 oP 25 (.mkslice 1 1 [(.bool false)] (.t 24) (.t 24)),
 oP 26 (.fieldAddr 2 (.t 1)),
 oP 27 (.load 1 false (.t 26)),
 oP 28 (.fieldAddr 1 (.t 1)),
 oP 29 (.load 1 false (.t 28)),
 oP 30 (.build [(.full []), (.full []), (.full [])] [(0, 1, (.t 25)), (2, 1, (.t 27)), (1, 1, (.t 29))]),
 oP 4 (.alloc [(.full []), (.full []), (.full [])]),
 ⟨none, none, .store 3 (.t 4) (.t 30)⟩]
def c14r5 : List AOper := [
 oP 31 (.mov (.t 3)),
 oP 32 (.mkslice 1 1 [(.bool false)] (.t 31) (.t 31)),
 oP 33 (.fieldAddr 2 (.t 1)),
 oP 34 (.load 1 false (.t 33)),
 oP 35 (.fieldAddr 1 (.t 1)),
 oP 36 (.load 1 false (.t 35)),
 oP 37 (.build [(.full []), (.full []), (.full [])] [(0, 1, (.t 32)), (2, 1, (.t 34)), (1, 1, (.t 36))]),
 oP 5 (.alloc [(.full []), (.full []), (.full [])]),
 ⟨none, none, .store 3 (.t 5) (.t 37)⟩]
def c14r6 : List AOper := [
 oP 6 (.mov (nI 0))]
def c14r7 : List AOper := [
 oP 38 (.mov (.t 6)),
 oP 39 (.mov (.t 3)),
 oP 40 (.cmp .lss (.t 38) (.t 39))]
def c14r8 : List AOper := [
 oP 43 (.fieldAddr 0 (.t 5)),
 oP 44 (.load 1 false (.t 43)),
 oP 45 (.mov (.t 6)),
 oP 46 (.idxA 1 (.t 44) (.t 45)),
 ⟨none, none, .store 1 (.t 46) (.c (.s (.bool true)))⟩]
def c14r9 : List AOper := [
 oP 41 (.mov (.t 6)),
 oP 42 (.arith .add (.t 41) (nI 1)),
 oP 6 (.mov (.t 42))]
def c14l10 : ACode := (.seq (.seq (.reg 0 c14r7) (.cond (.t 40) .skip (.exit 0))) (.seq (.block 1 (.reg 0 c14r8)) (.reg 0 c14r9)))
def c14l10m : List Bool := [false, true, false, true, true, true, true, false, false, false, false, false, false, false, false, false, false, false, false, false, false, false, false, false, false, false, false, false, false, false, false, false, false, false, false, false, false, false, false, false, false, false, false, false, false, false, false, false, false, false, false, false, false, false, false, false, false, false, false, false, false, false, false, false, false, false, false, false, false, false, false, false, false, false, false, false, false, false, false, false, false, false, false, false, false, false, false, false, false, false, false, false, false, false, false, false, false, false, false, false, false, false, false, false, false, false, false, false, false, false, false, false, false, false, false, false, false, false, false, false, false, false, false, false, false, false, false, false, false, false, false, false, false, false, false, false, false, false, false, false, false, false, false, false, false, false, false, false, false, false, false, false, false, false, false, false, false, false, false, false, false, false, false, false, false, false, false, false, false, false, false, false, false, false, false, false, false, false, false, false, false, false, false, false, false]
def c14r11 : List AOper := [
 oP 48 (.load 3 true (.t 5)),
 oP 49 (.call 48 [(.t 48)]),
 oP 47 (.mov (.t 49)),
 oP 50 (.ext (.t 47) 0),
 oP 51 (.ext (.t 47) 1),
 oP 7 (.mov (.t 50)),
 oP 8 (.mov (.t 51))]
def c14r12 : List AOper := [
 oP 53 (.load 3 true (.t 4)),
 oP 54 (.call 48 [(.t 53)]),
 oP 52 (.mov (.t 54)),
 oP 55 (.ext (.t 52) 0),
 oP 56 (.ext (.t 52) 1),
 oP 9 (.mov (.t 55)),
 oP 10 (.mov (.t 56))]
def c14r13 : List AOper := [
 oP 57 (.mov (.t 8)),
 oP 58 (.not (.t 57)),
 oP 59 (.mov (.t 58)),
 oG 60 59 false (.mov (.t 10)),
 oG 61 59 false (.not (.t 60)),
 oP 62 (.pick (.t 59) (.c (.s (.bool true))) (.t 61)),
 oP 63 (.mov (.t 62)),
 oG 64 63 false (.mov (.t 9)),
 oG 65 63 false (.mov (.t 7)),
 oG 66 63 false (.call 52 [(.t 64), (.t 65)]),
 oG 67 63 false (.not (.t 66)),
 oP 68 (.pick (.t 63) (.c (.s (.bool true))) (.t 67))]
def c14r14 : List AOper := [
 oP 2 (.mov (.c (.s (.bool false))))]
def c14r15 : List AOper := [
 oP 11 (.mov (nI 0))]
def c14r16 : List AOper := [
 oP 69 (.mov (.t 11)),
 oP 70 (.mov (.t 3)),
 oP 71 (.cmp .lss (.t 69) (.t 70))]
def c14r17 : List AOper := [
 oP 74 (.fieldAddr 1 (.t 1)),
 oP 75 (.load 1 false (.t 74)),
 oP 76 (.mov (.t 11)),
 oP 77 (.idxA 1 (.t 75) (.t 76)),
 oP 78 (.load 1 false (.t 77)),
 oP 79 (.len false (.t 78)),
 oP 80 (.cmp .eql (.t 79) (nI 0)),
 oP 12 (.mov (nI (-1))),
 oP 13 (.mov (nI (-1))),
 oP 14 (.mov (.t 80))]
def c14r18 : List AOper := [
 oP 15 (.mov (nI 0))]
def c14r19 : List AOper := [
 oP 81 (.mov (.t 15)),
 oP 82 (.fieldAddr 1 (.t 1)),
 oP 83 (.load 1 false (.t 82)),
 oP 84 (.mov (.t 11)),
 oP 85 (.idxA 1 (.t 83) (.t 84)),
 oP 86 (.load 1 false (.t 85)),
 oP 87 (.len false (.t 86)),
 oP 88 (.cmp .lss (.t 81) (.t 87))]
def c14r20 : List AOper := [
 oP 91 (.fieldAddr 1 (.t 1)),
 oP 92 (.load 1 false (.t 91)),
 oP 93 (.mov (.t 11)),
 oP 94 (.idxA 1 (.t 92) (.t 93)),
 oP 95 (.load 1 false (.t 94)),
 oP 96 (.mov (.t 15)),
 oP 97 (.idxA 1 (.t 95) (.t 96)),
 oP 98 (.load 1 false (.t 97)),
 oP 16 (.mov (.t 98))]
def c14r21 : List AOper := [
 oP 99 (.mov (.t 7)),
 oP 100 (.mov (.t 16)),
 oP 101 (.idxA 1 (.t 99) (.t 100)),
 oP 102 (.load 1 false (.t 101)),
 oP 103 (.cmp .geq (.t 102) (nI 0)),
 oP 104 (.mov (.t 103)),
 oG 105 104 true (.mov (.t 12)),
 oG 106 104 true (.cmp .lss (.t 105) (nI 0)),
 oG 107 104 true (.mov (.t 106)),
 oG 108 107 false (.mov (.t 7)),
 oG 109 107 false (.mov (.t 16)),
 oG 110 107 false (.idxA 1 (.t 108) (.t 109)),
 oG 111 107 false (.load 1 false (.t 110)),
 oG 112 107 false (.mov (.t 12)),
 oG 113 107 false (.cmp .lss (.t 111) (.t 112)),
 oG 114 104 true (.pick (.t 107) (.c (.s (.bool true))) (.t 113)),
 oP 115 (.pick (.t 104) (.t 114) (.c (.s (.bool false))))]
def c14r22 : List AOper := [
 oP 116 (.mov (.t 7)),
 oP 117 (.mov (.t 16)),
 oP 118 (.idxA 1 (.t 116) (.t 117)),
 oP 119 (.load 1 false (.t 118)),
 oP 12 (.mov (.t 119))]
def c14r23 : List AOper := [
 oP 120 (.mov (.t 14)),
 oP 121 (.mov (.t 120)),
 oG 122 121 false (.mov (.t 9)),
 oG 123 121 false (.mov (.t 16)),
 oG 124 121 false (.idxA 1 (.t 122) (.t 123)),
 oG 125 121 false (.load 1 false (.t 124)),
 oG 126 121 false (.cmp .lss (.t 125) (nI 0)),
 oP 127 (.pick (.t 121) (.c (.s (.bool true))) (.t 126)),
 oP 14 (.mov (.t 127))]
def c14r24 : List AOper := [
 oP 128 (.mov (.t 13)),
 oP 129 (.mov (.t 9)),
 oP 130 (.mov (.t 16)),
 oP 131 (.idxA 1 (.t 129) (.t 130)),
 oP 132 (.load 1 false (.t 131)),
 oP 133 (.max [(.t 128), (.t 132)]),
 oP 13 (.mov (.t 133))]
def c14r25 : List AOper := [
 oP 89 (.mov (.t 15)),
 oP 90 (.arith .add (.t 89) (nI 1)),
 oP 15 (.mov (.t 90))]
def c14l26 : ACode := (.seq (.seq (.reg 0 c14r19) (.cond (.t 88) .skip (.exit 4))) (.seq (.block 5 (.seq (.reg 0 c14r20) (.seq (.seq (.reg 0 c14r21) (.cond (.t 115) (.reg 0 c14r22) .skip)) (.seq (.reg 0 c14r23) (.reg 0 c14r24))))) (.reg 0 c14r25)))
def c14l26m : List Bool := [false, true, false, true, false, false, false, true, false, true, false, true, true, true, true, true, false, false, false, false, false, false, false, false, false, false, false, false, false, false, false, false, false, false, false, false, false, false, false, false, false, false, false, false, false, false, false, false, false, false, false, false, false, false, false, false, false, false, false, false, false, false, false, false, false, false, false, false, false, false, false, false, false, false, false, false, false, false, false, false, false, false, false, false, false, false, false, false, false, false, false, false, false, false, false, false, false, false, false, false, false, false, false, false, false, false, false, false, false, false, false, false, false, false, false, false, false, false, false, false, false, false, false, false, false, false, false, false, false, false, false, false, false, false, false, false, false, false, false, false, false, false, false, false, false, false, false, false, false, false, false, false, false, false, false, false, false, false, false, false, false, false, false, false, false, false, false, false, false, false, false, false, false, false, false, false, false, false, false, false, false, false, false, false, false]
def c14r27 : List AOper := [
 oP 134 (.fieldAddr 2 (.t 1)),
 oP 135 (.load 1 false (.t 134)),
 oP 136 (.mov (.t 11)),
 oP 137 (.idxA 1 (.t 135) (.t 136)),
 oP 138 (.load 1 false (.t 137))]
def c14r28 : List AOper := [
 oP 139 (.mov (.t 12)),
 oP 140 (.cmp .lss (.t 139) (nI 0)),
 oP 141 (.mov (.t 140)),
 oG 142 141 true (.mov (.t 7)),
 oG 143 141 true (.mov (.t 11)),
 oG 144 141 true (.idxA 1 (.t 142) (.t 143)),
 oG 145 141 true (.load 1 false (.t 144)),
 oG 146 141 true (.cmp .neq (.t 145) (nI (-1))),
 oP 147 (.pick (.t 141) (.t 146) (.c (.s (.bool false)))),
 oP 148 (.mov (.t 147)),
 oG 149 148 false (.mov (.t 12)),
 oG 150 148 false (.cmp .geq (.t 149) (nI 0)),
 oG 151 148 false (.mov (.t 150)),
 oG 152 151 true (.mov (.t 7)),
 oG 153 151 true (.mov (.t 11)),
 oG 154 151 true (.idxA 1 (.t 152) (.t 153)),
 oG 155 151 true (.load 1 false (.t 154)),
 oG 156 151 true (.mov (.t 12)),
 oG 157 151 true (.arith .add (.t 156) (nI 1)),
 oG 158 151 true (.cmp .neq (.t 155) (.t 157)),
 oG 159 148 false (.pick (.t 151) (.t 158) (.c (.s (.bool false)))),
 oP 160 (.pick (.t 148) (.c (.s (.bool true))) (.t 159)),
 oP 161 (.mov (.t 160)),
 oG 162 161 false (.mov (.t 14)),
 oG 163 161 false (.mov (.t 162)),
 oG 164 163 true (.mov (.t 9)),
 oG 165 163 true (.mov (.t 11)),
 oG 166 163 true (.idxA 1 (.t 164) (.t 165)),
 oG 167 163 true (.load 1 false (.t 166)),
 oG 168 163 true (.cmp .neq (.t 167) (nI (-1))),
 oG 169 161 false (.pick (.t 163) (.t 168) (.c (.s (.bool false)))),
 oP 170 (.pick (.t 161) (.c (.s (.bool true))) (.t 169)),
 oP 171 (.mov (.t 170)),
 oG 172 171 false (.mov (.t 14)),
 oG 173 171 false (.not (.t 172)),
 oG 174 171 false (.mov (.t 173)),
 oG 175 174 true (.mov (.t 9)),
 oG 176 174 true (.mov (.t 11)),
 oG 177 174 true (.idxA 1 (.t 175) (.t 176)),
 oG 178 174 true (.load 1 false (.t 177)),
 oG 179 174 true (.mov (.t 13)),
 oG 180 174 true (.arith .add (.t 179) (nI 1)),
 oG 181 174 true (.cmp .neq (.t 178) (.t 180)),
 oG 182 171 false (.pick (.t 174) (.t 181) (.c (.s (.bool false)))),
 oP 183 (.pick (.t 171) (.c (.s (.bool true))) (.t 182))]
def c14r29 : List AOper := [
 oP 2 (.mov (.c (.s (.bool false))))]
def c14r30 : List AOper := [
 oP 72 (.mov (.t 11)),
 oP 73 (.arith .add (.t 72) (nI 1)),
 oP 11 (.mov (.t 73))]
def c14l31 : ACode := (.seq (.seq (.reg 0 c14r16) (.cond (.t 71) .skip (.exit 2))) (.seq (.block 3 (.seq (.reg 0 c14r17) (.seq (.seq (.reg 0 c14r18) (.block 4 (.loop c14l26m [] c14l26))) (.seq (.seq (.reg 0 c14r27) (.cond (.t 138) (.exit 3) .skip)) (.seq (.reg 0 c14r28) (.cond (.t 183) (.seq (.reg 0 c14r29) .ret) .skip)))))) (.reg 0 c14r30)))
def c14l31m : List Bool := [false, true, false, true, false, false, false, true, false, true, false, true, false, false, false, false, false, false, false, false, false, false, false, false, false, false, false, false, false, false, false, false, false, false, false, false, false, false, false, false, false, false, false, false, false, false, false, false, false, false, false, false, false, false, false, false, false, false, false, false, false, false, false, false, false, false, false, false, false, false, false, false, false, false, false, false, false, false, false, false, false, false, false, false, false, false, false, false, false, false, false, false, false, false, false, false, false, false, false, false, false, false, false, false, false, false, false, false, false, false, false, false, false, false, false, false, false, false, false, false, false, false, false, false, false, false, false, false, false, false, false, false, false, false, false, false, false, false, false, false, false, false, false, false, false, false, false, false, false, false, false, false, false, false, false, false, false, false, false, false, false, false, false, false, false, false, false, false, false, false, false, false, false, false, false, false, false, false, false, false, false, false, false, false, false]
def c14r32 : List AOper := [
 oP 184 (.call 17 []),
 oP 2 (.mov (.t 184))]
def f14 : FRow := ⟨(.seq (.reg 0 c14r0) (.seq (.seq (.reg 0 c14r1) (.cond (.t 19) (.seq (.reg 0 c14r2) .ret) .skip)) (.seq (.reg 0 c14r3) (.seq (.reg 2 c14r4) (.seq (.reg 2 c14r5) (.seq (.seq (.reg 0 c14r6) (.block 0 (.loop c14l10m [] c14l10))) (.seq (.zap 5 0 (.reg 0 c14r11)) (.seq (.zap 4 0 (.reg 0 c14r12)) (.seq (.seq (.reg 0 c14r13) (.cond (.t 68) (.seq (.reg 0 c14r14) .ret) .skip)) (.seq (.seq (.reg 0 c14r15) (.block 2 (.loop c14l31m [] c14l31))) (.seq (.reg 0 c14r32) .ret))))))))))), [.tmp 2], 185⟩
theorem okf14 : f14.Ok Try.prog 14 := ⟨_, _, Try.func14, rfl, by kernel_rfl, by kernel_rfl, by kernel_rfl⟩


end Go.Proofs.Ytglmjdpmpgphkaa.Sk

/- SkillAlone, reckoned: at every machine it answers true. -/
namespace Go.Proofs.Ytglmjdpmpgphkaa.Sk
open Go Go.E Go.E.Sm
set_option maxRecDepth 10000

theorem rep_all {n : Nat} {b : Bool} : List.replicate n (SV.bool b) = (allP n b).map SV.bool := by
  unfold allP
  apply List.ext_getElem?
  intro i
  by_cases hi : i < n
  · rw [List.getElem?_replicate, if_pos hi, List.getElem?_map, List.getElem?_map, List.getElem?_range hi]; rfl
  · rw [List.getElem?_eq_none (by simp; omega), List.getElem?_eq_none (by simp; omega)]

set_option maxHeartbeats 4000000 in
theorem law14 {pl wn : List Bool} {mv : List (List Int)} : E.Fn Try.prog 14 [mach pl mv wn] [.bool true] := by
  refine fn_of_row okf14 ?_
  simp only [FRow.start, f14, c14r0, c14r1, mach, bools, ints, go_sem, ↓reduceIte, reduceCtorEq, Nat.reduceAdd, Nat.reduceSub, Nat.reduceLT, Nat.reduceLeDiff]
  refine callK_of rfl (k47 (pl := pl) (mv := mv) (wn := wn)) (.inl rfl) ?_
  have wk : ∀ (H : List ABlock) (k : AK), k (LV.ofResults [.bool true]) H none True → callK Try.prog H 17 [] k := fun H k hk => callK_of rfl works_ok (.inl rfl) hk
  cases hf : (!greatB pl mv wn && decide (chkM pl mv wn = 0)) with
  | false =>
    simp only [c14r2, go_sem, ↓reduceIte, reduceCtorEq, Nat.reduceAdd, Nat.reduceSub, Nat.reduceLT, Nat.reduceLeDiff]
    refine wk _ _ ?_
    simp only [go_sem, ↓reduceIte, reduceCtorEq, Nat.reduceAdd, Nat.reduceSub, Nat.reduceLT, Nat.reduceLeDiff]
  | true =>
    simp only [Bool.and_eq_true, decide_eq_true_eq] at hf
    have hv := valid_of hf.2
    have h1 := hv.few
    have h2 := hv.pos
    simp only [c14r3, go_sem, ↓reduceIte, reduceCtorEq, Nat.reduceAdd, Nat.reduceSub, Nat.reduceLT, Nat.reduceLeDiff]
    intro _
    simp only [c14r4, splice, flat_rep1, go_sem, ↓reduceIte, reduceCtorEq, Nat.reduceAdd, Nat.reduceSub, Nat.reduceLT, Nat.reduceLeDiff]
    refine ⟨by omega, by omega, ?_⟩
    simp only [c14r5, splice, flat_rep1, go_sem, ↓reduceIte, reduceCtorEq, Nat.reduceAdd, Nat.reduceSub, Nat.reduceLT, Nat.reduceLeDiff]
    refine ⟨by omega, by omega, ?_⟩
    simp only [rep_all]
    have hmg0 := midG_0 (v := fun _ => true) (u := fun _ => false) (n := mv.length)
    have hmgn := midG_n (v := fun _ => true) (u := fun _ => false) (n := mv.length)
    have hms := fun i => midG_succ (v := fun _ => true) (u := fun _ => false) (n := mv.length) (i := i)
    have hml := fun i => midG_len (v := fun _ => true) (u := fun _ => false) (n := mv.length) (i := i)
    have ha0 : (List.range mv.length).map (fun _ => false) = allP mv.length false := rfl
    have ha1 : (List.range mv.length).map (fun _ => true) = allP mv.length true := rfl
    have hv0 := hv.all false
    have hv1 := hv.all true
    have hl0 := allP_len (n := mv.length) (b := false)
    have hl1 := allP_len (n := mv.length) (b := true)
    have hd0 := distW_len hv0
    have hd1 := distW_len hv1
    have hnear := alone_near hv
    have hall := fun i hi hw m hm => alone_all hv (i := i) hi hw (m := m) hm
    have hone := fun i hi hw m hm => alone_one hv (i := i) hi hw (m := m) hm
    have hk1 := k48 hv1
    have hk0 := k48 hv0
    rw [ha0] at hmg0
    rw [ha1] at hmgn
    generalize allP mv.length false = PF at *
    generalize allP mv.length true = PT at *
    have hr1 : ∀ k, -1 ≤ getI (distW PT mv wn) k ∧ getI (distW PT mv wn) k ≤ mv.length := fun k => distW_rng' k
    have hr0 : ∀ k, -1 ≤ getI (distW PF mv wn) k ∧ getI (distW PF mv wn) k ≤ mv.length := fun k => distW_rng' k
    generalize distW PT mv wn = D at *
    generalize distW PF mv wn = F at *
    generalize midG (fun _ : Nat => true) (fun _ => false) mv.length = G at *
    simp only [c14r6, go_sem, ↓reduceIte, reduceCtorEq, Nat.reduceAdd, Nat.reduceSub, Nat.reduceLT, Nat.reduceLeDiff]
    refine loop_rule (fun n τ => ∃ i : Nat, n = mv.length - i ∧ i ≤ mv.length ∧
      τ = ⟨[.any, .s (.ptr [.slice (pl.map .bool), .slice (mv.map ints), .slice (wn.map .bool)]), .any, .s (.int .i64 mv.length), .loc 1 0, .loc 3 0, .s (.int .i64 i), .any, .any, .any, .any, .any, .any, .any, .any, .any, .any, .any, .any, .any, .any, .any, .any, .any, .any, .any, .any, .any, .any, .any, .any, .any, .any, .any, .any, .any, .any, .any, .any, .any, .any, .any, .any, .any, .any, .any, .any, .any, .any, .any, .any, .any, .any, .any, .any, .any, .any, .any, .any, .any, .any, .any, .any, .any, .any, .any, .any, .any, .any, .any, .any, .any, .any, .any, .any, .any, .any, .any, .any, .any, .any, .any, .any, .any, .any, .any, .any, .any, .any, .any, .any, .any, .any, .any, .any, .any, .any, .any, .any, .any, .any, .any, .any, .any, .any, .any, .any, .any, .any, .any, .any, .any, .any, .any, .any, .any, .any, .any, .any, .any, .any, .any, .any, .any, .any, .any, .any, .any, .any, .any, .any, .any, .any, .any, .any, .any, .any, .any, .any, .any, .any, .any, .any, .any, .any, .any, .any, .any, .any, .any, .any, .any, .any, .any, .any, .any, .any, .any, .any, .any, .any, .any, .any, .any, .any, .any, .any, .any, .any, .any, .any, .any, .any, .any, .any, .any, .any, .any, .any, .any, .any, .any, .any, .any, .any], [.row (PF.map SV.bool), .obj [.sl 0 0 mv.length 1 true, .s (.slice (mv.map ints)), .s (.slice (wn.map .bool))], .row ((G i).map SV.bool), .obj [.sl 2 0 mv.length 1 true, .s (.slice (mv.map ints)), .s (.slice (wn.map .bool))]]⟩) mv.length rfl ?_ ?_
    · simp only [c14l10m, go_sem, ↓reduceIte, reduceCtorEq, Nat.reduceAdd, Nat.reduceSub, Nat.reduceLT, Nat.reduceLeDiff]
      exact ⟨0, rfl, Nat.zero_le _, by rw [hmg0]; simp⟩
    · rintro I n τ ⟨i, rfl, hi, rfl⟩ hI
      have hmsi := hms i
      have hmli := hml i
      generalize hG : G i = g at *
      simp only [c14l10, c14r7, go_sem, ↓reduceIte, reduceCtorEq, Nat.reduceAdd, Nat.reduceSub, Nat.reduceLT, Nat.reduceLeDiff]
      refine ⟨fun hlt => ?_, fun hge => ?_⟩
      · have hlt' : i < mv.length := by omega
        have hsp := splice_rowG (e := SV.bool) (F := g) (i := i) (x := true) (by omega)
        simp only [c14r8, Nat.mul_one, Nat.zero_add, go_sem, ↓reduceIte, reduceCtorEq, Nat.reduceAdd, Nat.reduceSub, Nat.reduceLT, Nat.reduceLeDiff]
        refine ⟨hlt', by omega, ?_⟩
        rw [hsp, hmsi]
        simp only [c14r9, c14l10m, go_sem, ↓reduceIte, reduceCtorEq, Nat.reduceAdd, Nat.reduceSub, Nat.reduceLT, Nat.reduceLeDiff]
        exact ⟨inR_i64 (by omega) (by omega), hI (mv.length - (i + 1)) _ (by omega) ⟨i + 1, rfl, by omega, by simp⟩⟩
      · have hie : i = mv.length := by omega
        subst hie
        have hgp : g = PT := by rw [← hG, hmgn]
        subst hgp
        have hro1 : rowOf 0 mv.length 1 (g.map SV.bool) = some (g.map SV.bool) := rowOf_all (by simp [hl1])
        have hro0 : rowOf 0 mv.length 1 (PF.map SV.bool) = some (PF.map SV.bool) := rowOf_all (by simp [hl0])
        refine ⟨_, hro1, ?_⟩
        simp only [c14r11, go_sem, ↓reduceIte, reduceCtorEq, Nat.reduceAdd, Nat.reduceSub, Nat.reduceLT, Nat.reduceLeDiff]
        refine callK_of rfl hk1 (.inr rfl) ?_
        simp only [go_sem, ↓reduceIte, reduceCtorEq, Nat.reduceAdd, Nat.reduceSub, Nat.reduceLT, Nat.reduceLeDiff]
        refine ⟨_, hro0, ?_⟩
        simp only [c14r12, go_sem, ↓reduceIte, reduceCtorEq, Nat.reduceAdd, Nat.reduceSub, Nat.reduceLT, Nat.reduceLeDiff]
        refine callK_of rfl hk0 (.inr rfl) ?_
        simp only [c14r13, ints, go_sem, ↓reduceIte, reduceCtorEq, Nat.reduceAdd, Nat.reduceSub, Nat.reduceLT, Nat.reduceLeDiff]
        refine callK_of rfl (k52 (a := F) (b := D) (by omega)) (.inl rfl) ?_
        rw [hnear]
        simp only [c14r15, go_sem, ↓reduceIte, reduceCtorEq, Nat.reduceAdd, Nat.reduceSub, Nat.reduceLT, Nat.reduceLeDiff]
        refine loop_rule (fun n τ => ∃ i : Nat, n = mv.length - i ∧ i ≤ mv.length ∧
          τ = ⟨[.any, .s (.ptr [.slice (pl.map .bool), .slice (mv.map ints), .slice (wn.map .bool)]), .any, .s (.int .i64 mv.length), .any, .any, .any, .s (.slice (D.map (.int .i64))), .any, .s (.slice (F.map (.int .i64))), .any, .s (.int .i64 i), .any, .any, .any, .any, .any, .any, .any, .any, .any, .any, .any, .any, .any, .any, .any, .any, .any, .any, .any, .any, .any, .any, .any, .any, .any, .any, .any, .any, .any, .any, .any, .any, .any, .any, .any, .any, .any, .any, .any, .any, .any, .any, .any, .any, .any, .any, .any, .any, .any, .any, .any, .any, .any, .any, .any, .any, .any, .any, .any, .any, .any, .any, .any, .any, .any, .any, .any, .any, .any, .any, .any, .any, .any, .any, .any, .any, .any, .any, .any, .any, .any, .any, .any, .any, .any, .any, .any, .any, .any, .any, .any, .any, .any, .any, .any, .any, .any, .any, .any, .any, .any, .any, .any, .any, .any, .any, .any, .any, .any, .any, .any, .any, .any, .any, .any, .any, .any, .any, .any, .any, .any, .any, .any, .any, .any, .any, .any, .any, .any, .any, .any, .any, .any, .any, .any, .any, .any, .any, .any, .any, .any, .any, .any, .any, .any, .any, .any, .any, .any, .any, .any, .any, .any, .any, .any, .any, .any, .any, .any, .any, .any, .any, .any, .any, .any, .any, .any, .any, .any, .any, .any, .any, .any], [.frz (PF.map SV.bool), .obj [.s (.slice (PF.map .bool)), .s (.slice (mv.map ints)), .s (.slice (wn.map .bool))], .frz (g.map SV.bool), .obj [.s (.slice (g.map .bool)), .s (.slice (mv.map ints)), .s (.slice (wn.map .bool))]]⟩) mv.length rfl ?_ ?_
        · simp only [c14l31m, go_sem, ↓reduceIte, reduceCtorEq, Nat.reduceAdd, Nat.reduceSub, Nat.reduceLT, Nat.reduceLeDiff]
          exact ⟨0, rfl, Nat.zero_le _, rfl⟩
        · rintro I n τ ⟨i, rfl, hi, rfl⟩ hI
          simp only [c14l31, c14r16, go_sem, ↓reduceIte, reduceCtorEq, Nat.reduceAdd, Nat.reduceSub, Nat.reduceLT, Nat.reduceLeDiff]
          refine ⟨fun hlt => ?_, fun hge => ?_⟩
          · have hlt' : i < mv.length := by omega
            obtain ⟨hm, hp, hw, hm2, hp2, hw2, hins⟩ := hv.at' hlt'
            have hris := hv.ris _ (List.mem_of_getElem? hm)
            have hrl := rise_len _ 0 hris (by omega)
            have hx := getI_nat (W := D) (i := i) (by omega)
            have hx2 : i < D.length := by omega
            have hy := getI_nat (W := F) (i := i) (by omega)
            have hy2 : i < F.length := by omega
            have ha := hall i hlt'
            have ho := hone i hlt'
            have hd1i := hr1 i
            have hd0i := hr0 i
            have fin : I ⟨[.any, .s (.ptr [.slice (pl.map .bool), .slice (mv.map ints), .slice (wn.map .bool)]), .any, .s (.int .i64 mv.length), .any, .any, .any, .s (.slice (D.map (.int .i64))), .any, .s (.slice (F.map (.int .i64))), .any, .s (.int .i64 (i + 1)), .any, .any, .any, .any, .any, .any, .any, .any, .any, .any, .any, .any, .any, .any, .any, .any, .any, .any, .any, .any, .any, .any, .any, .any, .any, .any, .any, .any, .any, .any, .any, .any, .any, .any, .any, .any, .any, .any, .any, .any, .any, .any, .any, .any, .any, .any, .any, .any, .any, .any, .any, .any, .any, .any, .any, .any, .any, .any, .any, .any, .any, .any, .any, .any, .any, .any, .any, .any, .any, .any, .any, .any, .any, .any, .any, .any, .any, .any, .any, .any, .any, .any, .any, .any, .any, .any, .any, .any, .any, .any, .any, .any, .any, .any, .any, .any, .any, .any, .any, .any, .any, .any, .any, .any, .any, .any, .any, .any, .any, .any, .any, .any, .any, .any, .any, .any, .any, .any, .any, .any, .any, .any, .any, .any, .any, .any, .any, .any, .any, .any, .any, .any, .any, .any, .any, .any, .any, .any, .any, .any, .any, .any, .any, .any, .any, .any, .any, .any, .any, .any, .any, .any, .any, .any, .any, .any, .any, .any, .any, .any, .any, .any, .any, .any, .any, .any, .any, .any, .any, .any, .any, .any, .any], [.frz (PF.map SV.bool), .obj [.s (.slice (PF.map .bool)), .s (.slice (mv.map ints)), .s (.slice (wn.map .bool))], .frz (g.map SV.bool), .obj [.s (.slice (g.map .bool)), .s (.slice (mv.map ints)), .s (.slice (wn.map .bool))]]⟩ := hI (mv.length - (i + 1)) _ (by omega) ⟨i + 1, rfl, by omega, by simp⟩
            generalize mv.getD i [] = l at *
            generalize wn.getD i false = w at *
            simp only [c14r17, hm, hm2, ints, c14r18, go_sem, ↓reduceIte, reduceCtorEq, Nat.reduceAdd, Nat.reduceSub, Nat.reduceLT, Nat.reduceLeDiff]
            intro _
            refine loop_rule (fun n τ => ∃ k : Nat, n = l.length - k ∧ k ≤ l.length ∧
              τ = ⟨[.any, .s (.ptr [.slice (pl.map .bool), .slice (mv.map ints), .slice (wn.map .bool)]), .any, .s (.int .i64 mv.length), .any, .any, .any, .s (.slice (D.map (.int .i64))), .any, .s (.slice (F.map (.int .i64))), .any, .s (.int .i64 i), .s (.int .i64 ((l.take k).foldl (leastF D) (-1))), .s (.int .i64 ((l.take k).foldl (mostG F) (-1))), .s (.bool (or (decide (l.length = 0)) ((l.take k).any fun x => decide (getI F x < 0)))), .s (.int .i64 k), .any, .any, .any, .any, .any, .any, .any, .any, .any, .any, .any, .any, .any, .any, .any, .any, .any, .any, .any, .any, .any, .any, .any, .any, .any, .any, .any, .any, .any, .any, .any, .any, .any, .any, .any, .any, .any, .any, .any, .any, .any, .any, .any, .any, .any, .any, .any, .any, .any, .any, .any, .any, .any, .any, .any, .any, .any, .any, .any, .any, .any, .any, .any, .any, .any, .any, .any, .any, .any, .any, .any, .any, .any, .any, .any, .any, .any, .any, .any, .any, .any, .any, .any, .any, .any, .any, .any, .any, .any, .any, .any, .any, .any, .any, .any, .any, .any, .any, .any, .any, .any, .any, .any, .any, .any, .any, .any, .any, .any, .any, .any, .any, .any, .any, .any, .any, .any, .any, .any, .any, .any, .any, .any, .any, .any, .any, .any, .any, .any, .any, .any, .any, .any, .any, .any, .any, .any, .any, .any, .any, .any, .any, .any, .any, .any, .any, .any, .any, .any, .any, .any, .any, .any, .any, .any, .any, .any, .any, .any, .any, .any, .any, .any, .any, .any, .any, .any, .any, .any], [.frz (PF.map SV.bool), .obj [.s (.slice (PF.map .bool)), .s (.slice (mv.map ints)), .s (.slice (wn.map .bool))], .frz (g.map SV.bool), .obj [.s (.slice (g.map .bool)), .s (.slice (mv.map ints)), .s (.slice (wn.map .bool))]]⟩) l.length rfl ?_ ?_
            · simp only [c14l26m, go_sem, ↓reduceIte, reduceCtorEq, Nat.reduceAdd, Nat.reduceSub, Nat.reduceLT, Nat.reduceLeDiff]
              exact ⟨0, rfl, Nat.zero_le _, by simp⟩
            · rintro I2 n τ ⟨k, rfl, hk, rfl⟩ hI2
              simp only [c14l26, c14r19, hm, hm2, ints, go_sem, ↓reduceIte, reduceCtorEq, Nat.reduceAdd, Nat.reduceSub, Nat.reduceLT, Nat.reduceLeDiff]
              intro _
              refine ⟨fun hlk => ?_, fun hgk => ?_⟩
              · have hlk' : k < l.length := by omega
                have hz : l[k]? = some l[k] := List.getElem?_eq_getElem hlk'
                have hzm := hins _ (List.getElem_mem hlk')
                have e1 := fold_succ (leastF D) (-1) hz
                have e2 := fold_succ (mostG F) (-1) hz
                have e3 : ((l.take (k + 1)).any fun x => decide (getI F x < 0)) = ((l.take k).any (fun x => decide (getI F x < 0)) || decide (getI F l[k] < 0)) := by
                  rw [List.take_succ, hz, List.any_append]; simp
                have fin2 : ∀ m' q' o', leastF D ((l.take k).foldl (leastF D) (-1)) l[k] = m' → mostG F ((l.take k).foldl (mostG F) (-1)) l[k] = q' → (or (or (decide (l.length = 0)) ((l.take k).any fun x => decide (getI F x < 0))) (decide (getI F l[k] < 0))) = o' →
                    I2 ⟨[.any, .s (.ptr [.slice (pl.map .bool), .slice (mv.map ints), .slice (wn.map .bool)]), .any, .s (.int .i64 mv.length), .any, .any, .any, .s (.slice (D.map (.int .i64))), .any, .s (.slice (F.map (.int .i64))), .any, .s (.int .i64 i), .s (.int .i64 m'), .s (.int .i64 q'), .s (.bool o'), .s (.int .i64 (k + 1)), .any, .any, .any, .any, .any, .any, .any, .any, .any, .any, .any, .any, .any, .any, .any, .any, .any, .any, .any, .any, .any, .any, .any, .any, .any, .any, .any, .any, .any, .any, .any, .any, .any, .any, .any, .any, .any, .any, .any, .any, .any, .any, .any, .any, .any, .any, .any, .any, .any, .any, .any, .any, .any, .any, .any, .any, .any, .any, .any, .any, .any, .any, .any, .any, .any, .any, .any, .any, .any, .any, .any, .any, .any, .any, .any, .any, .any, .any, .any, .any, .any, .any, .any, .any, .any, .any, .any, .any, .any, .any, .any, .any, .any, .any, .any, .any, .any, .any, .any, .any, .any, .any, .any, .any, .any, .any, .any, .any, .any, .any, .any, .any, .any, .any, .any, .any, .any, .any, .any, .any, .any, .any, .any, .any, .any, .any, .any, .any, .any, .any, .any, .any, .any, .any, .any, .any, .any, .any, .any, .any, .any, .any, .any, .any, .any, .any, .any, .any, .any, .any, .any, .any, .any, .any, .any, .any, .any, .any, .any, .any, .any, .any, .any, .any, .any, .any, .any, .any, .any], [.frz (PF.map SV.bool), .obj [.s (.slice (PF.map .bool)), .s (.slice (mv.map ints)), .s (.slice (wn.map .bool))], .frz (g.map SV.bool), .obj [.s (.slice (g.map .bool)), .s (.slice (mv.map ints)), .s (.slice (wn.map .bool))]]⟩ := fun m' q' o' h1 h2 h3 => by
                  subst h1; subst h2; subst h3
                  exact hI2 (l.length - (k + 1)) _ (by omega) ⟨k + 1, rfl, by omega, by rw [e1, e2, e3]; simp [Bool.or_assoc]⟩
                generalize (l.take k).foldl (leastF D) (-1) = m at *
                generalize (l.take k).foldl (mostG F) (-1) = q at *
                generalize (or (decide (l.length = 0)) ((l.take k).any fun x => decide (getI F x < 0))) = o at *
                generalize l[k] = x at *
                have hdx := getI_get (W := D) (x := x) hzm.1 (by omega)
                have hdx2 : x.toNat < D.length := by omega
                have hfx := getI_get (W := F) (x := x) hzm.1 (by omega)
                have hfx2 : x.toNat < F.length := by omega
                simp only [c14r20, hm, hm2, hz, hlk', ints, c14r21, hdx, hdx2, go_sem, ↓reduceIte, reduceCtorEq, Nat.reduceAdd, Nat.reduceSub, Nat.reduceLT, Nat.reduceLeDiff]
                refine ⟨hzm.1, fun h0 => ⟨fun h1 => ?_, fun h1 => ⟨hzm.1, fun h2 => ?_, fun h2 => ?_⟩⟩, fun h0 => ?_⟩
                · have hl : leastF D m x = getI D x := by unfold leastF; rw [if_neg (by omega), if_pos (by omega)]
                  simp only [c14r22, hdx, hdx2, go_sem, ↓reduceIte, reduceCtorEq, Nat.reduceAdd, Nat.reduceSub, Nat.reduceLT, Nat.reduceLeDiff]
                  refine ⟨hzm.1, ?_⟩
                  cases o with
                  | true =>
                    simp only [c14r23, c14r24, hfx, hfx2, ints, maxL, go_sem, ↓reduceIte, reduceCtorEq, Nat.reduceAdd, Nat.reduceSub, Nat.reduceLT, Nat.reduceLeDiff]
                    refine ⟨hzm.1, ?_⟩
                    simp only [maxL, c14r25, c14l26m, go_sem, ↓reduceIte, reduceCtorEq, Nat.reduceAdd, Nat.reduceSub, Nat.reduceLT, Nat.reduceLeDiff]
                    exact ⟨by simp, inR_i64 (by omega) (by omega), fin2 _ _ _ hl rfl rfl⟩
                  | false =>
                    simp only [c14r23, hfx, hfx2, ints, go_sem, ↓reduceIte, reduceCtorEq, Nat.reduceAdd, Nat.reduceSub, Nat.reduceLT, Nat.reduceLeDiff]
                    refine ⟨hzm.1, ?_⟩
                    simp only [c14r24, hfx, hfx2, ints, maxL, go_sem, ↓reduceIte, reduceCtorEq, Nat.reduceAdd, Nat.reduceSub, Nat.reduceLT, Nat.reduceLeDiff]
                    refine ⟨hzm.1, by simp, ?_⟩
                    simp only [maxL, c14r25, c14l26m, go_sem, ↓reduceIte, reduceCtorEq, Nat.reduceAdd, Nat.reduceSub, Nat.reduceLT, Nat.reduceLeDiff]
                    exact ⟨inR_i64 (by omega) (by omega), fin2 _ _ _ hl rfl rfl⟩
                · have hl : leastF D m x = getI D x := by unfold leastF; rw [if_neg (by omega), if_pos (by omega)]
                  simp only [c14r22, hdx, hdx2, go_sem, ↓reduceIte, reduceCtorEq, Nat.reduceAdd, Nat.reduceSub, Nat.reduceLT, Nat.reduceLeDiff]
                  refine ⟨hzm.1, ?_⟩
                  cases o with
                  | true =>
                    simp only [c14r23, c14r24, hfx, hfx2, ints, maxL, go_sem, ↓reduceIte, reduceCtorEq, Nat.reduceAdd, Nat.reduceSub, Nat.reduceLT, Nat.reduceLeDiff]
                    refine ⟨hzm.1, ?_⟩
                    simp only [maxL, c14r25, c14l26m, go_sem, ↓reduceIte, reduceCtorEq, Nat.reduceAdd, Nat.reduceSub, Nat.reduceLT, Nat.reduceLeDiff]
                    exact ⟨by simp, inR_i64 (by omega) (by omega), fin2 _ _ _ hl rfl rfl⟩
                  | false =>
                    simp only [c14r23, hfx, hfx2, ints, go_sem, ↓reduceIte, reduceCtorEq, Nat.reduceAdd, Nat.reduceSub, Nat.reduceLT, Nat.reduceLeDiff]
                    refine ⟨hzm.1, ?_⟩
                    simp only [c14r24, hfx, hfx2, ints, maxL, go_sem, ↓reduceIte, reduceCtorEq, Nat.reduceAdd, Nat.reduceSub, Nat.reduceLT, Nat.reduceLeDiff]
                    refine ⟨hzm.1, by simp, ?_⟩
                    simp only [maxL, c14r25, c14l26m, go_sem, ↓reduceIte, reduceCtorEq, Nat.reduceAdd, Nat.reduceSub, Nat.reduceLT, Nat.reduceLeDiff]
                    exact ⟨inR_i64 (by omega) (by omega), fin2 _ _ _ hl rfl rfl⟩
                · have hl : leastF D m x = m := by unfold leastF; rw [if_neg (by omega), if_neg (by omega)]
                  cases o with
                  | true =>
                    simp only [c14r23, c14r24, hfx, hfx2, ints, maxL, go_sem, ↓reduceIte, reduceCtorEq, Nat.reduceAdd, Nat.reduceSub, Nat.reduceLT, Nat.reduceLeDiff]
                    refine ⟨hzm.1, ?_⟩
                    simp only [maxL, c14r25, c14l26m, go_sem, ↓reduceIte, reduceCtorEq, Nat.reduceAdd, Nat.reduceSub, Nat.reduceLT, Nat.reduceLeDiff]
                    exact ⟨by simp, inR_i64 (by omega) (by omega), fin2 _ _ _ hl rfl rfl⟩
                  | false =>
                    simp only [c14r23, hfx, hfx2, ints, go_sem, ↓reduceIte, reduceCtorEq, Nat.reduceAdd, Nat.reduceSub, Nat.reduceLT, Nat.reduceLeDiff]
                    refine ⟨hzm.1, ?_⟩
                    simp only [c14r24, hfx, hfx2, ints, maxL, go_sem, ↓reduceIte, reduceCtorEq, Nat.reduceAdd, Nat.reduceSub, Nat.reduceLT, Nat.reduceLeDiff]
                    refine ⟨hzm.1, by simp, ?_⟩
                    simp only [maxL, c14r25, c14l26m, go_sem, ↓reduceIte, reduceCtorEq, Nat.reduceAdd, Nat.reduceSub, Nat.reduceLT, Nat.reduceLeDiff]
                    exact ⟨inR_i64 (by omega) (by omega), fin2 _ _ _ hl rfl rfl⟩
                · have hl : leastF D m x = m := by unfold leastF; rw [if_pos (by omega)]
                  cases o with
                  | true =>
                    simp only [c14r23, c14r24, hfx, hfx2, ints, maxL, go_sem, ↓reduceIte, reduceCtorEq, Nat.reduceAdd, Nat.reduceSub, Nat.reduceLT, Nat.reduceLeDiff]
                    refine ⟨hzm.1, ?_⟩
                    simp only [maxL, c14r25, c14l26m, go_sem, ↓reduceIte, reduceCtorEq, Nat.reduceAdd, Nat.reduceSub, Nat.reduceLT, Nat.reduceLeDiff]
                    exact ⟨by simp, inR_i64 (by omega) (by omega), fin2 _ _ _ hl rfl rfl⟩
                  | false =>
                    simp only [c14r23, hfx, hfx2, ints, go_sem, ↓reduceIte, reduceCtorEq, Nat.reduceAdd, Nat.reduceSub, Nat.reduceLT, Nat.reduceLeDiff]
                    refine ⟨hzm.1, ?_⟩
                    simp only [c14r24, hfx, hfx2, ints, maxL, go_sem, ↓reduceIte, reduceCtorEq, Nat.reduceAdd, Nat.reduceSub, Nat.reduceLT, Nat.reduceLeDiff]
                    refine ⟨hzm.1, by simp, ?_⟩
                    simp only [maxL, c14r25, c14l26m, go_sem, ↓reduceIte, reduceCtorEq, Nat.reduceAdd, Nat.reduceSub, Nat.reduceLT, Nat.reduceLeDiff]
                    exact ⟨inR_i64 (by omega) (by omega), fin2 _ _ _ hl rfl rfl⟩
              · have hkl : k = l.length := by omega
                subst hkl
                rw [List.take_length]
                have hml := fun h => ha h _ rfl
                have hqo := fun h => ho h _ rfl
                generalize l.foldl (leastF D) (-1) = m at *
                generalize l.foldl (mostG F) (-1) = q at *
                generalize (l.any fun x => decide (getI F x < 0)) = an at *
                simp only [c14r27, hw, hw2, go_sem, ↓reduceIte, reduceCtorEq, Nat.reduceAdd, Nat.reduceSub, Nat.reduceLT, Nat.reduceLeDiff]
                cases w with
                | true =>
                  simp only [c14r30, c14l31m, go_sem, ↓reduceIte, reduceCtorEq, Nat.reduceAdd, Nat.reduceSub, Nat.reduceLT, Nat.reduceLeDiff]
                  exact ⟨inR_i64 (by omega) (by omega), fin⟩
                | false =>
                  have hml := hml rfl
                  have hqo := hqo rfl
                  have hO1 : (or (decide (l.length = 0)) an) = true → getI F i = -1 := fun h => hqo.1 (by simpa using h)
                  have hO2 : (or (decide (l.length = 0)) an) = false → getI F i = q + 1 := fun h => hqo.2 (by rw [Bool.or_eq_false_iff, decide_eq_false_iff_not] at h; exact h.1) (by rw [Bool.or_eq_false_iff] at h; exact h.2)
                  generalize (or (decide (l.length = 0)) an) = o at *
                  clear ha ho hqo
                  generalize getI D i = dx at *
                  generalize getI F i = fx at *
                  by_cases hm0 : m < 0
                  · have hm1 : ¬ (0 ≤ m) := by omega
                    have hd := hml.1 hm0
                    subst hd
                    cases o with
                    | true =>
                      have hO1 := hO1 rfl
                      subst hO1
                      simp only [c14r28, hx, hx2, hy, hy2, ints, hm0, hm1, go_sem, ↓reduceIte, reduceCtorEq, Nat.reduceAdd, Nat.reduceSub, Nat.reduceLT, Nat.reduceLeDiff]
                      simp only [c14r30, c14l31m, go_sem, ↓reduceIte, reduceCtorEq, Nat.reduceAdd, Nat.reduceSub, Nat.reduceLT, Nat.reduceLeDiff]
                      exact ⟨inR_i64 (by omega) (by omega), fin⟩
                    | false =>
                      have hO2 := hO2 rfl
                      subst hO2
                      simp only [c14r28, hx, hx2, hy, hy2, ints, hm0, hm1, go_sem, ↓reduceIte, reduceCtorEq, Nat.reduceAdd, Nat.reduceSub, Nat.reduceLT, Nat.reduceLeDiff]
                      refine ⟨inR_i64 (by omega) (by omega), ?_⟩
                      simp only [c14r30, c14l31m, go_sem, ↓reduceIte, reduceCtorEq, Nat.reduceAdd, Nat.reduceSub, Nat.reduceLT, Nat.reduceLeDiff]
                      exact ⟨inR_i64 (by omega) (by omega), fin⟩
                  · have hm1 : 0 ≤ m := by omega
                    have hd := hml.2 hm1
                    subst hd
                    cases o with
                    | true =>
                      have hO1 := hO1 rfl
                      subst hO1
                      simp only [c14r28, hx, hx2, hy, hy2, ints, hm0, hm1, go_sem, ↓reduceIte, reduceCtorEq, Nat.reduceAdd, Nat.reduceSub, Nat.reduceLT, Nat.reduceLeDiff]
                      refine ⟨inR_i64 (by omega) (by omega), ?_⟩
                      simp only [c14r30, c14l31m, go_sem, ↓reduceIte, reduceCtorEq, Nat.reduceAdd, Nat.reduceSub, Nat.reduceLT, Nat.reduceLeDiff]
                      exact ⟨inR_i64 (by omega) (by omega), fin⟩
                    | false =>
                      have hO2 := hO2 rfl
                      subst hO2
                      simp only [c14r28, hx, hx2, hy, hy2, ints, hm0, hm1, go_sem, ↓reduceIte, reduceCtorEq, Nat.reduceAdd, Nat.reduceSub, Nat.reduceLT, Nat.reduceLeDiff]
                      refine ⟨inR_i64 (by omega) (by omega), inR_i64 (by omega) (by omega), ?_⟩
                      simp only [c14r30, c14l31m, go_sem, ↓reduceIte, reduceCtorEq, Nat.reduceAdd, Nat.reduceSub, Nat.reduceLT, Nat.reduceLeDiff]
                      exact ⟨inR_i64 (by omega) (by omega), fin⟩
          · have hie : i = mv.length := by omega
            subst hie
            simp only [c14r32, go_sem, ↓reduceIte, reduceCtorEq, Nat.reduceAdd, Nat.reduceSub, Nat.reduceLT, Nat.reduceLeDiff]
            refine wk _ _ ?_
            simp only [go_sem, ↓reduceIte, reduceCtorEq, Nat.reduceAdd, Nat.reduceSub, Nat.reduceLT, Nat.reduceLeDiff]
end Go.Proofs.Ytglmjdpmpgphkaa.Sk
