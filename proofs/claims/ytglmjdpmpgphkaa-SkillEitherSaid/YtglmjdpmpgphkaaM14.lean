/- The code of a law in the value semantics. -/
import Derived.Test.YtglmjdpmpgphkaaM13

set_option linter.all false

namespace Go.Proofs.Ytglmjdpmpgphkaa.Sk
open Go Go.E

def c9r0 : List AOper := [
 oP 4 (.boxS (.t 0)),
 oP 8 (.mov (.c (.s (.bool false))))]
def c9r1 : List AOper := [
 oP 27 (.load 3 true (.t 4)),
 oP 28 (.call 47 [(.t 27)]),
 oP 29 (.not (.t 28)),
 oP 30 (.mov (.t 29)),
 oG 31 30 false (.mov (.t 1)),
 oG 32 30 false (.len false (.t 31)),
 oG 33 30 false (.cmp .gtr (.t 32) (nI 30)),
 oP 34 (.pick (.t 30) (.c (.s (.bool true))) (.t 33)),
 oP 35 (.mov (.t 34)),
 oG 36 35 false (.mov (.t 2)),
 oG 37 35 false (.len false (.t 36)),
 oG 38 35 false (.cmp .gtr (.t 37) (nI 30)),
 oP 39 (.pick (.t 35) (.c (.s (.bool true))) (.t 38))]
def c9r2 : List AOper := [
 oP 40 (.call 17 []),
 oP 8 (.mov (.t 40))]
def c9r3 : List AOper := [
 oP 41 (.mov (.t 3)),
 oP 42 (.conv .i64 (.t 41)),
 oP 43 (.fieldAddr 1 (.t 4)),
 oP 44 (.load 1 false (.t 43)),
 oP 45 (.len false (.t 44)),
 oP 46 (.div .rem (.t 42) (.t 45)),
 oP 9 (.mov (.t 46))]
def c9r4 : List AOper := [
 oP 48 (.load 3 true (.t 4)),
 oP 49 (.call 25 [(.t 48)]),
 oP 47 (.mov (.t 49)),
 oP 50 (.ext (.t 47) 0),
 oP 51 (.ext (.t 47) 1),
 oP 10 (.mov (.t 50)),
 oP 11 (.mov (.t 51))]
def c9r5 : List AOper := [
 oP 53 (.load 3 true (.t 4)),
 oP 54 (.call 29 [(.t 53)]),
 oP 52 (.mov (.t 54)),
 oP 55 (.ext (.t 52) 0),
 oP 56 (.ext (.t 52) 1),
 oP 12 (.mov (.t 55)),
 oP 13 (.mov (.t 56))]
def c9r6 : List AOper := [
 oP 58 (.load 3 true (.t 4)),
 oP 59 (.call 31 [(.t 58)]),
 oP 57 (.mov (.t 59)),
 oP 60 (.ext (.t 57) 0),
 oP 61 (.ext (.t 57) 1),
 oP 14 (.mov (.t 60)),
 oP 15 (.mov (.t 61))]
def c9r7 : List AOper := [
 oP 62 (.mov (.t 11)),
 oP 63 (.cmp .neq (.t 62) (nI 0)),
 oP 64 (.mov (.t 63)),
 oG 65 64 false (.mov (.t 13)),
 oG 66 64 false (.cmp .neq (.t 65) (nI 0)),
 oP 67 (.pick (.t 64) (.c (.s (.bool true))) (.t 66)),
 oP 68 (.mov (.t 67)),
 oG 69 68 false (.mov (.t 15)),
 oG 70 68 false (.cmp .neq (.t 69) (nI 0)),
 oP 71 (.pick (.t 68) (.c (.s (.bool true))) (.t 70)),
 oP 72 (.mov (.t 71)),
 oG 73 72 false (.load 3 true (.t 4)),
 oG 74 72 false (.mov (.t 12)),
 oG 75 72 false (.call 33 [(.t 73), (.c (.s (.bool true))), (.t 74)]),
 oG 76 72 false (.cmp .neq (.t 75) (nI 0)),
 oP 77 (.pick (.t 72) (.c (.s (.bool true))) (.t 76)),
 oP 78 (.mov (.t 77)),
 oG 79 78 false (.load 3 true (.t 4)),
 oG 80 78 false (.mov (.t 14)),
 oG 81 78 false (.call 33 [(.t 79), (.c (.s (.bool false))), (.t 80)]),
 oG 82 78 false (.cmp .neq (.t 81) (nI 0)),
 oP 83 (.pick (.t 78) (.c (.s (.bool true))) (.t 82)),
 oP 84 (.mov (.t 83)),
 oG 85 84 false (.load 3 true (.t 4)),
 oG 86 84 false (.mov (.t 12)),
 oG 87 84 false (.call 34 [(.t 85), (.c (.s (.bool true))), (.t 86)]),
 oG 88 84 false (.cmp .neq (.t 87) (nI 0)),
 oP 89 (.pick (.t 84) (.c (.s (.bool true))) (.t 88)),
 oP 90 (.mov (.t 89)),
 oG 91 90 false (.load 3 true (.t 4)),
 oG 92 90 false (.mov (.t 14)),
 oG 93 90 false (.call 34 [(.t 91), (.c (.s (.bool false))), (.t 92)]),
 oG 94 90 false (.cmp .neq (.t 93) (nI 0)),
 oP 95 (.pick (.t 90) (.c (.s (.bool true))) (.t 94))]
def c9r8 : List AOper := [
 oP 8 (.mov (.c (.s (.bool false))))]
def c9r9 : List AOper := [
 oP 96 (.load 3 true (.t 4)),
 oP 97 (.mov (.t 1)),
 oP 98 (.callN 1 50 [(.t 96), (.c (.s (.bool true))), (.t 97)]),
 oP 99 (.load 3 true (.t 4)),
 oP 100 (.mov (.t 2)),
 oP 101 (.callN 1 50 [(.t 99), (.c (.s (.bool false))), (.t 100)]),
 oP 16 (.mov (.t 98)),
 oP 17 (.mov (.t 101))]
def c9r10 : List AOper := [
 oP 18 (.mov (nI 0))]
def c9r11 : List AOper := [
 oP 102 (.mov (.t 18)),
 oP 103 (.mov (.t 17)),
 oP 104 (.len false (.t 103)),
 oP 105 (.cmp .lss (.t 102) (.t 104))]
def c9r12 : List AOper := [
 oP 108 (.mov (.t 17)),
 oP 109 (.mov (.t 18)),
 oP 110 (.idxA 1 (.t 108) (.t 109)),
 oP 111 (.load 1 false (.t 110)),
 oP 112 (.cmp .lss (.t 111) (nI 0)),
 oP 113 (.mov (.t 112)),
 oG 114 113 true (.fieldAddr 0 (.t 4)),
 oG 115 113 true (.load 1 false (.t 114)),
 oG 116 113 true (.mov (.t 18)),
 oG 117 113 true (.idxA 1 (.t 115) (.t 116)),
 oG 118 113 true (.load 1 false (.t 117)),
 oG 119 113 true (.not (.t 118)),
 oP 120 (.pick (.t 113) (.t 119) (.c (.s (.bool false)))),
 oP 121 (.mov (.t 120)),
 oG 122 121 true (.fieldAddr 2 (.t 4)),
 oG 123 121 true (.load 1 false (.t 122)),
 oG 124 121 true (.mov (.t 18)),
 oG 125 121 true (.idxA 1 (.t 123) (.t 124)),
 oG 126 121 true (.load 1 false (.t 125)),
 oG 127 121 true (.not (.t 126)),
 oP 128 (.pick (.t 121) (.t 127) (.c (.s (.bool false)))),
 oP 129 (.mov (.t 128)),
 oG 130 129 true (.fieldAddr 1 (.t 4)),
 oG 131 129 true (.load 1 false (.t 130)),
 oG 132 129 true (.mov (.t 18)),
 oG 133 129 true (.idxA 1 (.t 131) (.t 132)),
 oG 134 129 true (.load 1 false (.t 133)),
 oG 135 129 true (.len false (.t 134)),
 oG 136 129 true (.cmp .gtr (.t 135) (nI 0)),
 oP 137 (.pick (.t 129) (.t 136) (.c (.s (.bool false))))]
def c9r13 : List AOper := [
 oP 138 (.mov (.t 17)),
 oP 139 (.mov (.t 18)),
 oP 140 (.fieldAddr 1 (.t 4)),
 oP 141 (.load 1 false (.t 140)),
 oP 142 (.mov (.t 18)),
 oP 143 (.idxA 1 (.t 141) (.t 142)),
 oP 144 (.load 1 false (.t 143)),
 oP 145 (.idxA 1 (.t 144) (nI 0)),
 oP 146 (.load 1 false (.t 145)),
 oP 147 (.idxA 1 (.t 138) (.t 139)),
 ⟨none, none, .store 1 (.t 147) (.t 146)⟩]
def c9r14 : List AOper := [
 oP 106 (.mov (.t 18)),
 oP 107 (.arith .add (.t 106) (nI 1)),
 oP 18 (.mov (.t 107))]
def c9l15 : ACode := (.seq (.seq (.reg 0 c9r11) (.cond (.t 105) .skip (.exit 0))) (.seq (.block 1 (.seq (.reg 0 c9r12) (.cond (.t 137) (.reg 0 c9r13) .skip))) (.reg 0 c9r14)))
def c9l15m : List Bool := [false, false, false, false, true, false, false, false, false, true, true, false, true, false, true, false, true, true, true, false, false, false, false, false, false, false, false, false, false, false, false, false, false, false, false, false, false, false, false, false, false, false, false, false, false, false, false, false, false, false, false, false, false, false, false, false, false, false, false, false, false, false, false, false, false, false, false, false, false, false, false, false, false, false, false, false, false, false, false, false, false, false, false, false, false, false, false, false, false, false, false, false, false, false, false, false, false, false, false, false, false, false, false, false, false, false, false, false, false, false, false, false, false, false, false, false, false, false, false, false, false, false, false, false, false, false, false, false, false, false, false, false, false, false, false, false, false, false, false, false, false, false, false, false, false, false, false, false, false, false, false, false, false, false, false, false, false, false, false, false, false, false, false, false, false, false, false, false, false, false, false, false, false, false, false, false, false, false, false, false, false, false, false, false, false, false, false, false, false, false, false, false, false, false, false, false, false, false, false, false, false, false, false, false, false, false, false, false, false, false, false, false, false, false, false, false, false, false, false, false, false, false, false, false, false, false, false, false, false, false, false, false, false, false, false, false, false, false, false]
def c9r16 : List AOper := [
 oP 149 (.load 3 true (.t 4)),
 oP 150 (.mov (.t 12)),
 oP 151 (.mov (.t 9)),
 oP 152 (.call 37 [(.t 149), (.t 150), (.t 151)]),
 oP 148 (.mov (.t 152)),
 oP 153 (.ext (.t 148) 0),
 oP 154 (.ext (.t 148) 1),
 oP 19 (.mov (.t 153)),
 oP 11 (.mov (.t 154))]
def c9r17 : List AOper := [
 oP 156 (.load 3 true (.t 4)),
 oP 157 (.mov (.t 16)),
 oP 158 (.mov (.t 9)),
 oP 159 (.call 37 [(.t 156), (.t 157), (.t 158)]),
 oP 155 (.mov (.t 159)),
 oP 160 (.ext (.t 155) 0),
 oP 161 (.ext (.t 155) 1),
 oP 20 (.mov (.t 160)),
 oP 13 (.mov (.t 161))]
def c9r18 : List AOper := [
 oP 163 (.load 3 true (.t 4)),
 oP 164 (.mov (.t 12)),
 oP 165 (.frzv (.t 17)),
 oP 166 (.mov (.t 9)),
 oP 167 (.call 35 [(.t 163), (.t 164), (.t 165), (.t 166)]),
 oP 162 (.mov (.t 167)),
 oP 168 (.ext (.t 162) 0),
 oP 169 (.ext (.t 162) 1),
 oP 170 (.ext (.t 162) 2),
 oP 21 (.mov (.t 168)),
 oP 22 (.mov (.t 169)),
 oP 15 (.mov (.t 170))]
def c9r19 : List AOper := [
 oP 172 (.load 3 true (.t 4)),
 oP 173 (.frzv (.t 16)),
 oP 174 (.mov (.t 14)),
 oP 175 (.mov (.t 9)),
 oP 176 (.call 35 [(.t 172), (.t 173), (.t 174), (.t 175)]),
 oP 171 (.mov (.t 176)),
 oP 177 (.ext (.t 171) 0),
 oP 178 (.ext (.t 171) 1),
 oP 179 (.ext (.t 171) 2),
 oP 23 (.mov (.t 177)),
 oP 24 (.mov (.t 178)),
 oP 25 (.mov (.t 179))]
def c9r20 : List AOper := [
 oP 180 (.mov (.t 11)),
 oP 181 (.cmp .neq (.t 180) (nI 0)),
 oP 182 (.mov (.t 181)),
 oG 183 182 false (.mov (.t 13)),
 oG 184 182 false (.cmp .neq (.t 183) (nI 0)),
 oP 185 (.pick (.t 182) (.c (.s (.bool true))) (.t 184)),
 oP 186 (.mov (.t 185)),
 oG 187 186 false (.mov (.t 15)),
 oG 188 186 false (.cmp .neq (.t 187) (nI 0)),
 oP 189 (.pick (.t 186) (.c (.s (.bool true))) (.t 188)),
 oP 190 (.mov (.t 189)),
 oG 191 190 false (.mov (.t 25)),
 oG 192 190 false (.cmp .neq (.t 191) (nI 0)),
 oP 193 (.pick (.t 190) (.c (.s (.bool true))) (.t 192)),
 oP 194 (.mov (.t 193)),
 oG 195 194 false (.mov (.t 23)),
 oG 196 194 false (.len false (.t 195)),
 oG 197 194 false (.fieldAddr 1 (.t 4)),
 oG 198 194 false (.load 1 false (.t 197)),
 oG 199 194 false (.len false (.t 198)),
 oG 200 194 false (.cmp .gtr (.t 196) (.t 199)),
 oP 201 (.pick (.t 194) (.c (.s (.bool true))) (.t 200))]
def c9r21 : List AOper := [
 oP 8 (.mov (.c (.s (.bool false))))]
def c9r22 : List AOper := [
 oP 202 (.mov (.t 10)),
 oP 203 (.mov (.t 9)),
 oP 204 (.call 49 [(.t 202), (.t 203)]),
 oP 205 (.not (.t 204))]
def c9r23 : List AOper := [
 oP 206 (.mov (.t 19)),
 oP 207 (.mov (.t 206)),
 oG 208 207 true (.mov (.t 22)),
 oP 209 (.pick (.t 207) (.t 208) (.c (.s (.bool false)))),
 oP 210 (.mov (.t 209)),
 oG 211 210 true (.call 17 []),
 oP 212 (.pick (.t 210) (.t 211) (.c (.s (.bool false)))),
 oP 8 (.mov (.t 212))]
def c9r24 : List AOper := [
 oP 26 (.mov (nI 0))]
def c9r25 : List AOper := [
 oP 213 (.mov (.t 26)),
 oP 214 (.mov (.t 23)),
 oP 215 (.len false (.t 214)),
 oP 216 (.cmp .lss (.t 213) (.t 215))]
def c9r26 : List AOper := [
 oP 219 (.mov (.t 10)),
 oP 220 (.mov (.t 23)),
 oP 221 (.mov (.t 26)),
 oP 222 (.idxA 1 (.t 220) (.t 221)),
 oP 223 (.load 1 false (.t 222)),
 oP 224 (.call 49 [(.t 219), (.t 223)]),
 oP 225 (.not (.t 224))]
def c9r27 : List AOper := [
 oP 8 (.mov (.c (.s (.bool false))))]
def c9r28 : List AOper := [
 oP 217 (.mov (.t 26)),
 oP 218 (.arith .add (.t 217) (nI 1)),
 oP 26 (.mov (.t 218))]
def c9l29 : ACode := (.seq (.seq (.reg 0 c9r25) (.cond (.t 216) .skip (.exit 2))) (.seq (.block 3 (.seq (.reg 0 c9r26) (.cond (.t 225) (.seq (.reg 0 c9r27) .ret) .skip))) (.reg 0 c9r28)))
def c9l29m : List Bool := [false, false, false, false, false, false, false, false, false, false, true, false, false, false, false, false, false, false, false, true, true, false, false, true, true, false, true, false, false, false, false, false, false, false, false, false, false, false, false, false, false, false, false, false, false, false, false, false, false, false, false, false, false, false, false, false, false, false, false, false, false, false, false, false, false, false, false, false, false, false, false, false, false, false, false, false, false, false, false, false, false, false, false, false, false, false, false, false, false, false, false, false, false, false, false, false, false, false, false, false, false, false, false, false, false, false, false, false, false, false, false, false, false, false, false, false, false, false, false, false, false, false, false, false, false, false, false, false, false, false, false, false, false, false, false, false, false, false, false, false, false, false, false, false, false, false, false, false, false, false, false, false, false, false, false, false, false, false, false, false, false, false, false, false, false, false, false, false, false, false, false, false, false, false, false, false, false, false, false, false, false, false, false, false, false, false, false, false, false, false, false, false, false, false, false, false, false, false, false, false, false, false, false, false, false, false, false, false, false, false, false, false, false, false, false, false, false, false, false, false, false, false, false, false, false, false, false, false, false, false, false, false, false, false, false, false, false, false, false]
def c9r30 : List AOper := [
 oP 226 (.mov (.t 19)),
 oP 227 (.not (.t 226)),
 oP 228 (.mov (.t 227)),
 oG 229 228 true (.mov (.t 20)),
 oG 230 228 true (.not (.t 229)),
 oP 231 (.pick (.t 228) (.t 230) (.c (.s (.bool false)))),
 oP 232 (.mov (.t 231)),
 oG 233 232 true (.mov (.t 24)),
 oG 234 232 true (.not (.t 233)),
 oP 235 (.pick (.t 232) (.t 234) (.c (.s (.bool false)))),
 oP 236 (.mov (.t 235)),
 oG 237 236 true (.call 17 []),
 oP 238 (.pick (.t 236) (.t 237) (.c (.s (.bool false)))),
 oP 8 (.mov (.t 238))]
def f9 : FRow := ⟨(.seq (.reg 0 c9r0) (.seq (.seq (.reg 0 c9r1) (.cond (.t 39) (.seq (.reg 0 c9r2) .ret) .skip)) (.seq (.reg 0 c9r3) (.seq (.reg 0 c9r4) (.seq (.reg 0 c9r5) (.seq (.reg 0 c9r6) (.seq (.seq (.reg 0 c9r7) (.cond (.t 95) (.seq (.reg 0 c9r8) .ret) .skip)) (.seq (.reg 2 c9r9) (.seq (.seq (.reg 0 c9r10) (.block 0 (.loop c9l15m [] c9l15))) (.seq (.reg 0 c9r16) (.seq (.reg 0 c9r17) (.seq (.reg 0 c9r18) (.seq (.reg 0 c9r19) (.seq (.seq (.reg 0 c9r20) (.cond (.t 201) (.seq (.reg 0 c9r21) .ret) .skip)) (.seq (.seq (.reg 0 c9r22) (.cond (.t 205) (.seq (.reg 0 c9r23) .ret) .skip)) (.seq (.seq (.reg 0 c9r24) (.block 2 (.loop c9l29m [] c9l29))) (.seq (.reg 0 c9r30) .ret))))))))))))))))), [.tmp 8], 239⟩
theorem okf9 : f9.Ok Try.prog 9 := ⟨_, _, Try.func9, rfl, by kernel_rfl, by kernel_rfl, by kernel_rfl⟩


end Go.Proofs.Ytglmjdpmpgphkaa.Sk

/- SkillEither, reckoned: at every machine, way, answers and position it answers true. -/
namespace Go.Proofs.Ytglmjdpmpgphkaa.Sk
open Go Go.E Go.E.Sm
set_option maxRecDepth 10000

set_option maxHeartbeats 4000000 in
theorem law9 {pl wn : List Bool} {mv : List (List Int)} {Z1 Z2 : List Int} {b : Int} (hz1 : ∀ z ∈ Z1, 0 ≤ z ∧ z < 256) (hz2 : ∀ z ∈ Z2, 0 ≤ z ∧ z < 256) (hb : 0 ≤ b ∧ b < 256) :
    E.Fn Try.prog 9 [mach pl mv wn, .slice (Z1.map (.int .u8)), .slice (Z2.map (.int .u8)), .int .u8 b] [.bool true] := by
  refine fn_of_row okf9 ?_
  simp only [FRow.start, f9, c9r0, c9r1, mach, bools, go_sem, ↓reduceIte, reduceCtorEq, Nat.reduceAdd, Nat.reduceSub, Nat.reduceLT, Nat.reduceLeDiff]
  refine callK_of rfl (k47 (pl := pl) (mv := mv) (wn := wn)) (.inl rfl) ?_
  have wk : ∀ (H : List ABlock) (k : AK), k (LV.ofResults [.bool true]) H none True → callK Try.prog H 17 [] k := fun H k hk => callK_of rfl works_ok (.inl rfl) hk
  cases hf : (!greatB pl mv wn && decide (chkM pl mv wn = 0)) with
  | false =>
    simp only [c9r2, go_sem, ↓reduceIte, reduceCtorEq, Nat.reduceAdd, Nat.reduceSub, Nat.reduceLT, Nat.reduceLeDiff]
    refine wk _ _ ?_
    simp only [go_sem, ↓reduceIte, reduceCtorEq, Nat.reduceAdd, Nat.reduceSub, Nat.reduceLT, Nat.reduceLeDiff]
  | true =>
    simp only [Bool.and_eq_true, decide_eq_true_eq] at hf
    have hv := valid_of hf.2
    have h1 := hv.few
    have h2 := hv.pos
    have hdl := distW_len hv
    obtain ⟨i, hi, hin⟩ : ∃ i : Nat, b.tmod (mv.length : Int) = i ∧ i < mv.length := by
      have := Int.tmod_nonneg (mv.length : Int) hb.1
      have := Int.tmod_lt_of_pos b (show (0 : Int) < mv.length by omega)
      exact ⟨(b.tmod (mv.length : Int)).toNat, by omega, by omega⟩
    have hw1 : waysR pl mv wn true = [ints (wayL pl mv wn true), .int .i64 0] := by unfold waysR; rw [if_pos hf.2]
    have hw2 : waysR pl mv wn false = [ints (wayL pl mv wn false), .int .i64 0] := by unfold waysR; rw [if_pos hf.2]
    have hr1 : wayR pl mv wn true (wayL pl mv wn true) = 0 := of_isWay hv (way_is hv)
    have hr2 : wayR pl mv wn false (wayL pl mv wn false) = 0 := of_isWay hv (way_is hv)
    have hO := chos_is (pl := pl) (wn := wn) (mv := mv) (p := true) hz1
    have hC := chos_is (pl := pl) (wn := wn) (mv := mv) (p := false) hz2
    have hF := fill_is hC
    obtain ⟨mine, won, lost, P1, P, e1, e2, e3, e4, e5, e6, e7⟩ := either hv hO hF (fill_all hv hC) hin
    have hkp := fun x h0 h1 => has_keep (pl := pl) (wn := wn) (mv := mv) (x := x) h0 h1
    simp only [go_sem, ↓reduceIte, reduceCtorEq, Nat.reduceAdd, Nat.reduceSub, Nat.reduceLT, Nat.reduceLeDiff]
    refine ⟨fun hb1 _ => ?_, fun hb1 => ?_⟩
    · simp only [c9r2, go_sem, ↓reduceIte, reduceCtorEq, Nat.reduceAdd, Nat.reduceSub, Nat.reduceLT, Nat.reduceLeDiff]
      refine wk _ _ ?_
      simp only [go_sem, ↓reduceIte, reduceCtorEq, Nat.reduceAdd, Nat.reduceSub, Nat.reduceLT, Nat.reduceLeDiff]
    · intro _
      refine ⟨fun hb2 => ?_, fun hb2 => ?_⟩
      · simp only [c9r2, go_sem, ↓reduceIte, reduceCtorEq, Nat.reduceAdd, Nat.reduceSub, Nat.reduceLT, Nat.reduceLeDiff]
        refine wk _ _ ?_
        simp only [go_sem, ↓reduceIte, reduceCtorEq, Nat.reduceAdd, Nat.reduceSub, Nat.reduceLT, Nat.reduceLeDiff]
      · have hFm : fillL pl mv wn (chosL pl mv wn false Z2 mv.length) = midG (fillV pl mv wn (chosL pl mv wn false Z2 mv.length)) (fun i => getI (chosL pl mv wn false Z2 mv.length) i) mv.length mv.length := fill_mid
        have hM0 : midG (fillV pl mv wn (chosL pl mv wn false Z2 mv.length)) (fun i => getI (chosL pl mv wn false Z2 mv.length) i) mv.length 0 = chosL pl mv wn false Z2 mv.length := mid_start hC.len
        have hfv : ∀ k, fillV pl mv wn (chosL pl mv wn false Z2 mv.length) k = if getI (chosL pl mv wn false Z2 mv.length) k < 0 ∧ pl.getD k false = false ∧ wn.getD k false = false ∧ 0 < (mv.getD k []).length then getI (mv.getD k []) 0 else getI (chosL pl mv wn false Z2 mv.length) k := fun k => rfl
        have hOl := hO.len
        have hCl := hC.len
        have n1 := k50 (p := true) hv hz1 (by omega)
        have n2 := k50 (p := false) hv hz2 (by omega)
        have hOn : (chosL pl mv wn true Z1 mv.length).map (SV.int .i64) ≠ [] := fun e => by have := congrArg List.length e; rw [List.length_map, List.length_nil] at this; omega
        have hCn : (chosL pl mv wn false Z2 mv.length).map (SV.int .i64) ≠ [] := fun e => by have := congrArg List.length e; rw [List.length_map, List.length_nil] at this; omega
        have q33 := k33 (pl := pl) (mv := mv) (wn := wn) (p := true) (Y := wayL pl mv wn true)
        have q33b := k33 (pl := pl) (mv := mv) (wn := wn) (p := false) (Y := wayL pl mv wn false)
        have q34 := k34 (pl := pl) (mv := mv) (wn := wn) (p := true) (Y := wayL pl mv wn true)
        have q34b := k34 (pl := pl) (mv := mv) (wn := wn) (p := false) (Y := wayL pl mv wn false)
        rw [hr1] at q33 q34
        rw [hr2] at q33b q34b
        have q25 := k25 (pl := pl) (mv := mv) (wn := wn)
        rw [keep_res hv] at q25
        have q29 := k29 (pl := pl) (mv := mv) (wn := wn)
        rw [hw1] at q29
        have q31 := k31 (pl := pl) (mv := mv) (wn := wn)
        rw [hw2] at q31
        have q37 := k37 (pl := pl) (mv := mv) (wn := wn) (Y := wayL pl mv wn true) (x := i)
        rw [e1] at q37
        have q37b := k37 (pl := pl) (mv := mv) (wn := wn) (Y := chosL pl mv wn true Z1 mv.length) (x := i)
        rw [e2] at q37b
        have q35 := k35 (pl := pl) (mv := mv) (wn := wn) (own := wayL pl mv wn true) (other := fillL pl mv wn (chosL pl mv wn false Z2 mv.length)) (x := i)
        rw [e3] at q35
        have q35b := k35 (pl := pl) (mv := mv) (wn := wn) (own := chosL pl mv wn true Z1 mv.length) (other := wayL pl mv wn false) (x := i)
        rw [e4] at q35b
        have q49 := hkp i (by omega) (by omega)
        clear e1 e2 e3 e4 hr1 hr2 hw1 hw2 hO hC hF
        rw [hFm] at q35
        generalize hAg : wayL pl mv wn true = A at *
        generalize hBg : wayL pl mv wn false = B at *
        generalize hDg : distW pl mv wn = D at *
        generalize hKg : keepL pl mv wn = K at *
        generalize hOg : chosL pl mv wn true Z1 mv.length = O at *
        generalize hCg : chosL pl mv wn false Z2 mv.length = C at *
        generalize hVg : fillV pl mv wn C = V at *
        simp only [c9r3, go_sem, ↓reduceIte, reduceCtorEq, Nat.reduceAdd, Nat.reduceSub, Nat.reduceLT, Nat.reduceLeDiff]
        refine ⟨inR_i64 (by omega) (by omega), by omega, fun _ => ?_⟩
        rw [hi]
        simp only [c9r4, go_sem, ↓reduceIte, reduceCtorEq, Nat.reduceAdd, Nat.reduceSub, Nat.reduceLT, Nat.reduceLeDiff]
        refine callK_of rfl q25 (.inr rfl) ?_
        simp only [c9r5, go_sem, ↓reduceIte, reduceCtorEq, Nat.reduceAdd, Nat.reduceSub, Nat.reduceLT, Nat.reduceLeDiff]
        refine callK_of rfl q29 (.inr rfl) ?_
        simp only [c9r6, go_sem, ↓reduceIte, reduceCtorEq, Nat.reduceAdd, Nat.reduceSub, Nat.reduceLT, Nat.reduceLeDiff]
        refine callK_of rfl q31 (.inr rfl) ?_
        simp only [c9r7, go_sem, ↓reduceIte, reduceCtorEq, Nat.reduceAdd, Nat.reduceSub, Nat.reduceLT, Nat.reduceLeDiff]
        refine callK_of rfl q33 (.inl rfl) ?_
        simp only [go_sem, ↓reduceIte, reduceCtorEq, Nat.reduceAdd, Nat.reduceSub, Nat.reduceLT, Nat.reduceLeDiff]
        refine callK_of rfl q33b (.inl rfl) ?_
        simp only [go_sem, ↓reduceIte, reduceCtorEq, Nat.reduceAdd, Nat.reduceSub, Nat.reduceLT, Nat.reduceLeDiff]
        refine callK_of rfl q34 (.inl rfl) ?_
        simp only [go_sem, ↓reduceIte, reduceCtorEq, Nat.reduceAdd, Nat.reduceSub, Nat.reduceLT, Nat.reduceLeDiff]
        refine callK_of rfl q34b (.inl rfl) ?_
        simp only [c9r9, go_sem, ↓reduceIte, reduceCtorEq, Nat.reduceAdd, Nat.reduceSub, Nat.reduceLT, Nat.reduceLeDiff]
        refine ⟨_, _, n1, rfl, by decide, one_cells, rfl, ?_⟩
        rw [if_neg hOn]
        simp only [flatE_ints, go_sem, ↓reduceIte, reduceCtorEq, Nat.reduceAdd, Nat.reduceSub, Nat.reduceLT, Nat.reduceLeDiff]
        refine ⟨_, _, n2, rfl, by decide, one_cells, rfl, ?_⟩
        rw [if_neg hCn]
        simp only [flatE_ints, c9r10, hOl, hCl, go_sem, ↓reduceIte, reduceCtorEq, Nat.reduceAdd, Nat.reduceSub, Nat.reduceLT, Nat.reduceLeDiff]
        refine loop_rule (fun n τ => ∃ j : Nat, n = mv.length - j ∧ j ≤ mv.length ∧
          τ = ⟨[.any, .any, .any, .any, .s (.ptr [.slice (pl.map .bool), .slice (mv.map ints), .slice (wn.map .bool)]), .any, .any, .any, .any, .s (.int .i64 i), .s (ints K), .any, .s (ints A), .any, .s (ints B), .any, .sl 0 0 mv.length 1 false, .sl 1 0 mv.length 1 false, .s (.int .i64 j), .any, .any, .any, .any, .any, .any, .any, .any, .any, .any, .any, .any, .any, .any, .any, .any, .any, .any, .any, .any, .any, .any, .any, .any, .any, .any, .any, .any, .any, .any, .any, .any, .any, .any, .any, .any, .any, .any, .any, .any, .any, .any, .any, .any, .any, .any, .any, .any, .any, .any, .any, .any, .any, .any, .any, .any, .any, .any, .any, .any, .any, .any, .any, .any, .any, .any, .any, .any, .any, .any, .any, .any, .any, .any, .any, .any, .any, .any, .any, .any, .any, .any, .any, .any, .any, .any, .any, .any, .any, .any, .any, .any, .any, .any, .any, .any, .any, .any, .any, .any, .any, .any, .any, .any, .any, .any, .any, .any, .any, .any, .any, .any, .any, .any, .any, .any, .any, .any, .any, .any, .any, .any, .any, .any, .any, .any, .any, .any, .any, .any, .any, .any, .any, .any, .any, .any, .any, .any, .any, .any, .any, .any, .any, .any, .any, .any, .any, .any, .any, .any, .any, .any, .any, .any, .any, .any, .any, .any, .any, .any, .any, .any, .any, .any, .any, .any, .any, .any, .any, .any, .any, .any, .any, .any, .any, .any, .any, .any, .any, .any, .any, .any, .any, .any, .any, .any, .any, .any, .any, .any, .any, .any, .any, .any, .any, .any, .any, .any, .any, .any, .any, .any, .any, .any, .any, .any, .any, .any, .any, .any, .any, .any, .any, .any, .any, .any, .any, .any, .any, .any], [.row (O.map (SV.int .i64)), .row ((midG V (fun i => getI C i) mv.length j).map (SV.int .i64))]⟩) mv.length rfl ?_ ?_
        · simp only [c9l15m, go_sem, ↓reduceIte, reduceCtorEq, Nat.reduceAdd, Nat.reduceSub, Nat.reduceLT, Nat.reduceLeDiff]
          exact ⟨0, rfl, Nat.zero_le _, by rw [hM0]; rfl⟩
        · rintro I n τ ⟨j, rfl, hj, rfl⟩ hI
          have hml := midG_len (v := V) (u := fun i => getI C i) (n := mv.length) (i := j)
          have hms := midG_succ (v := V) (u := fun i => getI C i) (n := mv.length) (i := j)
          have hsame := fun h1 h2 => midG_same (v := V) (u := fun i => getI C i) (n := mv.length) (i := j) h1 h2
          have hat := fun h1 => midG_at (v := V) (u := fun i => getI C i) (n := mv.length) (i := j) h1
          generalize hM : midG V (fun i => getI C i) mv.length j = M at *
          simp only [c9l15, c9r11, go_sem, ↓reduceIte, reduceCtorEq, Nat.reduceAdd, Nat.reduceSub, Nat.reduceLT, Nat.reduceLeDiff]
          intro _
          refine ⟨fun hlt => ?_, fun hge => ?_⟩
          · obtain ⟨hm, hp, hw, hm2, hp2, hw2, hins⟩ := hv.at' hlt
            have hMj := hat hlt
            have hMl : j < M.length := by omega
            have hVj := hfv j
            have goOn : ∀ y, V j = y → I ⟨[.any, .any, .any, .any, .s (.ptr [.slice (pl.map .bool), .slice (mv.map ints), .slice (wn.map .bool)]), .any, .any, .any, .any, .s (.int .i64 i), .s (ints K), .any, .s (ints A), .any, .s (ints B), .any, .sl 0 0 mv.length 1 false, .sl 1 0 mv.length 1 false, .s (.int .i64 (j + 1)), .any, .any, .any, .any, .any, .any, .any, .any, .any, .any, .any, .any, .any, .any, .any, .any, .any, .any, .any, .any, .any, .any, .any, .any, .any, .any, .any, .any, .any, .any, .any, .any, .any, .any, .any, .any, .any, .any, .any, .any, .any, .any, .any, .any, .any, .any, .any, .any, .any, .any, .any, .any, .any, .any, .any, .any, .any, .any, .any, .any, .any, .any, .any, .any, .any, .any, .any, .any, .any, .any, .any, .any, .any, .any, .any, .any, .any, .any, .any, .any, .any, .any, .any, .any, .any, .any, .any, .any, .any, .any, .any, .any, .any, .any, .any, .any, .any, .any, .any, .any, .any, .any, .any, .any, .any, .any, .any, .any, .any, .any, .any, .any, .any, .any, .any, .any, .any, .any, .any, .any, .any, .any, .any, .any, .any, .any, .any, .any, .any, .any, .any, .any, .any, .any, .any, .any, .any, .any, .any, .any, .any, .any, .any, .any, .any, .any, .any, .any, .any, .any, .any, .any, .any, .any, .any, .any, .any, .any, .any, .any, .any, .any, .any, .any, .any, .any, .any, .any, .any, .any, .any, .any, .any, .any, .any, .any, .any, .any, .any, .any, .any, .any, .any, .any, .any, .any, .any, .any, .any, .any, .any, .any, .any, .any, .any, .any, .any, .any, .any, .any, .any, .any, .any, .any, .any, .any, .any, .any, .any, .any, .any, .any, .any, .any, .any, .any, .any, .any, .any, .any], [.row (O.map (SV.int .i64)), .row ((M.set j y).map (SV.int .i64))]⟩ := fun y hy => by
              subst hy
              exact hI (mv.length - (j + 1)) _ (by omega) ⟨j + 1, rfl, by omega, by rw [hms]; simp⟩
            have goSame : V j = getI C j → I ⟨[.any, .any, .any, .any, .s (.ptr [.slice (pl.map .bool), .slice (mv.map ints), .slice (wn.map .bool)]), .any, .any, .any, .any, .s (.int .i64 i), .s (ints K), .any, .s (ints A), .any, .s (ints B), .any, .sl 0 0 mv.length 1 false, .sl 1 0 mv.length 1 false, .s (.int .i64 (j + 1)), .any, .any, .any, .any, .any, .any, .any, .any, .any, .any, .any, .any, .any, .any, .any, .any, .any, .any, .any, .any, .any, .any, .any, .any, .any, .any, .any, .any, .any, .any, .any, .any, .any, .any, .any, .any, .any, .any, .any, .any, .any, .any, .any, .any, .any, .any, .any, .any, .any, .any, .any, .any, .any, .any, .any, .any, .any, .any, .any, .any, .any, .any, .any, .any, .any, .any, .any, .any, .any, .any, .any, .any, .any, .any, .any, .any, .any, .any, .any, .any, .any, .any, .any, .any, .any, .any, .any, .any, .any, .any, .any, .any, .any, .any, .any, .any, .any, .any, .any, .any, .any, .any, .any, .any, .any, .any, .any, .any, .any, .any, .any, .any, .any, .any, .any, .any, .any, .any, .any, .any, .any, .any, .any, .any, .any, .any, .any, .any, .any, .any, .any, .any, .any, .any, .any, .any, .any, .any, .any, .any, .any, .any, .any, .any, .any, .any, .any, .any, .any, .any, .any, .any, .any, .any, .any, .any, .any, .any, .any, .any, .any, .any, .any, .any, .any, .any, .any, .any, .any, .any, .any, .any, .any, .any, .any, .any, .any, .any, .any, .any, .any, .any, .any, .any, .any, .any, .any, .any, .any, .any, .any, .any, .any, .any, .any, .any, .any, .any, .any, .any, .any, .any, .any, .any, .any, .any, .any, .any, .any, .any, .any, .any, .any, .any, .any, .any, .any, .any, .any, .any], [.row (O.map (SV.int .i64)), .row (M.map (SV.int .i64))]⟩ := fun hy =>
              hI (mv.length - (j + 1)) _ (by omega) ⟨j + 1, rfl, by omega, by rw [hsame hlt hy]; simp⟩
            generalize mv.getD j [] = l at *
            generalize pl.getD j false = p at *
            generalize wn.getD j false = w at *
            generalize getI C j = c at *
            have hsel : (List.map (SV.int .i64) M)[j]? = some (.int .i64 c) := by rw [List.getElem?_map, hMj]; rfl
            have hdn : ∀ (l : List Int) (y : Int), (M.set j y).length = mv.length := fun l y => by rw [List.length_set]; exact hml
            simp only [c9r12, go_sem, ↓reduceIte, reduceCtorEq, Nat.reduceAdd, Nat.reduceSub, Nat.reduceLT, Nat.reduceLeDiff]
            refine ⟨hlt, ?_⟩
            by_cases hc0 : c < 0
            · cases p with
              | true =>
                rw [if_neg (by simp)] at hVj
                simp only [Nat.mul_one, hMj, hc0, hp, hp2, ints, c9r14, c9l15m, go_sem, ↓reduceIte, reduceCtorEq, Nat.reduceAdd, Nat.reduceSub, Nat.reduceLT, Nat.reduceLeDiff]
                exact ⟨inR_i64 (by omega) (by omega), goSame hVj⟩
              | false =>
                cases w with
                | true =>
                  rw [if_neg (by simp)] at hVj
                  simp only [Nat.mul_one, hMj, hc0, hp, hp2, hw, hw2, ints, c9r14, c9l15m, go_sem, ↓reduceIte, reduceCtorEq, Nat.reduceAdd, Nat.reduceSub, Nat.reduceLT, Nat.reduceLeDiff]
                  exact ⟨inR_i64 (by omega) (by omega), goSame hVj⟩
                | false =>
                  simp only [Nat.mul_one, hMj, hc0, hp, hp2, hw, hw2, hm, hm2, ints, go_sem, ↓reduceIte, reduceCtorEq, Nat.reduceAdd, Nat.reduceSub, Nat.reduceLT, Nat.reduceLeDiff]
                  intro _
                  refine ⟨fun hl0 => ?_, fun hl0 => ?_⟩
                  · have hl0' : 0 < l.length := by omega
                    have hlg : l[0]? = some (getI l 0) := getI_get (W := l) (x := 0) (by omega) (by omega)
                    rw [if_pos ⟨hc0, rfl, rfl, hl0'⟩] at hVj
                    simp only [c9r13, hm, hm2, ints, Int.toNat_zero, hl0', hlg, go_sem, ↓reduceIte, reduceCtorEq, Nat.reduceAdd, Nat.reduceSub, Nat.reduceLT, Nat.reduceLeDiff]
                    refine ⟨by omega, ?_⟩
                    have hsp : splice (M.map (SV.int .i64)) (j * 1) [SV.int .i64 (getI l 0)] = (M.set j (getI l 0)).map (SV.int .i64) := by rw [Nat.mul_one]; exact splice_rowG (e := SV.int .i64) (x := getI l 0) (by omega)
                    rw [hsp]
                    simp only [c9r14, c9l15m, go_sem, ↓reduceIte, reduceCtorEq, Nat.reduceAdd, Nat.reduceSub, Nat.reduceLT, Nat.reduceLeDiff]
                    exact ⟨inR_i64 (by omega) (by omega), goOn _ hVj⟩
                  · rw [if_neg (by omega)] at hVj
                    simp only [c9r14, c9l15m, go_sem, ↓reduceIte, reduceCtorEq, Nat.reduceAdd, Nat.reduceSub, Nat.reduceLT, Nat.reduceLeDiff]
                    exact ⟨inR_i64 (by omega) (by omega), goSame hVj⟩
            · rw [if_neg (by omega)] at hVj
              simp only [Nat.mul_one, hMj, hc0, c9r14, c9l15m, go_sem, ↓reduceIte, reduceCtorEq, Nat.reduceAdd, Nat.reduceSub, Nat.reduceLT, Nat.reduceLeDiff]
              exact ⟨inR_i64 (by omega) (by omega), goSame hVj⟩
          · have hje : j = mv.length := by omega
            subst hje
            rw [hM] at q35
            simp only [c9r16, go_sem, ↓reduceIte, reduceCtorEq, Nat.reduceAdd, Nat.reduceSub, Nat.reduceLT, Nat.reduceLeDiff]
            refine callK_of (by simp only [mach, bools, ints, go_sem, ↓reduceIte, reduceCtorEq, Nat.reduceAdd, Nat.reduceSub, Nat.reduceLT, Nat.reduceLeDiff]) q37 (.inl rfl) ?_
            simp only [c9r17, go_sem, ↓reduceIte, reduceCtorEq, Nat.reduceAdd, Nat.reduceSub, Nat.reduceLT, Nat.reduceLeDiff]
            have hroO : rowOf 0 mv.length 1 (O.map (SV.int .i64)) = some (O.map (SV.int .i64)) := rowOf_all (by rw [List.length_map]; omega)
            have hroM : rowOf 0 mv.length 1 (M.map (SV.int .i64)) = some (M.map (SV.int .i64)) := rowOf_all (by rw [List.length_map]; omega)
            have hso : sliceOf 0 mv.length 1 (O.map (SV.int .i64)) = some (.slice (O.map (SV.int .i64))) := by
              unfold sliceOf
              rw [if_pos (by rw [List.length_map]; omega)]
              simp [elems]
              exact List.take_of_length_le (by rw [List.length_map]; omega)
            refine callK_of (by simp only [hso, mach, bools, ints, go_sem, ↓reduceIte, reduceCtorEq, Nat.reduceAdd, Nat.reduceSub, Nat.reduceLT, Nat.reduceLeDiff]) q37b (.inl rfl) ?_
            simp only [c9r18, go_sem, ↓reduceIte, reduceCtorEq, Nat.reduceAdd, Nat.reduceSub, Nat.reduceLT, Nat.reduceLeDiff]
            refine ⟨_, hroM, ?_⟩
            refine callK_of (by simp only [mach, bools, ints, go_sem, ↓reduceIte, reduceCtorEq, Nat.reduceAdd, Nat.reduceSub, Nat.reduceLT, Nat.reduceLeDiff]) q35 (.inr (by simp only [mach, bools, ints, go_sem, ↓reduceIte, reduceCtorEq, Nat.reduceAdd, Nat.reduceSub, Nat.reduceLT, Nat.reduceLeDiff])) ?_
            simp only [c9r19, go_sem, ↓reduceIte, reduceCtorEq, Nat.reduceAdd, Nat.reduceSub, Nat.reduceLT, Nat.reduceLeDiff]
            refine ⟨_, hroO, ?_⟩
            refine callK_of (by simp only [mach, bools, ints, go_sem, ↓reduceIte, reduceCtorEq, Nat.reduceAdd, Nat.reduceSub, Nat.reduceLT, Nat.reduceLeDiff]) q35b (.inr (by simp only [mach, bools, ints, go_sem, ↓reduceIte, reduceCtorEq, Nat.reduceAdd, Nat.reduceSub, Nat.reduceLT, Nat.reduceLeDiff])) ?_
            have hpn : ¬ ((mv.length : Int) < P.length) := by omega
            simp only [c9r20, ints, hpn, c9r22, go_sem, ↓reduceIte, reduceCtorEq, Nat.reduceAdd, Nat.reduceSub, Nat.reduceLT, Nat.reduceLeDiff]
            intro _
            refine callK_of rfl (k49 (xs := K) (v := i)) (.inl rfl) ?_
            rw [q49]
            by_cases hdi : getI D i < 0
            · obtain ⟨rfl, rfl, e8⟩ := e7 hdi
              have hd0 : ¬ (0 ≤ getI D i) := by omega
              simp only [hdi, hd0, c9r24, Bool.not_true, go_sem, ↓reduceIte, reduceCtorEq, Nat.reduceAdd, Nat.reduceSub, Nat.reduceLT, Nat.reduceLeDiff]
              refine loop_rule (fun n τ => ∃ j : Nat, n = P.length - j ∧ j ≤ P.length ∧
                τ = ⟨[.any, .any, .any, .any, .any, .any, .any, .any, .any, .any, .s (ints K), .any, .any, .any, .any, .any, .any, .any, .any, .s (.bool false), .s (.bool false), .any, .any, .s (ints P), .s (.bool false), .any, .s (.int .i64 j), .any, .any, .any, .any, .any, .any, .any, .any, .any, .any, .any, .any, .any, .any, .any, .any, .any, .any, .any, .any, .any, .any, .any, .any, .any, .any, .any, .any, .any, .any, .any, .any, .any, .any, .any, .any, .any, .any, .any, .any, .any, .any, .any, .any, .any, .any, .any, .any, .any, .any, .any, .any, .any, .any, .any, .any, .any, .any, .any, .any, .any, .any, .any, .any, .any, .any, .any, .any, .any, .any, .any, .any, .any, .any, .any, .any, .any, .any, .any, .any, .any, .any, .any, .any, .any, .any, .any, .any, .any, .any, .any, .any, .any, .any, .any, .any, .any, .any, .any, .any, .any, .any, .any, .any, .any, .any, .any, .any, .any, .any, .any, .any, .any, .any, .any, .any, .any, .any, .any, .any, .any, .any, .any, .any, .any, .any, .any, .any, .any, .any, .any, .any, .any, .any, .any, .any, .any, .any, .any, .any, .any, .any, .any, .any, .any, .any, .any, .any, .any, .any, .any, .any, .any, .any, .any, .any, .any, .any, .any, .any, .any, .any, .any, .any, .any, .any, .any, .any, .any, .any, .any, .any, .any, .any, .any, .any, .any, .any, .any, .any, .any, .any, .any, .any, .any, .any, .any, .any, .any, .any, .any, .any, .any, .any, .any, .any, .any, .any, .any, .any, .any, .any, .any, .any, .any, .any, .any, .any, .any, .any, .any, .any], [.frz (O.map (SV.int .i64)), .frz (M.map (SV.int .i64))]⟩) P.length rfl ?_ ?_
              · simp only [c9l29m, go_sem, ↓reduceIte, reduceCtorEq, Nat.reduceAdd, Nat.reduceSub, Nat.reduceLT, Nat.reduceLeDiff]
                exact ⟨0, rfl, Nat.zero_le _, rfl⟩
              · rintro I2 n τ ⟨j, rfl, hj, rfl⟩ hI2
                simp only [c9l29, c9r25, ints, go_sem, ↓reduceIte, reduceCtorEq, Nat.reduceAdd, Nat.reduceSub, Nat.reduceLT, Nat.reduceLeDiff]
                intro _
                refine ⟨fun hlj => ?_, fun hgj => ?_⟩
                · have hlj' : j < P.length := by omega
                  have hy := getI_nat (W := P) (i := j) hlj'
                  have hyp := e8 _ (List.mem_of_getElem? hy)
                  have hk2 := hkp _ hyp.1.1 hyp.1.2
                  generalize getI P j = y at *
                  have hy2 : decide (getI D y < 0) = true := by simpa using hyp.2
                  rw [hy2] at hk2
                  simp only [c9r26, hy, hlj', go_sem, ↓reduceIte, reduceCtorEq, Nat.reduceAdd, Nat.reduceSub, Nat.reduceLT, Nat.reduceLeDiff]
                  refine callK_of rfl (k49 (xs := K) (v := y)) (.inl rfl) ?_
                  rw [hk2]
                  simp only [c9r28, c9l29m, go_sem, ↓reduceIte, reduceCtorEq, Nat.reduceAdd, Nat.reduceSub, Nat.reduceLT, Nat.reduceLeDiff]
                  exact ⟨inR_i64 (by omega) (by omega), hI2 (P.length - (j + 1)) _ (by omega) ⟨j + 1, rfl, by omega, by simp [ints]⟩⟩
                · simp only [c9r30, go_sem, ↓reduceIte, reduceCtorEq, Nat.reduceAdd, Nat.reduceSub, Nat.reduceLT, Nat.reduceLeDiff]
                  refine wk _ _ ?_
                  simp only [go_sem, ↓reduceIte, reduceCtorEq, Nat.reduceAdd, Nat.reduceSub, Nat.reduceLT, Nat.reduceLeDiff]
            · have hd0 : 0 ≤ getI D i := by omega
              have hwon := e6 hd0
              subst hwon
              simp only [hdi, hd0, c9r23, go_sem, ↓reduceIte, reduceCtorEq, Nat.reduceAdd, Nat.reduceSub, Nat.reduceLT, Nat.reduceLeDiff]
              refine wk _ _ ?_
              simp only [go_sem, ↓reduceIte, reduceCtorEq, Nat.reduceAdd, Nat.reduceSub, Nat.reduceLT, Nat.reduceLeDiff]
end Go.Proofs.Ytglmjdpmpgphkaa.Sk
