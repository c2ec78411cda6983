/- The code of a law in the value semantics. -/
import Derived.Test.YtglmjdpmpgphkaaM13

set_option linter.all false

namespace Go.Proofs.Ytglmjdpmpgphkaa.Sk
open Go Go.E

/-! 11 pennyfall/pennyfalllaw03.SkillLess, 3 and 0 -/
def c11r0 : List AOper := [
 ⟨some 3, none, .boxS (.t 0)⟩,
 ⟨some 6, none, .mov (.c (.s (.bool false)))⟩]
def c11r1 : List AOper := [
 ⟨some 18, none, .load 3 true (.t 3)⟩,
 ⟨some 19, none, .call 47 [(.t 18)]⟩,
 ⟨some 20, none, .not (.t 19)⟩]
def c11r2 : List AOper := [
 ⟨some 21, none, .call 17 []⟩,
 ⟨some 6, none, .mov (.t 21)⟩]
def c11r3 : List AOper := [
 ⟨some 22, none, .fieldAddr 1 (.t 3)⟩,
 ⟨some 23, none, .load 1 false (.t 22)⟩,
 ⟨some 24, none, .len false (.t 23)⟩,
 ⟨some 7, none, .mov (.t 24)⟩]
def c11r4 : List AOper := [
 ⟨some 25, none, .mov (.t 1)⟩,
 ⟨some 26, none, .conv .i64 (.t 25)⟩,
 ⟨some 27, none, .mov (.t 7)⟩,
 ⟨some 28, none, .div .rem (.t 26) (.t 27)⟩,
 ⟨some 29, none, .mov (.t 2)⟩,
 ⟨some 30, none, .conv .i64 (.t 29)⟩,
 ⟨some 31, none, .mov (.t 7)⟩,
 ⟨some 32, none, .div .rem (.t 30) (.t 31)⟩,
 ⟨some 8, none, .mov (.t 28)⟩,
 ⟨some 9, none, .mov (.t 32)⟩]
def c11r5 : List AOper := [
 ⟨some 33, none, .fieldAddr 0 (.t 3)⟩,
 ⟨some 34, none, .load 1 false (.t 33)⟩,
 ⟨some 35, none, .fieldAddr 2 (.t 3)⟩,
 ⟨some 36, none, .load 1 false (.t 35)⟩,
 ⟨some 37, none, .buildSl 1 0 (.slice []) []⟩,
 ⟨some 38, none, .fieldAddr 1 (.t 3)⟩,
 ⟨some 39, none, .load 1 false (.t 38)⟩,
 ⟨some 40, none, .appendN 1 24 (.t 37) (.t 39)⟩,
 ⟨some 41, none, .build [(.full []), (.full []), (.full [])] [(0, 1, (.t 34)), (2, 1, (.t 36)), (1, 1, (.t 40))]⟩,
 ⟨some 10, none, .alloc [(.full []), (.full []), (.full [])]⟩,
 ⟨none, none, .store 3 (.t 10) (.t 41)⟩]
def c11r6 : List AOper := [
 ⟨some 42, none, .fieldAddr 0 (.t 3)⟩,
 ⟨some 43, none, .load 1 false (.t 42)⟩,
 ⟨some 44, none, .buildSl 1 0 (.bool false) []⟩,
 ⟨some 45, none, .fieldAddr 2 (.t 3)⟩,
 ⟨some 46, none, .load 1 false (.t 45)⟩,
 ⟨some 47, none, .appendN 1 1 (.t 44) (.t 46)⟩,
 ⟨some 48, none, .fieldAddr 1 (.t 3)⟩,
 ⟨some 49, none, .load 1 false (.t 48)⟩,
 ⟨some 50, none, .build [(.full []), (.full []), (.full [])] [(0, 1, (.t 43)), (2, 1, (.t 47)), (1, 1, (.t 49))]⟩,
 ⟨some 11, none, .alloc [(.full []), (.full []), (.full [])]⟩,
 ⟨none, none, .store 3 (.t 11) (.t 50)⟩]
def c11r7 : List AOper := [
 ⟨some 51, none, .fieldAddr 1 (.t 10)⟩,
 ⟨some 52, none, .load 1 false (.t 51)⟩,
 ⟨some 53, none, .mov (.t 8)⟩,
 ⟨some 54, none, .fieldAddr 1 (.t 3)⟩,
 ⟨some 55, none, .load 1 false (.t 54)⟩,
 ⟨some 56, none, .mov (.t 8)⟩,
 ⟨some 57, none, .idxA 1 (.t 55) (.t 56)⟩,
 ⟨some 58, none, .load 1 false (.t 57)⟩,
 ⟨some 59, none, .mov (.t 9)⟩,
 ⟨some 60, none, .call 51 [(.t 58), (.t 59)]⟩,
 ⟨some 61, none, .idxA 1 (.t 52) (.t 53)⟩,
 ⟨none, none, .store 1 (.t 61) (.t 60)⟩]
def c11r8 : List AOper := [
 ⟨some 62, none, .fieldAddr 2 (.t 11)⟩,
 ⟨some 63, none, .load 1 false (.t 62)⟩,
 ⟨some 64, none, .mov (.t 8)⟩,
 ⟨some 65, none, .idxA 1 (.t 63) (.t 64)⟩,
 ⟨none, none, .store 1 (.t 65) (.c (.s (.bool true)))⟩]
def c11r9 : List AOper := [
 ⟨some 67, none, .load 3 true (.t 3)⟩,
 ⟨some 68, none, .call 48 [(.t 67)]⟩,
 ⟨some 66, none, .mov (.t 68)⟩,
 ⟨some 69, none, .ext (.t 66) 0⟩,
 ⟨some 70, none, .ext (.t 66) 1⟩,
 ⟨some 12, none, .mov (.t 69)⟩,
 ⟨some 13, none, .mov (.t 70)⟩]
def c11r10 : List AOper := [
 ⟨some 72, none, .load 3 true (.t 10)⟩,
 ⟨some 73, none, .call 48 [(.t 72)]⟩,
 ⟨some 71, none, .mov (.t 73)⟩,
 ⟨some 74, none, .ext (.t 71) 0⟩,
 ⟨some 75, none, .ext (.t 71) 1⟩,
 ⟨some 14, none, .mov (.t 74)⟩,
 ⟨some 15, none, .mov (.t 75)⟩]
def c11r11 : List AOper := [
 ⟨some 77, none, .load 3 true (.t 11)⟩,
 ⟨some 78, none, .call 48 [(.t 77)]⟩,
 ⟨some 76, none, .mov (.t 78)⟩,
 ⟨some 79, none, .ext (.t 76) 0⟩,
 ⟨some 80, none, .ext (.t 76) 1⟩,
 ⟨some 16, none, .mov (.t 79)⟩,
 ⟨some 17, none, .mov (.t 80)⟩]
def c11r12 : List AOper := [
 ⟨some 81, none, .mov (.t 13)⟩,
 ⟨some 82, none, .not (.t 81)⟩,
 ⟨some 83, none, .mov (.t 82)⟩,
 ⟨some 84, some (83, false), .mov (.t 15)⟩,
 ⟨some 85, some (83, false), .not (.t 84)⟩,
 ⟨some 86, none, .pick (.t 83) (.c (.s (.bool true))) (.t 85)⟩,
 ⟨some 87, none, .mov (.t 86)⟩,
 ⟨some 88, some (87, false), .mov (.t 17)⟩,
 ⟨some 89, some (87, false), .not (.t 88)⟩,
 ⟨some 90, none, .pick (.t 87) (.c (.s (.bool true))) (.t 89)⟩,
 ⟨some 91, none, .mov (.t 90)⟩,
 ⟨some 92, some (91, false), .mov (.t 12)⟩,
 ⟨some 93, some (91, false), .mov (.t 16)⟩,
 ⟨some 94, some (91, false), .call 52 [(.t 92), (.t 93)]⟩,
 ⟨some 95, some (91, false), .not (.t 94)⟩,
 ⟨some 96, none, .pick (.t 91) (.c (.s (.bool true))) (.t 95)⟩]
def c11r13 : List AOper := [
 ⟨some 6, none, .mov (.c (.s (.bool false)))⟩]
def c11r14 : List AOper := [
 ⟨some 97, none, .fieldAddr 0 (.t 3)⟩,
 ⟨some 98, none, .load 1 false (.t 97)⟩,
 ⟨some 99, none, .mov (.t 8)⟩,
 ⟨some 100, none, .idxA 1 (.t 98) (.t 99)⟩,
 ⟨some 101, none, .load 1 false (.t 100)⟩]
def c11r15 : List AOper := [
 ⟨some 102, none, .mov (.t 12)⟩,
 ⟨some 103, none, .mov (.t 14)⟩,
 ⟨some 104, none, .call 52 [(.t 102), (.t 103)]⟩,
 ⟨some 105, none, .mov (.t 104)⟩,
 ⟨some 106, some (105, true), .call 17 []⟩,
 ⟨some 107, none, .pick (.t 105) (.t 106) (.c (.s (.bool false)))⟩,
 ⟨some 6, none, .mov (.t 107)⟩]
def c11r16 : List AOper := [
 ⟨some 108, none, .fieldAddr 1 (.t 3)⟩,
 ⟨some 109, none, .load 1 false (.t 108)⟩,
 ⟨some 110, none, .mov (.t 8)⟩,
 ⟨some 111, none, .idxA 1 (.t 109) (.t 110)⟩,
 ⟨some 112, none, .load 1 false (.t 111)⟩,
 ⟨some 113, none, .len false (.t 112)⟩,
 ⟨some 114, none, .cmp .eql (.t 113) (.c (.s (.int .i64 0)))⟩,
 ⟨some 115, none, .mov (.t 114)⟩,
 ⟨some 116, some (115, false), .mov (.t 14)⟩,
 ⟨some 117, some (115, false), .mov (.t 12)⟩,
 ⟨some 118, some (115, false), .call 52 [(.t 116), (.t 117)]⟩,
 ⟨some 119, none, .pick (.t 115) (.c (.s (.bool true))) (.t 118)⟩,
 ⟨some 120, none, .mov (.t 119)⟩,
 ⟨some 121, some (120, true), .call 17 []⟩,
 ⟨some 122, none, .pick (.t 120) (.t 121) (.c (.s (.bool false)))⟩,
 ⟨some 6, none, .mov (.t 122)⟩]
def f11 : FRow := ⟨(.seq (.reg 0 c11r0) (.seq (.seq (.reg 0 c11r1) (.cond (.t 20) (.seq (.reg 0 c11r2) .ret) .skip)) (.seq (.reg 0 c11r3) (.seq (.reg 0 c11r4) (.seq (.reg 2 c11r5) (.seq (.reg 2 c11r6) (.seq (.reg 0 c11r7) (.seq (.reg 0 c11r8) (.seq (.reg 0 c11r9) (.seq (.zap 10 1 (.reg 0 c11r10)) (.seq (.zap 11 2 (.reg 0 c11r11)) (.seq (.seq (.reg 0 c11r12) (.cond (.t 96) (.seq (.reg 0 c11r13) .ret) .skip)) (.seq (.seq (.reg 0 c11r14) (.cond (.t 101) (.seq (.reg 0 c11r15) .ret) .skip)) (.seq (.reg 0 c11r16) .ret)))))))))))))), [.tmp 6], 123⟩
theorem okf11 : f11.Ok Try.prog 11 := ⟨_, _, Try.func11, rfl, by kernel_rfl, by kernel_rfl, by kernel_rfl⟩


end Go.Proofs.Ytglmjdpmpgphkaa.Sk

/- SkillLess, reckoned: at every machine and two numbers it answers true. -/
namespace Go.Proofs.Ytglmjdpmpgphkaa.Sk
open Go Go.E Go.E.Sm
set_option maxRecDepth 10000

@[go_sem] theorem awp_zap2 {P : Program} {n0 : Nat} {σ : AState} {Q : AExit → AState → Prop} {t off : Nat} {a : ACode} : (awp P n0 (.zap t off a) σ Q) = (zapK σ.hp off (fun H' => awp P n0 a ⟨σ.fr, H'⟩ Q) (fget σ.fr t)) := propext Iff.rfl

theorem flatE_ints2 : ∀ (xs : List (List Int)), flatE (xs.map ints) = xs.map ints
  | [] => rfl
  | x :: xs => by
    have ih := flatE_ints2 xs
    simp only [flatE, List.map_cons, List.flatten_cons] at ih ⊢
    rw [ih]; rfl
theorem flatE_bools : ∀ (xs : List Bool), flatE (xs.map SV.bool) = xs.map SV.bool
  | [] => rfl
  | x :: xs => by
    have ih := flatE_bools xs
    simp only [flatE, List.map_cons, List.flatten_cons] at ih ⊢
    rw [ih]; rfl

theorem law11 {pl wn : List Bool} {mv : List (List Int)} {a b : Int} (ha : 0 ≤ a ∧ a < 256) (hb : 0 ≤ b ∧ b < 256) : E.Fn Try.prog 11 [mach pl mv wn, .int .u8 a, .int .u8 b] [.bool true] := by
  refine fn_of_row okf11 ?_
  simp only [FRow.start, f11, c11r0, c11r1, mach, bools, go_sem, ↓reduceIte, reduceCtorEq, Nat.reduceAdd, Nat.reduceSub, Nat.reduceLT, Nat.reduceLeDiff]
  refine callK_of rfl (k47 (pl := pl) (mv := mv) (wn := wn)) (.inl rfl) ?_
  have wk : ∀ (H : List ABlock) (k : AK), k (LV.ofResults [.bool true]) H none True → callK Try.prog H 17 [] k := fun H k hk => callK_of rfl works_ok (.inl rfl) hk
  cases hf : (!greatB pl mv wn && decide (chkM pl mv wn = 0)) with
  | false =>
    simp only [c11r2, go_sem, ↓reduceIte, reduceCtorEq, Nat.reduceAdd, Nat.reduceSub, Nat.reduceLT, Nat.reduceLeDiff]
    refine wk _ _ ?_
    simp only [go_sem, ↓reduceIte, reduceCtorEq, Nat.reduceAdd, Nat.reduceSub, Nat.reduceLT, Nat.reduceLeDiff]
  | true =>
    simp only [Bool.and_eq_true, decide_eq_true_eq] at hf
    have hv := valid_of hf.2
    have h1 := hv.few
    have h2 := hv.pos
    simp only [c11r3, go_sem, ↓reduceIte, reduceCtorEq, Nat.reduceAdd, Nat.reduceSub, Nat.reduceLT, Nat.reduceLeDiff]
    intro _
    simp only [c11r4, go_sem, ↓reduceIte, reduceCtorEq, Nat.reduceAdd, Nat.reduceSub, Nat.reduceLT, Nat.reduceLeDiff]
    refine ⟨inR_i64 (by omega) (by omega), by omega, inR_i64 (by omega) (by omega), by omega, ?_⟩
    obtain ⟨i, hi, hin⟩ : ∃ i : Nat, a.tmod (mv.length : Int) = i ∧ i < mv.length := by
      have := Int.tmod_nonneg (mv.length : Int) ha.1
      have := Int.tmod_lt_of_pos a (show (0 : Int) < mv.length by omega)
      exact ⟨(a.tmod (mv.length : Int)).toNat, by omega, by omega⟩
    obtain ⟨k, hk, hkn⟩ : ∃ k : Nat, b.tmod (mv.length : Int) = k ∧ k < mv.length := by
      have := Int.tmod_nonneg (mv.length : Int) hb.1
      have := Int.tmod_lt_of_pos b (show (0 : Int) < mv.length by omega)
      exact ⟨(b.tmod (mv.length : Int)).toNat, by omega, by omega⟩
    rw [hi, hk]
    obtain ⟨hm, hp, hw, hm2, hp2, hw2, hins⟩ := hv.at' hin
    have hflm : flatE (mv.map ints) = mv.map ints := flatE_ints2 mv
    have hflw : flatE (wn.map SV.bool) = wn.map SV.bool := flatE_bools wn
    have hmne : mv.map ints ≠ [] := fun e => by have := congrArg List.length e; rw [List.length_map] at this; simp only [List.length_nil] at this; omega
    have hwne : wn.map SV.bool ≠ [] := fun e => by have := congrArg List.length e; rw [List.length_map] at this; simp only [List.length_nil] at this; omega
    simp only [c11r5, splice, go_sem, ↓reduceIte, reduceCtorEq, Nat.reduceAdd, Nat.reduceSub, Nat.reduceLT, Nat.reduceLeDiff]
    refine ⟨by decide, by decide, rfl, by simp, ⟨by simp, ?_, by simp only [List.length_nil, List.length_map]; omega, by simp only [List.length_nil, List.length_map]; omega, by decide⟩, fun e => absurd e hmne, fun _ => ?_⟩
    · intro y hy
      obtain ⟨z, _, rfl⟩ := List.mem_map.1 hy
      rfl
    simp only [hflm, splice, c11r6, go_sem, ↓reduceIte, reduceCtorEq, Nat.reduceAdd, Nat.reduceSub, Nat.reduceLT, Nat.reduceLeDiff]
    refine ⟨by decide, by decide, rfl, by simp, ⟨by simp, ?_, by simp only [List.length_nil, List.length_map]; have := hv.wn; omega, by simp only [List.length_nil, List.length_map]; have := hv.wn; omega, by decide⟩, fun e => absurd e hwne, fun _ => ?_⟩
    · intro y hy
      obtain ⟨z, _, rfl⟩ := List.mem_map.1 hy
      rfl
    have hris := hv.ris _ (List.mem_of_getElem? hm)
    have hwr := withL_rise (y := (k : Int)) hris (by omega)
    have hsub := withL_sub (y := (k : Int)) (by omega) hris
    have hv1 := hv.moves i _ hwr
    have hv2 := hv.won (wn.set i true) (by simp)
    have hl1 : (mv.set i (withL (mv.getD i []) k)).length = mv.length := by simp
    have hsp1 : splice (mv.map ints) i [SV.slice ((withL (mv.getD i []) k).map (SV.int .i64))] = (mv.set i (withL (mv.getD i []) k)).map ints := by
      rw [splice_set (by simpa using hin), List.map_set]; rfl
    have hsp2 : splice (wn.map SV.bool) i [SV.bool true] = (wn.set i true).map SV.bool := by
      rw [splice_set (by simpa using hw2), List.map_set]
    have hro1 : rowOf 0 mv.length 1 ((mv.set i (withL (mv.getD i []) k)).map ints) = some ((mv.set i (withL (mv.getD i []) k)).map ints) := rowOf_all (by simp)
    have hro2 : rowOf 0 wn.length 1 ((wn.set i true).map SV.bool) = some ((wn.set i true).map SV.bool) := rowOf_all (by simp)
    have hdl := distW_len hv
    have hdl1 := distW_len hv1
    have hdl2 := distW_len hv2
    have hnear2 : nearB (distW pl mv wn) (distW pl mv (wn.set i true)) = true := by
      refine near_of rfl hv.wn (by rw [List.length_set]; exact hv.wn) (fun j hj h => ?_) (fun j g g' hj h _ hw => wins_mono h hw) fun j hj => ⟨(hv.at' hj).ins, (hv.at' hj).ins⟩
      rw [getD_set hw2]
      split
      · rfl
      · exact h
    have hins1 : ∀ j, j < mv.length → (∀ x ∈ mv.getD j [], 0 ≤ x ∧ x < mv.length) ∧ (∀ x ∈ (mv.set i (withL (mv.getD i []) k)).getD j [], 0 ≤ x ∧ x < mv.length) := fun j hj => by
      refine ⟨(hv.at' hj).ins, ?_⟩
      have := (hv1.at' (i := j) (by omega)).ins
      rw [hl1] at this
      exact this
    have hnear1 : pl.getD i false = true → nearB (distW pl mv wn) (distW pl (mv.set i (withL (mv.getD i []) k)) wn) = true := fun hpt => by
      refine near_of hl1 hv.wn hv.wn (fun j hj h => h) (fun j g g' hj h h' hw => ?_) hins1
      rw [getD_set hin] at h' ⊢
      split
      · rename_i e
        subst e
        rw [if_pos rfl] at h'
        rw [hpt] at hw ⊢
        unfold wins1 at *
        simp only [if_true, List.any_eq_true] at *
        obtain ⟨x, hx, hg⟩ := hw
        exact ⟨x, hsub x hx, h x hx hg⟩
      · exact wins_mono h hw
    have hnear3 : pl.getD i false = false → mv.getD i [] ≠ [] → nearB (distW pl (mv.set i (withL (mv.getD i []) k)) wn) (distW pl mv wn) = true := fun hpf hne => by
      refine near_of (by rw [hl1]) (by rw [hl1]; exact hv.wn) (by rw [hl1]; exact hv.wn) (fun j hj h => h) (fun j g g' hj h h' hw => ?_) fun j hj => ?_
      · rw [getD_set hin] at h hw
        split at hw
        · rename_i e
          subst e
          rw [if_pos rfl] at h
          rw [hpf] at hw ⊢
          unfold wins1 at *
          simp only [Bool.false_eq_true, if_false, Bool.and_eq_true, List.all_eq_true] at *
          exact ⟨by cases hmm : mv.getD i [] with | nil => exact absurd hmm hne | cons => rfl, fun x hx => h x (hsub x hx) (hw.2 x (hsub x hx))⟩
        · rename_i e
          rw [if_neg e] at h
          exact wins_mono h hw
      · rw [hl1]
        have := hins1 j (by omega)
        exact ⟨this.2, this.1⟩
    generalize mv.getD i [] = l at *
    generalize pl.getD i false = p at *
    generalize hM : mv.set i (withL l k) = M at *
    generalize hN : wn.set i true = N at *
    simp only [hflw, splice, c11r7, hm, hm2, ints, go_sem, ↓reduceIte, reduceCtorEq, Nat.reduceAdd, Nat.reduceSub, Nat.reduceLT, Nat.reduceLeDiff]
    refine callK_of rfl (k51 (l := l) (y := (k : Int))) (.inr rfl) ?_
    simp only [ints, Nat.mul_one, Nat.zero_add, go_sem, ↓reduceIte, reduceCtorEq, Nat.reduceAdd, Nat.reduceSub, Nat.reduceLT, Nat.reduceLeDiff]
    refine ⟨by omega, by omega, ?_⟩
    rw [hsp1]
    simp only [c11r8, Nat.mul_one, Nat.zero_add, go_sem, ↓reduceIte, reduceCtorEq, Nat.reduceAdd, Nat.reduceSub, Nat.reduceLT, Nat.reduceLeDiff]
    refine ⟨by omega, by omega, ?_⟩
    rw [hsp2]
    simp only [c11r9, go_sem, ↓reduceIte, reduceCtorEq, Nat.reduceAdd, Nat.reduceSub, Nat.reduceLT, Nat.reduceLeDiff]
    refine callK_of rfl (k48 (pl := pl) (mv := mv) (wn := wn) hv) (.inr rfl) ?_
    simp only [go_sem, ↓reduceIte, reduceCtorEq, Nat.reduceAdd, Nat.reduceSub, Nat.reduceLT, Nat.reduceLeDiff]
    refine ⟨_, hro1, ?_⟩
    simp only [c11r10, go_sem, ↓reduceIte, reduceCtorEq, Nat.reduceAdd, Nat.reduceSub, Nat.reduceLT, Nat.reduceLeDiff]
    refine callK_of rfl (k48 (pl := pl) (mv := M) (wn := wn) hv1) (.inr rfl) ?_
    simp only [go_sem, ↓reduceIte, reduceCtorEq, Nat.reduceAdd, Nat.reduceSub, Nat.reduceLT, Nat.reduceLeDiff]
    refine ⟨_, hro2, ?_⟩
    simp only [c11r11, go_sem, ↓reduceIte, reduceCtorEq, Nat.reduceAdd, Nat.reduceSub, Nat.reduceLT, Nat.reduceLeDiff]
    refine callK_of rfl (k48 (pl := pl) (mv := mv) (wn := N) hv2) (.inr rfl) ?_
    simp only [c11r12, go_sem, ↓reduceIte, reduceCtorEq, Nat.reduceAdd, Nat.reduceSub, Nat.reduceLT, Nat.reduceLeDiff]
    refine callK_of rfl (k52 (a := distW pl mv wn) (b := distW pl mv N) (by omega)) (.inl rfl) ?_
    rw [hnear2]
    cases p with
    | true =>
      simp only [c11r14, hp, hp2, c11r15, go_sem, ↓reduceIte, reduceCtorEq, Nat.reduceAdd, Nat.reduceSub, Nat.reduceLT, Nat.reduceLeDiff]
      refine callK_of rfl (k52 (a := distW pl mv wn) (b := distW pl M wn) (by omega)) (.inl rfl) ?_
      rw [hnear1 rfl]
      simp only [go_sem, ↓reduceIte, reduceCtorEq, Nat.reduceAdd, Nat.reduceSub, Nat.reduceLT, Nat.reduceLeDiff]
      refine wk _ _ ?_
      simp only [go_sem, ↓reduceIte, reduceCtorEq, Nat.reduceAdd, Nat.reduceSub, Nat.reduceLT, Nat.reduceLeDiff]
    | false =>
      simp only [c11r14, hp, hp2, c11r16, hm, hm2, ints, go_sem, ↓reduceIte, reduceCtorEq, Nat.reduceAdd, Nat.reduceSub, Nat.reduceLT, Nat.reduceLeDiff]
      refine ⟨fun hl0 => ?_, fun hl0 => ?_⟩
      · refine wk _ _ ?_
        simp only [go_sem, ↓reduceIte, reduceCtorEq, Nat.reduceAdd, Nat.reduceSub, Nat.reduceLT, Nat.reduceLeDiff]
      · refine callK_of rfl (k52 (a := distW pl M wn) (b := distW pl mv wn) (by omega)) (.inl rfl) ?_
        rw [hnear3 rfl (fun e => hl0 (by rw [e]; rfl))]
        simp only [go_sem, ↓reduceIte, reduceCtorEq, Nat.reduceAdd, Nat.reduceSub, Nat.reduceLT, Nat.reduceLeDiff]
        refine wk _ _ ?_
        simp only [go_sem, ↓reduceIte, reduceCtorEq, Nat.reduceAdd, Nat.reduceSub, Nat.reduceLT, Nat.reduceLeDiff]
end Go.Proofs.Ytglmjdpmpgphkaa.Sk
