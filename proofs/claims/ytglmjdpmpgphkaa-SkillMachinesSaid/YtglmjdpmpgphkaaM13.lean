/- The code of a law in the value semantics. -/
import Derived.Test.YtglmjdpmpgphkaaM12

set_option linter.all false

namespace Go.Proofs.Ytglmjdpmpgphkaa.Sk
open Go Go.E

/-! 3 pennyfall/pennyfalllaw03.SkillMachines, 1 and 0 -/
def c3r0 : List AOper := [
 ⟨some 1, none, .boxS (.t 0)⟩,
 ⟨some 2, none, .mov (.c (.s (.bool false)))⟩]
def c3r1 : List AOper := [
 ⟨some 7, none, .load 3 true (.t 1)⟩,
 ⟨some 8, none, .call 16 [(.t 7)]⟩]
def c3r2 : List AOper := [
 ⟨some 9, none, .call 17 []⟩,
 ⟨some 2, none, .mov (.t 9)⟩]
def c3r3 : List AOper := [
 ⟨some 11, none, .load 3 true (.t 1)⟩,
 ⟨some 12, none, .call 18 [(.t 11)]⟩,
 ⟨some 10, none, .mov (.t 12)⟩,
 ⟨some 13, none, .ext (.t 10) 0⟩,
 ⟨some 14, none, .ext (.t 10) 1⟩,
 ⟨some 3, none, .mov (.t 13)⟩,
 ⟨some 4, none, .mov (.t 14)⟩]
def c3r4 : List AOper := [
 ⟨some 16, none, .load 3 true (.t 1)⟩,
 ⟨some 17, none, .call 19 [(.t 16)]⟩,
 ⟨some 15, none, .mov (.t 17)⟩,
 ⟨some 18, none, .ext (.t 15) 0⟩,
 ⟨some 19, none, .ext (.t 15) 1⟩,
 ⟨some 5, none, .mov (.t 18)⟩,
 ⟨some 6, none, .mov (.t 19)⟩]
def c3r5 : List AOper := [
 ⟨some 20, none, .load 3 true (.t 1)⟩,
 ⟨some 21, none, .call 20 [(.t 20)]⟩,
 ⟨some 22, none, .load 3 true (.t 1)⟩,
 ⟨some 23, none, .call 21 [(.t 22)]⟩,
 ⟨some 24, none, .cmp .eql (.t 21) (.t 23)⟩,
 ⟨some 25, none, .mov (.t 24)⟩,
 ⟨some 26, some (25, true), .mov (.t 3)⟩,
 ⟨some 27, some (25, true), .mov (.t 5)⟩,
 ⟨some 28, some (25, true), .call 22 [(.t 26), (.t 27)]⟩,
 ⟨some 29, none, .pick (.t 25) (.t 28) (.c (.s (.bool false)))⟩,
 ⟨some 30, none, .mov (.t 29)⟩,
 ⟨some 31, some (30, true), .mov (.t 4)⟩,
 ⟨some 32, some (30, true), .mov (.t 6)⟩,
 ⟨some 33, some (30, true), .cmp .eql (.t 31) (.t 32)⟩,
 ⟨some 34, none, .pick (.t 30) (.t 33) (.c (.s (.bool false)))⟩,
 ⟨some 35, none, .mov (.t 34)⟩,
 ⟨some 36, some (35, true), .call 17 []⟩,
 ⟨some 37, none, .pick (.t 35) (.t 36) (.c (.s (.bool false)))⟩,
 ⟨some 2, none, .mov (.t 37)⟩]
def f3 : FRow := ⟨(.seq (.reg 0 c3r0) (.seq (.seq (.reg 0 c3r1) (.cond (.t 8) (.seq (.reg 0 c3r2) .ret) .skip)) (.seq (.reg 0 c3r3) (.seq (.reg 0 c3r4) (.seq (.reg 0 c3r5) .ret))))), [.tmp 2], 38⟩
theorem okf3 : f3.Ok Try.prog 3 := ⟨_, _, Try.func3, rfl, by kernel_rfl, by kernel_rfl, by kernel_rfl⟩


end Go.Proofs.Ytglmjdpmpgphkaa.Sk

/- SkillMachines, reckoned: at every machine it answers true. -/
namespace Go.Proofs.Ytglmjdpmpgphkaa.Sk
open Go Go.E Go.E.Sm
set_option maxRecDepth 10000

theorem distR_eq (pl : List Bool) (mv : List (List Int)) (wn : List Bool) : ∃ (D : List Int) (e : Int), distR pl mv wn = [ints D, .int .i64 e] := by
  unfold distR
  split
  · exact ⟨_, _, rfl⟩
  · exact ⟨[], _, rfl⟩

theorem law3 {pl wn : List Bool} {mv : List (List Int)} : E.Fn Try.prog 3 [mach pl mv wn] [.bool true] := by
  refine fn_of_row okf3 ?_
  simp only [FRow.start, f3, c3r0, c3r1, mach, bools, go_sem, List.replicate, List.append_nil, List.cons_append, List.nil_append, List.length_cons, List.length_nil, List.map_cons, List.map_nil, List.getElem?_cons_zero, List.getElem?_cons_succ, Nat.reduceAdd, Nat.reduceSub, Nat.reduceLT, Nat.reduceLeDiff, and_true, true_and, forall_const, if_true, if_false, ↓reduceIte, Int.toNat_natCast, List.getElem?_map, Option.map_some, Option.bind_some, Bool.not_true, Bool.not_false, reduceCtorEq, List.take_nil, List.length_map, eq_self, List.all_cons, List.all_nil, Bool.and_true, Int.ofNat_lt, Bool.and_self, finK, resK, Int.natCast_nonneg, implies_true, List.take_zero, Nat.zero_add, List.drop_zero, List.drop_succ_cons, List.take_succ_cons, List.set_cons_zero, List.set_cons_succ, decide_true, decide_false, Int.le_refl, Nat.le_refl, List.flatten_cons, List.flatten_nil]
  refine callK_of rfl (k16 (pl := pl) (mv := mv) (wn := wn)) (.inl rfl) ?_
  cases hg : greatB pl mv wn with
  | true =>
    simp only [c3r2, go_sem, List.replicate, List.append_nil, List.cons_append, List.nil_append, List.length_cons, List.length_nil, List.map_cons, List.map_nil, List.getElem?_cons_zero, List.getElem?_cons_succ, Nat.reduceAdd, Nat.reduceSub, Nat.reduceLT, Nat.reduceLeDiff, and_true, true_and, forall_const, if_true, if_false, ↓reduceIte, Int.toNat_natCast, List.getElem?_map, Option.map_some, Option.bind_some, Bool.not_true, Bool.not_false, reduceCtorEq, List.take_nil, List.length_map, eq_self, List.all_cons, List.all_nil, Bool.and_true, Int.ofNat_lt, Bool.and_self, finK, resK, Int.natCast_nonneg, implies_true, List.take_zero, Nat.zero_add, List.drop_zero, List.drop_succ_cons, List.take_succ_cons, List.set_cons_zero, List.set_cons_succ, decide_true, decide_false, Int.le_refl, Nat.le_refl, List.flatten_cons, List.flatten_nil]
    refine callK_of rfl works_ok (.inl rfl) ?_
    simp only [go_sem, List.replicate, List.append_nil, List.cons_append, List.nil_append, List.length_cons, List.length_nil, List.map_cons, List.map_nil, List.getElem?_cons_zero, List.getElem?_cons_succ, Nat.reduceAdd, Nat.reduceSub, Nat.reduceLT, Nat.reduceLeDiff, and_true, true_and, forall_const, if_true, if_false, ↓reduceIte, Int.toNat_natCast, List.getElem?_map, Option.map_some, Option.bind_some, Bool.not_true, Bool.not_false, reduceCtorEq, List.take_nil, List.length_map, eq_self, List.all_cons, List.all_nil, Bool.and_true, Int.ofNat_lt, Bool.and_self, finK, resK, Int.natCast_nonneg, implies_true, List.take_zero, Nat.zero_add, List.drop_zero, List.drop_succ_cons, List.take_succ_cons, List.set_cons_zero, List.set_cons_succ, decide_true, decide_false, Int.le_refl, Nat.le_refl, List.flatten_cons, List.flatten_nil]
  | false =>
    simp only [c3r3, go_sem, List.replicate, List.append_nil, List.cons_append, List.nil_append, List.length_cons, List.length_nil, List.map_cons, List.map_nil, List.getElem?_cons_zero, List.getElem?_cons_succ, Nat.reduceAdd, Nat.reduceSub, Nat.reduceLT, Nat.reduceLeDiff, and_true, true_and, forall_const, if_true, if_false, ↓reduceIte, Int.toNat_natCast, List.getElem?_map, Option.map_some, Option.bind_some, Bool.not_true, Bool.not_false, reduceCtorEq, List.take_nil, List.length_map, eq_self, List.all_cons, List.all_nil, Bool.and_true, Int.ofNat_lt, Bool.and_self, finK, resK, Int.natCast_nonneg, implies_true, List.take_zero, Nat.zero_add, List.drop_zero, List.drop_succ_cons, List.take_succ_cons, List.set_cons_zero, List.set_cons_succ, decide_true, decide_false, Int.le_refl, Nat.le_refl, List.flatten_cons, List.flatten_nil]
    obtain ⟨D, e, hd⟩ := distR_eq pl mv wn
    refine callK_of rfl (k18 (pl := pl) (mv := mv) (wn := wn)) (.inr rfl) ?_
    rw [hd]
    simp only [c3r4, go_sem, List.replicate, List.append_nil, List.cons_append, List.nil_append, List.length_cons, List.length_nil, List.map_cons, List.map_nil, List.getElem?_cons_zero, List.getElem?_cons_succ, Nat.reduceAdd, Nat.reduceSub, Nat.reduceLT, Nat.reduceLeDiff, and_true, true_and, forall_const, if_true, if_false, ↓reduceIte, Int.toNat_natCast, List.getElem?_map, Option.map_some, Option.bind_some, Bool.not_true, Bool.not_false, reduceCtorEq, List.take_nil, List.length_map, eq_self, List.all_cons, List.all_nil, Bool.and_true, Int.ofNat_lt, Bool.and_self, finK, resK, Int.natCast_nonneg, implies_true, List.take_zero, Nat.zero_add, List.drop_zero, List.drop_succ_cons, List.take_succ_cons, List.set_cons_zero, List.set_cons_succ, decide_true, decide_false, Int.le_refl, Nat.le_refl, List.flatten_cons, List.flatten_nil]
    refine callK_of rfl (k19 (pl := pl) (mv := mv) (wn := wn)) (.inr rfl) ?_
    rw [hd]
    simp only [c3r5, go_sem, List.replicate, List.append_nil, List.cons_append, List.nil_append, List.length_cons, List.length_nil, List.map_cons, List.map_nil, List.getElem?_cons_zero, List.getElem?_cons_succ, Nat.reduceAdd, Nat.reduceSub, Nat.reduceLT, Nat.reduceLeDiff, and_true, true_and, forall_const, if_true, if_false, ↓reduceIte, Int.toNat_natCast, List.getElem?_map, Option.map_some, Option.bind_some, Bool.not_true, Bool.not_false, reduceCtorEq, List.take_nil, List.length_map, eq_self, List.all_cons, List.all_nil, Bool.and_true, Int.ofNat_lt, Bool.and_self, finK, resK, Int.natCast_nonneg, implies_true, List.take_zero, Nat.zero_add, List.drop_zero, List.drop_succ_cons, List.take_succ_cons, List.set_cons_zero, List.set_cons_succ, decide_true, decide_false, Int.le_refl, Nat.le_refl, List.flatten_cons, List.flatten_nil]
    refine callK_of rfl (k20 (pl := pl) (mv := mv) (wn := wn)) (.inl rfl) ?_
    simp only [go_sem, List.replicate, List.append_nil, List.cons_append, List.nil_append, List.length_cons, List.length_nil, List.map_cons, List.map_nil, List.getElem?_cons_zero, List.getElem?_cons_succ, Nat.reduceAdd, Nat.reduceSub, Nat.reduceLT, Nat.reduceLeDiff, and_true, true_and, forall_const, if_true, if_false, ↓reduceIte, Int.toNat_natCast, List.getElem?_map, Option.map_some, Option.bind_some, Bool.not_true, Bool.not_false, reduceCtorEq, List.take_nil, List.length_map, eq_self, List.all_cons, List.all_nil, Bool.and_true, Int.ofNat_lt, Bool.and_self, finK, resK, Int.natCast_nonneg, implies_true, List.take_zero, Nat.zero_add, List.drop_zero, List.drop_succ_cons, List.take_succ_cons, List.set_cons_zero, List.set_cons_succ, decide_true, decide_false, Int.le_refl, Nat.le_refl, List.flatten_cons, List.flatten_nil]
    refine callK_of rfl (k21 (pl := pl) (mv := mv) (wn := wn)) (.inl rfl) ?_
    simp only [go_sem, List.replicate, List.append_nil, List.cons_append, List.nil_append, List.length_cons, List.length_nil, List.map_cons, List.map_nil, List.getElem?_cons_zero, List.getElem?_cons_succ, Nat.reduceAdd, Nat.reduceSub, Nat.reduceLT, Nat.reduceLeDiff, and_true, true_and, forall_const, if_true, if_false, ↓reduceIte, Int.toNat_natCast, List.getElem?_map, Option.map_some, Option.bind_some, Bool.not_true, Bool.not_false, reduceCtorEq, List.take_nil, List.length_map, eq_self, List.all_cons, List.all_nil, Bool.and_true, Int.ofNat_lt, Bool.and_self, finK, resK, Int.natCast_nonneg, implies_true, List.take_zero, Nat.zero_add, List.drop_zero, List.drop_succ_cons, List.take_succ_cons, List.set_cons_zero, List.set_cons_succ, decide_true, decide_false, Int.le_refl, Nat.le_refl, List.flatten_cons, List.flatten_nil]
    refine callK_of rfl (k22 (a := D) (b := D)) (.inl rfl) ?_
    simp only [go_sem, List.replicate, List.append_nil, List.cons_append, List.nil_append, List.length_cons, List.length_nil, List.map_cons, List.map_nil, List.getElem?_cons_zero, List.getElem?_cons_succ, Nat.reduceAdd, Nat.reduceSub, Nat.reduceLT, Nat.reduceLeDiff, and_true, true_and, forall_const, if_true, if_false, ↓reduceIte, Int.toNat_natCast, List.getElem?_map, Option.map_some, Option.bind_some, Bool.not_true, Bool.not_false, reduceCtorEq, List.take_nil, List.length_map, eq_self, List.all_cons, List.all_nil, Bool.and_true, Int.ofNat_lt, Bool.and_self, finK, resK, Int.natCast_nonneg, implies_true, List.take_zero, Nat.zero_add, List.drop_zero, List.drop_succ_cons, List.take_succ_cons, List.set_cons_zero, List.set_cons_succ, decide_true, decide_false, Int.le_refl, Nat.le_refl, List.flatten_cons, List.flatten_nil]
    refine callK_of rfl works_ok (.inl rfl) ?_
    simp only [go_sem, List.replicate, List.append_nil, List.cons_append, List.nil_append, List.length_cons, List.length_nil, List.map_cons, List.map_nil, List.getElem?_cons_zero, List.getElem?_cons_succ, Nat.reduceAdd, Nat.reduceSub, Nat.reduceLT, Nat.reduceLeDiff, and_true, true_and, forall_const, if_true, if_false, ↓reduceIte, Int.toNat_natCast, List.getElem?_map, Option.map_some, Option.bind_some, Bool.not_true, Bool.not_false, reduceCtorEq, List.take_nil, List.length_map, eq_self, List.all_cons, List.all_nil, Bool.and_true, Int.ofNat_lt, Bool.and_self, finK, resK, Int.natCast_nonneg, implies_true, List.take_zero, Nat.zero_add, List.drop_zero, List.drop_succ_cons, List.take_succ_cons, List.set_cons_zero, List.set_cons_succ, decide_true, decide_false, Int.le_refl, Nat.le_refl, List.flatten_cons, List.flatten_nil]
end Go.Proofs.Ytglmjdpmpgphkaa.Sk
