/- How many of some positions are in a set, and what one costs. -/
import Derived.Test.YtglmjdpmpgphkaaM6

set_option linter.all false

namespace Go.Proofs.Ytglmjdpmpgphkaa.Sk
open Go Go.E Go.E.Sm
set_option maxRecDepth 10000

def hasB (s i : Int) : Bool := decide (bitOf .i64 (s.fdiv (2 ^ i.toNat)) 1 .and = 1)

theorem flat_rep {α : Type} (x : α) : ∀ n : Nat, (List.replicate n [x]).flatten = List.replicate n x
  | 0 => rfl
  | n + 1 => by rw [List.replicate_succ, List.flatten_cons, flat_rep x n]; rfl

theorem splice_rep {α : Type} (x y : α) (n : Nat) : splice (List.replicate n x) 0 (List.replicate n y) = List.replicate n y := by
  simp [splice]

theorem k105 {s i : Int} (h0 : 0 ≤ i) (h1 : i < 64) : E.Fn Try.prog 105 [.int .i64 s, .int .i64 i] [.bool (hasB s i)] := by
  refine fn_of_row okf105 ?_
  simp only [FRow.start, f105, c105r0, c105r1, go_sem, List.replicate, List.append_nil, List.cons_append, List.nil_append, List.length_cons, List.length_nil, List.map_cons, List.map_nil, List.getElem?_cons_zero, List.getElem?_cons_succ, Nat.reduceAdd, Nat.reduceSub, Nat.reduceLT, Nat.reduceLeDiff, and_true, true_and, forall_const, if_true, if_false, ↓reduceIte, Int.toNat_natCast, List.getElem?_map, Option.map_some, Option.bind_some, Bool.not_true, Bool.not_false, reduceCtorEq, List.take_nil, List.length_map, eq_self, List.all_cons, List.all_nil, Bool.and_true, Int.ofNat_lt, Bool.and_self, finK, resK, Int.natCast_nonneg, implies_true, List.take_zero, Nat.zero_add, List.drop_zero, List.drop_succ_cons, List.take_succ_cons, List.set_cons_zero, List.set_cons_succ, decide_true, decide_false, Int.le_refl, Nat.le_refl, List.flatten_cons, List.flatten_nil]
  exact ⟨h0, h1, rfl⟩

def b2i (s : Int) (x : Int) : Int := if hasB s x = true then 1 else 0
def seen (s : Int) (l : List Int) (i : Nat) : List SV := (l.take i).map (fun x => .int .i64 (b2i s x)) ++ List.replicate (l.length - i) (.int .i64 0)
def cnt (s : Int) (l : List Int) : Int := (l.map (b2i s)).sum

theorem seen_len (s : Int) (l : List Int) (i : Nat) (h : i ≤ l.length) : (seen s l i).length = l.length := by
  simp [seen]; omega
theorem seen_get (s : Int) {l : List Int} {i : Nat} (h : i < l.length) : (seen s l i)[i]? = some (.int .i64 0) := by
  unfold seen
  rw [List.getElem?_append_right (by simp; omega)]
  have e : i - min i l.length = 0 := by omega
  simp only [List.length_map, List.length_take, e]
  rw [List.getElem?_replicate, if_pos (by omega)]
theorem seen_get' (s : Int) {l : List Int} {i : Nat} {y : Int} (h : l[i]? = some y) : (seen s l (i + 1))[i]? = some (.int .i64 (b2i s y)) := by
  have hl : i < l.length := (List.getElem?_eq_some_iff.1 h).1
  unfold seen
  rw [List.getElem?_append_left (by simp; omega)]
  simp [h]
theorem seen_set (s : Int) {l : List Int} {i : Nat} {y : Int} (h : l[i]? = some y) : splice (seen s l i) i [.int .i64 (b2i s y)] = seen s l (i + 1) := by
  obtain ⟨hl, hy⟩ := List.getElem?_eq_some_iff.1 h
  have e : (List.map (fun x => SV.int .i64 (b2i s x)) (l.take i)).length = i := by simp; omega
  unfold splice seen
  rw [List.take_append_of_le_length (by omega), List.take_of_length_le (by omega), List.drop_append, e]
  rw [List.take_succ, h]
  simp only [List.map_append, Option.toList_some, List.map_cons, List.map_nil, List.length_cons, List.length_nil, Nat.zero_add]
  rw [List.drop_of_length_le (by omega), show l.length - i = (l.length - (i + 1)) + 1 by omega, List.replicate_succ]
  simp
theorem seen_skip (s : Int) {l : List Int} {i : Nat} {y : Int} (h : l[i]? = some y) (hb : b2i s y = 0) : seen s l i = seen s l (i + 1) := by
  obtain ⟨hl, hy⟩ := List.getElem?_eq_some_iff.1 h
  unfold seen
  rw [List.take_succ, h, show l.length - i = (l.length - (i + 1)) + 1 by omega, List.replicate_succ]
  simp [hb]
theorem b2i_rng (s y : Int) : 0 ≤ b2i s y ∧ b2i s y ≤ 1 := by unfold b2i; split <;> omega
theorem cnt_rng (s : Int) : ∀ (l : List Int), 0 ≤ cnt s l ∧ cnt s l ≤ l.length
  | [] => by simp [cnt]
  | y :: l => by
    have := cnt_rng s l
    have := b2i_rng s y
    simp only [cnt, List.map_cons, List.sum_cons, List.length_cons] at *
    omega
theorem cnt_succ (s : Int) {l : List Int} {i : Nat} {y : Int} (h : l[i]? = some y) : cnt s (l.take (i + 1)) = cnt s (l.take i) + b2i s y := by
  simp only [cnt]
  rw [List.take_succ, h]
  simp

theorem k100 {s : Int} {l : List Int} (hl : l.length ≤ 64) (hx : ∀ x ∈ l, 0 ≤ x ∧ x < 64) : E.Fn Try.prog 100 [ints l, .int .i64 s] [.int .i64 (cnt s l)] := by
  refine fn_of_row okf100 ?_
  simp only [FRow.start, f100, c100r0, c100r1, c100r2, flat_rep, ints, go_sem, List.replicate, List.append_nil, List.cons_append, List.nil_append, List.length_cons, List.length_nil, List.map_cons, List.map_nil, List.getElem?_cons_zero, List.getElem?_cons_succ, Nat.reduceAdd, Nat.reduceSub, Nat.reduceLT, Nat.reduceLeDiff, and_true, true_and, forall_const, if_true, if_false, ↓reduceIte, Int.toNat_natCast, List.getElem?_map, Option.map_some, Option.bind_some, Bool.not_true, Bool.not_false, reduceCtorEq, List.take_nil, List.length_map, eq_self, List.all_cons, List.all_nil, Bool.and_true, Int.ofNat_lt, Bool.and_self, finK, resK, Int.natCast_nonneg, implies_true, List.take_zero, Nat.zero_add, List.drop_zero, List.drop_succ_cons, List.take_succ_cons, List.set_cons_zero, List.set_cons_succ, decide_true, decide_false, Int.le_refl, Nat.le_refl, List.flatten_cons, List.flatten_nil]
  refine ⟨by omega, by omega, fun hlen => ?_⟩
  simp only [c100r3, c100r4, c100r5, splice_rep, List.length_replicate, Nat.mul_one, go_sem, List.replicate, List.append_nil, List.cons_append, List.nil_append, List.length_cons, List.length_nil, List.map_cons, List.map_nil, List.getElem?_cons_zero, List.getElem?_cons_succ, Nat.reduceAdd, Nat.reduceSub, Nat.reduceLT, Nat.reduceLeDiff, and_true, true_and, forall_const, if_true, if_false, ↓reduceIte, Int.toNat_natCast, List.getElem?_map, Option.map_some, Option.bind_some, Bool.not_true, Bool.not_false, reduceCtorEq, List.take_nil, List.length_map, eq_self, List.all_cons, List.all_nil, Bool.and_true, Int.ofNat_lt, Bool.and_self, finK, resK, Int.natCast_nonneg, implies_true, List.take_zero, Nat.zero_add, List.drop_zero, List.drop_succ_cons, List.take_succ_cons, List.set_cons_zero, List.set_cons_succ, decide_true, decide_false, Int.le_refl, Nat.le_refl, List.flatten_cons, List.flatten_nil]
  intro _
  refine loop_rule (fun n τ => ∃ i : Nat, n = l.length - i ∧ i ≤ l.length ∧ τ = ⟨[.any, .any, .any, .any, .any, .sl 0 0 l.length 1 true, .fn 105 [.s (.int .i64 s)] [], .s (.int .i64 (cnt s (l.take i))), .any, .any, .any, .any, .any, .any, .any, .any, .s (.slice (l.map (.int .i64))), .s (.int .i64 l.length), .s (.int .i64 i), .any, .any, .any, .any, .any, .any, .any, .any, .any, .any, .any, .any, .any, .any, .any, .any, .any, .any, .any, .any, .any], [.row (seen s l i)]⟩) l.length rfl ?_ ?_
  · simp only [c100l12m, go_sem, List.replicate, List.append_nil, List.cons_append, List.nil_append, List.length_cons, List.length_nil, List.map_cons, List.map_nil, List.getElem?_cons_zero, List.getElem?_cons_succ, Nat.reduceAdd, Nat.reduceSub, Nat.reduceLT, Nat.reduceLeDiff, and_true, true_and, forall_const, if_true, if_false, ↓reduceIte, Int.toNat_natCast, List.getElem?_map, Option.map_some, Option.bind_some, Bool.not_true, Bool.not_false, reduceCtorEq, List.take_nil, List.length_map, eq_self, List.all_cons, List.all_nil, Bool.and_true, Int.ofNat_lt, Bool.and_self, finK, resK, Int.natCast_nonneg, implies_true, List.take_zero, Nat.zero_add, List.drop_zero, List.drop_succ_cons, List.take_succ_cons, List.set_cons_zero, List.set_cons_succ, decide_true, decide_false, Int.le_refl, Nat.le_refl, List.flatten_cons, List.flatten_nil]
    exact ⟨0, rfl, Nat.zero_le _, by simp [seen, cnt]⟩
  · rintro I n τ ⟨i, rfl, hi, rfl⟩ hI
    simp only [c100l12, c100r6, go_sem, List.replicate, List.append_nil, List.cons_append, List.nil_append, List.length_cons, List.length_nil, List.map_cons, List.map_nil, List.getElem?_cons_zero, List.getElem?_cons_succ, Nat.reduceAdd, Nat.reduceSub, Nat.reduceLT, Nat.reduceLeDiff, and_true, true_and, forall_const, if_true, if_false, ↓reduceIte, Int.toNat_natCast, List.getElem?_map, Option.map_some, Option.bind_some, Bool.not_true, Bool.not_false, reduceCtorEq, List.take_nil, List.length_map, eq_self, List.all_cons, List.all_nil, Bool.and_true, Int.ofNat_lt, Bool.and_self, finK, resK, Int.natCast_nonneg, implies_true, List.take_zero, Nat.zero_add, List.drop_zero, List.drop_succ_cons, List.take_succ_cons, List.set_cons_zero, List.set_cons_succ, decide_true, decide_false, Int.le_refl, Nat.le_refl, List.flatten_cons, List.flatten_nil]
    refine ⟨fun hlt => ?_, fun hge => ?_⟩
    · have hy : l[i]? = some l[i] := List.getElem?_eq_getElem hlt
      have hx' := hx _ (List.getElem_mem hlt)
      generalize l[i] = y at *
      simp only [c100r7, hy, c100r8, go_sem, List.replicate, List.append_nil, List.cons_append, List.nil_append, List.length_cons, List.length_nil, List.map_cons, List.map_nil, List.getElem?_cons_zero, List.getElem?_cons_succ, Nat.reduceAdd, Nat.reduceSub, Nat.reduceLT, Nat.reduceLeDiff, and_true, true_and, forall_const, if_true, if_false, ↓reduceIte, Int.toNat_natCast, List.getElem?_map, Option.map_some, Option.bind_some, Bool.not_true, Bool.not_false, reduceCtorEq, List.take_nil, List.length_map, eq_self, List.all_cons, List.all_nil, Bool.and_true, Int.ofNat_lt, Bool.and_self, finK, resK, Int.natCast_nonneg, implies_true, List.take_zero, Nat.zero_add, List.drop_zero, List.drop_succ_cons, List.take_succ_cons, List.set_cons_zero, List.set_cons_succ, decide_true, decide_false, Int.le_refl, Nat.le_refl, List.flatten_cons, List.flatten_nil]
      refine ⟨tbl_fn 105 rfl, callK_of rfl (k105 hx'.1 hx'.2) (.inl rfl) ?_⟩
      have hc := cnt_rng s (l.take i)
      have hcl : (l.take i).length ≤ 64 := by rw [List.length_take]; omega
      have hcs := cnt_succ s hy
      have hbr := b2i_rng s y
      cases hb : hasB s y with
      | true =>
        have hb1 : b2i s y = 1 := by simp [b2i, hb]
        have hss := seen_set s hy
        have hg' := seen_get' s hy
        rw [hb1] at hss hg' hcs
        simp only [hb, c100r9, c100r10, seen_get s hlt, seen_len s l i hi, Nat.mul_one, hss, hg', c100r11, c100l12m, Int.zero_add, go_sem, List.replicate, List.append_nil, List.cons_append, List.nil_append, List.length_cons, List.length_nil, List.map_cons, List.map_nil, List.getElem?_cons_zero, List.getElem?_cons_succ, Nat.reduceAdd, Nat.reduceSub, Nat.reduceLT, Nat.reduceLeDiff, and_true, true_and, forall_const, if_true, if_false, ↓reduceIte, Int.toNat_natCast, List.getElem?_map, Option.map_some, Option.bind_some, Bool.not_true, Bool.not_false, reduceCtorEq, List.take_nil, List.length_map, eq_self, List.all_cons, List.all_nil, Bool.and_true, Int.ofNat_lt, Bool.and_self, finK, resK, Int.natCast_nonneg, implies_true, List.take_zero, Nat.zero_add, List.drop_zero, List.drop_succ_cons, List.take_succ_cons, List.set_cons_zero, List.set_cons_succ, decide_true, decide_false, Int.le_refl, Nat.le_refl, List.flatten_cons, List.flatten_nil]
        exact ⟨hlt, inR_small (by omega) (by omega), hlt, by omega, hlt, inR_small (by omega) (by omega), inR_small (by omega) (by omega), hI (l.length - (i + 1)) _ (by omega) ⟨i + 1, rfl, by omega, by rw [hcs]; rfl⟩⟩
      | false =>
        have hb0 : b2i s y = 0 := by simp [b2i, hb]
        have hss := seen_skip s hy hb0
        rw [hb0] at hcs
        simp only [hb, c100r10, seen_get s hlt, Nat.mul_one, c100r11, c100l12m, go_sem, List.replicate, List.append_nil, List.cons_append, List.nil_append, List.length_cons, List.length_nil, List.map_cons, List.map_nil, List.getElem?_cons_zero, List.getElem?_cons_succ, Nat.reduceAdd, Nat.reduceSub, Nat.reduceLT, Nat.reduceLeDiff, and_true, true_and, forall_const, if_true, if_false, ↓reduceIte, Int.toNat_natCast, List.getElem?_map, Option.map_some, Option.bind_some, Bool.not_true, Bool.not_false, reduceCtorEq, List.take_nil, List.length_map, eq_self, List.all_cons, List.all_nil, Bool.and_true, Int.ofNat_lt, Bool.and_self, finK, resK, Int.natCast_nonneg, implies_true, List.take_zero, Nat.zero_add, List.drop_zero, List.drop_succ_cons, List.take_succ_cons, List.set_cons_zero, List.set_cons_succ, decide_true, decide_false, Int.le_refl, Nat.le_refl, List.flatten_cons, List.flatten_nil]
        exact ⟨hlt, inR_small (by omega) (by omega), inR_small (by omega) (by omega), hI (l.length - (i + 1)) _ (by omega) ⟨i + 1, rfl, by omega, by rw [hcs, hss]; rfl⟩⟩
    · have hie : i = l.length := by omega
      subst hie
      simp only [c100r13, go_sem, List.replicate, List.append_nil, List.cons_append, List.nil_append, List.length_cons, List.length_nil, List.map_cons, List.map_nil, List.getElem?_cons_zero, List.getElem?_cons_succ, Nat.reduceAdd, Nat.reduceSub, Nat.reduceLT, Nat.reduceLeDiff, and_true, true_and, forall_const, if_true, if_false, ↓reduceIte, Int.toNat_natCast, List.getElem?_map, Option.map_some, Option.bind_some, Bool.not_true, Bool.not_false, reduceCtorEq, List.take_nil, List.length_map, eq_self, List.all_cons, List.all_nil, Bool.and_true, Int.ofNat_lt, Bool.and_self, finK, resK, Int.natCast_nonneg, implies_true, List.take_zero, Nat.zero_add, List.drop_zero, List.drop_succ_cons, List.take_succ_cons, List.set_cons_zero, List.set_cons_succ, decide_true, decide_false, Int.le_refl, Nat.le_refl, List.flatten_cons, List.flatten_nil]
      simp

def costOf (p : Bool) (l : List Int) (s : Int) : Int :=
  if cnt s l = 0 then -1 else if p then 0 else l.length - cnt s l

theorem k93 {P M far : List SV} {i : Nat} {s : Int} {p : Bool} {l : List Int} (hl : l.length ≤ 64) (hx : ∀ x ∈ l, 0 ≤ x ∧ x < 64) (hm : M[i]? = some (ints l)) (hp : P[i]? = some (.bool p)) :
    E.Fn Try.prog 93 [.ptr (.slice P :: .slice M :: far), .int .i64 i, .int .i64 s] [.int .i64 (costOf p l s)] := by
  refine fn_of_row okf93 ?_
  have hml := (List.getElem?_eq_some_iff.1 hm).1
  have hpl := (List.getElem?_eq_some_iff.1 hp).1
  have hc := cnt_rng s l
  rw [ints] at hm
  simp only [FRow.start, f93, c93r0, c93r1, hm, hml, go_sem, List.replicate, List.append_nil, List.cons_append, List.nil_append, List.length_cons, List.length_nil, List.map_cons, List.map_nil, List.getElem?_cons_zero, List.getElem?_cons_succ, Nat.reduceAdd, Nat.reduceSub, Nat.reduceLT, Nat.reduceLeDiff, and_true, true_and, forall_const, if_true, if_false, ↓reduceIte, Int.toNat_natCast, List.getElem?_map, Option.map_some, Option.bind_some, Bool.not_true, Bool.not_false, reduceCtorEq, List.take_nil, List.length_map, eq_self, List.all_cons, List.all_nil, Bool.and_true, Int.ofNat_lt, Bool.and_self, finK, resK, Int.natCast_nonneg, implies_true, List.take_zero, Nat.zero_add, List.drop_zero, List.drop_succ_cons, List.take_succ_cons, List.set_cons_zero, List.set_cons_succ, decide_true, decide_false, Int.le_refl, Nat.le_refl, List.flatten_cons, List.flatten_nil]
  refine callK_of rfl (k100 hl hx) (.inl rfl) ?_
  simp only [c93r2, go_sem, List.replicate, List.append_nil, List.cons_append, List.nil_append, List.length_cons, List.length_nil, List.map_cons, List.map_nil, List.getElem?_cons_zero, List.getElem?_cons_succ, Nat.reduceAdd, Nat.reduceSub, Nat.reduceLT, Nat.reduceLeDiff, and_true, true_and, forall_const, if_true, if_false, ↓reduceIte, Int.toNat_natCast, List.getElem?_map, Option.map_some, Option.bind_some, Bool.not_true, Bool.not_false, reduceCtorEq, List.take_nil, List.length_map, eq_self, List.all_cons, List.all_nil, Bool.and_true, Int.ofNat_lt, Bool.and_self, finK, resK, Int.natCast_nonneg, implies_true, List.take_zero, Nat.zero_add, List.drop_zero, List.drop_succ_cons, List.take_succ_cons, List.set_cons_zero, List.set_cons_succ, decide_true, decide_false, Int.le_refl, Nat.le_refl, List.flatten_cons, List.flatten_nil]
  unfold costOf
  refine ⟨fun h0 => ?_, fun h0 => ?_⟩
  · simp only [c93r3, h0, go_sem, List.replicate, List.append_nil, List.cons_append, List.nil_append, List.length_cons, List.length_nil, List.map_cons, List.map_nil, List.getElem?_cons_zero, List.getElem?_cons_succ, Nat.reduceAdd, Nat.reduceSub, Nat.reduceLT, Nat.reduceLeDiff, and_true, true_and, forall_const, if_true, if_false, ↓reduceIte, Int.toNat_natCast, List.getElem?_map, Option.map_some, Option.bind_some, Bool.not_true, Bool.not_false, reduceCtorEq, List.take_nil, List.length_map, eq_self, List.all_cons, List.all_nil, Bool.and_true, Int.ofNat_lt, Bool.and_self, finK, resK, Int.natCast_nonneg, implies_true, List.take_zero, Nat.zero_add, List.drop_zero, List.drop_succ_cons, List.take_succ_cons, List.set_cons_zero, List.set_cons_succ, decide_true, decide_false, Int.le_refl, Nat.le_refl, List.flatten_cons, List.flatten_nil]
  · cases p with
    | true =>
      simp only [c93r4, hp, hpl, c93r5, h0, go_sem, List.replicate, List.append_nil, List.cons_append, List.nil_append, List.length_cons, List.length_nil, List.map_cons, List.map_nil, List.getElem?_cons_zero, List.getElem?_cons_succ, Nat.reduceAdd, Nat.reduceSub, Nat.reduceLT, Nat.reduceLeDiff, and_true, true_and, forall_const, if_true, if_false, ↓reduceIte, Int.toNat_natCast, List.getElem?_map, Option.map_some, Option.bind_some, Bool.not_true, Bool.not_false, reduceCtorEq, List.take_nil, List.length_map, eq_self, List.all_cons, List.all_nil, Bool.and_true, Int.ofNat_lt, Bool.and_self, finK, resK, Int.natCast_nonneg, implies_true, List.take_zero, Nat.zero_add, List.drop_zero, List.drop_succ_cons, List.take_succ_cons, List.set_cons_zero, List.set_cons_succ, decide_true, decide_false, Int.le_refl, Nat.le_refl, List.flatten_cons, List.flatten_nil]
    | false =>
      simp only [c93r4, c93r6, hp, hpl, hm, hml, h0, Bool.false_eq_true, go_sem, List.replicate, List.append_nil, List.cons_append, List.nil_append, List.length_cons, List.length_nil, List.map_cons, List.map_nil, List.getElem?_cons_zero, List.getElem?_cons_succ, Nat.reduceAdd, Nat.reduceSub, Nat.reduceLT, Nat.reduceLeDiff, and_true, true_and, forall_const, if_true, if_false, ↓reduceIte, Int.toNat_natCast, List.getElem?_map, Option.map_some, Option.bind_some, Bool.not_true, Bool.not_false, reduceCtorEq, List.take_nil, List.length_map, eq_self, List.all_cons, List.all_nil, Bool.and_true, Int.ofNat_lt, Bool.and_self, finK, resK, Int.natCast_nonneg, implies_true, List.take_zero, Nat.zero_add, List.drop_zero, List.drop_succ_cons, List.take_succ_cons, List.set_cons_zero, List.set_cons_succ, decide_true, decide_false, Int.le_refl, Nat.le_refl, List.flatten_cons, List.flatten_nil]
      exact inR_small (n := l.length - cnt s l) (by omega) (by omega)

def decIntsL : List SV → Option (List Int)
  | [] => some []
  | .int .i64 n :: vs => (decIntsL vs).map (n :: ·)
  | _ => none
theorem decIntsL_eq : ∀ {vs : List SV} {l : List Int}, decIntsL vs = some l → vs = l.map (.int .i64)
  | [], l, h => by cases h; rfl
  | v :: vs, l, h => by
    unfold decIntsL at h
    split at h
    · rename_i e; cases e
    · rename_i n vs' e
      cases e
      simp only [Option.map_eq_some_iff] at h
      obtain ⟨l', h1, rfl⟩ := h
      rw [decIntsL_eq h1]; rfl
    · cases h
def decInts : SV → Option (List Int)
  | .slice vs => decIntsL vs
  | _ => none
theorem decInts_eq {v : SV} {l : List Int} (h : decInts v = some l) : v = ints l := by
  unfold decInts at h
  split at h
  · rw [decIntsL_eq h]; rfl
  · cases h

def natCost : List SV → Option (List SV)
  | [.ptr (.slice P :: .slice M :: _), .int .i64 (.ofNat i), .int .i64 s] => match P[i]? with
    | some (.bool p) => (M[i]?.bind decInts).bind fun l => if l.length ≤ 64 ∧ (l.all fun x => decide (0 ≤ x) && decide (x < 64)) = true then some [.int .i64 (costOf p l s)] else none
    | _ => none
  | _ => none
theorem natCost_ok {args rs : List SV} (h : natCost args = some rs) : E.Fn Try.prog 93 args rs := by
  unfold natCost at h
  split at h
  · rename_i P M far i s
    split at h
    · rename_i p hp
      simp only [Option.bind_eq_some_iff] at h
      obtain ⟨l, ⟨v, hv, hl⟩, h⟩ := h
      split at h
      · rename_i hc
        cases h
        rw [decInts_eq hl] at hv
        exact k93 hc.1 (fun x hx => by have := List.all_eq_true.1 hc.2 x hx; simpa using this) hv hp
      · cases h
    · cases h
  · cases h
end Go.Proofs.Ytglmjdpmpgphkaa.Sk

/- Facts about the examples: the fewest answers. -/
namespace Go.Proofs.Ytglmjdpmpgphkaa.Sk
open Go Go.E
def natK8 (f : FuncId) (args : List SV) : Option (List SV) := match f with
  | 93 => natCost args
  | _ => none
theorem c78 : E.Fn Try.prog 78 [boardOf exN [-1,-1,-1,1,-1,0], .int .i64 0] [.slice [.agg [.int .i64 2, .int .i64 0]], .bool true] := by
  refine tab_fn (N := natK8) (Y := none2) (fun f args rs h => ?_) (fun _ _ _ h => by cases h) (by kernel_rfl)
  unfold natK8 at h
  split at h
  · exact natCost_ok h
  · cases h
end Go.Proofs.Ytglmjdpmpgphkaa.Sk
