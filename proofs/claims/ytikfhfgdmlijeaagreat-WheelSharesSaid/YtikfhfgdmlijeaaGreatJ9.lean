/- Contracts of the document's answer: choices by number, powers, where a choice leads at last, woods. -/
import Derived.Test.YtikfhfgdmlijeaaGreatJ8

set_option linter.all false

namespace Go.Proofs.YtikfhfgdmlijeaaGreat.Sk
open Go Go.E Go.E.Sm
set_option maxRecDepth 10000
theorem k75 {n t : Nat} (hn : n <= 4) (ht : t <= 4) : E.Fn Tryz.prog 75 [.int .i64 n, .int .i64 t] [.int .i64 (n ^ t : Nat)] := by
 refine fn_of_row okf75 ?_
 have hb : ∀ i, i <= 4 -> n ^ i <= 256 := fun i hi => Nat.le_trans (Nat.pow_le_pow_left hn i) (Nat.le_trans (Nat.pow_le_pow_right (by decide) hi) (by decide))
 simp only [FRow.start, f75, c75r0, c75r1, c75r2, go_sem, Nat.reduceAdd, Nat.reduceSub, true_implies]
 refine loop_rule (fun k τ => ∃ i : Nat, k = t - i /\ i <= t /\
  τ = ⟨[.s (.int .i64 n), .s (.int .i64 t), .any, .any, .any, .s (.int .i64 (n ^ i : Nat)), .s (.int .i64 i), .any, .any, .any, .any, .any, .any, .any, .any, .any], []⟩) t rfl ?_ ?_
 ·simp only [c75l6m, go_sem]
  exact ⟨0, rfl, Nat.zero_le _, rfl⟩
 ·rintro I k τ ⟨i, rfl, hi, rfl⟩ hI
  have h1 := hb i (by omega)
  have e1 : ((n ^ i : Nat) : Int) * (n : Nat) = ((n ^ (i + 1) : Nat) : Int) := by rw [Nat.pow_succ, Int.natCast_mul]
  simp only [c75l6, c75r3, go_sem, ↓reduceIte, true_implies]
  refine ⟨fun hlt => ?_, fun hge => ?_⟩
  ·have h2 := hb (i + 1) (by omega)
   simp only [c75r4, e1, c75r5, c75l6m, go_sem, true_implies]
   exact ⟨inR_small (by omega) (by omega), inR_small (by omega) (by omega), hI (t - (i + 1)) _ (by omega) ⟨i + 1, rfl, by omega, rfl⟩⟩
  ·have hie : i = t := by omega
   subst hie
   simp only [c75r7, go_sem, true_implies]
   done
theorem k74 {n num : Nat} (hn : 1 <= n) (h4 : n <= 4) (hm : num < 2 ^ 60) : E.Fn Tryz.prog 74 [.int .i64 n, .int .i64 num] [ints (nats (toL n num))] := by
 refine fn_of_row okf74 ?_
 obtain ⟨T, hT⟩ : ∃ T : Nat -> List Int, ∀ i, T i = (List.range i).map fun j => ((chN n num j : Nat) : Int) := ⟨_, fun _ => rfl⟩
 have hTs : ∀ i, T (i + 1) = T i ++ [((chN n num i : Nat) : Int)] := fun i => by rw [hT, hT, List.range_succ, List.map_append]; rfl
 have hTl : ∀ i, (T i).length = i := fun i => by rw [hT]; simp
 have hTn : T n = nats (toL n num) := by rw [hT]; unfold nats toL; rw [List.map_map]; rfl
 simp only [FRow.start, f74, c74r0, c74r1, c74r2, go_sem, Nat.reduceAdd, Nat.reduceSub, true_implies]
 refine loop_rule (fun k τ => ∃ i : Nat, k = n - i /\ i <= n /\
  τ = ⟨((.s (.int .i64 n))::(.s (.int .i64 (num / n ^ i : Nat)))::aN::aN::aN::(.sl 0 0 i 1 false)::(.s (.int .i64 i))::aN::aN::aN::aN::aN::aN::aN::aZ8), [.row ((T i).map (.int .i64))]⟩) n (promo_one rfl) ?_ ?_
 ·simp only [c74l7m, go_sem, ↓reduceIte, reduceCtorEq, Nat.reduceLeDiff]
  exact ⟨0, rfl, Nat.zero_le _, by rw [Nat.pow_zero, Nat.div_one, hT]; rfl⟩
 ·rintro I k τ ⟨i, rfl, hi, rfl⟩ hI
  have hb : num / n ^ i <= num := Nat.div_le_self _ _
  have e1 : ((num / n ^ i : Nat) : Int).tmod (n : Nat) = ((chN n num i : Nat) : Int) := (Int.ofNat_tmod _ _).symm
  have e2 : ((num / n ^ i : Nat) : Int).tdiv (n : Nat) = ((num / n ^ (i + 1) : Nat) : Int) := by
   rw [<- Int.ofNat_tdiv, Nat.div_div_eq_div_mul, Nat.pow_succ]
  have hs := hTs i
  have hl := hTl i
  simp only [c74l7, c74r3, go_sem, ↓reduceIte, true_implies]
  refine ⟨fun hlt => ?_, fun hge => ?_⟩
  ·simp only [c74r4, e1, go_sem, Nat.reduceAdd, Nat.reduceMul, true_implies]
   refine ⟨by omega, by decide, by decide, rfl, one_int, one_int, by rw [hl, Nat.mul_one], by omega, by omega, ?_⟩
   have e3 : (T i).map (SV.int .i64) ++ flatE [.int .i64 ((chN n num i : Nat) : Int)] = (T (i + 1)).map (.int .i64) := by rw [hs, List.map_append]; rfl
   rw [e3]
   simp only [c74r5, e2, c74r6, c74l7m, go_sem, ↓reduceIte, reduceCtorEq, Nat.reduceAdd, Nat.reduceLeDiff, true_implies]
   have hb2 : num / n ^ (i + 1) <= num := Nat.div_le_self _ _
   generalize hz : num / n ^ (i + 1) = z at *
   exact ⟨by omega, inR_small (by omega) (by omega), inR_small (by omega) (by omega), hI (n - (i + 1)) _ (by omega) ⟨i + 1, rfl, by omega, by rw [hz]; rfl⟩⟩
  ·have hie : i = n := by omega
   subst hie
   simp only [c74r8, go_sem, true_implies]
   refine exO_of (slice_all hl.symm) ?_
   rw [hTn]
def endI (to : Nat -> Nat) (stops m a : Nat) : Int := match endK to stops m a with | some x => (x : Nat) | none => -1
theorem k110 {to : List Nat} {f stops : Nat} (hl : to.length <= 8) (ht : ∀ x ∈ to, x < to.length) (hf : f < to.length) (hs : stops < 2 ^ 62) : E.Fn Tryz.prog 110 [ints (nats to), .int .i64 f, .int .i64 stops] [.int .i64 (endI (fun i => to[i]?.getD 0) stops (to.length + 1) f)] := by
 refine fn_of_row okf110 ?_
 generalize hq : endI (fun i => to[i]?.getD 0) stops (to.length + 1) f = q
 unfold endI at hq
 simp only [FRow.start, f110, c110r0, c110r1, c110r2, ints, go_sem, Nat.reduceAdd, Nat.reduceSub, true_implies]
 refine loop_rule (fun k τ => ∃ i a : Nat, k = to.length + 1 - i /\ i <= to.length + 1 /\ a < to.length /\ endK (fun i => to[i]?.getD 0) stops (to.length + 1) f = endK (fun i => to[i]?.getD 0) stops (to.length + 1 - i) a /\
  τ = ⟨((.s (ints (nats to)))::aN::(.s (.int .i64 stops))::aN::aN::aN::aN::(.s (.int .i64 a))::(.s (.int .i64 i))::aN::aZ16), []⟩) (to.length + 1) rfl ?_ ?_
 ·simp only [c110l8m, go_sem]
  exact ⟨0, f, rfl, Nat.zero_le _, hf, rfl, rfl⟩
 ·rintro I k τ ⟨i, a, rfl, hi, ha, he, rfl⟩ hI
  have hnl : (nats to).length = to.length := by simp [nats]
  simp only [c110l8, c110r3, ints, hnl, go_sem, ↓reduceIte]
  intro _
  refine ⟨fun hlt => ?_, fun hge => ?_⟩
  ·have hm : endK (fun i => to[i]?.getD 0) stops (to.length + 1 - i) a = if stops.testBit a then some a else endK (fun i => to[i]?.getD 0) stops (to.length + 1 - (i + 1)) (to[a]?.getD 0) := by
    rw [show to.length + 1 - i = to.length + 1 - (i + 1) + 1 by omega, endK]
   rw [hm] at he
   simp only [c110r4, go_sem, true_implies]
   refine ⟨by omega, ?_⟩
   rw [low_bit hs]
   cases hb : stops.testBit a with
   | true =>
    rw [hb, if_pos rfl] at he
    rw [he] at hq
    simp only [c110r5, go_sem, ↓reduceIte, not_true_eq_false, false_implies, true_implies]
    rw [<- hq]
   | false =>
    rw [hb, if_neg (by simp)] at he
    obtain ⟨x, hx⟩ : ∃ x, to[a]? = some x := ⟨_, List.getElem?_eq_getElem ha⟩
    have hx2 : (nats to)[a]? = some (x : Int) := by unfold nats; rw [List.getElem?_map, hx]; rfl
    rw [hx, Option.getD_some] at he
    simp only [Bool.false_eq_true, Int.reduceEq, c110r6, hx2, c110r7, c110l8m, go_sem, ↓reduceIte, false_implies, true_implies, not_false_eq_true]
    exact ⟨inR_small (by omega) (by omega), hI (to.length + 1 - (i + 1)) _ (by omega) ⟨i + 1, x, rfl, by omega, ht x (List.mem_of_getElem? hx), he, by rw [ints]; rfl⟩⟩
  ·have hie : i = to.length + 1 := by omega
   subst hie
   rw [Nat.sub_self, endK] at he
   rw [he] at hq
   simp only [c110r9, go_sem, Int.reduceNeg, true_implies]
   rw [<- hq]
def wyT (a : Nat -> Nat -> Int) (n stops num : Nat) : Nat -> Int
 | 0 => 1
 | j + 1 => if stops.testBit j then (if chN n num j = 0 then wyT a n stops num j else 0) else (if (endK (chN n num) stops (n + 1) j).isSome then wyT a n stops num j * a j (chN n num j) else 0)
theorem foldr_mul {l : List Int} {c : Int} : l.foldr (· * ·) c = l.foldr (· * ·) 1 * c := by
 induction l with
 | nil => simp
 | cons x l ih => rw [List.foldr_cons, List.foldr_cons, ih, Int.mul_assoc]
section
variable {a : Nat -> Nat -> Int} {n stops num : Nat}
theorem wy_all : ∀ {j : Nat}, wyT a n stops num j = if (List.range j).all (fun i => if stops.testBit i then Nat.beq (chN n num i) 0 else (endK (chN n num) stops (n + 1) i).isSome) then ((List.range j).map fun i => if stops.testBit i then 1 else a i (chN n num i)).foldr (· * ·) 1 else 0
 | 0 => rfl
 | j + 1 => by
  rw [wyT, wy_all, List.range_succ, List.all_append, List.map_append, List.foldr_append, foldr_mul]
  simp only [List.map_cons, List.map_nil, List.all_cons, List.all_nil, List.foldr_cons, List.foldr_nil, Bool.and_true, Bool.and_eq_true, Int.mul_one]
  cases stops.testBit j with
  | true =>
   simp only [if_true]
   by_cases h : chN n num j = 0
   ·have hb : Nat.beq (chN n num j) 0 = true := by rw [h]; rfl
    rw [if_pos h, hb]
    simp
   ·have hb : ¬ Nat.beq (chN n num j) 0 = true := fun e => h (Nat.eq_of_beq_eq_true e)
    rw [if_neg h, if_neg fun e => hb e.2]
  | false =>
   simp only [Bool.false_eq_true, if_false]
   by_cases h : (endK (chN n num) stops (n + 1) j).isSome = true
   ·rw [if_pos h]
    simp only [h, and_true]
    split
    ·exact foldr_mul.symm
    ·rw [Int.zero_mul]
   ·rw [if_neg h, if_neg fun e => h e.2]
theorem wy_eq : wyT a n stops num n = if okW n stops num then prW a n stops num else 0 := wy_all
theorem wy_bd (ha : ∀ i k, 0 <= a i k /\ a i k <= 20) : ∀ {j : Nat}, 0 <= wyT a n stops num j /\ wyT a n stops num j <= ((20 ^ j : Nat) : Int)
 | 0 => ⟨show (0 : Int) <= 1 by decide, show (1 : Int) <= 1 by decide⟩
 | j + 1 => by
  have ih := wy_bd ha (j := j)
  have h0 : (0 : Int) <= ((20 ^ (j + 1) : Nat) : Int) := Int.natCast_nonneg _
  have hp : ((20 ^ (j + 1) : Nat) : Int) = ((20 ^ j : Nat) : Int) * 20 := by rw [Nat.pow_succ, Int.natCast_mul]; rfl
  rw [wyT]
  generalize wyT a n stops num j = w at *
  generalize ((20 ^ j : Nat) : Int) = t at *
  split
  ·split
   ·omega
   ·omega
  ·split
   ·have h1 := ha j (chN n num j)
    exact ⟨Int.mul_nonneg ih.1 h1.1, by rw [hp]; exact Int.mul_le_mul ih.2 h1.2 h1.1 (by omega)⟩
   ·omega
def woodT (a : Nat -> Nat -> Int) (n f stops e k : Nat) : Int := (((List.range k).filter (leadsTo n f stops e)).map (prW a n stops)).sum
theorem woodT_succ {f e k : Nat} : woodT a n f stops e (k + 1) = woodT a n f stops e k + if leadsTo n f stops e k then prW a n stops k else 0 := by
 unfold woodT
 rw [List.range_succ, List.filter_append, List.map_append, List.sum_append]
 congr 1
 cases h : leadsTo n f stops e k with
 | true => simp [h]
 | false => simp [h]
def woodL (a : Nat -> Nat -> Int) (n f stops k : Nat) : List Int := (List.range n).map fun e => woodT a n f stops e k
theorem woodL_len {f k : Nat} : (woodL a n f stops k).length = n := by simp [woodL]
theorem woodL_get {f k e : Nat} (he : e < n) : (woodL a n f stops k)[e]? = some (woodT a n f stops e k) := by unfold woodL; rw [List.getElem?_map, List.getElem?_range he]; rfl
theorem woodL_zero {f : Nat} : woodL a n f stops 0 = List.replicate n 0 := by
 apply List.ext_getElem?
 intro i
 rw [List.getElem?_replicate]
 by_cases h : i < n
 ·rw [woodL_get h, if_pos h]; rfl
 ·rw [if_neg h, List.getElem?_eq_none (by rw [woodL_len]; omega)]
theorem woodL_add {f k x : Nat} (ho : okW n stops k = true) (hx : endK (chN n k) stops (n + 1) f = some x) (hxn : x < n) : (woodL a n f stops k).set x (woodT a n f stops x k + prW a n stops k) = woodL a n f stops (k + 1) := by
 apply List.ext_getElem?
 intro i
 by_cases h : i < n
 ·rw [woodL_get h, woodT_succ]
  have hl : leadsTo n f stops i k = Nat.beq x i := by unfold leadsTo; rw [ho, hx]; rfl
  by_cases e : i = x
  ·subst e
   rw [List.getElem?_set_self (by rw [woodL_len]; exact h), hl, if_pos (Nat.beq_refl _)]
  ·rw [List.getElem?_set_ne (fun h => e h.symm), woodL_get h, hl, if_neg (fun hb => e (Nat.eq_of_beq_eq_true hb).symm), Int.add_zero]
 ·rw [List.getElem?_eq_none (by rw [List.length_set, woodL_len]; omega), List.getElem?_eq_none (by rw [woodL_len]; omega)]
theorem woodL_stay {f k : Nat} (hz : wyT a n stops k n = 0) : woodL a n f stops (k + 1) = woodL a n f stops k := by
 unfold woodL
 refine List.map_congr_left fun e _ => ?_
 rw [woodT_succ]
 split
 ·rename_i hl
  have ho : okW n stops k = true := by
   unfold leadsTo at hl
   rw [Bool.and_eq_true] at hl
   exact hl.1
  rw [wy_eq, if_pos ho] at hz
  rw [hz, Int.add_zero]
 ·rw [Int.add_zero]
theorem endK_ext {to to' : Nat -> Nat} (h : ∀ i, i < n -> to i = to' i /\ to i < n) : ∀ {m x : Nat}, x < n -> endK to stops m x = endK to' stops m x
 | 0, _, _ => rfl
 | m + 1, x, hx => by
  rw [endK, endK, (h x hx).1]
  split
  ·rfl
  ·exact endK_ext h (by rw [<- (h x hx).1]; exact (h x hx).2)
theorem endK_lt {to : Nat -> Nat} (h : ∀ i, i < n -> to i < n) : ∀ {m x y : Nat}, x < n -> endK to stops m x = some y -> y < n
 | 0, _, _, _, e => by cases e
 | m + 1, x, y, hx, e => by
  rw [endK] at e
  split at e
  ·cases e; exact hx
  ·exact endK_lt h (h x hx) e
theorem ok_end {f k : Nat} (ho : okW n stops k = true) (hf : f < n) : ∃ x, endK (chN n k) stops (n + 1) f = some x := by
 unfold okW at ho
 have h := List.all_eq_true.1 ho f (List.mem_range.2 hf)
 cases hb : stops.testBit f with
 | true => exact ⟨f, by rw [endK, if_pos hb]⟩
 | false =>
  rw [hb, if_neg (by simp)] at h
  exact Option.isSome_iff_exists.1 h
end
theorem endI_toL {n k stops m x : Nat} (h1 : 1 <= n) (hx : x < n) : endI (fun i => (toL n k)[i]?.getD 0) stops m x = endI (chN n k) stops m x := by
 have h := endK_ext (n := n) (stops := stops) (to := fun i => (toL n k)[i]?.getD 0) (to' := chN n k) (fun i hi => by simp only [toL_get hi, Option.getD_some]; exact ⟨trivial, chN_lt h1⟩) (m := m) hx
 unfold endI
 rw [h]
theorem woodT_bd {a : Nat -> Nat -> Int} {n f stops e : Nat} (h4 : n <= 4) (ha : ∀ i k, 0 <= a i k /\ a i k <= 20) : ∀ {k : Nat}, 0 <= woodT a n f stops e k /\ woodT a n f stops e k <= 160000 * (k : Int)
 | 0 => ⟨by show (0 : Int) <= 0; decide, by show (0 : Int) <= _; omega⟩
 | k + 1 => by
  have ih := woodT_bd (f := f) (stops := stops) (e := e) h4 ha (k := k)
  rw [woodT_succ]
  split
  ·rename_i hl
   have ho : okW n stops k = true := by
    unfold leadsTo at hl
    rw [Bool.and_eq_true] at hl
    exact hl.1
   have hb := wy_bd (n := n) (stops := stops) (num := k) ha (j := n)
   rw [wy_eq, if_pos ho] at hb
   have h20 : 20 ^ n <= 160000 := Nat.le_trans (Nat.pow_le_pow_right (by decide) h4) (by decide)
   omega
  ·omega
set_option maxHeartbeats 2000000 in
theorem k96 {s : Int} {N : List (List Int)} {p : List Int} {f stops : Nat} (h : OkN s N) (hf : f < N.length) (hs : stops < 2 ^ 62) : E.Fn Tryz.prog 96 [mc s N p, .int .i64 f, .int .i64 stops] [ints ((List.range N.length).map fun e => wood (tn N) N.length f stops e)] := by
 refine fn_of_row okf96 ?_
 have hn1 := h.n1
 have hn4 := h.n4
 have ha : ∀ i k, 0 <= tn N i k /\ tn N i k <= 20 := fun i k => by have h1 := h.tn i k; have h2 := h.s20; omega
 have hpw : N.length ^ N.length <= 256 := Nat.le_trans (Nat.pow_le_pow_left hn4 _) (Nat.le_trans (Nat.pow_le_pow_right (by decide) hn4) (by decide))
 have h75 := k75 hn4 hn4
 have hW : (List.range N.length).map (fun e => wood (tn N) N.length f stops e) = woodL (tn N) N.length f stops (N.length ^ N.length) := rfl
 rw [hW]
 simp only [FRow.start, f96, c96r0, c96r1, c96r2, c96r3, mc, SV.cells, intss, go_sem, Nat.reduceAdd, Nat.reduceSub, Nat.reduceLT, Nat.reduceLeDiff, true_implies]
 intro _
 refine ⟨by omega, by omega, ?_⟩
 rw [rep_flat, <- woodL_zero (a := tn N) (f := f) (stops := stops)]
 refine loop_rule (fun m τ => ∃ k : Nat, m = N.length ^ N.length - k /\ k <= N.length ^ N.length /\
  τ = ⟨(aN::(.s (.int .i64 f))::(.s (.int .i64 stops))::(.s (.ptr [.int .i64 s, intss N, ints p]))::aN::aN::aN::(.s (.int .i64 N.length))::(.sl 0 0 N.length 1 true)::(.s (.int .i64 k))::aZ64), [.row ((woodL (tn N) N.length f stops k).map (.int .i64))]⟩) (N.length ^ N.length) rfl ?_ ?_
 ·simp only [c96l20m, go_sem, ↓reduceIte, reduceCtorEq, Nat.reduceLeDiff]
  exact ⟨0, rfl, Nat.zero_le _, rfl⟩
 ·rintro I m τ ⟨k, rfl, hk, rfl⟩ hI
  simp only [c96l20, c96r4, go_sem]
  refine callK_of (by simp only [go_sem]) h75 (.inl rfl) ?_
  simp only [go_sem, ↓reduceIte, true_implies]
  refine ⟨fun hlt => ?_, fun hge => ?_⟩
  ·have h110 : ∀ j, j < N.length -> E.Fn Tryz.prog 110 [ints (nats (toL N.length k)), .int .i64 j, .int .i64 stops] [.int .i64 (endI (chN N.length k) stops (N.length + 1) j)] := fun j hj => by
    have h1 := k110 (to := toL N.length k) (f := j) (stops := stops) (by rw [toL_len]; omega) (fun x hx => by rw [toL_len]; exact toL_lt hn1 x hx) (by rw [toL_len]; exact hj) hs
    rw [toL_len, endI_toL hn1 hj] at h1
    exact h1
   have h74 := k74 (n := N.length) (num := k) hn1 hn4 (by omega)
   simp only [c96r5, go_sem]
   refine callK_of (by simp only [go_sem]) h74 (.inr (.inl (by simp only [go_sem]))) ?_
   simp only [c96r6, c96r7, go_sem, true_implies]
   refine loop_rule (fun m τ => ∃ j : Nat, m = N.length - j /\ j <= N.length /\
    τ = ⟨(aN::(.s (.int .i64 f))::(.s (.int .i64 stops))::(.s (.ptr [.int .i64 s, intss N, ints p]))::aN::aN::aN::(.s (.int .i64 N.length))::(.sl 0 0 N.length 1 true)::(.s (.int .i64 k))::(.s (ints (nats (toL N.length k))))::(.s (.int .i64 (wyT (tn N) N.length stops k j)))::(.s (.int .i64 j))::aN::aN::aN::aN::aN::aZ56), [.row ((woodL (tn N) N.length f stops k).map (.int .i64))]⟩) N.length rfl ?_ ?_
   ·simp only [c96l16m, go_sem, ↓reduceIte, reduceCtorEq, Nat.reduceLeDiff]
    exact ⟨0, rfl, Nat.zero_le _, rfl⟩
   ·rintro I2 m τ ⟨j, rfl, hj, rfl⟩ hI2
    simp only [c96l16, c96r8, go_sem, ↓reduceIte, true_implies]
    refine ⟨fun hlt2 => ?_, fun hge2 => ?_⟩
    ·have hlt2 : j < N.length := by omega
     have hin : inR .i64 ((j : Int) + 1) := inR_small (by omega) (by omega)
     have hch : (nats (toL N.length k))[j]? = some ((chN N.length k j : Nat) : Int) := by unfold nats; rw [List.getElem?_map, toL_get hlt2]; rfl
     have hchl := chN_lt (n := N.length) (num := k) (i := j) hn1
     have hb := wy_bd (n := N.length) (stops := stops) (num := k) ha (j := j)
     have hb2 := wy_bd (n := N.length) (stops := stops) (num := k) ha (j := j + 1)
     have h20 : 20 ^ (j + 1) <= 160000 := Nat.le_trans (Nat.pow_le_pow_right (by decide) (by omega)) (by decide : 20 ^ 4 <= 160000)
     have hw : wyT (tn N) N.length stops k (j + 1) = if stops.testBit j then (if chN N.length k j = 0 then wyT (tn N) N.length stops k j else 0) else (if (endK (chN N.length k) stops (N.length + 1) j).isSome then wyT (tn N) N.length stops k j * tn N j (chN N.length k j) else 0) := rfl
     have fin : ∀ y, wyT (tn N) N.length stops k (j + 1) = y -> I2 ⟨(aN::(.s (.int .i64 f))::(.s (.int .i64 stops))::(.s (.ptr [.int .i64 s, intss N, ints p]))::aN::aN::aN::(.s (.int .i64 N.length))::(.sl 0 0 N.length 1 true)::(.s (.int .i64 k))::(.s (ints (nats (toL N.length k))))::(.s (.int .i64 y))::(.s (.int .i64 (j + 1)))::aN::aN::aN::aN::aN::aZ56), [.row ((woodL (tn N) N.length f stops k).map (.int .i64))]⟩ := fun y hy => by
      subst hy
      exact hI2 (N.length - (j + 1)) _ (by omega) ⟨j + 1, rfl, by omega, rfl⟩
     simp only [c96r9, go_sem, true_implies]
     refine ⟨by omega, ?_⟩
     rw [low_bit hs]
     cases hbit : stops.testBit j with
     | true =>
      rw [hbit, if_pos rfl] at hw
      simp only [c96r10, ints, hch, go_sem, ↓reduceIte, not_true_eq_false, false_implies, true_implies]
      refine ⟨fun hz => ?_, fun hz => ?_⟩
      ·rw [if_pos (by omega)] at hw
       simp only [c96r15, c96l16m, go_sem, ↓reduceIte, reduceCtorEq, Nat.reduceLeDiff, true_implies]
       exact ⟨hin, fin _ hw⟩
      ·rw [if_neg (by omega)] at hw
       simp only [c96r11, c96r15, c96l16m, go_sem, ↓reduceIte, reduceCtorEq, Nat.reduceLeDiff, true_implies]
       exact ⟨hin, fin _ hw⟩
     | false =>
      rw [hbit, if_neg (by simp)] at hw
      have hxN : N[j]? = some N[j] := List.getElem?_eq_getElem hlt2
      have hl := h.sq _ (List.getElem_mem hlt2)
      have htn : tn N j (chN N.length k j) = (N[j][chN N.length k j]?).getD 0 := by unfold tn; rw [hxN]; rfl
      generalize N[j] = row at hxN hl htn
      obtain ⟨z, hz⟩ : ∃ z, row[chN N.length k j]? = some z := ⟨_, List.getElem?_eq_getElem (by omega)⟩
      rw [hz, Option.getD_some] at htn
      have hzb := ha j (chN N.length k j)
      rw [htn] at hzb hw
      have hm := mul_le_nat (a := wyT (tn N) N.length stops k j) (b := z) (A := 160000) (B := 20) (by have : 20 ^ j <= 20 ^ (j + 1) := Nat.pow_le_pow_right (by decide) (by omega); omega) (by omega)
      simp only [Bool.false_eq_true, Int.reduceEq, c96r12, intss, hxN, ints, hch, hz, go_sem, ↓reduceIte, Nat.reduceAdd, Nat.reduceLeDiff, false_implies, true_implies, not_false_eq_true]
      refine ⟨inR_abs (by omega), ?_⟩
      simp only [c96r13, go_sem]
      refine callK_of (by simp only [ints, go_sem]) (h110 j hlt2) (.inl rfl) ?_
      unfold endI
      cases hE : endK (chN N.length k) stops (N.length + 1) j with
      | none =>
       rw [hE, if_neg (by simp)] at hw
       simp only [Int.reduceNeg, Int.reduceLT, c96r14, c96r15, c96l16m, go_sem, ↓reduceIte, reduceCtorEq, Nat.reduceLeDiff, Int.reduceLT, Int.reduceNeg, true_implies]
       exact ⟨hin, fin _ hw⟩
      | some x =>
       rw [hE, if_pos (show (some x).isSome = true from rfl)] at hw
       have a1 : ¬ ((x : Nat) : Int) < 0 := by omega
       simp only [a1, c96r15, c96l16m, go_sem, ↓reduceIte, reduceCtorEq, Nat.reduceLeDiff, true_implies]
       exact ⟨hin, fin _ hw⟩
    ·have hje : j = N.length := by omega
     subst hje
     clear hI2 I2
     have hb := wy_bd (n := N.length) (stops := stops) (num := k) ha (j := N.length)
     have h20 : 20 ^ N.length <= 160000 := Nat.le_trans (Nat.pow_le_pow_right (by decide) hn4) (by decide : 20 ^ 4 <= 160000)
     have hwe := wy_eq (a := tn N) (n := N.length) (stops := stops) (num := k)
     generalize hv : wyT (tn N) N.length stops k N.length = v at *
     simp only [c96r17, go_sem, true_implies]
     refine ⟨fun hpos => ?_, fun hnp => ?_⟩
     ·have ho : okW N.length stops k = true := by
       cases ho : okW N.length stops k with
       | true => rfl
       | false => rw [ho, if_neg (by simp)] at hwe; omega
      rw [if_pos ho] at hwe
      obtain ⟨x, hx⟩ := ok_end ho hf
      have hxn := endK_lt (fun i _ => chN_lt hn1) hf hx
      have hadd := woodL_add (a := tn N) ho hx hxn
      rw [<- hwe] at hadd
      have hg := woodL_get (a := tn N) (f := f) (stops := stops) (k := k) hxn
      have hwb := woodT_bd (a := tn N) (n := N.length) (f := f) (stops := stops) (e := x) hn4 ha (k := k)
      have hf110 := h110 f hf
      unfold endI at hf110
      rw [hx] at hf110
      have hwl := woodL_len (a := tn N) (n := N.length) (f := f) (stops := stops) (k := k)
      have hspl := spl_row (R := woodL (tn N) N.length f stops k) (i := x) (x := woodT (tn N) N.length f stops x k + v) (by omega)
      rw [hadd] at hspl
      simp only [c96r18, go_sem]
      refine callK_of (by simp only [go_sem]) hf110 (.inl rfl) ?_
      simp only [Nat.mul_one, hg, go_sem, true_implies]
      refine ⟨by omega, inR_small (by omega) (by omega), by omega, by omega, ?_⟩
      rw [hspl]
      simp only [c96r19, c96l20m, go_sem, ↓reduceIte, reduceCtorEq, Nat.reduceLeDiff, true_implies]
      exact ⟨inR_small (by omega) (by omega), hI (N.length ^ N.length - (k + 1)) _ (by omega) ⟨k + 1, rfl, by omega, rfl⟩⟩
     ·have hst := woodL_stay (f := f) (by rw [hv]; omega : wyT (tn N) N.length stops k N.length = 0)
      simp only [c96r19, c96l20m, go_sem, ↓reduceIte, reduceCtorEq, Nat.reduceLeDiff, true_implies]
      exact ⟨inR_small (by omega) (by omega), hI (N.length ^ N.length - (k + 1)) _ (by omega) ⟨k + 1, rfl, by omega, by rw [hst]; rfl⟩⟩
  ·have hke : k = N.length ^ N.length := by omega
   subst hke
   simp only [c96r21, go_sem, true_implies]
   exact exO_of (slice_all woodL_len.symm) rfl
theorem rootsN_len {s : Int} {N : List (List Int)} : (rootsN s N).length = N.length := by simp [rootsN]
theorem rootsN_get {s : Int} {N : List (List Int)} {i : Nat} (hi : i < N.length) : (rootsN s N)[i]? = some (rootN s N i) := by
 unfold rootsN; rw [List.getElem?_map, List.getElem?_range hi]; rfl
theorem take_snoc' {α : Type} {l : List α} {i : Nat} {x : α} (h : l[i]? = some x) : l.take (i + 1) = l.take i ++ [x] := by rw [List.take_succ, h]; rfl
theorem k62 {s : Int} {N : List (List Int)} {p : List Int} (h : OkS s N) : E.Fn Tryz.prog 62 [mc s N p] [ints (rootsN s N)] := by
 refine fn_of_row okf62 ?_
 have hn4 := h.n4
 simp only [FRow.start, f62, c62r0, c62r1, c62r2, mc, SV.cells, go_sem, Nat.reduceSub, true_implies]
 refine loop_rule (fun m τ => ∃ i : Nat, m = N.length - i /\ i <= N.length /\
  τ = ⟨(aN::(.s (.ptr [.int .i64 s, intss N, ints p]))::aN::(.sl 0 0 i 1 false)::(.s (.int .i64 i))::aN::aN::aN::aZ16), [.row (((rootsN s N).take i).map (.int .i64))]⟩) N.length (promo_one rfl) ?_ ?_
 ·simp only [c62l6m, go_sem, ↓reduceIte, reduceCtorEq, Nat.reduceLeDiff]
  exact ⟨0, rfl, Nat.zero_le _, rfl⟩
 ·rintro I m τ ⟨i, rfl, hi, rfl⟩ hI
  simp only [c62l6, c62r3, intss, go_sem, ↓reduceIte, Nat.reduceAdd, Nat.reduceLeDiff]
  intro _
  refine ⟨fun hlt => ?_, fun hge => ?_⟩
  ·have hp2 : 2 ^ i <= 2 ^ 4 := Nat.pow_le_pow_right (by decide) (by omega)
   have hk := k96 (p := p) h.toOkN (f := i) (stops := 2 ^ i) hlt (by omega)
   have hg : ((List.range N.length).map fun e => wood (tn N) N.length i (2 ^ i) e)[i]? = some (rootN s N i) := by
    rw [List.getElem?_map, List.getElem?_range hlt, Option.map_some, root_wood h hlt]
   generalize (List.range N.length).map (fun e => wood (tn N) N.length i (2 ^ i) e) = W at *
   have hts := take_snoc' (rootsN_get (s := s) hlt)
   simp only [c62r4, go_sem, Nat.reduceAdd]
   rw [shl_nat]
   refine ⟨by omega, inR_small (Int.natCast_nonneg _) (by omega), ?_⟩
   refine callK_of (by simp only [mc, intss, ints, go_sem]) hk (.inr (.inl (by simp only [mc, intss, ints, go_sem]))) ?_
   simp only [ints, hg, go_sem, Nat.reduceAdd, Nat.reduceMul, true_implies]
   refine ⟨by decide, by decide, rfl, one_int, one_int, by rw [List.length_take, rootsN_len]; omega, by omega, by omega, ?_⟩
   have e3 : ((rootsN s N).take i).map (SV.int .i64) ++ flatE [.int .i64 (rootN s N i)] = ((rootsN s N).take (i + 1)).map (.int .i64) := by rw [hts, List.map_append]; rfl
   rw [e3]
   simp only [c62r5, c62l6m, Bool.false_eq_true, BEq.rfl, go_sem, ↓reduceIte, Nat.reduceLeDiff, true_implies]
   exact ⟨inR_small (by omega) (by omega), hI (N.length - (i + 1)) _ (by omega) ⟨i + 1, rfl, by omega, rfl⟩⟩
  ·have hie : i = N.length := by omega
   subst hie
   rw [List.take_of_length_le (by rw [rootsN_len]; omega)]
   simp only [c62r7, go_sem, true_implies]
   exact exO_of (slice_all rootsN_len.symm) rfl
section
variable {s : Int} {N : List (List Int)} {p : List Int}
theorem sum_roots (h : OkS s N) : E.Fn Tryz.prog 63 [ints (rootsN s N)] [.int .i64 (rootsN s N).sum] := k63 (l := rootsN s N) (by rw [rootsN_len]; have := h.n4; omega) (fun x hx => by
 obtain ⟨i, hi, rfl⟩ := mem_rootsN.1 hx
 have h1 := root_nonneg h hi
 have h2 := root_8 h hi
 omega)
theorem k65 (h : OkM s N p) (hS : (parts N).length <= 1) : E.Fn Tryz.prog 65 [mc s N p] [rat (paysQ s N p)] := by
 refine fn_of_row okf65 ?_
 have hn4 := h.n4
 have hpl := h.pl
 have hk62 := k62 (p := p) h.s
 have hk63 := sum_roots h.s
 have hsp := roots_pos h hS
 have hs32 := roots_32 h.s
 have hg34 : ∀ i, i <= 4 -> (gainT s N p i).natAbs <= 2 ^ 34 := fun i hi => gainT_le h.toOkP hi
 have hk31 := k31 (n := gainT s N p N.length) (d := (rootsN s N).sum) (by have := hg34 N.length hn4; omega) hsp (by omega)
 have hq : paysQ s N p = lst (gainT s N p N.length) (rootsN s N).sum := rfl
 rw [hq]
 have hrl := rootsN_len (s := s) (N := N)
 simp only [FRow.start, f65, c65r0, c65r1, mc, SV.cells, go_sem, Nat.reduceAdd, Nat.reduceSub, true_implies]
 refine callK_of (by simp only [mc, intss, ints, go_sem]) hk62 (.inr (.inl (by simp only [mc, intss, ints, go_sem]))) ?_
 simp only [c65r2, c65r3, go_sem, true_implies]
 refine loop_rule (fun m τ => ∃ i : Nat, m = N.length - i /\ i <= N.length /\
  τ = ⟨(aN::(.s (.ptr [.int .i64 s, intss N, ints p]))::(.loc 0 0)::(.s (ints (rootsN s N)))::(.s (.int .i64 (gainT s N p i)))::(.s (.int .i64 i))::aZ24), [.obj [.s (.int .i64 0), .s (.int .i64 0)]]⟩) N.length rfl ?_ ?_
 ·simp only [c65l7m, go_sem, ↓reduceIte, reduceCtorEq, Nat.reduceLeDiff]
  exact ⟨0, rfl, Nat.zero_le _, rfl⟩
 ·rintro I m τ ⟨i, rfl, hi, rfl⟩ hI
  simp only [c65l7, c65r4, ints, hrl, go_sem, ↓reduceIte]
  intro _
  refine ⟨fun hlt => ?_, fun hge => ?_⟩
  ·obtain ⟨y, hy⟩ : ∃ y, p[i]? = some y := ⟨_, List.getElem?_eq_getElem (by omega)⟩
   have hpb := pay_le h.toOkP i
   have hgs := gainT_succ (s := s) (N := N) (p := p) (i := i)
   rw [hy, Option.getD_some] at hpb hgs
   have hrb := root_le h.toOkN (i := i)
   have hmb : (rootN s N i * y).natAbs <= 2 ^ 22 * 1000 := by
    rw [Int.natAbs_mul]
    exact Nat.mul_le_mul hrb (by omega)
   have hs1 := hg34 (i + 1) (by omega)
   have hin2 : inR .i64 (gainT s N p i + rootN s N i * y) := inR_abs (by rw [<- hgs]; omega)
   simp only [c65r5, rootsN_get (s := s) hlt, hy, go_sem, Nat.reduceAdd, Nat.reduceLeDiff, true_implies]
   refine ⟨inR_abs (by omega), hin2, ?_⟩
   simp only [c65r6, c65l7m, go_sem, ↓reduceIte, reduceCtorEq, Nat.reduceLeDiff, true_implies]
   exact ⟨inR_small (by omega) (by omega), hI (N.length - (i + 1)) _ (by omega) ⟨i + 1, rfl, by omega, by rw [hgs]; rfl⟩⟩
  ·have hie : i = N.length := by omega
   subst hie
   simp only [c65r8, go_sem]
   refine callK_of (by simp only [ints, go_sem]) hk63 (.inl rfl) ?_
   simp only [go_sem]
   refine callK_of (by simp only [go_sem]) hk31 (.inl rfl) ?_
   simp only [rat, spl_two, frz_two', go_sem, Nat.reduceAdd, true_implies]
   done
theorem k20 : E.Fn Tryz.prog 20 [mc s N p] (paysR s N p) := by
 refine fn_of_row okf20 ?_
 have h61 := k61 (s := s) (N := N) (p := p)
 unfold paysR
 simp only [FRow.start, f20, c20r0, c20r1, mc, SV.cells, go_sem, Nat.reduceAdd, Nat.reduceSub, true_implies]
 refine callK_of (by simp only [mc, intss, ints, go_sem]) h61 (.inl rfl) ?_
 by_cases h0 : setE s N p = 0
 ·rw [if_pos h0]
  obtain ⟨hM, hS⟩ := setE_zero h0
  simp only [h0, decide_true, c20r3, go_sem, Nat.reduceAdd, true_implies]
  refine callK_of (by simp only [mc, intss, ints, go_sem]) (k65 hM hS) (.inl rfl) ?_
  simp only [rat, spl_two, frz_two', go_sem, Nat.reduceAdd, true_implies]
  done
 ·rw [if_neg h0]
  simp only [h0, decide_false, c20r2, go_sem, Nat.reduceAdd, true_implies]
  refine callK_of (by simp only [mc, intss, ints, go_sem]) h61 (.inl rfl) ?_
  simp only [rat, spl_two, frz_two', go_sem, Nat.reduceAdd, true_implies]
  done
theorem k18 : E.Fn Tryz.prog 18 [mc s N p] (sharesR s N p) := by
 refine fn_of_row okf18 ?_
 have h61 := k61 (s := s) (N := N) (p := p)
 unfold sharesR
 simp only [FRow.start, f18, c18r0, c18r1, mc, SV.cells, go_sem, Nat.reduceAdd, Nat.reduceSub, true_implies]
 refine callK_of (by simp only [mc, intss, ints, go_sem]) h61 (.inl rfl) ?_
 by_cases h0 : setE s N p = 0
 ·rw [if_pos h0]
  obtain ⟨h, hS⟩ := setE_zero h0
  have hn4 := h.n4
  have hk62 := k62 (p := p) h.s
  have hk63 := sum_roots h.s
  have hsp := roots_pos h hS
  have hs32 := roots_32 h.s
  have hrl := rootsN_len (s := s) (N := N)
  simp only [h0, decide_true, c18r3, go_sem, Nat.reduceAdd, true_implies]
  refine callK_of (by simp only [mc, intss, ints, go_sem]) hk62 (.inr (.inl (by simp only [mc, intss, ints, go_sem]))) ?_
  simp only [c18r4, c18r5, go_sem, true_implies]
  refine loop_rule (fun m τ => ∃ i : Nat, m = N.length - i /\ i <= N.length /\
   τ = ⟨(aN::aN::aN::aN::(.s (ints (rootsN s N)))::(.sl 0 0 i 2 false)::(.s (.int .i64 i))::aZ24), [.row ((twoR (sharesT s N i)).map (.int .i64))]⟩) N.length (promo_one rfl) ?_ ?_
  ·simp only [c18l9m, go_sem, ↓reduceIte, reduceCtorEq, Nat.reduceAdd, Nat.reduceLeDiff]
   exact ⟨0, rfl, Nat.zero_le _, rfl⟩
  ·rintro I m τ ⟨i, rfl, hi, rfl⟩ hI
   simp only [c18l9, c18r6, ints, hrl, go_sem, ↓reduceIte]
   intro _
   refine ⟨fun hlt => ?_, fun hge => ?_⟩
   ·have hrb := root_le h.toOkN (i := i)
    have hk31 := k31 (n := rootN s N i) (d := (rootsN s N).sum) (by omega) hsp (by omega)
    have hts : sharesT s N (i + 1) = sharesT s N i ++ [lst (rootN s N i) (rootsN s N).sum] := by unfold sharesT; rw [List.range_succ, List.map_append]; rfl
    have hsn := twoR_snoc (l := sharesT s N i) (q := lst (rootN s N i) (rootsN s N).sum)
    rw [<- hts] at hsn
    have htl : (twoR (sharesT s N i)).length = i * 2 := by rw [twoR_len]; simp [sharesT]
    simp only [c18r7, rootsN_get (s := s) hlt, go_sem]
    refine callK_of (by simp only [ints, go_sem]) hk63 (.inl rfl) ?_
    simp only [go_sem]
    refine callK_of (by simp only [go_sem]) hk31 (.inl rfl) ?_
    simp only [rat, Nat.reduceBEq, go_sem, ↓reduceIte, Nat.reduceAdd, Nat.reduceMul, true_implies]
    refine ⟨by decide, by decide, rfl, one_rat, one_rat, htl.symm, by omega, by omega, ?_⟩
    rw [hsn]
    simp only [c18r8, c18l9m, go_sem, ↓reduceIte, reduceCtorEq, Nat.reduceLeDiff, true_implies]
    exact ⟨inR_small (by omega) (by omega), hI (N.length - (i + 1)) _ (by omega) ⟨i + 1, rfl, by omega, rfl⟩⟩
   ·have hie : i = N.length := by omega
    subst hie
    have hsl := slice_rats (l := sharesQ s N) (n := N.length) (by simp [sharesQ, sharesT])
    unfold sharesQ at hsl
    simp only [c18r10, hsl, go_sem, true_implies]
    rfl
 ·rw [if_neg h0]
  simp only [h0, decide_false, c18r2, go_sem, Nat.reduceAdd, true_implies]
  refine callK_of (by simp only [mc, intss, ints, go_sem]) h61 (.inl rfl) ?_
  simp only [go_sem, true_implies]
  done
end
end Go.Proofs.YtikfhfgdmlijeaaGreat.Sk
namespace Go.Proofs.YtikfhfgdmlijeaaGreat.Sk
open Go Go.E
def c4r0 : List AOper := [
 oP 1 (.boxS (.t 0)),
 oP 2 (.mov bF)]
def c4r1 : List AOper := [
 oP 11 (.load 3 true (.t 1)),
 oP 12 (.call 11 [(.t 11)])]
def c4r2 : List AOper := [
 oP 13 (.call 12 []),
 oM 2 13]
def c4r3 : List AOper := [
 oP 15 (.load 3 true (.t 1)),
 oP 16 (.call 17 [(.t 15)]),
 oM 14 16,
 oP 17 (.ext (.t 14) 0),
 oP 18 (.ext (.t 14) 1),
 oM 3 17,
 oM 4 18]
def c4r4 : List AOper := [
 oP 20 (.load 3 true (.t 1)),
 oP 21 (.call 18 [(.t 20)]),
 oM 19 21,
 oP 22 (.ext (.t 19) 0),
 oP 23 (.ext (.t 19) 1),
 oM 5 22,
 oM 6 23]
def c4r5 : List AOper := [
 oP 25 (.load 3 true (.t 1)),
 oP 26 (.call 19 [(.t 25)]),
 oM 24 26,
 oP 27 (.ext (.t 24) 0),
 oP 28 (.ext (.t 24) 1),
 oP 7 (.alloc [(.s (.int .i64 0)), (.s (.int .i64 0))]),
 ⟨none, none, .store 2 (.t 7) (.t 27)⟩,
 oM 8 28]
def c4r6 : List AOper := [
 oP 30 (.load 3 true (.t 1)),
 oP 31 (.call 20 [(.t 30)]),
 oM 29 31,
 oP 32 (.ext (.t 29) 0),
 oP 33 (.ext (.t 29) 1),
 oP 9 (.alloc [(.s (.int .i64 0)), (.s (.int .i64 0))]),
 ⟨none, none, .store 2 (.t 9) (.t 32)⟩,
 oM 10 33]
def c4r7 : List AOper := [
 oM 34 3,
 oM 35 5,
 oP 36 (.call 21 [(.t 34), (.t 35)]),
 oM 37 36,
 oH 38 37 true 4,
 oH 39 37 true 6,
 oG 40 37 true (.cmp .eql (.t 38) (.t 39)),
 oP 41 (.pick (.t 37) (.t 40) bF),
 oM 42 41,
 oG 43 42 true (.load 2 true (.t 7)),
 oG 44 42 true (.load 2 true (.t 9)),
 oG 45 42 true (.eql true [(.int .i64), (.int .i64)] false (.t 43) (.t 44)),
 oP 46 (.pick (.t 42) (.t 45) bF),
 oM 47 46,
 oH 48 47 true 8,
 oH 49 47 true 10,
 oG 50 47 true (.cmp .eql (.t 48) (.t 49)),
 oP 51 (.pick (.t 47) (.t 50) bF),
 oM 52 51,
 oG 53 52 true (.call 12 []),
 oP 54 (.pick (.t 52) (.t 53) bF),
 oM 2 54]
def f4 : FRow := ⟨(.seq (.reg 0 c4r0) (.seq (.seq (.reg 0 c4r1) (.cond (.t 12) (.seq (.reg 0 c4r2) .ret) .skip)) (.seq (.reg 0 c4r3) (.seq (.reg 0 c4r4) (.seq (.reg 1 c4r5) (.seq (.reg 1 c4r6) (.seq (.reg 0 c4r7) .ret))))))), [.tmp 2], 55⟩
theorem okf4 : f4.Ok Tryz.prog 4 := ⟨_, _, Tryz.func4, rfl, by kernel_rfl, by kernel_rfl, by kernel_rfl⟩
end Go.Proofs.YtikfhfgdmlijeaaGreat.Sk
namespace Go.Proofs.YtikfhfgdmlijeaaGreat.Sk
open Go Go.E Go.E.Sm
set_option maxRecDepth 10000
theorem shares_form {s : Int} {N : List (List Int)} {p : List Int} : ∃ l e, sharesR s N p = [rats l, .int .i64 e] := by
 unfold sharesR
 split
 ·exact ⟨_, _, rfl⟩
 ·exact ⟨[], _, rfl⟩
theorem pays_form {s : Int} {N : List (List Int)} {p : List Int} : ∃ q e, paysR s N p = [rat q, .int .i64 e] := by
 unfold paysR
 split
 ·exact ⟨_, _, rfl⟩
 ·exact ⟨_, _, rfl⟩
theorem law4 {s : Int} {N : List (List Int)} {p : List Int} : E.Fn Tryz.prog 4 [mc s N p] [.bool true] := by
 refine fn_of_row okf4 ?_
 have h17 := k17 (s := s) (N := N) (p := p)
 have h18 := k18 (s := s) (N := N) (p := p)
 have h19 := k19 (s := s) (N := N) (p := p)
 have h20 := k20 (s := s) (N := N) (p := p)
 obtain ⟨l, e, hl⟩ := shares_form (s := s) (N := N) (p := p)
 obtain ⟨q, e2, hq⟩ := pays_form (s := s) (N := N) (p := p)
 rw [hl] at h17 h18
 rw [hq] at h19 h20
 simp only [FRow.start, f4, c4r0, c4r1, mc, SV.cells, go_sem, Nat.reduceAdd, Nat.reduceSub, true_implies]
 refine callK_of rfl (k11 (s := s) (N := N) (p := p)) (.inl rfl) ?_
 cases hg : greatB N p with
 | true =>
  simp only [c4r2, go_sem, true_implies]
  refine wk ?_
  simp only [go_sem, true_implies]
 | false =>
  simp only [c4r3, go_sem, Nat.reduceAdd, true_implies]
  refine callK_of rfl h17 (.inr (.inl rfl)) ?_
  simp only [c4r4, go_sem, Nat.reduceAdd, true_implies]
  refine callK_of rfl h18 (.inr (.inl rfl)) ?_
  simp only [c4r5, go_sem, Nat.reduceAdd, true_implies]
  refine callK_of rfl h19 (.inl rfl) ?_
  simp only [rat, spl_two, c4r6, go_sem, Nat.reduceAdd, true_implies]
  refine callK_of rfl h20 (.inl rfl) ?_
  simp only [rat, spl_two, c4r7, go_sem, Nat.reduceAdd, true_implies]
  refine callK_of (by simp only [go_sem]) (k21 (xs := l) (ys := l)) (.inl rfl) ?_
  simp only [decide_true, go_sem, Nat.reduceAdd]
  refine wk ?_
  simp only [go_sem, true_implies]
end Go.Proofs.YtikfhfgdmlijeaaGreat.Sk
