/- Contract of a function: right rings. -/
import Derived.Test.YtmcjoahnlbckoaaJ8

set_option linter.all false

namespace Go.Proofs.Ytmcjoahnlbckoaa.Sk
open Go Go.E Go.E.Sm
set_option maxRecDepth 10000
theorem mem_innF {y : Int × Int} {k : Nat} {p : Int × Int} : ∀ {xs : List (Int × Int)} {i : Nat} {ys : List (Int × Int)}, p ∈ innF y k xs i ys ↔ p ∈ ys \/ ∃ (j : Nat) (x : Int × Int), xs[j]? = some x /\ over x y /\ p = (((i + j : Nat) : Int), (k : Int))
 | [], i, ys => by simp [innF]
 | x :: xs, i, ys => by
  rw [innF, mem_innF]
  constructor
  ·rintro (h | ⟨j, z, h1, h2, h3⟩)
   ·split at h
    ·rename_i ho
     rcases mem_insL.1 h with h | h
     ·exact .inr ⟨0, x, rfl, ho, by simpa using h⟩
     ·exact .inl h
    ·exact .inl h
   ·exact .inr ⟨j + 1, z, by simpa using h1, h2, by rw [h3]; congr 2; omega⟩
  ·rintro (h | ⟨j, z, h1, h2, h3⟩)
   ·left
    split
    ·exact mem_insL.2 (.inr h)
    ·exact h
   ·cases j with
    | zero =>
     simp at h1
     subst h1
     left
     rw [if_pos h2]
     exact mem_insL.2 (.inl (by simpa using h3))
    | succ j => exact .inr ⟨j, z, by simpa using h1, h2, by rw [h3]; congr 2; omega⟩
theorem mem_outF {K : List (Int × Int)} {p : Int × Int} : ∀ {rest : List (Int × Int)} {k : Nat} {ys : List (Int × Int)}, p ∈ outF K rest k ys ↔ p ∈ ys \/ ∃ (j : Nat) (y : Int × Int), rest[j]? = some y /\ ∃ (i : Nat) (x : Int × Int), (K.take (k + j))[i]? = some x /\ over x y /\ p = ((i : Int), ((k + j : Nat) : Int))
 | [], k, ys => by simp [outF]
 | y :: rest, k, ys => by
  rw [outF, mem_outF, mem_innF]
  constructor
  ·rintro ((h | ⟨i, x, h1, h2, h3⟩) | ⟨j, z, h1, i, x, h2, h3, h4⟩)
   ·exact .inl h
   ·exact .inr ⟨0, y, rfl, i, x, h1, h2, by rw [h3]; simp⟩
   ·exact .inr ⟨j + 1, z, by simpa using h1, i, x, by rw [<- Nat.add_assoc, Nat.add_right_comm]; exact h2, h3, by rw [h4]; congr 2; omega⟩
  ·rintro (h | ⟨j, z, h1, i, x, h2, h3, h4⟩)
   ·exact .inl (.inl h)
   ·cases j with
    | zero =>
     simp at h1
     subst h1
     exact .inl (.inr ⟨i, x, h2, h3, by rw [h4]; simp⟩)
    | succ j => exact .inr ⟨j, z, by simpa using h1, i, x, by rw [Nat.add_assoc, Nat.add_comm 1 j]; exact h2, h3, by rw [h4]; congr 2; omega⟩
theorem mem_quaF {p : Int × Int} : ∀ {Q ys : List (Int × Int)}, p ∈ quaF Q ys ↔ p ∈ Q \/ p ∈ ys
 | [], ys => by simp [quaF]
 | q :: Q, ys => by
  rw [quaF, mem_quaF, mem_insL]
  simp only [List.mem_cons]
  constructor
  ·rintro (h | h | h) <;> simp [h]
  ·rintro ((h | h) | h) <;> simp [h]
theorem mem_clsh {K Q : List (Int × Int)} {p : Int × Int} : p ∈ clsh K Q ↔ p ∈ Q \/ ∃ (i k : Nat) (x y : Int × Int), i < k /\ K[i]? = some x /\ K[k]? = some y /\ over x y /\ p = ((i : Int), (k : Int)) := by
 unfold clsh
 rw [mem_quaF, mem_outF]
 constructor
 ·rintro (h | h | ⟨k, y, h1, i, x, h2, h3, h4⟩)
  ·exact .inl h
  ·cases h
  ·rw [Nat.zero_add] at h2 h4
   rw [List.getElem?_take] at h2
   split at h2
   ·exact .inr ⟨i, k, x, y, by assumption, h2, h1, h3, h4⟩
   ·cases h2
 ·rintro (h | ⟨i, k, x, y, h0, h1, h2, h3, h4⟩)
  ·exact .inl h
  ·refine .inr (.inr ⟨k, y, h2, i, x, ?_, h3, by rw [h4]; simp⟩)
   rw [Nat.zero_add, List.getElem?_take, if_pos h0]; exact h1
theorem ckQ_mem {m : Int} : ∀ {Q : List (Int × Int)} {last : Int × Int}, ckQ m last Q = 0 -> ∀ q ∈ Q, 0 <= q.1 /\ q.1 < q.2 /\ q.2 <= m
 | [], _, _, q, hq => by cases hq
 | x :: Q, last, h, q, hq => by
  rw [ckQ] at h
  split at h
  ·rename_i hw
   split at h
   ·cases h
   ·split at h
    ·cases h
    ·rename_i h1 h2
     rcases List.mem_cons.1 hq with rfl | hq
     ·simp only [withinB, List.any_cons, List.any_nil, Bool.or_false, Bool.not_eq_true', Bool.or_eq_false_iff, decide_eq_false_iff_not] at hw
      omega
     ·exact ckQ_mem h q hq
  ·cases h
theorem clsh_rng {K Q : List (Int × Int)} (h : ckB K Q = 0) {p : Int × Int} (hp : p ∈ clsh K Q) : 0 <= p.1 /\ p.1 < p.2 /\ p.2 < K.length := by
 obtain ⟨_, _, _, _, hq⟩ := ckB_zero h
 rcases mem_clsh.1 hp with hp | ⟨i, k, x, y, h0, h1, h2, h3, rfl⟩
 ·have := ckQ_mem hq p hp
  omega
 ·have := (List.getElem?_eq_some_iff.1 h2).1
  simp only
  omega
theorem flat1_ints {xs : List Int} : (xs.map (SV.int .i64)).all SV.flat1 = true := by
 rw [List.all_eq_true]
 intro x hx
 obtain ⟨y, _, rfl⟩ := List.mem_map.1 hx
 rfl
theorem rowOf_take {m : Nat} {cs : List SV} (h : m <= cs.length) : rowOf 0 m 1 cs = some (cs.take m) := by
 rw [rowOf, if_pos (by omega), elems, if_pos rfl, List.drop_zero]
def rg (rings : List Int) (i : Int) : Int := rings.getD i.toNat 0
theorem rg_get {rings : List Int} {i : Int} (h0 : 0 <= i) (h1 : i < rings.length) : rings[i.toNat]? = some (rg rings i) := by
 unfold rg
 rw [List.getD_eq_getElem?_getD, List.getElem?_eq_getElem (by omega)]
 rfl
def ckR (K Q : List (Int × Int)) (rings : List Int) : Int × Int :=
 if ckB K Q = 0 then (if rings.length = K.length then (if withinB 0 7 rings = true then (if ∃ p ∈ clsh K Q, rg rings p.1 = rg rings p.2 then (0, 23) else ((cpt (srtI rings)).length, 0)) else (0, 3)) else (0, 15)) else (0, ckB K Q)
theorem k19 {K Q : List (Int × Int)} {rings : List Int} : E.Fn Try.prog 19 [bk K Q, ints rings] [.int .i64 (ckR K Q rings).1, .int .i64 (ckR K Q rings).2] := by
 refine fn_of_row okf19 ?_
 have hb := k57 (K := K) (Q := Q)
 unfold ckR
 simp only [FRow.start, f19, c19r0, c19r1, bk, SV.cells, go_sem, ↓reduceIte, reduceCtorEq, Nat.reduceAdd, Nat.reduceSub, Nat.reduceLT, Nat.reduceLeDiff]
 by_cases h0 : ckB K Q = 0
 ·rw [if_pos h0] at hb
  rw [if_pos h0]
  obtain ⟨hk1, hk8, _⟩ := ckB_zero h0
  refine callK_of (by simp only [bk, go_sem, ↓reduceIte, reduceCtorEq, Nat.reduceAdd, Nat.reduceSub, Nat.reduceLT, Nat.reduceLeDiff]) hb (.inr (by simp only [bk, go_sem, ↓reduceIte, reduceCtorEq, Nat.reduceAdd, Nat.reduceSub, Nat.reduceLT, Nat.reduceLeDiff])) ?_
  simp only [LV.ofResults, c19r2, ne_eq, not_true, decide_false, c19r4, ints, kS, go_sem, ↓reduceIte, reduceCtorEq, Nat.reduceAdd, Nat.reduceSub, Nat.reduceLT, Nat.reduceLeDiff]
  intro hlr
  refine ⟨fun h1 => ?_, fun h1 => ?_⟩
  ·have h1' : rings.length = K.length := by omega
   rw [if_pos h1']
   simp only [c19r6, ints, go_sem, ↓reduceIte, reduceCtorEq, Nat.reduceAdd, Nat.reduceSub, Nat.reduceLT, Nat.reduceLeDiff]
   refine callK_of (by simp only [ints, go_sem, ↓reduceIte, reduceCtorEq, Nat.reduceAdd, Nat.reduceSub, Nat.reduceLT, Nat.reduceLeDiff]) (k58 (lo := 0) (hi := 7) (l := rings)) (.inl rfl) ?_
   cases hw : withinB 0 7 rings with
   | false =>
    simp only [c19r7, go_sem, ↓reduceIte, reduceCtorEq, Nat.reduceAdd, Nat.reduceSub, Nat.reduceLT, Nat.reduceLeDiff]
   | true =>
    rw [if_pos rfl]
    simp only [c19r8, bd, bdC, cm, go_sem, ↓reduceIte, reduceCtorEq, Nat.reduceAdd, Nat.reduceSub, Nat.reduceLT, Nat.reduceLeDiff]
    rw [zip_pe]
    refine loop_rule (fun n τ => ∃ (lf : List (Int × Int)) (last : Option (SV × SV)), n = lf.length /\ (∀ p ∈ lf, p ∈ clsh K Q) /\ (∀ p ∈ clsh K Q, p ∉ lf -> rg rings p.1 ≠ rg rings p.2) /\
     τ = ⟨[.any, .s (ints rings), .any, .any, .any, .any, .any, .any, .any, .any, .any, .any, .any, .any, .any, .any, .any, .any, .any, .any, .any, .any, .any, .any, .any, .any, .any, .any, .any, .any, .any, .any, .any, .any, .loc 0 0, .any, .any, .any, .any, .any, .any, .any, .any, .any, .any, .any, .any, .any, .any, .any, .any, .any, .any, .any, .any, .any], [.mit (lf.map pe) last]⟩) (clsh K Q).length rfl ?_ ?_
    ·simp only [c19l13m, go_sem, ↓reduceIte, reduceCtorEq, Nat.reduceAdd, Nat.reduceSub, Nat.reduceLT, Nat.reduceLeDiff]
     exact ⟨clsh K Q, none, rfl, fun p h => h, fun p h1 h2 => absurd h1 h2, rfl⟩
    ·rintro I n τ ⟨lf, last, rfl, hsub, hdif, rfl⟩ hI
     simp only [c19l13, c19r9, go_sem, ↓reduceIte, reduceCtorEq, Nat.reduceAdd, Nat.reduceSub, Nat.reduceLT, Nat.reduceLeDiff]
     refine ⟨fun hn => ?_, fun l1 e l2 he => ?_⟩
     ·have hlf : lf = [] := by simpa using hn
      subst hlf
      have hno : ¬ ∃ p ∈ clsh K Q, rg rings p.1 = rg rings p.2 := by
       rintro ⟨p, h1, h2⟩
       exact hdif p h1 (by simp) h2
      rw [if_neg hno]
      simp only [c19r14, ints, go_sem, ↓reduceIte, reduceCtorEq, Nat.reduceAdd, Nat.reduceSub, Nat.reduceLT, Nat.reduceLeDiff]
      refine callK_of (by simp only [ints, go_sem, ↓reduceIte, reduceCtorEq, Nat.reduceAdd, Nat.reduceSub, Nat.reduceLT, Nat.reduceLeDiff]) (k60 (xs := rings)) (.inr (by simp only [ints, go_sem, ↓reduceIte, reduceCtorEq, Nat.reduceAdd, Nat.reduceSub, Nat.reduceLT, Nat.reduceLeDiff])) ?_
      have hne : rings ≠ [] := fun e => by rw [e] at h1'; simp at h1'; omega
      refine ⟨_, _, k59 (by omega) hne (by decide) rfl k93, .inl ⟨rfl, rfl⟩, by decide, ints_one, rfl, ?_⟩
      have hsl : (srtI rings).length = rings.length := List.length_mergeSort _
      have hsn : srtI rings ≠ [] := fun e => by rw [e] at hsl; exact hne (List.length_eq_zero_iff.1 hsl.symm)
      rw [if_neg (map_ne hsn)]
      obtain ⟨clip, k61⟩ := k61 (L := srtI rings) (by omega)
      simp only [c19r15, List.length_map, flatE_ints, go_sem, ↓reduceIte, reduceCtorEq, Nat.reduceAdd, Nat.reduceSub, Nat.reduceLT, Nat.reduceLeDiff]
      refine ⟨[], _, 0, _, clip, _, rfl, k61, rowOf_take (by simp), flat1_ints, ?_⟩
      simp only [go_sem, ↓reduceIte, reduceCtorEq, Nat.reduceAdd, Nat.reduceSub, Nat.reduceLT, Nat.reduceLeDiff]
      intro _
      congr 3
      simp [List.length_take]
     ·obtain ⟨a, q, b, rfl, rfl, h2⟩ := pe_split he
      rw [h2]
      have hr := clsh_rng h0 (hsub q (by simp))
      have g1 := rg_get (rings := rings) (i := q.1) hr.1 (by omega)
      have g2 := rg_get (rings := rings) (i := q.2) (by omega) (by omega)
      simp only [c19r10, c19r11, pe, pr, SV.cells, splice, LV.isTup, ints, g1, g2, Nat.mul_one, go_sem, ↓reduceIte, reduceCtorEq, Nat.reduceAdd, Nat.reduceSub, Nat.reduceLT, Nat.reduceLeDiff]
      refine ⟨hr.1, by omega, ?_⟩
      refine ⟨fun h5 => ?_, fun h5 => ?_⟩
      ·rw [if_pos ⟨q, hsub q (by simp), h5⟩]
       simp only [c19r12, go_sem, ↓reduceIte, reduceCtorEq, Nat.reduceAdd, Nat.reduceSub, Nat.reduceLT, Nat.reduceLeDiff]
      ·simp only [c19l13m, go_sem, ↓reduceIte, reduceCtorEq, Nat.reduceAdd, Nat.reduceSub, Nat.reduceLT, Nat.reduceLeDiff]
       refine hI (a ++ b).length _ (by simp) ⟨a ++ b, some (pe q), rfl, fun p hp => hsub p (by simp only [List.mem_append, List.mem_cons] at hp ⊢; rcases hp with hp | hp <;> simp [hp]), fun p hp hn => ?_, rfl⟩
       by_cases hpq : p = q
       ·rw [hpq]; exact h5
       ·exact hdif p hp (by simp only [List.mem_append, List.mem_cons, not_or] at hn ⊢; exact ⟨hn.1, hpq, hn.2⟩)
  ·have h1' : ¬ rings.length = K.length := by omega
   rw [if_neg h1']
   simp only [c19r5, go_sem, ↓reduceIte, reduceCtorEq, Nat.reduceAdd, Nat.reduceSub, Nat.reduceLT, Nat.reduceLeDiff]
 ·rw [if_neg h0] at hb
  rw [if_neg h0]
  refine callK_of (by simp only [bk, go_sem, ↓reduceIte, reduceCtorEq, Nat.reduceAdd, Nat.reduceSub, Nat.reduceLT, Nat.reduceLeDiff]) hb (.inr (by simp only [bk, go_sem, ↓reduceIte, reduceCtorEq, Nat.reduceAdd, Nat.reduceSub, Nat.reduceLT, Nat.reduceLeDiff])) ?_
  simp only [LV.ofResults, c19r2, ne_eq, h0, not_false_eq_true, decide_true, c19r3, go_sem, ↓reduceIte, reduceCtorEq, Nat.reduceAdd, Nat.reduceSub, Nat.reduceLT, Nat.reduceLeDiff]
end Go.Proofs.Ytmcjoahnlbckoaa.Sk
