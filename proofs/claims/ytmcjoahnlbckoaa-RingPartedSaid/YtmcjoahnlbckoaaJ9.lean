/- Contract of a function: right rings. -/
import Derived.Test.YtmcjoahnlbckoaaJ8

set_option linter.all false

namespace Go.Proofs.Ytmcjoahnlbckoaa.Sk
open Go Go.E Go.E.Sm
set_option maxRecDepth 10000
theorem mem_innF {y : Int × Int} {k : Nat} {p : Int × Int} : ∀ {xs : List (Int × Int)} {i : Nat} {ys : List (Int × Int)}, p ∈ innF y k xs i ys ↔ p ∈ ys \/ ∃ (j : Nat) (x : Int × Int), xs[j]? = some x /\ over x y /\ p = (((i + j : Nat) : Int), (k : Int))
 | [], i, ys => by simp [innF]
 | x :: xs, i, ys => by
  rw [innF, mem_innF]
  constructor
  ·rintro (h | ⟨j, z, h1, h2, h3⟩)
   ·split at h
    ·rename_i ho
     rcases mem_insL.1 h with h | h
     ·exact .inr ⟨0, x, rfl, ho, by simpa using h⟩
     ·exact .inl h
    ·exact .inl h
   ·exact .inr ⟨j + 1, z, by simpa using h1, h2, by rw [h3]; congr 2; omega⟩
  ·rintro (h | ⟨j, z, h1, h2, h3⟩)
   ·left
    split
    ·exact mem_insL.2 (.inr h)
    ·exact h
   ·cases j with
    | zero =>
     simp at h1
     subst h1
     left
     rw [if_pos h2]
     exact mem_insL.2 (.inl (by simpa using h3))
    | succ j => exact .inr ⟨j, z, by simpa using h1, h2, by rw [h3]; congr 2; omega⟩
theorem mem_outF {K : List (Int × Int)} {p : Int × Int} : ∀ {rest : List (Int × Int)} {k : Nat} {ys : List (Int × Int)}, p ∈ outF K rest k ys ↔ p ∈ ys \/ ∃ (j : Nat) (y : Int × Int), rest[j]? = some y /\ ∃ (i : Nat) (x : Int × Int), (K.take (k + j))[i]? = some x /\ over x y /\ p = ((i : Int), ((k + j : Nat) : Int))
 | [], k, ys => by simp [outF]
 | y :: rest, k, ys => by
  rw [outF, mem_outF, mem_innF]
  constructor
  ·rintro ((h | ⟨i, x, h1, h2, h3⟩) | ⟨j, z, h1, i, x, h2, h3, h4⟩)
   ·exact .inl h
   ·exact .inr ⟨0, y, rfl, i, x, h1, h2, by rw [h3]; simp⟩
   ·exact .inr ⟨j + 1, z, by simpa using h1, i, x, by rw [<- Nat.add_assoc, Nat.add_right_comm]; exact h2, h3, by rw [h4]; congr 2; omega⟩
  ·rintro (h | ⟨j, z, h1, i, x, h2, h3, h4⟩)
   ·exact .inl (.inl h)
   ·cases j with
    | zero =>
     simp at h1
     subst h1
     exact .inl (.inr ⟨i, x, h2, h3, by rw [h4]; simp⟩)
    | succ j => exact .inr ⟨j, z, by simpa using h1, i, x, by rw [Nat.add_assoc, Nat.add_comm 1 j]; exact h2, h3, by rw [h4]; congr 2; omega⟩
theorem mem_quaF {p : Int × Int} : ∀ {Q ys : List (Int × Int)}, p ∈ quaF Q ys ↔ p ∈ Q \/ p ∈ ys
 | [], ys => by simp [quaF]
 | q :: Q, ys => by
  rw [quaF, mem_quaF, mem_insL]
  simp only [List.mem_cons]
  constructor
  ·rintro (h | h | h) <;> simp [h]
  ·rintro ((h | h) | h) <;> simp [h]
theorem mem_clsh {K Q : List (Int × Int)} {p : Int × Int} : p ∈ clsh K Q ↔ p ∈ Q \/ ∃ (i k : Nat) (x y : Int × Int), i < k /\ K[i]? = some x /\ K[k]? = some y /\ over x y /\ p = ((i : Int), (k : Int)) := by
 unfold clsh
 rw [mem_quaF, mem_outF]
 constructor
 ·rintro (h | h | ⟨k, y, h1, i, x, h2, h3, h4⟩)
  ·exact .inl h
  ·cases h
  ·rw [Nat.zero_add] at h2 h4
   rw [List.getElem?_take] at h2
   split at h2
   ·exact .inr ⟨i, k, x, y, by assumption, h2, h1, h3, h4⟩
   ·cases h2
 ·rintro (h | ⟨i, k, x, y, h0, h1, h2, h3, h4⟩)
  ·exact .inl h
  ·refine .inr (.inr ⟨k, y, h2, i, x, ?_, h3, by rw [h4]; simp⟩)
   rw [Nat.zero_add, List.getElem?_take, if_pos h0]; exact h1
theorem ckQ_mem {m : Int} : ∀ {Q : List (Int × Int)} {last : Int × Int}, ckQ m last Q = 0 -> ∀ q ∈ Q, 0 <= q.1 /\ q.1 < q.2 /\ q.2 <= m
 | [], _, _, q, hq => by cases hq
 | x :: Q, last, h, q, hq => by
  rw [ckQ] at h
  split at h
  ·rename_i hw
   split at h
   ·cases h
   ·split at h
    ·cases h
    ·rename_i h1 h2
     rcases List.mem_cons.1 hq with rfl | hq
     ·simp only [withinB, List.any_cons, List.any_nil, Bool.or_false, Bool.not_eq_true', Bool.or_eq_false_iff, decide_eq_false_iff_not] at hw
      omega
     ·exact ckQ_mem h q hq
  ·cases h
theorem clsh_rng {K Q : List (Int × Int)} (h : ckB K Q = 0) {p : Int × Int} (hp : p ∈ clsh K Q) : 0 <= p.1 /\ p.1 < p.2 /\ p.2 < K.length := by
 obtain ⟨_, _, _, _, hq⟩ := ckB_zero h
 rcases mem_clsh.1 hp with hp | ⟨i, k, x, y, h0, h1, h2, h3, rfl⟩
 ·have := ckQ_mem hq p hp
  omega
 ·have := (List.getElem?_eq_some_iff.1 h2).1
  simp only
  omega
theorem flat1_ints {xs : List Int} : (xs.map (SV.int .i64)).all SV.flat1 = true := by
 rw [List.all_eq_true]
 intro x hx
 obtain ⟨y, _, rfl⟩ := List.mem_map.1 hx
 rfl
theorem rowOf_take {m : Nat} {cs : List SV} (h : m <= cs.length) : rowOf 0 m 1 cs = some (cs.take m) := by
 rw [rowOf, if_pos (by omega), elems, if_pos rfl, List.drop_zero]
def rg (rings : List Int) (i : Int) : Int := rings.getD i.toNat 0
theorem rg_get {rings : List Int} {i : Int} (h0 : 0 <= i) (h1 : i < rings.length) : rings[i.toNat]? = some (rg rings i) := by
 unfold rg
 rw [List.getD_eq_getElem?_getD, List.getElem?_eq_getElem (by omega)]
 rfl
def ckR (K Q : List (Int × Int)) (rings : List Int) : Int × Int :=
 if ckB K Q = 0 then (if rings.length = K.length then (if withinB 0 7 rings = true then (if ∃ p ∈ clsh K Q, rg rings p.1 = rg rings p.2 then (0, 23) else ((cpt (srtI rings)).length, 0)) else (0, 3)) else (0, 15)) else (0, ckB K Q)
theorem k19 {K Q : List (Int × Int)} {rings : List Int} : E.Fn Try.prog 19 [bk K Q, ints rings] [.int .i64 (ckR K Q rings).1, .int .i64 (ckR K Q rings).2] := by
 refine fn_of_row okf19 ?_
 have hb := k57 (K := K) (Q := Q)
 unfold ckR
 simp only [FRow.start, f19, c19r0, c19r1, bk, SV.cells, go_sem, Nat.reduceAdd, Nat.reduceSub]
 by_cases h0 : ckB K Q = 0
 ·rw [if_pos h0] at hb
  rw [if_pos h0]
  obtain ⟨hk1, hk8, _⟩ := ckB_zero h0
  refine callK_of (by simp only [bk, go_sem]) hb (.inr (by simp only [bk, go_sem])) ?_
  simp only [LV.ofResults, c19r2, c19r4, ints, kS, go_sem, Nat.reduceAdd, Nat.reduceLeDiff]
  intro hlr
  refine ⟨fun h1 => ?_, fun h1 => ?_⟩
  ·have h1' : rings.length = K.length := by omega
   rw [if_pos h1']
   simp only [c19r6, go_sem]
   refine callK_of (by simp only [ints, go_sem]) (k58 (lo := 0) (hi := 7) (l := rings)) (.inl rfl) ?_
   cases hw : withinB 0 7 rings with
   | false =>
    simp only [c19r7, go_sem, ↓reduceIte, reduceCtorEq]
   | true =>
    rw [if_pos rfl]
    simp only [c19r8, bd, bdC, cm, go_sem, Nat.reduceAdd, Nat.reduceLeDiff]
    rw [zip_pe]
    refine loop_rule (fun n τ => ∃ (lf : List (Int × Int)) (last : Option (SV × SV)), n = lf.length /\ (∀ p ∈ lf, p ∈ clsh K Q) /\ (∀ p ∈ clsh K Q, p ∉ lf -> rg rings p.1 ≠ rg rings p.2) /\
     τ = ⟨[.any, .s (ints rings), .any, .any, .any, .any, .any, .any, .any, .any, .any, .any, .any, .any, .any, .any, .any, .any, .any, .any, .any, .any, .any, .any, .any, .any, .any, .any, .any, .any, .any, .any, .any, .any, .loc 0 0, .any, .any, .any, .any, .any, .any, .any, .any, .any, .any, .any, .any, .any, .any, .any, .any, .any, .any, .any, .any, .any], [.mit (lf.map pe) last]⟩) (clsh K Q).length rfl ?_ ?_
    ·simp only [c19l13m, go_sem, ↓reduceIte, reduceCtorEq, Nat.reduceLeDiff]
     exact ⟨clsh K Q, none, rfl, fun p h => h, fun p h1 h2 => absurd h1 h2, rfl⟩
    ·rintro I n τ ⟨lf, last, rfl, hsub, hdif, rfl⟩ hI
     simp only [c19l13, c19r9, go_sem, ↓reduceIte]
     refine ⟨fun hn => ?_, fun l1 e l2 he => ?_⟩
     ·have hlf : lf = [] := by simpa using hn
      subst hlf
      have hno : ¬ ∃ p ∈ clsh K Q, rg rings p.1 = rg rings p.2 := by
       rintro ⟨p, h1, h2⟩
       exact hdif p h1 (by simp) h2
      rw [if_neg hno]
      simp only [c19r14, ints, go_sem]
      refine callK_of (by simp only [ints, go_sem]) (k60 (xs := rings)) (.inr (by simp only [ints, go_sem])) ?_
      have hne : rings ≠ [] := fun e => by rw [e] at h1'; simp at h1'; omega
      refine ⟨_, _, k59 (by omega) hne (by decide) rfl k93, .inl ⟨rfl, rfl⟩, by decide, ints_one, rfl, ?_⟩
      have hsl : (srtI rings).length = rings.length := List.length_mergeSort _
      have hsn : srtI rings ≠ [] := fun e => by rw [e] at hsl; exact hne (List.length_eq_zero_iff.1 hsl.symm)
      rw [if_neg (map_ne hsn)]
      obtain ⟨clip, k61⟩ := k61 (L := srtI rings) (by omega)
      simp only [c19r15, List.length_map, flatE_ints, go_sem, ↓reduceIte, Nat.reduceAdd]
      refine ⟨[], _, 0, _, clip, _, rfl, k61, rowOf_take (by simp), flat1_ints, ?_⟩
      simp only [go_sem]
      intro _
      congr 3
      simp [List.length_take]
     ·obtain ⟨a, q, b, rfl, rfl, h2⟩ := pe_split he
      rw [h2]
      have hr := clsh_rng h0 (hsub q (by simp))
      have g1 := rg_get (rings := rings) (i := q.1) hr.1 (by omega)
      have g2 := rg_get (rings := rings) (i := q.2) (by omega) (by omega)
      simp only [c19r10, c19r11, pe, pr, SV.cells, splice, ints, g1, g2, go_sem, Nat.reduceAdd]
      refine ⟨hr.1, by omega, ?_⟩
      refine ⟨fun h5 => ?_, fun h5 => ?_⟩
      ·rw [if_pos ⟨q, hsub q (by simp), h5⟩]
       simp only [c19r12, go_sem]
      ·simp only [c19l13m, go_sem, ↓reduceIte, reduceCtorEq, Nat.reduceLeDiff]
       refine hI (a ++ b).length _ (by simp) ⟨a ++ b, some (pe q), rfl, fun p hp => hsub p (by simp only [List.mem_append, List.mem_cons] at hp ⊢; rcases hp with hp | hp <;> simp [hp]), fun p hp hn => ?_, rfl⟩
       by_cases hpq : p = q
       ·rw [hpq]; exact h5
       ·exact hdif p hp (by simp only [List.mem_append, List.mem_cons, not_or] at hn ⊢; exact ⟨hn.1, hpq, hn.2⟩)
  ·have h1' : ¬ rings.length = K.length := by omega
   rw [if_neg h1']
   simp only [c19r5, go_sem]
 ·rw [if_neg h0] at hb
  rw [if_neg h0]
  refine callK_of (by simp only [bk, go_sem]) hb (.inr (by simp only [bk, go_sem])) ?_
  simp only [LV.ofResults, c19r2, h0, c19r3, go_sem]
end Go.Proofs.Ytmcjoahnlbckoaa.Sk

/- Contracts of the reference's small functions: books, clashes, different numbers. -/
namespace Go.Proofs.Ytmcjoahnlbckoaa.Sk
open Go Go.E Go.E.Sm
set_option maxRecDepth 10000
theorem k94 {xs : List Int} {x : Int} : E.Fn Try.prog 94 [ints xs, .int .i64 x] [.bool (decide (x ∈ xs))] := by
 refine fn_of_row okf94 ?_
 simp only [FRow.start, f94, c94r0, c94r1, ints, go_sem, Nat.reduceAdd, Nat.reduceSub]
 refine loop_rule (fun n τ => ∃ i : Nat, n = xs.length - i /\ i <= xs.length /\ (x ∈ xs.drop i ↔ x ∈ xs) /\
  τ = ⟨[.s (.slice (xs.map (.int .i64))), .s (.int .i64 x), .any, .any, .any, .s (.int .i64 i), .any, .any, .any, .any, .any, .any, .any, .any, .any, .any, .any, .any], []⟩) xs.length rfl ?_ ?_
 ·simp only [c94l6m, go_sem]
  exact ⟨0, rfl, Nat.zero_le _, Iff.rfl, rfl⟩
 ·rintro I n τ ⟨i, rfl, hi, hc, rfl⟩ hI
  simp only [c94l6, c94r2, go_sem, ↓reduceIte]
  intro hlen
  have hlen' : (xs.length : Int) <= 2 ^ 63 - 1 := Int.le_trans (Int.ofNat_le.mpr hlen) maxLen_le
  refine ⟨fun hlt => ?_, fun hge => ?_⟩
  ·have hlt : i < xs.length := by omega
   have hx : xs[i]? = some xs[i] := List.getElem?_eq_getElem hlt
   rw [List.drop_eq_getElem_cons hlt, List.mem_cons] at hc
   generalize xs[i] = y at hx hc
   simp only [c94r3, hx, go_sem]
   refine ⟨fun h1 => ?_, fun h1 => ?_⟩
   ·simp only [c94r4, go_sem]
    simp [<- hc, h1]
   ·simp only [c94r5, c94l6m, go_sem]
    refine ⟨inR_small (by omega) (by omega), hI (xs.length - (i + 1)) _ (by omega) ⟨i + 1, rfl, by omega, ?_, rfl⟩⟩
    rw [<- hc]
    exact ⟨.inr, fun h => h.resolve_left fun e => h1 e.symm⟩
  ·have hie : i = xs.length := by omega
   subst hie
   rw [List.drop_length] at hc
   simp only [c94r7, go_sem]
   simp [<- hc]
def dn : List Int -> List Int -> Nat
 | _, [] => 0
 | pre, x :: xs => (if x ∈ pre then 0 else 1) + dn (pre ++ [x]) xs
theorem dn_le : ∀ (xs pre : List Int), dn pre xs <= xs.length
 | [], _ => Nat.le_refl _
 | x :: xs, pre => by
  have := dn_le xs (pre ++ [x])
  rw [dn, List.length_cons]
  split <;> omega
theorem k62 {xs : List Int} : E.Fn Try.prog 62 [ints xs] [.int .i64 (dn [] xs)] := by
 refine fn_of_row okf62 ?_
 generalize hrs : dn [] xs = rs
 simp only [FRow.start, f62, c62r0, c62r1, c62r2, ints, go_sem, Nat.reduceSub]
 refine loop_rule (fun n τ => ∃ (i c : Nat), n = xs.length - i /\ i <= xs.length /\ c <= i /\ c + dn (xs.take i) (xs.drop i) = rs /\
  τ = ⟨[.s (.slice (xs.map (.int .i64))), .any, .any, .s (.int .i64 c), .s (.int .i64 i), .any, .any, .any, .any, .any, .any, .any, .any, .any, .any, .any, .any, .any, .any, .any, .any, .any, .any], []⟩) xs.length rfl ?_ ?_
 ·simp only [c62l7m, go_sem]
  exact ⟨0, 0, rfl, Nat.zero_le _, Nat.le_refl _, by simpa using hrs, rfl⟩
 ·rintro I n τ ⟨i, c, rfl, hi, hci, hc, rfl⟩ hI
  simp only [c62l7, c62r3, go_sem, ↓reduceIte]
  intro hlen
  have hlen' : (xs.length : Int) <= 2 ^ 63 - 1 := Int.le_trans (Int.ofNat_le.mpr hlen) maxLen_le
  refine ⟨fun hlt => ?_, fun hge => ?_⟩
  ·have hlt : i < xs.length := by omega
   have hx : xs[i]? = some xs[i] := List.getElem?_eq_getElem hlt
   rw [List.drop_eq_getElem_cons hlt, dn] at hc
   rw [show xs.take i ++ [xs[i]] = xs.take (i + 1) by rw [List.take_succ, hx]; rfl] at hc
   generalize xs[i] = y at hx hc
   simp only [c62r4, hx, go_sem, ↓reduceIte]
   refine ⟨Nat.zero_le _, by omega, ?_⟩
   refine callK_of (by simp only [ints, Nat.sub_zero, List.map_take, go_sem]) (k94 (xs := xs.take i) (x := y)) (.inl rfl) ?_
   simp only [go_sem]
   refine ⟨fun h1 => ?_, fun h1 => ?_⟩
   ·rw [if_pos h1] at hc
    simp only [c62r6, c62l7m, go_sem]
    exact ⟨inR_small (by omega) (by omega), hI (xs.length - (i + 1)) _ (by omega) ⟨i + 1, c, rfl, by omega, by omega, by omega, rfl⟩⟩
   ·rw [if_neg h1] at hc
    have := dn_le (xs.drop (i + 1)) (xs.take (i + 1))
    have h2 : (xs.drop (i + 1)).length = xs.length - (i + 1) := List.length_drop
    have hcl : c <= i := hci
    simp only [c62r5, c62r6, c62l7m, go_sem]
    exact ⟨inR_small (by omega) (by omega), inR_small (by omega) (by omega), hI (xs.length - (i + 1)) _ (by omega) ⟨i + 1, c + 1, rfl, by omega, by omega, by omega, rfl⟩⟩
  ·have hie : i = xs.length := by omega
   subst hie
   rw [List.drop_length, dn] at hc
   simp only [c62r8, go_sem]
   rw [<- hc]; simp
def bef (p q : Int × Int) : Prop := p.1 < q.1 \/ p.1 = q.1 /\ p.2 < q.2
instance (p q : Int × Int) : Decidable (bef p q) := by unfold bef; infer_instance
theorem k69 {p q : Int × Int} : E.Fn Try.prog 69 [pr p, pr q] [.bool (decide (bef p q))] := by
 refine fn_of_row okf69 ?_
 simp only [FRow.start, f69, c69r0, pr, SV.cells, go_sem, Nat.reduceAdd, Nat.reduceSub]
 unfold bef
 by_cases h1 : p.1 < q.1
 ·simp only [c69r1, h1, decide_true, true_implies, Int.reduceToNat, Nat.reduceMul, Int.reduceLT, Int.cast_ofNat_Int, go_sem, Nat.reduceAdd, Nat.reduceLeDiff]
  simp
 ·by_cases h2 : p.1 = q.1
  ·simp only [c69r1, h2, decide_true, true_implies, Int.reduceToNat, Nat.reduceMul, Int.reduceLT, Int.cast_ofNat_Int, go_sem, Nat.reduceAdd, Nat.reduceLeDiff]
   simp
  ·simp only [c69r1, h1, h2, decide_false, true_implies, Int.reduceToNat, Nat.reduceMul, Int.reduceLT, Int.cast_ofNat_Int, go_sem, Nat.reduceAdd, Nat.reduceLeDiff]
   simp
theorem cmpL_two {p q : Int × Int} : 0 <= cmpL [p.1, p.2] [q.1, q.2] ↔ ¬ bef p q := by
 unfold bef
 rcases Int.lt_trichotomy p.1 q.1 with h | h | h
 ·simp [cmpL, cmpI, h]
 ·rcases Int.lt_trichotomy p.2 q.2 with h2 | h2 | h2
  ·simp [cmpL, cmpI, h, h2]
  ·simp [cmpL, cmpI, h, h2]
  ·have := Int.not_lt.2 (Int.le_of_lt h2)
   simp [cmpL, cmpI, h, h2, this]
 ·have := Int.not_lt.2 (Int.le_of_lt h)
  simp [cmpL, cmpI, h, this, Int.ne_of_gt h]
theorem ckQ_cons {m : Int} {last q : Int × Int} {Q : List (Int × Int)} : ckQ m last (q :: Q) = if (q.1 < 0 \/ q.2 <= q.1 \/ m < q.2) \/ ¬ bef last q then 2 else ckQ m q Q := by
 rw [ckQ]
 split
 ·rename_i hw
  simp only [withinB, List.any_cons, List.any_nil, Bool.or_false, Bool.not_eq_true', Bool.or_eq_false_iff, decide_eq_false_iff_not] at hw
  split
  ·rename_i h1
   rw [if_pos (.inl (.inr (.inl h1)))]
  ·rename_i h1
   simp only [cmpL_two]
   by_cases h2 : bef last q
   ·rw [if_neg (fun h => h h2), if_neg]
    rintro ((h | h | h) | h)
    ·omega
    ·omega
    ·omega
    ·exact h h2
   ·rw [if_pos h2, if_pos (.inr h2)]
 ·rename_i hw
  rw [if_pos]
  simp only [withinB, List.any_cons, List.any_nil, Bool.or_false, Bool.not_eq_true', Bool.or_eq_false_iff, decide_eq_false_iff_not] at hw
  omega
theorem withinB_one {lo hi n : Int} : withinB lo hi [n] = true ↔ lo <= n /\ n <= hi := by
 simp only [withinB, List.any_cons, List.any_nil, Bool.or_false, Bool.not_eq_true', Bool.or_eq_false_iff, decide_eq_false_iff_not, Int.not_lt]
theorem withinB_two {lo hi n m : Int} : withinB lo hi [n, m] = true ↔ (lo <= n /\ n <= hi) /\ lo <= m /\ m <= hi := by
 simp only [withinB, List.any_cons, List.any_nil, Bool.or_false, Bool.not_eq_true', Bool.or_eq_false_iff, decide_eq_false_iff_not, Int.not_lt]
theorem k24 {K Q : List (Int × Int)} : E.Fn Try.prog 24 [bk K Q] [.int .i64 (ckB K Q)] := by
 refine fn_of_row okf24 ?_
 generalize hrs : ckB K Q = rs
 unfold ckB at hrs
 simp only [FRow.start, f24, c24r0, c24r1, bk, kS, SV.cells, go_sem, Nat.reduceAdd, Nat.reduceSub, Nat.reduceLeDiff]
 intro hlen
 have hlen' : (K.length : Int) <= 2 ^ 63 - 1 := Int.le_trans (Int.ofNat_le.mpr hlen) maxLen_le
 simp only [c24r2, go_sem, Nat.reduceAdd, Nat.reduceLeDiff]
 refine ⟨fun h1 => ?_, fun h1 => ⟨fun h2 => ?_, fun h2 => ?_⟩⟩
 ·rw [if_neg (fun h => absurd (withinB_one.1 h) (by omega))] at hrs
  simp only [c24r3, hrs, go_sem]
 ·rw [if_neg (fun h => absurd (withinB_one.1 h) (by omega))] at hrs
  simp only [c24r3, hrs, go_sem]
 ·intro hlq
  have hlq' : (Q.length : Int) <= 2 ^ 63 - 1 := Int.le_trans (Int.ofNat_le.mpr hlq) maxLen_le
  rw [if_pos (withinB_one.2 (by omega))] at hrs
  refine ⟨fun h3 => ?_, fun h3 => ?_⟩
  ·rw [if_pos (by omega)] at hrs
   simp only [c24r3, hrs, go_sem]
  ·rw [if_neg (by omega)] at hrs
   simp only [c24r4, go_sem]
   refine loop_rule (fun n τ => ∃ i : Nat, n = K.length - i /\ i <= K.length /\ (K.drop i).any oddB = K.any oddB /\
    τ = ⟨[.any, .s (.ptr [kS K, kS Q]), .any, .s (.int .i64 K.length), .s (.int .i64 i), .any, .any, .any, .any, .any, .any, .any, .any, .any, .any, .any, .any, .any, .any, .any, .any, .any, .any, .any, .any, .any, .any, .any, .any, .any, .any, .any, .any, .any, .any, .any, .any, .any, .any, .any, .any, .any, .any, .any, .any, .any, .any, .any, .any, .any, .any, .any, .any, .any, .any, .any, .any, .any, .any, .any, .any, .any, .any, .any, .any, .any, .any, .any, .any, .any, .any, .any, .any, .any, .any, .any, .any, .any, .any, .any, .any, .any, .any, .any, .any, .any, .any, .any, .any, .any, .any, .any, .any, .any, .any, .any, .any, .any, .any], []⟩) K.length rfl ?_ ?_
   ·simp only [c24l9m, go_sem]
    exact ⟨0, rfl, Nat.zero_le _, rfl, rfl⟩
   ·rintro I n τ ⟨i, rfl, hi, hc, rfl⟩ hI
    simp only [c24l9, c24r5, go_sem, ↓reduceIte]
    refine ⟨fun hlt => ?_, fun hge => ?_⟩
    ·have hx : K[i]? = some K[i] := List.getElem?_eq_getElem hlt
     rw [List.drop_eq_getElem_cons hlt, List.any_cons] at hc
     generalize hk : K[i] = k at hx hc
     have hfin : oddB k = true -> rs = 3 := fun h => by rw [<- hc, h, Bool.true_or, if_pos rfl] at hrs; exact hrs.symm
     have hgo : ¬ oddB k = true -> (K.drop (i + 1)).any oddB = K.any oddB := fun h => by rw [<- hc, Bool.eq_false_iff.2 h, Bool.false_or]
     unfold oddB at hfin hgo
     simp only [c24r6, hx, kS, pr, SV.cells, go_sem, Nat.reduceAdd, Nat.reduceLeDiff]
     refine ⟨fun h1 => ?_, fun h1 => ⟨fun h2 => ?_, fun h2 => ⟨fun h3 => ?_, fun h3 => ?_⟩⟩⟩
     ·simp only [c24r7, hfin (by simp [h1]), go_sem]
     ·simp only [c24r7, hfin (by simp [h2]), go_sem]
     ·simp only [c24r7, hfin (by simp [h3]), go_sem]
     ·simp only [c24r8, c24l9m, go_sem]
      exact ⟨inR_small (by omega) (by omega), hI (K.length - (i + 1)) _ (by omega) ⟨i + 1, rfl, by omega, hgo (by simp [h1, h2, h3]), rfl⟩⟩
    ·have hie : i = K.length := by omega
     subst hie
     rw [List.drop_length, List.any_nil] at hc
     rw [<- hc, if_neg (by simp)] at hrs
     simp only [c24r10, go_sem]
     refine loop_rule (fun n τ => ∃ (j : Nat) (last : Int × Int), n = Q.length - j /\ j <= Q.length /\ (j = 0 -> last = (-1, -1)) /\ (0 < j -> Q[j - 1]? = some last) /\ ckQ (K.length - 1) last (Q.drop j) = rs /\
      τ = ⟨[.any, .s (.ptr [kS K, kS Q]), .any, .s (.int .i64 K.length), .any, .s (.int .i64 j), .any, .any, .any, .any, .any, .any, .any, .any, .any, .any, .any, .any, .any, .any, .any, .any, .any, .any, .any, .any, .any, .any, .any, .any, .any, .any, .any, .any, .any, .any, .any, .any, .any, .any, .any, .any, .any, .any, .any, .any, .any, .any, .any, .any, .any, .any, .any, .any, .any, .any, .any, .any, .any, .any, .any, .any, .any, .any, .any, .any, .any, .any, .any, .any, .any, .any, .any, .any, .any, .any, .any, .any, .any, .any, .any, .any, .any, .any, .any, .any, .any, .any, .any, .any, .any, .any, .any, .any, .any, .any, .any, .any, .any], []⟩) Q.length rfl ?_ ?_
     ·simp only [c24l18m, go_sem]
      exact ⟨0, (-1, -1), rfl, Nat.zero_le _, fun _ => rfl, fun h => absurd h (Nat.lt_irrefl _), hrs, rfl⟩
     ·rintro I2 n τ ⟨j, last, rfl, hj, hl0, hl1, hc, rfl⟩ hI2
      simp only [c24l18, c24r11, kS, go_sem, ↓reduceIte, Nat.reduceAdd, Nat.reduceLeDiff]
      intro _
      refine ⟨fun hlt => ?_, fun hge => ?_⟩
      ·have hx : Q[j]? = some Q[j] := List.getElem?_eq_getElem hlt
       rw [List.drop_eq_getElem_cons hlt, ckQ_cons] at hc
       generalize hk : Q[j] = q at hx hc
       simp only [c24r12, c24r13, hx, pr, SV.cells, splice, Int.reduceToNat, Nat.reduceMul, Int.reduceLT, Int.cast_ofNat_Int, go_sem, Nat.reduceAdd, Nat.reduceLeDiff]
       refine ⟨fun h1 => ?_, fun h1 => ⟨by decide, fun h2 => ?_, fun h2 => ⟨by decide, fun h3 => ?_, fun h3 => ?_⟩⟩⟩
       ·rw [if_pos (.inl (.inl h1))] at hc
        simp only [c24r14, hc, go_sem]
       ·rw [if_pos (.inl (.inr (.inl h2)))] at hc
        simp only [c24r14, hc, go_sem]
       ·rw [if_pos (.inl (.inr (.inr (by omega))))] at hc
        simp only [c24r14, hc, go_sem]
       ·simp only [c24r15, go_sem, Nat.reduceAdd, Nat.reduceLeDiff]
        refine ⟨fun h4 => ?_, fun h4 => ?_⟩
        ·have e : ((j : Int) - 1).toNat = j - 1 := by omega
         have hl := hl1 (by omega)
         simp only [e, hl, pr, SV.cells, go_sem, Nat.reduceAdd]
         refine ⟨inR_small (by omega) (by omega), by omega, ?_⟩
         refine callK_of (by simp only [pr, go_sem]) (k69 (p := last) (q := q)) (.inl rfl) ?_
         simp only [go_sem]
         refine ⟨fun h5 => ?_, fun h5 => ?_⟩
         ·rw [if_neg (fun h => h.elim (fun h => by omega) (fun h => h h5))] at hc
          simp only [c24r17, c24l18m, go_sem]
          exact ⟨inR_small (by omega) (by omega), hI2 (Q.length - (j + 1)) _ (by omega) ⟨j + 1, q, rfl, by omega, fun h => absurd h (by omega), fun _ => hx, hc, rfl⟩⟩
         ·rw [if_pos (.inr h5)] at hc
          simp only [c24r16, hc, go_sem]
        ·have hj0 : j = 0 := by omega
         have hl := hl0 hj0
         subst hl
         rw [if_neg (fun h => h.elim (fun h => by omega) (fun h => h (.inl (by simp only; omega))))] at hc
         simp only [c24r17, c24l18m, go_sem]
         exact ⟨inR_small (by omega) (by omega), hI2 (Q.length - (j + 1)) _ (by omega) ⟨j + 1, q, rfl, by omega, fun h => absurd h (by omega), fun _ => hx, hc, rfl⟩⟩
      ·have hje : j = Q.length := by omega
       subst hje
       rw [List.drop_length, ckQ] at hc
       simp only [c24r19, hc, go_sem]
end Go.Proofs.Ytmcjoahnlbckoaa.Sk

/- Contracts of the reference's functions: clashes, pairs, right rings; books that are too great; equal lists. -/
namespace Go.Proofs.Ytmcjoahnlbckoaa.Sk
open Go Go.E Go.E.Sm
set_option maxRecDepth 10000
attribute [go_sem] true_implies false_implies not_true not_false_eq_true ne_eq Nat.mul_one Int.cast_ofNat_Int
def hitQ (a b : Int) (q : Int × Int) : Bool := (decide (q.1 = a) && decide (q.2 = b)) || (decide (q.1 = b) && decide (q.2 = a))
set_option maxHeartbeats 4000000 in
theorem k51r {K Q : List (Int × Int)} {a b : Nat} {x y : Int × Int} (hab : a ≠ b) (hx : K[a]? = some x) (hy : K[b]? = some y) : E.Fn Try.prog 51 [bk K Q, .int .i64 a, .int .i64 b] [.bool (decide (over x y) || Q.any (hitQ a b))] := by
 refine fn_of_row okf51 ?_
 generalize hrs : (decide (over x y) || Q.any (hitQ a b)) = rs
 simp only [FRow.start, f51, c51r0, bk, kS, SV.cells, go_sem, Nat.reduceAdd, Nat.reduceSub]
 simp only [c51r1, hx, hy, pr, SV.cells, splice, go_sem, Nat.reduceAdd, Nat.reduceLeDiff]
 by_cases ho : over x y
 ·simp only [c51r2, ho.1, ho.2, c51r3, go_sem, Nat.reduceAdd]
  rw [<- hrs]; simp [ho]
 ·have hq : Q.any (hitQ a b) = rs := by rw [<- hrs]; simp [ho]
  have ho3 : ¬ x.1 <= y.2 \/ (x.1 <= y.2 /\ ¬ y.1 <= x.2) := by
   by_cases h1 : x.1 <= y.2
   ·exact .inr ⟨h1, fun h2 => ho ⟨h1, h2⟩⟩
   ·exact .inl h1
  rcases ho3 with h1 | ⟨h1, h2⟩
  case' inl => simp only [c51r2, h1, c51r4, go_sem, Nat.reduceAdd]
  case' inr => simp only [c51r2, h1, h2, c51r4, go_sem, Nat.reduceAdd]
  all_goals
   refine loop_rule (fun n τ => ∃ i : Nat, n = Q.length - i /\ i <= Q.length /\ (Q.drop i).any (hitQ a b) = rs /\
    τ = ⟨[.any, .s (.int .i64 a), .s (.int .i64 b), .s (.ptr [kS K, kS Q]), .any, .any, .any, .any, .any, .s (.int .i64 i), .any, .any, .any, .any, .any, .any, .any, .any, .any, .any, .any, .any, .any, .any, .any, .any, .any, .any, .any, .any, .any, .any, .any, .any, .any, .any, .any, .any, .any, .any, .any, .any, .any, .any, .any, .any, .any, .any, .any, .any, .any, .any, .any, .any, .any, .any, .any, .any, .any, .any, .any, .any, .any, .any, .any, .any, .any], [.obj [.s (.int .i64 x.1), .s (.int .i64 x.2)], .obj [.s (.int .i64 y.1), .s (.int .i64 y.2)]]⟩) Q.length rfl ?_ ?_
   ·simp only [c51l10m, go_sem, Nat.reduceAdd]
    exact ⟨0, rfl, Nat.zero_le _, hq, rfl⟩
   ·rintro I n τ ⟨i, rfl, hi, hc, rfl⟩ hI
    simp only [c51l10, c51r5, kS, go_sem, ↓reduceIte, Nat.reduceAdd, Nat.reduceLeDiff]
    intro hlen
    have hlen' : (Q.length : Int) <= 2 ^ 63 - 1 := Int.le_trans (Int.ofNat_le.mpr hlen) maxLen_le
    refine ⟨fun hlt => ?_, fun hge => ?_⟩
    ·have hlt : i < Q.length := by omega
     have hx : Q[i]? = some Q[i] := List.getElem?_eq_getElem hlt
     rw [List.drop_eq_getElem_cons hlt, List.any_cons] at hc
     generalize hqq : Q[i] = q at hx hc
     have hin : inR .i64 ((i : Int) + 1) := inR_small (by omega) (by omega)
     have fin : hitQ a b q = false -> I ⟨[.any, .s (.int .i64 a), .s (.int .i64 b), .s (.ptr [kS K, kS Q]), .any, .any, .any, .any, .any, .s (.int .i64 (i + 1)), .any, .any, .any, .any, .any, .any, .any, .any, .any, .any, .any, .any, .any, .any, .any, .any, .any, .any, .any, .any, .any, .any, .any, .any, .any, .any, .any, .any, .any, .any, .any, .any, .any, .any, .any, .any, .any, .any, .any, .any, .any, .any, .any, .any, .any, .any, .any, .any, .any, .any, .any, .any, .any, .any, .any, .any, .any], [.obj [.s (.int .i64 x.1), .s (.int .i64 x.2)], .obj [.s (.int .i64 y.1), .s (.int .i64 y.2)]]⟩ := fun h =>
      hI (Q.length - (i + 1)) _ (by omega) ⟨i + 1, rfl, by omega, by rw [<- hc, h, Bool.false_or], rfl⟩
     simp only [c51r6, hx, pr, SV.cells, splice, go_sem, Nat.reduceAdd, Nat.reduceLeDiff]
     have n1 : ¬ (a : Int) = b := by omega
     have n2 : ¬ (b : Int) = a := by omega
     by_cases g1 : q.1 = (a : Int)
     ·by_cases g2 : q.2 = (b : Int)
      ·simp only [c51r7, g1, g2, go_sem, Nat.reduceAdd, Int.reduceLE, Int.reduceLT, Int.reduceToNat]
       simp only [hitQ, g1, g2, decide_true, Bool.and_self, Bool.true_or] at hc
       simp only [c51r8, hc, go_sem]
      ·simp only [c51r7, g1, g2, n1, c51r9, c51l10m, go_sem, Nat.reduceAdd, Int.reduceLE, Int.reduceLT, Int.reduceToNat]
       exact ⟨hin, fin (by simp [hitQ, g1, g2, n1])⟩
     ·by_cases g3 : q.1 = (b : Int)
      ·by_cases g4 : q.2 = (a : Int)
       ·simp only [c51r7, g3, g4, n2, go_sem, Nat.reduceAdd, Int.reduceLE, Int.reduceLT, Int.reduceToNat]
        simp only [hitQ, g3, g4, decide_true, Bool.and_self, Bool.or_true, Bool.true_or] at hc
        simp only [c51r8, hc, go_sem]
       ·simp only [c51r7, g3, g4, n2, c51r9, c51l10m, go_sem, Nat.reduceAdd, Int.reduceLE, Int.reduceLT, Int.reduceToNat]
        exact ⟨hin, fin (by simp [hitQ, g3, g4, n2])⟩
      ·simp only [c51r7, g1, g3, c51r9, c51l10m, go_sem, Nat.reduceAdd, Int.reduceLT, Int.reduceToNat]
       exact ⟨hin, fin (by simp [hitQ, g1, g3])⟩
    ·have hie : i = Q.length := by omega
     subst hie
     rw [List.drop_length, List.any_nil] at hc
     simp only [c51r11, hc, go_sem]
theorem hit_iff {K Q : List (Int × Int)} {a b : Nat} {x y : Int × Int} (h : ckB K Q = 0) (hab : a ≠ b) (hx : K[a]? = some x) (hy : K[b]? = some y) : (decide (over x y) || Q.any (hitQ a b)) = decide (pO a b ∈ clsh K Q) := by
 rw [Bool.eq_iff_iff, Bool.or_eq_true, decide_eq_true_eq, decide_eq_true_eq, mem_clsh, List.any_eq_true]
 obtain ⟨_, _, _, _, hq⟩ := ckB_zero h
 have hsym : over x y ↔ over y x := by unfold over; omega
 have hpo : pO a b = if a < b then ((a : Int), (b : Int)) else ((b : Int), (a : Int)) := by
  unfold pO
  split <;> (congr 1 <;> omega)
 rw [hpo]
 by_cases hl : a < b
 ·rw [if_pos hl]
  constructor
  ·rintro (h1 | ⟨q, h1, h2⟩)
   ·exact .inr ⟨a, b, x, y, hl, hx, hy, h1, rfl⟩
   ·have := ckQ_mem hq q h1
    simp only [hitQ, Bool.or_eq_true, Bool.and_eq_true, decide_eq_true_eq] at h2
    rcases h2 with ⟨h2, h3⟩ | ⟨h2, h3⟩
    ·left; rw [<- h2, <- h3]; exact h1
    ·omega
  ·rintro (h1 | ⟨i, k, x', y', h0, h1, h2, h3, h4⟩)
   ·exact .inr ⟨_, h1, by simp [hitQ]⟩
   ·simp only [Prod.mk.injEq] at h4
    have e1 : a = i := by omega
    have e2 : b = k := by omega
    subst e1; subst e2
    rw [hx] at h1; rw [hy] at h2
    cases h1; cases h2
    exact .inl h3
 ·rw [if_neg hl]
  constructor
  ·rintro (h1 | ⟨q, h1, h2⟩)
   ·exact .inr ⟨b, a, y, x, by omega, hy, hx, hsym.1 h1, rfl⟩
   ·have := ckQ_mem hq q h1
    simp only [hitQ, Bool.or_eq_true, Bool.and_eq_true, decide_eq_true_eq] at h2
    rcases h2 with ⟨h2, h3⟩ | ⟨h2, h3⟩
    ·omega
    ·left; rw [<- h2, <- h3]; exact h1
  ·rintro (h1 | ⟨i, k, x', y', h0, h1, h2, h3, h4⟩)
   ·exact .inr ⟨_, h1, by simp [hitQ]⟩
   ·simp only [Prod.mk.injEq] at h4
    have e1 : b = i := by omega
    have e2 : a = k := by omega
    subst e1; subst e2
    rw [hy] at h1; rw [hx] at h2
    cases h1; cases h2
    exact .inl (hsym.2 h3)
theorem k51 {K Q : List (Int × Int)} (h : ckB K Q = 0) {a b : Int} (ha : 0 <= a /\ a < K.length) (hb : 0 <= b /\ b < K.length) (hab : a ≠ b) : E.Fn Try.prog 51 [bk K Q, .int .i64 a, .int .i64 b] [.bool (decide (pO a b ∈ clsh K Q))] := by
 obtain ⟨i, rfl⟩ := Int.eq_ofNat_of_zero_le ha.1
 obtain ⟨k, rfl⟩ := Int.eq_ofNat_of_zero_le hb.1
 have hn : i ≠ k := fun e => hab (by rw [e])
 have hx : K[i]? = some (K[i]'(by omega)) := List.getElem?_eq_getElem _
 have hy : K[k]? = some (K[k]'(by omega)) := List.getElem?_eq_getElem _
 rw [<- hit_iff h hn hx hy]
 exact k51r hn hx hy
end Go.Proofs.Ytmcjoahnlbckoaa.Sk

/- Contracts of the reference's functions: pairs; books that are too great; equal lists. -/
namespace Go.Proofs.Ytmcjoahnlbckoaa.Sk
open Go Go.E Go.E.Sm
set_option maxRecDepth 10000
def greatB (K Q : List (Int × Int)) : Bool := decide (12 < K.length) || decide (16 < Q.length)
theorem k17 {K Q : List (Int × Int)} : E.Fn Try.prog 17 [bk K Q] [.bool (greatB K Q)] := by
 refine fn_of_row okf17 ?_
 generalize hrs : greatB K Q = rs
 unfold greatB at hrs
 simp only [FRow.start, f17, c17r0, c17r1, bk, SV.cells, kS, go_sem, Nat.reduceAdd, Nat.reduceSub, Nat.reduceLeDiff]
 by_cases h1 : 12 < K.length
 ·have h1' : (12 : Int) < K.length := by omega
  simp only [h1', go_sem]
  intro _
  simp [<- hrs, h1]
 ·have h1' : ¬ (12 : Int) < K.length := by omega
  simp only [h1', go_sem]
  intro _
  simp only [h1, decide_false, Bool.false_or] at hrs
  rw [<- hrs]
  have e : decide ((16 : Int) < Q.length) = decide (16 < Q.length) := by rw [decide_eq_decide]; omega
  rw [e]
theorem k33 {xs ys : List Int} : E.Fn Try.prog 33 [ints xs, ints ys] [.bool (decide (xs = ys))] := by
 refine fn_of_row okf33 ?_
 generalize hrs : decide (xs = ys) = rs
 have hrs : xs = ys ↔ rs = true := by rw [<- hrs, decide_eq_true_eq]
 simp only [FRow.start, f33, c33r0, c33r1, ints, go_sem, Nat.reduceAdd, Nat.reduceSub]
 rintro ⟨hlx, hly⟩
 have hlx' : (xs.length : Int) <= 2 ^ 63 - 1 := Int.le_trans (Int.ofNat_le.mpr hlx) maxLen_le
 refine ⟨fun h1 => ?_, fun h1 => ?_⟩
 ·have hl : xs.length = ys.length := by omega
  simp only [c33r3, go_sem]
  refine loop_rule (fun n τ => ∃ i : Nat, n = xs.length - i /\ i <= xs.length /\ (xs.drop i = ys.drop i ↔ rs = true) /\
   τ = ⟨[.s (ints xs), .s (ints ys), .any, .any, .any, .s (.int .i64 i), .any, .any, .any, .any, .any, .any, .any, .any, .any, .any, .any, .any, .any, .any, .any, .any, .any, .any, .any, .any], []⟩) xs.length rfl ?_ ?_
  ·simp only [c33l8m, go_sem]
   exact ⟨0, rfl, Nat.zero_le _, hrs, rfl⟩
  ·rintro I n τ ⟨i, rfl, hi, hc, rfl⟩ hI
   simp only [c33l8, c33r4, ints, go_sem, ↓reduceIte]
   intro _
   refine ⟨fun hlt => ?_, fun hge => ?_⟩
   ·have hlt : i < xs.length := by omega
    have hx : xs[i]? = some xs[i] := List.getElem?_eq_getElem hlt
    have hy : ys[i]? = some (ys[i]'(by omega)) := List.getElem?_eq_getElem _
    rw [List.drop_eq_getElem_cons hlt, List.drop_eq_getElem_cons (by omega : i < ys.length), List.cons.injEq] at hc
    generalize xs[i] = x at hx hc
    generalize ys[i]'(by omega) = y at hy hc
    simp only [c33r5, hx, hy, go_sem]
    refine ⟨fun h2 => ?_, fun h2 => ?_⟩
    ·simp only [h2, true_and] at hc
     simp only [c33r7, c33l8m, go_sem]
     exact ⟨inR_small (by omega) (by omega), hI (xs.length - (i + 1)) _ (by omega) ⟨i + 1, rfl, by omega, hc, rfl⟩⟩
    ·have hc : rs = false := by
      cases rs
      ·rfl
      ·exact absurd (hc.2 rfl).1 h2
     subst hc
     simp only [c33r6, go_sem]
   ·have hie : i = xs.length := by omega
    subst hie
    rw [List.drop_length, List.drop_eq_nil_of_le (by omega)] at hc
    have hc : rs = true := hc.1 rfl
    subst hc
    simp only [c33r9, go_sem]
 ·have hc : rs = false := by
   cases rs
   ·rfl
   ·exact absurd (by rw [hrs.2 rfl]) h1
  subst hc
  simp only [c33r2, go_sem]
end Go.Proofs.Ytmcjoahnlbckoaa.Sk

/- Contract of the reference's function: right rings. -/
namespace Go.Proofs.Ytmcjoahnlbckoaa.Sk
open Go Go.E Go.E.Sm
set_option maxRecDepth 10000
def fsts : List Int -> List Int -> List Int
 | _, [] => []
 | pre, x :: xs => if x ∈ pre then fsts (pre ++ [x]) xs else x :: fsts (pre ++ [x]) xs
theorem dn_fsts : ∀ (xs pre : List Int), dn pre xs = (fsts pre xs).length
 | [], _ => rfl
 | x :: xs, pre => by
  rw [dn, fsts, dn_fsts xs]
  split
  ·omega
  ·rw [List.length_cons]; omega
theorem mem_fsts {y : Int} : ∀ (xs pre : List Int), y ∈ fsts pre xs ↔ y ∈ xs /\ y ∉ pre
 | [], _ => by simp [fsts]
 | x :: xs, pre => by
  have ih := mem_fsts (y := y) xs (pre ++ [x])
  rw [fsts]
  split
  ·rename_i h
   rw [ih]
   simp only [List.mem_append, not_or, List.mem_cons]
   constructor
   ·rintro ⟨h1, h2, h3⟩; exact ⟨.inr h1, h2⟩
   ·rintro ⟨rfl | h1, h2⟩
    ·exact absurd h h2
    ·exact ⟨h1, h2, by simp; intro e; exact h2 (by rw [e]; exact h)⟩
  ·rename_i h
   rw [List.mem_cons, ih]
   simp only [List.mem_append, not_or, List.mem_cons]
   constructor
   ·rintro (rfl | ⟨h1, h2, h3⟩)
    ·exact ⟨.inl rfl, h⟩
    ·exact ⟨.inr h1, h2⟩
   ·rintro ⟨rfl | h1, h2⟩
    ·exact .inl rfl
    ·by_cases e : y = x
     ·exact .inl e
     ·exact .inr ⟨h1, ⟨h2, by simpa using e⟩⟩
theorem fsts_nodup : ∀ (xs pre : List Int), (fsts pre xs).Nodup
 | [], _ => List.nodup_nil
 | x :: xs, pre => by
  have ih := fsts_nodup xs (pre ++ [x])
  rw [fsts]
  split
  ·exact ih
  ·rw [List.nodup_cons]
   exact ⟨fun h => ((mem_fsts _ _).1 h).2 (by simp), ih⟩
theorem mem_cpt {y : Int} : ∀ (l : List Int), y ∈ cpt l ↔ y ∈ l
 | [] => Iff.rfl
 | [x] => Iff.rfl
 | x :: z :: l => by
  have ih := mem_cpt (y := y) (z :: l)
  rw [cpt]
  split
  ·rename_i h; subst h
   rw [ih]; simp
  ·rw [List.mem_cons, ih]; simp only [List.mem_cons]
theorem cpt_sorted : ∀ (l : List Int), l.Pairwise (· <= ·) -> (cpt l).Pairwise (· < ·)
 | [], _ => List.Pairwise.nil
 | [x], _ => List.pairwise_singleton _ _
 | x :: z :: l, h => by
  have h2 := List.pairwise_cons.1 h
  have ih := cpt_sorted (z :: l) h2.2
  rw [cpt]
  split
  ·exact ih
  ·rename_i hne
   rw [List.pairwise_cons]
   refine ⟨fun y hy => ?_, ih⟩
   have hz := h2.1 z (by simp)
   have hy := (mem_cpt _).1 hy
   have h3 := (List.pairwise_cons.1 h2.2).1
   rcases List.mem_cons.1 hy with rfl | hy
   ·omega
   ·have := h3 y hy; omega
theorem srtI_pw (l : List Int) : (srtI l).Pairwise (· <= ·) := by
 have := List.pairwise_mergeSort (le := fun x y : Int => decide (x <= y)) (fun a b c h1 h2 => by simp only [decide_eq_true_eq] at *; omega) (fun a b => by simp only [Bool.or_eq_true, decide_eq_true_eq]; omega) l
 exact this.imp fun h => by simpa using h
theorem mem_srtI {y : Int} {l : List Int} : y ∈ srtI l ↔ y ∈ l := List.mem_mergeSort
theorem nodup_of_lt {l : List Int} (h : l.Pairwise (· < ·)) : l.Nodup := by
 rw [List.nodup_iff_pairwise_ne]
 exact h.imp fun h => by omega
theorem cpt_dn (l : List Int) : (cpt (srtI l)).length = dn [] l := by
 rw [dn_fsts]
 apply List.Perm.length_eq
 rw [List.perm_ext_iff_of_nodup (nodup_of_lt (cpt_sorted _ (srtI_pw l))) (fsts_nodup _ _)]
 intro a
 rw [mem_cpt, mem_srtI, mem_fsts]
 simp
end Go.Proofs.Ytmcjoahnlbckoaa.Sk

/- Contracts of functions: groups of keys. -/
namespace Go.Proofs.Ytmcjoahnlbckoaa.Sk
open Go Go.E Go.E.Sm
set_option maxRecDepth 10000
theorem pO_comm (a b : Int) : pO a b = pO b a := by
 unfold pO
 apply Prod.ext <;> simp only <;> omega
def grp (cl : List (Int × Int)) (keys : List Int) : Prop := keys.Pairwise fun a b => pO a b ∈ cl
instance (cl : List (Int × Int)) (keys : List Int) : Decidable (grp cl keys) := by unfold grp; infer_instance
theorem grp_succ {cl : List (Int × Int)} {keys : List Int} {n : Nat} {k : Int} (h : keys[n]? = some k) : grp cl (keys.take (n + 1)) ↔ grp cl (keys.take n) /\ ∀ x ∈ keys.take n, pO x k ∈ cl := by
 unfold grp
 rw [List.take_succ, h, List.pairwise_append]
 simp
theorem grp_take {cl : List (Int × Int)} {keys : List Int} {n : Nat} (h : ¬ grp cl (keys.take n)) : ¬ grp cl keys := fun h2 => h (List.Pairwise.sublist (List.take_sublist _ _) h2)
theorem k84 {ks : List SV} {Q : SV} {cl : List (Int × Int)} (hcl : cl.Nodup) {keys : List Int} : E.Fn Try.prog 84 [.ptr (bdC (.slice ks) Q cl), ints keys] [.bool (decide (grp cl keys))] := by
 refine fn_of_row okf84 ?_
 generalize hrs : decide (grp cl keys) = rs
 simp only [FRow.start, f84, c84r0, c84r1, ints, go_sem, Nat.reduceAdd, Nat.reduceSub]
 intro hlen
 have hlen' : (keys.length : Int) <= 2 ^ 63 - 1 := Int.le_trans (Int.ofNat_le.mpr hlen) maxLen_le
 refine loop_rule (fun n τ => ∃ i : Nat, n = keys.length - i /\ i <= keys.length /\ grp cl (keys.take i) /\
  τ = ⟨[.s (.ptr (bdC (.slice ks) Q cl)), .s (ints keys), .any, .any, .any, .any, .any, .any, .any, .s (ints keys), .s (.int .i64 keys.length), .s (.int .i64 i), .any, .any, .any, .any, .any, .any, .any, .any, .any, .any, .any, .any, .any, .any, .any, .any, .any, .any, .any, .any, .any, .any], []⟩) keys.length rfl ?_ ?_
 ·simp only [c84l12m, go_sem]
  exact ⟨0, rfl, Nat.zero_le _, List.Pairwise.nil, rfl⟩
 ·rintro I n τ ⟨i, rfl, hi, hg, rfl⟩ hI
  simp only [c84l12, c84r2, go_sem, ↓reduceIte]
  refine ⟨fun hlt => ?_, fun hge => ?_⟩
  ·have hx : keys[i]? = some keys[i] := List.getElem?_eq_getElem hlt
   have hgs := grp_succ (cl := cl) hx
   generalize keys[i] = k at hx hgs
   simp only [c84r3, hx, ints, c84r4, go_sem, ↓reduceIte]
   refine ⟨Nat.zero_le _, hi, fun _ => ?_⟩
   rw [Nat.sub_zero, <- List.map_take]
   have hXl : (keys.take i).length = i := by rw [List.length_take]; omega
   have hno : ¬ grp cl (keys.take (i + 1)) -> rs = false := fun h => by
    rw [<- hrs, decide_eq_false_iff_not]; exact grp_take h
   generalize keys.take i = X at hgs hXl hg
   refine loop_rule (fun n τ => ∃ j : Nat, n = X.length - j /\ j <= X.length /\ (∀ x ∈ X.take j, pO x k ∈ cl) /\
    τ = ⟨[.s (.ptr (bdC (.slice ks) Q cl)), .s (ints keys), .any, .any, .any, .any, .s (.int .i64 k), .any, .any, .s (ints keys), .s (.int .i64 keys.length), .s (.int .i64 i), .any, .any, .any, .any, .any, .any, .s (ints X), .s (.int .i64 X.length), .s (.int .i64 j), .any, .any, .any, .any, .any, .any, .any, .any, .any, .any, .any, .any, .any], []⟩) X.length rfl ?_ ?_
   ·simp only [c84l10m, go_sem]
    exact ⟨0, rfl, Nat.zero_le _, by simp, rfl⟩
   ·rintro I2 n τ ⟨j, rfl, hj, hall, rfl⟩ hI2
    simp only [c84l10, c84r5, go_sem, ↓reduceIte]
    refine ⟨fun hlt2 => ?_, fun hge2 => ?_⟩
    ·have hy : X[j]? = some X[j] := List.getElem?_eq_getElem hlt2
     have hym : X[j] ∈ X := List.getElem_mem _
     have hts : X.take (j + 1) = X.take j ++ [X[j]] := by rw [List.take_succ, hy]; rfl
     generalize X[j] = y at hy hym hts
     have hR := k71 hcl (a := y) (b := k)
     simp only [c84r6, hy, ints, c84r7, bdC, go_sem, Nat.reduceAdd, Nat.reduceLeDiff]
     by_cases h1 : pO y k ∈ cl
     ·rw [decide_eq_true h1] at hR
      refine callK_of (by simp only [go_sem]) hR (.inl rfl) ?_
      simp only [c84r9, c84l10m, go_sem]
      refine ⟨inR_small (by omega) (by omega), hI2 (X.length - (j + 1)) _ (by omega) ⟨j + 1, rfl, by omega, fun x hx => ?_, rfl⟩⟩
      rw [hts, List.mem_append, List.mem_singleton] at hx
      rcases hx with hx | rfl
      ·exact hall x hx
      ·exact h1
     ·rw [decide_eq_false h1] at hR
      refine callK_of (by simp only [go_sem]) hR (.inl rfl) ?_
      have := hno (fun h => h1 ((hgs.1 h).2 y hym))
      subst this
      simp only [c84r8, go_sem]
    ·have hje : j = X.length := by omega
     rw [hje, List.take_length] at hall
     simp only [c84r11, c84l12m, go_sem]
     exact ⟨inR_small (by omega) (by omega), hI (keys.length - (i + 1)) _ (by omega) ⟨i + 1, rfl, by omega, hgs.2 ⟨hg, hall⟩, rfl⟩⟩
  ·have hie : i = keys.length := by omega
   subst hie
   rw [List.take_length] at hg
   rw [decide_eq_true hg] at hrs
   subst hrs
   simp only [c84r13, go_sem]
def incB (m : Int) : Int -> List Int -> Bool
 | _, [] => true
 | lo, k :: ks => withinB lo m [k] && incB m (k + 1) ks
def ckG (K Q : List (Int × Int)) (keys : List Int) : Int :=
 if ckB K Q = 0 then (if incB (K.length - 1) 0 keys = true then (if keys = [] then 3 else if grp (clsh K Q) keys then 0 else 14) else 3) else ckB K Q
theorem k38 {K Q : List (Int × Int)} {keys : List Int} : E.Fn Try.prog 38 [bk K Q, ints keys] [.int .i64 (ckG K Q keys)] := by
 refine fn_of_row okf38 ?_
 have hb := k57 (K := K) (Q := Q)
 generalize hrs : ckG K Q keys = rs
 unfold ckG at hrs
 simp only [FRow.start, f38, c38r0, c38r1, bk, SV.cells, go_sem, Nat.reduceAdd, Nat.reduceSub]
 by_cases h0 : ckB K Q = 0
 ·rw [if_pos h0] at hb
  rw [if_pos h0] at hrs
  obtain ⟨hk1, hk8, _⟩ := ckB_zero h0
  refine callK_of (by simp only [bk, go_sem]) hb (.inr (by simp only [bk, go_sem])) ?_
  simp only [LV.ofResults, c38r2, c38r4, c38r5, ints, go_sem]
  intro hlen
  have hlen' : (keys.length : Int) <= 2 ^ 63 - 1 := Int.le_trans (Int.ofNat_le.mpr hlen) maxLen_le
  refine loop_rule (fun n τ => ∃ (i : Nat) (lo : Int), n = keys.length - i /\ i <= keys.length /\ 0 <= lo /\ incB (K.length - 1) 0 keys = incB (K.length - 1) lo (keys.drop i) /\
   τ = ⟨[.any, .s (ints keys), .s (.ptr [kS K, kS Q]), .any, .any, .s (bd K Q), .any, .s (.int .i64 lo), .any, .any, .any, .any, .any, .any, .any, .any, .any, .any, .s (ints keys), .s (.int .i64 keys.length), .s (.int .i64 i), .any, .any, .any, .any, .any, .any, .any, .any, .any, .any, .any, .any, .any, .any, .any, .any, .any, .any, .any, .any, .any, .any, .any, .any], []⟩) keys.length rfl ?_ ?_
  ·simp only [c38l12m, go_sem]
   exact ⟨0, 0, rfl, Nat.zero_le _, Int.le_refl _, rfl, rfl⟩
  ·rintro I n τ ⟨i, lo, rfl, hi, hlo, hc, rfl⟩ hI
   simp only [c38l12, c38r6, go_sem, ↓reduceIte]
   refine ⟨fun hlt => ?_, fun hge => ?_⟩
   ·have hx : keys[i]? = some keys[i] := List.getElem?_eq_getElem hlt
    rw [List.drop_eq_getElem_cons hlt, incB] at hc
    generalize keys[i] = k at hx hc
    simp only [c38r7, hx, ints, c38r8, kS, go_sem, Nat.reduceAdd, Nat.reduceLeDiff]
    refine ⟨inR_small (by omega) (by omega), by decide, by decide, rfl, by intro e he; rw [List.mem_singleton] at he; subst he; rfl, ?_⟩
    refine callK_of (by simp only [ints, go_sem]) (k58 (lo := lo) (hi := (K.length : Int) - 1) (l := [k])) (.inl rfl) ?_
    cases hw : withinB lo ((K.length : Int) - 1) [k] with
    | false =>
     rw [hw, Bool.false_and] at hc
     rw [hc, if_neg (by simp)] at hrs
     subst hrs
     simp only [c38r9, go_sem]
    | true =>
     rw [hw, Bool.true_and] at hc
     have hw2 := withinB_one.1 hw
     simp only [c38r10, c38r11, c38l12m, go_sem]
     intro _
     exact ⟨inR_small (by omega) (by omega), inR_small (by omega) (by omega), hI (keys.length - (i + 1)) _ (by omega) ⟨i + 1, k + 1, rfl, by omega, by omega, hc, rfl⟩⟩
   ·have hie : i = keys.length := by omega
    subst hie
    rw [List.drop_length, incB] at hc
    rw [hc, if_pos rfl] at hrs
    simp only [c38r13, ints, go_sem]
    intro _
    refine ⟨fun h1 => ?_, fun h1 => ?_⟩
    ·have : keys = [] := List.length_eq_zero_iff.1 (by omega)
     rw [if_pos this] at hrs
     subst hrs
     simp only [c38r14, go_sem]
    ·rw [if_neg (fun e => h1 (by rw [e]; rfl))] at hrs
     simp only [c38r15, bd, kS, go_sem]
     refine callK_of (by simp only [ints, bdC, kS, go_sem]) (k84 (ks := K.map pr) (Q := kS Q) (clsh_nodup (K := K) (Q := Q)) (keys := keys)) (.inl rfl) ?_
     by_cases hg : grp (clsh K Q) keys
     ·rw [if_pos hg] at hrs
      subst hrs
      simp only [hg, c38r17, go_sem]
     ·rw [if_neg hg] at hrs
      subst hrs
      simp only [hg, c38r16, go_sem]
 ·rw [if_neg h0] at hb
  rw [if_neg h0] at hrs
  subst hrs
  refine callK_of (by simp only [bk, go_sem]) hb (.inr (by simp only [bk, go_sem])) ?_
  simp only [LV.ofResults, c38r2, h0, c38r3, go_sem]
end Go.Proofs.Ytmcjoahnlbckoaa.Sk

/- Contracts of functions: the fullest day. -/
namespace Go.Proofs.Ytmcjoahnlbckoaa.Sk
open Go Go.E Go.E.Sm
set_option maxRecDepth 10000
@[go_sem] theorem agg_kS {l : List (Int × Int)} : (kS l).isAgg = false := rfl
def outK (d : Int) (k : Int × Int) : Bool := decide (k.1 <= d) && decide (d <= k.2)
def outC (K : List (Int × Int)) (d : Int) : Nat := K.countP (outK d)
def fl (q : Nat -> Bool) (n : Nat) : List Int := ((List.range n).filter q).map fun i : Nat => (i : Int)
theorem fl_succ {q : Nat -> Bool} {n : Nat} : fl q (n + 1) = if q n then fl q n ++ [(n : Int)] else fl q n := by
 unfold fl
 rw [List.range_succ, List.filter_append, List.map_append]
 by_cases h : q n = true
 ·rw [if_pos h]; simp [h]
 ·rw [if_neg h]; simp [h]
theorem fl_len {q : Nat -> Bool} {n : Nat} : (fl q n).length <= n := by
 unfold fl
 rw [List.length_map]
 exact Nat.le_trans (List.length_filter_le _ _) (by simp)
theorem mem_fl {q : Nat -> Bool} {n : Nat} {x : Int} : x ∈ fl q n ↔ ∃ i : Nat, i < n /\ q i = true /\ x = i := by
 unfold fl
 rw [List.mem_map]
 constructor
 ·rintro ⟨i, h, rfl⟩
  rw [List.mem_filter, List.mem_range] at h
  exact ⟨i, h.1, h.2, rfl⟩
 ·rintro ⟨i, h1, h2, rfl⟩
  exact ⟨i, by rw [List.mem_filter, List.mem_range]; exact ⟨h1, h2⟩, rfl⟩
theorem fl_lt {q : Nat -> Bool} : ∀ {n : Nat}, (fl q n).Pairwise (· < ·)
 | 0 => List.Pairwise.nil
 | n + 1 => by
  rw [fl_succ]
  split
  ·rw [List.pairwise_append]
   refine ⟨fl_lt, List.pairwise_singleton _ _, fun a ha b hb => ?_⟩
   obtain ⟨i, h1, _, rfl⟩ := mem_fl.1 ha
   rw [List.mem_singleton] at hb
   omega
  ·exact fl_lt
theorem slice_all {L : List Int} {n : Nat} (h : n = L.length) : sliceOf 0 n 1 (L.map (SV.int .i64)) = some (ints L) := by
 rw [sliceOf_all (by simpa using h)]
 rfl
theorem k63 {K Q : List (Int × Int)} {cl : List (Int × Int)} {d : Int} (hk8 : K.length <= 8) : E.Fn Try.prog 63 [.ptr (bdC (kS K) (kS Q) cl), .int .i64 d] [.int .i64 (outC K d)] := by
 refine fn_of_row okf63 ?_
 simp only [FRow.start, f63, c63r0, c63r1, c63r2, bdC, kS, go_sem, Nat.reduceAdd, Nat.reduceSub, Nat.reduceLeDiff]
 intro _
 refine loop_rule (fun n τ => ∃ i : Nat, n = K.length - i /\ i <= K.length /\
  τ = ⟨[.any, .s (.int .i64 d), .any, .any, .any, .s (.int .i64 ((K.take i).countP (outK d) : Nat)), .any, .any, .any, .any, .any, .any, .s (kS K), .s (.int .i64 K.length), .s (.int .i64 i), .any, .any, .any, .any, .any, .any, .any, .any, .any, .any, .any, .any, .any, .any, .any, .any, .any], []⟩) K.length rfl ?_ ?_
 ·simp only [c63l8m, go_sem]
  exact ⟨0, rfl, Nat.zero_le _, rfl⟩
 ·rintro I n τ ⟨i, rfl, hi, rfl⟩ hI
  have hcl : (K.take i).countP (outK d) <= i := Nat.le_trans List.countP_le_length (by rw [List.length_take]; omega)
  simp only [c63l8, c63r3, go_sem, ↓reduceIte]
  refine ⟨fun hlt => ?_, fun hge => ?_⟩
  ·have hx : K[i]? = some K[i] := List.getElem?_eq_getElem hlt
   have hts : (K.take (i + 1)).countP (outK d) = (K.take i).countP (outK d) + if outK d K[i] then 1 else 0 := by
    rw [List.take_succ, hx, List.countP_append, Option.toList_some, List.countP_singleton]
   generalize K[i] = k at hx hts
   generalize (K.take i).countP (outK d) = c at *
   have hin : inR .i64 ((i : Int) + 1) := inR_small (by omega) (by omega)
   have fin : ∀ y : Nat, (K.take (i + 1)).countP (outK d) = y -> I ⟨[.any, .s (.int .i64 d), .any, .any, .any, .s (.int .i64 y), .any, .any, .any, .any, .any, .any, .s (kS K), .s (.int .i64 K.length), .s (.int .i64 (i + 1)), .any, .any, .any, .any, .any, .any, .any, .any, .any, .any, .any, .any, .any, .any, .any, .any, .any], []⟩ := fun y hy => by
    subst hy
    exact hI (K.length - (i + 1)) _ (by omega) ⟨i + 1, rfl, by omega, rfl⟩
   simp only [c63r4, hx, kS, pr, SV.cells, splice, go_sem, Nat.reduceAdd]
   unfold outK at hts
   by_cases h1 : k.1 <= d
   ·by_cases h2 : d <= k.2
    ·rw [decide_eq_true h1, decide_eq_true h2, Bool.and_self, if_pos rfl] at hts
     simp only [c63r5, h1, h2, c63r6, c63r7, c63l8m, go_sem]
     exact ⟨inR_small (by omega) (by omega), hin, fin _ hts⟩
    ·rw [decide_eq_true h1, decide_eq_false h2, Bool.and_false, if_neg (by simp)] at hts
     simp only [c63r5, h1, h2, c63r7, c63l8m, go_sem]
     exact ⟨hin, fin _ hts⟩
   ·rw [decide_eq_false h1, Bool.false_and, if_neg (by simp)] at hts
    simp only [c63r5, h1, c63r7, c63l8m, go_sem]
    exact ⟨hin, fin _ hts⟩
  ·have hie : i = K.length := by omega
   subst hie
   simp only [c63r9, List.take_length, outC, go_sem]
def bestF {α : Type} (b : α -> α -> Bool) : α -> List α -> α
 | o, [] => o
 | o, x :: xs => bestF b (if b x o then x else o) xs
def Asks2 (g : FuncId) (first caps : List SV) (x y : SV) (b : Bool) : Prop := E.Fn Try.prog g (first ++ [x, y] ++ caps) [.bool b]
theorem k64 {g : FuncId} {first caps : List SV} {a : Int × Int} {xs : List (Int × Int)} {b : Int × Int -> Int × Int -> Bool} (hg : Ok1 g first caps) (hb : ∀ x y, Asks2 g first caps (pr x) (pr y) (b x y)) : E.Fn Try.prog 64 [kS (a :: xs), .fn g first caps] [pr (bestF b a xs)] := by
 refine fn_of_row okf64 ?_
 generalize hrs : bestF b a xs = rs
 have htk : (xs.map pr).take (xs.length + 1 - 1) = xs.map pr := List.take_of_length_le (by simp)
 simp only [FRow.start, f64, c64r0, c64r1, kS, pr, SV.cells, splice, go_sem, Nat.reduceAdd, Nat.reduceSub, Int.reduceToNat]
 simp only [c64r2, go_sem, ↓reduceIte, Nat.reduceLeDiff, Int.reduceLE, Int.reduceToNat]
 refine ⟨.inr fun e he => ?_, ?_⟩
 ·rcases List.mem_cons.1 he with rfl | he
  ·rfl
  ·obtain ⟨x, _, rfl⟩ := List.mem_map.1 he; rfl
 rw [htk]
 simp only [go_sem]
 intro hlen
 have hlen' : (xs.length : Int) <= 2 ^ 63 - 1 := Int.le_trans (Int.ofNat_le.mpr hlen) maxLen_le
 refine loop_rule (fun n τ => ∃ (i : Nat) (o : Int × Int), n = xs.length - i /\ i <= xs.length /\ bestF b o (xs.drop i) = rs /\
  τ = ⟨[.any, .s (.fn g first caps), .any, .any, .loc 0 0, .loc 1 0, .any, .any, .any, .any, .any, .any, .s (kS xs), .s (.int .i64 xs.length), .s (.int .i64 i), .any, .any, .any, .any, .any, .any, .any, .any, .any, .any], [.obj [.s (.int .i64 0), .s (.int .i64 0)], .obj [.s (.int .i64 o.1), .s (.int .i64 o.2)]]⟩) xs.length rfl ?_ ?_
 ·simp only [c64l8m, go_sem, ↓reduceIte, reduceCtorEq, Nat.reduceAdd, Nat.reduceLeDiff]
  exact ⟨0, a, rfl, Nat.zero_le _, hrs, rfl⟩
 ·rintro I n τ ⟨i, o, rfl, hi, hc, rfl⟩ hI
  simp only [c64l8, c64r3, go_sem, ↓reduceIte, Nat.reduceAdd]
  refine ⟨fun hlt => ?_, fun hge => ?_⟩
  ·have hx : xs[i]? = some xs[i] := List.getElem?_eq_getElem hlt
   rw [List.drop_eq_getElem_cons hlt, bestF] at hc
   generalize xs[i] = x at hx hc
   have hq := hb x o
   have hin : inR .i64 ((i : Int) + 1) := inR_small (by omega) (by omega)
   have fin : ∀ y, bestF b y (xs.drop (i + 1)) = rs -> I ⟨[.any, .s (.fn g first caps), .any, .any, .loc 0 0, .loc 1 0, .any, .any, .any, .any, .any, .any, .s (kS xs), .s (.int .i64 xs.length), .s (.int .i64 (i + 1)), .any, .any, .any, .any, .any, .any, .any, .any, .any, .any], [.obj [.s (.int .i64 0), .s (.int .i64 0)], .obj [.s (.int .i64 y.1), .s (.int .i64 y.2)]]⟩ := fun y hy =>
    hI (xs.length - (i + 1)) _ (by omega) ⟨i + 1, y, rfl, by omega, hy, rfl⟩
   simp only [Asks2, pr] at hq
   simp only [c64r4, hx, kS, pr, SV.cells, splice, c64r5, go_sem, Nat.reduceAdd]
   refine ⟨hg.1, hg.2, callK_of (by simp only [go_sem]) hq (.inl rfl) ?_⟩
   cases hbx : b x o with
   | true =>
    rw [hbx, if_pos rfl] at hc
    simp only [c64r6, splice, c64r7, c64l8m, go_sem, ↓reduceIte, reduceCtorEq, Nat.reduceAdd, Nat.reduceLeDiff]
    exact ⟨hin, fin _ hc⟩
   | false =>
    rw [hbx, if_neg (by simp)] at hc
    simp only [c64r7, c64l8m, go_sem, ↓reduceIte, reduceCtorEq, Nat.reduceAdd, Nat.reduceLeDiff]
    exact ⟨hin, fin _ hc⟩
  ·have hie : i = xs.length := by omega
   subst hie
   rw [List.drop_length, bestF] at hc
   subst hc
   simp only [c64r9, splice, go_sem, Nat.reduceAdd]
   done
def betB (K : List (Int × Int)) (x y : Int × Int) : Bool := decide (outC K y.1 < outC K x.1) || (decide (outC K x.1 = outC K y.1) && decide (x.1 < y.1))
theorem k65 {K Q : List (Int × Int)} {cl : List (Int × Int)} (hk8 : K.length <= 8) {x y : Int × Int} : E.Fn Try.prog 65 [pr x, pr y, .ptr [.fn 63 [.ptr (bdC (kS K) (kS Q) cl)] []]] [.bool (betB K x y)] := by
 refine fn_of_row okf65 ?_
 generalize hrs : betB K x y = rs
 unfold betB at hrs
 simp only [FRow.start, f65, c65r0, pr, SV.cells, go_sem, Nat.reduceAdd, Nat.reduceSub]
 simp only [c65r1, go_sem, Nat.reduceAdd, Nat.reduceLeDiff]
 refine ⟨by kernel_rfl, callK_of (by simp only [bdC, kS, go_sem]) (k63 (K := K) (Q := Q) (cl := cl) (d := x.1) hk8) (.inl rfl) ?_⟩
 simp only [go_sem, Nat.reduceAdd, Nat.reduceLeDiff]
 refine ⟨by kernel_rfl, callK_of (by simp only [bdC, kS, go_sem]) (k63 (K := K) (Q := Q) (cl := cl) (d := y.1) hk8) (.inl rfl) ?_⟩
 generalize outC K x.1 = m at *
 generalize outC K y.1 = n at *
 simp only [c65r2, go_sem, Nat.reduceAdd, Nat.reduceLeDiff]
 refine ⟨fun h1 => ?_, fun h1 => ⟨fun h2 => ?_, fun h2 => ?_⟩⟩
 ·rw [<- hrs]; simp [h1]
 ·have h2' : m = n := by omega
  rw [<- hrs]; simp [h2']
 ·have h2' : ¬ m = n := by omega
  rw [<- hrs]; simp [h1, h2']
def dayK (K : List (Int × Int)) : Int × Int := match K with
 | [] => (0, 0)
 | a :: l => bestF (betB K) a l
def dayR (K Q : List (Int × Int)) : List SV := if ckB K Q = 0 then [.int .i64 (dayK K).1, .int .i64 (outC K (dayK K).1), .int .i64 0] else [.int .i64 0, .int .i64 0, .int .i64 (ckB K Q)]
theorem k21 {K Q : List (Int × Int)} : E.Fn Try.prog 21 [bk K Q] (dayR K Q) := by
 refine fn_of_row okf21 ?_
 have hb := k57 (K := K) (Q := Q)
 unfold dayR
 simp only [FRow.start, f21, c21r0, c21r1, bk, SV.cells, go_sem, Nat.reduceAdd, Nat.reduceSub]
 by_cases h0 : ckB K Q = 0
 ·rw [if_pos h0] at hb
  rw [if_pos h0]
  obtain ⟨hk1, hk8, _⟩ := ckB_zero h0
  refine callK_of (by simp only [bk, go_sem]) hb (.inr (by simp only [bk, go_sem])) ?_
  simp only [LV.ofResults, c21r2, c21r4, bd, splice, go_sem]
  simp only [c21r5, bdC, go_sem, Nat.reduceAdd, Nat.reduceLeDiff]
  obtain ⟨a, l, hK⟩ : ∃ a l, K = a :: l := by
   cases K with
   | nil => simp at hk1
   | cons a l => exact ⟨a, l, rfl⟩
  have hd : dayK K = bestF (betB K) a l := by rw [hK]; rfl
  have h64 := k64 (g := 65) (first := []) (caps := [.ptr [.fn 63 [.ptr (bdC (kS K) (kS Q) (clsh K Q))] []]]) (a := a) (xs := l) (b := betB K) ⟨by kernel_rfl, by rfl⟩ (fun x y => k65 hk8)
  rw [<- hK, <- hd] at h64
  refine callK_of (by simp only [bdC, go_sem]) h64 (.inl rfl) ?_
  simp only [pr, splice, SV.cells, c21r6, go_sem, Nat.reduceAdd]
  refine ⟨by kernel_rfl, callK_of (by simp only [bdC, kS, go_sem]) (k63 (K := K) (Q := Q) (cl := clsh K Q) (d := (dayK K).1) hk8) (.inl rfl) ?_⟩
  simp only [go_sem]
 ·rw [if_neg h0] at hb
  rw [if_neg h0]
  refine callK_of (by simp only [bk, go_sem]) hb (.inr (by simp only [bk, go_sem])) ?_
  simp only [LV.ofResults, c21r2, h0, c21r3, go_sem]
end Go.Proofs.Ytmcjoahnlbckoaa.Sk

/- Contracts of functions: the first one of the greatest groups, as the program looks for it. -/
namespace Go.Proofs.Ytmcjoahnlbckoaa.Sk
open Go Go.E Go.E.Sm
set_option maxRecDepth 10000
def intss (l : List (List Int)) : SV := .slice (l.map ints)
@[go_sem] theorem agg_intss {l : List (List Int)} : (intss l).isAgg = false := rfl
@[go_sem] theorem cells_ints {l : List Int} : (ints l).cells = [ints l] := rfl
theorem promo_keep {d sz : Nat} {σ : AState} {b off len s : Nat} {c : Bool} (h : fget σ.fr d = .sl b off len s c) : promote [(d, none, sz)] σ = σ := by
 simp only [promote, promote1, h]
theorem k82 {g : FuncId} {first caps : List SV} {a : List Int} {xs : List (List Int)} {b : List Int -> List Int -> Bool} (hg : Ok1 g first caps) (hb : ∀ x y, Asks2 g first caps (ints x) (ints y) (b x y)) : E.Fn Try.prog 82 [intss (a :: xs), .fn g first caps] [ints (bestF b a xs)] := by
 refine fn_of_row okf82 ?_
 generalize hrs : bestF b a xs = rs
 have htk : (xs.map ints).take (xs.length + 1 - 1) = xs.map ints := List.take_of_length_le (by simp)
 simp only [FRow.start, f82, c82r0, c82r1, intss, SV.cells, ints, go_sem, Nat.reduceAdd, Nat.reduceSub, Int.reduceToNat]
 simp only [c82r2, go_sem, ↓reduceIte, Nat.reduceLeDiff, Int.reduceLE, Int.reduceToNat]
 refine ⟨.inr fun e he => ?_, ?_⟩
 ·rcases List.mem_cons.1 he with rfl | he
  ·rfl
  ·obtain ⟨x, _, rfl⟩ := List.mem_map.1 he; rfl
 rw [htk]
 simp only [go_sem]
 intro hlen
 have hlen' : (xs.length : Int) <= 2 ^ 63 - 1 := Int.le_trans (Int.ofNat_le.mpr hlen) maxLen_le
 refine loop_rule (fun n τ => ∃ (i : Nat) (o : List Int), n = xs.length - i /\ i <= xs.length /\ bestF b o (xs.drop i) = rs /\
  τ = ⟨[.any, .s (.fn g first caps), .any, .any, .any, .s (ints o), .any, .any, .any, .any, .any, .any, .s (intss xs), .s (.int .i64 xs.length), .s (.int .i64 i), .any, .any, .any, .any, .any, .any, .any, .any, .any, .any], []⟩) xs.length rfl ?_ ?_
 ·simp only [c82l8m, go_sem]
  exact ⟨0, a, rfl, Nat.zero_le _, hrs, rfl⟩
 ·rintro I n τ ⟨i, o, rfl, hi, hc, rfl⟩ hI
  simp only [c82l8, c82r3, go_sem, ↓reduceIte]
  refine ⟨fun hlt => ?_, fun hge => ?_⟩
  ·have hx : xs[i]? = some xs[i] := List.getElem?_eq_getElem hlt
   rw [List.drop_eq_getElem_cons hlt, bestF] at hc
   generalize xs[i] = x at hx hc
   have hq := hb x o
   have hin : inR .i64 ((i : Int) + 1) := inR_small (by omega) (by omega)
   have fin : ∀ y, bestF b y (xs.drop (i + 1)) = rs -> I ⟨[.any, .s (.fn g first caps), .any, .any, .any, .s (ints y), .any, .any, .any, .any, .any, .any, .s (intss xs), .s (.int .i64 xs.length), .s (.int .i64 (i + 1)), .any, .any, .any, .any, .any, .any, .any, .any, .any, .any], []⟩ := fun y hy =>
    hI (xs.length - (i + 1)) _ (by omega) ⟨i + 1, y, rfl, by omega, hy, rfl⟩
   simp only [Asks2] at hq
   simp only [c82r4, hx, intss, ints, SV.cells, c82r5, go_sem]
   refine ⟨hg.1, hg.2, callK_of (by simp only [ints, go_sem]) hq (.inl rfl) ?_⟩
   cases hbx : b x o with
   | true =>
    rw [hbx, if_pos rfl] at hc
    simp only [c82r6, c82r7, c82l8m, go_sem]
    exact ⟨hin, fin _ hc⟩
   | false =>
    rw [hbx, if_neg (by simp)] at hc
    simp only [c82r7, c82l8m, go_sem]
    exact ⟨hin, fin _ hc⟩
  ·have hie : i = xs.length := by omega
   subst hie
   rw [List.drop_length, bestF] at hc
   subst hc
   simp only [c82r9, ints, go_sem]
theorem k104 {xs ys : List Int} : E.Fn Try.prog 104 [ints xs, ints ys] [.bool (decide (ys.length < xs.length))] := by
 refine fn_of_row okf104 ?_
 simp only [FRow.start, f104, c104r0, c104r1, ints, go_sem, Nat.reduceAdd, Nat.reduceSub]
theorem k83 {xs ys : List Int} : E.Fn Try.prog 83 [ints xs, ints ys] [.bool (decide (xs.length < ys.length))] := by
 refine fn_of_row okf83 ?_
 simp only [FRow.start, f83, c83r0, c83r1, ints, go_sem, Nat.reduceAdd, Nat.reduceSub]
def lonB (x y : List Int) : Bool := decide (y.length < x.length)
def gst (cl : List (Int × Int)) (n : Nat) : Nat -> List Int -> Nat -> List Int
 | 0, b, _ => b
 | f + 1, b, from' => bestF lonB b (((List.range' from' (n - from')).filter fun i : Nat => decide (grp cl (b ++ [(i : Int)]))).map fun i : Nat => gst cl n f (b ++ [(i : Int)]) (i + 1))
set_option maxHeartbeats 1000000 in
theorem k79 {K Q : List (Int × Int)} {cl : List (Int × Int)} (hcl : cl.Nodup) (hk8 : K.length <= 8) : ∀ (f : Nat) (b : List Int) (from' : Nat), from' <= K.length -> K.length - from' <= f -> b.length <= from' ->
  E.Fn Try.prog 79 [.ptr (bdC (kS K) (kS Q) cl), ints b, .int .i64 from'] [ints (gst cl K.length (f + 1) b from')] := by
 intro f
 induction f using Nat.strongRecOn with
 | _ f ih =>
  intro b from' h1 h2 h3
  refine fn_of_row okf79 ?_
  generalize hrs : gst cl K.length (f + 1) b from' = rs
  rw [gst] at hrs
  generalize hcd : (fun i : Nat => gst cl K.length f (b ++ [(i : Int)]) (i + 1)) = cd at hrs
  generalize hfq : (fun i : Nat => decide (grp cl (b ++ [(i : Int)]))) = fq at hrs
  have hfq' : ∀ i, fq i = decide (grp cl (b ++ [(i : Int)])) := fun i => by rw [<- hfq]
  have hcd' : ∀ i, cd i = gst cl K.length f (b ++ [(i : Int)]) (i + 1) := fun i => by rw [<- hcd]
  have hbl' : (b.length : Int) <= 8 := by omega
  simp only [FRow.start, f79, c79r0, c79r1, ints, bdC, kS, SV.cells, go_sem, Nat.reduceAdd, Nat.reduceSub, Nat.reduceLT]
  refine ⟨by decide, by decide, rfl, by intro e he; rw [List.mem_singleton] at he; subst he; rfl, ?_⟩
  simp only [c79r2, go_sem]
  have hC0 : ((List.range' from' (from' - from')).filter fq).map cd = [] := by rw [Nat.sub_self]; rfl
  have hCs : ∀ i, from' <= i -> ((List.range' from' (i + 1 - from')).filter fq).map cd = if fq i then ((List.range' from' (i - from')).filter fq).map cd ++ [cd i] else ((List.range' from' (i - from')).filter fq).map cd := fun i hi => by
   rw [show i + 1 - from' = (i - from') + 1 by omega, List.range'_concat, List.filter_append, List.map_append, Nat.one_mul, show from' + (i - from') = i by omega]
   by_cases h : fq i = true
   ·rw [if_pos h]; simp [h]
   ·rw [if_neg h]; simp [h]
  have hCl : ∀ i, (((List.range' from' (i - from')).filter fq).map cd).length <= i := fun i => by
   rw [List.length_map]
   exact Nat.le_trans (List.length_filter_le _ _) (by rw [List.length_range']; omega)
  generalize hCC : (fun i => ((List.range' from' (i - from')).filter fq).map cd) = C
  have hCC' : ∀ i, ((List.range' from' (i - from')).filter fq).map cd = C i := fun i => by rw [<- hCC]
  rw [hCC'] at hC0 hrs
  simp only [hCC'] at hCs hCl
  refine loop_rule (fun n τ => ∃ i : Nat, n = K.length - i /\ from' <= i /\ i <= K.length /\
   τ = ⟨[.s (.ptr (bdC (kS K) (kS Q) cl)), .s (ints b), .any, .any, .any, .any, .any, .sl 0 0 ((C i).length + 1) 1 false, .s (.int .i64 i), .any, .any, .any, .any, .any, .any, .any, .any, .any, .any, .any, .any, .any, .any, .any, .any, .any, .any, .any, .any, .any, .any, .any, .any, .any, .any, .any, .any, .any, .any, .any, .any, .any, .any, .any, .any], [.row ((b :: C i).map ints)]⟩) (K.length - from') (promo_keep rfl) ?_ ?_
  ·simp only [c79l8m, go_sem, ↓reduceIte, reduceCtorEq, Nat.reduceLeDiff]
   exact ⟨from', rfl, Nat.le_refl _, h1, by rw [hC0]; rfl⟩
  ·rintro I n τ ⟨i, rfl, hi0, hi, rfl⟩ hI
   have hCsi := hCs i hi0
   have hCli := hCl i
   generalize hO : C i = O at *
   simp only [c79l8, c79r3, bdC, kS, go_sem, ↓reduceIte, Nat.reduceAdd, Nat.reduceLeDiff]
   intro _
   refine ⟨fun hlt => ?_, fun hge => ?_⟩
   ·have hlt : i < K.length := by omega
    have hin : inR .i64 ((i : Int) + 1) := inR_small (by omega) (by omega)
    have fin : ∀ y : List (List Int), C (i + 1) = y -> I ⟨[.s (.ptr (bdC (kS K) (kS Q) cl)), .s (ints b), .any, .any, .any, .any, .any, .sl 0 0 (y.length + 1) 1 false, .s (.int .i64 (i + 1)), .any, .any, .any, .any, .any, .any, .any, .any, .any, .any, .any, .any, .any, .any, .any, .any, .any, .any, .any, .any, .any, .any, .any, .any, .any, .any, .any, .any, .any, .any, .any, .any, .any, .any, .any, .any], [.row ((b :: y).map ints)]⟩ := fun y hy => by
     subst hy
     exact hI (K.length - (i + 1)) _ (by omega) ⟨i + 1, rfl, by omega, by omega, rfl⟩
    have h84 := k84 (ks := K.map pr) (Q := kS Q) hcl (keys := b ++ [(i : Int)])
    have h79 := ih (f - 1) (by omega) (b ++ [(i : Int)]) (i + 1) (by omega) (by omega) (by rw [List.length_append]; simp; omega)
    rw [show f - 1 + 1 = f by omega, <- hcd'] at h79
    rw [show ((i + 1 : Nat) : Int) = (i : Int) + 1 from rfl] at h79
    rw [hfq'] at hCsi
    have htk : List.take (b.length - 0) (b.map (SV.int .i64)) = b.map (SV.int .i64) := List.take_of_length_le (by simp)
    have htk2 : b.map (SV.int .i64) ++ [SV.int .i64 (i : Int)] = (b ++ [(i : Int)]).map (SV.int .i64) := by rw [List.map_append]; rfl
    simp only [c79r4, ints, go_sem, ↓reduceIte, reduceCtorEq]
    rw [htk, htk2]
    refine ⟨Nat.zero_le _, by decide, by decide, rfl, one_int, ⟨ints_one, one_int, ?_, ?_, by decide⟩, fun _ => ?_⟩
    ·rw [List.length_map]; simp only [List.length_singleton]; omega
    ·rw [List.length_map]; simp only [List.length_singleton]; omega
    simp only [c79r5, go_sem]
    refine callK_of (by simp only [ints, bdC, kS, go_sem]) h84 (.inl rfl) ?_
    by_cases hg : grp cl (b ++ [(i : Int)])
    ·rw [if_pos (decide_eq_true hg)] at hCsi
     simp only [hg, decide_true]
     simp only [c79r6, go_sem]
     refine ⟨hin, ?_⟩
     refine callK_of (by simp only [ints, bdC, kS, go_sem]) h79 (.inr (by simp only [ints, bdC, kS, go_sem])) ?_
     simp only [flatE, go_sem, Nat.reduceAdd]
     have one_ints : ∀ e ∈ [ints (cd i)], e.cells.length = 1 := fun e he => by rw [List.mem_singleton] at he; subst he; rfl
     refine ⟨by decide, by decide, rfl, one_ints, one_ints, by omega, by omega, ?_⟩
     have := fin _ hCsi
     simp only [c79r7, c79l8m, go_sem, ↓reduceIte, reduceCtorEq, Nat.reduceLeDiff]
     refine ⟨hin, ?_⟩
     simp only [List.map_append, List.length_append, List.map_cons, List.map_nil, List.length_cons, List.length_nil] at this
     exact this
    ·rw [if_neg (by simp [hg])] at hCsi
     simp only [hg, decide_false]
     simp only [c79r7, c79l8m, go_sem, ↓reduceIte, reduceCtorEq, Nat.reduceLeDiff]
     exact ⟨hin, fin _ hCsi⟩
   ·have hie : i = K.length := by omega
    subst hie
    rw [hO] at hrs
    simp only [c79r9, go_sem]
    refine ⟨_, rowOf_take (by simp), ?_⟩
    rw [show List.take (O.length + 1) (ints b :: O.map ints) = (b :: O).map ints from List.take_of_length_le (by simp)]
    refine callK_of (by simp only [intss, go_sem]) (k82 (g := 104) (first := []) (caps := []) (a := b) (xs := O) (b := lonB) ⟨by kernel_rfl, by rfl⟩ (fun x y => k104)) (.inr (by simp only [intss, go_sem])) ?_
    rw [hrs]
    simp only [ints, go_sem]
def grpR (K Q : List (Int × Int)) : List SV := if ckB K Q = 0 then [ints (gst (clsh K Q) K.length (K.length + 1) [] 0), .int .i64 0] else [.slice [], .int .i64 (ckB K Q)]
theorem k34 {K Q : List (Int × Int)} : E.Fn Try.prog 34 [bk K Q] (grpR K Q) := by
 refine fn_of_row okf34 ?_
 have hb := k57 (K := K) (Q := Q)
 unfold grpR
 simp only [FRow.start, f34, c34r0, c34r1, bk, SV.cells, go_sem, Nat.reduceAdd, Nat.reduceSub]
 by_cases h0 : ckB K Q = 0
 ·rw [if_pos h0] at hb
  rw [if_pos h0]
  obtain ⟨hk1, hk8, _⟩ := ckB_zero h0
  refine callK_of (by simp only [bk, go_sem]) hb (.inr (by simp only [bk, go_sem])) ?_
  simp only [LV.ofResults, c34r2, c34r4, bd, go_sem]
  have h := k79 (K := K) (Q := Q) (clsh_nodup (K := K) (Q := Q)) hk8 K.length [] 0 (Nat.zero_le _) (by omega) (Nat.le_refl _)
  refine callK_of (by simp only [ints, bdC, kS, Int.natCast_zero, go_sem]) h (.inr (by simp only [ints, bdC, kS, Int.natCast_zero, go_sem])) ?_
  simp only [ints, go_sem]
 ·rw [if_neg h0] at hb
  rw [if_neg h0]
  refine callK_of (by simp only [bk, go_sem]) hb (.inr (by simp only [bk, go_sem])) ?_
  simp only [LV.ofResults, c34r2, h0, c34r3, go_sem]
end Go.Proofs.Ytmcjoahnlbckoaa.Sk

/- Contracts of functions: sets by bits, the first one of the greatest groups. -/
namespace Go.Proofs.Ytmcjoahnlbckoaa.Sk
open Go Go.E Go.E.Sm
set_option maxRecDepth 10000
end Go.Proofs.Ytmcjoahnlbckoaa.Sk

/- Contracts of functions: circles of keys. -/
namespace Go.Proofs.Ytmcjoahnlbckoaa.Sk
open Go Go.E Go.E.Sm
set_option maxRecDepth 10000
def cyc (cl : List (Int × Int)) (keys : List Int) : Prop := ∀ i, i < keys.length -> pO (keys.getD i 0) (keys.getD ((i + 1) % keys.length) 0) ∈ cl
instance (cl : List (Int × Int)) (keys : List Int) : Decidable (cyc cl keys) := by unfold cyc; infer_instance
def oddL (keys : List Int) : Prop := keys.length < 3 \/ keys.length % 2 = 0 \/ dn [] keys < keys.length
instance (keys : List Int) : Decidable (oddL keys) := by unfold oddL; infer_instance
def ckC (K Q : List (Int × Int)) (keys : List Int) : Int :=
 if ckB K Q = 0 then (if withinB 0 (K.length - 1) keys = true then (if oddL keys then 16 else if cyc (clsh K Q) keys then 0 else 14) else 3) else ckB K Q
theorem fsts_sub : ∀ (xs pre : List Int), (fsts pre xs).Sublist xs
 | [], _ => List.Sublist.refl _
 | x :: xs, pre => by
  rw [fsts]
  split
  ·exact (fsts_sub xs _).cons _
  ·exact (fsts_sub xs _).cons₂ _
theorem dn_nodup {xs : List Int} (h : ¬ dn [] xs < xs.length) : xs.Nodup := by
 rw [dn_fsts] at h
 have := (fsts_sub xs []).eq_of_length (Nat.le_antisymm (fsts_sub xs []).length_le (by omega))
 rw [<- this]
 exact fsts_nodup _ _
theorem within_mem {lo hi : Int} {l : List Int} (h : withinB lo hi l = true) {x : Int} (hx : x ∈ l) : lo <= x /\ x <= hi := by
 simp only [withinB, Bool.not_eq_true', List.any_eq_false, Bool.or_eq_true, decide_eq_true_eq, not_or, Int.not_lt] at h
 exact h x hx
theorem within_of {lo hi : Int} {l : List Int} (h : ∀ x ∈ l, lo <= x /\ x <= hi) : withinB lo hi l = true := by
 simp only [withinB, Bool.not_eq_true', List.any_eq_false, Bool.or_eq_true, decide_eq_true_eq, not_or, Int.not_lt]
 exact h
theorem tmod2 (n : Nat) : (n : Int).tmod 2 = ((n % 2 : Nat) : Int) := by
 rw [Int.tmod_eq_emod_of_nonneg (by omega)]; omega
theorem getD_get {l : List Int} {i : Nat} (h : i < l.length) : l[i]? = some (l.getD i 0) := by
 rw [List.getD_eq_getElem?_getD, List.getElem?_eq_getElem h]; rfl
theorem cyc_prev {cl : List (Int × Int)} {keys : List Int} (h0 : 0 < keys.length) : cyc cl keys ↔ ∀ j, j < keys.length -> pO (keys.getD (if j = 0 then keys.length - 1 else j - 1) 0) (keys.getD j 0) ∈ cl := by
 unfold cyc
 constructor
 ·intro h j hj
  split
  ·rename_i e
   have := h (keys.length - 1) (by omega)
   rw [show keys.length - 1 + 1 = keys.length by omega, Nat.mod_self] at this
   rw [e]; exact this
  ·have := h (j - 1) (by omega)
   rw [show j - 1 + 1 = j by omega, Nat.mod_eq_of_lt hj] at this
   exact this
 ·intro h i hi
  by_cases e : i + 1 = keys.length
  ·have := h 0 h0
   rw [if_pos rfl] at this
   rw [e, Nat.mod_self, show i = keys.length - 1 by omega]; exact this
  ·have := h (i + 1) (by omega)
   rw [if_neg (by omega), Nat.add_sub_cancel] at this
   rw [Nat.mod_eq_of_lt (by omega)]; exact this
set_option maxHeartbeats 1000000 in
theorem k40 {K Q : List (Int × Int)} {keys : List Int} (hkl : keys.length <= 1000) : E.Fn Try.prog 40 [bk K Q, ints keys] [.int .i64 (ckC K Q keys)] := by
 refine fn_of_row okf40 ?_
 have hb := k57 (K := K) (Q := Q)
 generalize hrs : ckC K Q keys = rs
 unfold ckC at hrs
 simp only [FRow.start, f40, c40r0, c40r1, bk, SV.cells, go_sem, Nat.reduceAdd, Nat.reduceSub]
 by_cases h0 : ckB K Q = 0
 ·rw [if_pos h0] at hb
  rw [if_pos h0] at hrs
  obtain ⟨hk1, hk8, _⟩ := ckB_zero h0
  refine callK_of (by simp only [bk, go_sem]) hb (.inr (by simp only [bk, go_sem])) ?_
  simp only [LV.ofResults, c40r2, c40r4, kS, go_sem, Nat.reduceAdd, Nat.reduceLeDiff]
  refine ⟨inR_small (by omega) (by omega), ?_⟩
  refine callK_of (by simp only [ints, go_sem]) (k58 (lo := 0) (hi := (K.length : Int) - 1) (l := keys)) (.inl rfl) ?_
  cases hw : withinB 0 ((K.length : Int) - 1) keys with
  | false =>
   rw [hw, if_neg (by simp)] at hrs
   subst hrs
   simp only [c40r5, go_sem]
  | true =>
   rw [hw, if_pos rfl] at hrs
   simp only [go_sem]
   intro _
   by_cases h1 : keys.length < 3
   ·rw [if_pos (.inl h1)] at hrs
    subst hrs
    have h1' : (keys.length : Int) < 3 := by omega
    simp only [c40r6, ints, h1', c40r7, go_sem]
   ·have h1' : ¬ (keys.length : Int) < 3 := by omega
    by_cases h2 : keys.length % 2 = 0
    ·rw [if_pos (.inr (.inl h2))] at hrs
     subst hrs
     have h2' : (keys.length : Int).tmod 2 = 0 := by rw [tmod2, h2]; rfl
     simp only [c40r6, ints, h1', h2', c40r7, go_sem]
     decide
    ·have h2' : ¬ (keys.length : Int).tmod 2 = 0 := by rw [tmod2]; omega
     have hne : keys ≠ [] := fun e => by rw [e] at h1; simp at h1
     simp only [c40r6, ints, h1', h2', go_sem]
     refine ⟨by decide, ?_⟩
     refine callK_of (by simp only [ints, go_sem]) (k60 (xs := keys)) (.inr (by simp only [ints, go_sem])) ?_
     refine ⟨_, _, k59 hkl hne (by decide) rfl k93, .inl ⟨rfl, rfl⟩, by decide, ints_one, rfl, ?_⟩
     have hsl : (srtI keys).length = keys.length := List.length_mergeSort _
     have hsn : srtI keys ≠ [] := fun e => by rw [e] at hsl; exact hne (List.length_eq_zero_iff.1 hsl.symm)
     rw [if_neg (map_ne hsn)]
     obtain ⟨clip, k61⟩ := k61 (L := srtI keys) (by omega)
     have hcd := cpt_dn keys
     have hcl : (cpt (srtI keys)).length <= (srtI keys).length := cpt_len _
     simp only [flatE_ints, go_sem, ↓reduceIte]
     refine ⟨[], _, 0, _, clip, _, rfl, k61, rowOf_take (by simp), flat1_ints, ?_⟩
     have e1 : (List.take (cpt (srtI keys)).length (((cpt (srtI keys)) ++ List.replicate ((srtI keys).length - (cpt (srtI keys)).length) 0).map (SV.int .i64))).length = dn [] keys := by
      rw [List.length_take, List.length_map, List.length_append, hcd]; omega
     simp only [e1, go_sem]
     by_cases h3 : dn [] keys < keys.length
     ·rw [if_pos (.inr (.inr h3))] at hrs
      subst hrs
      have h3' : (dn [] keys : Int) < keys.length := by omega
      simp only [h3, c40r7, go_sem]
      try (intros; trivial)
     ·rw [if_neg (fun h => h.elim h1 (fun h => h.elim h2 h3))] at hrs
      have h3' : ¬ (dn [] keys : Int) < keys.length := by omega
      have ek : ((keys.length : Int) - 1) = ((keys.length - 1 : Nat) : Int) := by omega
      have hx := getD_get (l := keys) (i := keys.length - 1) (by omega)
      have hcp := cyc_prev (cl := clsh K Q) (keys := keys) (by omega)
      simp only [h3, c40r8, ints, ek, hx, go_sem]
      intro _
      refine ⟨inR_small (by omega) (by omega), ?_⟩
      simp only [c40r9, go_sem]
      intro _ _
      refine loop_rule (fun n τ => ∃ j : Nat, n = keys.length - j /\ j <= keys.length /\ (∀ j', j' < j -> pO (keys.getD (if j' = 0 then keys.length - 1 else j' - 1) 0) (keys.getD j' 0) ∈ clsh K Q) /\
       τ = ⟨[.any, .any, .any, .any, .any, .s (bd K Q), .any, .s (.int .i64 (keys.getD (if j = 0 then keys.length - 1 else j - 1) 0)), .any, .any, .any, .any, .any, .any, .any, .any, .any, .any, .any, .any, .any, .any, .any, .any, .any, .any, .any, .any, .any, .any, .any, .any, .any, .any, .any, .any, .any, .any, .any, .any, .any, .any, .any, .any, .any, .any, .any, .any, .any, .any, .any, .any, .any, .s (ints keys), .s (.int .i64 keys.length), .s (.int .i64 j), .any, .any, .any, .any, .any, .any, .any, .any, .any, .any, .any, .any, .any], [.frz (((cpt (srtI keys)) ++ List.replicate ((srtI keys).length - (cpt (srtI keys)).length) 0).map (SV.int .i64))]⟩) keys.length rfl ?_ ?_
      ·simp only [c40l16m, go_sem]
       exact ⟨0, rfl, Nat.zero_le _, fun j h => absurd h (Nat.not_lt_zero _), rfl⟩
      ·rintro I n τ ⟨j, rfl, hj, hall, rfl⟩ hI
       simp only [c40l16, c40r10, go_sem, ↓reduceIte]
       refine ⟨fun hlt => ?_, fun hge => ?_⟩
       ·have hxj := getD_get (l := keys) (i := j) hlt
        have hR := k71 (clsh_nodup (K := K) (Q := Q)) (a := keys.getD (if j = 0 then keys.length - 1 else j - 1) 0) (b := keys.getD j 0)
        simp only [c40r11, ints, hxj, c40r12, bd, bdC, go_sem, Nat.reduceAdd, Nat.reduceLeDiff]
        refine callK_of (by simp only [go_sem]) hR (.inl rfl) ?_
        by_cases h5 : pO (keys.getD (if j = 0 then keys.length - 1 else j - 1) 0) (keys.getD j 0) ∈ clsh K Q
        ·simp only [h5, decide_true]
         simp only [c40r14, c40r15, c40l16m, go_sem]
         refine ⟨inR_small (by omega) (by omega), hI (keys.length - (j + 1)) _ (by omega) ⟨j + 1, rfl, by omega, fun j' h => ?_, ?_⟩⟩
         ·by_cases e : j' = j
          ·subst e; exact h5
          ·exact hall j' (by omega)
         ·rw [if_neg (by omega : ¬ j + 1 = 0), Nat.add_sub_cancel]; rfl
        ·have hn : ¬ cyc (clsh K Q) keys := fun h => h5 (hcp.1 h j hlt)
         rw [if_neg hn] at hrs
         subst hrs
         simp only [h5, decide_false]
         simp only [c40r13, go_sem]
       ·have hje : j = keys.length := by omega
        subst hje
        rw [if_pos (hcp.2 hall)] at hrs
        subst hrs
        simp only [c40r17, go_sem]
 ·rw [if_neg h0] at hb
  rw [if_neg h0] at hrs
  subst hrs
  refine callK_of (by simp only [bk, go_sem]) hb (.inr (by simp only [bk, go_sem])) ?_
  simp only [LV.ofResults, c40r2, h0, c40r3, go_sem]
set_option maxHeartbeats 1000000 in
theorem k41 {K Q : List (Int × Int)} {keys : List Int} : E.Fn Try.prog 41 [bk K Q, ints keys] [.int .i64 (ckC K Q keys)] := by
 refine fn_of_row okf41 ?_
 generalize hrs : ckC K Q keys = rs
 unfold ckC at hrs
 simp only [FRow.start, f41, c41r0, c41r1, bk, SV.cells, go_sem, Nat.reduceAdd, Nat.reduceSub]
 refine callK_of (by simp only [bk, go_sem]) (k24 (K := K) (Q := Q)) (.inl rfl) ?_
 by_cases h0 : ckB K Q = 0
 ·rw [if_pos h0] at hrs
  obtain ⟨hk1, hk8, _⟩ := ckB_zero h0
  simp only [h0, c41r3, go_sem]
  refine loop_rule (fun n τ => ∃ i : Nat, n = keys.length - i /\ i <= keys.length /\ withinB 0 (K.length - 1) keys = withinB 0 (K.length - 1) (keys.drop i) /\
   τ = ⟨[.any, .s (ints keys), .s (.ptr [kS K, kS Q]), .any, .any, .s (.int .i64 i), .any, .any, .any, .any, .any, .any, .any, .any, .any, .any, .any, .any, .any, .any, .any, .any, .any, .any, .any, .any, .any, .any, .any, .any, .any, .any, .any, .any, .any, .any, .any, .any, .any, .any, .any, .any, .any, .any, .any, .any, .any, .any, .any, .any, .any, .any, .any, .any, .any, .any, .any, .any, .any, .any, .any, .any, .any, .any, .any, .any, .any, .any, .any, .any], []⟩) keys.length rfl ?_ ?_
  ·simp only [c41l8m, go_sem]
   exact ⟨0, rfl, Nat.zero_le _, rfl, rfl⟩
  ·rintro I n τ ⟨i, rfl, hi, hc, rfl⟩ hI
   simp only [c41l8, c41r4, ints, go_sem, ↓reduceIte]
   intro hlen
   have hlen' : (keys.length : Int) <= 2 ^ 63 - 1 := Int.le_trans (Int.ofNat_le.mpr hlen) maxLen_le
   refine ⟨fun hlt => ?_, fun hge => ?_⟩
   ·have hlt : i < keys.length := by omega
    have hx : keys[i]? = some keys[i] := List.getElem?_eq_getElem hlt
    rw [List.drop_eq_getElem_cons hlt] at hc
    generalize keys[i] = x at hx hc
    have hbad : (x < 0 \/ (K.length : Int) <= x) -> rs = 3 := fun h => by
     have : withinB 0 ((K.length : Int) - 1) keys = false := by
      rw [hc]
      unfold withinB
      rw [List.any_cons]
      simp only [Bool.not_eq_false', Bool.or_eq_true, decide_eq_true_eq]
      left; omega
     rw [this] at hrs
     simpa using hrs.symm
    by_cases h2 : x < 0
    ·have := hbad (.inl h2)
     subst this
     simp only [c41r5, hx, h2, c41r6, go_sem]
    ·by_cases h3 : (K.length : Int) <= x
     ·have := hbad (.inr h3)
      subst this
      simp only [c41r5, hx, h2, h3, c41r6, kS, go_sem, Nat.reduceAdd, Nat.reduceLeDiff]
     ·have h4 : ¬ (K.length : Int) - 1 < x := by omega
      simp only [c41r5, hx, h2, h3, c41r7, c41l8m, kS, go_sem, Nat.reduceAdd, Nat.reduceLeDiff]
      intro _
      refine ⟨inR_small (by omega) (by omega), hI (keys.length - (i + 1)) _ (by omega) ⟨i + 1, rfl, by omega, ?_, rfl⟩⟩
      rw [hc]
      unfold withinB
      rw [List.any_cons]
      simp [h2, h4]
   ·have hie : i = keys.length := by omega
    subst hie
    have hw : withinB 0 ((K.length : Int) - 1) keys = true := by rw [hc, List.drop_length]; rfl
    rw [if_pos hw] at hrs
    by_cases h1 : keys.length < 3
    ·rw [if_pos (.inl h1)] at hrs
     subst hrs
     have h1' : (keys.length : Int) < 3 := by omega
     simp only [c41r9, h1', c41r10, go_sem]
    ·have h1' : ¬ (keys.length : Int) < 3 := by omega
     by_cases h2 : keys.length % 2 = 0
     ·rw [if_pos (.inr (.inl h2))] at hrs
      subst hrs
      have h2' : (keys.length : Int).tmod 2 = 0 := by rw [tmod2, h2]; rfl
      simp only [c41r9, h1', h2', c41r10, go_sem]
      decide
     ·have h2' : ¬ (keys.length : Int).tmod 2 = 0 := by rw [tmod2]; omega
      simp only [c41r9, h1', h2', go_sem]
      refine ⟨by decide, ?_⟩
      refine callK_of (by simp only [ints, go_sem]) (k62 (xs := keys)) (.inl rfl) ?_
      by_cases h3 : dn [] keys < keys.length
      ·rw [if_pos (.inr (.inr h3))] at hrs
       subst hrs
       have h3' : (dn [] keys : Int) < keys.length := by omega
       simp only [h3', c41r10, go_sem]
       try (intros; trivial)
      ·rw [if_neg (fun h => h.elim h1 (fun h => h.elim h2 h3))] at hrs
       have hnd := dn_nodup h3
       simp only [h3, c41r11, go_sem]
       intro _
       refine loop_rule (fun n τ => ∃ i : Nat, n = keys.length - i /\ i <= keys.length /\ (∀ i', i' < i -> pO (keys.getD i' 0) (keys.getD ((i' + 1) % keys.length) 0) ∈ clsh K Q) /\
        τ = ⟨[.any, .s (ints keys), .s (.ptr [kS K, kS Q]), .any, .any, .any, .s (.int .i64 i), .any, .any, .any, .any, .any, .any, .any, .any, .any, .any, .any, .any, .any, .any, .any, .any, .any, .any, .any, .any, .any, .any, .any, .any, .any, .any, .any, .any, .any, .any, .any, .any, .any, .any, .any, .any, .any, .any, .any, .any, .any, .any, .any, .any, .any, .any, .any, .any, .any, .any, .any, .any, .any, .any, .any, .any, .any, .any, .any, .any, .any, .any, .any], []⟩) keys.length rfl ?_ ?_
       ·simp only [c41l16m, go_sem]
        exact ⟨0, rfl, Nat.zero_le _, fun j h => absurd h (Nat.not_lt_zero _), rfl⟩
       ·rintro I2 n τ ⟨i, rfl, hi, hall, rfl⟩ hI2
        simp only [c41l16, c41r12, ints, go_sem, ↓reduceIte]
        intro _
        refine ⟨fun hlt => ?_, fun hge => ?_⟩
        ·have hlt : i < keys.length := by omega
         have hm : (i + 1) % keys.length < keys.length := Nat.mod_lt _ (by omega)
         have hx := getD_get (l := keys) (i := i) hlt
         have hy := getD_get (l := keys) (i := (i + 1) % keys.length) hm
         have em : ((i : Int) + 1).tmod keys.length = (((i + 1) % keys.length : Nat) : Int) := by
          rw [Int.tmod_eq_emod_of_nonneg (by omega)]; exact (Int.natCast_emod _ _).symm
         have w1 := within_mem hw (List.mem_of_getElem? hx)
         have w2 := within_mem hw (List.mem_of_getElem? hy)
         have hne : keys.getD i 0 ≠ keys.getD ((i + 1) % keys.length) 0 := fun e => by
          rw [<- e] at hy
          have := (List.getElem?_inj hlt hnd).1 (hx.trans hy.symm)
          by_cases e2 : i + 1 = keys.length
          ·rw [e2, Nat.mod_self] at this; omega
          ·rw [Nat.mod_eq_of_lt (by omega)] at this; omega
         have hin : inR .i64 ((i : Int) + 1) := inR_small (by omega) (by omega)
         have hR := k51 (K := K) (Q := Q) h0 (a := keys.getD i 0) (b := keys.getD ((i + 1) % keys.length) 0) ⟨by omega, by omega⟩ ⟨by omega, by omega⟩ hne
         have hn5 : ¬ (keys.length : Int) = 0 := by omega
         simp only [c41r13, hx, go_sem, Nat.reduceAdd]
         refine ⟨hin, hn5, ?_⟩
         rw [em]
         simp only [hy, go_sem]
         refine callK_of (by simp only [bk, kS, go_sem]) hR (.inl rfl) ?_
         by_cases h5 : pO (keys.getD i 0) (keys.getD ((i + 1) % keys.length) 0) ∈ clsh K Q
         ·simp only [h5, decide_true]
          simp only [c41r15, c41l16m, go_sem]
          intro _
          refine ⟨hin, hI2 (keys.length - (i + 1)) _ (by omega) ⟨i + 1, rfl, by omega, fun i' h => ?_, rfl⟩⟩
          by_cases e : i' = i
          ·subst e; exact h5
          ·exact hall i' (by omega)
         ·have hn : ¬ cyc (clsh K Q) keys := fun h => h5 (h i hlt)
          rw [if_neg hn] at hrs
          subst hrs
          simp only [h5, decide_false]
          simp only [c41r14, go_sem]
        ·have hie : i = keys.length := by omega
         subst hie
         rw [if_pos (show cyc (clsh K Q) keys from hall)] at hrs
         subst hrs
         simp only [c41r17, go_sem]
 ·rw [if_neg h0] at hrs
  subst hrs
  simp only [h0, c41r2, go_sem, Nat.reduceAdd]
  refine callK_of (by simp only [bk, go_sem]) (k24 (K := K) (Q := Q)) (.inl rfl) ?_
  simp only [go_sem]
end Go.Proofs.Ytmcjoahnlbckoaa.Sk

/- Contracts of the reference's functions: all ways to hang keys. -/
namespace Go.Proofs.Ytmcjoahnlbckoaa.Sk
open Go Go.E Go.E.Sm
set_option maxRecDepth 10000
end Go.Proofs.Ytmcjoahnlbckoaa.Sk

/- Contracts of the reference's functions: the fewest rings, and in how many ways keys can be hung. -/
namespace Go.Proofs.Ytmcjoahnlbckoaa.Sk
open Go Go.E Go.E.Sm
set_option maxRecDepth 10000
theorem inR_i64 {n : Int} (h0 : -2 ^ 63 <= n) (h1 : n <= 2 ^ 63 - 1) : inR .i64 n := by
 by_cases h : 0 <= n
 ·exact inR_small h h1
 ·unfold inR IntKind.wrap
  have e : n % (2 ^ IntKind.i64.bits : Int) = n + 2 ^ 64 := by simp only [IntKind.bits]; omega
  simp only [e]
  have : (n + 2 ^ 64 ≥ (2 ^ (IntKind.i64.bits - 1) : Int)) := by simp only [IntKind.bits]; omega
  simp only [IntKind.bits] at this
  simp [IntKind.bits]
  intro hs
  have := hs rfl
  omega
theorem inR_nat2 {n : Nat} (h : n < 2 ^ 62) : inR .i64 (n : Int) := inR_small (by omega) (by omega)
def ffN (m : Nat) : Nat -> Nat
 | 0 => 1
 | k + 1 => ffN m k * (m - k)
theorem ffN_le {m : Nat} (hm : m <= 8) : ∀ k, k <= 8 -> ffN m k <= 8 ^ k
 | 0, _ => Nat.le_refl _
 | k + 1, h => by
  rw [ffN, Nat.pow_succ]
  exact Nat.mul_le_mul (ffN_le hm k (by omega)) (by omega)
end Go.Proofs.Ytmcjoahnlbckoaa.Sk

/- Ways to hang keys on so many rings: all of them, how many they are, and the first one. -/
namespace Go.Proofs.Ytmcjoahnlbckoaa.Sk
open Go Go.E
def okN (R : Nat -> Nat -> Bool) (h : List Nat) (r : Nat) : Bool := (List.range h.length).all fun i => !(R i h.length) || !decide (h.getD i 0 = r)
def pcs (R : Nat -> Nat -> Bool) (m : Nat) : Nat -> List Nat -> List (List Nat)
 | 0, h => [h]
 | f + 1, h => (List.range m).flatMap fun r => if okN R h r then pcs R m f (h ++ [r]) else []
def colC (R : Nat -> Nat -> Bool) (m n : Nat) : Nat := (pcs R m n []).length
theorem okN_iff {R : Nat -> Nat -> Bool} {h : List Nat} {r : Nat} : okN R h r = true ↔ ∀ i, i < h.length -> R i h.length = true -> h.getD i 0 ≠ r := by
 unfold okN
 rw [List.all_eq_true]
 constructor
 ·intro h1 i hi hR
  have := h1 i (List.mem_range.2 hi)
  rw [hR] at this
  simpa using this
 ·intro h1 i hi
  have hi := List.mem_range.1 hi
  cases hR : R i h.length with
  | false => rfl
  | true => simpa using h1 i hi hR
theorem getD_snoc {h : List Nat} {r i : Nat} (hi : i < h.length) : (h ++ [r]).getD i 0 = h.getD i 0 := by
 rw [List.getD_eq_getElem?_getD, List.getD_eq_getElem?_getD, List.getElem?_append_left hi]
theorem getD_snoc_last {h : List Nat} {r : Nat} : (h ++ [r]).getD h.length 0 = r := by
 rw [List.getD_eq_getElem?_getD, List.getElem?_append_right (Nat.le_refl _)]; simp
theorem mem_pcs {R : Nat -> Nat -> Bool} {m : Nat} : ∀ {f : Nat} {h g : List Nat}, g ∈ pcs R m f h ↔ g.length = h.length + f /\ g.take h.length = h /\ ∀ k, h.length <= k -> k < g.length -> g.getD k 0 < m /\ ∀ i, i < k -> R i k = true -> g.getD i 0 ≠ g.getD k 0
 | 0, h, g => by
  rw [pcs, List.mem_singleton]
  constructor
  ·rintro rfl
   exact ⟨rfl, List.take_length, fun k h1 h2 => absurd h2 (by omega)⟩
  ·rintro ⟨h1, h2, _⟩
   rw [<- h2, List.take_of_length_le (by omega)]
 | f + 1, h, g => by
  rw [pcs, List.mem_flatMap]
  constructor
  ·rintro ⟨r, hr, hg⟩
   have hr := List.mem_range.1 hr
   split at hg
   ·rename_i hok
    have hok := okN_iff.1 hok
    obtain ⟨h1, h2, h3⟩ := mem_pcs.1 hg
    rw [List.length_append, List.length_singleton] at h1 h2 h3
    have ht : g.take h.length = h := by
     have := congrArg (List.take h.length) h2
     rw [List.take_take, Nat.min_eq_left (by omega), List.take_left' rfl] at this
     exact this
    have hgd : ∀ i, i <= h.length -> g.getD i 0 = (h ++ [r]).getD i 0 := fun i hi => by
     rw [<- h2, List.getD_eq_getElem?_getD, List.getD_eq_getElem?_getD, List.getElem?_take, if_pos (by omega)]
    refine ⟨by omega, ht, fun k hk1 hk2 => ?_⟩
    by_cases hkh : k = h.length
    ·subst hkh
     rw [hgd _ (Nat.le_refl _), getD_snoc_last]
     refine ⟨hr, fun i hi hR => ?_⟩
     rw [hgd i (by omega), getD_snoc hi]
     exact hok i hi hR
    ·exact h3 k (by omega) hk2
   ·cases hg
  ·rintro ⟨h1, h2, h3⟩
   have hk := h3 h.length (Nat.le_refl _) (by omega)
   have hx : g[h.length]? = some (g.getD h.length 0) := by rw [List.getD_eq_getElem?_getD, List.getElem?_eq_getElem (by omega)]; rfl
   have ht : g.take (h.length + 1) = h ++ [g.getD h.length 0] := by rw [List.take_add_one, h2, hx]; rfl
   have hgd : ∀ i, i < h.length -> g.getD i 0 = h.getD i 0 := fun i hi => by
    have h4 : (g.take h.length)[i]? = g[i]? := by rw [List.getElem?_take, if_pos hi]
    rw [h2] at h4
    rw [List.getD_eq_getElem?_getD, List.getD_eq_getElem?_getD, h4]
   refine ⟨g.getD h.length 0, List.mem_range.2 hk.1, ?_⟩
   rw [if_pos (okN_iff.2 fun i hi hR => by rw [<- hgd i hi]; exact hk.2 i hi hR)]
   refine mem_pcs.2 ⟨by rw [List.length_append]; simp; omega, by rw [List.length_append]; exact ht, fun k hk1 hk2 => ?_⟩
   rw [List.length_append, List.length_singleton] at hk1
   exact h3 k (by omega) hk2
theorem pcs_nodup {R : Nat -> Nat -> Bool} {m : Nat} : ∀ {f : Nat} {h : List Nat}, (pcs R m f h).Nodup
 | 0, h => by simp [pcs]
 | f + 1, h => by
  rw [pcs, List.nodup_iff_pairwise_ne, List.pairwise_flatMap]
  refine ⟨fun r _ => ?_, ?_⟩
  ·split
   ·rw [<- List.nodup_iff_pairwise_ne]; exact pcs_nodup
   ·exact List.Pairwise.nil
  ·refine List.nodup_range.imp fun {a b} hab x hx y hy e => hab ?_
   split at hx <;> split at hy
   ·have h1 := (mem_pcs.1 hx).2.1
    have h2 := (mem_pcs.1 hy).2.1
    rw [e, List.length_append, List.length_singleton] at h1
    rw [List.length_append, List.length_singleton] at h2
    have := h1.symm.trans h2
    simpa using this
   all_goals simp at hx hy
def sw (a b x : Nat) : Nat := if x = a then b else if x = b then a else x
theorem sw_sw (a b x : Nat) : sw a b (sw a b x) = x := by unfold sw; split <;> split <;> (try split) <;> omega
theorem sw_inj {a b x y : Nat} : sw a b x = sw a b y ↔ x = y := ⟨fun h => by rw [<- sw_sw a b x, h, sw_sw], fun h => by rw [h]⟩
theorem sw_lt {a b m x : Nat} (ha : a < m) (hb : b < m) (hx : x < m) : sw a b x < m := by unfold sw; split <;> (try split) <;> omega
theorem sum_perm {l l' : List Nat} (h : l.Perm l') : l.sum = l'.sum := by
 induction h with
 | nil => rfl
 | cons x _ ih => simp [ih]
 | swap x y l => simp; omega
 | trans _ _ h1 h2 => exact h1.trans h2
theorem sum_sw {m a b : Nat} (ha : a < m) (hb : b < m) (F : Nat -> Nat) : ((List.range m).map fun r => F (sw a b r)).sum = ((List.range m).map F).sum := by
 have hp : ((List.range m).map (sw a b)).Perm (List.range m) := by
  rw [List.perm_ext_iff_of_nodup ?_ List.nodup_range]
  ·intro x
   rw [List.mem_map, List.mem_range]
   constructor
   ·rintro ⟨y, hy, rfl⟩
    exact sw_lt ha hb (List.mem_range.1 hy)
   ·intro hx
    exact ⟨sw a b x, List.mem_range.2 (sw_lt ha hb hx), sw_sw a b x⟩
  ·rw [List.nodup_iff_pairwise_ne, List.pairwise_map]
   exact List.nodup_range.imp fun h e => h (sw_inj.1 e)
 rw [<- sum_perm (hp.map F), List.map_map]
 rfl
theorem len_flatMap {α β : Type} (l : List α) (F : α -> List β) : (l.flatMap F).length = (l.map fun x => (F x).length).sum := by
 rw [List.length_flatMap]
theorem okN_sw {R : Nat -> Nat -> Bool} {h : List Nat} {a b r : Nat} : okN R (h.map (sw a b)) (sw a b r) = okN R h r := by
 rw [Bool.eq_iff_iff, okN_iff, okN_iff, List.length_map]
 have hg : ∀ i, i < h.length -> (h.map (sw a b)).getD i 0 = sw a b (h.getD i 0) := fun i hi => by
  rw [List.getD_eq_getElem?_getD, List.getD_eq_getElem?_getD, List.getElem?_map, List.getElem?_eq_getElem hi]; rfl
 constructor
 ·intro h1 i hi hR e
  exact h1 i hi hR (by rw [hg i hi, e])
 ·intro h1 i hi hR e
  rw [hg i hi] at e
  exact h1 i hi hR (sw_inj.1 e)
theorem pcs_sw {R : Nat -> Nat -> Bool} {m a b : Nat} (ha : a < m) (hb : b < m) : ∀ (f : Nat) (h : List Nat), (pcs R m f (h.map (sw a b))).length = (pcs R m f h).length
 | 0, h => by simp [pcs]
 | f + 1, h => by
  rw [pcs, pcs, len_flatMap, len_flatMap]
  rw [<- sum_sw ha hb]
  congr 1
  apply List.map_congr_left
  intro r _
  rw [okN_sw]
  split
  ·have := pcs_sw (R := R) ha hb f (h ++ [r])
   rw [List.map_append] at this
   exact this
  ·rfl
theorem pcs_fresh {R : Nat -> Nat -> Bool} {m d r f : Nat} {h : List Nat} (hh : ∀ x ∈ h, x < d) (hd : d <= r) (hr : r < m) : (pcs R m f (h ++ [r])).length = (pcs R m f (h ++ [d])).length := by
 rw [<- pcs_sw (a := d) (b := r) (by omega) hr f (h ++ [d])]
 congr 2
 rw [List.map_append, List.map_cons, List.map_nil, show sw d r d = r by simp [sw]]
 congr 1
 symm
 conv => rhs; rw [<- List.map_id h]
 apply List.map_congr_left
 intro x hx
 have := hh x hx
 unfold sw
 rw [if_neg (by omega), if_neg (by omega)]; rfl
theorem okN_fresh {R : Nat -> Nat -> Bool} {d r : Nat} {h : List Nat} (hh : ∀ x ∈ h, x < d) (hd : d <= r) : okN R h r = true := by
 rw [okN_iff]
 intro i hi _ e
 have : h.getD i 0 ∈ h := by rw [List.getD_eq_getElem?_getD, List.getElem?_eq_getElem hi]; exact List.getElem_mem _
 have := hh _ this
 omega
def wF (R : Nat -> Nat -> Bool) (m : Nat) : Nat -> Nat -> List Nat -> Nat
 | 0, _, _ => 1
 | f + 1, d, h => ((List.range d).map fun r => if okN R h r then wF R m f d (h ++ [r]) else 0).sum + (m - d) * wF R m f (d + 1) (h ++ [d])
theorem sum_const {α : Type} (l : List α) (F : α -> Nat) (c : Nat) (h : ∀ x ∈ l, F x = c) : (l.map F).sum = l.length * c := by
 induction l with
 | nil => simp
 | cons x l ih =>
  rw [List.map_cons, List.sum_cons, ih (fun y hy => h y (by simp [hy])), h x (by simp), List.length_cons, Nat.succ_mul]; omega
theorem range_split {d m : Nat} (h : d <= m) : List.range m = List.range d ++ List.range' d (m - d) := by
 have h1 := List.range'_append_1 (s := 0) (m := d) (n := m - d)
 rw [Nat.zero_add] at h1
 rw [List.range_eq_range', List.range_eq_range', h1]
 congr 1; omega
theorem pcs_w {R : Nat -> Nat -> Bool} {m : Nat} : ∀ (f d : Nat) (h : List Nat), (∀ x ∈ h, x < d) -> d <= m -> (pcs R m f h).length = wF R m f d h
 | 0, d, h, _, _ => by simp [pcs, wF]
 | f + 1, d, h, hh, hd => by
  rw [pcs, len_flatMap, range_split hd, List.map_append, List.sum_append, wF]
  congr 1
  ·congr 1
   apply List.map_congr_left
   intro r hr
   have hr := List.mem_range.1 hr
   split
   ·exact pcs_w f d (h ++ [r]) (fun x hx => by
     rcases List.mem_append.1 hx with hx | hx
     ·exact hh x hx
     ·rw [List.mem_singleton] at hx; omega) hd
   ·rfl
  ·rw [sum_const (List.range' d (m - d)) _ (pcs R m f (h ++ [d])).length (fun r hr => by
    rw [List.mem_range'_1] at hr
    rw [if_pos (okN_fresh hh hr.1)]
    exact pcs_fresh hh hr.1 (by omega)), List.length_range']
   by_cases e : d = m
   ·subst e; simp
   ·rw [pcs_w f (d + 1) (h ++ [d]) (fun x hx => by
     rcases List.mem_append.1 hx with hx | hx
     ·have := hh x hx; omega
     ·rw [List.mem_singleton] at hx; omega) (by omega)]
end Go.Proofs.Ytmcjoahnlbckoaa.Sk

/- Ways to hang keys: two that do not clash are apart, or on one ring. -/
namespace Go.Proofs.Ytmcjoahnlbckoaa.Sk
open Go Go.E
theorem mem_col {R : Nat -> Nat -> Bool} {m n : Nat} {g : List Nat} : g ∈ pcs R m n [] ↔ g.length = n /\ ∀ k, k < n -> g.getD k 0 < m /\ ∀ i, i < k -> R i k = true -> g.getD i 0 ≠ g.getD k 0 := by
 rw [mem_pcs]
 simp only [List.length_nil, Nat.zero_add, List.take_zero, true_and]
 constructor
 ·rintro ⟨h1, h2⟩
  exact ⟨h1, fun k hk => h2 k (Nat.zero_le _) (by omega)⟩
 ·rintro ⟨h1, h2⟩
  exact ⟨h1, fun k _ hk => h2 k (by omega)⟩
theorem colC_congr {R R' : Nat -> Nat -> Bool} {m n : Nat} (h : ∀ i k, i < k -> k < n -> R i k = R' i k) : colC R m n = colC R' m n := by
 unfold colC
 apply List.Perm.length_eq
 rw [List.perm_ext_iff_of_nodup pcs_nodup pcs_nodup]
 intro g
 rw [mem_col, mem_col]
 constructor
 ·rintro ⟨h1, h2⟩
  exact ⟨h1, fun k hk => ⟨(h2 k hk).1, fun i hi hR => (h2 k hk).2 i hi (by rw [h i k hi hk]; exact hR)⟩⟩
 ·rintro ⟨h1, h2⟩
  exact ⟨h1, fun k hk => ⟨(h2 k hk).1, fun i hi hR => (h2 k hk).2 i hi (by rw [<- h i k hi hk]; exact hR)⟩⟩
def eqC (R : Nat -> Nat -> Bool) (m n i0 k0 : Nat) : Nat := ((pcs R m n []).filter fun g => decide (g.getD i0 0 = g.getD k0 0)).length
theorem filter_split {α : Type} (p : α -> Bool) : ∀ (l : List α), l.length = (l.filter fun x => !p x).length + (l.filter p).length
 | [] => rfl
 | x :: l => by
  have := filter_split p l
  rw [List.filter_cons, List.filter_cons]
  cases h : p x <;> simp <;> omega
theorem del_con {R R' : Nat -> Nat -> Bool} {m n i0 k0 : Nat} (hi : i0 < k0) (hk : k0 < n) (hR' : ∀ i k, i < k -> k < n -> R' i k = (R i k || (decide (i = i0) && decide (k = k0)))) : colC R m n = colC R' m n + eqC R m n i0 k0 := by
 unfold colC eqC
 rw [filter_split (fun g => decide (g.getD i0 0 = g.getD k0 0)) (pcs R m n [])]
 congr 1
 apply List.Perm.length_eq
 rw [List.perm_ext_iff_of_nodup (pcs_nodup.filter _) pcs_nodup]
 intro g
 rw [List.mem_filter, mem_col, mem_col]
 constructor
 ·rintro ⟨⟨h1, h2⟩, h3⟩
  refine ⟨h1, fun k hk => ⟨(h2 k hk).1, fun i hi hR => ?_⟩⟩
  rw [hR' i k hi hk, Bool.or_eq_true, Bool.and_eq_true, decide_eq_true_eq, decide_eq_true_eq] at hR
  rcases hR with hR | ⟨rfl, rfl⟩
  ·exact (h2 k hk).2 i hi hR
  ·simpa using h3
 ·rintro ⟨h1, h2⟩
  refine ⟨⟨h1, fun k hk => ⟨(h2 k hk).1, fun i hi hR => (h2 k hk).2 i hi (by rw [hR' i k hi hk, hR]; rfl)⟩⟩, ?_⟩
  have := (h2 k0 hk).2 i0 hi (by rw [hR' i0 k0 hi hk]; simp)
  simpa using this
def upI (k0 a : Nat) : Nat := if a < k0 then a else a + 1
theorem erase_getD {g : List Nat} {k0 a : Nat} : (g.eraseIdx k0).getD a 0 = g.getD (upI k0 a) 0 := by
 rw [List.getD_eq_getElem?_getD, List.getD_eq_getElem?_getD, List.getElem?_eraseIdx]
 unfold upI
 split <;> rfl
theorem upI_lt {k0 a b : Nat} (h : a < b) : upI k0 a < upI k0 b := by unfold upI; split <;> split <;> omega
theorem upI_ne {k0 a : Nat} : upI k0 a ≠ k0 := by unfold upI; split <;> omega
theorem upI_surj {k0 k : Nat} (h : k ≠ k0) : ∃ a, upI k0 a = k := by
 by_cases h1 : k < k0
 ·exact ⟨k, by unfold upI; rw [if_pos h1]⟩
 ·exact ⟨k - 1, by unfold upI; rw [if_neg (by omega)]; omega⟩
theorem upI_n {k0 a n : Nat} (hk : k0 < n) : upI k0 a < n ↔ a < n - 1 := by unfold upI; split <;> omega
theorem upI_mono {k0 a b : Nat} (h : upI k0 a < upI k0 b) : a < b := by
 rcases Nat.lt_or_ge a b with h1 | h1
 ·exact h1
 ·by_cases e : a = b
  ·subst e; omega
  ·have := upI_lt (k0 := k0) (show b < a by omega); omega
theorem ext_getD {g g' : List Nat} {n : Nat} (h1 : g.length = n) (h2 : g'.length = n) (h : ∀ k, k < n -> g.getD k 0 = g'.getD k 0) : g = g' := by
 apply List.ext_getElem (by omega)
 intro k hk hk'
 have := h k (by omega)
 rw [List.getD_eq_getElem?_getD, List.getD_eq_getElem?_getD, List.getElem?_eq_getElem hk, List.getElem?_eq_getElem hk'] at this
 exact this
theorem con {R R2 : Nat -> Nat -> Bool} {m n i0 k0 : Nat} (hik0 : i0 ≠ k0) (hin : i0 < n) (hk : k0 < n) (hsym : ∀ a b, R a b = R b a) (hR : R i0 k0 = false)
  (h2 : ∀ a b, a < b -> b < n - 1 -> R2 a b = (R (upI k0 a) (upI k0 b) || (decide (upI k0 a = i0) && R k0 (upI k0 b)) || (decide (upI k0 b = i0) && R k0 (upI k0 a)))) : eqC R m n i0 k0 = colC R2 m (n - 1) := by
 unfold colC eqC
 obtain ⟨j0, hu0⟩ := upI_surj hik0
 have hj0 : j0 < n - 1 := (upI_n hk).1 (by omega)
 have hp : (((pcs R m n []).filter fun g => decide (g.getD i0 0 = g.getD k0 0)).map fun g => g.eraseIdx k0).Perm (pcs R2 m (n - 1) []) := by
  rw [List.perm_ext_iff_of_nodup ?_ pcs_nodup]
  ·intro g'
   rw [List.mem_map, mem_col]
   constructor
   ·rintro ⟨g, hg, rfl⟩
    rw [List.mem_filter, mem_col, decide_eq_true_eq] at hg
    obtain ⟨⟨h3, h4⟩, h5⟩ := hg
    have hany : ∀ c, upI k0 c < n -> R k0 (upI k0 c) = true -> g.getD k0 0 ≠ g.getD (upI k0 c) 0 := fun c hc h7 => by
     rcases Nat.lt_or_ge k0 (upI k0 c) with h8 | h8
     ·exact (h4 _ hc).2 k0 h8 h7
     ·have h9 : upI k0 c < k0 := by have := upI_ne (k0 := k0) (a := c); omega
      exact ((h4 k0 hk).2 _ h9 (by rw [hsym]; exact h7)).symm
    refine ⟨by rw [List.length_eraseIdx, if_pos (by omega)]; omega, fun b hb => ?_⟩
    have hbn := (upI_n (a := b) hk).2 hb
    rw [erase_getD]
    refine ⟨(h4 _ hbn).1, fun a hab hR2 => ?_⟩
    rw [erase_getD]
    have hlt := upI_lt (k0 := k0) hab
    rw [h2 a b hab hb, Bool.or_eq_true, Bool.or_eq_true, Bool.and_eq_true, Bool.and_eq_true, decide_eq_true_eq, decide_eq_true_eq] at hR2
    rcases hR2 with (h6 | ⟨h6, h7⟩) | ⟨h6, h7⟩
    ·exact (h4 _ hbn).2 _ hlt h6
    ·rw [h6, h5]
     exact hany b hbn h7
    ·rw [h6, h5]
     exact (hany a (by omega) h7).symm
   ·rintro ⟨h3, h4⟩
    have hgl : (g'.take k0 ++ [g'.getD j0 0] ++ g'.drop k0).length = n := by
     simp only [List.length_append, List.length_take, List.length_drop, List.length_singleton]; omega
    have hgk : (g'.take k0 ++ [g'.getD j0 0] ++ g'.drop k0).getD k0 0 = g'.getD j0 0 := by
     rw [List.getD_eq_getElem?_getD, List.append_assoc, List.getElem?_append_right (by rw [List.length_take]; omega), List.length_take, Nat.min_eq_left (by omega), Nat.sub_self]; rfl
    have hgu : ∀ a, (g'.take k0 ++ [g'.getD j0 0] ++ g'.drop k0).getD (upI k0 a) 0 = g'.getD a 0 := fun a => by
     rw [List.getD_eq_getElem?_getD, List.getD_eq_getElem?_getD]
     congr 1
     unfold upI
     split
     ·rename_i h5
      rw [List.append_assoc, List.getElem?_append_left (by rw [List.length_take]; omega), List.getElem?_take, if_pos h5]
     ·rename_i h5
      rw [List.getElem?_append_right (by simp only [List.length_append, List.length_take, List.length_singleton]; omega), List.getElem?_drop]
      congr 1
      simp only [List.length_append, List.length_take, List.length_singleton]; omega
    generalize g'.take k0 ++ [g'.getD j0 0] ++ g'.drop k0 = g at hgl hgk hgu
    have hany : ∀ c, c < n - 1 -> R k0 (upI k0 c) = true -> g'.getD j0 0 ≠ g'.getD c 0 := fun c hc h7 => by
     have hne : c ≠ j0 := fun e => by rw [e, hu0, hsym, hR] at h7; cases h7
     rcases Nat.lt_or_ge c j0 with h6 | h6
     ·exact ((h4 j0 hj0).2 c h6 (by rw [h2 c j0 h6 hj0, hu0, h7]; simp)).symm
     ·exact (h4 c hc).2 j0 (by omega) (by rw [h2 j0 c (by omega) hc, hu0, h7]; simp)
    refine ⟨g, ?_, ?_⟩
    ·rw [List.mem_filter, mem_col, decide_eq_true_eq]
     refine ⟨⟨hgl, fun k hkn => ?_⟩, by rw [hgk, <- hu0, hgu]⟩
     by_cases hkk : k = k0
     ·subst hkk
      rw [hgk]
      refine ⟨(h4 j0 hj0).1, fun i hik hRi => ?_⟩
      obtain ⟨a, rfl⟩ := upI_surj (show i ≠ k by omega)
      rw [hgu]
      exact (hany a ((upI_n hk).1 (by omega)) (by rw [hsym]; exact hRi)).symm
     ·obtain ⟨b, rfl⟩ := upI_surj hkk
      have hb := (upI_n hk).1 hkn
      rw [hgu]
      refine ⟨(h4 b hb).1, fun i hik hRi => ?_⟩
      by_cases hii : i = k0
      ·subst hii
       rw [hgk]
       exact hany b hb hRi
      ·obtain ⟨a, rfl⟩ := upI_surj hii
       rw [hgu]
       have hab := upI_mono hik
       exact (h4 b hb).2 a hab (by rw [h2 a b hab hb, hRi]; simp)
    ·refine ext_getD (n := n - 1) (by rw [List.length_eraseIdx, if_pos (by omega)]; omega) h3 fun a _ => ?_
     rw [erase_getD, hgu]
  ·rw [List.nodup_iff_pairwise_ne, List.pairwise_map]
   refine List.Pairwise.imp_of_mem ?_ (pcs_nodup.filter _)
   intro g1 g2 hg1 hg2 hne e
   rw [List.mem_filter, mem_col, decide_eq_true_eq] at hg1 hg2
   refine hne (ext_getD hg1.1.1 hg2.1.1 fun k hkn => ?_)
   have hall : ∀ a, g1.getD (upI k0 a) 0 = g2.getD (upI k0 a) 0 := fun a => by
    rw [<- erase_getD, <- erase_getD, e]
   by_cases hkk : k = k0
   ·subst hkk
    rw [<- hg1.2, <- hg2.2]
    have := hall j0
    rw [hu0] at this
    exact this
   ·obtain ⟨a, rfl⟩ := upI_surj hkk
    exact hall a
 have := hp.length_eq
 rw [List.length_map] at this
 exact this
theorem col_full {R : Nat -> Nat -> Bool} {m n : Nat} (h : ∀ i k, i < k -> k < n -> R i k = true) : colC R m n = ffN m n := by
 unfold colC
 rw [pcs_w n 0 [] (by simp) (Nat.zero_le _)]
 have key : ∀ (f : Nat) (g : List Nat), g = List.range g.length -> g.length + f = n -> ffN m g.length * wF R m f g.length g = ffN m n := by
  intro f
  induction f with
  | zero => intro g _ hl; rw [wF, Nat.mul_one]; congr 1
  | succ f ih =>
   intro g hg hl
   have hz : ((List.range g.length).map fun r => if okN R g r then wF R m f g.length (g ++ [r]) else 0).sum = 0 := by
    rw [sum_const (c := 0)]
    ·simp
    ·intro r hr
     have hr := List.mem_range.1 hr
     rw [if_neg]
     intro hok
     refine okN_iff.1 hok r hr (h r g.length hr (by omega)) ?_
     rw [List.getD_eq_getElem?_getD, hg, List.getElem?_range (by simpa using hr)]; rfl
   have hg2 : g ++ [g.length] = List.range (g ++ [g.length]).length := by
    rw [List.length_append, List.length_singleton, List.range_succ, <- hg]
   have h1 := ih (g ++ [g.length]) hg2 (by rw [List.length_append]; simp; omega)
   rw [List.length_append, List.length_singleton] at h1
   rw [wF, hz, Nat.zero_add, <- Nat.mul_assoc, <- h1]
   rfl
 have := key n [] rfl (by simp)
 simpa [ffN] using this
end Go.Proofs.Ytmcjoahnlbckoaa.Sk

/- Ways to hang keys, of a list of keys: with one clash more, and with two on one ring. -/
namespace Go.Proofs.Ytmcjoahnlbckoaa.Sk
open Go Go.E
def relK (cl : List (Int × Int)) (keys : List Int) (a b : Nat) : Bool := decide (pO (keys.getD a 0) (keys.getD b 0) ∈ cl)
def colN (cl : List (Int × Int)) (keys : List Int) (m : Nat) : Nat := colC (relK cl keys) m keys.length
theorem relK_comm {cl : List (Int × Int)} {keys : List Int} (a b : Nat) : relK cl keys a b = relK cl keys b a := by
 unfold relK; rw [pO_comm]
theorem pO_eq {a b c d : Int} (h : pO a b = pO c d) : a = c /\ b = d \/ a = d /\ b = c := by
 unfold pO at h
 have h1 := congrArg Prod.fst h
 have h2 := congrArg Prod.snd h
 simp only at h1 h2
 omega
theorem nodup_getD {keys : List Int} (hn : keys.Nodup) {a b : Nat} (ha : a < keys.length) (hb : b < keys.length) (h : keys.getD a 0 = keys.getD b 0) : a = b := by
 have h1 := getD_get ha
 have h2 := getD_get hb
 rw [h] at h1
 exact (List.getElem?_inj ha hn).1 (h1.trans h2.symm)
theorem pcs_le {R : Nat -> Nat -> Bool} {m : Nat} : ∀ (f : Nat) (h : List Nat), (pcs R m f h).length <= m ^ f
 | 0, h => by simp [pcs]
 | f + 1, h => by
  rw [pcs, len_flatMap, Nat.pow_succ, Nat.mul_comm]
  have key : ∀ (l : List Nat), (l.map fun r => (if okN R h r then pcs R m f (h ++ [r]) else []).length).sum <= l.length * m ^ f := by
   intro l
   induction l with
   | nil => simp
   | cons r l ih =>
    rw [List.map_cons, List.sum_cons, List.length_cons, Nat.succ_mul]
    have := pcs_le (R := R) (m := m) f (h ++ [r])
    split
    ·omega
    ·simp only [List.length_nil]; omega
  have := key (List.range m)
  rw [List.length_range] at this
  exact this
theorem colN_le {cl : List (Int × Int)} {keys : List Int} {m : Nat} (hm : m <= 8) (hk : keys.length <= 8) : colN cl keys m <= 16777216 := by
 have h1 := pcs_le (R := relK cl keys) (m := m) keys.length []
 have h2 : m ^ keys.length <= 8 ^ keys.length := Nat.pow_le_pow_left hm _
 have h3 : 8 ^ keys.length <= 8 ^ 8 := Nat.pow_le_pow_right (by decide) hk
 have h4 : (8 : Nat) ^ 8 = 16777216 := by decide
 unfold colN colC
 omega
def prsL (n : Nat) : List (Nat × Nat) := (List.range n).flatMap fun k => (List.range k).map fun i => (i, k)
theorem mem_prsL {n : Nat} {x : Nat × Nat} : x ∈ prsL n ↔ x.1 < x.2 /\ x.2 < n := by
 unfold prsL
 rw [List.mem_flatMap]
 constructor
 ·rintro ⟨k, h1, h2⟩
  obtain ⟨i, h3, rfl⟩ := List.mem_map.1 h2
  exact ⟨List.mem_range.1 h3, List.mem_range.1 h1⟩
 ·rintro ⟨h1, h2⟩
  exact ⟨x.2, List.mem_range.2 h2, List.mem_map.2 ⟨x.1, List.mem_range.2 h1, rfl⟩⟩
def ncl (cl : List (Int × Int)) (keys : List Int) : Nat := (prsL keys.length).countP fun x => !relK cl keys x.1 x.2
theorem prsL_len {n : Nat} (h : n <= 8) : (prsL n).length <= 28 := by
 have : ∀ n, n <= 8 -> (prsL n).length <= 28 := by decide
 exact this n h
theorem countP_lt {α : Type} {p q : α -> Bool} : ∀ {l : List α}, (∀ x ∈ l, p x = true -> q x = true) -> (∃ x ∈ l, q x = true /\ p x = false) -> l.countP p < l.countP q
 | [], _, ⟨x, hx, _⟩ => by cases hx
 | y :: l, h, ⟨x, hx, h1, h2⟩ => by
  have hle : l.countP p <= l.countP q := List.countP_mono_left fun x hx => h x (by simp [hx])
  rw [List.countP_cons, List.countP_cons]
  rcases List.mem_cons.1 hx with rfl | hx
  ·rw [h1, h2]; simp; omega
  ·have ih := countP_lt (fun x hx => h x (by simp [hx])) ⟨x, hx, h1, h2⟩
   by_cases hp : p y = true
   ·rw [hp, h y (by simp) hp]; simp; omega
   ·simp only [hp, Bool.false_eq_true, if_false]; split <;> omega
theorem relK_ins {cl : List (Int × Int)} {keys : List Int} (hn : keys.Nodup) {i0 k0 : Nat} (hi : i0 < k0) (hk : k0 < keys.length) {i k : Nat} (hik : i < k) (hkn : k < keys.length) :
  relK (insL (pO (keys.getD i0 0) (keys.getD k0 0)) cl) keys i k = (relK cl keys i k || (decide (i = i0) && decide (k = k0))) := by
 unfold relK
 rw [Bool.eq_iff_iff, decide_eq_true_eq, mem_insL, Bool.or_eq_true, decide_eq_true_eq, Bool.and_eq_true, decide_eq_true_eq, decide_eq_true_eq]
 constructor
 ·rintro (h | h)
  ·rcases pO_eq h with ⟨h1, h2⟩ | ⟨h1, h2⟩
   ·exact .inr ⟨nodup_getD hn (by omega) (by omega) h1, nodup_getD hn (by omega) (by omega) h2⟩
   ·have e1 := nodup_getD hn (by omega) (by omega) h1
    have e2 := nodup_getD hn (by omega) (by omega) h2
    omega
  ·exact .inl h
 ·rintro (h | ⟨rfl, rfl⟩)
  ·exact .inr h
  ·exact .inl rfl
theorem ncl_ins {cl : List (Int × Int)} {keys : List Int} (hn : keys.Nodup) {i0 k0 : Nat} (hi : i0 < k0) (hk : k0 < keys.length) (h0 : relK cl keys i0 k0 = false) : ncl (insL (pO (keys.getD i0 0) (keys.getD k0 0)) cl) keys < ncl cl keys := by
 refine countP_lt (fun x hx h => ?_) ⟨(i0, k0), mem_prsL.2 ⟨hi, hk⟩, by simp [h0], ?_⟩
 ·have := mem_prsL.1 hx
  rw [relK_ins hn hi hk this.1 this.2, Bool.not_or, Bool.and_eq_true] at h
  exact h.1
 ·rw [relK_ins hn hi hk hi hk]; simp
theorem filter_erase : ∀ {keys : List Int} {k0 : Nat} {b : Int}, keys.Nodup -> keys[k0]? = some b -> keys.filter (fun x => !decide (x = b)) = keys.eraseIdx k0
 | [], _, _, _, h => by cases h
 | x :: keys, 0, b, hn, h => by
  simp only [List.getElem?_cons_zero, Option.some.injEq] at h
  subst h
  rw [List.nodup_cons] at hn
  rw [List.filter_cons, if_neg (by simp), List.eraseIdx_cons_zero, List.filter_eq_self]
  intro a ha
  have : a ≠ x := fun e => hn.1 (e ▸ ha)
  simp [this]
 | x :: keys, k0 + 1, b, hn, h => by
  rw [List.nodup_cons] at hn
  simp only [List.getElem?_cons_succ] at h
  have hne : x ≠ b := fun e => hn.1 (by rw [e]; exact List.mem_of_getElem? h)
  rw [List.filter_cons, if_pos (by simp [hne]), List.eraseIdx_cons_succ, filter_erase hn.2 h]
def jnL (f s : Int) (cl : List (Int × Int)) : List (Int × Int) := ((cl.filter fun p => decide (s = p.1) || decide (s = p.2)).map (qj f s)).foldl (fun acc q => insL q acc) (cl.filter fun p => !(decide (s = p.1) || decide (s = p.2)))
theorem foldl_ins : ∀ (l acc : List (Int × Int)) (x : Int × Int), x ∈ l.foldl (fun acc q => insL q acc) acc ↔ x ∈ acc \/ x ∈ l
 | [], acc, x => by simp
 | q :: l, acc, x => by
  rw [List.foldl_cons, foldl_ins l, mem_insL, List.mem_cons]
  constructor
  ·rintro ((h | h) | h) <;> simp [h]
  ·rintro (h | (h | h)) <;> simp [h]
theorem foldl_nodup : ∀ (l acc : List (Int × Int)), acc.Nodup -> (l.foldl (fun acc q => insL q acc) acc).Nodup
 | [], _, h => h
 | q :: l, acc, h => by rw [List.foldl_cons]; exact foldl_nodup l _ (insL_nodup h)
theorem jnL_nodup {f s : Int} {cl : List (Int × Int)} (h : cl.Nodup) : (jnL f s cl).Nodup := foldl_nodup _ _ (h.filter _)
theorem mem_jnL {f s : Int} {cl : List (Int × Int)} {x : Int × Int} : x ∈ jnL f s cl ↔ jn f s cl x := by
 unfold jnL jn tch
 rw [foldl_ins, List.mem_filter, List.mem_map]
 constructor
 ·rintro (⟨h1, h2⟩ | ⟨p, h1, rfl⟩)
  ·refine .inl ⟨h1, ?_⟩
   simp only [Bool.not_eq_true', Bool.or_eq_false_iff, decide_eq_false_iff_not] at h2
   rintro (h | h)
   ·exact h2.1 h
   ·exact h2.2 h
  ·rw [List.mem_filter, Bool.or_eq_true, decide_eq_true_eq, decide_eq_true_eq] at h1
   exact .inr ⟨p, h1.1, h1.2, rfl⟩
 ·rintro (⟨h1, h2⟩ | ⟨p, h1, h2, rfl⟩)
  ·refine .inl ⟨h1, ?_⟩
   simp only [Bool.not_eq_true', Bool.or_eq_false_iff, decide_eq_false_iff_not]
   exact ⟨fun h => h2 (.inl h), fun h => h2 (.inr h)⟩
  ·refine .inr ⟨p, ?_, rfl⟩
   rw [List.mem_filter, Bool.or_eq_true, decide_eq_true_eq, decide_eq_true_eq]
   exact ⟨h1, h2⟩
theorem qj_pO {f s o : Int} {p : Int × Int} (hp : p.1 < p.2) (h : p = pO s o) : qj f s p = pO f o := by
 have h1 := congrArg Prod.fst h
 have h2 := congrArg Prod.snd h
 unfold pO at h1 h2
 simp only at h1 h2
 unfold qj
 split
 ·congr 1; omega
 ·congr 1; omega
theorem tch_pO {s : Int} {p : Int × Int} (hp : p.1 < p.2) (h : tch s p) : ∃ o, p = pO s o /\ o ≠ s := by
 unfold tch at h
 rcases h with h | h
 ·exact ⟨p.2, by unfold pO; apply Prod.ext <;> simp only <;> omega, by omega⟩
 ·exact ⟨p.1, by unfold pO; apply Prod.ext <;> simp only <;> omega, by omega⟩
theorem jn_lt {f s : Int} {cl : List (Int × Int)} (hlt : ∀ p ∈ cl, p.1 < p.2) (h0 : pO f s ∉ cl) : ∀ x, jn f s cl x -> x.1 < x.2 := by
 rintro x (⟨h1, _⟩ | ⟨p, h1, h2, rfl⟩)
 ·exact hlt x h1
 ·obtain ⟨o, h3, h4⟩ := tch_pO (hlt p h1) h2
  rw [qj_pO (hlt p h1) h3]
  have hof : o ≠ f := fun e => h0 (by rw [<- e, pO_comm, <- h3]; exact h1)
  unfold pO
  simp only
  omega
theorem jn_iff {f s u v : Int} {cl : List (Int × Int)} (hlt : ∀ p ∈ cl, p.1 < p.2) (hu : u ≠ s) (hv : v ≠ s) (huv : u ≠ v) : jn f s cl (pO u v) ↔ pO u v ∈ cl \/ (u = f /\ pO s v ∈ cl) \/ (v = f /\ pO s u ∈ cl) := by
 have hnt : ¬ tch s (pO u v) := by
  unfold tch pO
  simp only
  omega
 unfold jn
 constructor
 ·rintro (⟨h1, _⟩ | ⟨p, h1, h2, h3⟩)
  ·exact .inl h1
  ·obtain ⟨o, h4, h5⟩ := tch_pO (hlt p h1) h2
   rw [qj_pO (hlt p h1) h4] at h3
   rw [h4] at h1
   rcases pO_eq h3 with ⟨rfl, rfl⟩ | ⟨rfl, rfl⟩
   ·exact .inr (.inl ⟨rfl, h1⟩)
   ·exact .inr (.inr ⟨rfl, h1⟩)
 ·have ht : ∀ o, tch s (pO s o) := fun o => by unfold tch pO; simp only; omega
  rintro (h | ⟨rfl, h⟩ | ⟨rfl, h⟩)
  ·exact .inl ⟨h, hnt⟩
  ·exact .inr ⟨_, h, ht v, by rw [qj_pO (hlt _ h) rfl]⟩
  ·exact .inr ⟨_, h, ht u, by rw [qj_pO (hlt _ h) rfl, pO_comm]⟩
theorem colN_eq {cl : List (Int × Int)} {keys : List Int} (hn : keys.Nodup) (hlt : ∀ p ∈ cl, p.1 < p.2) {i0 k0 m : Nat} (hik0 : i0 ≠ k0) (hin : i0 < keys.length) (hk : k0 < keys.length) (h0 : relK cl keys i0 k0 = false) :
  eqC (relK cl keys) m keys.length i0 k0 = colN (jnL (keys.getD i0 0) (keys.getD k0 0) cl) (keys.eraseIdx k0) m := by
 have hel : (keys.eraseIdx k0).length = keys.length - 1 := by rw [List.length_eraseIdx, if_pos hk]
 unfold colN
 rw [hel]
 refine con hik0 hin hk relK_comm h0 fun a b hab hb => ?_
 have hbn := (upI_n (a := b) hk).2 hb
 have han := (upI_n (a := a) hk).2 (by omega)
 have hltu := upI_lt (k0 := k0) hab
 have hea : ∀ a, (keys.eraseIdx k0).getD a 0 = keys.getD (upI k0 a) 0 := fun a => by
  rw [List.getD_eq_getElem?_getD, List.getD_eq_getElem?_getD, List.getElem?_eraseIdx]
  unfold upI
  split <;> rfl
 have hne : ∀ c, upI k0 c < keys.length -> keys.getD (upI k0 c) 0 ≠ keys.getD k0 0 := fun c hc e => upI_ne (nodup_getD hn hc hk e)
 have hi0 : ∀ c, upI k0 c < keys.length -> (keys.getD (upI k0 c) 0 = keys.getD i0 0 ↔ upI k0 c = i0) := fun c hc => ⟨fun e => nodup_getD hn hc hin e, fun e => by rw [e]⟩
 unfold relK
 rw [hea, hea, Bool.eq_iff_iff]
 simp only [Bool.or_eq_true, Bool.and_eq_true, decide_eq_true_eq]
 rw [mem_jnL, jn_iff hlt (hne a han) (hne b hbn) (fun e => by have := nodup_getD hn han hbn e; omega), hi0 a han, hi0 b hbn, or_assoc]
theorem colN_step {cl : List (Int × Int)} {keys : List Int} (hn : keys.Nodup) (hlt : ∀ p ∈ cl, p.1 < p.2) {i0 k0 m : Nat} (hi : i0 < k0) (hk : k0 < keys.length) (h0 : relK cl keys i0 k0 = false) :
  colN cl keys m = colN (insL (pO (keys.getD i0 0) (keys.getD k0 0)) cl) keys m + colN (jnL (keys.getD i0 0) (keys.getD k0 0) cl) (keys.eraseIdx k0) m /\
  eqC (relK cl keys) m keys.length i0 k0 = colN (jnL (keys.getD i0 0) (keys.getD k0 0) cl) (keys.eraseIdx k0) m := by
 have h1 := del_con (R := relK cl keys) (R' := relK (insL (pO (keys.getD i0 0) (keys.getD k0 0)) cl) keys) (m := m) hi hk (fun i k => relK_ins hn hi hk)
 have h2 := colN_eq hn hlt (m := m) (by omega : i0 ≠ k0) (by omega) hk h0
 refine ⟨?_, h2⟩
 rw [<- h2]
 exact h1
end Go.Proofs.Ytmcjoahnlbckoaa.Sk

/- Contracts of functions: a copy, and a copy without some. -/
namespace Go.Proofs.Ytmcjoahnlbckoaa.Sk
open Go Go.E Go.E.Sm
set_option maxRecDepth 10000
theorem k101 {xs : List Int} (hne : xs ≠ []) (hl : xs.length <= 1000) : E.FnNew Try.prog 101 1 [.s (ints xs)] (xs.map (.int .i64)) := by
 refine new_of_row okf101 ?_
 have hne2 := map_ne hne
 simp only [FRow.start, f101, c101r0, c101r1, ints, go_sem, Nat.reduceSub]
 refine ⟨fun e => absurd e hne2, ?_⟩
 simp only [c101r3, go_sem]
 refine ⟨by decide, by decide, rfl, by simp, ⟨by simp, ints_one, ?_, ?_, by decide⟩, fun e => absurd e hne2, fun _ => ⟨rfl, ?_⟩⟩
 ·rw [List.length_map]; simp only [List.length_nil]; omega
 ·rw [List.length_map]; simp only [List.length_nil]; omega
 simp only [finN, newOf, flatE_ints, go_sem, reduceCtorEq]
 exact .inr ⟨_, rfl, hne2, by simp, by rw [List.take_of_length_le (by simp)]⟩
theorem k102 {x k : Int} : E.Fn Try.prog 102 [.int .i64 x, .ptr [.int .i64 k]] [.bool (decide (x = k))] := by
 refine fn_of_row okf102 ?_
 simp only [FRow.start, f102, c102r0, c102r1, go_sem, Nat.reduceAdd, Nat.reduceSub]
theorem splice_map0 {α β : Type} {g : α -> β} {l xs : List α} {o : Nat} : splice (l.map g) o (xs.map g) = (splice l o xs).map g := by
 unfold splice
 simp [List.map_take, List.map_drop]
theorem filt_succ0 {α : Type} {q : α -> Bool} {l : List α} {i : Nat} {x : α} (h : l[i]? = some x) : (l.take (i + 1)).filter q = if q x then (l.take i).filter q ++ [x] else (l.take i).filter q := by
 rw [List.take_succ, h, List.filter_append]
 split
 ·rename_i h1; simp [h1]
 ·rename_i h1; simp [h1]
theorem idx_spec {α : Type} (p : α -> Bool) : ∀ (xs : List α) (s : Nat), (idx p xs s = -1 /\ ∀ x ∈ xs, p x = false) \/ ∃ i : Nat, i < xs.length /\ idx p xs s = ((s + i : Nat) : Int) /\ (∃ x, xs[i]? = some x /\ p x = true) /\ ∀ x ∈ xs.take i, p x = false
 | [], s => .inl ⟨rfl, by simp⟩
 | x :: xs, s => by
  rw [idx]
  cases hp : p x with
  | true => exact .inr ⟨0, by simp, by simp, ⟨x, rfl, hp⟩, by simp⟩
  | false =>
   rw [if_neg (by simp)]
   rcases idx_spec p xs (s + 1) with ⟨h1, h2⟩ | ⟨i, h1, h2, h3, h4⟩
   ·refine .inl ⟨h1, fun y hy => ?_⟩
    rcases List.mem_cons.1 hy with rfl | hy
    ·exact hp
    ·exact h2 y hy
   ·refine .inr ⟨i + 1, by simpa using h1, ?_, by simpa using h3, fun y hy => ?_⟩
    ·rw [show ((s : Int) + 1) = ((s + 1 : Nat) : Int) from rfl, h2]; omega
    ·rw [List.take_succ_cons] at hy
     rcases List.mem_cons.1 hy with rfl | hy
     ·exact hp
     ·exact h4 y hy
set_option maxHeartbeats 2000000 in
theorem k100 {g : FuncId} {first caps : List SV} {xs : List Int} {p : Int -> Bool} (hg : Ok1 g first caps) (hp : ∀ x ∈ xs, Asks g first caps (.int .i64 x) (p x)) {clip : Bool} (hl : xs.length <= 1000) :
  ∃ (c' : Bool) (R : List Int), CSem Try.prog 100 [.sl 0 0 xs.length 1 clip, .s (.fn g first caps)] [.row (xs.map (.int .i64))] (.sl 0 0 (xs.filter fun x => !p x).length 1 c') [.row (R.map (.int .i64))] /\ R.take (xs.filter fun x => !p x).length = xs.filter (fun x => !p x) /\ (xs.filter fun x => !p x).length <= R.length := by
 have hk := k108 hg hp
 rcases idx_spec p xs 0 with ⟨h1, h2⟩ | ⟨i0, h1, h2, ⟨x0, h3, h3'⟩, h4⟩
 ·have hf : xs.filter (fun x => !p x) = xs := by
   rw [List.filter_eq_self]
   intro a ha; rw [h2 a ha]; rfl
  rw [hf]
  refine ⟨clip, xs, csem_of_row okf100 ?_, List.take_length, Nat.le_refl _⟩
  rw [show ((0 : Nat) : Int) = 0 from rfl] at h1
  rw [h1] at hk
  simp only [FRow.start, f100, c100r0, c100r1, go_sem, Nat.reduceAdd, Nat.reduceSub]
  refine callK_of (by simp only [slice_all (L := xs) rfl, go_sem]) hk (.inl rfl) ?_
  simp only [c100r2, c100r3, finC, go_sem, ↓reduceIte, reduceCtorEq, Nat.reduceLeDiff, Int.reduceNeg]
  done
 ·generalize hF : xs.filter (fun x => !p x) = F
  have hFl : F.length <= xs.length := by rw [<- hF]; exact List.length_filter_le _ _
  refine ⟨clip && decide (F.length = xs.length), F ++ List.replicate (xs.length - F.length) 0, csem_of_row okf100 ?_, by rw [List.take_left' rfl], by rw [List.length_append]; omega⟩
  rw [show ((0 : Nat) : Int) = 0 from rfl, Nat.zero_add] at h2
  rw [h2] at hk
  have hd : xs.drop i0 = x0 :: xs.drop (i0 + 1) := by
   rw [List.drop_eq_getElem_cons h1]
   rw [List.getElem?_eq_getElem h1, Option.some.injEq] at h3
   rw [h3]
  have hT : xs.take i0 = (xs.take (i0 + 1)).filter (fun x => !p x) := by
   rw [List.take_succ, h3, List.filter_append]
   have : (xs.take i0).filter (fun x => !p x) = xs.take i0 := by
    rw [List.filter_eq_self]
    intro a ha; rw [h4 a ha]; rfl
   rw [this]
   simp [h3']
  simp only [FRow.start, f100, c100r0, c100r1, go_sem, Nat.reduceAdd, Nat.reduceSub]
  refine callK_of (by simp only [slice_all (L := xs) rfl, go_sem]) hk (.inl rfl) ?_
  have hn1 : ¬ (i0 : Int) = -1 := by omega
  simp only [c100r2, hn1, c100r4, go_sem, Int.reduceNeg]
  refine ⟨inR_small (by omega) (by omega), ?_⟩
  refine loop_rule (fun m τ => ∃ (j : Nat) (G : List Int), m = xs.length - j /\ j <= xs.length /\ G.length < j /\ G = (xs.take j).filter (fun x => !p x) /\ (∃ W : List Int, W.length = xs.length /\ W.take G.length = G /\ (∀ k, j <= k -> W[k]? = xs[k]?) /\
   τ = ⟨[.sl 0 0 xs.length 1 clip, .s (.fn g first caps), .any, .any, .any, .s (.int .i64 G.length), .s (.int .i64 j), .any, .any, .any, .any, .any, .any, .any, .any, .any, .any, .any, .any, .any, .any, .any, .any, .any, .any, .any, .any, .any, .any, .any, .any, .any, .any, .any, .any, .any, .any, .any, .any, .any, .any, .any], [.row (W.map (.int .i64))]⟩)) (xs.length - (i0 + 1)) rfl ?_ ?_
  ·simp only [c100l11m, go_sem, ↓reduceIte, reduceCtorEq, Nat.reduceLeDiff]
   have hti : (xs.take i0).length = i0 := by rw [List.length_take]; omega
   refine ⟨i0 + 1, xs.take i0, rfl, by omega, by omega, hT, xs, rfl, by rw [hti], fun _ _ => rfl, ?_⟩
   rw [hti]; rfl
  ·rintro I m τ ⟨j, G, rfl, hj, hGj, hG, W, hW, hWt, hWd, rfl⟩ hI
   simp only [c100l11, c100r5, go_sem, ↓reduceIte]
   intro _
   refine ⟨fun hlt => ?_, fun hge => ?_⟩
   ·have hlt : j < xs.length := by omega
    have hx : xs[j]? = some xs[j] := List.getElem?_eq_getElem hlt
    have hxm : xs[j] ∈ xs := List.getElem_mem _
    have hfs := filt_succ0 (q := fun x => !p x) hx
    have hWj : W[j]? = some xs[j] := by rw [hWd j (Nat.le_refl _)]; exact hx
    have hpi := hp _ hxm
    generalize xs[j] = x at hx hxm hfs hWj hpi
    have hin : inR .i64 ((j : Int) + 1) := inR_small (by omega) (by omega)
    simp only [c100r6, hWj, Nat.zero_add, c100r7, go_sem]
    refine ⟨hlt, hg.1, hg.2, callK_of (by simp only [go_sem]) hpi (.inl rfl) ?_⟩
    cases hpx : p x with
    | true =>
     rw [hpx, if_neg (by simp)] at hfs
     simp only [c100r10, c100l11m, go_sem, ↓reduceIte, reduceCtorEq, Nat.reduceLeDiff]
     exact ⟨hin, hI (xs.length - (j + 1)) _ (by omega) ⟨j + 1, G, rfl, by omega, by omega, by rw [hfs, hG], W, hW, hWt, fun k hk => hWd k (by omega), rfl⟩⟩
    | false =>
     rw [hpx, if_pos (by rfl), <- hG] at hfs
     have hsp : splice (W.map (SV.int .i64)) G.length [SV.int .i64 x] = (splice W G.length [x]).map (SV.int .i64) := splice_map0 (xs := [x])
     simp only [c100r8, c100r9, Nat.zero_add, go_sem]
     refine ⟨by omega, by rw [hW]; omega, ?_⟩
     rw [hsp]
     simp only [c100r10, c100l11m, go_sem, ↓reduceIte, reduceCtorEq, Nat.reduceLeDiff]
     refine ⟨inR_small (by omega) (by omega), hin, hI (xs.length - (j + 1)) _ (by omega) ⟨j + 1, G ++ [x], rfl, by omega, by rw [List.length_append]; simp; omega, hfs.symm, splice W G.length [x], ?_, ?_, ?_, ?_⟩⟩
     ·unfold splice; simp only [List.length_append, List.length_take, List.length_drop, List.length_singleton]; omega
     ·unfold splice
      rw [List.length_append, hWt, List.length_singleton, List.take_append_of_le_length (by simp), List.take_of_length_le (by simp)]
     ·intro k hk
      unfold splice
      rw [hWt, List.getElem?_append_right (by simp; omega), List.getElem?_drop]
      simp only [List.length_append, List.length_singleton]
      rw [show G.length + 1 + (k - (G.length + 1)) = k by omega]
      exact hWd k (by omega)
     ·rw [List.length_append]; rfl
   ·have hje : j = xs.length := by omega
    subst hje
    rw [List.take_length, hF] at hG
    subst hG
    simp only [c100r12, go_sem, ↓reduceIte]
    refine ⟨hFl, by rw [hW]; omega, ?_⟩
    have hsp : splice (W.map (SV.int .i64)) G.length (List.replicate (xs.length - G.length) [SV.int .i64 0]).flatten = (G ++ List.replicate (xs.length - G.length) 0).map (SV.int .i64) := by
     rw [List.flatten_replicate_singleton, show List.replicate (xs.length - G.length) (SV.int .i64 0) = (List.replicate (xs.length - G.length) (0 : Int)).map (SV.int .i64) by rw [List.map_replicate], splice_map0]
     congr 1
     unfold splice
     rw [hWt, List.length_replicate, List.drop_of_length_le (by omega), List.append_nil]
    rw [hsp]
    simp only [c100r13, finC, go_sem, ↓reduceIte, reduceCtorEq, Nat.reduceLeDiff]
    exact ⟨Nat.zero_le _, hFl, rfl⟩
end Go.Proofs.Ytmcjoahnlbckoaa.Sk
