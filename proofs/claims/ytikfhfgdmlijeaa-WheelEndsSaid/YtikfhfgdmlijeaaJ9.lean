/- WheelEnds, reckoned: at every machine and number it answers true. -/
import Derived.Test.YtikfhfgdmlijeaaJ8

set_option linter.all false

namespace Go.Proofs.Ytikfhfgdmlijeaa.Sk
open Go Go.E Go.E.Sm
set_option maxRecDepth 10000
section
variable {s : Int} {N : List (List Int)} {p : List Int}
theorem small_lst {n d : Int} (hd : 0 < d) (hd2 : d <= 32000) (hn : 0 <= n) (hn2 : n <= 1000 * d) : smallB (lst n d) = true := by
 have h1 := lst_le hd (n := n)
 have h2 := lst_nonneg hd hn
 have h3 := lst_mul_le hd hn2
 have h4 := lst_gcd hd (n := n)
 rw [smallB_iff]
 refine ⟨⟨by omega, by omega, h2, h3⟩, ?_⟩
 rw [show (lst n d).1.toNat = (lst n d).1.natAbs by omega, show (lst n d).2.toNat = (lst n d).2.natAbs by omega]
 exact h4
theorem twoR_get : ∀ {l : List (Int × Int)} {k : Nat} {q : Int × Int}, l[k]? = some q -> (twoR l)[k * 2]? = some q.1 /\ (twoR l)[k * 2 + 1]? = some q.2
 | [], k, q, h => by cases h
 | x :: l, 0, q, h => by
  simp only [List.getElem?_cons_zero, Option.some.injEq] at h
  subst h; exact ⟨rfl, rfl⟩
 | x :: l, k + 1, q, h => by
  have ih := twoR_get (l := l) (k := k) (q := q) (by simpa using h)
  have e : twoR (x :: l) = x.1 :: x.2 :: twoR l := rfl
  rw [e, show (k + 1) * 2 = k * 2 + 1 + 1 by omega]
  simpa using ih
theorem twoR_part {l : List (Int × Int)} {k : Nat} {q : Int × Int} (h : l[k]? = some q) : (((twoR l).map (SV.int .i64)).drop (k * 2)).take 2 = [.int .i64 q.1, .int .i64 q.2] := by
 obtain ⟨g1, g2⟩ := twoR_get h
 obtain ⟨h1, e1⟩ := List.getElem?_eq_some_iff.1 g1
 obtain ⟨h2, e2⟩ := List.getElem?_eq_some_iff.1 g2
 rw [<- List.map_drop, List.drop_eq_getElem_cons h1, List.drop_eq_getElem_cons h2, e1, e2]; rfl
def lnL (s : Int) (N : List (List Int)) (c k : Nat) : List (Int × Int) := (List.range k).map fun j => lst (lnN s N (rchC (gr N) N.length c) j) (detS s N (opL N))
theorem lnL_len {c k : Nat} : (lnL s N c k).length = k := by simp [lnL]
theorem lnL_get {c k j : Nat} (h : j < k) : (lnL s N c k)[j]? = some (lst (lnN s N (rchC (gr N) N.length c) j) (detS s N (opL N))) := by
 unfold lnL; rw [List.getElem?_map, List.getElem?_range h]; rfl
end
set_option maxHeartbeats 4000000 in
theorem law6 {s : Int} {N : List (List Int)} {p : List Int} {b : Int} (hb : 0 <= b /\ b < 256) : E.Fn Try.prog 6 [mc s N p, .int .u8 b] [.bool true] := by
 refine fn_of_row okf6 ?_
 simp only [FRow.start, f6, c6r0, c6r1, mc, SV.cells, go_sem, Nat.reduceAdd, Nat.reduceSub, true_implies]
 refine callK_of rfl (k24 (s := s) (N := N) (p := p)) (.inl rfl) ?_
 cases hf : !greatB N p && decide (chkM s N p = 0) with
 | false =>
  simp only [c6r2, go_sem, true_implies]
  refine wk ?_
  simp only [go_sem, true_implies]
 | true =>
  rw [Bool.and_eq_true, decide_eq_true_eq] at hf
  have h0 := hf.2
  have h := chkM_zero.1 h0
  have hn4 := h.n4
  have hn1 := h.n1
  have h27 := k27 (s := s) (N := N) (p := p) hn4 h.sq h.goOn
  have hpl := parts_len (N := N)
  have hD := det_pos h
  have hD8 := det_8 h
  have hs1 := h.s1
  have hs20 := h.s20
  obtain ⟨bn, rfl⟩ : ∃ bn : Nat, b = bn := ⟨b.toNat, by omega⟩
  simp only [c6r3, go_sem, Nat.reduceAdd, true_implies]
  refine callK_of rfl h27 (.inr (.inl rfl)) ?_
  simp only [c6r4, c6r5, intss, go_sem, Nat.reduceAdd, Nat.reduceLeDiff, true_implies]
  intro _
  refine ⟨inR_small (by omega) (by omega), by omega, ?_⟩
  rw [show (bn : Int).tmod (N.length : Nat) = ((bn % N.length : Nat) : Int) from (Int.ofNat_tmod _ _).symm]
  have hi : bn % N.length < N.length := Nat.mod_lt _ hn1
  generalize bn % N.length = i at *
  have hpf : (parts N).length = (firsts N).length := by rw [parts_eq, List.length_map]
  simp only [c6r6, go_sem]
  refine callK_of (by simp only [go_sem]) (k28 (a := 0) (b := 1)) (.inl rfl) ?_
  simp only [rat, spl_two, c6r7, go_sem, Nat.reduceAdd, true_implies]
  obtain ⟨S, hS⟩ : ∃ S : Nat -> Int, ∀ j, S j = (((firsts N).take j).map fun c => lnN s N (rchC (gr N) N.length c) i).sum := ⟨_, fun _ => rfl⟩
  have hSs : ∀ {j c : Nat}, (firsts N)[j]? = some c -> S (j + 1) = S j + lnN s N (rchC (gr N) N.length c) i := fun {j c} hc => by
   rw [hS, hS, List.take_succ, hc]
   simp
  have hS0 : S 0 = 0 := by rw [hS]; rfl
  have hSn : S (parts N).length = detS s N (opL N) := by rw [hS, hpf, List.take_length]; exact ln_sum h hi
  have hSb : ∀ j, 0 <= S j /\ S j <= detS s N (opL N) := fun j => by
   have h1 : 0 <= S j := by
    rw [hS]
    refine sum_nonneg fun x hx => ?_
    obtain ⟨c, hc, rfl⟩ := List.mem_map.1 hx
    exact ln_nonneg h (mem_firsts.1 (List.mem_of_mem_take hc))
   refine ⟨h1, ?_⟩
   have h2 : S j + (((firsts N).drop j).map fun c => lnN s N (rchC (gr N) N.length c) i).sum = detS s N (opL N) := by
    rw [hS, <- List.sum_append, <- List.map_append, List.take_append_drop]
    exact ln_sum h hi
   have h3 : 0 <= (((firsts N).drop j).map fun c => lnN s N (rchC (gr N) N.length c) i).sum := by
    refine sum_nonneg fun x hx => ?_
    obtain ⟨c, hc, rfl⟩ := List.mem_map.1 hx
    exact ln_nonneg h (mem_firsts.1 (List.mem_of_mem_drop hc))
   omega
  have hst : ∀ T : Int, 0 <= T -> T <= 20 * detS s N (opL N) -> 0 <= (lst T (detS s N (opL N))).1 /\ (lst T (detS s N (opL N))).1 <= 160000 /\ 1 <= (lst T (detS s N (opL N))).2 /\ (lst T (detS s N (opL N))).2 <= 8000 := fun T h1 h2 => by
   have q1 := lst_le hD (n := T)
   have q2 := lst_nonneg hD h1
   omega
  generalize hDe : detS s N (opL N) = D at *
  refine loop_rule (fun m τ => ∃ j : Nat, m = (parts N).length - j /\ j <= (parts N).length /\
   τ = ⟨(aN::aN::(.s (.ptr [.int .i64 s, intss N, ints p]))::aN::aN::(.s (intss (parts N)))::(aI N.length)::(aI i)::(.loc 0 0)::(aI j)::aN::aN::aN::aN::aN::aN::aZ200), [.obj [aI (lst (S j) D).1, aI (lst (S j) D).2]]⟩) (parts N).length rfl ?_ ?_
  ·simp only [c6l42m, go_sem, ↓reduceIte, reduceCtorEq, Nat.reduceLeDiff]
   refine ⟨0, rfl, Nat.zero_le _, ?_⟩
   rw [hS0, lst_zero hD]; rfl
  ·rintro I m τ ⟨j, rfl, hj, rfl⟩ hI
   simp only [c6l42, c6r8, intss, go_sem, ↓reduceIte]
   intro _
   refine ⟨fun hlt => ?_, fun hge => ?_⟩
   ·obtain ⟨c, hc⟩ : ∃ c, (firsts N)[j]? = some c := ⟨_, List.getElem?_eq_getElem (by omega)⟩
    have hcp := mem_firsts.1 (List.mem_of_getElem? hc)
    have hpi : (parts N)[j]? = some (rchC (gr N) N.length c) := by rw [parts_eq, List.getElem?_map, hc, Option.map_some]
    have hPb : ∀ k, k < N.length -> 0 <= lnN s N (rchC (gr N) N.length c) k /\ lnN s N (rchC (gr N) N.length c) k <= D := fun k hk => by
     have h1 := ln_le h hcp hk
     rw [hDe] at h1
     exact ⟨ln_nonneg h hcp, h1⟩
    have h29 : ∀ k : Nat, k < N.length -> E.Fn Try.prog 29 [mc s N p, .int .i64 k, .int .i64 j] [rat (lst (lnN s N (rchC (gr N) N.length c) k) D), .int .i64 0] := fun k hk => by
     have h1 := k29 (s := s) (N := N) (p := p) (state := k) (part := j)
     unfold landsR at h1
     rw [if_pos h0, if_pos ⟨⟨by omega, by omega⟩, by omega, by omega⟩, Int.toNat_natCast, hpi, Option.getD_some, lands_ln h, hDe] at h1
     exact h1
    simp only [c6r9, c6r10, go_sem, true_implies]
    refine loop_rule (fun m τ => ∃ k : Nat, m = N.length - k /\ k <= N.length /\
     τ = ⟨(aN::aN::(.s (.ptr [.int .i64 s, intss N, ints p]))::aN::aN::(.s (intss (parts N)))::(aI N.length)::(aI i)::(.loc 0 0)::(aI j)::(.sl 1 0 k 2 false)::(aI k)::aN::aN::aN::aN::aZ200), [.obj [aI (lst (S j) D).1, aI (lst (S j) D).2], .row ((twoR (lnL s N c k)).map (.int .i64))]⟩) N.length (promo_one rfl) ?_ ?_
    ·simp only [c6l17m, go_sem, ↓reduceIte, reduceCtorEq, Nat.reduceAdd, Nat.reduceLeDiff]
     exact ⟨0, rfl, Nat.zero_le _, rfl⟩
    ·rintro I2 m τ ⟨k, rfl, hk, rfl⟩ hI2
     simp only [c6l17, c6r11, go_sem, ↓reduceIte, Nat.reduceAdd, true_implies]
     refine ⟨fun hlt2 => ?_, fun hge2 => ?_⟩
     ·have hlt2 : k < N.length := by omega
      have hb1 := hst _ (hPb k hlt2).1 (by have := (hPb k hlt2).2; omega)
      have hb2 : (lst (lnN s N (rchC (gr N) N.length c) k) D).1 <= (lst (lnN s N (rchC (gr N) N.length c) k) D).2 := by
       have := lst_mul_le hD (n := lnN s N (rchC (gr N) N.length c) k) (c := 1) (by have := (hPb k hlt2).2; omega)
       omega
      have hsm : smallB (lst (lnN s N (rchC (gr N) N.length c) k) D) = true := small_lst hD (by omega) (hPb k hlt2).1 (by have := (hPb k hlt2).2; omega)
      have hts : lnL s N c (k + 1) = lnL s N c k ++ [lst (lnN s N (rchC (gr N) N.length c) k) D] := by
       unfold lnL; rw [List.range_succ, List.map_append, hDe]; rfl
      have hsn := twoR_snoc (l := lnL s N c k) (q := lst (lnN s N (rchC (gr N) N.length c) k) D)
      rw [<- hts] at hsn
      have htl : (twoR (lnL s N c k)).length = k * 2 := by rw [twoR_len, lnL_len]
      have h29k := h29 k hlt2
      generalize lst (lnN s N (rchC (gr N) N.length c) k) D = q at *
      have a1 : ¬ q.2 < q.1 := by omega
      have a2 : ¬ (8000 : Int) < q.2 := by omega
      simp only [c6r12, go_sem, Nat.reduceAdd]
      refine callK_of rfl h29k (.inl rfl) ?_
      simp only [rat, spl_two, c6r13, go_sem, Nat.reduceAdd, true_implies]
      refine callK_of (by simp only [rat, frz_two', go_sem]) (k30 (q := q)) (.inl rfl) ?_
      simp only [hsm, a1, a2, c6r15, Nat.reduceBEq, Bool.false_eq_true, go_sem, ↓reduceIte, Nat.reduceAdd, Nat.reduceLeDiff, Nat.reduceMul, true_implies]
      refine ⟨by decide, by decide, rfl, one_rat, one_rat, htl.symm, by omega, by omega, ?_⟩
      rw [hsn]
      simp only [c6r16, c6l17m, go_sem, ↓reduceIte, reduceCtorEq, Nat.reduceLeDiff, true_implies]
      exact ⟨inR_small (by omega) (by omega), hI2 (N.length - (k + 1)) _ (by omega) ⟨k + 1, rfl, by omega, rfl⟩⟩
     ·have hke : k = N.length := by omega
      subst hke
      clear hI2 I2
      obtain ⟨T, hT⟩ : ∃ T : Nat -> Int, ∀ k, T k = ((List.range k).map fun j => tn N i j * lnN s N (rchC (gr N) N.length c) j).sum := ⟨_, fun _ => rfl⟩
      have hTs : ∀ k, T (k + 1) = T k + tn N i k * lnN s N (rchC (gr N) N.length c) k := fun k => by
       rw [hT, hT, List.range_succ, List.map_append, List.sum_append]; simp
      have hTn : T N.length = s * lnN s N (rchC (gr N) N.length c) i := by rw [hT]; exact ln_row h hcp hi
      have hTp : ∀ k, k < N.length -> 0 <= tn N i k * lnN s N (rchC (gr N) N.length c) k := fun k hk => Int.mul_nonneg (h.tn i k).1 (hPb k hk).1
      have hTb : ∀ k, k <= N.length -> 0 <= T k /\ T k <= 20 * D := fun k hk => by
       have h1 : 0 <= T k := by
        rw [hT]
        refine sum_nonneg fun x hx => ?_
        obtain ⟨e, he, rfl⟩ := List.mem_map.1 hx
        exact hTp e (by have := List.mem_range.1 he; omega)
       refine ⟨h1, ?_⟩
       have h2 : ∀ d, k + d <= N.length -> T k <= T (k + d) := fun d => by
        induction d with
        | zero => intro _; exact Int.le_refl _
        | succ d ih =>
         intro hd
         have h3 := ih (by omega)
         have h4 := hTs (k + d)
         have h5 := hTp (k + d) (by omega)
         rw [show k + (d + 1) = k + d + 1 by omega]
         omega
       have h3 := h2 (N.length - k) (by omega)
       rw [show k + (N.length - k) = N.length by omega, hTn] at h3
       have h4 := Int.mul_le_mul hs20 (hPb i hi).2 (hPb i hi).1 (by decide)
       omega
      have hT0 : T 0 = 0 := by rw [hT]; rfl
      simp only [c6r18, go_sem]
      refine callK_of (by simp only [go_sem]) (k28 (a := 0) (b := 1)) (.inl rfl) ?_
      simp only [rat, spl_two, c6r19, go_sem, Nat.reduceAdd, true_implies]
      refine loop_rule (fun m τ => ∃ k : Nat, m = N.length - k /\ k <= N.length /\
       τ = ⟨(aN::aN::(.s (.ptr [.int .i64 s, intss N, ints p]))::aN::aN::(.s (intss (parts N)))::(aI N.length)::(aI i)::(.loc 0 0)::(aI j)::(.sl 1 0 N.length 2 false)::aN::aN::aN::(.loc 2 0)::(aI k)::aZ200), [.obj [aI (lst (S j) D).1, aI (lst (S j) D).2], .row ((twoR (lnL s N c N.length)).map (.int .i64)), .obj [aI (lst (T k) D).1, aI (lst (T k) D).2]]⟩) N.length rfl ?_ ?_
      ·simp only [c6l25m, go_sem, ↓reduceIte, reduceCtorEq, Nat.reduceAdd, Nat.reduceLeDiff]
       refine ⟨0, rfl, Nat.zero_le _, ?_⟩
       rw [hT0, lst_zero hD]; rfl
      ·rintro I2 m τ ⟨k, rfl, hk, rfl⟩ hI2
       simp only [c6l25, c6r20, go_sem, ↓reduceIte, Nat.reduceAdd, true_implies]
       refine ⟨fun hlt2 => ?_, fun hge2 => ?_⟩
       ·have hlt2 : k < N.length := by omega
        have hget := lnL_get (s := s) (N := N) (c := c) hlt2
        rw [hDe] at hget
        obtain ⟨g1, g2⟩ := twoR_get hget
        have hxN : N[i]? = some N[i] := List.getElem?_eq_getElem hi
        have hl := h.sq _ (List.getElem_mem hi)
        have htn : ∀ k, tn N i k = (N[i][k]?).getD 0 := fun k => by unfold tn; rw [hxN]; rfl
        generalize N[i] = row at hxN hl htn
        obtain ⟨z, hz⟩ : ∃ z, row[k]? = some z := ⟨_, List.getElem?_eq_getElem (by omega)⟩
        have hzt : tn N i k = z := by rw [htn, hz]; rfl
        have hzb := h.tn i k
        rw [hzt] at hzb
        have hadd := lst_add (T := T k) (P := lnN s N (rchC (gr N) N.length c) k) (D := D) (m := z) hD
        have hTk := hTs k
        rw [hzt] at hTk
        rw [<- hTk] at hadd
        have q1 := hst _ (hTb k hk).1 (hTb k hk).2
        have q2 := hst _ (hTb (k + 1) hlt2).1 (hTb (k + 1) hlt2).2
        have q3 := hst _ (hPb k hlt2).1 (by have := (hPb k hlt2).2; omega)
        generalize lst (lnN s N (rchC (gr N) N.length c) k) D = x at *
        generalize lst (T k) D = y at *
        generalize hwe : lst (T (k + 1)) D = w at *
        have m1 := mul_le_nat (a := y.1) (b := x.2) (A := 160000) (B := 8000) (by omega) (by omega)
        have m2 := mul_le_nat (a := z) (b := x.1) (A := 20) (B := 160000) (by omega) (by omega)
        have m3 := mul_le_nat (a := z * x.1) (b := y.2) (A := 20 * 160000) (B := 8000) m2 (by omega)
        have m4 := mul_le_nat (a := y.2) (b := x.2) (A := 8000) (B := 8000) (by omega) (by omega)
        have m5 : 0 < y.2 * x.2 := Int.mul_pos (by omega) (by omega)
        have hk31 := k31 (n := y.1 * x.2 + z * x.1 * y.2) (d := y.2 * x.2) (by omega) m5 (by omega)
        rw [hadd] at hk31
        have a3 : ¬ (64000000 : Int) < w.2 := by omega
        simp only [c6r21, g1, g2, intss, hxN, ints, hz, Nat.add_zero, go_sem, Nat.reduceAdd, Nat.reduceLeDiff]
        refine ⟨hlt2, inR_abs (by omega), hlt2, inR_abs (by omega), inR_abs (by omega), inR_abs (by omega), hlt2, inR_abs (by omega), ?_⟩
        refine callK_of (by simp only [go_sem]) hk31 (.inl rfl) ?_
        simp only [rat, spl_two, c6r22, a3, c6r24, c6l25m, go_sem, ↓reduceIte, reduceCtorEq, Nat.reduceAdd, Nat.reduceLeDiff, true_implies]
        exact ⟨inR_small (by omega) (by omega), hI2 (N.length - (k + 1)) _ (by omega) ⟨k + 1, rfl, by omega, by rw [hwe]; rfl⟩⟩
       ·have hke : k = N.length := by omega
        subst hke
        clear hI2 I2
        have hgetA : ∀ k, k < N.length -> (twoR (lnL s N c N.length))[k * 2]? = some (lst (lnN s N (rchC (gr N) N.length c) k) D).1 /\ (twoR (lnL s N c N.length))[k * 2 + 1]? = some (lst (lnN s N (rchC (gr N) N.length c) k) D).2 := fun k hk => by
         have hget := lnL_get (s := s) (N := N) (c := c) hk
         rw [hDe] at hget
         exact twoR_get hget
        obtain ⟨g1, g2⟩ := hgetA i hi
        have hdv : lst (lst (T N.length) D).1 ((lst (T N.length) D).2 * s) = lst (lnN s N (rchC (gr N) N.length c) i) D := by
         rw [hTn]
         have h1 := lst_cross hD (n := s * lnN s N (rchC (gr N) N.length c) i)
         have h2 := lst_pos hD (n := s * lnN s N (rchC (gr N) N.length c) i)
         refine lst_congr (Int.mul_pos h2 (by omega)) hD ?_
         generalize lst (s * lnN s N (rchC (gr N) N.length c) i) D = y at *
         rw [h1]; grind
        have q1 := hst _ (hTb N.length hk).1 (hTb N.length hk).2
        have q3 := hst _ (hPb i hi).1 (by have := (hPb i hi).2; omega)
        generalize hxe : lst (lnN s N (rchC (gr N) N.length c) i) D = x at *
        generalize lst (T N.length) D = y at *
        have m4 := mul_le_nat (a := y.2) (b := s) (A := 8000) (B := 20) (by omega) (by omega)
        have m5 : 0 < y.2 * s := Int.mul_pos (by omega) (by omega)
        have hk31 := k31 (n := y.1) (d := y.2 * s) (by omega) m5 (by omega)
        rw [hdv] at hk31
        simp only [c6r26, go_sem, Nat.reduceAdd, Nat.reduceLeDiff]
        refine ⟨inR_abs (by omega), ?_⟩
        refine callK_of (by simp only [go_sem]) hk31 (.inl rfl) ?_
        have hpartA : ∀ k, k < N.length -> (((twoR (lnL s N c N.length)).map (SV.int .i64)).drop (k * 2)).take 2 = [.int .i64 (lst (lnN s N (rchC (gr N) N.length c) k) D).1, .int .i64 (lst (lnN s N (rchC (gr N) N.length c) k) D).2] := fun k hk => by
         have hget := lnL_get (s := s) (N := N) (c := c) hk
         rw [hDe] at hget
         exact twoR_part hget
        have hrl : (twoR (lnL s N c N.length)).length = N.length * 2 := by rw [twoR_len, lnL_len]
        have hpi2 := hpartA i hi
        rw [hxe] at hpi2
        simp only [rat, hpi2, go_sem, Nat.reduceAdd, true_implies]
        refine ⟨hi, by omega, ?_⟩
        simp only [c6r28, go_sem, true_implies]
        refine loop_rule (fun m τ => ∃ k : Nat, m = (parts N).length - k /\ k <= (parts N).length /\
         τ = ⟨(aN::aN::(.s (.ptr [.int .i64 s, intss N, ints p]))::aN::aN::(.s (intss (parts N)))::(aI N.length)::(aI i)::(.loc 0 0)::(aI j)::(.sl 1 0 N.length 2 false)::aN::aN::aN::aN::aN::(aI k)::aN::aN::aN::aN::aN::aN::aN::aZ192), [.obj [aI (lst (S j) D).1, aI (lst (S j) D).2], .row ((twoR (lnL s N c N.length)).map (.int .i64)), .obj [aI y.1, aI y.2]]⟩) (parts N).length rfl ?_ ?_
        ·simp only [c6l37m, go_sem, ↓reduceIte, reduceCtorEq, Nat.reduceAdd, Nat.reduceLeDiff]
         exact ⟨0, rfl, Nat.zero_le _, rfl⟩
        ·rintro I2 m τ ⟨k, rfl, hk2, rfl⟩ hI2
         simp only [c6l37, c6r29, intss, go_sem, ↓reduceIte, Nat.reduceAdd]
         intro _
         refine ⟨fun hlt2 => ?_, fun hge2 => ?_⟩
         ·obtain ⟨d, hd⟩ : ∃ d, (firsts N)[k]? = some d := ⟨_, List.getElem?_eq_getElem (by omega)⟩
          have hdp := mem_firsts.1 (List.mem_of_getElem? hd)
          have hpd : (parts N)[k]? = some (nats (rl (gr N) N.length d)) := by rw [parts_eq, List.getElem?_map, hd, Option.map_some, rl_eq]
          have hLl : (nats (rl (gr N) N.length d)).length = (rl (gr N) N.length d).length := by simp [nats]
          have hval : ∀ e, Reach (gr N) N.length d e -> lst (lnN s N (rchC (gr N) N.length c) e) D = if k = j then (1, 1) else (0, 1) := fun e he => by
           rw [ln_closed (not_open hdp he), hDe]
           by_cases hkj : k = j
           ·subst hkj
            rw [hd] at hc
            cases hc
            rw [if_pos (mem_pt.2 he), if_pos rfl, lst_self hD]
           ·have hdc : ¬ (e : Int) ∈ rchC (gr N) N.length c := fun hm => hkj (by
             have e1 := part_same hdp hcp he (mem_pt.1 hm)
             obtain ⟨q1, q2⟩ := List.getElem?_eq_some_iff.1 hd
             obtain ⟨q3, q4⟩ := List.getElem?_eq_some_iff.1 hc
             exact (List.getElem_inj firsts_nodup).1 (by rw [q2, q4, e1]))
            rw [if_neg hdc, if_neg hkj, lst_zero hD]
          have hLx : ∀ {t x : Nat}, (rl (gr N) N.length d)[t]? = some x -> (nats (rl (gr N) N.length d))[t]? = some (x : Int) /\ Reach (gr N) N.length d x := fun {t x} hx =>
           ⟨by unfold nats; rw [List.getElem?_map, hx]; rfl, mem_rl.1 (List.mem_of_getElem? hx)⟩
          have hLn := rl_len (g := gr N) (n := N.length) (c := d)
          generalize rl (gr N) N.length d = L at *
          simp only [c6r30, go_sem, true_implies]
          refine loop_rule (fun m τ => ∃ t : Nat, m = L.length - t /\ t <= L.length /\
           τ = ⟨(aN::aN::(.s (.ptr [.int .i64 s, intss N, ints p]))::aN::aN::(.s (intss (parts N)))::(aI N.length)::(aI i)::(.loc 0 0)::(aI j)::(.sl 1 0 N.length 2 false)::aN::aN::aN::aN::aN::(aI k)::(aI t)::aN::aN::aN::aN::aN::aN::aZ192), [.obj [aI (lst (S j) D).1, aI (lst (S j) D).2], .row ((twoR (lnL s N c N.length)).map (.int .i64)), .obj [aI y.1, aI y.2]]⟩) L.length rfl ?_ ?_
          ·simp only [c6l35m, go_sem, ↓reduceIte, reduceCtorEq, Nat.reduceAdd, Nat.reduceLeDiff]
           exact ⟨0, rfl, Nat.zero_le _, rfl⟩
          ·rintro I3 m τ ⟨t, rfl, ht, rfl⟩ hI3
           simp only [c6l35, c6r31, intss, ints, hpd, hLl, go_sem, ↓reduceIte, Nat.reduceAdd]
           intro _
           refine ⟨fun hlt3 => ?_, fun hge3 => ?_⟩
           ·obtain ⟨e, he⟩ : ∃ e, L[t]? = some e := ⟨_, List.getElem?_eq_getElem (by omega)⟩
            obtain ⟨he1, he2⟩ := hLx he
            have hel := he2.lt
            have hv := hval e he2
            have hpe := hpartA e hel
            rw [hv] at hpe
            by_cases hkj : k = j
            ·have b1 : ((k : Int) = j) = True := eq_true (by omega)
             rw [if_pos hkj] at hpe
             simp only [c6r32, b1, hpd, ints, he1, hpe, go_sem]
             refine ⟨hel, by omega, ?_⟩
             refine callK_of (by simp only [go_sem]) (k28 (a := 1) (b := 1)) (.inl rfl) ?_
             simp only [rat, b1, c6r34, c6l35m, go_sem, ↓reduceIte, reduceCtorEq, Nat.reduceAdd, Nat.reduceLeDiff, true_implies]
             exact ⟨inR_small (by omega) (by omega), hI3 (L.length - (t + 1)) _ (by omega) ⟨t + 1, rfl, by omega, rfl⟩⟩
            ·have b1 : ¬ (k : Int) = j := by omega
             rw [if_neg hkj] at hpe
             simp only [c6r32, b1, hpd, ints, he1, hpe, go_sem]
             refine ⟨hel, by omega, ?_⟩
             refine callK_of (by simp only [go_sem]) (k28 (a := 0) (b := 1)) (.inl rfl) ?_
             simp only [rat, c6r34, c6l35m, go_sem, ↓reduceIte, reduceCtorEq, Nat.reduceAdd, Nat.reduceLeDiff, true_implies]
             exact ⟨inR_small (by omega) (by omega), hI3 (L.length - (t + 1)) _ (by omega) ⟨t + 1, rfl, by omega, rfl⟩⟩
           ·simp only [c6r36, c6l37m, go_sem, ↓reduceIte, reduceCtorEq, Nat.reduceLeDiff, true_implies]
            exact ⟨inR_small (by omega) (by omega), hI2 ((parts N).length - (k + 1)) _ (by omega) ⟨k + 1, rfl, by omega, rfl⟩⟩
         ·have hadd := lst_add (T := S j) (P := lnN s N (rchC (gr N) N.length c) i) (D := D) (m := 1) hD
          rw [Int.one_mul, Int.one_mul, <- hSs hc, hxe] at hadd
          have q2 := hst _ (hSb (j + 1)).1 (by have := (hSb (j + 1)).2; omega)
          have q4 := hst _ (hSb j).1 (by have := (hSb j).2; omega)
          generalize lst (S j) D = u at *
          generalize hwe : lst (S (j + 1)) D = w at *
          have m1 := mul_le_nat (a := u.1) (b := x.2) (A := 160000) (B := 8000) (by omega) (by omega)
          have m2 := mul_le_nat (a := x.1) (b := u.2) (A := 160000) (B := 8000) (by omega) (by omega)
          have m3 := mul_le_nat (a := u.2) (b := x.2) (A := 8000) (B := 8000) (by omega) (by omega)
          have m5 : 0 < u.2 * x.2 := Int.mul_pos (by omega) (by omega)
          have hk31 := k31 (n := u.1 * x.2 + x.1 * u.2) (d := u.2 * x.2) (by omega) m5 (by omega)
          rw [hadd] at hk31
          have a3 : ¬ (64000000 : Int) < w.2 := by omega
          simp only [c6r38, g1, g2, Nat.add_zero, go_sem]
          refine ⟨hi, inR_abs (by omega), hi, inR_abs (by omega), inR_abs (by omega), hi, inR_abs (by omega), ?_⟩
          refine callK_of (by simp only [go_sem]) hk31 (.inl rfl) ?_
          simp only [rat, spl_two, c6r39, a3, c6r41, c6l42m, go_sem, ↓reduceIte, reduceCtorEq, Nat.reduceAdd, Nat.reduceLeDiff, true_implies]
          exact ⟨inR_small (by omega) (by omega), hI ((parts N).length - (j + 1)) _ (by omega) ⟨j + 1, rfl, by omega, by rw [hwe]; rfl⟩⟩
   ·have hje : j = (parts N).length := by omega
    subst hje
    rw [hSn, lst_self hD]
    simp only [c6r43, go_sem, Nat.reduceAdd]
    refine callK_of (by simp only [go_sem]) (k28 (a := 1) (b := 1)) (.inl rfl) ?_
    simp only [rat, go_sem]
    refine wk ?_
    simp only [go_sem, true_implies]
end Go.Proofs.Ytikfhfgdmlijeaa.Sk
