/- Contracts of the document's answer: how likely one comes to a closed part, or the error; periods. -/
import Derived.Test.YtikfhfgdmlijeaaGreatJ8

set_option linter.all false

namespace Go.Proofs.YtikfhfgdmlijeaaGreat.Sk
open Go Go.E Go.E.Sm
set_option maxRecDepth 10000
section
variable {s : Int} {N : List (List Int)} {p : List Int}
theorem k14 {state part : Int} : E.Fn Tryz.prog 14 [mc s N p, .int .i64 state, .int .i64 part] (landsR s N p state part) := by
 refine fn_of_row okf14 ?_;have h52 := k52 (s := s) (N := N) (p := p);unfold landsR;simp only [FRow.start, f14, c14r0, c14r1, mc, SV.cells, go_sem, Nat.reduceAdd, Nat.reduceSub, true_implies];refine callK_of rfl h52 (.inl rfl) ?_
 by_cases h0 : chkM s N p = 0
 ·rw [if_pos h0]
  have h := chkM_zero.1 h0;have h53 := k53 (s := s) (N := N) (p := p) h.n4 h.sq h.goOn;have hpl := parts_len (N := N);have hn4 := h.n4;have hlen : (parts N).length <= 2 ^ 62 := by omega
  simp only [h0, decide_true, c14r3, go_sem, Nat.reduceAdd, true_implies];refine callK_of rfl h53 (.inr (.inl rfl)) ?_
  have herr : ¬ ((0 <= state /\ state < N.length) /\ 0 <= part /\ part < (parts N).length) -> (if (0 <= state /\ state < N.length) /\ 0 <= part /\ part < (parts N).length then [rat (landsQ s N state (((parts N)[part.toNat]?).getD [])), SV.int .i64 0] else [rat (0, 0), .int .i64 2]) = [rat (0, 0), .int .i64 2] := fun h => if_neg h
  simp only [c14r4, intss, go_sem, Nat.reduceAdd, Nat.reduceLeDiff, true_implies];refine ⟨fun h1 => ?_, fun h1 => ⟨fun h2 _ => ?_, fun h2 => ⟨fun h3 _ => ?_, fun h3 _ => ⟨fun h4 => ?_, fun h4 => ?_⟩⟩⟩⟩
  ·rw [herr (by omega)]
   simp only [c14r5, rat, spl_two, frz_two', go_sem, Nat.reduceAdd, true_implies]
   done
  ·rw [herr (by omega)]
   simp only [c14r5, rat, spl_two, frz_two', go_sem, Nat.reduceAdd, true_implies]
   done
  ·rw [herr (by omega)]
   simp only [c14r5, rat, spl_two, frz_two', go_sem, Nat.reduceAdd, true_implies]
   done
  ·rw [herr (by omega)]
   simp only [c14r5, rat, spl_two, frz_two', go_sem, Nat.reduceAdd, true_implies]
   done
  ·rw [if_pos (by omega)]
   obtain ⟨st, rfl⟩ : ∃ st : Nat, state = st := ⟨state.toNat, by omega⟩
   obtain ⟨j, rfl⟩ : ∃ j : Nat, part = j := ⟨part.toNat, by omega⟩
   have hpf := parts_firsts (N := N);obtain ⟨c, hc⟩ : ∃ c, (firsts N)[j]? = some c := ⟨_, List.getElem?_eq_getElem (by omega)⟩
   have hk := k54 h (f := st) (by omega) hc
   have hpa : (parts N)[((j : Nat) : Int).toNat]?.getD [] = rchC (gr N) N.length c := by rw [Int.toNat_natCast, parts_eq, List.getElem?_map, hc]; rfl
   rw [hpa];simp only [c14r6, go_sem, Nat.reduceAdd];refine callK_of rfl hk (.inl rfl) ?_
   simp only [rat, spl_two, frz_two', go_sem, Nat.reduceAdd, true_implies]
   done
 ·rw [if_neg h0]
  simp only [h0, decide_false, c14r2, go_sem, Nat.reduceAdd, true_implies];refine callK_of rfl h52 (.inl rfl) ?_
  simp only [rat, spl_two, frz_two', go_sem, Nat.reduceAdd, true_implies]
  done
theorem mkB_eq {f : Nat -> Bool} {n B : Nat} (h : ∀ y, B.testBit y = true ↔ y < n /\ f y = true) : B = mkB f n := Nat.eq_of_testBit_eq fun y => by
 rw [Bool.eq_iff_iff, h, mkB_bit, Bool.and_eq_true, decide_eq_true_eq]
theorem tn_pos {N : List (List Int)} {i k : Nat} : gr N i k = decide (0 < tn N i k) := rfl
set_option maxHeartbeats 2000000 in
theorem k56 (h : OkN s N) {c : Nat} (hc : c < N.length) : E.Fn Tryz.prog 56 [mc s N p, .int .i64 c] [.int .i64 (perN (gr N) N.length c)] := by
 refine fn_of_row okf56 ?_;have hn4 := h.n4;have hn1 := h.n1;have hpw : 2 ^ N.length <= 2 ^ 4 := Nat.pow_le_pow_right (by decide) hn4
 have hp62 : (2 : Nat) ^ 4 < 2 ^ 62 := by decide
 have hc16 : 2 ^ c <= 2 ^ 4 := Nat.pow_le_pow_right (by decide) (by omega)
 obtain ⟨Hb, hHb⟩ : ∃ Hb : Nat -> Nat, ∀ t, Hb t = mkB (wkB (gr N) N.length c t) N.length := ⟨_, fun _ => rfl⟩
 have hHl : ∀ t, Hb t < 2 ^ N.length := fun t => by rw [hHb]; exact mkB_lt
 have hHt : ∀ t y, (Hb t).testBit y = true ↔ y < N.length /\ wkB (gr N) N.length c t y = true := fun t y => by
  rw [hHb, mkB_bit, Bool.and_eq_true, decide_eq_true_eq]
 have hH0 : Hb 0 = 2 ^ c := by
  rw [hHb];refine (mkB_eq fun y => ?_).symm
  rw [bit_two, wkB];exact ⟨fun e => ⟨by omega, by rw [<- e]; exact Nat.beq_refl _⟩, fun ⟨_, e⟩ => (Nat.eq_of_beq_eq_true e).symm⟩
 have hper : ∀ m, perT (gr N) N.length c m <= m := fun m => by
  induction m with
  | zero => exact Nat.le_refl _
  | succ m ih =>
   rw [perT]
   split
   ·exact Nat.gcd_le_right _ (by omega)
   ·omega
 have hps : ∀ m, perT (gr N) N.length c (m + 1) = if wkB (gr N) N.length c (m + 1) c then Nat.gcd (perT (gr N) N.length c m) (m + 1) else perT (gr N) N.length c m := fun m => rfl
 have hws : ∀ t y, wkB (gr N) N.length c (t + 1) y = true ↔ ∃ i, i < N.length /\ wkB (gr N) N.length c t i = true /\ gr N i y = true := fun t y => by
  rw [wkB, List.any_eq_true];constructor
  ·rintro ⟨i, h1, h2⟩
   rw [Bool.and_eq_true] at h2;exact ⟨i, List.mem_range.1 h1, h2.1, h2.2⟩
  ·rintro ⟨i, h1, h2, h3⟩
   exact ⟨i, List.mem_range.2 h1, by rw [h2, h3]; rfl⟩
 have hpN : perN (gr N) N.length c = perT (gr N) N.length c 12 := rfl;rw [hpN];simp only [FRow.start, f56, c56r0, c56r1, c56r2, c56r3, mc, SV.cells, go_sem, Nat.reduceAdd, Nat.reduceSub, true_implies];rw [shl_nat];refine ⟨by omega, inR_small (Int.natCast_nonneg _) (by omega), ?_⟩
 refine loop_rule (fun m τ => ∃ t : Nat, m = 12 - t /\ t <= 12 /\
  τ = ⟨(aN::(aI c)::(.s (.ptr [.int .i64 s, intss N, ints p]))::aN::aN::(aI (Hb t : Nat))::(aI (perT (gr N) N.length c t : Nat))::(aI (t + 1))::aN::aN::aN::aN::aN::aZ48), []⟩) 12 rfl ?_ ?_
 ·simp only [c56l20m, go_sem]
  exact ⟨0, rfl, Nat.zero_le _, by rw [hH0]; rfl⟩
 ·rintro I m τ ⟨t, rfl, ht, rfl⟩ hI
  simp only [c56l20, c56r4, go_sem, ↓reduceIte, true_implies];refine ⟨fun hlt => ?_, fun hge => ?_⟩
  ·have hlt : t < 12 := by omega
   have hHtl := hHl t;have hHt2 := hHl (t + 1);simp only [c56r5, c56r6, go_sem, true_implies]
   refine loop_rule (fun m τ => ∃ i B : Nat, m = N.length - i /\ i <= N.length /\ B < 2 ^ N.length /\ (∀ y, B.testBit y = true ↔ y < N.length /\ ∃ j, j < i /\ wkB (gr N) N.length c t j = true /\ gr N j y = true) /\
    τ = ⟨(aN::(aI c)::(.s (.ptr [.int .i64 s, intss N, ints p]))::aN::aN::(aI (Hb t : Nat))::(aI (perT (gr N) N.length c t : Nat))::(aI (t + 1))::(aI B)::(aI i)::aN::aN::aN::aZ48), []⟩) N.length rfl ?_ ?_
   ·simp only [c56l15m, go_sem]
    exact ⟨0, 0, rfl, Nat.zero_le _, Nat.two_pow_pos _, fun y => by simp, rfl⟩
   ·rintro I2 m τ ⟨i, B, rfl, hi, hB, hBt, rfl⟩ hI2
    simp only [c56l15, c56r7, intss, go_sem, ↓reduceIte, Nat.reduceAdd, Nat.reduceLeDiff];intro _;refine ⟨fun hlt2 => ?_, fun hge2 => ?_⟩
    ·have hxN : N[i]? = some N[i] := List.getElem?_eq_getElem hlt2
     have hl := h.sq _ (List.getElem_mem hlt2);have htn : ∀ k, tn N i k = (N[i][k]?).getD 0 := fun k => by unfold tn; rw [hxN]; rfl
     generalize N[i] = row at hxN hl htn;simp only [c56r8, go_sem, true_implies]
     refine loop_rule (fun m τ => ∃ k B : Nat, m = N.length - k /\ k <= N.length /\ B < 2 ^ N.length /\ (∀ y, B.testBit y = true ↔ y < N.length /\ ((∃ j, j < i /\ wkB (gr N) N.length c t j = true /\ gr N j y = true) \/ (y < k /\ wkB (gr N) N.length c t i = true /\ gr N i y = true))) /\
      τ = ⟨(aN::(aI c)::(.s (.ptr [.int .i64 s, intss N, ints p]))::aN::aN::(aI (Hb t : Nat))::(aI (perT (gr N) N.length c t : Nat))::(aI (t + 1))::(aI B)::(aI i)::(aI k)::aN::aN::aZ48), []⟩) N.length rfl ?_ ?_
     ·simp only [c56l13m, go_sem]
      exact ⟨0, B, rfl, Nat.zero_le _, hB, fun y => by rw [hBt]; simp, rfl⟩
     ·rintro I3 m τ ⟨k, B3, rfl, hk, hB3, hBt3, rfl⟩ hI3
      simp only [c56l13, c56r9, intss, go_sem, ↓reduceIte, Nat.reduceAdd, Nat.reduceLeDiff];intro _;refine ⟨fun hlt3 => ?_, fun hge3 => ?_⟩
      ·obtain ⟨z, hz⟩ : ∃ z, row[k]? = some z := ⟨_, List.getElem?_eq_getElem (by omega)⟩
       have hg : gr N i k = decide (0 < z) := by rw [tn_pos, htn, hz]; rfl
       have hin : inR .i64 ((k : Int) + 1) := inR_small (by omega) (by omega)
       have hstay : ¬ (wkB (gr N) N.length c t i = true /\ gr N i k = true) -> ∀ y, B3.testBit y = true ↔ y < N.length /\ ((∃ j, j < i /\ wkB (gr N) N.length c t j = true /\ gr N j y = true) \/ (y < k + 1 /\ wkB (gr N) N.length c t i = true /\ gr N i y = true)) := fun hno y => by
        rw [hBt3];refine and_congr_right fun _ => or_congr_right ?_
        constructor
        ·exact fun h => ⟨by omega, h.2⟩
        ·rintro ⟨h1, h2⟩
         refine ⟨?_, h2⟩
         by_cases e : y = k
         ·subst e; exact absurd h2 hno
         ·omega
       simp only [c56r10, go_sem, Nat.reduceAdd, Nat.reduceLeDiff, true_implies];refine ⟨by omega, ?_⟩
       rw [low_bit (by omega)]
       by_cases hb : (Hb t).testBit i = true
       ·have hwk := ((hHt t i).1 hb).2
        rw [if_pos hb];simp only [decide_true, hxN, ints, hz, go_sem, not_true_eq_false, false_implies, true_implies];refine ⟨fun hpos => ?_, fun hnp => ?_⟩
        ·have hk16 : 2 ^ k <= 2 ^ 4 := Nat.pow_le_pow_right (by decide) (by omega)
         have hor : B3 ||| 2 ^ k < 2 ^ N.length := Nat.or_lt_two_pow hB3 (Nat.pow_lt_pow_right (by decide) hlt3)
         simp only [c56r11, go_sem, true_implies];rw [shl_nat, bit_or (by omega) (by omega)]
         refine ⟨by omega, inR_small (Int.natCast_nonneg _) (by omega), ?_⟩
         simp only [c56r12, c56l13m, go_sem, true_implies];refine ⟨hin, hI3 (N.length - (k + 1)) _ (by omega) ⟨k + 1, _, rfl, by omega, hor, fun y => ?_, rfl⟩⟩
         rw [Nat.testBit_or, Bool.or_eq_true, hBt3, bit_two];constructor
         ·rintro (⟨h1, h2 | h2⟩ | rfl)
          ·exact ⟨h1, .inl h2⟩
          ·exact ⟨h1, .inr ⟨by omega, h2.2⟩⟩
          ·exact ⟨hlt3, .inr ⟨by omega, hwk, by rw [hg, decide_eq_true hpos]⟩⟩
         ·rintro ⟨h1, h2 | h2⟩
          ·exact .inl ⟨h1, .inl h2⟩
          ·by_cases e : k = y
           ·exact .inr e
           ·exact .inl ⟨h1, .inr ⟨by omega, h2.2⟩⟩
        ·simp only [c56r12, c56l13m, go_sem, true_implies]
         exact ⟨hin, hI3 (N.length - (k + 1)) _ (by omega) ⟨k + 1, B3, rfl, by omega, hB3, hstay fun e => by rw [hg, decide_eq_false hnp] at e; exact absurd e.2 (by simp), rfl⟩⟩
       ·have hwk : ¬ wkB (gr N) N.length c t i = true := fun e => hb ((hHt t i).2 ⟨hlt2, e⟩)
        rw [if_neg hb];simp only [Int.reduceEq, decide_false, c56r12, c56l13m, go_sem, false_implies, true_implies, not_false_eq_true];exact ⟨hin, hI3 (N.length - (k + 1)) _ (by omega) ⟨k + 1, B3, rfl, by omega, hB3, hstay fun e => hwk e.1, rfl⟩⟩
      ·have hke : k = N.length := by omega
       subst hke;simp only [c56r14, c56l15m, go_sem, true_implies];refine ⟨inR_small (by omega) (by omega), hI2 (N.length - (i + 1)) _ (by omega) ⟨i + 1, B3, rfl, by omega, hB3, fun y => ?_, rfl⟩⟩
       rw [hBt3];refine and_congr_right fun hy => ?_
       constructor
       ·rintro (⟨j, h1, h2⟩ | h2)
        ·exact ⟨j, by omega, h2⟩
        ·exact ⟨i, by omega, h2.2⟩
       ·rintro ⟨j, h1, h2⟩
        by_cases e : j = i
        ·subst e; exact .inr ⟨hy, h2⟩
        ·exact .inl ⟨j, by omega, h2⟩
    ·have hie : i = N.length := by omega
     subst hie
     have hBe : B = Hb (t + 1) := by
      rw [hHb];refine mkB_eq fun y => ?_
      rw [hBt, hws]
     subst hBe;have hpt := hper t;have hpt1 := hps t;have hk34 : E.Fn Tryz.prog 34 [.int .i64 (perT (gr N) N.length c t : Nat), .int .i64 ((t : Int) + 1)] [.int .i64 (Nat.gcd (perT (gr N) N.length c t) (t + 1) : Nat)] := k34 (t + 1) (perT (gr N) N.length c t) (by omega) (by omega)
     have hbit := hHt (t + 1) c;simp only [c56r16, c56r17, go_sem, true_implies];refine ⟨by omega, ?_⟩
     rw [low_bit (by omega)]
     by_cases hb : (Hb (t + 1)).testBit c = true
     ·rw [if_pos (hbit.1 hb).2] at hpt1
      rw [if_pos hb];simp only [decide_true, c56r18, go_sem, not_true_eq_false, false_implies, true_implies];refine callK_of (by simp only [go_sem]) hk34 (.inl rfl) ?_
      simp only [c56r19, c56l20m, go_sem, true_implies];exact ⟨inR_small (by omega) (by omega), hI (12 - (t + 1)) _ (by omega) ⟨t + 1, rfl, by omega, by rw [hpt1]; rfl⟩⟩
     ·rw [if_neg fun e => hb (hbit.2 ⟨hc, e⟩)] at hpt1
      rw [if_neg hb];simp only [Int.reduceEq, decide_false, c56r19, c56l20m, go_sem, false_implies, true_implies, not_false_eq_true];exact ⟨inR_small (by omega) (by omega), hI (12 - (t + 1)) _ (by omega) ⟨t + 1, rfl, by omega, by rw [hpt1]; rfl⟩⟩
  ·have hte : t = 12 := by omega
   subst hte;simp only [c56r21, go_sem, true_implies]
   done
theorem k16 {part : Int} : E.Fn Tryz.prog 16 [mc s N p, .int .i64 part] (perR s N p part) := by
 refine fn_of_row okf16 ?_;have h52 := k52 (s := s) (N := N) (p := p);unfold perR;simp only [FRow.start, f16, c16r0, c16r1, mc, SV.cells, go_sem, Nat.reduceAdd, Nat.reduceSub, true_implies];refine callK_of rfl h52 (.inl rfl) ?_
 by_cases h0 : chkM s N p = 0
 ·rw [if_pos h0]
  have h := chkM_zero.1 h0;have h53 := k53 (s := s) (N := N) (p := p) h.n4 h.sq h.goOn;have hpl := parts_len (N := N);have hn4 := h.n4;simp only [h0, decide_true, c16r3, go_sem, Nat.reduceAdd, true_implies];refine callK_of rfl h53 (.inr (.inl rfl)) ?_
  simp only [c16r4, intss, go_sem, true_implies];refine ⟨fun h1 => ?_, fun h1 _ => ⟨fun h2 => ?_, fun h2 => ?_⟩⟩
  ·rw [if_neg (by omega)]
   simp only [c16r5, go_sem, true_implies]
   done
  ·rw [if_neg (by omega)]
   simp only [c16r5, go_sem, true_implies]
   done
  ·rw [if_pos (by omega)]
   obtain ⟨j, rfl⟩ : ∃ j : Nat, part = j := ⟨part.toNat, by omega⟩
   rw [Int.toNat_natCast];obtain ⟨hpc, hpe⟩ := partC_pc (N := N) (m := j) (by omega)
   obtain ⟨l, hl⟩ := rchC_head hpc;rw [hl] at hpe;have hk := k56 (p := p) h.toOkN (isPC_iff.1 hpc).1.lt;simp only [c16r6, hpe, ints, List.map_cons, List.getElem?_cons_zero, go_sem, Nat.reduceAdd, Int.reduceToNat];refine callK_of (by simp only [ints, mc, intss, go_sem]) hk (.inl rfl) ?_
   simp only [go_sem, true_implies]
   done
 ·rw [if_neg h0]
  simp only [h0, decide_false, c16r2, go_sem, Nat.reduceAdd, true_implies];refine callK_of rfl h52 (.inl rfl) ?_
  simp only [go_sem, true_implies]
  done
end
end Go.Proofs.YtikfhfgdmlijeaaGreat.Sk
namespace Go.Proofs.YtikfhfgdmlijeaaGreat.Sk
open Go Go.E
def c3r0 : LO := [oP 3 (.boxS (.t 0)),oP 6 (.mov bF)]
def c3r1 : LO := [oP 15 (.load 3 true (.t 3)),oP 16 (.call 11 [(.t 15)])]
def c3r2 : LO := [oP 17 (.call 12 []),oM 6 17]
def c3r3 : LO := [oP 19 (.load 3 true (.t 3)),oM 20 1,oM 21 2,oP 22 (.call 13 [(.t 19), (.t 20), (.t 21)]),oM 18 22,oP 23 (.ext (.t 18) 0),oP 24 (.ext (.t 18) 1),oP 7 (.alloc [(.s (.int .i64 0)), (.s (.int .i64 0))]),⟨none, none, .store 2 (.t 7) (.t 23)⟩,oM 8 24]
def c3r4 : LO := [oP 26 (.load 3 true (.t 3)),oM 27 1,oM 28 2,oP 29 (.call 14 [(.t 26), (.t 27), (.t 28)]),oM 25 29,oP 30 (.ext (.t 25) 0),oP 31 (.ext (.t 25) 1),oP 9 (.alloc [(.s (.int .i64 0)), (.s (.int .i64 0))]),⟨none, none, .store 2 (.t 9) (.t 30)⟩,oM 10 31]
def c3r5 : LO := [oP 33 (.load 3 true (.t 3)),oM 34 2,oP 35 (.call 15 [(.t 33), (.t 34)]),oM 32 35,oP 36 (.ext (.t 32) 0),oP 37 (.ext (.t 32) 1),oM 11 36,oM 12 37]
def c3r6 : LO := [oP 39 (.load 3 true (.t 3)),oM 40 2,oP 41 (.call 16 [(.t 39), (.t 40)]),oM 38 41,oP 42 (.ext (.t 38) 0),oP 43 (.ext (.t 38) 1),oM 13 42,oM 14 43]
def c3r7 : LO := [oP 44 (.load 2 true (.t 7)),oP 45 (.load 2 true (.t 9)),oP 46 (.eql true [(.int .i64), (.int .i64)] false (.t 44) (.t 45)),oM 47 46,oH 48 47 true 8,oH 49 47 true 10,oG 50 47 true (.cmp .eql (.t 48) (.t 49)),oP 51 (.pick (.t 47) (.t 50) bF),oM 52 51,oH 53 52 true 11,oH 54 52 true 13,oG 55 52 true (.cmp .eql (.t 53) (.t 54)),oP 56 (.pick (.t 52) (.t 55) bF),oM 57 56,oH 58 57 true 12,oH 59 57 true 14,oG 60 57 true (.cmp .eql (.t 58) (.t 59)),oP 61 (.pick (.t 57) (.t 60) bF),oM 62 61,oG 63 62 true (.call 12 []),oP 64 (.pick (.t 62) (.t 63) bF),oM 6 64]
def f3 : FRow := ⟨(sR c3r0 (.seq (sR c3r1 (.cond (.t 16) (sR c3r2 .ret) .skip)) (.seq (.reg 1 c3r3) (.seq (.reg 1 c3r4) (sR c3r5 (sR c3r6 (sR c3r7 .ret))))))), [.tmp 6], 65⟩
theorem okf3 : f3.Ok Tryz.prog 3 := ⟨_, _, Tryz.func3, rfl, by kernel_rfl, by kernel_rfl, by kernel_rfl⟩
end Go.Proofs.YtikfhfgdmlijeaaGreat.Sk
namespace Go.Proofs.YtikfhfgdmlijeaaGreat.Sk
open Go Go.E Go.E.Sm
set_option maxRecDepth 10000
theorem lands_form {s : Int} {N : List (List Int)} {p : List Int} {a b : Int} : ∃ q e, landsR s N p a b = [rat q, .int .i64 e] := by
 unfold landsR
 split
 ·split
  ·exact ⟨_, _, rfl⟩
  ·exact ⟨_, _, rfl⟩
 ·exact ⟨_, _, rfl⟩
theorem per_form {s : Int} {N : List (List Int)} {p : List Int} {b : Int} : ∃ d e : Int, perR s N p b = [.int .i64 d, .int .i64 e] := by
 unfold perR
 split
 ·split
  ·exact ⟨_, _, rfl⟩
  ·exact ⟨_, _, rfl⟩
 ·exact ⟨_, _, rfl⟩
theorem law3 {s : Int} {N : List (List Int)} {p : List Int} {a b : Int} : E.Fn Tryz.prog 3 [mc s N p, .int .i64 a, .int .i64 b] [.bool true] := by
 refine fn_of_row okf3 ?_;have h13 := k13 (s := s) (N := N) (p := p) (state := a) (part := b);have h14 := k14 (s := s) (N := N) (p := p) (state := a) (part := b);have h15 := k15 (s := s) (N := N) (p := p) (part := b);have h16 := k16 (s := s) (N := N) (p := p) (part := b);obtain ⟨q, e, hq⟩ := lands_form (s := s) (N := N) (p := p) (a := a) (b := b);obtain ⟨d, e2, hd⟩ := per_form (s := s) (N := N) (p := p) (b := b);rw [hq] at h13 h14;rw [hd] at h15 h16;simp only [FRow.start, f3, c3r0, c3r1, mc, SV.cells, go_sem, Nat.reduceAdd, Nat.reduceSub, true_implies];refine callK_of rfl (k11 (s := s) (N := N) (p := p)) (.inl rfl) ?_
 cases hg : greatB N p with
 | true =>
  simp only [c3r2, go_sem, true_implies];refine wk ?_;simp only [go_sem, true_implies]
 | false =>
  simp only [c3r3, go_sem, Nat.reduceAdd, true_implies];refine callK_of rfl h13 (.inl rfl) ?_
  simp only [rat, spl_two, c3r4, go_sem, Nat.reduceAdd, true_implies];refine callK_of rfl h14 (.inl rfl) ?_
  simp only [rat, spl_two, c3r5, go_sem, Nat.reduceAdd, true_implies];refine callK_of rfl h15 (.inl rfl) ?_
  simp only [c3r6, go_sem, Nat.reduceAdd, true_implies];refine callK_of rfl h16 (.inl rfl) ?_
  simp only [c3r7, decide_true, go_sem, Nat.reduceAdd, true_implies];refine wk ?_;simp only [go_sem, true_implies]
end Go.Proofs.YtikfhfgdmlijeaaGreat.Sk
