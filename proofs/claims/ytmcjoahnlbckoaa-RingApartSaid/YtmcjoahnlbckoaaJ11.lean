/- The examples of the chapter hold. -/
import Derived.Test.YtmcjoahnlbckoaaJ10

set_option linter.all false

namespace Go.Proofs.Ytmcjoahnlbckoaa.Sk
open Go Go.E
def KB : List (Int × Int) := [(1, 4), (3, 6), (6, 8), (2, 3)]
def QB : List (Int × Int) := [(0, 2)]
def KC : List (Int × Int) := [(0, 0), (10, 10), (20, 20), (30, 30), (40, 40)]
def QC : List (Int × Int) := [(0, 1), (0, 4), (1, 2), (2, 3), (3, 4)]
def exB : SV := bk KB QB
def exC : SV := bk KC QC
def crcC : List (List Int) := crcs (clsh KC QC) KC.length KC.length
def circC : List Int := match crcC with | [] => [] | c :: cs => bestF shoB c cs
def ckRd (K Q : List (Int × Int)) (rings : List Int) : Int × Int :=
 if ckB K Q = 0 then (if rings.length = K.length then (if withinB 0 7 rings = true then (if ∃ p ∈ clsh K Q, rg rings p.1 = rg rings p.2 then (0, 23) else ((dn [] rings : Nat), 0)) else (0, 3)) else (0, 15)) else (0, ckB K Q)
theorem ckR_dn {K Q : List (Int × Int)} {rings : List Int} : ckR K Q rings = ckRd K Q rings := by unfold ckR ckRd; rw [cpt_dn]
theorem w0 : E.Fn Try.prog 25 [exB, .int .i64 0, .int .i64 2] [.int .i64 23] := by
 have h := k25 (K := KB) (Q := QB) (one := 0) (two := 2)
 rw [show pairE KB QB 0 2 = 23 by decide +kernel] at h
 exact h
theorem w1 : E.Fn Try.prog 25 [exB, .int .i64 2, .int .i64 3] [.int .i64 0] := by
 have h := k25 (K := KB) (Q := QB) (one := 2) (two := 3)
 rw [show pairE KB QB 2 3 = 0 by decide +kernel] at h
 exact h
theorem w2 : E.Fn Try.prog 25 [exB, .int .i64 1, .int .i64 1] [.int .i64 2] := by
 have h := k25 (K := KB) (Q := QB) (one := 1) (two := 1)
 rw [show pairE KB QB 1 1 = 2 by decide +kernel] at h
 exact h
theorem w3 : E.Fn Try.prog 25 [exB, .int .i64 1, .int .i64 2] [.int .i64 23] := by
 have h := k25 (K := KB) (Q := QB) (one := 1) (two := 2)
 rw [show pairE KB QB 1 2 = 23 by decide +kernel] at h
 exact h
theorem w4 : E.Fn Try.prog 19 [exB, .slice [.int .i64 5, .int .i64 1, .int .i64 0, .int .i64 0]] [.int .i64 3, .int .i64 0] := by
 have h := k19 (K := KB) (Q := QB) (rings := [5, 1, 0, 0])
 rw [ckR_dn, show ckRd KB QB [5, 1, 0, 0] = (3, 0) by decide +kernel] at h
 exact h
theorem w5 : E.Fn Try.prog 19 [exB, .slice [.int .i64 0, .int .i64 1, .int .i64 1, .int .i64 2]] [.int .i64 0, .int .i64 23] := by
 have h := k19 (K := KB) (Q := QB) (rings := [0, 1, 1, 2])
 rw [ckR_dn, show ckRd KB QB [0, 1, 1, 2] = (0, 23) by decide +kernel] at h
 exact h
theorem w10 : E.Fn Try.prog 27 [exC] [.int .i64 3, .int .i64 0] := by
 have h := k27 (K := KC) (Q := QC)
 rw [show fewR KC QC = (3, 0) by decide +kernel] at h
 exact h
theorem w11 : E.Fn Try.prog 29 [exB] [.slice [.int .i64 0, .int .i64 1, .int .i64 2, .int .i64 2], .int .i64 0] := by
 have h := k29 (K := KB) (Q := QB)
 unfold rngR at h
 rw [if_pos (by decide +kernel), show rngs (clsh KB QB) KB.length = [0, 1, 2, 2] by decide +kernel] at h
 exact h
theorem w12 : E.Fn Try.prog 29 [exC] [.slice [.int .i64 0, .int .i64 1, .int .i64 0, .int .i64 1, .int .i64 2], .int .i64 0] := by
 have h := k29 (K := KC) (Q := QC)
 unfold rngR at h
 rw [if_pos (by decide +kernel), show rngs (clsh KC QC) KC.length = [0, 1, 0, 1, 2] by decide +kernel] at h
 exact h
theorem w13 : E.Fn Try.prog 31 [exB, .int .i64 4] [.int .i64 48, .int .i64 0] := by
 have h := k31 (K := KB) (Q := QB) (m := 4)
 rw [show couR KB QB 4 = (48, 0) by decide +kernel] at h
 exact h
theorem w14 : E.Fn Try.prog 31 [exC, .int .i64 3] [.int .i64 30, .int .i64 0] := by
 have h := k31 (K := KC) (Q := QC) (m := 3)
 rw [show couR KC QC 3 = (30, 0) by decide +kernel] at h
 exact h
theorem w15 : E.Fn Try.prog 31 [exC, .int .i64 9] [.int .i64 0, .int .i64 2] := by
 have h := k31 (K := KC) (Q := QC) (m := 9)
 rw [show couR KC QC 9 = (0, 2) by decide +kernel] at h
 exact h
theorem w19 : E.Fn Try.prog 34 [exB] [.slice [.int .i64 0, .int .i64 1, .int .i64 2], .int .i64 0] := by
 have h := k34 (K := KB) (Q := QB)
 unfold grpR at h
 rw [if_pos (by decide +kernel), show gst (clsh KB QB) KB.length (KB.length + 1) [] 0 = [0, 1, 2] by decide +kernel] at h
 exact h
theorem w21 : E.Fn Try.prog 38 [exB, .slice [.int .i64 2, .int .i64 3]] [.int .i64 14] := by
 have h := k38 (K := KB) (Q := QB) (keys := [2, 3])
 rw [show ckG KB QB [2, 3] = 14 by decide +kernel] at h
 exact h
theorem w22 : E.Fn Try.prog 38 [exB, .slice []] [.int .i64 3] := by
 have h := k38 (K := KB) (Q := QB) (keys := [])
 rw [show ckG KB QB [] = 3 by decide +kernel] at h
 exact h
theorem w24 : E.Fn Try.prog 40 [exC, .slice [.int .i64 0, .int .i64 1, .int .i64 2]] [.int .i64 14] := by
 have h := k40 (K := KC) (Q := QC) (keys := [0, 1, 2]) (by decide)
 rw [show ckC KC QC [0, 1, 2] = 14 by decide +kernel] at h
 exact h
theorem w25 : E.Fn Try.prog 40 [exC, .slice [.int .i64 0, .int .i64 1]] [.int .i64 16] := by
 have h := k40 (K := KC) (Q := QC) (keys := [0, 1]) (by decide)
 rw [show ckC KC QC [0, 1] = 16 by decide +kernel] at h
 exact h
theorem w28 : E.Fn Try.prog 36 [exC] [ints circC, .int .i64 0] := by
 have h := k36 (K := KC) (Q := QC)
 unfold cirR at h
 rw [if_pos (by decide +kernel), show crcs (clsh KC QC) KC.length KC.length = crcC by decide +kernel] at h
 exact h
theorem w29 : E.Fn Try.prog 41 [exC, ints circC] [.int .i64 0] := by
 have h := k41 (K := KC) (Q := QC) (keys := circC)
 rw [show ckC KC QC circC = 0 by decide +kernel] at h
 exact h
theorem w30 : E.Fn Try.prog 21 [exB] [.int .i64 3, .int .i64 3, .int .i64 0] := by
 have h := k21 (K := KB) (Q := QB)
 unfold dayR at h
 rw [if_pos (by decide +kernel), show (dayK KB).1 = 3 by decide +kernel, show outC KB 3 = 3 by decide +kernel] at h
 exact h
theorem w32 : E.Fn Try.prog 43 [exB, .int .i64 2, .int .i64 3] [.int .i64 2, .int .i64 0] := by
 have h := k43 (K := KB) (Q := QB) (one := 2) (two := 3)
 rw [show kndR KB QB 2 3 = (2, 0) by decide +kernel] at h
 exact h
theorem w33 : E.Fn Try.prog 43 [exC, .int .i64 0, .int .i64 2] [.int .i64 1, .int .i64 0] := by
 have h := k43 (K := KC) (Q := QC) (one := 0) (two := 2)
 rw [show kndR KC QC 0 2 = (1, 0) by decide +kernel] at h
 exact h
end Go.Proofs.Ytmcjoahnlbckoaa.Sk

/- The examples of the chapter: books, and that all hold. -/
namespace Go.Proofs.Ytmcjoahnlbckoaa.Sk
open Go Go.E Go.E.Sm
set_option maxRecDepth 10000
theorem k56 {l : List Int} : E.Fn Try.prog 56 [ints l] [ints l] := by
 refine fn_of_row okf56 ?_
 simp only [FRow.start, f56, c56r0, c56r1, ints, go_sem, Nat.reduceSub]
def twoL (K : List (Int × Int)) : List Int := K.flatMap fun p => [p.1, p.2]
theorem twoL_len {K : List (Int × Int)} : (twoL K).length = 2 * K.length := by
 induction K with
 | nil => rfl
 | cons p K ih => simp only [twoL, List.flatMap_cons, List.length_append, List.length_cons, List.length_nil] at *; omega
theorem twoL_get {K : List (Int × Int)} : ∀ {i : Nat} {p : Int × Int}, K[i]? = some p -> (twoL K)[2 * i]? = some p.1 /\ (twoL K)[2 * i + 1]? = some p.2 := by
 induction K with
 | nil => intro i p h; cases h
 | cons q K ih =>
  intro i p h
  cases i with
  | zero => simp only [List.getElem?_cons_zero, Option.some.injEq] at h; subst h; exact ⟨rfl, rfl⟩
  | succ i =>
   have := ih (i := i) (by simpa using h)
   simp only [twoL, List.flatMap_cons] at this ⊢
   rw [show 2 * (i + 1) = (2 * i) + 2 by omega, show 2 * i + 2 + 1 = (2 * i + 1) + 2 by omega]
   simpa using this
theorem twoL_map {K : List (Int × Int)} : (twoL K).map (SV.int .i64) = flatE (K.map pr) := by
 induction K with
 | nil => rfl
 | cons p K ih =>
  simp only [twoL, flatE, List.flatMap_cons, List.map_append, List.map_cons, List.map_nil, List.flatten_cons, pr, SV.cells] at *
  rw [ih]
theorem twoL_snoc {K : List (Int × Int)} {p : Int × Int} : twoL (K ++ [p]) = twoL K ++ [p.1, p.2] := by
 unfold twoL; rw [List.flatMap_append]; rfl
theorem chunk_two : ∀ (K : List (Int × Int)), chunk 2 K.length ((twoL K).map (SV.int .i64)) = K.map pr
 | [] => rfl
 | p :: K => by
  have := chunk_two K
  simp only [twoL, List.flatMap_cons, List.map_append, List.length_cons, List.map_cons, List.map_nil] at this ⊢
  rw [chunk]
  simp only [List.cons_append, List.nil_append, List.take_succ_cons, List.take_zero, List.drop_succ_cons, List.drop_zero]
  rw [this]; rfl
theorem promo_cell2 {σ : AState} {b d o off sz : Nat} {cs : List LV} (h : fget σ.fr d = .loc b o) (hB : σ.hp[b]? = some (.obj cs)) (hc : cs[o + off]? = some (.full [])) :
  promote [(d, some off, sz)] σ = { fr := σ.fr, hp := σ.hp.set b (.obj (cs.set (o + off) (.sl σ.hp.length 0 0 (sz + 1) false))) ++ [.row []] } := by
 simp only [promote, promote1, h, hB, hc]
theorem one_pr {p : Int × Int} : ∀ e ∈ [SV.agg [.int .i64 p.1, .int .i64 p.2]], e.cells.length = 2 := by
 intro e he
 rw [List.mem_singleton] at he
 subst he; rfl
theorem k87 {K : List (Int × Int)} (hk : K.length <= 100) : E.Fn Try.prog 87 [ints (twoL K)] [bk K []] := by
 refine fn_of_row okf87 ?_
 have hl := twoL_len (K := K)
 simp only [FRow.start, f87, c87r0, c87r1, c87r2, ints, go_sem, Nat.reduceAdd, Nat.reduceSub]
 refine loop_rule (fun n τ => ∃ i : Nat, n = K.length - i /\ i <= K.length /\
  τ = ⟨[.s (ints (twoL K)), .any, .loc 0 0, .loc 1 0, .s (.int .i64 ((2 * i : Nat) : Int)), .any, .any, .any, .any, .any, .any, .any, .any, .any, .any, .any, .any, .any, .any, .any, .any, .any, .any, .any, .any, .any, .any, .any], [.obj [.full [], .full []], .obj [.sl 2 0 i 2 false, .full []], .row ((twoL (K.take i)).map (.int .i64))]⟩) K.length (promo_cell2 rfl rfl rfl) ?_ ?_
 ·simp only [c87l6m, go_sem, ↓reduceIte, reduceCtorEq, Nat.reduceAdd, Nat.reduceLeDiff]
  exact ⟨0, rfl, Nat.zero_le _, rfl⟩
 ·rintro I n τ ⟨i, rfl, hi, rfl⟩ hI
  have hin : inR .i64 (((2 * i : Nat) : Int) + 1) := inR_small (by omega) (by omega)
  have e1 : ((2 * i : Nat) : Int) + 1 = ((2 * i + 1 : Nat) : Int) := rfl
  simp only [c87l6, c87r3, ints, go_sem, ↓reduceIte, Nat.reduceAdd]
  refine ⟨hin, fun _ => ?_⟩
  refine ⟨fun hlt => ?_, fun hge => ?_⟩
  ·have hlt : i < K.length := by omega
   have hx : K[i]? = some K[i] := List.getElem?_eq_getElem hlt
   obtain ⟨h1, h2⟩ := twoL_get hx
   have hts : twoL (K.take (i + 1)) = twoL (K.take i) ++ [K[i].1, K[i].2] := by rw [List.take_succ, hx]; exact twoL_snoc
   have htl : (twoL (K.take i)).length = i * 2 := by rw [twoL_len, List.length_take]; omega
   generalize K[i] = p at hx h1 h2 hts
   simp only [c87r4, h1, h2, e1, splice, SV.cells, Nat.reduceBEq, Bool.false_eq_true, go_sem, ↓reduceIte, Nat.reduceAdd, Nat.reduceLeDiff, Nat.reduceMul]
   refine ⟨hin, by decide, by decide, rfl, one_pr, one_pr, htl.symm, by omega, by omega, ?_⟩
   simp only [c87r5, c87l6m, go_sem, ↓reduceIte, reduceCtorEq, Nat.reduceLeDiff]
   have e2 : (twoL (K.take i)).map (SV.int .i64) ++ flatE [SV.agg [.int .i64 p.1, .int .i64 p.2]] = (twoL (K.take (i + 1))).map (SV.int .i64) := by rw [hts, List.map_append]; rfl
   rw [e2]
   exact ⟨inR_small (by omega) (by omega), hI (K.length - (i + 1)) _ (by omega) ⟨i + 1, rfl, by omega, rfl⟩⟩
  ·have hie : i = K.length := by omega
   subst hie
   rw [List.take_length]
   have hro : rowOf 0 K.length 2 ((twoL K).map (SV.int .i64)) = some (K.map pr) := by
    rw [rowOf, if_pos (by rw [List.length_map, hl]; omega), elems, if_neg (by decide), List.drop_zero, chunk_two]
   have hso : sliceOf 0 K.length 2 ((twoL K).map (SV.int .i64)) = some (kS K) := by
    rw [sliceOf, if_pos (by rw [List.length_map, hl]; omega), elems, if_neg (by decide), List.drop_zero, chunk_two]; rfl
   simp only [c87r7, splice, hso, bk, kS, go_sem, Nat.reduceAdd]
theorem k54 : E.Fn Try.prog 54 [] [exB] := by
 refine fn_of_row okf54 ?_
 simp only [FRow.start, f54, c54r0, c54r1, go_sem, Nat.reduceSub]
 refine ⟨by decide, by decide, rfl, ints_one (xs := [1, 4, 3, 6, 6, 8, 2, 3]), ?_⟩
 refine callK_of rfl (k87 (K := KB) (by decide)) (.inr rfl) ?_
 simp only [bk, kS, SV.cells, splice, c54r2, go_sem, ↓reduceIte, Nat.reduceAdd, Nat.reduceLeDiff, Nat.reduceMul]
 refine ⟨by decide, by decide, rfl, by intro e he; rw [List.mem_singleton] at he; subst he; rfl, ?_⟩
 simp only [c54r3, splice, go_sem, Nat.reduceAdd]
 rfl
theorem k55 : E.Fn Try.prog 55 [] [exC] := by
 refine fn_of_row okf55 ?_
 simp only [FRow.start, f55, c55r0, c55r1, go_sem, Nat.reduceSub]
 refine ⟨by decide, by decide, rfl, ints_one (xs := [0, 0, 10, 10, 20, 20, 30, 30, 40, 40]), ?_⟩
 refine callK_of rfl (k87 (K := KC) (by decide)) (.inr rfl) ?_
 simp only [bk, kS, SV.cells, splice, c55r2, go_sem, ↓reduceIte, Nat.reduceAdd, Nat.reduceLeDiff, Nat.reduceMul]
 refine ⟨by decide, by decide, rfl, by intro e he; simp only [List.mem_cons, List.not_mem_nil, or_false] at he; rcases he with rfl | rfl | rfl | rfl | rfl <;> rfl, ?_⟩
 simp only [c55r3, splice, go_sem, Nat.reduceAdd]
 rfl
theorem same33 {l : List Int} : E.Fn Try.prog 33 [ints l, ints l] [.bool true] := by
 have h := k33 (xs := l) (ys := l)
 rw [decide_eq_true rfl] at h
 exact h
set_option maxHeartbeats 4000000 in
theorem works_ok : E.Fn Try.prog 18 [] [.bool true] := by
 refine fn_of_row okf18 ?_
 have hcl : circC.length = 5 := by decide +kernel
 have hcs : ((circC.length : Nat) : Int) = 5 := by rw [hcl]; rfl
 simp only [FRow.start, f18, c18r0, c18r1, go_sem, Nat.reduceSub]
 refine callK_of rfl k54 (.inr rfl) ?_
 simp only [go_sem]
 refine callK_of rfl k55 (.inr rfl) ?_
 simp only [exB, exC, bk, SV.cells, splice, go_sem, Nat.reduceAdd]
 simp only [c18r2, go_sem, Nat.reduceAdd]
 refine callK_of rfl w0 (.inl rfl) ?_
 simp only [go_sem, Nat.reduceAdd]
 refine callK_of rfl w1 (.inl rfl) ?_
 simp only [go_sem, Nat.reduceAdd]
 refine callK_of rfl w2 (.inl rfl) ?_
 simp only [c18r3, go_sem, Nat.reduceAdd]
 refine ⟨by decide, by decide, rfl, ints_one (xs := [5, 1, 0, 0]), ?_⟩
 refine callK_of rfl (k56 (l := [5, 1, 0, 0])) (.inr rfl) ?_
 simp only [go_sem]
 refine callK_of rfl w4 (.inl rfl) ?_
 simp only [c18r4, go_sem, Nat.reduceAdd]
 refine ⟨by decide, by decide, rfl, ints_one (xs := [0, 1, 1, 2]), ?_⟩
 refine callK_of rfl (k56 (l := [0, 1, 1, 2])) (.inr rfl) ?_
 simp only [go_sem]
 refine callK_of rfl w5 (.inl rfl) ?_
 simp only [c18r5, go_sem, Nat.reduceAdd]
 refine callK_of rfl w10 (.inl rfl) ?_
 simp only [c18r6, go_sem, Nat.reduceAdd]
 refine callK_of rfl w11 (.inr rfl) ?_
 simp only [c18r7, go_sem, Nat.reduceAdd]
 refine callK_of rfl w12 (.inr rfl) ?_
 simp only [c18r8, go_sem, Nat.reduceAdd]
 refine callK_of rfl w13 (.inl rfl) ?_
 simp only [c18r9, go_sem, Nat.reduceAdd]
 refine callK_of rfl w14 (.inl rfl) ?_
 simp only [c18r10, go_sem, Nat.reduceAdd]
 refine callK_of rfl w15 (.inl rfl) ?_
 simp only [c18r11, go_sem, Nat.reduceAdd]
 refine callK_of rfl w19 (.inr rfl) ?_
 simp only [c18r12, go_sem, Nat.reduceAdd]
 refine ⟨by decide, by decide, rfl, ints_one (xs := [2, 3]), ?_⟩
 refine callK_of rfl (k56 (l := [2, 3])) (.inr rfl) ?_
 simp only [go_sem]
 refine callK_of rfl w21 (.inl rfl) ?_
 simp only [go_sem, Nat.reduceAdd]
 refine callK_of rfl w22 (.inl rfl) ?_
 simp only [c18r13, go_sem, Nat.reduceAdd]
 refine ⟨by decide, by decide, rfl, ints_one (xs := [0, 1, 2]), ?_⟩
 refine callK_of rfl (k56 (l := [0, 1, 2])) (.inr rfl) ?_
 simp only [go_sem]
 refine callK_of rfl w24 (.inl rfl) ?_
 simp only [go_sem, Nat.reduceAdd]
 refine ⟨by decide, by decide, rfl, ints_one (xs := [0, 1]), ?_⟩
 refine callK_of rfl (k56 (l := [0, 1])) (.inr rfl) ?_
 simp only [go_sem]
 refine callK_of rfl w25 (.inl rfl) ?_
 simp only [c18r14, go_sem, Nat.reduceAdd]
 refine callK_of rfl w28 (.inr rfl) ?_
 simp only [c18r15, go_sem, Nat.reduceAdd]
 refine callK_of rfl w30 (.inl rfl) ?_
 simp only [c18r16, go_sem, Nat.reduceAdd]
 refine callK_of rfl w32 (.inl rfl) ?_
 simp only [c18r17, go_sem, Nat.reduceAdd]
 refine callK_of rfl w33 (.inl rfl) ?_
 simp only [c18r18, go_sem, Nat.reduceAdd]
 simp only [c18r20, go_sem]
 refine ⟨by decide, by decide, rfl, ints_one (xs := [0, 1, 2, 2]), ?_⟩
 refine callK_of rfl (k56 (l := [0, 1, 2, 2])) (.inr rfl) ?_
 simp only [go_sem]
 refine callK_of rfl (same33 (l := [0, 1, 2, 2])) (.inl rfl) ?_
 simp only [go_sem]
 refine ⟨by decide, by decide, rfl, ints_one (xs := [0, 1, 0, 1, 2]), ?_⟩
 refine callK_of rfl (k56 (l := [0, 1, 0, 1, 2])) (.inr rfl) ?_
 simp only [go_sem]
 refine callK_of rfl (same33 (l := [0, 1, 0, 1, 2])) (.inl rfl) ?_
 simp only [go_sem]
 refine ⟨by decide, by decide, rfl, ints_one (xs := [0, 1, 2]), ?_⟩
 refine callK_of rfl (k56 (l := [0, 1, 2])) (.inr rfl) ?_
 simp only [go_sem]
 refine callK_of rfl (same33 (l := [0, 1, 2])) (.inl rfl) ?_
 simp only [ints, hcs, go_sem, Nat.reduceAdd]
 refine callK_of rfl w29 (.inl rfl) ?_
 simp only [go_sem]
end Go.Proofs.Ytmcjoahnlbckoaa.Sk

/- A call of the examples of the chapter answers true. -/
namespace Go.Proofs.Ytmcjoahnlbckoaa.Sk
open Go Go.E Go.E.Sm
set_option maxRecDepth 10000
theorem wk {H : List ABlock} {k : AK} (hk : k (LV.ofResults [.bool true]) H none True) : callK Try.prog H 18 [] k := callK_of rfl works_ok (.inl rfl) hk
theorem k45 {K Q : List (Int × Int)} : E.Fn Try.prog 45 [bk K Q] [.bool (!greatB K Q && decide (ckB K Q = 0))] := by
 refine fn_of_row okf45 ?_
 simp only [FRow.start, f45, c45r0, c45r1, bk, SV.cells, go_sem, Nat.reduceAdd, Nat.reduceSub]
 refine callK_of (by simp only [bk, go_sem]) (k17 (K := K) (Q := Q)) (.inl rfl) ?_
 cases hg : greatB K Q with
 | true => simp only [go_sem]; rfl
 | false =>
  simp only [go_sem, Nat.reduceAdd]
  refine callK_of (by simp only [bk, go_sem]) (k24 (K := K) (Q := Q)) (.inl rfl) ?_
  simp only [go_sem]
  rfl
end Go.Proofs.Ytmcjoahnlbckoaa.Sk

/- Contracts of the laws' functions: the fewest rings with such ones, counts, rings by numbers. -/
namespace Go.Proofs.Ytmcjoahnlbckoaa.Sk
open Go Go.E Go.E.Sm
set_option maxRecDepth 10000
theorem rngs_pcs {cl : List (Int × Int)} {n : Nat} (h : 1 <= n) : ∃ g, rngs cl n = toI g /\ g ∈ pcs (rel0 cl) (fw cl n) n [] /\ rgP g (fw cl n) := by
 have h1 := bst_head (cl := cl) (n := n)
 rw [<- rngs_eq h] at h1
 obtain ⟨h2, h3⟩ := bst_dn h1
 obtain ⟨g', e, h4, hr⟩ := hgF_rg n 0 [] rgP_nil _ (by simpa [toI] using h2)
 rw [h4, rgP_dn hr] at h3
 subst h3
 refine ⟨g', h4, ?_, hr⟩
 rw [bst_M, h4, List.mem_map] at h1
 obtain ⟨g2, h5, h6⟩ := h1
 rw [<- toI_inj h6]
 have hsub : ∀ (f d : Nat) (h : List Nat), rgP h d -> d <= fw cl n -> ∀ g ∈ hgM (rel0 cl) (fw cl n) f d h, g ∈ pcs (rel0 cl) (fw cl n) f h := by
  intro f
  induction f with
  | zero => intro d h _ _ g hg; exact hg
  | succ f ih =>
   intro d h hr hd g hg
   rw [hgM, List.mem_append, List.mem_flatMap] at hg
   rw [pcs, List.mem_flatMap]
   rcases hg with ⟨r, h1, h2⟩ | hg
   ·have h1 := List.mem_range.1 h1
    split at h2
    ·rename_i hok
     exact ⟨r, List.mem_range.2 (by omega), by rw [if_pos hok]; exact ih d _ (rgP_old hr h1) hd g h2⟩
    ·cases h2
   ·split at hg
    ·exact ⟨d, List.mem_range.2 (by omega), by rw [if_pos (okN_fresh hr.1 (Nat.le_refl _))]; exact ih (d + 1) _ (rgP_new hr) (by omega) g hg⟩
    ·cases hg
 exact hsub n 0 [] rgP_nil (Nat.zero_le _) g2 h5
theorem ckR_good {K Q : List (Int × Int)} (h : ckB K Q = 0) {rings : List Int} (hl : rings.length = K.length) (hw : ∀ x ∈ rings, 0 <= x /\ x <= 7) (hp : ∀ i k : Nat, i < k -> k < K.length -> pO (i : Int) (k : Int) ∈ clsh K Q -> rings.getD i 0 ≠ rings.getD k 0) : ckR K Q rings = (((dn [] rings : Nat) : Int), 0) := by
 unfold ckR
 rw [if_pos h, if_pos hl, if_pos (within_of hw), if_neg, cpt_dn]
 rw [bad_iff h]
 rintro ⟨i, k, h1, h2, h3, h4⟩
 exact hp k i h2 h1 h4 h3
theorem ckR_rngs {K Q : List (Int × Int)} (h : ckB K Q = 0) : ckR K Q (rngs (clsh K Q) K.length) = (((fw (clsh K Q) K.length : Nat) : Int), 0) := by
 obtain ⟨hk1, hk8, _⟩ := ckB_zero h
 obtain ⟨g, h1, h2, h3⟩ := rngs_pcs (cl := clsh K Q) hk1
 have h4 := fw_le (cl := clsh K Q) (n := K.length)
 obtain ⟨h5, h6⟩ := mem_col.1 h2
 rw [h1, ckR_good h (by rw [toI_len]; exact h5) (fun x hx => by
  obtain ⟨y, hy, rfl⟩ := List.mem_map.1 hx
  have := h3.1 y hy
  omega) (fun i k hik hk hc e => by
  rw [toI_getD, toI_getD] at e
  exact (h6 k hk).2 i hik (by simpa [rel0] using hc) (by omega)), rgP_dn h3]
theorem k46 {K Q : List (Int × Int)} (h0 : ckB K Q = 0) : E.Fn Try.prog 46 [bk K Q] [.int .i64 (fw (clsh K Q) K.length : Nat), ints (rngs (clsh K Q) K.length), .bool true] := by
 refine fn_of_row okf46 ?_
 obtain ⟨hk1, hk8, _⟩ := ckB_zero h0
 have h27 := k27 (K := K) (Q := Q)
 have h29 := k29 (K := K) (Q := Q)
 have h19 := k19 (K := K) (Q := Q) (rings := rngs (clsh K Q) K.length)
 have h20 := k20 (K := K) (Q := Q) (rings := rngs (clsh K Q) K.length)
 unfold fewR at h27
 unfold rngR at h29
 rw [if_pos h0, fewN_eq hk1] at h27
 rw [if_pos h0] at h29
 rw [ckR_rngs h0] at h19 h20
 have hp := fw_pos (cl := clsh K Q) hk1
 have hle := fw_le (cl := clsh K Q) (n := K.length)
 generalize rngs (clsh K Q) K.length = l at *
 generalize fw (clsh K Q) K.length = w at *
 have hw1 : (1 : Int) <= (w : Int) := by omega
 have hw2 : (w : Int) <= (K.length : Int) := by omega
 simp only [FRow.start, f46, c46r0, c46r1, bk, SV.cells, go_sem, Nat.reduceAdd, Nat.reduceSub]
 refine callK_of (by simp only [bk, go_sem]) h27 (.inl rfl) ?_
 simp only [c46r2, go_sem, Nat.reduceAdd]
 refine callK_of (by simp only [bk, go_sem]) h29 (.inr (by simp only [bk, go_sem])) ?_
 simp only [c46r3, c46r5, go_sem, Nat.reduceAdd]
 refine callK_of (by simp only [bk, go_sem]) h19 (.inl rfl) ?_
 simp only [c46r6, go_sem, Nat.reduceAdd]
 refine callK_of (by simp only [bk, go_sem]) h20 (.inl rfl) ?_
 simp only [c46r7, hw1, hw2, kS, go_sem, Nat.reduceAdd, Nat.reduceLeDiff]
 try (intro _)
 try simp only [hw1, hw2, go_sem, ↓reduceIte, reduceCtorEq, Nat.reduceAdd, Nat.reduceSub, Nat.reduceLT, Nat.reduceLeDiff, Int.reduceLE, Int.reduceLT, Int.reduceToNat, Nat.reduceMul, Int.reduceNeg]
 done
theorem k50 {K Q : List (Int × Int)} (h0 : ckB K Q = 0) {m : Nat} (hm : m <= 8) : E.Fn Try.prog 50 [bk K Q, .int .i64 m] [.int .i64 (colC (rel0 (clsh K Q)) m K.length : Nat), .bool true] := by
 refine fn_of_row okf50 ?_
 obtain ⟨hk1, hk8, _⟩ := ckB_zero h0
 have h31 := k31 (K := K) (Q := Q) (m := (m : Int))
 unfold couR at h31
 rw [if_pos h0, if_pos (by omega), Int.toNat_natCast] at h31
 have hle := colN_le (cl := clsh K Q) (keys := woK K.length (-1)) hm (Nat.le_trans woK_len hk8)
 rw [show colN (clsh K Q) (woK K.length (-1)) m = allC (clsh K Q) K.length m from rfl] at hle
 rw [allC_eq] at hle h31
 generalize colC (rel0 (clsh K Q)) m K.length = c at *
 have h1 : (0 : Int) <= (c : Int) := by omega
 have h2 : (c : Int) <= 20000000 := by omega
 simp only [FRow.start, f50, c50r0, c50r1, bk, SV.cells, go_sem, Nat.reduceAdd, Nat.reduceSub]
 refine callK_of (by simp only [bk, go_sem]) h31 (.inl rfl) ?_
 simp only [c50r2, h1, h2, go_sem]
end Go.Proofs.Ytmcjoahnlbckoaa.Sk

/- Contract of the law's own function: the numbers of a book's keys. -/
namespace Go.Proofs.Ytmcjoahnlbckoaa.Sk
open Go Go.E Go.E.Sm
set_option maxRecDepth 10000
end Go.Proofs.Ytmcjoahnlbckoaa.Sk

/- Rings that are right are at least as many as the fewest, as a group's keys, and three if there is a circle. -/
namespace Go.Proofs.Ytmcjoahnlbckoaa.Sk
open Go Go.E
end Go.Proofs.Ytmcjoahnlbckoaa.Sk

/- Walks from key to key by clashes: closed ones of an odd length. -/
namespace Go.Proofs.Ytmcjoahnlbckoaa.Sk
open Go Go.E
def wlk (cl : List (Int × Int)) : Nat -> Int -> Int -> Prop
 | 0, a, b => a = b
 | s + 1, a, b => ∃ y, wlk cl s a y /\ pO y b ∈ cl
/-! The reference's search. -/
/-! Closed walks. -/
end Go.Proofs.Ytmcjoahnlbckoaa.Sk

/- The fullest day is one on which some key is taken out. -/
namespace Go.Proofs.Ytmcjoahnlbckoaa.Sk
open Go Go.E
theorem key_rng {K Q : List (Int × Int)} (h : ckB K Q = 0) {k : Int × Int} (hk : k ∈ K) : 0 <= k.1 /\ k.1 <= k.2 /\ k.2 <= 1000 := by
 obtain ⟨_, _, _, h1, _⟩ := ckB_zero h
 rw [List.any_eq_false] at h1
 have := h1 k hk
 simp only [oddB, Bool.or_eq_true, decide_eq_true_eq] at this
 omega
end Go.Proofs.Ytmcjoahnlbckoaa.Sk

/- The circle that is found is a shortest one; without circles two rings are enough. -/
namespace Go.Proofs.Ytmcjoahnlbckoaa.Sk
open Go Go.E
/-! Two rings. -/
def conn (cl : List (Int × Int)) (x y : Int) : Prop := ∃ s, wlk cl s x y
noncomputable def repr' (cl : List (Int × Int)) (x : Int) : Int := Classical.epsilon (conn cl x)
end Go.Proofs.Ytmcjoahnlbckoaa.Sk

/- Without quarrels: the fewest rings, the fullest day and the greatest groups. -/
namespace Go.Proofs.Ytmcjoahnlbckoaa.Sk
open Go Go.E
theorem pO_nat {i k : Nat} (h : i < k) : pO (i : Int) (k : Int) = ((i : Int), (k : Int)) := by
 unfold pO; apply Prod.ext <;> simp only <;> omega
end Go.Proofs.Ytmcjoahnlbckoaa.Sk

/- A book of which all days are stretched, and later. -/
namespace Go.Proofs.Ytmcjoahnlbckoaa.Sk
open Go Go.E
def str (t l : Int) (k : Int × Int) : Int × Int := (k.1 * t + l, k.2 * t + l)
end Go.Proofs.Ytmcjoahnlbckoaa.Sk

/- Two books of which no keys clash: as many rings as that which needs more, and ways are multiplied. -/
namespace Go.Proofs.Ytmcjoahnlbckoaa.Sk
open Go Go.E
theorem colC_mul {R R1 R2 : Nat -> Nat -> Bool} {m n1 n2 : Nat} (h1 : ∀ i k, i < k -> k < n1 -> R i k = R1 i k) (h2 : ∀ i k, i < k -> k < n2 -> R (n1 + i) (n1 + k) = R2 i k) (h3 : ∀ i k, i < n1 -> k < n2 -> R i (n1 + k) = false) :
  colC R m (n1 + n2) = colC R1 m n1 * colC R2 m n2 := by
 have hp : (pcs R m (n1 + n2) []).Perm ((pcs R1 m n1 []).flatMap fun a => (pcs R2 m n2 []).map fun b => a ++ b) := by
  have hd : ((pcs R1 m n1 []).flatMap fun a => (pcs R2 m n2 []).map fun b => a ++ b).Nodup := by
   rw [List.nodup_iff_pairwise_ne, List.pairwise_flatMap]
   refine ⟨fun a _ => ?_, ?_⟩
   ·rw [List.pairwise_map]
    exact (List.nodup_iff_pairwise_ne.1 pcs_nodup).imp fun h e => h (List.append_cancel_left e)
   ·refine List.Pairwise.imp_of_mem (fun {a b} ha hb hab x hx y hy e => hab ?_) (List.nodup_iff_pairwise_ne.1 (pcs_nodup (R := R1) (m := m) (f := n1) (h := [])))
    obtain ⟨u, _, rfl⟩ := List.mem_map.1 hx
    obtain ⟨v, _, rfl⟩ := List.mem_map.1 hy
    exact List.append_inj_left e ((mem_col.1 ha).1.trans (mem_col.1 hb).1.symm)
  rw [List.perm_ext_iff_of_nodup pcs_nodup hd]
  intro g
  rw [List.mem_flatMap]
  have hL : ∀ (a b : List Nat) (i : Nat), i < a.length -> (a ++ b).getD i 0 = a.getD i 0 := fun a b i hi => by
   rw [List.getD_eq_getElem?_getD, List.getD_eq_getElem?_getD, List.getElem?_append_left hi]
  have hR : ∀ (a b : List Nat) (i : Nat), (a ++ b).getD (a.length + i) 0 = b.getD i 0 := fun a b i => by
   rw [List.getD_eq_getElem?_getD, List.getD_eq_getElem?_getD, List.getElem?_append_right (by omega), Nat.add_sub_cancel_left]
  constructor
  ·intro hg
   obtain ⟨e1, e2⟩ := mem_col.1 hg
   have ha : (g.take n1).length = n1 := by rw [List.length_take]; omega
   have hsp : g = g.take n1 ++ g.drop n1 := (List.take_append_drop n1 g).symm
   have ga : ∀ i, i < n1 -> g.getD i 0 = (g.take n1).getD i 0 := fun i hi => by
    conv => lhs; rw [hsp]
    exact hL _ _ i (by omega)
   have gb : ∀ i, g.getD (n1 + i) 0 = (g.drop n1).getD i 0 := fun i => by
    have := hR (g.take n1) (g.drop n1) i
    rw [ha, <- hsp] at this
    exact this
   refine ⟨g.take n1, mem_col.2 ⟨ha, fun k hk => ?_⟩, List.mem_map.2 ⟨g.drop n1, mem_col.2 ⟨by rw [List.length_drop]; omega, fun k hk => ?_⟩, hsp.symm⟩⟩
   ·have := e2 k (by omega)
    rw [<- ga k hk]
    refine ⟨this.1, fun i hi hr => ?_⟩
    rw [<- ga i (by omega)]
    exact this.2 i hi (by rw [h1 i k hi hk]; exact hr)
   ·have := e2 (n1 + k) (by omega)
    rw [<- gb k]
    refine ⟨this.1, fun i hi hr => ?_⟩
    rw [<- gb i]
    exact this.2 (n1 + i) (by omega) (by rw [h2 i k hi hk]; exact hr)
  ·rintro ⟨a, ha, hb⟩
   obtain ⟨b, hb2, rfl⟩ := List.mem_map.1 hb
   obtain ⟨a1, a2⟩ := mem_col.1 ha
   obtain ⟨b1, b2⟩ := mem_col.1 hb2
   refine mem_col.2 ⟨by rw [List.length_append, a1, b1], fun k hk => ?_⟩
   by_cases hkn : k < n1
   ·rw [hL a b k (by omega)]
    refine ⟨(a2 k hkn).1, fun i hi hr => ?_⟩
    rw [hL a b i (by omega)]
    exact (a2 k hkn).2 i hi (by rw [<- h1 i k hi hkn]; exact hr)
   ·obtain ⟨k, rfl⟩ : ∃ k', k = n1 + k' := ⟨k - n1, by omega⟩
    have hk2 := hR a b k
    rw [a1] at hk2
    rw [hk2]
    refine ⟨(b2 k (by omega)).1, fun i hi hr => ?_⟩
    by_cases hin : i < n1
    ·rw [h3 i k hin (by omega)] at hr; cases hr
    ·obtain ⟨i, rfl⟩ : ∃ i', i = n1 + i' := ⟨i - n1, by omega⟩
     have hi2 := hR a b i
     rw [a1] at hi2
     rw [hi2]
     exact (b2 k (by omega)).2 i (by omega) (by rw [<- h2 i k (by omega) (by omega)]; exact hr)
 unfold colC
 rw [hp.length_eq, len_flatMap, sum_const _ _ (pcs R2 m n2 []).length (fun a _ => by rw [List.length_map])]
theorem fw_max {cl cl1 cl2 : List (Int × Int)} {n1 n2 : Nat} (h : ∀ m, colC (rel0 cl) m (n1 + n2) = colC (rel0 cl1) m n1 * colC (rel0 cl2) m n2) : fw cl (n1 + n2) = max (fw cl1 n1) (fw cl2 n2) := by
 have hm : ∀ m, fw cl (n1 + n2) <= m ↔ fw cl1 n1 <= m /\ fw cl2 n2 <= m := fun m => by
  rw [<- colC_pos, <- colC_pos, <- colC_pos, h]
  constructor
  ·intro h1
   exact ⟨Nat.pos_of_mul_pos_right h1, Nat.pos_of_mul_pos_left h1⟩
  ·rintro ⟨h1, h2⟩
   exact Nat.mul_pos h1 h2
 have h1 := (hm _).1 (Nat.le_refl _)
 have h2 := (hm (max (fw cl1 n1) (fw cl2 n2))).2 ⟨Nat.le_max_left _ _, Nat.le_max_right _ _⟩
 omega
end Go.Proofs.Ytmcjoahnlbckoaa.Sk

/- Two books put together, the second one's days later and its keys behind. -/
namespace Go.Proofs.Ytmcjoahnlbckoaa.Sk
open Go Go.E
theorem bef_trans {p q r : Int × Int} (h1 : bef p q) (h2 : bef q r) : bef p r := by unfold bef at *; omega
theorem ckQ_iff {m : Int} : ∀ {Q : List (Int × Int)} {last : Int × Int}, ckQ m last Q = 0 ↔ (∀ q ∈ Q, 0 <= q.1 /\ q.1 < q.2 /\ q.2 <= m) /\ (last :: Q).Pairwise bef
 | [], last => by simp [ckQ]
 | q :: Q, last => by
  rw [ckQ_cons]
  constructor
  ·intro h
   split at h
   ·cases h
   ·rename_i hn
    have hb : bef last q := Classical.byContradiction fun h => hn (.inr h)
    have hr : ¬ (q.1 < 0 \/ q.2 <= q.1 \/ m < q.2) := fun h => hn (.inl h)
    obtain ⟨h1, h2⟩ := ckQ_iff.1 h
    refine ⟨fun x hx => ?_, List.pairwise_cons.2 ⟨fun x hx => ?_, h2⟩⟩
    ·rcases List.mem_cons.1 hx with rfl | hx
     ·omega
     ·exact h1 x hx
    ·rcases List.mem_cons.1 hx with rfl | hx
     ·exact hb
     ·exact bef_trans hb ((List.pairwise_cons.1 h2).1 x hx)
  ·rintro ⟨h1, h2⟩
   obtain ⟨h3, h4⟩ := List.pairwise_cons.1 h2
   have h5 := h1 q (by simp)
   rw [if_neg, ckQ_iff]
   ·exact ⟨fun x hx => h1 x (by simp [hx]), h4⟩
   ·rintro (h | h)
    ·omega
    ·exact h (h3 q (by simp))
def lat (k : Int × Int) : Int × Int := (k.1 + 500, k.2 + 500)
def qua (n : Nat) (q : Int × Int) : Int × Int := (q.1 + n, q.2 + n)
theorem ckB_two {K1 Q1 K2 Q2 : List (Int × Int)} (h1 : ckB K1 Q1 = 0) (h2 : ckB K2 Q2 = 0) (hk : K1.length + K2.length <= 8) (hq : Q1.length + Q2.length <= 12) (hd : ∀ k ∈ K2, k.2 <= 400) : ckB (K1 ++ K2.map lat) (Q1 ++ Q2.map (qua K1.length)) = 0 := by
 obtain ⟨a1, _, _, a3, a4⟩ := ckB_zero h1
 obtain ⟨b1, _, _, _, b4⟩ := ckB_zero h2
 obtain ⟨a5, a6⟩ := ckQ_iff.1 a4
 obtain ⟨b5, b6⟩ := ckQ_iff.1 b4
 unfold ckB
 rw [List.length_append, List.length_map, List.length_append, List.length_map]
 rw [if_pos (within_of (by simp; omega)), if_neg (by omega), if_neg, ckQ_iff]
 ·constructor
  ·intro q hq
   rcases List.mem_append.1 hq with hq | hq
   ·have := a5 q hq; omega
   ·obtain ⟨r, hr, rfl⟩ := List.mem_map.1 hq
    have := b5 r hr
    simp only [qua]
    omega
  ·rw [<- List.cons_append, List.pairwise_append]
   refine ⟨a6, ?_, fun p hp q hq => ?_⟩
   ·rw [List.pairwise_map]
    refine (List.pairwise_cons.1 b6).2.imp fun {p q} h => ?_
    unfold bef qua at *
    simp only
    omega
   ·obtain ⟨r, hr, rfl⟩ := List.mem_map.1 hq
    have := b5 r hr
    unfold bef qua
    simp only
    rcases List.mem_cons.1 hp with rfl | hp
    ·simp only; omega
    ·have := a5 p hp
     omega
 ·rw [Bool.not_eq_true, List.any_eq_false]
  intro x hx
  rcases List.mem_append.1 hx with hx | hx
  ·rw [List.any_eq_false] at a3
   exact a3 x hx
  ·obtain ⟨k, hk, rfl⟩ := List.mem_map.1 hx
   have k1 := key_rng h2 hk
   have k2 := hd k hk
   have ea : (lat k).1 = k.1 + 500 := rfl
   have eb : (lat k).2 = k.2 + 500 := rfl
   unfold oddB
   rw [Bool.or_eq_true, Bool.or_eq_true, decide_eq_true_eq, decide_eq_true_eq, decide_eq_true_eq, ea, eb]
   omega
theorem clsh_two {K1 Q1 K2 Q2 : List (Int × Int)} (h2 : ckB K2 Q2 = 0) (hd : ∀ k ∈ K1, k.2 <= 400) {p : Int × Int} :
  p ∈ clsh (K1 ++ K2.map lat) (Q1 ++ Q2.map (qua K1.length)) ↔ p ∈ clsh K1 Q1 \/ ∃ q ∈ clsh K2 Q2, p = qua K1.length q := by
 rw [mem_clsh]
 constructor
 ·rintro (h | ⟨i, k, x, y, h3, h4, h5, h6, rfl⟩)
  ·rcases List.mem_append.1 h with h | h
   ·exact .inl (mem_clsh.2 (.inl h))
   ·obtain ⟨q, hq, rfl⟩ := List.mem_map.1 h
    exact .inr ⟨q, mem_clsh.2 (.inl hq), rfl⟩
  ·by_cases hk : k < K1.length
   ·rw [List.getElem?_append_left (by omega)] at h4 h5
    exact .inl (mem_clsh.2 (.inr ⟨i, k, x, y, h3, h4, h5, h6, rfl⟩))
   ·rw [List.getElem?_append_right (by omega), List.getElem?_map] at h5
    obtain ⟨y', hy, rfl⟩ := Option.map_eq_some_iff.1 h5
    have hy2 := key_rng h2 (List.mem_of_getElem? hy)
    by_cases hi : i < K1.length
    ·rw [List.getElem?_append_left hi] at h4
     have := hd x (List.mem_of_getElem? h4)
     unfold over lat at h6
     simp only at h6
     omega
    ·rw [List.getElem?_append_right (by omega), List.getElem?_map] at h4
     obtain ⟨x', hx, rfl⟩ := Option.map_eq_some_iff.1 h4
     refine .inr ⟨(((i - K1.length : Nat) : Int), ((k - K1.length : Nat) : Int)), mem_clsh.2 (.inr ⟨_, _, x', y', by omega, hx, hy, ?_, rfl⟩), ?_⟩
     ·unfold over lat at *
      simp only at h6
      omega
     ·unfold qua
      apply Prod.ext <;> simp only <;> omega
 ·rintro (h | ⟨q, h, rfl⟩)
  ·rcases mem_clsh.1 h with h | ⟨i, k, x, y, h3, h4, h5, h6, rfl⟩
   ·exact .inl (List.mem_append_left _ h)
   ·have hi := (List.getElem?_eq_some_iff.1 h4).1
    have hk := (List.getElem?_eq_some_iff.1 h5).1
    exact .inr ⟨i, k, x, y, h3, by rw [List.getElem?_append_left hi]; exact h4, by rw [List.getElem?_append_left hk]; exact h5, h6, rfl⟩
  ·rcases mem_clsh.1 h with h | ⟨i, k, x, y, h3, h4, h5, h6, rfl⟩
   ·exact .inl (List.mem_append_right _ (List.mem_map.2 ⟨q, h, rfl⟩))
   ·refine .inr ⟨K1.length + i, K1.length + k, lat x, lat y, by omega, ?_, ?_, ?_, ?_⟩
    ·rw [List.getElem?_append_right (by omega), Nat.add_sub_cancel_left, List.getElem?_map, h4]; rfl
    ·rw [List.getElem?_append_right (by omega), Nat.add_sub_cancel_left, List.getElem?_map, h5]; rfl
    ·unfold over lat at *
     simp only
     omega
    ·unfold qua
     apply Prod.ext <;> simp only <;> omega
theorem rel0_iff {cl : List (Int × Int)} {i k : Nat} (h : i < k) : rel0 cl i k = true ↔ ((i : Int), (k : Int)) ∈ cl := by
 unfold rel0
 rw [decide_eq_true_eq, pO_nat h]
theorem two_eq {K1 Q1 K2 Q2 : List (Int × Int)} (h1 : ckB K1 Q1 = 0) (h2 : ckB K2 Q2 = 0) (hd : ∀ k ∈ K1, k.2 <= 400) :
  (∀ m, colC (rel0 (clsh (K1 ++ K2.map lat) (Q1 ++ Q2.map (qua K1.length)))) m (K1.length + K2.length) = colC (rel0 (clsh K1 Q1)) m K1.length * colC (rel0 (clsh K2 Q2)) m K2.length) /\
  fw (clsh (K1 ++ K2.map lat) (Q1 ++ Q2.map (qua K1.length))) (K1.length + K2.length) = max (fw (clsh K1 Q1) K1.length) (fw (clsh K2 Q2) K2.length) := by
 have hc : ∀ m, colC (rel0 (clsh (K1 ++ K2.map lat) (Q1 ++ Q2.map (qua K1.length)))) m (K1.length + K2.length) = colC (rel0 (clsh K1 Q1)) m K1.length * colC (rel0 (clsh K2 Q2)) m K2.length := fun m => by
  refine colC_mul (fun i k hik hk => ?_) (fun i k hik hk => ?_) (fun i k hi hk => ?_)
  ·rw [Bool.eq_iff_iff, rel0_iff hik, rel0_iff hik, clsh_two h2 hd]
   constructor
   ·rintro (h | ⟨q, hq, e⟩)
    ·exact h
    ·have := clsh_rng h2 hq
     unfold qua at e
     rw [Prod.mk.injEq] at e
     omega
   ·exact .inl
  ·rw [Bool.eq_iff_iff, rel0_iff (by omega), rel0_iff hik, clsh_two h2 hd]
   constructor
   ·rintro (h | ⟨q, hq, e⟩)
    ·have := clsh_rng h1 h
     simp only at this
     omega
    ·unfold qua at e
     rw [Prod.mk.injEq] at e
     rwa [show ((i : Int), (k : Int)) = q by apply Prod.ext <;> simp only <;> omega]
   ·intro h
    refine .inr ⟨_, h, ?_⟩
    unfold qua
    apply Prod.ext <;> simp only <;> omega
  ·rw [<- Bool.not_eq_true, rel0_iff (by omega), clsh_two h2 hd]
   rintro (h | ⟨q, hq, e⟩)
   ·have := clsh_rng h1 h
    simp only at this
    omega
   ·have := clsh_rng h2 hq
    unfold qua at e
    rw [Prod.mk.injEq] at e
    omega
 exact ⟨hc, fw_max hc⟩
end Go.Proofs.Ytmcjoahnlbckoaa.Sk

/- A row that is frozen from there on, reckoned. -/
namespace Go.Proofs.Ytmcjoahnlbckoaa.Sk
open Go Go.E Go.E.Sm
@[go_sem] theorem awp_zap' {P : Program} {n0 t off : Nat} {a : ACode} {fr : List LV} {H : List ABlock} {Q : AExit -> AState -> Prop} : awp P n0 (.zap t off a) ⟨fr, H⟩ Q = zapK H off (fun H' => awp P n0 a { fr := fr, hp := H' } Q) (fget fr t) := propext Iff.rfl
end Go.Proofs.Ytmcjoahnlbckoaa.Sk

/- Counts: with one ring more, and without clashes. -/
namespace Go.Proofs.Ytmcjoahnlbckoaa.Sk
open Go Go.E
theorem colC_le {R : Nat -> Nat -> Bool} {m n : Nat} : colC R m n <= m ^ n := pcs_le n []
end Go.Proofs.Ytmcjoahnlbckoaa.Sk
