/- The examples of the chapter hold. -/
import Derived.Test.YtmcjoahnlbckoaaJ10

set_option linter.all false

namespace Go.Proofs.Ytmcjoahnlbckoaa.Sk
open Go Go.E
def KB : List (Int × Int) := [(1, 4), (3, 6), (6, 8), (2, 3)]
def QB : List (Int × Int) := [(0, 2)]
def KC : List (Int × Int) := [(0, 0), (10, 10), (20, 20), (30, 30), (40, 40)]
def QC : List (Int × Int) := [(0, 1), (0, 4), (1, 2), (2, 3), (3, 4)]
def exB : SV := bk KB QB
def exC : SV := bk KC QC
def crcC : List (List Int) := crcs (clsh KC QC) KC.length KC.length
def circC : List Int := match crcC with | [] => [] | c :: cs => bestF shoB c cs
def ckRd (K Q : List (Int × Int)) (rings : List Int) : Int × Int :=
 if ckB K Q = 0 then (if rings.length = K.length then (if withinB 0 7 rings = true then (if ∃ p ∈ clsh K Q, rg rings p.1 = rg rings p.2 then (0, 23) else ((dn [] rings : Nat), 0)) else (0, 3)) else (0, 15)) else (0, ckB K Q)
theorem ckR_dn {K Q : List (Int × Int)} {rings : List Int} : ckR K Q rings = ckRd K Q rings := by unfold ckR ckRd; rw [cpt_dn]
theorem w0 : E.Fn Try.prog 25 [exB, .int .i64 0, .int .i64 2] [.int .i64 23] := by
 have h := k25 (K := KB) (Q := QB) (one := 0) (two := 2)
 rw [show pairE KB QB 0 2 = 23 by decide +kernel] at h
 exact h
theorem w1 : E.Fn Try.prog 25 [exB, .int .i64 2, .int .i64 3] [.int .i64 0] := by
 have h := k25 (K := KB) (Q := QB) (one := 2) (two := 3)
 rw [show pairE KB QB 2 3 = 0 by decide +kernel] at h
 exact h
theorem w2 : E.Fn Try.prog 25 [exB, .int .i64 1, .int .i64 1] [.int .i64 2] := by
 have h := k25 (K := KB) (Q := QB) (one := 1) (two := 1)
 rw [show pairE KB QB 1 1 = 2 by decide +kernel] at h
 exact h
theorem w3 : E.Fn Try.prog 25 [exB, .int .i64 1, .int .i64 2] [.int .i64 23] := by
 have h := k25 (K := KB) (Q := QB) (one := 1) (two := 2)
 rw [show pairE KB QB 1 2 = 23 by decide +kernel] at h
 exact h
theorem w4 : E.Fn Try.prog 19 [exB, .slice [.int .i64 5, .int .i64 1, .int .i64 0, .int .i64 0]] [.int .i64 3, .int .i64 0] := by
 have h := k19 (K := KB) (Q := QB) (rings := [5, 1, 0, 0])
 rw [ckR_dn, show ckRd KB QB [5, 1, 0, 0] = (3, 0) by decide +kernel] at h
 exact h
theorem w5 : E.Fn Try.prog 19 [exB, .slice [.int .i64 0, .int .i64 1, .int .i64 1, .int .i64 2]] [.int .i64 0, .int .i64 23] := by
 have h := k19 (K := KB) (Q := QB) (rings := [0, 1, 1, 2])
 rw [ckR_dn, show ckRd KB QB [0, 1, 1, 2] = (0, 23) by decide +kernel] at h
 exact h
theorem w10 : E.Fn Try.prog 27 [exC] [.int .i64 3, .int .i64 0] := by
 have h := k27 (K := KC) (Q := QC)
 rw [show fewR KC QC = (3, 0) by decide +kernel] at h
 exact h
theorem w11 : E.Fn Try.prog 29 [exB] [.slice [.int .i64 0, .int .i64 1, .int .i64 2, .int .i64 2], .int .i64 0] := by
 have h := k29 (K := KB) (Q := QB)
 unfold rngR at h
 rw [if_pos (by decide +kernel), show rngs (clsh KB QB) KB.length = [0, 1, 2, 2] by decide +kernel] at h
 exact h
theorem w12 : E.Fn Try.prog 29 [exC] [.slice [.int .i64 0, .int .i64 1, .int .i64 0, .int .i64 1, .int .i64 2], .int .i64 0] := by
 have h := k29 (K := KC) (Q := QC)
 unfold rngR at h
 rw [if_pos (by decide +kernel), show rngs (clsh KC QC) KC.length = [0, 1, 0, 1, 2] by decide +kernel] at h
 exact h
theorem w13 : E.Fn Try.prog 31 [exB, .int .i64 4] [.int .i64 48, .int .i64 0] := by
 have h := k31 (K := KB) (Q := QB) (m := 4)
 rw [show couR KB QB 4 = (48, 0) by decide +kernel] at h
 exact h
theorem w14 : E.Fn Try.prog 31 [exC, .int .i64 3] [.int .i64 30, .int .i64 0] := by
 have h := k31 (K := KC) (Q := QC) (m := 3)
 rw [show couR KC QC 3 = (30, 0) by decide +kernel] at h
 exact h
theorem w15 : E.Fn Try.prog 31 [exC, .int .i64 9] [.int .i64 0, .int .i64 2] := by
 have h := k31 (K := KC) (Q := QC) (m := 9)
 rw [show couR KC QC 9 = (0, 2) by decide +kernel] at h
 exact h
theorem w19 : E.Fn Try.prog 34 [exB] [.slice [.int .i64 0, .int .i64 1, .int .i64 2], .int .i64 0] := by
 have h := k34 (K := KB) (Q := QB)
 unfold grpR at h
 rw [if_pos (by decide +kernel), show gst (clsh KB QB) KB.length (KB.length + 1) [] 0 = [0, 1, 2] by decide +kernel] at h
 exact h
theorem w21 : E.Fn Try.prog 38 [exB, .slice [.int .i64 2, .int .i64 3]] [.int .i64 14] := by
 have h := k38 (K := KB) (Q := QB) (keys := [2, 3])
 rw [show ckG KB QB [2, 3] = 14 by decide +kernel] at h
 exact h
theorem w22 : E.Fn Try.prog 38 [exB, .slice []] [.int .i64 3] := by
 have h := k38 (K := KB) (Q := QB) (keys := [])
 rw [show ckG KB QB [] = 3 by decide +kernel] at h
 exact h
theorem w24 : E.Fn Try.prog 40 [exC, .slice [.int .i64 0, .int .i64 1, .int .i64 2]] [.int .i64 14] := by
 have h := k40 (K := KC) (Q := QC) (keys := [0, 1, 2]) (by decide)
 rw [show ckC KC QC [0, 1, 2] = 14 by decide +kernel] at h
 exact h
theorem w25 : E.Fn Try.prog 40 [exC, .slice [.int .i64 0, .int .i64 1]] [.int .i64 16] := by
 have h := k40 (K := KC) (Q := QC) (keys := [0, 1]) (by decide)
 rw [show ckC KC QC [0, 1] = 16 by decide +kernel] at h
 exact h
theorem w28 : E.Fn Try.prog 36 [exC] [ints circC, .int .i64 0] := by
 have h := k36 (K := KC) (Q := QC)
 unfold cirR at h
 rw [if_pos (by decide +kernel), show crcs (clsh KC QC) KC.length KC.length = crcC by decide +kernel] at h
 exact h
theorem w29 : E.Fn Try.prog 41 [exC, ints circC] [.int .i64 0] := by
 have h := k41 (K := KC) (Q := QC) (keys := circC)
 rw [show ckC KC QC circC = 0 by decide +kernel] at h
 exact h
theorem w30 : E.Fn Try.prog 21 [exB] [.int .i64 3, .int .i64 3, .int .i64 0] := by
 have h := k21 (K := KB) (Q := QB)
 unfold dayR at h
 rw [if_pos (by decide +kernel), show (dayK KB).1 = 3 by decide +kernel, show outC KB 3 = 3 by decide +kernel] at h
 exact h
theorem w32 : E.Fn Try.prog 43 [exB, .int .i64 2, .int .i64 3] [.int .i64 2, .int .i64 0] := by
 have h := k43 (K := KB) (Q := QB) (one := 2) (two := 3)
 rw [show kndR KB QB 2 3 = (2, 0) by decide +kernel] at h
 exact h
theorem w33 : E.Fn Try.prog 43 [exC, .int .i64 0, .int .i64 2] [.int .i64 1, .int .i64 0] := by
 have h := k43 (K := KC) (Q := QC) (one := 0) (two := 2)
 rw [show kndR KC QC 0 2 = (1, 0) by decide +kernel] at h
 exact h
end Go.Proofs.Ytmcjoahnlbckoaa.Sk

/- The examples of the chapter: books, and that all hold. -/
namespace Go.Proofs.Ytmcjoahnlbckoaa.Sk
open Go Go.E Go.E.Sm
set_option maxRecDepth 10000
theorem k56 {l : List Int} : E.Fn Try.prog 56 [ints l] [ints l] := by
 refine fn_of_row okf56 ?_
 simp only [FRow.start, f56, c56r0, c56r1, ints, go_sem, Nat.reduceSub]
def twoL (K : List (Int × Int)) : List Int := K.flatMap fun p => [p.1, p.2]
theorem twoL_len {K : List (Int × Int)} : (twoL K).length = 2 * K.length := by
 induction K with
 | nil => rfl
 | cons p K ih => simp only [twoL, List.flatMap_cons, List.length_append, List.length_cons, List.length_nil] at *; omega
theorem twoL_get {K : List (Int × Int)} : ∀ {i : Nat} {p : Int × Int}, K[i]? = some p -> (twoL K)[2 * i]? = some p.1 /\ (twoL K)[2 * i + 1]? = some p.2 := by
 induction K with
 | nil => intro i p h; cases h
 | cons q K ih =>
  intro i p h
  cases i with
  | zero => simp only [List.getElem?_cons_zero, Option.some.injEq] at h; subst h; exact ⟨rfl, rfl⟩
  | succ i =>
   have := ih (i := i) (by simpa using h)
   simp only [twoL, List.flatMap_cons] at this ⊢
   rw [show 2 * (i + 1) = (2 * i) + 2 by omega, show 2 * i + 2 + 1 = (2 * i + 1) + 2 by omega]
   simpa using this
theorem twoL_map {K : List (Int × Int)} : (twoL K).map (SV.int .i64) = flatE (K.map pr) := by
 induction K with
 | nil => rfl
 | cons p K ih =>
  simp only [twoL, flatE, List.flatMap_cons, List.map_append, List.map_cons, List.map_nil, List.flatten_cons, pr, SV.cells] at *
  rw [ih]
theorem twoL_snoc {K : List (Int × Int)} {p : Int × Int} : twoL (K ++ [p]) = twoL K ++ [p.1, p.2] := by
 unfold twoL; rw [List.flatMap_append]; rfl
theorem chunk_two : ∀ (K : List (Int × Int)), chunk 2 K.length ((twoL K).map (SV.int .i64)) = K.map pr
 | [] => rfl
 | p :: K => by
  have := chunk_two K
  simp only [twoL, List.flatMap_cons, List.map_append, List.length_cons, List.map_cons, List.map_nil] at this ⊢
  rw [chunk]
  simp only [List.cons_append, List.nil_append, List.take_succ_cons, List.take_zero, List.drop_succ_cons, List.drop_zero]
  rw [this]; rfl
theorem promo_cell2 {σ : AState} {b d o off sz : Nat} {cs : List LV} (h : fget σ.fr d = .loc b o) (hB : σ.hp[b]? = some (.obj cs)) (hc : cs[o + off]? = some (.full [])) :
  promote [(d, some off, sz)] σ = { fr := σ.fr, hp := σ.hp.set b (.obj (cs.set (o + off) (.sl σ.hp.length 0 0 (sz + 1) false))) ++ [.row []] } := by
 simp only [promote, promote1, h, hB, hc]
theorem one_pr {p : Int × Int} : ∀ e ∈ [SV.agg [.int .i64 p.1, .int .i64 p.2]], e.cells.length = 2 := by
 intro e he
 rw [List.mem_singleton] at he
 subst he; rfl
theorem k87 {K : List (Int × Int)} (hk : K.length <= 100) : E.Fn Try.prog 87 [ints (twoL K)] [bk K []] := by
 refine fn_of_row okf87 ?_
 have hl := twoL_len (K := K)
 simp only [FRow.start, f87, c87r0, c87r1, c87r2, ints, go_sem, Nat.reduceAdd, Nat.reduceSub]
 refine loop_rule (fun n τ => ∃ i : Nat, n = K.length - i /\ i <= K.length /\
  τ = ⟨[.s (ints (twoL K)), .any, .loc 0 0, .loc 1 0, .s (.int .i64 ((2 * i : Nat) : Int)), .any, .any, .any, .any, .any, .any, .any, .any, .any, .any, .any, .any, .any, .any, .any, .any, .any, .any, .any, .any, .any, .any, .any], [.obj [.full [], .full []], .obj [.sl 2 0 i 2 false, .full []], .row ((twoL (K.take i)).map (.int .i64))]⟩) K.length (promo_cell2 rfl rfl rfl) ?_ ?_
 ·simp only [c87l6m, go_sem, ↓reduceIte, reduceCtorEq, Nat.reduceAdd, Nat.reduceLeDiff]
  exact ⟨0, rfl, Nat.zero_le _, rfl⟩
 ·rintro I n τ ⟨i, rfl, hi, rfl⟩ hI
  have hin : inR .i64 (((2 * i : Nat) : Int) + 1) := inR_small (by omega) (by omega)
  have e1 : ((2 * i : Nat) : Int) + 1 = ((2 * i + 1 : Nat) : Int) := rfl
  simp only [c87l6, c87r3, ints, go_sem, ↓reduceIte, Nat.reduceAdd]
  refine ⟨hin, fun _ => ?_⟩
  refine ⟨fun hlt => ?_, fun hge => ?_⟩
  ·have hlt : i < K.length := by omega
   have hx : K[i]? = some K[i] := List.getElem?_eq_getElem hlt
   obtain ⟨h1, h2⟩ := twoL_get hx
   have hts : twoL (K.take (i + 1)) = twoL (K.take i) ++ [K[i].1, K[i].2] := by rw [List.take_succ, hx]; exact twoL_snoc
   have htl : (twoL (K.take i)).length = i * 2 := by rw [twoL_len, List.length_take]; omega
   generalize K[i] = p at hx h1 h2 hts
   simp only [c87r4, h1, h2, e1, splice, SV.cells, Nat.reduceBEq, Bool.false_eq_true, go_sem, ↓reduceIte, Nat.reduceAdd, Nat.reduceLeDiff, Nat.reduceMul]
   refine ⟨hin, by decide, by decide, rfl, one_pr, one_pr, htl.symm, by omega, by omega, ?_⟩
   simp only [c87r5, c87l6m, go_sem, ↓reduceIte, reduceCtorEq, Nat.reduceLeDiff]
   have e2 : (twoL (K.take i)).map (SV.int .i64) ++ flatE [SV.agg [.int .i64 p.1, .int .i64 p.2]] = (twoL (K.take (i + 1))).map (SV.int .i64) := by rw [hts, List.map_append]; rfl
   rw [e2]
   exact ⟨inR_small (by omega) (by omega), hI (K.length - (i + 1)) _ (by omega) ⟨i + 1, rfl, by omega, rfl⟩⟩
  ·have hie : i = K.length := by omega
   subst hie
   rw [List.take_length]
   have hro : rowOf 0 K.length 2 ((twoL K).map (SV.int .i64)) = some (K.map pr) := by
    rw [rowOf, if_pos (by rw [List.length_map, hl]; omega), elems, if_neg (by decide), List.drop_zero, chunk_two]
   have hso : sliceOf 0 K.length 2 ((twoL K).map (SV.int .i64)) = some (kS K) := by
    rw [sliceOf, if_pos (by rw [List.length_map, hl]; omega), elems, if_neg (by decide), List.drop_zero, chunk_two]; rfl
   simp only [c87r7, splice, hso, bk, kS, go_sem, Nat.reduceAdd]
theorem k54 : E.Fn Try.prog 54 [] [exB] := by
 refine fn_of_row okf54 ?_
 simp only [FRow.start, f54, c54r0, c54r1, go_sem, Nat.reduceSub]
 refine ⟨by decide, by decide, rfl, ints_one (xs := [1, 4, 3, 6, 6, 8, 2, 3]), ?_⟩
 refine callK_of rfl (k87 (K := KB) (by decide)) (.inr rfl) ?_
 simp only [bk, kS, SV.cells, splice, c54r2, go_sem, ↓reduceIte, Nat.reduceAdd, Nat.reduceLeDiff, Nat.reduceMul]
 refine ⟨by decide, by decide, rfl, by intro e he; rw [List.mem_singleton] at he; subst he; rfl, ?_⟩
 simp only [c54r3, splice, go_sem, Nat.reduceAdd]
 rfl
theorem k55 : E.Fn Try.prog 55 [] [exC] := by
 refine fn_of_row okf55 ?_
 simp only [FRow.start, f55, c55r0, c55r1, go_sem, Nat.reduceSub]
 refine ⟨by decide, by decide, rfl, ints_one (xs := [0, 0, 10, 10, 20, 20, 30, 30, 40, 40]), ?_⟩
 refine callK_of rfl (k87 (K := KC) (by decide)) (.inr rfl) ?_
 simp only [bk, kS, SV.cells, splice, c55r2, go_sem, ↓reduceIte, Nat.reduceAdd, Nat.reduceLeDiff, Nat.reduceMul]
 refine ⟨by decide, by decide, rfl, by intro e he; simp only [List.mem_cons, List.not_mem_nil, or_false] at he; rcases he with rfl | rfl | rfl | rfl | rfl <;> rfl, ?_⟩
 simp only [c55r3, splice, go_sem, Nat.reduceAdd]
 rfl
theorem same33 {l : List Int} : E.Fn Try.prog 33 [ints l, ints l] [.bool true] := by
 have h := k33 (xs := l) (ys := l)
 rw [decide_eq_true rfl] at h
 exact h
set_option maxHeartbeats 4000000 in
theorem works_ok : E.Fn Try.prog 18 [] [.bool true] := by
 refine fn_of_row okf18 ?_
 have hcl : circC.length = 5 := by decide +kernel
 have hcs : ((circC.length : Nat) : Int) = 5 := by rw [hcl]; rfl
 simp only [FRow.start, f18, c18r0, c18r1, go_sem, Nat.reduceSub]
 refine callK_of rfl k54 (.inr rfl) ?_
 simp only [go_sem]
 refine callK_of rfl k55 (.inr rfl) ?_
 simp only [exB, exC, bk, SV.cells, splice, go_sem, Nat.reduceAdd]
 simp only [c18r2, go_sem, Nat.reduceAdd]
 refine callK_of rfl w0 (.inl rfl) ?_
 simp only [go_sem, Nat.reduceAdd]
 refine callK_of rfl w1 (.inl rfl) ?_
 simp only [go_sem, Nat.reduceAdd]
 refine callK_of rfl w2 (.inl rfl) ?_
 simp only [c18r3, go_sem, Nat.reduceAdd]
 refine ⟨by decide, by decide, rfl, ints_one (xs := [5, 1, 0, 0]), ?_⟩
 refine callK_of rfl (k56 (l := [5, 1, 0, 0])) (.inr rfl) ?_
 simp only [go_sem]
 refine callK_of rfl w4 (.inl rfl) ?_
 simp only [c18r4, go_sem, Nat.reduceAdd]
 refine ⟨by decide, by decide, rfl, ints_one (xs := [0, 1, 1, 2]), ?_⟩
 refine callK_of rfl (k56 (l := [0, 1, 1, 2])) (.inr rfl) ?_
 simp only [go_sem]
 refine callK_of rfl w5 (.inl rfl) ?_
 simp only [c18r5, go_sem, Nat.reduceAdd]
 refine callK_of rfl w10 (.inl rfl) ?_
 simp only [c18r6, go_sem, Nat.reduceAdd]
 refine callK_of rfl w11 (.inr rfl) ?_
 simp only [c18r7, go_sem, Nat.reduceAdd]
 refine callK_of rfl w12 (.inr rfl) ?_
 simp only [c18r8, go_sem, Nat.reduceAdd]
 refine callK_of rfl w13 (.inl rfl) ?_
 simp only [c18r9, go_sem, Nat.reduceAdd]
 refine callK_of rfl w14 (.inl rfl) ?_
 simp only [c18r10, go_sem, Nat.reduceAdd]
 refine callK_of rfl w15 (.inl rfl) ?_
 simp only [c18r11, go_sem, Nat.reduceAdd]
 refine callK_of rfl w19 (.inr rfl) ?_
 simp only [c18r12, go_sem, Nat.reduceAdd]
 refine ⟨by decide, by decide, rfl, ints_one (xs := [2, 3]), ?_⟩
 refine callK_of rfl (k56 (l := [2, 3])) (.inr rfl) ?_
 simp only [go_sem]
 refine callK_of rfl w21 (.inl rfl) ?_
 simp only [go_sem, Nat.reduceAdd]
 refine callK_of rfl w22 (.inl rfl) ?_
 simp only [c18r13, go_sem, Nat.reduceAdd]
 refine ⟨by decide, by decide, rfl, ints_one (xs := [0, 1, 2]), ?_⟩
 refine callK_of rfl (k56 (l := [0, 1, 2])) (.inr rfl) ?_
 simp only [go_sem]
 refine callK_of rfl w24 (.inl rfl) ?_
 simp only [go_sem, Nat.reduceAdd]
 refine ⟨by decide, by decide, rfl, ints_one (xs := [0, 1]), ?_⟩
 refine callK_of rfl (k56 (l := [0, 1])) (.inr rfl) ?_
 simp only [go_sem]
 refine callK_of rfl w25 (.inl rfl) ?_
 simp only [c18r14, go_sem, Nat.reduceAdd]
 refine callK_of rfl w28 (.inr rfl) ?_
 simp only [c18r15, go_sem, Nat.reduceAdd]
 refine callK_of rfl w30 (.inl rfl) ?_
 simp only [c18r16, go_sem, Nat.reduceAdd]
 refine callK_of rfl w32 (.inl rfl) ?_
 simp only [c18r17, go_sem, Nat.reduceAdd]
 refine callK_of rfl w33 (.inl rfl) ?_
 simp only [c18r18, go_sem, Nat.reduceAdd]
 simp only [c18r20, go_sem]
 refine ⟨by decide, by decide, rfl, ints_one (xs := [0, 1, 2, 2]), ?_⟩
 refine callK_of rfl (k56 (l := [0, 1, 2, 2])) (.inr rfl) ?_
 simp only [go_sem]
 refine callK_of rfl (same33 (l := [0, 1, 2, 2])) (.inl rfl) ?_
 simp only [go_sem]
 refine ⟨by decide, by decide, rfl, ints_one (xs := [0, 1, 0, 1, 2]), ?_⟩
 refine callK_of rfl (k56 (l := [0, 1, 0, 1, 2])) (.inr rfl) ?_
 simp only [go_sem]
 refine callK_of rfl (same33 (l := [0, 1, 0, 1, 2])) (.inl rfl) ?_
 simp only [go_sem]
 refine ⟨by decide, by decide, rfl, ints_one (xs := [0, 1, 2]), ?_⟩
 refine callK_of rfl (k56 (l := [0, 1, 2])) (.inr rfl) ?_
 simp only [go_sem]
 refine callK_of rfl (same33 (l := [0, 1, 2])) (.inl rfl) ?_
 simp only [ints, hcs, go_sem, Nat.reduceAdd]
 refine callK_of rfl w29 (.inl rfl) ?_
 simp only [go_sem]
end Go.Proofs.Ytmcjoahnlbckoaa.Sk

/- A call of the examples of the chapter answers true. -/
namespace Go.Proofs.Ytmcjoahnlbckoaa.Sk
open Go Go.E Go.E.Sm
set_option maxRecDepth 10000
theorem wk {H : List ABlock} {k : AK} (hk : k (LV.ofResults [.bool true]) H none True) : callK Try.prog H 18 [] k := callK_of rfl works_ok (.inl rfl) hk
theorem k45 {K Q : List (Int × Int)} : E.Fn Try.prog 45 [bk K Q] [.bool (!greatB K Q && decide (ckB K Q = 0))] := by
 refine fn_of_row okf45 ?_
 simp only [FRow.start, f45, c45r0, c45r1, bk, SV.cells, go_sem, Nat.reduceAdd, Nat.reduceSub]
 refine callK_of (by simp only [bk, go_sem]) (k17 (K := K) (Q := Q)) (.inl rfl) ?_
 cases hg : greatB K Q with
 | true => simp only [go_sem]; rfl
 | false =>
  simp only [go_sem, Nat.reduceAdd]
  refine callK_of (by simp only [bk, go_sem]) (k24 (K := K) (Q := Q)) (.inl rfl) ?_
  simp only [go_sem]
  rfl
end Go.Proofs.Ytmcjoahnlbckoaa.Sk

/- Contracts of the laws' functions: the fewest rings with such ones, counts, rings by numbers. -/
namespace Go.Proofs.Ytmcjoahnlbckoaa.Sk
open Go Go.E Go.E.Sm
set_option maxRecDepth 10000
theorem rngs_pcs {cl : List (Int × Int)} {n : Nat} (h : 1 <= n) : ∃ g, rngs cl n = toI g /\ g ∈ pcs (rel0 cl) (fw cl n) n [] /\ rgP g (fw cl n) := by
 have h1 := bst_head (cl := cl) (n := n)
 rw [<- rngs_eq h] at h1
 obtain ⟨h2, h3⟩ := bst_dn h1
 obtain ⟨g', e, h4, hr⟩ := hgF_rg n 0 [] rgP_nil _ (by simpa [toI] using h2)
 rw [h4, rgP_dn hr] at h3
 subst h3
 refine ⟨g', h4, ?_, hr⟩
 rw [bst_M, h4, List.mem_map] at h1
 obtain ⟨g2, h5, h6⟩ := h1
 rw [<- toI_inj h6]
 have hsub : ∀ (f d : Nat) (h : List Nat), rgP h d -> d <= fw cl n -> ∀ g ∈ hgM (rel0 cl) (fw cl n) f d h, g ∈ pcs (rel0 cl) (fw cl n) f h := by
  intro f
  induction f with
  | zero => intro d h _ _ g hg; exact hg
  | succ f ih =>
   intro d h hr hd g hg
   rw [hgM, List.mem_append, List.mem_flatMap] at hg
   rw [pcs, List.mem_flatMap]
   rcases hg with ⟨r, h1, h2⟩ | hg
   ·have h1 := List.mem_range.1 h1
    split at h2
    ·rename_i hok
     exact ⟨r, List.mem_range.2 (by omega), by rw [if_pos hok]; exact ih d _ (rgP_old hr h1) hd g h2⟩
    ·cases h2
   ·split at hg
    ·exact ⟨d, List.mem_range.2 (by omega), by rw [if_pos (okN_fresh hr.1 (Nat.le_refl _))]; exact ih (d + 1) _ (rgP_new hr) (by omega) g hg⟩
    ·cases hg
 exact hsub n 0 [] rgP_nil (Nat.zero_le _) g2 h5
theorem ckR_good {K Q : List (Int × Int)} (h : ckB K Q = 0) {rings : List Int} (hl : rings.length = K.length) (hw : ∀ x ∈ rings, 0 <= x /\ x <= 7) (hp : ∀ i k : Nat, i < k -> k < K.length -> pO (i : Int) (k : Int) ∈ clsh K Q -> rings.getD i 0 ≠ rings.getD k 0) : ckR K Q rings = (((dn [] rings : Nat) : Int), 0) := by
 unfold ckR
 rw [if_pos h, if_pos hl, if_pos (within_of hw), if_neg, cpt_dn]
 rw [bad_iff h]
 rintro ⟨i, k, h1, h2, h3, h4⟩
 exact hp k i h2 h1 h4 h3
theorem ckR_rngs {K Q : List (Int × Int)} (h : ckB K Q = 0) : ckR K Q (rngs (clsh K Q) K.length) = (((fw (clsh K Q) K.length : Nat) : Int), 0) := by
 obtain ⟨hk1, hk8, _⟩ := ckB_zero h
 obtain ⟨g, h1, h2, h3⟩ := rngs_pcs (cl := clsh K Q) hk1
 have h4 := fw_le (cl := clsh K Q) (n := K.length)
 obtain ⟨h5, h6⟩ := mem_col.1 h2
 rw [h1, ckR_good h (by rw [toI_len]; exact h5) (fun x hx => by
  obtain ⟨y, hy, rfl⟩ := List.mem_map.1 hx
  have := h3.1 y hy
  omega) (fun i k hik hk hc e => by
  rw [toI_getD, toI_getD] at e
  exact (h6 k hk).2 i hik (by simpa [rel0] using hc) (by omega)), rgP_dn h3]
theorem k46 {K Q : List (Int × Int)} (h0 : ckB K Q = 0) : E.Fn Try.prog 46 [bk K Q] [.int .i64 (fw (clsh K Q) K.length : Nat), ints (rngs (clsh K Q) K.length), .bool true] := by
 refine fn_of_row okf46 ?_
 obtain ⟨hk1, hk8, _⟩ := ckB_zero h0
 have h27 := k27 (K := K) (Q := Q)
 have h29 := k29 (K := K) (Q := Q)
 have h19 := k19 (K := K) (Q := Q) (rings := rngs (clsh K Q) K.length)
 have h20 := k20 (K := K) (Q := Q) (rings := rngs (clsh K Q) K.length)
 unfold fewR at h27
 unfold rngR at h29
 rw [if_pos h0, fewN_eq hk1] at h27
 rw [if_pos h0] at h29
 rw [ckR_rngs h0] at h19 h20
 have hp := fw_pos (cl := clsh K Q) hk1
 have hle := fw_le (cl := clsh K Q) (n := K.length)
 generalize rngs (clsh K Q) K.length = l at *
 generalize fw (clsh K Q) K.length = w at *
 have hw1 : (1 : Int) <= (w : Int) := by omega
 have hw2 : (w : Int) <= (K.length : Int) := by omega
 simp only [FRow.start, f46, c46r0, c46r1, bk, SV.cells, go_sem, Nat.reduceAdd, Nat.reduceSub]
 refine callK_of (by simp only [bk, go_sem]) h27 (.inl rfl) ?_
 simp only [c46r2, go_sem, Nat.reduceAdd]
 refine callK_of (by simp only [bk, go_sem]) h29 (.inr (by simp only [bk, go_sem])) ?_
 simp only [c46r3, c46r5, go_sem, Nat.reduceAdd]
 refine callK_of (by simp only [bk, go_sem]) h19 (.inl rfl) ?_
 simp only [c46r6, go_sem, Nat.reduceAdd]
 refine callK_of (by simp only [bk, go_sem]) h20 (.inl rfl) ?_
 simp only [c46r7, hw1, hw2, kS, go_sem, Nat.reduceAdd, Nat.reduceLeDiff]
 try (intro _)
 try simp only [hw1, hw2, go_sem, ↓reduceIte, reduceCtorEq, Nat.reduceAdd, Nat.reduceSub, Nat.reduceLT, Nat.reduceLeDiff, Int.reduceLE, Int.reduceLT, Int.reduceToNat, Nat.reduceMul, Int.reduceNeg]
 done
end Go.Proofs.Ytmcjoahnlbckoaa.Sk

/- Contract of the law's own function: the numbers of a book's keys. -/
namespace Go.Proofs.Ytmcjoahnlbckoaa.Sk
open Go Go.E Go.E.Sm
set_option maxRecDepth 10000
end Go.Proofs.Ytmcjoahnlbckoaa.Sk

/- Rings that are right are at least as many as the fewest, as a group's keys, and three if there is a circle. -/
namespace Go.Proofs.Ytmcjoahnlbckoaa.Sk
open Go Go.E
theorem fw_col {cl : List (Int × Int)} {n : Nat} : ∃ g : List Nat, g.length = n /\ ∀ k, k < n -> g.getD k 0 < fw cl n /\ ∀ i, i < k -> rel0 cl i k = true -> g.getD i 0 ≠ g.getD k 0 := by
 have h := (pcs_some (cl := cl) (n := n) (m := fw cl n)).2 (Nat.le_refl _)
 cases hp : pcs (rel0 cl) (fw cl n) n [] with
 | nil => rw [hp] at h; exact absurd rfl h
 | cons g l => exact ⟨g, mem_col.1 (by rw [hp]; simp)⟩
end Go.Proofs.Ytmcjoahnlbckoaa.Sk

/- Walks from key to key by clashes: closed ones of an odd length. -/
namespace Go.Proofs.Ytmcjoahnlbckoaa.Sk
open Go Go.E
def wlk (cl : List (Int × Int)) : Nat -> Int -> Int -> Prop
 | 0, a, b => a = b
 | s + 1, a, b => ∃ y, wlk cl s a y /\ pO y b ∈ cl
/-! The reference's search. -/
/-! Closed walks. -/
end Go.Proofs.Ytmcjoahnlbckoaa.Sk

/- The fullest day is one on which some key is taken out. -/
namespace Go.Proofs.Ytmcjoahnlbckoaa.Sk
open Go Go.E
end Go.Proofs.Ytmcjoahnlbckoaa.Sk

/- The circle that is found is a shortest one; without circles two rings are enough. -/
namespace Go.Proofs.Ytmcjoahnlbckoaa.Sk
open Go Go.E
/-! Two rings. -/
def conn (cl : List (Int × Int)) (x y : Int) : Prop := ∃ s, wlk cl s x y
noncomputable def repr' (cl : List (Int × Int)) (x : Int) : Int := Classical.epsilon (conn cl x)
end Go.Proofs.Ytmcjoahnlbckoaa.Sk

/- Without quarrels: the fewest rings, the fullest day and the greatest groups. -/
namespace Go.Proofs.Ytmcjoahnlbckoaa.Sk
open Go Go.E
theorem fw_mono {cl cl' : List (Int × Int)} {n : Nat} (h : ∀ p ∈ cl, p ∈ cl') : fw cl n <= fw cl' n := by
 rw [<- pcs_some]
 intro e
 have h1 := List.head?_eq_none_iff.1 e
 obtain ⟨g, h2, h3⟩ := fw_col (cl := cl') (n := n)
 have : g ∈ pcs (rel0 cl) (fw cl' n) n [] := by
  rw [mem_col]
  exact ⟨h2, fun k hk => ⟨(h3 k hk).1, fun i hi hR => (h3 k hk).2 i hi (by simp only [rel0, decide_eq_true_eq] at *; exact h _ hR)⟩⟩
 rw [h1] at this
 cases this
theorem pO_nat {i k : Nat} (h : i < k) : pO (i : Int) (k : Int) = ((i : Int), (k : Int)) := by
 unfold pO; apply Prod.ext <;> simp only <;> omega
end Go.Proofs.Ytmcjoahnlbckoaa.Sk

/- A book of which all days are stretched, and later. -/
namespace Go.Proofs.Ytmcjoahnlbckoaa.Sk
open Go Go.E
def str (t l : Int) (k : Int × Int) : Int × Int := (k.1 * t + l, k.2 * t + l)
end Go.Proofs.Ytmcjoahnlbckoaa.Sk

/- Two books of which no keys clash: as many rings as that which needs more, and ways are multiplied. -/
namespace Go.Proofs.Ytmcjoahnlbckoaa.Sk
open Go Go.E
end Go.Proofs.Ytmcjoahnlbckoaa.Sk

/- Two books put together, the second one's days later and its keys behind. -/
namespace Go.Proofs.Ytmcjoahnlbckoaa.Sk
open Go Go.E
theorem bef_trans {p q r : Int × Int} (h1 : bef p q) (h2 : bef q r) : bef p r := by unfold bef at *; omega
theorem ckQ_iff {m : Int} : ∀ {Q : List (Int × Int)} {last : Int × Int}, ckQ m last Q = 0 ↔ (∀ q ∈ Q, 0 <= q.1 /\ q.1 < q.2 /\ q.2 <= m) /\ (last :: Q).Pairwise bef
 | [], last => by simp [ckQ]
 | q :: Q, last => by
  rw [ckQ_cons]
  constructor
  ·intro h
   split at h
   ·cases h
   ·rename_i hn
    have hb : bef last q := Classical.byContradiction fun h => hn (.inr h)
    have hr : ¬ (q.1 < 0 \/ q.2 <= q.1 \/ m < q.2) := fun h => hn (.inl h)
    obtain ⟨h1, h2⟩ := ckQ_iff.1 h
    refine ⟨fun x hx => ?_, List.pairwise_cons.2 ⟨fun x hx => ?_, h2⟩⟩
    ·rcases List.mem_cons.1 hx with rfl | hx
     ·omega
     ·exact h1 x hx
    ·rcases List.mem_cons.1 hx with rfl | hx
     ·exact hb
     ·exact bef_trans hb ((List.pairwise_cons.1 h2).1 x hx)
  ·rintro ⟨h1, h2⟩
   obtain ⟨h3, h4⟩ := List.pairwise_cons.1 h2
   have h5 := h1 q (by simp)
   rw [if_neg, ckQ_iff]
   ·exact ⟨fun x hx => h1 x (by simp [hx]), h4⟩
   ·rintro (h | h)
    ·omega
    ·exact h (h3 q (by simp))
end Go.Proofs.Ytmcjoahnlbckoaa.Sk

/- Contract of the reference's function: whether two keys are on the same ring. -/
namespace Go.Proofs.Ytmcjoahnlbckoaa.Sk
open Go Go.E Go.E.Sm
set_option maxRecDepth 10000
end Go.Proofs.Ytmcjoahnlbckoaa.Sk

/- Whether two keys are on the same ring, either way. -/
namespace Go.Proofs.Ytmcjoahnlbckoaa.Sk
open Go Go.E
end Go.Proofs.Ytmcjoahnlbckoaa.Sk

/- One quarrel more: where it is put, that the book stays valid, and what becomes of the fewest rings. -/
namespace Go.Proofs.Ytmcjoahnlbckoaa.Sk
open Go Go.E
def qi (p : Int × Int) : List (Int × Int) -> List (Int × Int)
 | [] => [p]
 | x :: l => if bef p x then p :: x :: l else x :: qi p l
theorem qi_len {p : Int × Int} : ∀ l : List (Int × Int), (qi p l).length = l.length + 1
 | [] => rfl
 | x :: l => by
  rw [qi]
  split
  ·rfl
  ·rw [List.length_cons, qi_len l, List.length_cons]
theorem mem_qi {p x : Int × Int} : ∀ {l : List (Int × Int)}, x ∈ qi p l ↔ x = p \/ x ∈ l
 | [] => by simp [qi]
 | y :: l => by
  rw [qi]
  split
  ·rw [List.mem_cons]
  ·rw [List.mem_cons, mem_qi, List.mem_cons]
   exact ⟨fun h => h.elim (fun h => .inr (.inl h)) fun h => h.elim .inl fun h => .inr (.inr h), fun h => h.elim (fun h => .inr (.inl h)) fun h => h.elim .inl fun h => .inr (.inr h)⟩
theorem bef_tri {p q : Int × Int} (h : p ≠ q) (hb : ¬ bef p q) : bef q p := by
 have : ¬ (p.1 = q.1 /\ p.2 = q.2) := fun e => h (Prod.ext e.1 e.2)
 unfold bef at *
 omega
theorem qi_pw {p : Int × Int} : ∀ {l : List (Int × Int)}, l.Pairwise bef -> p ∉ l -> (qi p l).Pairwise bef
 | [], _, _ => by simp [qi]
 | x :: l, h, hn => by
  obtain ⟨h1, h2⟩ := List.pairwise_cons.1 h
  rw [qi]
  split
  ·rename_i hb
   exact List.pairwise_cons.2 ⟨fun y hy => by
    rcases List.mem_cons.1 hy with rfl | hy
    ·exact hb
    ·exact bef_trans hb (h1 y hy), h⟩
  ·rename_i hb
   refine List.pairwise_cons.2 ⟨fun y hy => ?_, qi_pw h2 fun h => hn (List.mem_cons_of_mem _ h)⟩
   rcases mem_qi.1 hy with rfl | hy
   ·exact bef_tri (fun e => hn (by rw [e]; simp)) hb
   ·exact h1 y hy
theorem ckB_qi {K Q : List (Int × Int)} {p : Int × Int} (h : ckB K Q = 0) (hp : 0 <= p.1 /\ p.1 < p.2 /\ p.2 < K.length) (hn : p ∉ Q) (hl : Q.length + 1 <= 12) : ckB K (qi p Q) = 0 := by
 obtain ⟨a1, a8, _, a3, a4⟩ := ckB_zero h
 obtain ⟨a5, a6⟩ := ckQ_iff.1 a4
 obtain ⟨a7, a9⟩ := List.pairwise_cons.1 a6
 unfold ckB
 rw [if_pos (within_of (by simp; omega)), if_neg (by rw [qi_len]; omega), if_neg (by rw [a3]; simp), ckQ_iff]
 refine ⟨fun q hq => ?_, List.pairwise_cons.2 ⟨fun q hq => ?_, qi_pw a9 hn⟩⟩
 ·rcases mem_qi.1 hq with rfl | hq
  ·omega
  ·exact a5 q hq
 ·rcases mem_qi.1 hq with rfl | hq
  ·unfold bef; simp only; omega
  ·exact a7 q hq
theorem clsh_qi {K Q : List (Int × Int)} {p x : Int × Int} : x ∈ clsh K (qi p Q) ↔ x = p \/ x ∈ clsh K Q := by
 rw [mem_clsh, mem_clsh, mem_qi, or_assoc]
theorem rel0_mem {cl : List (Int × Int)} {a b : Nat} : rel0 cl a b = true ↔ pO (a : Int) (b : Int) ∈ cl := by unfold rel0; exact decide_eq_true_iff
theorem set_getD {g : List Nat} {v m k : Nat} (hk : k < g.length) : (g.set v m).getD k 0 = if v = k then m else g.getD k 0 := by
 rw [List.getD_eq_getElem?_getD, List.getElem?_set, List.getD_eq_getElem?_getD]
 split
 ·rename_i e; subst e; rw [if_pos hk]; rfl
 ·rfl
theorem recol {R R' : Nat -> Nat -> Bool} {m n v : Nat} (h : ∀ i k, i < k -> k < n -> i ≠ v -> k ≠ v -> R' i k = true -> R i k = true) (hp : 0 < colC R m n) : 0 < colC R' (m + 1) n := by
 obtain ⟨g, hg⟩ := List.exists_mem_of_length_pos hp
 obtain ⟨h1, h2⟩ := mem_col.1 hg
 refine List.length_pos_of_mem (a := g.set v m) (mem_col.2 ⟨by rw [List.length_set]; exact h1, fun k hk => ?_⟩)
 have hk2 := (h2 k hk).1
 rw [set_getD (by omega)]
 refine ⟨by split <;> omega, fun i hi hr => ?_⟩
 have hi2 := (h2 i (by omega)).1
 rw [set_getD (by omega)]
 split
 ·split <;> omega
 ·split
  ·omega
  ·exact (h2 k hk).2 i hi (h i k hi hk (by omega) (by omega) hr)
theorem fw_plus {cl cl' : List (Int × Int)} {n a b : Nat} (hab : a ≠ b) (h : ∀ x, x ∈ cl' ↔ x = pO (a : Int) (b : Int) \/ x ∈ cl) : fw cl n <= fw cl' n /\ fw cl' n <= fw cl n + 1 := by
 refine ⟨fw_mono fun x hx => (h x).2 (.inr hx), ?_⟩
 rw [<- colC_pos]
 refine recol (R := rel0 cl) (v := b) (fun i k hik hk h1 h2 hr => ?_) (colC_pos.2 (Nat.le_refl _))
 rcases (h _).1 (rel0_mem.1 hr) with e | e
 ·rcases pO_eq e with ⟨e1, e2⟩ | ⟨e1, e2⟩ <;> omega
 ·exact rel0_mem.2 e
theorem fw_more {cl cl' : List (Int × Int)} {n : Nat} (h : ∀ a b : Nat, a < b -> b < n -> (pO (a : Int) (b : Int) ∈ cl' ↔ pO (a : Int) (b : Int) ∈ cl)) : fw cl n <= fw cl' (n + 1) /\ fw cl' (n + 1) <= fw cl n + 1 := by
 constructor
 ·rw [<- colC_pos]
  obtain ⟨g, hg⟩ := List.exists_mem_of_length_pos ((colC_pos (cl := cl') (n := n + 1)).2 (Nat.le_refl _))
  obtain ⟨h1, h2⟩ := mem_col.1 hg
  have ht : ∀ k, k < n -> (g.take n).getD k 0 = g.getD k 0 := fun k hk => by
   rw [List.getD_eq_getElem?_getD, List.getElem?_take, if_pos hk, List.getD_eq_getElem?_getD]
  refine List.length_pos_of_mem (a := g.take n) (mem_col.2 ⟨by rw [List.length_take]; omega, fun k hk => ?_⟩)
  rw [ht k hk]
  refine ⟨(h2 k (by omega)).1, fun i hi hr => ?_⟩
  rw [ht i (by omega)]
  exact (h2 k (by omega)).2 i hi (rel0_mem.2 ((h i k hi hk).2 (rel0_mem.1 hr)))
 ·rw [<- colC_pos]
  obtain ⟨g, hg⟩ := List.exists_mem_of_length_pos ((colC_pos (cl := cl) (n := n)).2 (Nat.le_refl _))
  obtain ⟨h1, h2⟩ := mem_col.1 hg
  have hL : ∀ k, k < n -> (g ++ [fw cl n]).getD k 0 = g.getD k 0 := fun k hk => getD_snoc (by omega)
  have hR : (g ++ [fw cl n]).getD n 0 = fw cl n := by rw [<- h1]; exact getD_snoc_last
  refine List.length_pos_of_mem (a := g ++ [fw cl n]) (mem_col.2 ⟨by rw [List.length_append, h1]; rfl, fun k hk => ?_⟩)
  by_cases hkn : k = n
  ·subst hkn
   rw [hR]
   refine ⟨by omega, fun i hi _ => ?_⟩
   rw [hL i hi]
   have := (h2 i hi).1
   omega
  ·have hk : k < n := by omega
   rw [hL k hk]
   have := h2 k hk
   refine ⟨by omega, fun i hi hr => ?_⟩
   rw [hL i (by omega)]
   exact this.2 i hi (rel0_mem.2 ((h i k hi hk).1 (rel0_mem.1 hr)))
end Go.Proofs.Ytmcjoahnlbckoaa.Sk

/- A row that is frozen from there on, reckoned. -/
namespace Go.Proofs.Ytmcjoahnlbckoaa.Sk
open Go Go.E Go.E.Sm
@[go_sem] theorem awp_zap' {P : Program} {n0 t off : Nat} {a : ACode} {fr : List LV} {H : List ABlock} {Q : AExit -> AState -> Prop} : awp P n0 (.zap t off a) ⟨fr, H⟩ Q = zapK H off (fun H' => awp P n0 a { fr := fr, hp := H' } Q) (fget fr t) := propext Iff.rfl
end Go.Proofs.Ytmcjoahnlbckoaa.Sk

/- The code of a law in the value semantics. -/
namespace Go.Proofs.Ytmcjoahnlbckoaa.Sk
open Go Go.E
def c52r0 : List AOper := [
 oP 3 (.boxS (.t 0)),
 oP 6 (.alloc [(.full []), (.full [])]),
 oP 7 (.mov bF)]
def c52r1 : List AOper := [
 oM 13 1,
 oM 14 2,
 oP 15 (.min [(.t 13), (.t 14)]),
 oM 16 1,
 oM 17 2,
 oP 18 (.max [(.t 16), (.t 17)]),
 oP 19 (.build [(.s (.int .i64 0)), (.s (.int .i64 0))] [(0, 1, (.t 15)), (1, 1, (.t 18))]),
 oP 8 (.alloc [(.s (.int .i64 0)), (.s (.int .i64 0))]),
 ⟨none, none, .store 2 (.t 8) (.t 19)⟩]
def c52r2 : List AOper := [
 oF 20 0 3,
 oL 21 20,
 oP 22 (.build [(.full []), (.full [])] [(0, 1, (.t 21))]),
 oP 9 (.alloc [(.full []), (.full [])]),
 ⟨none, none, .store 2 (.t 9) (.t 22)⟩]
def c52r3 : List AOper := [
 oP 10 (.mov bF)]
def c52r4 : List AOper := [
 oP 11 (.mov (nI 0))]
def c52r5 : List AOper := [
 oM 23 11,
 oF 24 1 3,
 oL 25 24,
 oN 26 25,
 oP 27 (.cmp .lss (.t 23) (.t 26))]
def c52r6 : List AOper := [
 oF 30 1 3,
 oL 31 30,
 oM 32 11,
 oP 33 (.idxA 2 (.t 31) (.t 32)),
 oP 34 (.load 2 true (.t 33)),
 oP 12 (.alloc [(.s (.int .i64 0)), (.s (.int .i64 0))]),
 ⟨none, none, .store 2 (.t 12) (.t 34)⟩]
def c52r7 : List AOper := [
 oP 35 (.load 2 true (.t 12)),
 oP 36 (.load 2 true (.t 8)),
 oP 37 (.eql true [(.int .i64), (.int .i64)] false (.t 35) (.t 36))]
def c52r8 : List AOper := [
 oP 38 (.load 2 true (.t 3)),
 ⟨none, none, .store 2 (.t 6) (.t 38)⟩,
 oP 7 (.mov bF)]
def c52r9 : List AOper := [
 oM 39 10,
 oP 40 (.not (.t 39)),
 oM 41 40,
 oG 42 41 true (.idxArrA 2 1 (.t 12) (nI 0)),
 oG 43 41 true (.load 1 false (.t 42)),
 oG 44 41 true (.idxArrA 2 1 (.t 8) (nI 0)),
 oG 45 41 true (.load 1 false (.t 44)),
 oG 46 41 true (.cmp .gtr (.t 43) (.t 45)),
 oH 47 41 true 46,
 oG 48 47 false (.idxArrA 2 1 (.t 12) (nI 0)),
 oG 49 47 false (.load 1 false (.t 48)),
 oG 50 47 false (.idxArrA 2 1 (.t 8) (nI 0)),
 oG 51 47 false (.load 1 false (.t 50)),
 oG 52 47 false (.cmp .eql (.t 49) (.t 51)),
 oH 53 47 false 52,
 oG 54 53 true (.idxArrA 2 1 (.t 12) (nI 1)),
 oG 55 53 true (.load 1 false (.t 54)),
 oG 56 53 true (.idxArrA 2 1 (.t 8) (nI 1)),
 oG 57 53 true (.load 1 false (.t 56)),
 oG 58 53 true (.cmp .gtr (.t 55) (.t 57)),
 oG 59 47 false (.pick (.t 53) (.t 58) bF),
 oG 60 41 true (.pick (.t 47) bT (.t 59)),
 oP 61 (.pick (.t 41) (.t 60) bF)]
def c52r10 : List AOper := [
 oF 62 1 9,
 oL 63 62,
 oP 64 (.load 2 true (.t 8)),
 oP 65 (.buildSl 2 1 (.agg [(.int .i64 0), (.int .i64 0)]) [(0, (.t 64))]),
 oP 66 (.append 2 16 (.t 63) (.t 65)),
 oF 67 1 9,
 ⟨none, none, .store 1 (.t 67) (.t 66)⟩,
 oP 10 (.mov bT)]
def c52r11 : List AOper := [
 oF 68 1 9,
 oL 69 68,
 oP 70 (.load 2 true (.t 12)),
 oP 71 (.buildSl 2 1 (.agg [(.int .i64 0), (.int .i64 0)]) [(0, (.t 70))]),
 oP 72 (.append 2 16 (.t 69) (.t 71)),
 oF 73 1 9,
 ⟨none, none, .store 1 (.t 73) (.t 72)⟩]
def c52r12 : List AOper := [
 oM 28 11,
 oP 29 (.arith .add (.t 28) (nI 1)),
 oM 11 29]
def c52l13 : ACode := (.seq (.seq (.reg 0 c52r5) (.cond (.t 27) .skip (.exit 0))) (.seq (.block 1 (.seq (.reg 1 c52r6) (.seq (.seq (.reg 0 c52r7) (.cond (.t 37) (.seq (.reg 0 c52r8) .ret) .skip)) (.seq (.seq (.reg 0 c52r9) (.cond (.t 61) (.reg 1 c52r10) .skip)) (.reg 1 c52r11))))) (.reg 0 c52r12)))
def c52l13m : List Bool := [fF,fF,fF,tT,fF,fF,tT,fF,tT,tT,tT,tT,fF,fF,fF,fF,fF,fF,fF,fF,fF,fF,fF,fF,fF,fF,fF,fF,fF,fF,fF,fF,fF,fF,fF,fF,fF,fF,fF,fF,fF,fF,fF,fF,fF,fF,fF,fF,fF,fF,fF,fF,fF,fF,fF,fF,fF,fF,fF,fF,fF,fF,fF,fF,fF,fF,fF,fF,fF,fF,fF,fF,fF,fF,fF,fF,fF,fF,fF,fF,fF,fF,fF,fF,fF,fF,fF]
def c52r14 : List AOper := [
 oM 74 10,
 oP 75 (.not (.t 74))]
def c52r15 : List AOper := [
 oF 76 1 9,
 oL 77 76,
 oP 78 (.load 2 true (.t 8)),
 oP 79 (.buildSl 2 1 (.agg [(.int .i64 0), (.int .i64 0)]) [(0, (.t 78))]),
 oP 80 (.append 2 16 (.t 77) (.t 79)),
 oF 81 1 9,
 ⟨none, none, .store 1 (.t 81) (.t 80)⟩]
def c52r16 : List AOper := [
 oP 82 (.load 2 true (.t 9)),
 oF 83 1 9,
 oP 84 (.loadX 1 false (.t 83) 6),
 oN 85 84,
 oP 86 (.cmp .leq (.t 85) (nI 12)),
 ⟨none, none, .store 2 (.t 6) (.t 82)⟩,
 oM 7 86]
def f52 : FRow := ⟨(.seq (.reg 1 c52r0) (.seq (.reg 1 c52r1) (.seq (.reg 1 c52r2) (.seq (.reg 0 c52r3) (.seq (.seq (.reg 0 c52r4) (.block 0 (.loop c52l13m [(9, some 1, 1)] c52l13))) (.seq (.seq (.reg 0 c52r14) (.cond (.t 75) (.reg 1 c52r15) .skip)) (.seq (.reg 0 c52r16) .ret))))))), [.cell 6 2 true, .tmp 7], 87⟩
theorem okf52 : f52.Ok Try.prog 52 := ⟨_, _, Try.func52, rfl, by kernel_rfl, by kernel_rfl, by kernel_rfl⟩
end Go.Proofs.Ytmcjoahnlbckoaa.Sk

/- Contract of the laws' function: a book with one quarrel more. -/
namespace Go.Proofs.Ytmcjoahnlbckoaa.Sk
open Go Go.E Go.E.Sm
set_option maxRecDepth 10000
@[go_sem] theorem ldOK_loc {H : List ABlock} {n b off : Nat} {g : Bool} {k : AK} : ldOK H n g k (.loc b off) = ldOB H off n g k H[b]? := propext Iff.rfl
@[go_sem] theorem ldOK_ptr {H : List ABlock} {n : Nat} {g : Bool} {k : AK} {cs : List SV} : ldOK H n g k (.s (.ptr cs)) = partS H cs 0 n k g := propext Iff.rfl
@[go_sem] theorem ldOB_obj {H : List ABlock} {n off : Nat} {g : Bool} {k : AK} {cs : List LV} : ldOB H off n g k (some (.obj cs)) = partL H cs off n k g := propext Iff.rfl
theorem minL_two {a b : Int} : minL [a, b] = min a b := by
 simp only [minL, List.foldl]; split <;> omega
theorem maxL_two {a b : Int} : maxL [a, b] = max a b := by
 simp only [maxL, List.foldl]; split <;> omega
theorem qi_not {p : Int × Int} : ∀ {l : List (Int × Int)}, (∀ x ∈ l, ¬ bef p x) -> qi p l = l ++ [p]
 | [], _ => rfl
 | x :: l, h => by
  rw [qi, if_neg (h x (by simp)), qi_not fun y hy => h y (by simp [hy])]; rfl
theorem qi_new {p x : Int × Int} : ∀ {l : List (Int × Int)}, (∀ y ∈ l, ¬ bef p y) -> bef p x -> qi p (l ++ [x]) = l ++ [p] ++ [x]
 | [], _, hb => by rw [List.nil_append, qi, if_pos hb]; rfl
 | y :: l, h, hb => by
  rw [List.cons_append, qi, if_neg (h y (by simp)), qi_new (fun z hz => h z (by simp [hz])) hb]; rfl
theorem qi_old {p x : Int × Int} : ∀ {l : List (Int × Int)}, (∃ y ∈ l, bef p y) -> qi p (l ++ [x]) = qi p l ++ [x]
 | [], ⟨_, h, _⟩ => by cases h
 | y :: l, ⟨z, h, hb⟩ => by
  rw [List.cons_append, qi, qi]
  split
  ·rfl
  ·rename_i hn
   rcases List.mem_cons.1 h with rfl | h
   ·exact absurd hb hn
   ·rw [qi_old ⟨z, h, hb⟩]; rfl
theorem slice_two {K : List (Int × Int)} {n : Nat} (h : n = K.length) : sliceOf 0 n 2 ((twoL K).map (.int .i64)) = some (kS K) := by
 subst h
 rw [sliceOf, if_pos (by rw [List.length_map, twoL_len]; omega), elems, if_neg (by decide), List.drop_zero, chunk_two]; rfl
set_option maxHeartbeats 2000000 in
theorem k52 {K Q : List (Int × Int)} {one two : Int} (hQ : Q.length <= 100) : E.Fn Try.prog 52 [bk K Q, .int .i64 one, .int .i64 two] (if pO one two ∈ Q then [bk K Q, .bool false] else [bk K (qi (pO one two) Q), .bool (decide (Q.length + 1 <= 12))]) := by
 refine fn_of_row okf52 ?_
 have hmn : minL [one, two] = (pO one two).1 := minL_two
 have hmx : maxL [one, two] = (pO one two).2 := maxL_two
 generalize pO one two = q at *
 simp only [FRow.start, f52, c52r0, c52r1, bk, kS, SV.cells, hmn, hmx, splice, c52r2, c52r3, c52r4, go_sem, ↓reduceIte, reduceCtorEq, Nat.reduceAdd, Nat.reduceSub, Nat.reduceLeDiff]
 refine loop_rule (fun n τ => ∃ (i : Nat) (dn : Bool), n = Q.length - i /\ i <= Q.length /\ q ∉ Q.take i /\ (dn = false -> ∀ x ∈ Q.take i, ¬ bef q x) /\ (dn = true -> ∃ x ∈ Q.take i, bef q x) /\
  τ = ⟨[.any, .any, .any, .s (.ptr [.slice (K.map pr), .slice (Q.map pr)]), .any, .any, .loc 0 0, .any, .loc 1 0, .loc 2 0, .s (.bool dn), .s (.int .i64 i), .any, .any, .any, .any, .any, .any, .any, .any, .any, .any, .any, .any, .any, .any, .any, .any, .any, .any, .any, .any, .any, .any, .any, .any, .any, .any, .any, .any, .any, .any, .any, .any, .any, .any, .any, .any, .any, .any, .any, .any, .any, .any, .any, .any, .any, .any, .any, .any, .any, .any, .any, .any, .any, .any, .any, .any, .any, .any, .any, .any, .any, .any, .any, .any, .any, .any, .any, .any, .any, .any, .any, .any, .any, .any, .any], [.obj [.full [], .full []], .obj [.s (.int .i64 q.1), .s (.int .i64 q.2)], .obj [.s (.slice (K.map pr)), .sl 3 0 (i + if dn = true then 1 else 0) 2 false], .row ((twoL (if dn = true then qi q (Q.take i) else Q.take i)).map (.int .i64))]⟩) Q.length (promo_cell2 rfl rfl rfl) ?_ ?_
 ·simp only [c52l13m, go_sem, ↓reduceIte, reduceCtorEq, Nat.reduceAdd, Nat.reduceLeDiff]
  exact ⟨0, false, rfl, Nat.zero_le _, by simp, by simp, by simp, rfl⟩
 ·rintro I n τ ⟨i, dn, rfl, hi, hn, hd1, hd2, rfl⟩ hI
  simp only [c52l13, c52r5, go_sem, ↓reduceIte, Nat.reduceAdd, Nat.reduceLeDiff]
  intro _
  refine ⟨fun hlt => ?_, fun hge => ?_⟩
  ·have hlt : i < Q.length := by omega
   have hx : Q[i]? = some Q[i] := List.getElem?_eq_getElem hlt
   have hts : Q.take (i + 1) = Q.take i ++ [Q[i]] := by rw [List.take_succ, hx]; rfl
   have hmem : Q[i] ∈ Q := List.getElem_mem hlt
   have htl : (Q.take i).length = i := by rw [List.length_take]; omega
   generalize Q[i] = x at hx hts hmem
   by_cases hxq : x = q
   ·subst hxq
    simp only [c52r6, hx, pr, SV.cells, splice, c52r7, c52r8, go_sem, Nat.reduceAdd, Nat.reduceLeDiff]
    rw [if_pos hmem]
   ·have hne : ¬ (SV.agg [.int .i64 x.1, .int .i64 x.2] = SV.agg [.int .i64 q.1, .int .i64 q.2]) := fun e => by
     simp only [SV.agg.injEq, List.cons.injEq, SV.int.injEq, true_and, and_true] at e
     exact hxq (Prod.ext e.1 e.2)
    cases dn with
    | true =>
     have hb := hd2 rfl
     have hq2 := qi_old (x := x) hb
     have htl2 : (twoL (qi q (Q.take i))).length = (i + 1) * 2 := by rw [twoL_len, qi_len]; omega
     have e2 : (twoL (qi q (Q.take i))).map (SV.int .i64) ++ flatE [SV.agg [.int .i64 x.1, .int .i64 x.2]] = (twoL (qi q (Q.take (i + 1)))).map (SV.int .i64) := by rw [hts, hq2, twoL_snoc, List.map_append]; rfl
     have hn2 : q ∉ Q.take (i + 1) := by
      rw [hts, List.mem_append, List.mem_singleton]
      exact fun h => h.elim hn fun h => hxq h.symm
     simp only [c52r6, hx, pr, SV.cells, splice, c52r7, hne, c52r9, c52r11, Nat.reduceBEq, Bool.false_eq_true, go_sem, ↓reduceIte, Nat.reduceAdd, Nat.reduceLeDiff, Nat.reduceMul]
     refine ⟨by decide, by decide, rfl, one_pr, one_pr, htl2.symm, by omega, by omega, ?_⟩
     rw [e2]
     simp only [c52r12, c52l13m, go_sem, ↓reduceIte, reduceCtorEq, Nat.reduceLeDiff]
     refine ⟨inR_small (by omega) (by omega), hI (Q.length - (i + 1)) _ (by omega) ⟨i + 1, true, rfl, by omega, hn2, (by simp), fun _ => ?_, rfl⟩⟩
     obtain ⟨y, hy, hyb⟩ := hb
     exact ⟨y, by rw [hts]; simp [hy], hyb⟩
    | false =>
     have hb := hd1 rfl
     have htl2 : (twoL (Q.take i)).length = (i + 0) * 2 := by rw [twoL_len]; omega
     have htl3 : (twoL (Q.take i ++ [q])).length = (i + 0 + 1) * 2 := by rw [twoL_len, List.length_append, List.length_singleton]; omega
     have hn2 : q ∉ Q.take (i + 1) := by
      rw [hts, List.mem_append, List.mem_singleton]
      exact fun h => h.elim hn fun h => hxq h.symm
     have e2 : (twoL (Q.take i)).map (SV.int .i64) ++ flatE [SV.agg [.int .i64 q.1, .int .i64 q.2]] = (twoL (Q.take i ++ [q])).map (SV.int .i64) := by rw [twoL_snoc, List.map_append]; rfl
     simp only [c52r6, hx, pr, SV.cells, splice, c52r7, hne, c52r9, Bool.false_eq_true, go_sem, ↓reduceIte, Nat.reduceAdd, Nat.reduceLeDiff, Int.reduceLE, Int.reduceLT, Int.reduceToNat]
     refine ⟨fun h1 => ?a, fun h1 => ⟨fun h2 => ⟨fun h3 => ?b, fun h3 => ?c⟩, fun h2 => ?d⟩⟩
     case a | b =>
      have hbx : bef q x := by unfold bef; omega
      have e3 : (twoL (Q.take i ++ [q])).map (SV.int .i64) ++ flatE [SV.agg [.int .i64 x.1, .int .i64 x.2]] = (twoL (qi q (Q.take (i + 1)))).map (SV.int .i64) := by rw [hts, qi_new hb hbx, twoL_snoc (K := Q.take i ++ [q]), List.map_append]; rfl
      simp only [c52r10, splice, Nat.reduceBEq, Bool.false_eq_true, go_sem, ↓reduceIte, Nat.reduceAdd, Nat.reduceLeDiff, Nat.reduceMul]
      refine ⟨by decide, by decide, rfl, one_pr, one_pr, htl2.symm, by omega, by omega, ?_⟩
      rw [e2]
      simp only [c52r11, splice, Nat.reduceBEq, Bool.false_eq_true, go_sem, ↓reduceIte, Nat.reduceAdd, Nat.reduceLeDiff, Nat.reduceMul]
      refine ⟨by decide, by decide, rfl, one_pr, one_pr, htl3.symm, by omega, by omega, ?_⟩
      rw [e3]
      simp only [c52r12, c52l13m, go_sem, ↓reduceIte, reduceCtorEq, Nat.reduceLeDiff]
      exact ⟨inR_small (by omega) (by omega), hI (Q.length - (i + 1)) _ (by omega) ⟨i + 1, true, rfl, by omega, hn2, (by simp), fun _ => ⟨x, by rw [hts]; simp, hbx⟩, rfl⟩⟩
     case c | d =>
      have hbx : ¬ bef q x := by unfold bef; omega
      have e3 : (twoL (Q.take i)).map (SV.int .i64) ++ flatE [SV.agg [.int .i64 x.1, .int .i64 x.2]] = (twoL (Q.take (i + 1))).map (SV.int .i64) := by rw [hts, twoL_snoc, List.map_append]; rfl
      simp only [c52r11, splice, Nat.reduceBEq, Bool.false_eq_true, go_sem, ↓reduceIte, Nat.reduceAdd, Nat.reduceLeDiff, Nat.reduceMul]
      refine ⟨by decide, by decide, rfl, one_pr, one_pr, htl2.symm, by omega, by omega, ?_⟩
      rw [e3]
      simp only [c52r12, c52l13m, go_sem, ↓reduceIte, reduceCtorEq, Nat.reduceLeDiff]
      refine ⟨inR_small (by omega) (by omega), hI (Q.length - (i + 1)) _ (by omega) ⟨i + 1, false, rfl, by omega, hn2, fun _ y hy => ?_, (by simp), rfl⟩⟩
      rw [hts, List.mem_append, List.mem_singleton] at hy
      rcases hy with hy | rfl
      ·exact hb y hy
      ·exact hbx
  ·have hie : i = Q.length := by omega
   subst hie
   rw [List.take_length] at *
   rw [if_neg hn]
   cases dn with
   | true =>
    have hsl := slice_two (K := qi q Q) (n := Q.length + 1) (qi_len Q).symm
    simp only [c52r14, c52r16, splice, hsl, kS, go_sem, ↓reduceIte, reduceCtorEq, Nat.reduceAdd]
    intro _
    rw [decide_eq_decide.2 (show ((Q.length + 1 : Nat) : Int) <= 12 ↔ Q.length <= 11 by omega)]
   | false =>
    have htl : (twoL Q).length = (Q.length + 0) * 2 := by rw [twoL_len]; omega
    have e2 : (twoL Q).map (SV.int .i64) ++ flatE [SV.agg [.int .i64 q.1, .int .i64 q.2]] = (twoL (qi q Q)).map (SV.int .i64) := by rw [qi_not (hd1 rfl), twoL_snoc, List.map_append]; rfl
    have hsl := slice_two (K := qi q Q) (n := Q.length + 1) (qi_len Q).symm
    simp only [c52r14, c52r15, splice, Nat.reduceBEq, Bool.false_eq_true, go_sem, ↓reduceIte, Nat.reduceAdd, Nat.reduceLeDiff, Nat.reduceMul]
    refine ⟨by decide, by decide, rfl, one_pr, one_pr, htl.symm, by omega, by omega, ?_⟩
    rw [e2]
    simp only [c52r16, splice, hsl, kS, go_sem, reduceCtorEq, Nat.reduceAdd]
    intro _
    rw [decide_eq_decide.2 (show ((Q.length + 0 + 1 : Nat) : Int) <= 12 ↔ Q.length <= 11 by omega)]
end Go.Proofs.Ytmcjoahnlbckoaa.Sk

/- Two keys by numbers; one key more; two keys that become one. -/
namespace Go.Proofs.Ytmcjoahnlbckoaa.Sk
open Go Go.E
theorem rot_ne {n o t : Int} (ho : 0 <= o /\ o < n) (ht : 0 <= t /\ t < n - 1) : 0 <= (o + 1 + t).tmod n /\ (o + 1 + t).tmod n < n /\ (o + 1 + t).tmod n ≠ o := by
 rw [Int.tmod_eq_emod_of_nonneg (by omega)]
 by_cases h : o + 1 + t < n
 ·rw [Int.emod_eq_of_lt (by omega) h]
  omega
 ·have h1 : (o + 1 + t) % n = (o + 1 + t - n) % n := by
   have := Int.add_mul_emod_self_left (o + 1 + t - n) n 1
   rw [Int.mul_one, Int.sub_add_cancel] at this
   exact this
  rw [h1, Int.emod_eq_of_lt (by omega) (by omega)]
  omega
theorem ckB_key {K Q : List (Int × Int)} {x : Int × Int} (h : ckB K Q = 0) (hx : 0 <= x.1 /\ x.1 <= x.2 /\ x.2 <= 1000) (hl : K.length + 1 <= 8) : ckB (K ++ [x]) Q = 0 := by
 obtain ⟨a1, _, a2, a3, a4⟩ := ckB_zero h
 obtain ⟨a5, a6⟩ := ckQ_iff.1 a4
 unfold ckB
 rw [List.length_append, List.length_singleton]
 rw [if_pos (within_of (by simp; omega)), if_neg (by omega), if_neg, ckQ_iff]
 ·refine ⟨fun q hq => ?_, a6⟩
  have := a5 q hq
  omega
 ·rw [List.any_append, a3]
  simp only [List.any_cons, List.any_nil, oddB, Bool.or_false, Bool.false_or, Bool.or_eq_true, decide_eq_true_eq]
  omega
theorem clsh_key {K Q : List (Int × Int)} {x : Int × Int} {a b : Nat} (hab : a < b) (hb : b < K.length) : pO (a : Int) (b : Int) ∈ clsh (K ++ [x]) Q ↔ pO (a : Int) (b : Int) ∈ clsh K Q := by
 rw [mem_clsh, mem_clsh]
 refine or_congr Iff.rfl ⟨?_, ?_⟩
 ·rintro ⟨i, k, y, z, h1, h2, h3, h4, h5⟩
  rw [pO_nat hab, Prod.mk.injEq] at h5
  have ei : i = a := by omega
  have ek : k = b := by omega
  subst ei ek
  rw [List.getElem?_append_left (by omega)] at h2 h3
  exact ⟨_, _, y, z, h1, h2, h3, h4, pO_nat hab⟩
 ·rintro ⟨i, k, y, z, h1, h2, h3, h4, h5⟩
  have hi := (List.getElem?_eq_some_iff.1 h2).1
  have hk := (List.getElem?_eq_some_iff.1 h3).1
  exact ⟨i, k, y, z, h1, by rw [List.getElem?_append_left hi]; exact h2, by rw [List.getElem?_append_left hk]; exact h3, h4, h5⟩
end Go.Proofs.Ytmcjoahnlbckoaa.Sk

/- Contract of the laws' function: what a key becomes if the second one of two becomes the first one. -/
namespace Go.Proofs.Ytmcjoahnlbckoaa.Sk
open Go Go.E Go.E.Sm
set_option maxRecDepth 10000
end Go.Proofs.Ytmcjoahnlbckoaa.Sk

/- What goes on behind appends, and rows of pairs. -/
namespace Go.Proofs.Ytmcjoahnlbckoaa.Sk
open Go Go.E Go.E.Sm
theorem newRow_of2 {H : List ABlock} {i sz : Nat} {s : LV} {ys : List SV} {k : AK} (h : ys ≠ []) (hg : H[i]? = some .gone) (hk : k (.sl i 0 ys.length sz false) (H.set i (.row (flatE ys))) none True) : newRowK H i sz s [] ys k := by
 rw [newRowK_def]
 exact ⟨fun e => absurd e h, fun _ => ⟨hg, by simpa using hk⟩⟩
theorem fits_pr2 {K : List (Int × Int)} (h : K.length <= 100) : fitsE 2 16 [] (K.map pr) := by
 refine ⟨by simp, fun y hy => ?_, ?_, ?_, by decide⟩
 ·obtain ⟨p, _, rfl⟩ := List.mem_map.1 hy; rfl
 ·rw [List.length_nil, List.length_map]; omega
 ·rw [List.length_nil, List.length_map]; omega
theorem row_two2 {K : List (Int × Int)} {n : Nat} (h : n = K.length) : rowOf 0 n 2 ((twoL K).map (.int .i64)) = some (K.map pr) := by
 subst h
 rw [rowOf, if_pos (by rw [List.length_map, twoL_len]; omega), elems, if_neg (by decide), List.drop_zero, chunk_two]
end Go.Proofs.Ytmcjoahnlbckoaa.Sk
