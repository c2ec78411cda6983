/- The examples of the chapter hold. -/
import Derived.Test.YtmcjoahnlbckoaaJ10

set_option linter.all false

namespace Go.Proofs.Ytmcjoahnlbckoaa.Sk
open Go Go.E
def KB : List (Int × Int) := [(1, 4), (3, 6), (6, 8), (2, 3)]
def QB : List (Int × Int) := [(0, 2)]
def KC : List (Int × Int) := [(0, 0), (10, 10), (20, 20), (30, 30), (40, 40)]
def QC : List (Int × Int) := [(0, 1), (0, 4), (1, 2), (2, 3), (3, 4)]
def exB : SV := bk KB QB
def exC : SV := bk KC QC
def crcC : List (List Int) := crcs (clsh KC QC) KC.length KC.length
def circC : List Int := match crcC with | [] => [] | c :: cs => bestF shoB c cs
def ckRd (K Q : List (Int × Int)) (rings : List Int) : Int × Int :=
 if ckB K Q = 0 then (if rings.length = K.length then (if withinB 0 7 rings = true then (if ∃ p ∈ clsh K Q, rg rings p.1 = rg rings p.2 then (0, 23) else ((dn [] rings : Nat), 0)) else (0, 3)) else (0, 15)) else (0, ckB K Q)
theorem ckR_dn {K Q : List (Int × Int)} {rings : List Int} : ckR K Q rings = ckRd K Q rings := by unfold ckR ckRd; rw [cpt_dn]
theorem w0 : E.Fn Try.prog 25 [exB, .int .i64 0, .int .i64 2] [.int .i64 23] := by
 have h := k25 (K := KB) (Q := QB) (one := 0) (two := 2)
 rw [show pairE KB QB 0 2 = 23 by decide +kernel] at h
 exact h
theorem w1 : E.Fn Try.prog 25 [exB, .int .i64 2, .int .i64 3] [.int .i64 0] := by
 have h := k25 (K := KB) (Q := QB) (one := 2) (two := 3)
 rw [show pairE KB QB 2 3 = 0 by decide +kernel] at h
 exact h
theorem w2 : E.Fn Try.prog 25 [exB, .int .i64 1, .int .i64 1] [.int .i64 2] := by
 have h := k25 (K := KB) (Q := QB) (one := 1) (two := 1)
 rw [show pairE KB QB 1 1 = 2 by decide +kernel] at h
 exact h
theorem w3 : E.Fn Try.prog 25 [exB, .int .i64 1, .int .i64 2] [.int .i64 23] := by
 have h := k25 (K := KB) (Q := QB) (one := 1) (two := 2)
 rw [show pairE KB QB 1 2 = 23 by decide +kernel] at h
 exact h
theorem w4 : E.Fn Try.prog 19 [exB, .slice [.int .i64 5, .int .i64 1, .int .i64 0, .int .i64 0]] [.int .i64 3, .int .i64 0] := by
 have h := k19 (K := KB) (Q := QB) (rings := [5, 1, 0, 0])
 rw [ckR_dn, show ckRd KB QB [5, 1, 0, 0] = (3, 0) by decide +kernel] at h
 exact h
theorem w5 : E.Fn Try.prog 19 [exB, .slice [.int .i64 0, .int .i64 1, .int .i64 1, .int .i64 2]] [.int .i64 0, .int .i64 23] := by
 have h := k19 (K := KB) (Q := QB) (rings := [0, 1, 1, 2])
 rw [ckR_dn, show ckRd KB QB [0, 1, 1, 2] = (0, 23) by decide +kernel] at h
 exact h
theorem w10 : E.Fn Try.prog 27 [exC] [.int .i64 3, .int .i64 0] := by
 have h := k27 (K := KC) (Q := QC)
 rw [show fewR KC QC = (3, 0) by decide +kernel] at h
 exact h
theorem w11 : E.Fn Try.prog 29 [exB] [.slice [.int .i64 0, .int .i64 1, .int .i64 2, .int .i64 2], .int .i64 0] := by
 have h := k29 (K := KB) (Q := QB)
 unfold rngR at h
 rw [if_pos (by decide +kernel), show rngs (clsh KB QB) KB.length = [0, 1, 2, 2] by decide +kernel] at h
 exact h
theorem w12 : E.Fn Try.prog 29 [exC] [.slice [.int .i64 0, .int .i64 1, .int .i64 0, .int .i64 1, .int .i64 2], .int .i64 0] := by
 have h := k29 (K := KC) (Q := QC)
 unfold rngR at h
 rw [if_pos (by decide +kernel), show rngs (clsh KC QC) KC.length = [0, 1, 0, 1, 2] by decide +kernel] at h
 exact h
theorem w13 : E.Fn Try.prog 31 [exB, .int .i64 4] [.int .i64 48, .int .i64 0] := by
 have h := k31 (K := KB) (Q := QB) (m := 4)
 rw [show couR KB QB 4 = (48, 0) by decide +kernel] at h
 exact h
theorem w14 : E.Fn Try.prog 31 [exC, .int .i64 3] [.int .i64 30, .int .i64 0] := by
 have h := k31 (K := KC) (Q := QC) (m := 3)
 rw [show couR KC QC 3 = (30, 0) by decide +kernel] at h
 exact h
theorem w15 : E.Fn Try.prog 31 [exC, .int .i64 9] [.int .i64 0, .int .i64 2] := by
 have h := k31 (K := KC) (Q := QC) (m := 9)
 rw [show couR KC QC 9 = (0, 2) by decide +kernel] at h
 exact h
theorem w19 : E.Fn Try.prog 34 [exB] [.slice [.int .i64 0, .int .i64 1, .int .i64 2], .int .i64 0] := by
 have h := k34 (K := KB) (Q := QB)
 unfold grpR at h
 rw [if_pos (by decide +kernel), show gst (clsh KB QB) KB.length (KB.length + 1) [] 0 = [0, 1, 2] by decide +kernel] at h
 exact h
theorem w21 : E.Fn Try.prog 38 [exB, .slice [.int .i64 2, .int .i64 3]] [.int .i64 14] := by
 have h := k38 (K := KB) (Q := QB) (keys := [2, 3])
 rw [show ckG KB QB [2, 3] = 14 by decide +kernel] at h
 exact h
theorem w22 : E.Fn Try.prog 38 [exB, .slice []] [.int .i64 3] := by
 have h := k38 (K := KB) (Q := QB) (keys := [])
 rw [show ckG KB QB [] = 3 by decide +kernel] at h
 exact h
theorem w24 : E.Fn Try.prog 40 [exC, .slice [.int .i64 0, .int .i64 1, .int .i64 2]] [.int .i64 14] := by
 have h := k40 (K := KC) (Q := QC) (keys := [0, 1, 2]) (by decide)
 rw [show ckC KC QC [0, 1, 2] = 14 by decide +kernel] at h
 exact h
theorem w25 : E.Fn Try.prog 40 [exC, .slice [.int .i64 0, .int .i64 1]] [.int .i64 16] := by
 have h := k40 (K := KC) (Q := QC) (keys := [0, 1]) (by decide)
 rw [show ckC KC QC [0, 1] = 16 by decide +kernel] at h
 exact h
theorem w28 : E.Fn Try.prog 36 [exC] [ints circC, .int .i64 0] := by
 have h := k36 (K := KC) (Q := QC)
 unfold cirR at h
 rw [if_pos (by decide +kernel), show crcs (clsh KC QC) KC.length KC.length = crcC by decide +kernel] at h
 exact h
theorem w29 : E.Fn Try.prog 41 [exC, ints circC] [.int .i64 0] := by
 have h := k41 (K := KC) (Q := QC) (keys := circC)
 rw [show ckC KC QC circC = 0 by decide +kernel] at h
 exact h
theorem w30 : E.Fn Try.prog 21 [exB] [.int .i64 3, .int .i64 3, .int .i64 0] := by
 have h := k21 (K := KB) (Q := QB)
 unfold dayR at h
 rw [if_pos (by decide +kernel), show (dayK KB).1 = 3 by decide +kernel, show outC KB 3 = 3 by decide +kernel] at h
 exact h
theorem w32 : E.Fn Try.prog 43 [exB, .int .i64 2, .int .i64 3] [.int .i64 2, .int .i64 0] := by
 have h := k43 (K := KB) (Q := QB) (one := 2) (two := 3)
 rw [show kndR KB QB 2 3 = (2, 0) by decide +kernel] at h
 exact h
theorem w33 : E.Fn Try.prog 43 [exC, .int .i64 0, .int .i64 2] [.int .i64 1, .int .i64 0] := by
 have h := k43 (K := KC) (Q := QC) (one := 0) (two := 2)
 rw [show kndR KC QC 0 2 = (1, 0) by decide +kernel] at h
 exact h
end Go.Proofs.Ytmcjoahnlbckoaa.Sk

/- The examples of the chapter: books, and that all hold. -/
namespace Go.Proofs.Ytmcjoahnlbckoaa.Sk
open Go Go.E Go.E.Sm
set_option maxRecDepth 10000
theorem k56 {l : List Int} : E.Fn Try.prog 56 [ints l] [ints l] := by
 refine fn_of_row okf56 ?_
 simp only [FRow.start, f56, c56r0, c56r1, ints, go_sem, Nat.reduceSub]
def twoL (K : List (Int × Int)) : List Int := K.flatMap fun p => [p.1, p.2]
theorem twoL_len {K : List (Int × Int)} : (twoL K).length = 2 * K.length := by
 induction K with
 | nil => rfl
 | cons p K ih => simp only [twoL, List.flatMap_cons, List.length_append, List.length_cons, List.length_nil] at *; omega
theorem twoL_get {K : List (Int × Int)} : ∀ {i : Nat} {p : Int × Int}, K[i]? = some p -> (twoL K)[2 * i]? = some p.1 /\ (twoL K)[2 * i + 1]? = some p.2 := by
 induction K with
 | nil => intro i p h; cases h
 | cons q K ih =>
  intro i p h
  cases i with
  | zero => simp only [List.getElem?_cons_zero, Option.some.injEq] at h; subst h; exact ⟨rfl, rfl⟩
  | succ i =>
   have := ih (i := i) (by simpa using h)
   simp only [twoL, List.flatMap_cons] at this ⊢
   rw [show 2 * (i + 1) = (2 * i) + 2 by omega, show 2 * i + 2 + 1 = (2 * i + 1) + 2 by omega]
   simpa using this
theorem twoL_snoc {K : List (Int × Int)} {p : Int × Int} : twoL (K ++ [p]) = twoL K ++ [p.1, p.2] := by
 unfold twoL; rw [List.flatMap_append]; rfl
theorem chunk_two : ∀ (K : List (Int × Int)), chunk 2 K.length ((twoL K).map (SV.int .i64)) = K.map pr
 | [] => rfl
 | p :: K => by
  have := chunk_two K
  simp only [twoL, List.flatMap_cons, List.map_append, List.length_cons, List.map_cons, List.map_nil] at this ⊢
  rw [chunk]
  simp only [List.cons_append, List.nil_append, List.take_succ_cons, List.take_zero, List.drop_succ_cons, List.drop_zero]
  rw [this]; rfl
theorem promo_cell2 {σ : AState} {b d o off sz : Nat} {cs : List LV} (h : fget σ.fr d = .loc b o) (hB : σ.hp[b]? = some (.obj cs)) (hc : cs[o + off]? = some (.full [])) :
  promote [(d, some off, sz)] σ = { fr := σ.fr, hp := σ.hp.set b (.obj (cs.set (o + off) (.sl σ.hp.length 0 0 (sz + 1) false))) ++ [.row []] } := by
 simp only [promote, promote1, h, hB, hc]
theorem one_pr {p : Int × Int} : ∀ e ∈ [SV.agg [.int .i64 p.1, .int .i64 p.2]], e.cells.length = 2 := by
 intro e he
 rw [List.mem_singleton] at he
 subst he; rfl
theorem k87 {K : List (Int × Int)} (hk : K.length <= 100) : E.Fn Try.prog 87 [ints (twoL K)] [bk K []] := by
 refine fn_of_row okf87 ?_
 have hl := twoL_len (K := K)
 simp only [FRow.start, f87, c87r0, c87r1, c87r2, ints, go_sem, Nat.reduceAdd, Nat.reduceSub]
 refine loop_rule (fun n τ => ∃ i : Nat, n = K.length - i /\ i <= K.length /\
  τ = ⟨[.s (ints (twoL K)), .any, .loc 0 0, .loc 1 0, .s (.int .i64 ((2 * i : Nat) : Int)), .any, .any, .any, .any, .any, .any, .any, .any, .any, .any, .any, .any, .any, .any, .any, .any, .any, .any, .any, .any, .any, .any, .any], [.obj [.full [], .full []], .obj [.sl 2 0 i 2 false, .full []], .row ((twoL (K.take i)).map (.int .i64))]⟩) K.length (promo_cell2 rfl rfl rfl) ?_ ?_
 ·simp only [c87l6m, go_sem, ↓reduceIte, reduceCtorEq, Nat.reduceAdd, Nat.reduceLeDiff]
  exact ⟨0, rfl, Nat.zero_le _, rfl⟩
 ·rintro I n τ ⟨i, rfl, hi, rfl⟩ hI
  have hin : inR .i64 (((2 * i : Nat) : Int) + 1) := inR_small (by omega) (by omega)
  have e1 : ((2 * i : Nat) : Int) + 1 = ((2 * i + 1 : Nat) : Int) := rfl
  simp only [c87l6, c87r3, ints, go_sem, ↓reduceIte, Nat.reduceAdd]
  refine ⟨hin, fun _ => ?_⟩
  refine ⟨fun hlt => ?_, fun hge => ?_⟩
  ·have hlt : i < K.length := by omega
   have hx : K[i]? = some K[i] := List.getElem?_eq_getElem hlt
   obtain ⟨h1, h2⟩ := twoL_get hx
   have hts : twoL (K.take (i + 1)) = twoL (K.take i) ++ [K[i].1, K[i].2] := by rw [List.take_succ, hx]; exact twoL_snoc
   have htl : (twoL (K.take i)).length = i * 2 := by rw [twoL_len, List.length_take]; omega
   generalize K[i] = p at hx h1 h2 hts
   simp only [c87r4, h1, h2, e1, splice, SV.cells, Nat.reduceBEq, Bool.false_eq_true, go_sem, ↓reduceIte, Nat.reduceAdd, Nat.reduceLeDiff, Nat.reduceMul]
   refine ⟨hin, by decide, by decide, rfl, one_pr, one_pr, htl.symm, by omega, by omega, ?_⟩
   simp only [c87r5, c87l6m, go_sem, ↓reduceIte, reduceCtorEq, Nat.reduceLeDiff]
   have e2 : (twoL (K.take i)).map (SV.int .i64) ++ flatE [SV.agg [.int .i64 p.1, .int .i64 p.2]] = (twoL (K.take (i + 1))).map (SV.int .i64) := by rw [hts, List.map_append]; rfl
   rw [e2]
   exact ⟨inR_small (by omega) (by omega), hI (K.length - (i + 1)) _ (by omega) ⟨i + 1, rfl, by omega, rfl⟩⟩
  ·have hie : i = K.length := by omega
   subst hie
   rw [List.take_length]
   have hro : rowOf 0 K.length 2 ((twoL K).map (SV.int .i64)) = some (K.map pr) := by
    rw [rowOf, if_pos (by rw [List.length_map, hl]; omega), elems, if_neg (by decide), List.drop_zero, chunk_two]
   have hso : sliceOf 0 K.length 2 ((twoL K).map (SV.int .i64)) = some (kS K) := by
    rw [sliceOf, if_pos (by rw [List.length_map, hl]; omega), elems, if_neg (by decide), List.drop_zero, chunk_two]; rfl
   simp only [c87r7, splice, hso, bk, kS, go_sem, Nat.reduceAdd]
theorem k54 : E.Fn Try.prog 54 [] [exB] := by
 refine fn_of_row okf54 ?_
 simp only [FRow.start, f54, c54r0, c54r1, go_sem, Nat.reduceSub]
 refine ⟨by decide, by decide, rfl, ints_one (xs := [1, 4, 3, 6, 6, 8, 2, 3]), ?_⟩
 refine callK_of rfl (k87 (K := KB) (by decide)) (.inr rfl) ?_
 simp only [bk, kS, SV.cells, splice, c54r2, go_sem, ↓reduceIte, Nat.reduceAdd, Nat.reduceLeDiff, Nat.reduceMul]
 refine ⟨by decide, by decide, rfl, by intro e he; rw [List.mem_singleton] at he; subst he; rfl, ?_⟩
 simp only [c54r3, splice, go_sem, Nat.reduceAdd]
 rfl
theorem k55 : E.Fn Try.prog 55 [] [exC] := by
 refine fn_of_row okf55 ?_
 simp only [FRow.start, f55, c55r0, c55r1, go_sem, Nat.reduceSub]
 refine ⟨by decide, by decide, rfl, ints_one (xs := [0, 0, 10, 10, 20, 20, 30, 30, 40, 40]), ?_⟩
 refine callK_of rfl (k87 (K := KC) (by decide)) (.inr rfl) ?_
 simp only [bk, kS, SV.cells, splice, c55r2, go_sem, ↓reduceIte, Nat.reduceAdd, Nat.reduceLeDiff, Nat.reduceMul]
 refine ⟨by decide, by decide, rfl, by intro e he; simp only [List.mem_cons, List.not_mem_nil, or_false] at he; rcases he with rfl | rfl | rfl | rfl | rfl <;> rfl, ?_⟩
 simp only [c55r3, splice, go_sem, Nat.reduceAdd]
 rfl
theorem same33 {l : List Int} : E.Fn Try.prog 33 [ints l, ints l] [.bool true] := by
 have h := k33 (xs := l) (ys := l)
 rw [decide_eq_true rfl] at h
 exact h
set_option maxHeartbeats 4000000 in
theorem works_ok : E.Fn Try.prog 18 [] [.bool true] := by
 refine fn_of_row okf18 ?_
 have hcl : circC.length = 5 := by decide +kernel
 have hcs : ((circC.length : Nat) : Int) = 5 := by rw [hcl]; rfl
 simp only [FRow.start, f18, c18r0, c18r1, go_sem, Nat.reduceSub]
 refine callK_of rfl k54 (.inr rfl) ?_
 simp only [go_sem]
 refine callK_of rfl k55 (.inr rfl) ?_
 simp only [exB, exC, bk, SV.cells, splice, go_sem, Nat.reduceAdd]
 simp only [c18r2, go_sem, Nat.reduceAdd]
 refine callK_of rfl w0 (.inl rfl) ?_
 simp only [go_sem, Nat.reduceAdd]
 refine callK_of rfl w1 (.inl rfl) ?_
 simp only [go_sem, Nat.reduceAdd]
 refine callK_of rfl w2 (.inl rfl) ?_
 simp only [c18r3, go_sem, Nat.reduceAdd]
 refine ⟨by decide, by decide, rfl, ints_one (xs := [5, 1, 0, 0]), ?_⟩
 refine callK_of rfl (k56 (l := [5, 1, 0, 0])) (.inr rfl) ?_
 simp only [go_sem]
 refine callK_of rfl w4 (.inl rfl) ?_
 simp only [c18r4, go_sem, Nat.reduceAdd]
 refine ⟨by decide, by decide, rfl, ints_one (xs := [0, 1, 1, 2]), ?_⟩
 refine callK_of rfl (k56 (l := [0, 1, 1, 2])) (.inr rfl) ?_
 simp only [go_sem]
 refine callK_of rfl w5 (.inl rfl) ?_
 simp only [c18r5, go_sem, Nat.reduceAdd]
 refine callK_of rfl w10 (.inl rfl) ?_
 simp only [c18r6, go_sem, Nat.reduceAdd]
 refine callK_of rfl w11 (.inr rfl) ?_
 simp only [c18r7, go_sem, Nat.reduceAdd]
 refine callK_of rfl w12 (.inr rfl) ?_
 simp only [c18r8, go_sem, Nat.reduceAdd]
 refine callK_of rfl w13 (.inl rfl) ?_
 simp only [c18r9, go_sem, Nat.reduceAdd]
 refine callK_of rfl w14 (.inl rfl) ?_
 simp only [c18r10, go_sem, Nat.reduceAdd]
 refine callK_of rfl w15 (.inl rfl) ?_
 simp only [c18r11, go_sem, Nat.reduceAdd]
 refine callK_of rfl w19 (.inr rfl) ?_
 simp only [c18r12, go_sem, Nat.reduceAdd]
 refine ⟨by decide, by decide, rfl, ints_one (xs := [2, 3]), ?_⟩
 refine callK_of rfl (k56 (l := [2, 3])) (.inr rfl) ?_
 simp only [go_sem]
 refine callK_of rfl w21 (.inl rfl) ?_
 simp only [go_sem, Nat.reduceAdd]
 refine callK_of rfl w22 (.inl rfl) ?_
 simp only [c18r13, go_sem, Nat.reduceAdd]
 refine ⟨by decide, by decide, rfl, ints_one (xs := [0, 1, 2]), ?_⟩
 refine callK_of rfl (k56 (l := [0, 1, 2])) (.inr rfl) ?_
 simp only [go_sem]
 refine callK_of rfl w24 (.inl rfl) ?_
 simp only [go_sem, Nat.reduceAdd]
 refine ⟨by decide, by decide, rfl, ints_one (xs := [0, 1]), ?_⟩
 refine callK_of rfl (k56 (l := [0, 1])) (.inr rfl) ?_
 simp only [go_sem]
 refine callK_of rfl w25 (.inl rfl) ?_
 simp only [c18r14, go_sem, Nat.reduceAdd]
 refine callK_of rfl w28 (.inr rfl) ?_
 simp only [c18r15, go_sem, Nat.reduceAdd]
 refine callK_of rfl w30 (.inl rfl) ?_
 simp only [c18r16, go_sem, Nat.reduceAdd]
 refine callK_of rfl w32 (.inl rfl) ?_
 simp only [c18r17, go_sem, Nat.reduceAdd]
 refine callK_of rfl w33 (.inl rfl) ?_
 simp only [c18r18, go_sem, Nat.reduceAdd]
 simp only [c18r20, go_sem]
 refine ⟨by decide, by decide, rfl, ints_one (xs := [0, 1, 2, 2]), ?_⟩
 refine callK_of rfl (k56 (l := [0, 1, 2, 2])) (.inr rfl) ?_
 simp only [go_sem]
 refine callK_of rfl (same33 (l := [0, 1, 2, 2])) (.inl rfl) ?_
 simp only [go_sem]
 refine ⟨by decide, by decide, rfl, ints_one (xs := [0, 1, 0, 1, 2]), ?_⟩
 refine callK_of rfl (k56 (l := [0, 1, 0, 1, 2])) (.inr rfl) ?_
 simp only [go_sem]
 refine callK_of rfl (same33 (l := [0, 1, 0, 1, 2])) (.inl rfl) ?_
 simp only [go_sem]
 refine ⟨by decide, by decide, rfl, ints_one (xs := [0, 1, 2]), ?_⟩
 refine callK_of rfl (k56 (l := [0, 1, 2])) (.inr rfl) ?_
 simp only [go_sem]
 refine callK_of rfl (same33 (l := [0, 1, 2])) (.inl rfl) ?_
 simp only [ints, hcs, go_sem, Nat.reduceAdd]
 refine callK_of rfl w29 (.inl rfl) ?_
 simp only [go_sem]
end Go.Proofs.Ytmcjoahnlbckoaa.Sk

/- A call of the examples of the chapter answers true. -/
namespace Go.Proofs.Ytmcjoahnlbckoaa.Sk
open Go Go.E Go.E.Sm
set_option maxRecDepth 10000
theorem wk {H : List ABlock} {k : AK} (hk : k (LV.ofResults [.bool true]) H none True) : callK Try.prog H 18 [] k := callK_of rfl works_ok (.inl rfl) hk
theorem k45 {K Q : List (Int × Int)} : E.Fn Try.prog 45 [bk K Q] [.bool (!greatB K Q && decide (ckB K Q = 0))] := by
 refine fn_of_row okf45 ?_
 simp only [FRow.start, f45, c45r0, c45r1, bk, SV.cells, go_sem, Nat.reduceAdd, Nat.reduceSub]
 refine callK_of (by simp only [bk, go_sem]) (k17 (K := K) (Q := Q)) (.inl rfl) ?_
 cases hg : greatB K Q with
 | true => simp only [go_sem]; rfl
 | false =>
  simp only [go_sem, Nat.reduceAdd]
  refine callK_of (by simp only [bk, go_sem]) (k24 (K := K) (Q := Q)) (.inl rfl) ?_
  simp only [go_sem]
  rfl
end Go.Proofs.Ytmcjoahnlbckoaa.Sk

/- Contracts of the laws' functions: the fewest rings with such ones, counts, rings by numbers. -/
namespace Go.Proofs.Ytmcjoahnlbckoaa.Sk
open Go Go.E Go.E.Sm
set_option maxRecDepth 10000
theorem rngs_pcs {cl : List (Int × Int)} {n : Nat} (h : 1 <= n) : ∃ g, rngs cl n = toI g /\ g ∈ pcs (rel0 cl) (fw cl n) n [] /\ rgP g (fw cl n) := by
 have h1 := bst_head (cl := cl) (n := n)
 rw [<- rngs_eq h] at h1
 obtain ⟨h2, h3⟩ := bst_dn h1
 obtain ⟨g', e, h4, hr⟩ := hgF_rg n 0 [] rgP_nil _ (by simpa [toI] using h2)
 rw [h4, rgP_dn hr] at h3
 subst h3
 refine ⟨g', h4, ?_, hr⟩
 rw [bst_M, h4, List.mem_map] at h1
 obtain ⟨g2, h5, h6⟩ := h1
 rw [<- toI_inj h6]
 have hsub : ∀ (f d : Nat) (h : List Nat), rgP h d -> d <= fw cl n -> ∀ g ∈ hgM (rel0 cl) (fw cl n) f d h, g ∈ pcs (rel0 cl) (fw cl n) f h := by
  intro f
  induction f with
  | zero => intro d h _ _ g hg; exact hg
  | succ f ih =>
   intro d h hr hd g hg
   rw [hgM, List.mem_append, List.mem_flatMap] at hg
   rw [pcs, List.mem_flatMap]
   rcases hg with ⟨r, h1, h2⟩ | hg
   ·have h1 := List.mem_range.1 h1
    split at h2
    ·rename_i hok
     exact ⟨r, List.mem_range.2 (by omega), by rw [if_pos hok]; exact ih d _ (rgP_old hr h1) hd g h2⟩
    ·cases h2
   ·split at hg
    ·exact ⟨d, List.mem_range.2 (by omega), by rw [if_pos (okN_fresh hr.1 (Nat.le_refl _))]; exact ih (d + 1) _ (rgP_new hr) (by omega) g hg⟩
    ·cases hg
 exact hsub n 0 [] rgP_nil (Nat.zero_le _) g2 h5
theorem ckR_good {K Q : List (Int × Int)} (h : ckB K Q = 0) {rings : List Int} (hl : rings.length = K.length) (hw : ∀ x ∈ rings, 0 <= x /\ x <= 7) (hp : ∀ i k : Nat, i < k -> k < K.length -> pO (i : Int) (k : Int) ∈ clsh K Q -> rings.getD i 0 ≠ rings.getD k 0) : ckR K Q rings = (((dn [] rings : Nat) : Int), 0) := by
 unfold ckR
 rw [if_pos h, if_pos hl, if_pos (within_of hw), if_neg, cpt_dn]
 rw [bad_iff h]
 rintro ⟨i, k, h1, h2, h3, h4⟩
 exact hp k i h2 h1 h4 h3
theorem ckR_rngs {K Q : List (Int × Int)} (h : ckB K Q = 0) : ckR K Q (rngs (clsh K Q) K.length) = (((fw (clsh K Q) K.length : Nat) : Int), 0) := by
 obtain ⟨hk1, hk8, _⟩ := ckB_zero h
 obtain ⟨g, h1, h2, h3⟩ := rngs_pcs (cl := clsh K Q) hk1
 have h4 := fw_le (cl := clsh K Q) (n := K.length)
 obtain ⟨h5, h6⟩ := mem_col.1 h2
 rw [h1, ckR_good h (by rw [toI_len]; exact h5) (fun x hx => by
  obtain ⟨y, hy, rfl⟩ := List.mem_map.1 hx
  have := h3.1 y hy
  omega) (fun i k hik hk hc e => by
  rw [toI_getD, toI_getD] at e
  exact (h6 k hk).2 i hik (by simpa [rel0] using hc) (by omega)), rgP_dn h3]
theorem k46 {K Q : List (Int × Int)} (h0 : ckB K Q = 0) : E.Fn Try.prog 46 [bk K Q] [.int .i64 (fw (clsh K Q) K.length : Nat), ints (rngs (clsh K Q) K.length), .bool true] := by
 refine fn_of_row okf46 ?_
 obtain ⟨hk1, hk8, _⟩ := ckB_zero h0
 have h27 := k27 (K := K) (Q := Q)
 have h29 := k29 (K := K) (Q := Q)
 have h19 := k19 (K := K) (Q := Q) (rings := rngs (clsh K Q) K.length)
 have h20 := k20 (K := K) (Q := Q) (rings := rngs (clsh K Q) K.length)
 unfold fewR at h27
 unfold rngR at h29
 rw [if_pos h0, fewN_eq hk1] at h27
 rw [if_pos h0] at h29
 rw [ckR_rngs h0] at h19 h20
 have hp := fw_pos (cl := clsh K Q) hk1
 have hle := fw_le (cl := clsh K Q) (n := K.length)
 generalize rngs (clsh K Q) K.length = l at *
 generalize fw (clsh K Q) K.length = w at *
 have hw1 : (1 : Int) <= (w : Int) := by omega
 have hw2 : (w : Int) <= (K.length : Int) := by omega
 simp only [FRow.start, f46, c46r0, c46r1, bk, SV.cells, go_sem, Nat.reduceAdd, Nat.reduceSub]
 refine callK_of (by simp only [bk, go_sem]) h27 (.inl rfl) ?_
 simp only [c46r2, go_sem, Nat.reduceAdd]
 refine callK_of (by simp only [bk, go_sem]) h29 (.inr (by simp only [bk, go_sem])) ?_
 simp only [c46r3, c46r5, go_sem, Nat.reduceAdd]
 refine callK_of (by simp only [bk, go_sem]) h19 (.inl rfl) ?_
 simp only [c46r6, go_sem, Nat.reduceAdd]
 refine callK_of (by simp only [bk, go_sem]) h20 (.inl rfl) ?_
 simp only [c46r7, hw1, hw2, kS, go_sem, Nat.reduceAdd, Nat.reduceLeDiff]
 try (intro _)
 try simp only [hw1, hw2, go_sem, ↓reduceIte, reduceCtorEq, Nat.reduceAdd, Nat.reduceSub, Nat.reduceLT, Nat.reduceLeDiff, Int.reduceLE, Int.reduceLT, Int.reduceToNat, Nat.reduceMul, Int.reduceNeg]
 done
end Go.Proofs.Ytmcjoahnlbckoaa.Sk

/- Contract of the law's own function: the numbers of a book's keys. -/
namespace Go.Proofs.Ytmcjoahnlbckoaa.Sk
open Go Go.E Go.E.Sm
set_option maxRecDepth 10000
end Go.Proofs.Ytmcjoahnlbckoaa.Sk

/- Rings that are right are at least as many as the fewest, as a group's keys, and three if there is a circle. -/
namespace Go.Proofs.Ytmcjoahnlbckoaa.Sk
open Go Go.E
theorem getD_mem {l : List Int} {i : Nat} (h : i < l.length) : l.getD i 0 ∈ l := by
 rw [List.getD_eq_getElem?_getD, List.getElem?_eq_getElem h]; exact List.getElem_mem h
theorem fw_col {cl : List (Int × Int)} {n : Nat} : ∃ g : List Nat, g.length = n /\ ∀ k, k < n -> g.getD k 0 < fw cl n /\ ∀ i, i < k -> rel0 cl i k = true -> g.getD i 0 ≠ g.getD k 0 := by
 have h := (pcs_some (cl := cl) (n := n) (m := fw cl n)).2 (Nat.le_refl _)
 cases hp : pcs (rel0 cl) (fw cl n) n [] with
 | nil => rw [hp] at h; exact absurd rfl h
 | cons g l => exact ⟨g, mem_col.1 (by rw [hp]; simp)⟩
theorem col_ne {cl : List (Int × Int)} (hc : ∀ p ∈ cl, p.1 < p.2) {n : Nat} {g : List Nat} (hg : ∀ k, k < n -> g.getD k 0 < fw cl n /\ ∀ i, i < k -> rel0 cl i k = true -> g.getD i 0 ≠ g.getD k 0)
  {x y : Int} (hx : 0 <= x /\ x < n) (hy : 0 <= y /\ y < n) (h : pO x y ∈ cl) : g.getD x.toNat 0 ≠ g.getD y.toNat 0 := by
 obtain ⟨a, rfl⟩ := Int.eq_ofNat_of_zero_le hx.1
 obtain ⟨b, rfl⟩ := Int.eq_ofNat_of_zero_le hy.1
 simp only [Int.toNat_natCast]
 rcases Nat.lt_trichotomy a b with h1 | h1 | h1
 ·exact (hg b (by omega)).2 a h1 (by simpa [rel0] using h)
 ·have := hc _ h
  subst h1
  simp only [pO] at this
  omega
 ·rw [pO_comm] at h
  exact ((hg a (by omega)).2 b h1 (by simpa [rel0] using h)).symm
theorem odd_three {cl : List (Int × Int)} (hc : ∀ p ∈ cl, p.1 < p.2) {n : Nat} {L : List Int} (hL : ∀ x ∈ L, 0 <= x /\ x < n) (ho : L.length % 2 = 1) (hy : cyc cl L) : 3 <= fw cl n := by
 obtain ⟨g, _, hg⟩ := fw_col (cl := cl) (n := n)
 rcases Nat.lt_or_ge (fw cl n) 3 with h3 | h3
 ·exfalso
  have hlt : ∀ i, i < L.length -> g.getD (L.getD i 0).toNat 0 < 2 := fun i hi => by
   have h1 := hL _ (getD_mem hi)
   have := (hg (L.getD i 0).toNat (by omega)).1
   omega
  have hne : ∀ i, i + 1 < L.length -> g.getD (L.getD i 0).toNat 0 ≠ g.getD (L.getD (i + 1) 0).toNat 0 := fun i hi => by
   have h1 := hy i (by omega)
   rw [Nat.mod_eq_of_lt hi] at h1
   exact col_ne hc hg (hL _ (getD_mem (by omega))) (hL _ (getD_mem hi)) h1
  have hpar : ∀ i, i < L.length -> g.getD (L.getD i 0).toNat 0 = (g.getD (L.getD 0 0).toNat 0 + i) % 2 := by
   intro i
   induction i with
   | zero => intro hi; have := hlt 0 hi; omega
   | succ i ih =>
    intro hi
    have h1 := ih (by omega)
    have h2 := hne i hi
    have h3 := hlt (i + 1) hi
    have h4 := hlt i (by omega)
    omega
  have h1 := hy (L.length - 1) (by omega)
  rw [show L.length - 1 + 1 = L.length by omega, Nat.mod_self] at h1
  have h2 := col_ne hc hg (hL _ (getD_mem (by omega))) (hL _ (getD_mem (by omega))) h1
  have h4 := hpar (L.length - 1) (by omega)
  have h5 := hlt 0 (by omega)
  omega
 ·exact h3
theorem clsh_lt2 {K Q : List (Int × Int)} (h : ckB K Q = 0) : ∀ p ∈ clsh K Q, p.1 < p.2 := fun p hp => (clsh_rng h hp).2.1
theorem ckC_zero {K Q : List (Int × Int)} {L : List Int} (hL : ckC K Q L = 0) : ckB K Q = 0 /\ (∀ x ∈ L, 0 <= x /\ x < K.length) /\ ¬ oddL L /\ cyc (clsh K Q) L := by
 unfold ckC at hL
 split at hL
 ·rename_i h
  split at hL
  ·rename_i hw
   split at hL
   ·cases hL
   ·rename_i ho
    split at hL
    ·rename_i hy
     exact ⟨h, fun x hx => by have := within_mem hw hx; omega, ho, hy⟩
    ·cases hL
  ·cases hL
 ·exact absurd hL ‹_›
theorem ckC_three {K Q : List (Int × Int)} {L : List Int} (hL : ckC K Q L = 0) : 3 <= fw (clsh K Q) K.length := by
 obtain ⟨h, h1, h2, h3⟩ := ckC_zero hL
 unfold oddL at h2
 exact odd_three (clsh_lt2 h) h1 (by omega) h3
end Go.Proofs.Ytmcjoahnlbckoaa.Sk

/- Walks from key to key by clashes: closed ones of an odd length. -/
namespace Go.Proofs.Ytmcjoahnlbckoaa.Sk
open Go Go.E
def wlk (cl : List (Int × Int)) : Nat -> Int -> Int -> Prop
 | 0, a, b => a = b
 | s + 1, a, b => ∃ y, wlk cl s a y /\ pO y b ∈ cl
theorem wlk_add {cl : List (Int × Int)} {s : Nat} {a b : Int} (h : wlk cl s a b) : ∀ {t : Nat} {c : Int}, wlk cl t b c -> wlk cl (s + t) a c
 | 0, c, h2 => by rw [wlk] at h2; subst h2; exact h
 | t + 1, c, ⟨y, h2, h3⟩ => ⟨y, wlk_add h h2, h3⟩
theorem wlk_one {cl : List (Int × Int)} {a b : Int} (h : pO a b ∈ cl) : wlk cl 1 a b := ⟨a, rfl, h⟩
theorem wlk_rev {cl : List (Int × Int)} : ∀ {s : Nat} {a b : Int}, wlk cl s a b -> wlk cl s b a
 | 0, a, b, h => h.symm
 | s + 1, a, b, ⟨y, h1, h2⟩ => by
  have := wlk_add (wlk_one (by rw [pO_comm]; exact h2 : pO b y ∈ cl)) (wlk_rev h1)
  rwa [Nat.add_comm] at this
theorem wlk_pre {cl : List (Int × Int)} {s : Nat} : ∀ {t : Nat} {a b : Int}, wlk cl (s + t) a b -> ∃ y, wlk cl s a y
 | 0, a, b, h => ⟨b, h⟩
 | t + 1, a, b, ⟨y, h, _⟩ => wlk_pre h
def clR (cl : List (Int × Int)) (n : Nat) : Prop := ∀ p ∈ cl, 0 <= p.1 /\ p.1 < p.2 /\ p.2 < n
theorem clR_rng {cl : List (Int × Int)} {n : Nat} (hc : clR cl n) {a b : Int} (h : pO a b ∈ cl) : (0 <= a /\ a < n) /\ (0 <= b /\ b < n) /\ a ≠ b := by
 have := hc _ h
 simp only [pO] at this
 omega
theorem wlk_rng {cl : List (Int × Int)} {n : Nat} (hc : clR cl n) {s : Nat} {a b : Int} (h : wlk cl (s + 1) a b) : 0 <= b /\ b < n := by
 obtain ⟨y, _, h2⟩ := h
 exact (clR_rng hc h2).2.1
/-! The reference's search. -/
theorem stp_iff {cl : List (Int × Int)} {n s now : Nat} {key : Int} (hc : clR cl n) (hn : ∀ x : Nat, x < n -> (now.testBit x = true ↔ wlk cl s key x)) (x : Nat) (hx : x < n) : (stpF cl n now).testBit x = true ↔ wlk cl (s + 1) key x := by
 unfold stpF
 rw [bitsF_bit]
 unfold nbB
 rw [Bool.and_eq_true, decide_eq_true_eq, List.any_eq_true]
 constructor
 ·rintro ⟨_, k, hk, h1⟩
  simp only [Bool.and_eq_true, Bool.not_eq_true', decide_eq_false_iff_not, decide_eq_true_eq] at h1
  exact ⟨k, (hn k (List.mem_range.1 hk)).1 h1.1.1, h1.2⟩
 ·rintro ⟨y, h1, h2⟩
  have h3 := clR_rng hc h2
  obtain ⟨y, rfl⟩ := Int.eq_ofNat_of_zero_le h3.1.1
  refine ⟨hx, y, List.mem_range.2 (by omega), ?_⟩
  simp only [Bool.and_eq_true, Bool.not_eq_true', decide_eq_false_iff_not, decide_eq_true_eq]
  exact ⟨⟨(hn y (by omega)).2 h1, by omega⟩, h2⟩
theorem shS_spec {cl : List (Int × Int)} {n key : Nat} (hc : clR cl n) (hk : key < n) : ∀ (m s now best : Nat), (∀ x : Nat, x < n -> (now.testBit x = true ↔ wlk cl s (key : Int) x)) ->
  (shS cl n key m (s + 1) now best = best \/ (shS cl n key m (s + 1) now best % 2 = 1 /\ shS cl n key m (s + 1) now best <= s + m /\ wlk cl (shS cl n key m (s + 1) now best) (key : Int) key)) /\
  (best ≠ 0 -> shS cl n key m (s + 1) now best ≠ 0 /\ shS cl n key m (s + 1) now best <= best) /\
  ∀ t, s < t -> t <= s + m -> t % 2 = 1 -> wlk cl t (key : Int) key -> shS cl n key m (s + 1) now best ≠ 0 /\ shS cl n key m (s + 1) now best <= t
 | 0, s, now, best, hn => by
  rw [shS]
  exact ⟨.inl rfl, fun h => ⟨h, Nat.le_refl _⟩, fun t h1 h2 => absurd h2 (by omega)⟩
 | m + 1, s, now, best, hn => by
  rw [shS]
  have h0 := stp_iff hc hn
  have hb := h0 key hk
  obtain ⟨h1, h2, h3⟩ := shS_spec hc hk m (s + 1) (stpF cl n now) (if (s + 1) % 2 = 1 /\ (stpF cl n now).testBit key = true /\ (best = 0 \/ s + 1 < best) then s + 1 else best) h0
  generalize shS cl n key m (s + 1 + 1) (stpF cl n now) (if (s + 1) % 2 = 1 /\ (stpF cl n now).testBit key = true /\ (best = 0 \/ s + 1 < best) then s + 1 else best) = r at *
  by_cases hq : (s + 1) % 2 = 1 /\ (stpF cl n now).testBit key = true /\ (best = 0 \/ s + 1 < best)
  ·rw [if_pos hq] at h1 h2
   have h4 := h2 (by omega)
   refine ⟨?_, fun h => by omega, fun t h5 h6 h7 h8 => by omega⟩
   rcases h1 with h1 | ⟨h1, h5, h6⟩
   ·right
    rw [h1]
    exact ⟨hq.1, by omega, hb.1 hq.2.1⟩
   ·exact .inr ⟨h1, by omega, h6⟩
  ·rw [if_neg hq] at h1 h2
   refine ⟨?_, h2, fun t h5 h6 h7 h8 => ?_⟩
   ·rcases h1 with h1 | ⟨h1, h5, h6⟩
    ·exact .inl h1
    ·exact .inr ⟨h1, by omega, h6⟩
   ·by_cases e : t = s + 1
    ·subst e
     have h9 := hb.2 h8
     have : ¬ (best = 0 \/ s + 1 < best) := fun h => hq ⟨h7, h9, h⟩
     have := h2 (by omega)
     omega
    ·exact h3 t (by omega) (by omega) h7 h8
theorem bit_one {a b : Nat} : (2 ^ a).testBit b = decide (a = b) := by rw [Nat.testBit_two_pow]
theorem shK_spec {cl : List (Int × Int)} {n : Nat} (hc : clR cl n) : ∀ (m key best : Nat), key + m = n -> 
  (shK cl n m key best = best \/ ∃ k : Nat, k < n /\ shK cl n m key best % 2 = 1 /\ shK cl n m key best <= n /\ wlk cl (shK cl n m key best) (k : Int) k) /\
  (best ≠ 0 -> shK cl n m key best ≠ 0 /\ shK cl n m key best <= best) /\
  ∀ k : Nat, key <= k -> k < n -> ∀ t, t <= n -> t % 2 = 1 -> wlk cl t (k : Int) k -> shK cl n m key best ≠ 0 /\ shK cl n m key best <= t
 | 0, key, best, hm => by
  rw [shK]
  exact ⟨.inl rfl, fun h => ⟨h, Nat.le_refl _⟩, fun k h1 h2 => absurd h2 (by omega)⟩
 | m + 1, key, best, hm => by
  rw [shK]
  obtain ⟨a1, a2, a3⟩ := shS_spec hc (key := key) (by omega) n 0 (2 ^ key) best (fun x hx => by
   rw [bit_one, decide_eq_true_eq, wlk]; omega)
  rw [Nat.zero_add] at a1 a2 a3
  generalize shS cl n key n 1 (2 ^ key) best = b at *
  obtain ⟨h1, h2, h3⟩ := shK_spec hc m (key + 1) b (by omega)
  generalize shK cl n m (key + 1) b = r at *
  refine ⟨?_, fun h => ?_, fun k k1 k2 t t1 t2 t3 => ?_⟩
  ·rcases h1 with rfl | h1
   ·rcases a1 with a1 | ⟨a1, a4, a5⟩
    ·exact .inl a1
    ·exact .inr ⟨key, by omega, a1, by omega, a5⟩
   ·exact .inr h1
  ·have := a2 h
   have := h2 (by omega)
   omega
  ·by_cases e : k = key
   ·subst e
    have := a3 t (by omega) (by omega) t2 t3
    have := h2 (by omega)
    omega
   ·exact h3 k (by omega) k2 t t1 t2 t3
theorem shst_spec {cl : List (Int × Int)} {n : Nat} (hc : clR cl n) :
  (shst cl n ≠ 0 -> ∃ k : Nat, k < n /\ shst cl n % 2 = 1 /\ shst cl n <= n /\ wlk cl (shst cl n) (k : Int) k) /\
  ∀ k : Nat, k < n -> ∀ t, t <= n -> t % 2 = 1 -> wlk cl t (k : Int) k -> shst cl n ≠ 0 /\ shst cl n <= t := by
 unfold shst
 obtain ⟨h1, _, h3⟩ := shK_spec hc n 0 0 (by omega)
 exact ⟨fun h => h1.resolve_left h, fun k hk => h3 k (Nat.zero_le _) hk⟩
/-! Closed walks. -/
theorem cyc_wlk {cl : List (Int × Int)} {w : List Int} (h : cyc cl w) {i : Nat} : ∀ {d : Nat}, i + d < w.length -> wlk cl d (w.getD i 0) (w.getD (i + d) 0)
 | 0, _ => rfl
 | d + 1, hd => by
  refine ⟨w.getD (i + d) 0, cyc_wlk h (by omega), ?_⟩
  have := h (i + d) (by omega)
  rwa [Nat.mod_eq_of_lt (by omega)] at this
theorem cyc_last {cl : List (Int × Int)} {w : List Int} (h : cyc cl w) (h0 : 0 < w.length) : pO (w.getD (w.length - 1) 0) (w.getD 0 0) ∈ cl := by
 have := h (w.length - 1) (by omega)
 rwa [show w.length - 1 + 1 = w.length by omega, Nat.mod_self] at this
theorem cyc_all {cl : List (Int × Int)} {w : List Int} (h : cyc cl w) (h0 : 0 < w.length) : wlk cl w.length (w.getD 0 0) (w.getD 0 0) := by
 have h1 := cyc_wlk h (i := 0) (d := w.length - 1) (by omega)
 rw [Nat.zero_add] at h1
 have h2 := wlk_add h1 (wlk_one (cyc_last h h0))
 rwa [show w.length - 1 + 1 = w.length by omega] at h2
def lw (cl : List (Int × Int)) (w : List Int) : Prop := ∀ i, i + 1 < w.length -> pO (w.getD i 0) (w.getD (i + 1) 0) ∈ cl
theorem wlk_list {cl : List (Int × Int)} : ∀ {s : Nat} {a b : Int}, wlk cl s a b -> ∃ w : List Int, w.length = s + 1 /\ w.getD 0 0 = a /\ w.getD s 0 = b /\ lw cl w
 | 0, a, b, h => ⟨[a], rfl, rfl, h, fun i hi => absurd hi (by simp)⟩
 | s + 1, a, b, ⟨y, h1, h2⟩ => by
  obtain ⟨w, e1, e2, e3, e4⟩ := wlk_list h1
  have hg : ∀ i, i < w.length -> (w ++ [b]).getD i 0 = w.getD i 0 := fun i hi => by
   rw [List.getD_eq_getElem?_getD, List.getD_eq_getElem?_getD, List.getElem?_append_left hi]
  have hl : (w ++ [b]).getD (s + 1) 0 = b := by
   rw [List.getD_eq_getElem?_getD, <- e1, List.getElem?_append_right (Nat.le_refl _)]; simp
  refine ⟨w ++ [b], by simp [e1], by rw [hg 0 (by omega)]; exact e2, hl, fun i hi => ?_⟩
  rw [List.length_append, List.length_singleton] at hi
  by_cases e : i + 1 < w.length
  ·rw [hg i (by omega), hg _ e]; exact e4 i e
  ·rw [hg i (by omega), show i + 1 = s + 1 by omega, hl, show i = s by omega, e3]; exact h2
theorem wlk_cyc {cl : List (Int × Int)} {s : Nat} {a : Int} (h : wlk cl (s + 1) a a) : ∃ w : List Int, w.length = s + 1 /\ w.getD 0 0 = a /\ cyc cl w := by
 obtain ⟨y, h1, h2⟩ := h
 obtain ⟨w, e1, e2, e3, e4⟩ := wlk_list h1
 refine ⟨w, e1, e2, fun i hi => ?_⟩
 by_cases e : i + 1 < w.length
 ·rw [Nat.mod_eq_of_lt e]; exact e4 i e
 ·rw [show i + 1 = w.length by omega, Nat.mod_self, e2, show i = s by omega, e3]; exact h2
theorem cyc_simple {cl : List (Int × Int)} {n : Nat} (hc : clR cl n) {w : List Int} (h : cyc cl w) (ho : w.length % 2 = 1) (hmin : ∀ (k : Int) (t : Nat), 0 <= k -> k < n -> t % 2 = 1 -> wlk cl t k k -> w.length <= t) : w.Nodup := by
 rw [List.nodup_iff_pairwise_ne, List.pairwise_iff_getElem]
 intro i j hi hj hij e
 have hgi : w[i] = w.getD i 0 := by rw [List.getD_eq_getElem?_getD, List.getElem?_eq_getElem hi]; rfl
 have hgj : w[j] = w.getD j 0 := by rw [List.getD_eq_getElem?_getD, List.getElem?_eq_getElem hj]; rfl
 rw [hgi, hgj] at e
 have hr := fun k (hk : k < w.length) => (clR_rng hc (h k hk)).1
 have h1 := cyc_wlk h (i := i) (d := j - i) (by omega)
 rw [show i + (j - i) = j by omega, <- e] at h1
 have h2 := cyc_wlk h (i := 0) (d := i) (by omega)
 rw [Nat.zero_add] at h2
 have h3 := cyc_wlk h (i := j) (d := w.length - 1 - j) (by omega)
 rw [show j + (w.length - 1 - j) = w.length - 1 by omega, <- e] at h3
 have h4 := wlk_add (wlk_add h2 h3) (wlk_one (cyc_last h (by omega)))
 by_cases hp : (j - i) % 2 = 1
 ·have := hmin _ (j - i) (hr i hi).1 (hr i hi).2 hp h1
  omega
 ·have := hmin _ _ (hr 0 (by omega)).1 (hr 0 (by omega)).2 (by omega) h4
  omega
theorem cyc_ok {cl : List (Int × Int)} {n : Nat} (hc : clR cl n) {w : List Int} (h : cyc cl w) (ho : w.length % 2 = 1) (hmin : ∀ (k : Int) (t : Nat), 0 <= k -> k < n -> t % 2 = 1 -> wlk cl t k k -> w.length <= t) : ¬ oddL w := by
 have hn := cyc_simple hc h ho hmin
 unfold oddL
 rw [dn_of_nodup hn]
 have : w.length ≠ 1 := fun e => by
  have h1 := cyc_last h (by omega)
  rw [e] at h1
  exact (clR_rng hc h1).2.2 rfl
 omega
theorem nodup_rng {w : List Int} {n : Nat} (hn : w.Nodup) (h : ∀ x ∈ w, 0 <= x /\ x < n) : w.length <= n := by
 have := hn.length_le_of_subset (l₂ := toI (List.range n)) (by
  intro x hx
  have := h x hx
  obtain ⟨y, rfl⟩ := Int.eq_ofNat_of_zero_le this.1
  exact mem_toI.2 (List.mem_range.2 (by omega)))
 rwa [toI_len, List.length_range] at this
theorem odd_any {cl : List (Int × Int)} {n : Nat} (hc : clR cl n) : ∀ (t : Nat) (k : Int), 0 <= k -> k < n -> t % 2 = 1 -> wlk cl t k k -> shst cl n ≠ 0 /\ shst cl n <= t := by
 intro t
 induction t using Nat.strongRecOn with
 | _ t ih =>
  intro k h0 h1 ho hw
  by_cases hx : ∃ (t' : Nat) (k' : Int), t' < t /\ 0 <= k' /\ k' < n /\ t' % 2 = 1 /\ wlk cl t' k' k'
  ·obtain ⟨t', k', h2, h3, h4, h5, h6⟩ := hx
   have := ih t' h2 k' h3 h4 h5 h6
   omega
  ·obtain ⟨s, rfl⟩ : ∃ s, t = s + 1 := ⟨t - 1, by omega⟩
   obtain ⟨w, e1, e2, e3⟩ := wlk_cyc hw
   have hn := cyc_simple hc e3 (by omega) (fun k' t' h3 h4 h5 h6 => by
    rcases Nat.lt_or_ge t' w.length with h7 | h7
    ·exact absurd ⟨t', k', by omega, h3, h4, h5, h6⟩ hx
    ·exact h7)
   have hl := nodup_rng hn (fun x hx => by
    obtain ⟨i, hi, e⟩ := List.getElem_of_mem hx
    have := (clR_rng hc (e3 i hi)).1
    rw [List.getD_eq_getElem?_getD, List.getElem?_eq_getElem hi] at this
    rw [<- e]; exact this)
   obtain ⟨k, rfl⟩ := Int.eq_ofNat_of_zero_le h0
   exact (shst_spec hc).2 k (by omega) _ (by omega) ho hw
end Go.Proofs.Ytmcjoahnlbckoaa.Sk

/- The fullest day is one on which some key is taken out. -/
namespace Go.Proofs.Ytmcjoahnlbckoaa.Sk
open Go Go.E
theorem bestF_best {α : Type} {b : α -> α -> Bool} (htr : ∀ x y z, b y x = false -> b z y = false -> b z x = false) (hrf : ∀ x, b x x = false) (has : ∀ x y, b x y = true -> b y x = false) : ∀ (xs : List α) (o : α), ∀ x ∈ o :: xs, b x (bestF b o xs) = false
 | [], o, x, hx => by
  rw [List.mem_singleton] at hx
  subst hx; exact hrf _
 | y :: xs, o, x, hx => by
  rw [bestF]
  have ih := bestF_best htr hrf has xs (if b y o then y else o)
  have h0 := ih _ (List.mem_cons_self (l := xs))
  have ho : b o (bestF b (if b y o then y else o) xs) = false := by
   refine htr _ _ _ h0 ?_
   cases h : b y o with
   | true => rw [if_pos rfl]; exact has _ _ h
   | false => rw [if_neg (by simp)]; exact hrf _
  have hy : b y (bestF b (if b y o then y else o) xs) = false := by
   refine htr _ _ _ h0 ?_
   cases h : b y o with
   | true => rw [if_pos rfl]; exact hrf _
   | false => rw [if_neg (by simp)]; exact h
  rcases List.mem_cons.1 hx with rfl | hx
  ·exact ho
  ·rcases List.mem_cons.1 hx with rfl | hx
   ·exact hy
   ·exact ih x (by simp [hx])
end Go.Proofs.Ytmcjoahnlbckoaa.Sk

/- The circle that is found is a shortest one; without circles two rings are enough. -/
namespace Go.Proofs.Ytmcjoahnlbckoaa.Sk
open Go Go.E
def layr (cl : List (Int × Int)) (key : Int) (L : Nat) (ws : List (List Int)) : Prop := ∀ w ∈ ws, w.length = L /\ w.getD 0 0 = key /\ lw cl w
theorem near_iff {cl : List (Int × Int)} {n : Nat} (hc : clR cl n) {a k : Int} : k ∈ nearL cl n a ↔ pO a k ∈ cl := by
 unfold nearL
 rw [mem_fl]
 simp only [Bool.and_eq_true, Bool.not_eq_true', decide_eq_false_iff_not, decide_eq_true_eq]
 constructor
 ·rintro ⟨i, h1, h2, rfl⟩
  rw [pO_comm]; exact h2.2
 ·intro h
  obtain ⟨h1, h2, h3⟩ := clR_rng hc h
  obtain ⟨i, rfl⟩ := Int.eq_ofNat_of_zero_le h2.1
  exact ⟨i, by omega, ⟨fun e => h3 e.symm, by rw [pO_comm]; exact h⟩, rfl⟩
theorem lastI_snoc {w : List Int} {k : Int} : lastI (w ++ [k]) = k := by
 unfold lastI
 rw [List.getD_eq_getElem?_getD, List.length_append, List.length_singleton, Nat.add_sub_cancel, List.getElem?_append_right (Nat.le_refl _)]; simp
theorem lw_snoc {cl : List (Int × Int)} {w : List Int} {k : Int} (h : lw cl w) (hk : w ≠ [] -> pO (lastI w) k ∈ cl) : lw cl (w ++ [k]) := by
 intro i hi
 rw [List.length_append, List.length_singleton] at hi
 have hg : ∀ i, i < w.length -> (w ++ [k]).getD i 0 = w.getD i 0 := fun i hi => by
  rw [List.getD_eq_getElem?_getD, List.getD_eq_getElem?_getD, List.getElem?_append_left hi]
 by_cases e : i + 1 < w.length
 ·rw [hg i (by omega), hg _ e]; exact h i e
 ·have hl : (w ++ [k]).getD (i + 1) 0 = k := by
   rw [show i + 1 = w.length by omega, List.getD_eq_getElem?_getD, List.getElem?_append_right (Nat.le_refl _)]; simp
  rw [hg i (by omega), hl, show i = w.length - 1 by omega]
  exact hk (fun e => by rw [e] at hi; simp at hi)
theorem wayK_spec {cl : List (Int × Int)} {key : Int} {L : Nat} {w : List Int} (hw : w.length = L + 1 /\ w.getD 0 0 = key /\ lw cl w) : ∀ (ks : List Int) (nx : List (List Int)), (∀ k ∈ ks, pO (lastI w) k ∈ cl) -> layr cl key (L + 2) nx ->
  match wayK key w ks nx with
  | .inl x => x = w /\ (L + 1) % 2 = 1 /\ key ∈ ks
  | .inr nx' => layr cl key (L + 2) nx' /\ (∀ x ∈ nx, x ∈ nx') /\ (∀ k ∈ ks, ∃ x ∈ nx', lastI x = k) /\ ((L + 1) % 2 = 1 -> key ∉ ks)
 | [], nx, _, hn => by
  rw [wayK]
  exact ⟨hn, fun x h => h, by simp, by simp⟩
 | k :: ks, nx, hk, hn => by
  rw [wayK]
  by_cases hq : k = key /\ w.length % 2 = 1
  ·rw [if_pos hq]
   exact ⟨rfl, by omega, by simp [hq.1]⟩
  ·rw [if_neg hq]
   have hn2 : layr cl key (L + 2) (if (nx.any fun x => decide (lastI x = k)) = true then nx else nx ++ [w ++ [k]]) := by
    split
    ·exact hn
    ·intro x hx
     rcases List.mem_append.1 hx with hx | hx
     ·exact hn x hx
     ·rw [List.mem_singleton] at hx
      subst hx
      refine ⟨by simp [hw.1], ?_, lw_snoc hw.2.2 fun _ => hk k (by simp)⟩
      rw [List.getD_eq_getElem?_getD, List.getElem?_append_left (by omega), <- List.getD_eq_getElem?_getD]
      exact hw.2.1
   have hkx : ∃ x ∈ (if (nx.any fun x => decide (lastI x = k)) = true then nx else nx ++ [w ++ [k]]), lastI x = k := by
    split
    ·rename_i h
     obtain ⟨x, h1, h2⟩ := List.any_eq_true.1 h
     exact ⟨x, h1, by simpa using h2⟩
    ·exact ⟨w ++ [k], by simp, lastI_snoc⟩
   have hsub : ∀ x ∈ nx, x ∈ (if (nx.any fun x => decide (lastI x = k)) = true then nx else nx ++ [w ++ [k]]) := fun x hx => by
    split
    ·exact hx
    ·simp [hx]
   have ih := wayK_spec hw ks _ (fun k' h => hk k' (by simp [h])) hn2
   generalize (if (nx.any fun x => decide (lastI x = k)) = true then nx else nx ++ [w ++ [k]]) = nx2 at *
   cases hr : wayK key w ks nx2 with
   | inl x =>
    rw [hr] at ih
    exact ⟨ih.1, ih.2.1, by simp [ih.2.2]⟩
   | inr nx' =>
    rw [hr] at ih
    obtain ⟨h1, h2, h3, h4⟩ := ih
    refine ⟨h1, fun x hx => h2 x (hsub x hx), fun k' hk' => ?_, fun ho => ?_⟩
    ·rcases List.mem_cons.1 hk' with rfl | hk'
     ·obtain ⟨x, hx1, hx2⟩ := hkx
      exact ⟨x, h2 x hx1, hx2⟩
     ·exact h3 k' hk'
    ·rw [List.mem_cons, not_or]
     exact ⟨fun e => hq ⟨e.symm, by omega⟩, h4 ho⟩
theorem wayW_spec {cl : List (Int × Int)} {n : Nat} (hc : clR cl n) {key : Int} {L : Nat} : ∀ (ws nx : List (List Int)), layr cl key (L + 1) ws -> layr cl key (L + 2) nx ->
  match wayW cl n key ws nx with
  | .inl x => x ∈ ws /\ (L + 1) % 2 = 1 /\ pO (lastI x) key ∈ cl
  | .inr nx' => layr cl key (L + 2) nx' /\ (∀ x ∈ nx, x ∈ nx') /\ (∀ w ∈ ws, ∀ k, pO (lastI w) k ∈ cl -> ∃ x ∈ nx', lastI x = k) /\ ((L + 1) % 2 = 1 -> ∀ w ∈ ws, pO (lastI w) key ∉ cl)
 | [], nx, _, hn => by
  rw [wayW]
  exact ⟨hn, fun x h => h, by simp, by simp⟩
 | w :: ws, nx, hw, hn => by
  rw [wayW]
  have h0 := wayK_spec (hw w (by simp)) (nearL cl n (lastI w)) nx (fun k hk => (near_iff hc).1 hk) hn
  cases hr : wayK key w (nearL cl n (lastI w)) nx with
  | inl x =>
   rw [hr] at h0
   simp only at h0 ⊢
   obtain ⟨rfl, h1, h2⟩ := h0
   exact ⟨by simp, h1, (near_iff hc).1 h2⟩
  | inr nx2 =>
   rw [hr] at h0
   simp only at h0 ⊢
   obtain ⟨h1, h2, h3, h4⟩ := h0
   have ih := wayW_spec hc ws nx2 (fun x hx => hw x (by simp [hx])) h1
   cases hr2 : wayW cl n key ws nx2 with
   | inl x =>
    rw [hr2] at ih
    exact ⟨by simp [ih.1], ih.2⟩
   | inr nx' =>
    rw [hr2] at ih
    obtain ⟨h5, h6, h7, h8⟩ := ih
    refine ⟨h5, fun x hx => h6 x (h2 x hx), fun x hx k hk => ?_, fun ho x hx => ?_⟩
    ·rcases List.mem_cons.1 hx with rfl | hx
     ·obtain ⟨y, hy1, hy2⟩ := h3 k ((near_iff hc).2 hk)
      exact ⟨y, h6 y hy1, hy2⟩
     ·exact h7 x hx k hk
    ·rcases List.mem_cons.1 hx with rfl | hx
     ·exact fun h => h4 ho ((near_iff hc).2 h)
     ·exact h8 ho x hx
theorem crc_spec {cl : List (Int × Int)} {n : Nat} (hc : clR cl n) {key : Int} : ∀ (f L : Nat) (ws : List (List Int)), layr cl key (L + 1) ws -> (∀ x, wlk cl L key x -> ∃ w ∈ ws, lastI w = x) -> n <= f + L ->
  (crc cl n key f ws = [] /\ ∀ t, L < t -> t <= n -> t % 2 = 1 -> ¬ wlk cl t key key) \/
  ((crc cl n key f ws).length % 2 = 1 /\ (crc cl n key f ws).length <= n /\ cyc cl (crc cl n key f ws) /\ (crc cl n key f ws).getD 0 0 = key /\ ∀ t, L < t -> t < (crc cl n key f ws).length -> t % 2 = 1 -> ¬ wlk cl t key key)
 | 0, L, ws, hw, hx, hf => .inl ⟨by rw [crc], fun t h1 h2 => absurd h2 (by omega)⟩
 | f + 1, L, ws, hw, hx, hf => by
  rw [crc]
  by_cases hq : ws = [] \/ n < (ws.headD []).length
  ·rw [if_pos hq]
   refine .inl ⟨rfl, fun t h1 h2 h3 h4 => ?_⟩
   cases ws with
   | nil =>
    rw [show t = L + (t - L) by omega] at h4
    obtain ⟨y, hy⟩ := wlk_pre h4
    obtain ⟨w, h5, _⟩ := hx y hy
    cases h5
   | cons w ws =>
    have := (hw w (by simp)).1
    rcases hq with hq | hq
    ·cases hq
    ·rw [List.headD_cons] at hq; omega
  ·rw [if_neg hq]
   have hln : L + 1 <= n := by
    cases ws with
    | nil => exact absurd (.inl rfl) hq
    | cons w ws =>
     have h1 := (hw w (by simp)).1
     have h2 : ¬ n < w.length := fun h => hq (.inr h)
     omega
   have h0 := wayW_spec hc ws [] hw (by intro x hx; cases hx)
   cases hr : wayW cl n key ws [] with
   | inl x =>
    rw [hr] at h0
    simp only at h0 ⊢
    obtain ⟨h1, h2, h3⟩ := h0
    obtain ⟨h4, h5, h6⟩ := hw x h1
    refine .inr ⟨by omega, by omega, fun i hi => ?_, h5, fun t h7 h8 => by omega⟩
    by_cases e : i + 1 < x.length
    ·rw [Nat.mod_eq_of_lt e]; exact h6 i e
    ·rw [show i + 1 = x.length by omega, Nat.mod_self, h5, show i = x.length - 1 by omega]
     exact h3
   | inr nx =>
    rw [hr] at h0
    simp only at h0 ⊢
    obtain ⟨h1, _, h3, h4⟩ := h0
    have ih := crc_spec hc f (L + 1) nx h1 (fun x ⟨y, h5, h6⟩ => by
     obtain ⟨w, h7, rfl⟩ := hx y h5
     exact h3 w h7 x h6) (by omega)
    have hno : (L + 1) % 2 = 1 -> ¬ wlk cl (L + 1) key key := fun ho ⟨y, h5, h6⟩ => by
     obtain ⟨w, h7, rfl⟩ := hx y h5
     exact h4 ho w h7 h6
    generalize crc cl n key f nx = r at *
    rcases ih with ⟨h5, h6⟩ | ⟨h5, h6, h7, h8, h9⟩
    ·refine .inl ⟨h5, fun t h7 h8 h9 => ?_⟩
     by_cases e : t = L + 1
     ·subst e; exact hno h9
     ·exact h6 t (by omega) h8 h9
    ·refine .inr ⟨h5, h6, h7, h8, fun t h10 h11 h12 => ?_⟩
     by_cases e : t = L + 1
     ·subst e; exact hno h12
     ·exact h9 t (by omega) h11 h12
theorem crc_start {cl : List (Int × Int)} {n : Nat} (hc : clR cl n) (key : Int) :
  (crc cl n key (n + 1) [[key]] = [] /\ ∀ t, t <= n -> t % 2 = 1 -> ¬ wlk cl t key key) \/
  ((crc cl n key (n + 1) [[key]]).length % 2 = 1 /\ (crc cl n key (n + 1) [[key]]).length <= n /\ cyc cl (crc cl n key (n + 1) [[key]]) /\ (crc cl n key (n + 1) [[key]]).getD 0 0 = key /\ ∀ t, t < (crc cl n key (n + 1) [[key]]).length -> t % 2 = 1 -> ¬ wlk cl t key key) := by
 have h := crc_spec hc (key := key) (n + 1) 0 [[key]] (by
  intro w hw
  rw [List.mem_singleton] at hw
  subst hw
  exact ⟨rfl, rfl, fun i hi => absurd hi (by simp)⟩) (fun x hx => ⟨[key], by simp, hx⟩) (by omega)
 rcases h with ⟨h1, h2⟩ | ⟨h1, h2, h3, h4, h5⟩
 ·exact .inl ⟨h1, fun t h3 h4 => h2 t (by omega) h3 h4⟩
 ·exact .inr ⟨h1, h2, h3, h4, fun t h6 h7 => h5 t (by omega) h6 h7⟩
theorem mem_crcs {cl : List (Int × Int)} {n m : Nat} {x : List Int} : x ∈ crcs cl n m ↔ ∃ i : Nat, i < m /\ crc cl n (i : Int) (n + 1) [[(i : Int)]] = x /\ 0 < x.length := by
 unfold crcs
 rw [List.mem_filter, List.mem_map, decide_eq_true_eq]
 constructor
 ·rintro ⟨⟨i, h1, h2⟩, h3⟩
  exact ⟨i, List.mem_range.1 h1, h2, h3⟩
 ·rintro ⟨i, h1, h2, h3⟩
  exact ⟨⟨i, List.mem_range.2 h1, h2⟩, h3⟩
theorem cir_spec {cl : List (Int × Int)} {n : Nat} (hc : clR cl n) : (crcs cl n n = [] /\ shst cl n = 0) \/
  ∃ c cs, crcs cl n n = c :: cs /\ shst cl n ≠ 0 /\ (bestF shoB c cs).length = shst cl n /\ cyc cl (bestF shoB c cs) /\ ¬ oddL (bestF shoB c cs) := by
 obtain ⟨s1, s2⟩ := shst_spec hc
 have hx : ∀ x ∈ crcs cl n n, x.length % 2 = 1 /\ cyc cl x /\ shst cl n ≠ 0 /\ shst cl n <= x.length := fun x hx => by
  obtain ⟨i, h1, h2, h3⟩ := mem_crcs.1 hx
  have h4 := crc_start hc (i : Int)
  rw [h2] at h4
  rcases h4 with ⟨h4, _⟩ | ⟨h4, h5, h6, h7, _⟩
  ·rw [h4] at h3; simp at h3
  ·have h8 := cyc_all h6 h3
   rw [h7] at h8
   have := s2 i h1 _ h5 h4 h8
   exact ⟨h4, h6, this⟩
 by_cases h0 : shst cl n = 0
 ·left
  refine ⟨?_, h0⟩
  cases hcs : crcs cl n n with
  | nil => rfl
  | cons c cs => exact absurd h0 (hx c (by rw [hcs]; simp)).2.2.1
 ·right
  obtain ⟨k, h1, h2, h3, h4⟩ := s1 h0
  have h5 := crc_start hc (k : Int)
  have hk : crc cl n (k : Int) (n + 1) [[(k : Int)]] ∈ crcs cl n n /\ (crc cl n (k : Int) (n + 1) [[(k : Int)]]).length <= shst cl n := by
   rcases h5 with ⟨_, h6⟩ | ⟨h5, _, _, _, h6⟩
   ·exact absurd h4 (h6 _ h3 h2)
   ·refine ⟨mem_crcs.2 ⟨k, h1, rfl, by omega⟩, ?_⟩
    rcases Nat.lt_or_ge (shst cl n) (crc cl n (k : Int) (n + 1) [[(k : Int)]]).length with h7 | h7
    ·exact absurd h4 (h6 _ h7 h2)
    ·exact h7
  generalize crc cl n (k : Int) (n + 1) [[(k : Int)]] = x at hk
  cases hcs : crcs cl n n with
  | nil => rw [hcs] at hk; cases hk.1
  | cons c cs =>
   rw [hcs] at hk hx
   have hb := bestF_best (b := shoB) (fun x y z h1 h2 => by simp only [shoB, decide_eq_false_iff_not] at *; omega) (fun x => by simp [shoB]) (fun x y h1 => by simp only [shoB, decide_eq_true_eq, decide_eq_false_iff_not] at *; omega) cs c
   have hm := bestF_mem (b := shoB) cs c
   refine ⟨c, cs, rfl, h0, ?_⟩
   generalize bestF shoB c cs = r at *
   have h7 := hb x hk.1
   simp only [shoB, decide_eq_false_iff_not] at h7
   obtain ⟨h8, h9, _, h10⟩ := hx r hm
   have hl : r.length = shst cl n := by omega
   refine ⟨hl, h9, cyc_ok hc h9 h8 fun k t k0 k1 ht hw => ?_⟩
   rw [hl]
   exact (odd_any hc t k k0 k1 ht hw).2
/-! Two rings. -/
def conn (cl : List (Int × Int)) (x y : Int) : Prop := ∃ s, wlk cl s x y
theorem conn_eq {cl : List (Int × Int)} {x y : Int} (h : pO x y ∈ cl) : conn cl x = conn cl y := by
 funext z
 apply propext
 constructor
 ·rintro ⟨s, hs⟩
  exact ⟨_, wlk_add (wlk_rev (wlk_one h)) hs⟩
 ·rintro ⟨s, hs⟩
  exact ⟨_, wlk_add (wlk_one h) hs⟩
noncomputable def repr' (cl : List (Int × Int)) (x : Int) : Int := Classical.epsilon (conn cl x)
theorem repr_conn {cl : List (Int × Int)} {x : Int} : conn cl x (repr' cl x) := Classical.epsilon_spec (p := conn cl x) ⟨x, 0, rfl⟩
def evn (cl : List (Int × Int)) (x : Int) : Prop := ∃ s, s % 2 = 0 /\ wlk cl s (repr' cl x) x
theorem evn_ne {cl : List (Int × Int)} {n : Nat} (hc : clR cl n) (h0 : shst cl n = 0) {x y : Int} (h : pO x y ∈ cl) : ¬ (evn cl x ↔ evn cl y) := by
 intro he
 have hr : repr' cl x = repr' cl y := by unfold repr'; rw [conn_eq h]
 have hno : ∀ a b, wlk cl a (repr' cl x) x -> wlk cl b (repr' cl y) y -> a % 2 = b % 2 -> False := fun a b ha hb hab => by
  have h1 := wlk_add (wlk_add ha (wlk_one h)) (wlk_rev hb)
  rw [<- hr] at h1
  rw [show a + 1 + b = (a + b) + 1 by omega] at h1
  have h2 := wlk_rng hc h1
  exact (odd_any hc _ _ h2.1 h2.2 (by omega) h1).1 h0
 by_cases h1 : evn cl x
 ·obtain ⟨a, ha, ha'⟩ := h1
  obtain ⟨b, hb, hb'⟩ := he.1 ⟨a, ha, ha'⟩
  exact hno a b ha' hb' (by omega)
 ·obtain ⟨a, ha⟩ := repr_conn (cl := cl) (x := x)
  obtain ⟨b, hb⟩ := repr_conn (cl := cl) (x := y)
  have ha := wlk_rev ha
  have hb := wlk_rev hb
  have h2 : a % 2 ≠ 0 := fun e => h1 ⟨a, e, ha⟩
  have h3 : b % 2 ≠ 0 := fun e => h1 (he.2 ⟨b, e, hb⟩)
  exact hno a b ha hb (by omega)
open Classical in
theorem two_rings {cl : List (Int × Int)} {n : Nat} (hc : clR cl n) (h0 : shst cl n = 0) : fw cl n <= 2 := by
 rw [<- pcs_some]
 intro e
 have h1 := List.head?_eq_none_iff.1 e
 have h2 : ((List.range n).map fun i : Nat => if evn cl (i : Int) then 0 else 1) ∈ pcs (rel0 cl) 2 n [] := by
  rw [mem_col]
  have hg : ∀ k, k < n -> ((List.range n).map fun i : Nat => if evn cl (i : Int) then 0 else 1).getD k 0 = if evn cl (k : Int) then 0 else 1 := fun k hk => by
   rw [List.getD_eq_getElem?_getD, List.getElem?_map, List.getElem?_range hk]; rfl
  refine ⟨by simp, fun k hk => ?_⟩
  rw [hg k hk]
  refine ⟨by split <;> omega, fun i hi hR he => ?_⟩
  rw [hg i (by omega)] at he
  refine evn_ne hc h0 (by simpa [rel0] using hR : pO (i : Int) (k : Int) ∈ cl) ?_
  split at he <;> split at he <;> simp_all
 rw [h1] at h2
 cases h2
theorem clsh_clR {K Q : List (Int × Int)} (h : ckB K Q = 0) : clR (clsh K Q) K.length := fun _ hp => clsh_rng h hp
theorem ckC_iff {K Q : List (Int × Int)} (h : ckB K Q = 0) {L : List Int} : ckC K Q L = 0 ↔ ¬ oddL L /\ cyc (clsh K Q) L := by
 constructor
 ·intro h1
  exact (ckC_zero h1).2.2
 ·rintro ⟨h1, h2⟩
  unfold ckC
  rw [if_pos h, if_pos (within_of fun x hx => ?_), if_neg h1, if_pos h2]
  obtain ⟨i, hi, e⟩ := List.getElem_of_mem hx
  have := (clR_rng (clsh_clR h) (h2 i hi)).1
  rw [List.getD_eq_getElem?_getD, List.getElem?_eq_getElem hi] at this
  rw [<- e]
  simp only [Option.getD_some] at this
  omega
theorem ckC_shst {K Q : List (Int × Int)} {L : List Int} (hL : ckC K Q L = 0) : shst (clsh K Q) K.length ≠ 0 /\ shst (clsh K Q) K.length <= L.length := by
 obtain ⟨h, h1, h2, h3⟩ := ckC_zero hL
 unfold oddL at h2
 have h4 := cyc_all h3 (by omega)
 have h5 := h1 _ (getD_mem (show 0 < L.length by omega))
 exact odd_any (clsh_clR h) _ _ h5.1 h5.2 (by omega) h4
end Go.Proofs.Ytmcjoahnlbckoaa.Sk
