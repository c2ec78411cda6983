/- The examples of the chapter hold. -/
import Derived.Test.YtmcjoahnlbckoaaJ10

set_option linter.all false

namespace Go.Proofs.Ytmcjoahnlbckoaa.Sk
open Go Go.E
def KB : List (Int × Int) := [(1, 4), (3, 6), (6, 8), (2, 3)]
def QB : List (Int × Int) := [(0, 2)]
def KC : List (Int × Int) := [(0, 0), (10, 10), (20, 20), (30, 30), (40, 40)]
def QC : List (Int × Int) := [(0, 1), (0, 4), (1, 2), (2, 3), (3, 4)]
def exB : SV := bk KB QB
def exC : SV := bk KC QC
def crcC : List (List Int) := crcs (clsh KC QC) KC.length KC.length
def circC : List Int := match crcC with | [] => [] | c :: cs => bestF shoB c cs
def ckRd (K Q : List (Int × Int)) (rings : List Int) : Int × Int :=
 if ckB K Q = 0 then (if rings.length = K.length then (if withinB 0 7 rings = true then (if ∃ p ∈ clsh K Q, rg rings p.1 = rg rings p.2 then (0, 23) else ((dn [] rings : Nat), 0)) else (0, 3)) else (0, 15)) else (0, ckB K Q)
theorem ckR_dn {K Q : List (Int × Int)} {rings : List Int} : ckR K Q rings = ckRd K Q rings := by unfold ckR ckRd; rw [cpt_dn]
theorem w0 : E.Fn Try.prog 25 [exB, .int .i64 0, .int .i64 2] [.int .i64 23] := by
 have h := k25 (K := KB) (Q := QB) (one := 0) (two := 2)
 rw [show pairE KB QB 0 2 = 23 by decide +kernel] at h
 exact h
theorem w1 : E.Fn Try.prog 25 [exB, .int .i64 2, .int .i64 3] [.int .i64 0] := by
 have h := k25 (K := KB) (Q := QB) (one := 2) (two := 3)
 rw [show pairE KB QB 2 3 = 0 by decide +kernel] at h
 exact h
theorem w2 : E.Fn Try.prog 25 [exB, .int .i64 1, .int .i64 1] [.int .i64 2] := by
 have h := k25 (K := KB) (Q := QB) (one := 1) (two := 1)
 rw [show pairE KB QB 1 1 = 2 by decide +kernel] at h
 exact h
theorem w3 : E.Fn Try.prog 25 [exB, .int .i64 1, .int .i64 2] [.int .i64 23] := by
 have h := k25 (K := KB) (Q := QB) (one := 1) (two := 2)
 rw [show pairE KB QB 1 2 = 23 by decide +kernel] at h
 exact h
theorem w4 : E.Fn Try.prog 19 [exB, .slice [.int .i64 5, .int .i64 1, .int .i64 0, .int .i64 0]] [.int .i64 3, .int .i64 0] := by
 have h := k19 (K := KB) (Q := QB) (rings := [5, 1, 0, 0])
 rw [ckR_dn, show ckRd KB QB [5, 1, 0, 0] = (3, 0) by decide +kernel] at h
 exact h
theorem w5 : E.Fn Try.prog 19 [exB, .slice [.int .i64 0, .int .i64 1, .int .i64 1, .int .i64 2]] [.int .i64 0, .int .i64 23] := by
 have h := k19 (K := KB) (Q := QB) (rings := [0, 1, 1, 2])
 rw [ckR_dn, show ckRd KB QB [0, 1, 1, 2] = (0, 23) by decide +kernel] at h
 exact h
theorem w10 : E.Fn Try.prog 27 [exC] [.int .i64 3, .int .i64 0] := by
 have h := k27 (K := KC) (Q := QC)
 rw [show fewR KC QC = (3, 0) by decide +kernel] at h
 exact h
theorem w11 : E.Fn Try.prog 29 [exB] [.slice [.int .i64 0, .int .i64 1, .int .i64 2, .int .i64 2], .int .i64 0] := by
 have h := k29 (K := KB) (Q := QB)
 unfold rngR at h
 rw [if_pos (by decide +kernel), show rngs (clsh KB QB) KB.length = [0, 1, 2, 2] by decide +kernel] at h
 exact h
theorem w12 : E.Fn Try.prog 29 [exC] [.slice [.int .i64 0, .int .i64 1, .int .i64 0, .int .i64 1, .int .i64 2], .int .i64 0] := by
 have h := k29 (K := KC) (Q := QC)
 unfold rngR at h
 rw [if_pos (by decide +kernel), show rngs (clsh KC QC) KC.length = [0, 1, 0, 1, 2] by decide +kernel] at h
 exact h
theorem w13 : E.Fn Try.prog 31 [exB, .int .i64 4] [.int .i64 48, .int .i64 0] := by
 have h := k31 (K := KB) (Q := QB) (m := 4)
 rw [show couR KB QB 4 = (48, 0) by decide +kernel] at h
 exact h
theorem w14 : E.Fn Try.prog 31 [exC, .int .i64 3] [.int .i64 30, .int .i64 0] := by
 have h := k31 (K := KC) (Q := QC) (m := 3)
 rw [show couR KC QC 3 = (30, 0) by decide +kernel] at h
 exact h
theorem w15 : E.Fn Try.prog 31 [exC, .int .i64 9] [.int .i64 0, .int .i64 2] := by
 have h := k31 (K := KC) (Q := QC) (m := 9)
 rw [show couR KC QC 9 = (0, 2) by decide +kernel] at h
 exact h
theorem w19 : E.Fn Try.prog 34 [exB] [.slice [.int .i64 0, .int .i64 1, .int .i64 2], .int .i64 0] := by
 have h := k34 (K := KB) (Q := QB)
 unfold grpR at h
 rw [if_pos (by decide +kernel), show gst (clsh KB QB) KB.length (KB.length + 1) [] 0 = [0, 1, 2] by decide +kernel] at h
 exact h
theorem w21 : E.Fn Try.prog 38 [exB, .slice [.int .i64 2, .int .i64 3]] [.int .i64 14] := by
 have h := k38 (K := KB) (Q := QB) (keys := [2, 3])
 rw [show ckG KB QB [2, 3] = 14 by decide +kernel] at h
 exact h
theorem w22 : E.Fn Try.prog 38 [exB, .slice []] [.int .i64 3] := by
 have h := k38 (K := KB) (Q := QB) (keys := [])
 rw [show ckG KB QB [] = 3 by decide +kernel] at h
 exact h
theorem w24 : E.Fn Try.prog 40 [exC, .slice [.int .i64 0, .int .i64 1, .int .i64 2]] [.int .i64 14] := by
 have h := k40 (K := KC) (Q := QC) (keys := [0, 1, 2]) (by decide)
 rw [show ckC KC QC [0, 1, 2] = 14 by decide +kernel] at h
 exact h
theorem w25 : E.Fn Try.prog 40 [exC, .slice [.int .i64 0, .int .i64 1]] [.int .i64 16] := by
 have h := k40 (K := KC) (Q := QC) (keys := [0, 1]) (by decide)
 rw [show ckC KC QC [0, 1] = 16 by decide +kernel] at h
 exact h
theorem w28 : E.Fn Try.prog 36 [exC] [ints circC, .int .i64 0] := by
 have h := k36 (K := KC) (Q := QC)
 unfold cirR at h
 rw [if_pos (by decide +kernel), show crcs (clsh KC QC) KC.length KC.length = crcC by decide +kernel] at h
 exact h
theorem w29 : E.Fn Try.prog 41 [exC, ints circC] [.int .i64 0] := by
 have h := k41 (K := KC) (Q := QC) (keys := circC)
 rw [show ckC KC QC circC = 0 by decide +kernel] at h
 exact h
theorem w30 : E.Fn Try.prog 21 [exB] [.int .i64 3, .int .i64 3, .int .i64 0] := by
 have h := k21 (K := KB) (Q := QB)
 unfold dayR at h
 rw [if_pos (by decide +kernel), show (dayK KB).1 = 3 by decide +kernel, show outC KB 3 = 3 by decide +kernel] at h
 exact h
theorem w32 : E.Fn Try.prog 43 [exB, .int .i64 2, .int .i64 3] [.int .i64 2, .int .i64 0] := by
 have h := k43 (K := KB) (Q := QB) (one := 2) (two := 3)
 rw [show kndR KB QB 2 3 = (2, 0) by decide +kernel] at h
 exact h
theorem w33 : E.Fn Try.prog 43 [exC, .int .i64 0, .int .i64 2] [.int .i64 1, .int .i64 0] := by
 have h := k43 (K := KC) (Q := QC) (one := 0) (two := 2)
 rw [show kndR KC QC 0 2 = (1, 0) by decide +kernel] at h
 exact h
end Go.Proofs.Ytmcjoahnlbckoaa.Sk

/- The examples of the chapter: books, and that all hold. -/
namespace Go.Proofs.Ytmcjoahnlbckoaa.Sk
open Go Go.E Go.E.Sm
set_option maxRecDepth 10000
theorem k56 {l : List Int} : E.Fn Try.prog 56 [ints l] [ints l] := by
 refine fn_of_row okf56 ?_
 simp only [FRow.start, f56, c56r0, c56r1, ints, go_sem, Nat.reduceSub]
def twoL (K : List (Int × Int)) : List Int := K.flatMap fun p => [p.1, p.2]
theorem twoL_len {K : List (Int × Int)} : (twoL K).length = 2 * K.length := by
 induction K with
 | nil => rfl
 | cons p K ih => simp only [twoL, List.flatMap_cons, List.length_append, List.length_cons, List.length_nil] at *; omega
theorem twoL_get {K : List (Int × Int)} : ∀ {i : Nat} {p : Int × Int}, K[i]? = some p -> (twoL K)[2 * i]? = some p.1 /\ (twoL K)[2 * i + 1]? = some p.2 := by
 induction K with
 | nil => intro i p h; cases h
 | cons q K ih =>
  intro i p h
  cases i with
  | zero => simp only [List.getElem?_cons_zero, Option.some.injEq] at h; subst h; exact ⟨rfl, rfl⟩
  | succ i =>
   have := ih (i := i) (by simpa using h)
   simp only [twoL, List.flatMap_cons] at this ⊢
   rw [show 2 * (i + 1) = (2 * i) + 2 by omega, show 2 * i + 2 + 1 = (2 * i + 1) + 2 by omega]
   simpa using this
theorem twoL_snoc {K : List (Int × Int)} {p : Int × Int} : twoL (K ++ [p]) = twoL K ++ [p.1, p.2] := by
 unfold twoL; rw [List.flatMap_append]; rfl
theorem chunk_two : ∀ (K : List (Int × Int)), chunk 2 K.length ((twoL K).map (SV.int .i64)) = K.map pr
 | [] => rfl
 | p :: K => by
  have := chunk_two K
  simp only [twoL, List.flatMap_cons, List.map_append, List.length_cons, List.map_cons, List.map_nil] at this ⊢
  rw [chunk]
  simp only [List.cons_append, List.nil_append, List.take_succ_cons, List.take_zero, List.drop_succ_cons, List.drop_zero]
  rw [this]; rfl
theorem promo_cell2 {σ : AState} {b d o off sz : Nat} {cs : List LV} (h : fget σ.fr d = .loc b o) (hB : σ.hp[b]? = some (.obj cs)) (hc : cs[o + off]? = some (.full [])) :
  promote [(d, some off, sz)] σ = { fr := σ.fr, hp := σ.hp.set b (.obj (cs.set (o + off) (.sl σ.hp.length 0 0 (sz + 1) false))) ++ [.row []] } := by
 simp only [promote, promote1, h, hB, hc]
theorem one_pr {p : Int × Int} : ∀ e ∈ [SV.agg [.int .i64 p.1, .int .i64 p.2]], e.cells.length = 2 := by
 intro e he
 rw [List.mem_singleton] at he
 subst he; rfl
theorem k87 {K : List (Int × Int)} (hk : K.length <= 100) : E.Fn Try.prog 87 [ints (twoL K)] [bk K []] := by
 refine fn_of_row okf87 ?_
 have hl := twoL_len (K := K)
 simp only [FRow.start, f87, c87r0, c87r1, c87r2, ints, go_sem, Nat.reduceAdd, Nat.reduceSub]
 refine loop_rule (fun n τ => ∃ i : Nat, n = K.length - i /\ i <= K.length /\
  τ = ⟨[.s (ints (twoL K)), .any, .loc 0 0, .loc 1 0, .s (.int .i64 ((2 * i : Nat) : Int)), .any, .any, .any, .any, .any, .any, .any, .any, .any, .any, .any, .any, .any, .any, .any, .any, .any, .any, .any, .any, .any, .any, .any], [.obj [.full [], .full []], .obj [.sl 2 0 i 2 false, .full []], .row ((twoL (K.take i)).map (.int .i64))]⟩) K.length (promo_cell2 rfl rfl rfl) ?_ ?_
 ·simp only [c87l6m, go_sem, ↓reduceIte, reduceCtorEq, Nat.reduceAdd, Nat.reduceLeDiff]
  exact ⟨0, rfl, Nat.zero_le _, rfl⟩
 ·rintro I n τ ⟨i, rfl, hi, rfl⟩ hI
  have hin : inR .i64 (((2 * i : Nat) : Int) + 1) := inR_small (by omega) (by omega)
  have e1 : ((2 * i : Nat) : Int) + 1 = ((2 * i + 1 : Nat) : Int) := rfl
  simp only [c87l6, c87r3, ints, go_sem, ↓reduceIte, Nat.reduceAdd]
  refine ⟨hin, fun _ => ?_⟩
  refine ⟨fun hlt => ?_, fun hge => ?_⟩
  ·have hlt : i < K.length := by omega
   have hx : K[i]? = some K[i] := List.getElem?_eq_getElem hlt
   obtain ⟨h1, h2⟩ := twoL_get hx
   have hts : twoL (K.take (i + 1)) = twoL (K.take i) ++ [K[i].1, K[i].2] := by rw [List.take_succ, hx]; exact twoL_snoc
   have htl : (twoL (K.take i)).length = i * 2 := by rw [twoL_len, List.length_take]; omega
   generalize K[i] = p at hx h1 h2 hts
   simp only [c87r4, h1, h2, e1, splice, SV.cells, Nat.reduceBEq, Bool.false_eq_true, go_sem, ↓reduceIte, Nat.reduceAdd, Nat.reduceLeDiff, Nat.reduceMul]
   refine ⟨hin, by decide, by decide, rfl, one_pr, one_pr, htl.symm, by omega, by omega, ?_⟩
   simp only [c87r5, c87l6m, go_sem, ↓reduceIte, reduceCtorEq, Nat.reduceLeDiff]
   have e2 : (twoL (K.take i)).map (SV.int .i64) ++ flatE [SV.agg [.int .i64 p.1, .int .i64 p.2]] = (twoL (K.take (i + 1))).map (SV.int .i64) := by rw [hts, List.map_append]; rfl
   rw [e2]
   exact ⟨inR_small (by omega) (by omega), hI (K.length - (i + 1)) _ (by omega) ⟨i + 1, rfl, by omega, rfl⟩⟩
  ·have hie : i = K.length := by omega
   subst hie
   rw [List.take_length]
   have hro : rowOf 0 K.length 2 ((twoL K).map (SV.int .i64)) = some (K.map pr) := by
    rw [rowOf, if_pos (by rw [List.length_map, hl]; omega), elems, if_neg (by decide), List.drop_zero, chunk_two]
   have hso : sliceOf 0 K.length 2 ((twoL K).map (SV.int .i64)) = some (kS K) := by
    rw [sliceOf, if_pos (by rw [List.length_map, hl]; omega), elems, if_neg (by decide), List.drop_zero, chunk_two]; rfl
   simp only [c87r7, splice, hso, bk, kS, go_sem, Nat.reduceAdd]
theorem k54 : E.Fn Try.prog 54 [] [exB] := by
 refine fn_of_row okf54 ?_
 simp only [FRow.start, f54, c54r0, c54r1, go_sem, Nat.reduceSub]
 refine ⟨by decide, by decide, rfl, ints_one (xs := [1, 4, 3, 6, 6, 8, 2, 3]), ?_⟩
 refine callK_of rfl (k87 (K := KB) (by decide)) (.inr rfl) ?_
 simp only [bk, kS, SV.cells, splice, c54r2, go_sem, ↓reduceIte, Nat.reduceAdd, Nat.reduceLeDiff, Nat.reduceMul]
 refine ⟨by decide, by decide, rfl, by intro e he; rw [List.mem_singleton] at he; subst he; rfl, ?_⟩
 simp only [c54r3, splice, go_sem, Nat.reduceAdd]
 rfl
theorem k55 : E.Fn Try.prog 55 [] [exC] := by
 refine fn_of_row okf55 ?_
 simp only [FRow.start, f55, c55r0, c55r1, go_sem, Nat.reduceSub]
 refine ⟨by decide, by decide, rfl, ints_one (xs := [0, 0, 10, 10, 20, 20, 30, 30, 40, 40]), ?_⟩
 refine callK_of rfl (k87 (K := KC) (by decide)) (.inr rfl) ?_
 simp only [bk, kS, SV.cells, splice, c55r2, go_sem, ↓reduceIte, Nat.reduceAdd, Nat.reduceLeDiff, Nat.reduceMul]
 refine ⟨by decide, by decide, rfl, by intro e he; simp only [List.mem_cons, List.not_mem_nil, or_false] at he; rcases he with rfl | rfl | rfl | rfl | rfl <;> rfl, ?_⟩
 simp only [c55r3, splice, go_sem, Nat.reduceAdd]
 rfl
theorem same33 {l : List Int} : E.Fn Try.prog 33 [ints l, ints l] [.bool true] := by
 have h := k33 (xs := l) (ys := l)
 rw [decide_eq_true rfl] at h
 exact h
set_option maxHeartbeats 4000000 in
theorem works_ok : E.Fn Try.prog 18 [] [.bool true] := by
 refine fn_of_row okf18 ?_
 have hcl : circC.length = 5 := by decide +kernel
 have hcs : ((circC.length : Nat) : Int) = 5 := by rw [hcl]; rfl
 simp only [FRow.start, f18, c18r0, c18r1, go_sem, Nat.reduceSub]
 refine callK_of rfl k54 (.inr rfl) ?_
 simp only [go_sem]
 refine callK_of rfl k55 (.inr rfl) ?_
 simp only [exB, exC, bk, SV.cells, splice, go_sem, Nat.reduceAdd]
 simp only [c18r2, go_sem, Nat.reduceAdd]
 refine callK_of rfl w0 (.inl rfl) ?_
 simp only [go_sem, Nat.reduceAdd]
 refine callK_of rfl w1 (.inl rfl) ?_
 simp only [go_sem, Nat.reduceAdd]
 refine callK_of rfl w2 (.inl rfl) ?_
 simp only [c18r3, go_sem, Nat.reduceAdd]
 refine ⟨by decide, by decide, rfl, ints_one (xs := [5, 1, 0, 0]), ?_⟩
 refine callK_of rfl (k56 (l := [5, 1, 0, 0])) (.inr rfl) ?_
 simp only [go_sem]
 refine callK_of rfl w4 (.inl rfl) ?_
 simp only [c18r4, go_sem, Nat.reduceAdd]
 refine ⟨by decide, by decide, rfl, ints_one (xs := [0, 1, 1, 2]), ?_⟩
 refine callK_of rfl (k56 (l := [0, 1, 1, 2])) (.inr rfl) ?_
 simp only [go_sem]
 refine callK_of rfl w5 (.inl rfl) ?_
 simp only [c18r5, go_sem, Nat.reduceAdd]
 refine callK_of rfl w10 (.inl rfl) ?_
 simp only [c18r6, go_sem, Nat.reduceAdd]
 refine callK_of rfl w11 (.inr rfl) ?_
 simp only [c18r7, go_sem, Nat.reduceAdd]
 refine callK_of rfl w12 (.inr rfl) ?_
 simp only [c18r8, go_sem, Nat.reduceAdd]
 refine callK_of rfl w13 (.inl rfl) ?_
 simp only [c18r9, go_sem, Nat.reduceAdd]
 refine callK_of rfl w14 (.inl rfl) ?_
 simp only [c18r10, go_sem, Nat.reduceAdd]
 refine callK_of rfl w15 (.inl rfl) ?_
 simp only [c18r11, go_sem, Nat.reduceAdd]
 refine callK_of rfl w19 (.inr rfl) ?_
 simp only [c18r12, go_sem, Nat.reduceAdd]
 refine ⟨by decide, by decide, rfl, ints_one (xs := [2, 3]), ?_⟩
 refine callK_of rfl (k56 (l := [2, 3])) (.inr rfl) ?_
 simp only [go_sem]
 refine callK_of rfl w21 (.inl rfl) ?_
 simp only [go_sem, Nat.reduceAdd]
 refine callK_of rfl w22 (.inl rfl) ?_
 simp only [c18r13, go_sem, Nat.reduceAdd]
 refine ⟨by decide, by decide, rfl, ints_one (xs := [0, 1, 2]), ?_⟩
 refine callK_of rfl (k56 (l := [0, 1, 2])) (.inr rfl) ?_
 simp only [go_sem]
 refine callK_of rfl w24 (.inl rfl) ?_
 simp only [go_sem, Nat.reduceAdd]
 refine ⟨by decide, by decide, rfl, ints_one (xs := [0, 1]), ?_⟩
 refine callK_of rfl (k56 (l := [0, 1])) (.inr rfl) ?_
 simp only [go_sem]
 refine callK_of rfl w25 (.inl rfl) ?_
 simp only [c18r14, go_sem, Nat.reduceAdd]
 refine callK_of rfl w28 (.inr rfl) ?_
 simp only [c18r15, go_sem, Nat.reduceAdd]
 refine callK_of rfl w30 (.inl rfl) ?_
 simp only [c18r16, go_sem, Nat.reduceAdd]
 refine callK_of rfl w32 (.inl rfl) ?_
 simp only [c18r17, go_sem, Nat.reduceAdd]
 refine callK_of rfl w33 (.inl rfl) ?_
 simp only [c18r18, go_sem, Nat.reduceAdd]
 simp only [c18r20, go_sem]
 refine ⟨by decide, by decide, rfl, ints_one (xs := [0, 1, 2, 2]), ?_⟩
 refine callK_of rfl (k56 (l := [0, 1, 2, 2])) (.inr rfl) ?_
 simp only [go_sem]
 refine callK_of rfl (same33 (l := [0, 1, 2, 2])) (.inl rfl) ?_
 simp only [go_sem]
 refine ⟨by decide, by decide, rfl, ints_one (xs := [0, 1, 0, 1, 2]), ?_⟩
 refine callK_of rfl (k56 (l := [0, 1, 0, 1, 2])) (.inr rfl) ?_
 simp only [go_sem]
 refine callK_of rfl (same33 (l := [0, 1, 0, 1, 2])) (.inl rfl) ?_
 simp only [go_sem]
 refine ⟨by decide, by decide, rfl, ints_one (xs := [0, 1, 2]), ?_⟩
 refine callK_of rfl (k56 (l := [0, 1, 2])) (.inr rfl) ?_
 simp only [go_sem]
 refine callK_of rfl (same33 (l := [0, 1, 2])) (.inl rfl) ?_
 simp only [ints, hcs, go_sem, Nat.reduceAdd]
 refine callK_of rfl w29 (.inl rfl) ?_
 simp only [go_sem]
end Go.Proofs.Ytmcjoahnlbckoaa.Sk

/- A call of the examples of the chapter answers true. -/
namespace Go.Proofs.Ytmcjoahnlbckoaa.Sk
open Go Go.E Go.E.Sm
set_option maxRecDepth 10000
theorem wk {H : List ABlock} {k : AK} (hk : k (LV.ofResults [.bool true]) H none True) : callK Try.prog H 18 [] k := callK_of rfl works_ok (.inl rfl) hk
theorem k45 {K Q : List (Int × Int)} : E.Fn Try.prog 45 [bk K Q] [.bool (!greatB K Q && decide (ckB K Q = 0))] := by
 refine fn_of_row okf45 ?_
 simp only [FRow.start, f45, c45r0, c45r1, bk, SV.cells, go_sem, Nat.reduceAdd, Nat.reduceSub]
 refine callK_of (by simp only [bk, go_sem]) (k17 (K := K) (Q := Q)) (.inl rfl) ?_
 cases hg : greatB K Q with
 | true => simp only [go_sem]; rfl
 | false =>
  simp only [go_sem, Nat.reduceAdd]
  refine callK_of (by simp only [bk, go_sem]) (k24 (K := K) (Q := Q)) (.inl rfl) ?_
  simp only [go_sem]
  rfl
end Go.Proofs.Ytmcjoahnlbckoaa.Sk

/- Contracts of the laws' functions: the fewest rings with such ones, counts, rings by numbers. -/
namespace Go.Proofs.Ytmcjoahnlbckoaa.Sk
open Go Go.E Go.E.Sm
set_option maxRecDepth 10000
theorem k50 {K Q : List (Int × Int)} (h0 : ckB K Q = 0) {m : Nat} (hm : m <= 8) : E.Fn Try.prog 50 [bk K Q, .int .i64 m] [.int .i64 (colC (rel0 (clsh K Q)) m K.length : Nat), .bool true] := by
 refine fn_of_row okf50 ?_
 obtain ⟨hk1, hk8, _⟩ := ckB_zero h0
 have h31 := k31 (K := K) (Q := Q) (m := (m : Int))
 unfold couR at h31
 rw [if_pos h0, if_pos (by omega), Int.toNat_natCast] at h31
 have hle := colN_le (cl := clsh K Q) (keys := woK K.length (-1)) hm (Nat.le_trans woK_len hk8)
 rw [show colN (clsh K Q) (woK K.length (-1)) m = allC (clsh K Q) K.length m from rfl] at hle
 rw [allC_eq] at hle h31
 generalize colC (rel0 (clsh K Q)) m K.length = c at *
 have h1 : (0 : Int) <= (c : Int) := by omega
 have h2 : (c : Int) <= 20000000 := by omega
 simp only [FRow.start, f50, c50r0, c50r1, bk, SV.cells, go_sem, Nat.reduceAdd, Nat.reduceSub]
 refine callK_of (by simp only [bk, go_sem]) h31 (.inl rfl) ?_
 simp only [c50r2, h1, h2, go_sem]
end Go.Proofs.Ytmcjoahnlbckoaa.Sk

/- Contract of the law's own function: the numbers of a book's keys. -/
namespace Go.Proofs.Ytmcjoahnlbckoaa.Sk
open Go Go.E Go.E.Sm
set_option maxRecDepth 10000
end Go.Proofs.Ytmcjoahnlbckoaa.Sk

/- Rings that are right are at least as many as the fewest, as a group's keys, and three if there is a circle. -/
namespace Go.Proofs.Ytmcjoahnlbckoaa.Sk
open Go Go.E
end Go.Proofs.Ytmcjoahnlbckoaa.Sk

/- Walks from key to key by clashes: closed ones of an odd length. -/
namespace Go.Proofs.Ytmcjoahnlbckoaa.Sk
open Go Go.E
def wlk (cl : List (Int × Int)) : Nat -> Int -> Int -> Prop
 | 0, a, b => a = b
 | s + 1, a, b => ∃ y, wlk cl s a y /\ pO y b ∈ cl
/-! The reference's search. -/
/-! Closed walks. -/
end Go.Proofs.Ytmcjoahnlbckoaa.Sk

/- The fullest day is one on which some key is taken out. -/
namespace Go.Proofs.Ytmcjoahnlbckoaa.Sk
open Go Go.E
end Go.Proofs.Ytmcjoahnlbckoaa.Sk

/- The circle that is found is a shortest one; without circles two rings are enough. -/
namespace Go.Proofs.Ytmcjoahnlbckoaa.Sk
open Go Go.E
/-! Two rings. -/
def conn (cl : List (Int × Int)) (x y : Int) : Prop := ∃ s, wlk cl s x y
noncomputable def repr' (cl : List (Int × Int)) (x : Int) : Int := Classical.epsilon (conn cl x)
end Go.Proofs.Ytmcjoahnlbckoaa.Sk

/- Without quarrels: the fewest rings, the fullest day and the greatest groups. -/
namespace Go.Proofs.Ytmcjoahnlbckoaa.Sk
open Go Go.E
theorem pO_nat {i k : Nat} (h : i < k) : pO (i : Int) (k : Int) = ((i : Int), (k : Int)) := by
 unfold pO; apply Prod.ext <;> simp only <;> omega
end Go.Proofs.Ytmcjoahnlbckoaa.Sk

/- A book of which all days are stretched, and later. -/
namespace Go.Proofs.Ytmcjoahnlbckoaa.Sk
open Go Go.E
def str (t l : Int) (k : Int × Int) : Int × Int := (k.1 * t + l, k.2 * t + l)
end Go.Proofs.Ytmcjoahnlbckoaa.Sk

/- Two books of which no keys clash: as many rings as that which needs more, and ways are multiplied. -/
namespace Go.Proofs.Ytmcjoahnlbckoaa.Sk
open Go Go.E
end Go.Proofs.Ytmcjoahnlbckoaa.Sk

/- Two books put together, the second one's days later and its keys behind. -/
namespace Go.Proofs.Ytmcjoahnlbckoaa.Sk
open Go Go.E
theorem bef_trans {p q r : Int × Int} (h1 : bef p q) (h2 : bef q r) : bef p r := by unfold bef at *; omega
theorem ckQ_iff {m : Int} : ∀ {Q : List (Int × Int)} {last : Int × Int}, ckQ m last Q = 0 ↔ (∀ q ∈ Q, 0 <= q.1 /\ q.1 < q.2 /\ q.2 <= m) /\ (last :: Q).Pairwise bef
 | [], last => by simp [ckQ]
 | q :: Q, last => by
  rw [ckQ_cons]
  constructor
  ·intro h
   split at h
   ·cases h
   ·rename_i hn
    have hb : bef last q := Classical.byContradiction fun h => hn (.inr h)
    have hr : ¬ (q.1 < 0 \/ q.2 <= q.1 \/ m < q.2) := fun h => hn (.inl h)
    obtain ⟨h1, h2⟩ := ckQ_iff.1 h
    refine ⟨fun x hx => ?_, List.pairwise_cons.2 ⟨fun x hx => ?_, h2⟩⟩
    ·rcases List.mem_cons.1 hx with rfl | hx
     ·omega
     ·exact h1 x hx
    ·rcases List.mem_cons.1 hx with rfl | hx
     ·exact hb
     ·exact bef_trans hb ((List.pairwise_cons.1 h2).1 x hx)
  ·rintro ⟨h1, h2⟩
   obtain ⟨h3, h4⟩ := List.pairwise_cons.1 h2
   have h5 := h1 q (by simp)
   rw [if_neg, ckQ_iff]
   ·exact ⟨fun x hx => h1 x (by simp [hx]), h4⟩
   ·rintro (h | h)
    ·omega
    ·exact h (h3 q (by simp))
end Go.Proofs.Ytmcjoahnlbckoaa.Sk

/- Contract of the reference's function: whether two keys are on the same ring. -/
namespace Go.Proofs.Ytmcjoahnlbckoaa.Sk
open Go Go.E Go.E.Sm
set_option maxRecDepth 10000
end Go.Proofs.Ytmcjoahnlbckoaa.Sk

/- Whether two keys are on the same ring, either way. -/
namespace Go.Proofs.Ytmcjoahnlbckoaa.Sk
open Go Go.E
end Go.Proofs.Ytmcjoahnlbckoaa.Sk

/- One quarrel more: where it is put, that the book stays valid, and what becomes of the fewest rings. -/
namespace Go.Proofs.Ytmcjoahnlbckoaa.Sk
open Go Go.E
def qi (p : Int × Int) : List (Int × Int) -> List (Int × Int)
 | [] => [p]
 | x :: l => if bef p x then p :: x :: l else x :: qi p l
theorem qi_len {p : Int × Int} : ∀ l : List (Int × Int), (qi p l).length = l.length + 1
 | [] => rfl
 | x :: l => by
  rw [qi]
  split
  ·rfl
  ·rw [List.length_cons, qi_len l, List.length_cons]
theorem mem_qi {p x : Int × Int} : ∀ {l : List (Int × Int)}, x ∈ qi p l ↔ x = p \/ x ∈ l
 | [] => by simp [qi]
 | y :: l => by
  rw [qi]
  split
  ·rw [List.mem_cons]
  ·rw [List.mem_cons, mem_qi, List.mem_cons]
   exact ⟨fun h => h.elim (fun h => .inr (.inl h)) fun h => h.elim .inl fun h => .inr (.inr h), fun h => h.elim (fun h => .inr (.inl h)) fun h => h.elim .inl fun h => .inr (.inr h)⟩
theorem bef_tri {p q : Int × Int} (h : p ≠ q) (hb : ¬ bef p q) : bef q p := by
 have : ¬ (p.1 = q.1 /\ p.2 = q.2) := fun e => h (Prod.ext e.1 e.2)
 unfold bef at *
 omega
theorem qi_pw {p : Int × Int} : ∀ {l : List (Int × Int)}, l.Pairwise bef -> p ∉ l -> (qi p l).Pairwise bef
 | [], _, _ => by simp [qi]
 | x :: l, h, hn => by
  obtain ⟨h1, h2⟩ := List.pairwise_cons.1 h
  rw [qi]
  split
  ·rename_i hb
   exact List.pairwise_cons.2 ⟨fun y hy => by
    rcases List.mem_cons.1 hy with rfl | hy
    ·exact hb
    ·exact bef_trans hb (h1 y hy), h⟩
  ·rename_i hb
   refine List.pairwise_cons.2 ⟨fun y hy => ?_, qi_pw h2 fun h => hn (List.mem_cons_of_mem _ h)⟩
   rcases mem_qi.1 hy with rfl | hy
   ·exact bef_tri (fun e => hn (by rw [e]; simp)) hb
   ·exact h1 y hy
theorem ckB_qi {K Q : List (Int × Int)} {p : Int × Int} (h : ckB K Q = 0) (hp : 0 <= p.1 /\ p.1 < p.2 /\ p.2 < K.length) (hn : p ∉ Q) (hl : Q.length + 1 <= 12) : ckB K (qi p Q) = 0 := by
 obtain ⟨a1, a8, _, a3, a4⟩ := ckB_zero h
 obtain ⟨a5, a6⟩ := ckQ_iff.1 a4
 obtain ⟨a7, a9⟩ := List.pairwise_cons.1 a6
 unfold ckB
 rw [if_pos (within_of (by simp; omega)), if_neg (by rw [qi_len]; omega), if_neg (by rw [a3]; simp), ckQ_iff]
 refine ⟨fun q hq => ?_, List.pairwise_cons.2 ⟨fun q hq => ?_, qi_pw a9 hn⟩⟩
 ·rcases mem_qi.1 hq with rfl | hq
  ·omega
  ·exact a5 q hq
 ·rcases mem_qi.1 hq with rfl | hq
  ·unfold bef; simp only; omega
  ·exact a7 q hq
theorem clsh_qi {K Q : List (Int × Int)} {p x : Int × Int} : x ∈ clsh K (qi p Q) ↔ x = p \/ x ∈ clsh K Q := by
 rw [mem_clsh, mem_clsh, mem_qi, or_assoc]
theorem rel0_comm {cl : List (Int × Int)} (a b : Nat) : rel0 cl a b = rel0 cl b a := by unfold rel0; rw [pO_comm]
theorem rel0_mem {cl : List (Int × Int)} {a b : Nat} : rel0 cl a b = true ↔ pO (a : Int) (b : Int) ∈ cl := by unfold rel0; exact decide_eq_true_iff
end Go.Proofs.Ytmcjoahnlbckoaa.Sk

/- Two keys by numbers; one key more; two keys that become one. -/
namespace Go.Proofs.Ytmcjoahnlbckoaa.Sk
open Go Go.E
theorem rot_ne {n o t : Int} (ho : 0 <= o /\ o < n) (ht : 0 <= t /\ t < n - 1) : 0 <= (o + 1 + t).tmod n /\ (o + 1 + t).tmod n < n /\ (o + 1 + t).tmod n ≠ o := by
 rw [Int.tmod_eq_emod_of_nonneg (by omega)]
 by_cases h : o + 1 + t < n
 ·rw [Int.emod_eq_of_lt (by omega) h]
  omega
 ·have h1 : (o + 1 + t) % n = (o + 1 + t - n) % n := by
   have := Int.add_mul_emod_self_left (o + 1 + t - n) n 1
   rw [Int.mul_one, Int.sub_add_cancel] at this
   exact this
  rw [h1, Int.emod_eq_of_lt (by omega) (by omega)]
  omega
theorem ckP_ok {K Q : List (Int × Int)} {a b : Int} (h : ckB K Q = 0) (ha : 0 <= a /\ a < K.length) (hb : 0 <= b /\ b < K.length) (hab : a ≠ b) : ckP K Q a b = 0 := by
 unfold ckP
 rw [if_pos h, if_pos (within_of (by simp; omega)), if_neg hab]
def jd (i k a : Nat) : Nat := if a = k then i else if k < a then a - 1 else a
theorem jd_k {i k : Nat} : jd i k k = i := by unfold jd; rw [if_pos rfl]
theorem jd_up {i k a : Nat} : jd i k (upI k a) = a := by
 unfold jd upI
 split <;> split <;> (try split) <;> omega
theorem up_jd {i k w : Nat} (h : w ≠ k) : upI k (jd i k w) = w := by
 unfold jd upI
 rw [if_neg h]
 split <;> split <;> omega
theorem up_i {i k : Nat} (h : i < k) : upI k i = i := by unfold upI; rw [if_pos h]
theorem part_rel {cl cy : List (Int × Int)} {n i k : Nat} (hik : i < k) (hk : k < n) (h0 : pO (i : Int) (k : Int) ∉ cl)
  (hy : ∀ a b : Nat, a < b -> b < n - 1 -> (pO (a : Int) (b : Int) ∈ cy ↔ ∃ u v : Nat, u < v /\ v < n /\ pO (u : Int) (v : Int) ∈ cl /\ jd i k u ≠ jd i k v /\ pO (a : Int) (b : Int) = pO (jd i k u : Nat) (jd i k v : Nat))) :
  ∀ a b, a < b -> b < n - 1 -> rel0 cy a b = (rel0 cl (upI k a) (upI k b) || (decide (upI k a = i) && rel0 cl k (upI k b)) || (decide (upI k b = i) && rel0 cl k (upI k a))) := by
 intro a b hab hb
 have key : ∀ {u v : Nat}, u ≠ v -> u < n -> v < n -> pO (u : Int) (v : Int) ∈ cl -> jd i k u ≠ jd i k v -> ∃ u v : Nat, u < v /\ v < n /\ pO (u : Int) (v : Int) ∈ cl /\ jd i k u ≠ jd i k v /\ pO (jd i k u : Nat) (jd i k v : Nat) = pO (jd i k u : Nat) (jd i k v : Nat) := fun {u v} h1 h2 h3 h4 h5 => by
  rcases Nat.lt_or_gt_of_ne h1 with h | h
  ·exact ⟨u, v, h, h3, h4, h5, rfl⟩
  ·exact ⟨v, u, h, h2, by rw [pO_comm]; exact h4, h5.symm, rfl⟩
 have mk : ∀ {u v : Nat}, u ≠ v -> u < n -> v < n -> pO (u : Int) (v : Int) ∈ cl -> jd i k u ≠ jd i k v -> pO (a : Int) (b : Int) = pO (jd i k u : Nat) (jd i k v : Nat) -> pO (a : Int) (b : Int) ∈ cy := fun {u v} h1 h2 h3 h4 h5 h6 => by
  rw [hy a b hab hb]
  rcases Nat.lt_or_gt_of_ne h1 with h | h
  ·exact ⟨u, v, h, h3, h4, h5, h6⟩
  ·exact ⟨v, u, h, h2, by rw [pO_comm]; exact h4, h5.symm, by rw [h6, pO_comm]⟩
 have hua := (upI_n (a := a) hk).2 (by omega)
 have hub := (upI_n (a := b) hk).2 hb
 rw [Bool.eq_iff_iff, Bool.or_eq_true, Bool.or_eq_true, Bool.and_eq_true, Bool.and_eq_true, decide_eq_true_eq, decide_eq_true_eq, rel0_mem, rel0_mem, rel0_mem, rel0_mem]
 constructor
 ·intro h
  obtain ⟨u, v, h1, h2, h3, h4, h5⟩ := (hy a b hab hb).1 h
  have e5 : a = jd i k u /\ b = jd i k v \/ a = jd i k v /\ b = jd i k u := by
   rcases pO_eq h5 with ⟨e1, e2⟩ | ⟨e1, e2⟩
   ·exact .inl ⟨by omega, by omega⟩
   ·exact .inr ⟨by omega, by omega⟩
  by_cases hu : u = k
  ·subst hu
   have hv : v ≠ u := by omega
   rw [jd_k] at e5
   rcases e5 with ⟨e1, e2⟩ | ⟨e1, e2⟩
   ·refine .inl (.inr ⟨by rw [e1]; exact up_i hik, ?_⟩)
    rw [e2, up_jd hv]; exact h3
   ·refine .inr ⟨by rw [e2]; exact up_i hik, ?_⟩
    rw [e1, up_jd hv]; exact h3
  ·by_cases hv : v = k
   ·subst hv
    rw [jd_k] at e5
    rcases e5 with ⟨e1, e2⟩ | ⟨e1, e2⟩
    ·refine .inr ⟨by rw [e2]; exact up_i hik, ?_⟩
     rw [e1, up_jd hu, pO_comm]; exact h3
    ·refine .inl (.inr ⟨by rw [e1]; exact up_i hik, ?_⟩)
     rw [e2, up_jd hu, pO_comm]; exact h3
   ·refine .inl (.inl ?_)
    rcases e5 with ⟨e1, e2⟩ | ⟨e1, e2⟩
    ·rw [e1, e2, up_jd hu, up_jd hv]; exact h3
    ·rw [e1, e2, up_jd hu, up_jd hv, pO_comm]; exact h3
 ·rintro ((h | ⟨h, h1⟩) | ⟨h, h1⟩)
  ·exact mk (Nat.ne_of_lt (upI_lt hab)) hua hub h (by rw [jd_up, jd_up]; omega) (by rw [jd_up, jd_up])
  ·have ea : a = i := by rw [<- jd_up (i := i) (k := k) (a := a), h]; unfold jd; rw [if_neg (by omega), if_neg (by omega)]
   exact mk (fun e => upI_ne e.symm) hk hub h1 (by rw [jd_up, jd_k]; omega) (by rw [jd_up, jd_k, ea])
  ·have eb : b = i := by rw [<- jd_up (i := i) (k := k) (a := b), h]; unfold jd; rw [if_neg (by omega), if_neg (by omega)]
   exact mk (fun e => upI_ne e.symm) hk hua h1 (by rw [jd_up, jd_k]; omega) (by rw [jd_up, jd_k, eb, pO_comm])
theorem part_col {cl cx cy : List (Int × Int)} {n i k m : Nat} (hik : i < k) (hk : k < n) (h0 : pO (i : Int) (k : Int) ∉ cl) (hx : ∀ x, x ∈ cx ↔ x = pO (i : Int) (k : Int) \/ x ∈ cl)
  (hy : ∀ a b : Nat, a < b -> b < n - 1 -> (pO (a : Int) (b : Int) ∈ cy ↔ ∃ u v : Nat, u < v /\ v < n /\ pO (u : Int) (v : Int) ∈ cl /\ jd i k u ≠ jd i k v /\ pO (a : Int) (b : Int) = pO (jd i k u : Nat) (jd i k v : Nat))) :
  colC (rel0 cl) m n = colC (rel0 cx) m n + colC (rel0 cy) m (n - 1) := by
 rw [del_con (R' := rel0 cx) hik hk ?_, con (R2 := rel0 cy) (by omega) (by omega) hk (fun a b => rel0_comm a b) ?_ (part_rel hik hk h0 hy)]
 ·rw [<- Bool.not_eq_true, rel0_mem]; exact h0
 ·intro a b hab hb
  rw [Bool.eq_iff_iff, Bool.or_eq_true, Bool.and_eq_true, decide_eq_true_eq, decide_eq_true_eq, rel0_mem, rel0_mem, hx]
  constructor
  ·rintro (h | h)
   ·rw [pO_nat hab, pO_nat hik, Prod.mk.injEq] at h
    exact .inr ⟨by omega, by omega⟩
   ·exact .inl h
  ·rintro (h | ⟨rfl, rfl⟩)
   ·exact .inr h
   ·exact .inl rfl
end Go.Proofs.Ytmcjoahnlbckoaa.Sk

/- The book whose quarrels are all clashes, two keys being one. -/
namespace Go.Proofs.Ytmcjoahnlbckoaa.Sk
open Go Go.E
def ownK (n : Nat) : List (Int × Int) := (List.range n).map fun a : Nat => ((a : Int), (a : Int))
theorem ownK_len {n : Nat} : (ownK n).length = n := by unfold ownK; rw [List.length_map, List.length_range]
theorem ownK_succ {n : Nat} : ownK (n + 1) = ownK n ++ [((n : Int), (n : Int))] := by
 unfold ownK; rw [List.range_succ, List.map_append]; rfl
theorem ownK_get {n a : Nat} {x : Int × Int} (h : (ownK n)[a]? = some x) : x = ((a : Int), (a : Int)) := by
 unfold ownK at h
 rw [List.getElem?_map, Option.map_eq_some_iff] at h
 obtain ⟨b, h1, rfl⟩ := h
 obtain ⟨h2, h3⟩ := List.getElem?_eq_some_iff.1 h1
 rw [List.getElem_range] at h3
 subst h3; rfl
theorem clsh_own {n : Nat} {Q : List (Int × Int)} {p : Int × Int} : p ∈ clsh (ownK n) Q ↔ p ∈ Q := by
 rw [mem_clsh]
 constructor
 ·rintro (h | ⟨i, k, x, y, h1, h2, h3, h4, _⟩)
  ·exact h
  ·rw [ownK_get h2, ownK_get h3] at h4
   unfold over at h4
   simp only at h4
   omega
 ·exact .inl
def oky (cl : List (Int × Int)) (i k : Nat) (P : Nat -> Nat -> Prop) (Q : List (Int × Int)) : Prop :=
 Q.length <= 13 /\ (Q.length <= 12 -> ∀ x, x ∈ Q ↔ ∃ u v : Nat, P u v /\ pO (u : Int) (v : Int) ∈ cl /\ jd i k u ≠ jd i k v /\ x = pO (jd i k u : Nat) (jd i k v : Nat))
section
variable {cl : List (Int × Int)} {i k : Nat} {P : Nat -> Nat -> Prop} {Q : List (Int × Int)}
theorem oky_congr {P' : Nat -> Nat -> Prop} (h : oky cl i k P Q) (hP : ∀ u v, P u v ↔ P' u v) : oky cl i k P' Q := by
 have : P = P' := funext fun u => funext fun v => propext (hP u v)
 rw [<- this]; exact h
theorem oky_same {u v : Nat} (h : oky cl i k P Q) (hs : jd i k u = jd i k v \/ pO (u : Int) (v : Int) ∉ cl \/ 12 < Q.length \/ pO (jd i k u : Nat) (jd i k v : Nat) ∈ Q) : oky cl i k (fun a b => P a b \/ a = u /\ b = v) Q := by
 refine ⟨h.1, fun hl x => ?_⟩
 rw [h.2 hl x]
 constructor
 ·rintro ⟨a, b, h1, h2⟩
  exact ⟨a, b, .inl h1, h2⟩
 ·rintro ⟨a, b, h1 | ⟨rfl, rfl⟩, h2, h3, h4⟩
  ·exact ⟨a, b, h1, h2, h3, h4⟩
  ·rcases hs with hs | hs | hs | hs
   ·exact absurd hs h3
   ·exact absurd h2 hs
   ·omega
   ·obtain ⟨c, d, h5⟩ := (h.2 hl _).1 hs
    exact ⟨c, d, h5.1, h5.2.1, h5.2.2.1, h4.trans h5.2.2.2⟩
theorem oky_new {u v : Nat} (h : oky cl i k P Q) (hl : Q.length <= 12) (hc : pO (u : Int) (v : Int) ∈ cl) (hj : jd i k u ≠ jd i k v) : oky cl i k (fun a b => P a b \/ a = u /\ b = v) (qi (pO (jd i k u : Nat) (jd i k v : Nat)) Q) := by
 refine ⟨by rw [qi_len]; omega, fun _ x => ?_⟩
 rw [mem_qi, h.2 hl x]
 constructor
 ·rintro (h1 | ⟨a, b, h1, h2⟩)
  ·exact ⟨u, v, .inr ⟨rfl, rfl⟩, hc, hj, h1⟩
  ·exact ⟨a, b, .inl h1, h2⟩
 ·rintro ⟨a, b, h1 | ⟨rfl, rfl⟩, h2, h3, h4⟩
  ·exact .inr ⟨a, b, h1, h2, h3, h4⟩
  ·exact .inl h4
end
theorem oky_col {cl Q Qx : List (Int × Int)} {n i k m : Nat} (hik : i < k) (hk : k < n) (h0 : pO (i : Int) (k : Int) ∉ cl) (hx : ∀ x, x ∈ Qx ↔ x = pO (i : Int) (k : Int) \/ x ∈ cl)
  (h : oky cl i k (fun u v => u < v /\ v < n) Q) (hl : Q.length <= 12) : colC (rel0 cl) m n = colC (rel0 Qx) m n + colC (rel0 (clsh (ownK (n - 1)) Q)) m (n - 1) := by
 refine part_col hik hk h0 hx fun a b _ _ => ?_
 rw [clsh_own, h.2 hl]
 constructor
 ·rintro ⟨u, v, ⟨h1, h2⟩, h3⟩
  exact ⟨u, v, h1, h2, h3⟩
 ·rintro ⟨u, v, h1, h2, h3⟩
  exact ⟨u, v, ⟨h1, h2⟩, h3⟩
end Go.Proofs.Ytmcjoahnlbckoaa.Sk

/- A row that is frozen from there on, reckoned. -/
namespace Go.Proofs.Ytmcjoahnlbckoaa.Sk
open Go Go.E Go.E.Sm
@[go_sem] theorem awp_zap' {P : Program} {n0 t off : Nat} {a : ACode} {fr : List LV} {H : List ABlock} {Q : AExit -> AState -> Prop} : awp P n0 (.zap t off a) ⟨fr, H⟩ Q = zapK H off (fun H' => awp P n0 a { fr := fr, hp := H' } Q) (fget fr t) := propext Iff.rfl
end Go.Proofs.Ytmcjoahnlbckoaa.Sk

/- The code of a law in the value semantics. -/
namespace Go.Proofs.Ytmcjoahnlbckoaa.Sk
open Go Go.E
def c52r0 : List AOper := [
 oP 3 (.boxS (.t 0)),
 oP 6 (.alloc [(.full []), (.full [])]),
 oP 7 (.mov bF)]
def c52r1 : List AOper := [
 oM 13 1,
 oM 14 2,
 oP 15 (.min [(.t 13), (.t 14)]),
 oM 16 1,
 oM 17 2,
 oP 18 (.max [(.t 16), (.t 17)]),
 oP 19 (.build [(.s (.int .i64 0)), (.s (.int .i64 0))] [(0, 1, (.t 15)), (1, 1, (.t 18))]),
 oP 8 (.alloc [(.s (.int .i64 0)), (.s (.int .i64 0))]),
 ⟨none, none, .store 2 (.t 8) (.t 19)⟩]
def c52r2 : List AOper := [
 oF 20 0 3,
 oL 21 20,
 oP 22 (.build [(.full []), (.full [])] [(0, 1, (.t 21))]),
 oP 9 (.alloc [(.full []), (.full [])]),
 ⟨none, none, .store 2 (.t 9) (.t 22)⟩]
def c52r3 : List AOper := [
 oP 10 (.mov bF)]
def c52r4 : List AOper := [
 oP 11 (.mov (nI 0))]
def c52r5 : List AOper := [
 oM 23 11,
 oF 24 1 3,
 oL 25 24,
 oN 26 25,
 oP 27 (.cmp .lss (.t 23) (.t 26))]
def c52r6 : List AOper := [
 oF 30 1 3,
 oL 31 30,
 oM 32 11,
 oP 33 (.idxA 2 (.t 31) (.t 32)),
 oP 34 (.load 2 true (.t 33)),
 oP 12 (.alloc [(.s (.int .i64 0)), (.s (.int .i64 0))]),
 ⟨none, none, .store 2 (.t 12) (.t 34)⟩]
def c52r7 : List AOper := [
 oP 35 (.load 2 true (.t 12)),
 oP 36 (.load 2 true (.t 8)),
 oP 37 (.eql true [(.int .i64), (.int .i64)] false (.t 35) (.t 36))]
def c52r8 : List AOper := [
 oP 38 (.load 2 true (.t 3)),
 ⟨none, none, .store 2 (.t 6) (.t 38)⟩,
 oP 7 (.mov bF)]
def c52r9 : List AOper := [
 oM 39 10,
 oP 40 (.not (.t 39)),
 oM 41 40,
 oG 42 41 true (.idxArrA 2 1 (.t 12) (nI 0)),
 oG 43 41 true (.load 1 false (.t 42)),
 oG 44 41 true (.idxArrA 2 1 (.t 8) (nI 0)),
 oG 45 41 true (.load 1 false (.t 44)),
 oG 46 41 true (.cmp .gtr (.t 43) (.t 45)),
 oH 47 41 true 46,
 oG 48 47 false (.idxArrA 2 1 (.t 12) (nI 0)),
 oG 49 47 false (.load 1 false (.t 48)),
 oG 50 47 false (.idxArrA 2 1 (.t 8) (nI 0)),
 oG 51 47 false (.load 1 false (.t 50)),
 oG 52 47 false (.cmp .eql (.t 49) (.t 51)),
 oH 53 47 false 52,
 oG 54 53 true (.idxArrA 2 1 (.t 12) (nI 1)),
 oG 55 53 true (.load 1 false (.t 54)),
 oG 56 53 true (.idxArrA 2 1 (.t 8) (nI 1)),
 oG 57 53 true (.load 1 false (.t 56)),
 oG 58 53 true (.cmp .gtr (.t 55) (.t 57)),
 oG 59 47 false (.pick (.t 53) (.t 58) bF),
 oG 60 41 true (.pick (.t 47) bT (.t 59)),
 oP 61 (.pick (.t 41) (.t 60) bF)]
def c52r10 : List AOper := [
 oF 62 1 9,
 oL 63 62,
 oP 64 (.load 2 true (.t 8)),
 oP 65 (.buildSl 2 1 (.agg [(.int .i64 0), (.int .i64 0)]) [(0, (.t 64))]),
 oP 66 (.append 2 16 (.t 63) (.t 65)),
 oF 67 1 9,
 ⟨none, none, .store 1 (.t 67) (.t 66)⟩,
 oP 10 (.mov bT)]
def c52r11 : List AOper := [
 oF 68 1 9,
 oL 69 68,
 oP 70 (.load 2 true (.t 12)),
 oP 71 (.buildSl 2 1 (.agg [(.int .i64 0), (.int .i64 0)]) [(0, (.t 70))]),
 oP 72 (.append 2 16 (.t 69) (.t 71)),
 oF 73 1 9,
 ⟨none, none, .store 1 (.t 73) (.t 72)⟩]
def c52r12 : List AOper := [
 oM 28 11,
 oP 29 (.arith .add (.t 28) (nI 1)),
 oM 11 29]
def c52l13 : ACode := (.seq (.seq (.reg 0 c52r5) (.cond (.t 27) .skip (.exit 0))) (.seq (.block 1 (.seq (.reg 1 c52r6) (.seq (.seq (.reg 0 c52r7) (.cond (.t 37) (.seq (.reg 0 c52r8) .ret) .skip)) (.seq (.seq (.reg 0 c52r9) (.cond (.t 61) (.reg 1 c52r10) .skip)) (.reg 1 c52r11))))) (.reg 0 c52r12)))
def c52l13m : List Bool := [fF,fF,fF,tT,fF,fF,tT,fF,tT,tT,tT,tT,fF,fF,fF,fF,fF,fF,fF,fF,fF,fF,fF,fF,fF,fF,fF,fF,fF,fF,fF,fF,fF,fF,fF,fF,fF,fF,fF,fF,fF,fF,fF,fF,fF,fF,fF,fF,fF,fF,fF,fF,fF,fF,fF,fF,fF,fF,fF,fF,fF,fF,fF,fF,fF,fF,fF,fF,fF,fF,fF,fF,fF,fF,fF,fF,fF,fF,fF,fF,fF,fF,fF,fF,fF,fF,fF]
def c52r14 : List AOper := [
 oM 74 10,
 oP 75 (.not (.t 74))]
def c52r15 : List AOper := [
 oF 76 1 9,
 oL 77 76,
 oP 78 (.load 2 true (.t 8)),
 oP 79 (.buildSl 2 1 (.agg [(.int .i64 0), (.int .i64 0)]) [(0, (.t 78))]),
 oP 80 (.append 2 16 (.t 77) (.t 79)),
 oF 81 1 9,
 ⟨none, none, .store 1 (.t 81) (.t 80)⟩]
def c52r16 : List AOper := [
 oP 82 (.load 2 true (.t 9)),
 oF 83 1 9,
 oP 84 (.loadX 1 false (.t 83) 6),
 oN 85 84,
 oP 86 (.cmp .leq (.t 85) (nI 12)),
 ⟨none, none, .store 2 (.t 6) (.t 82)⟩,
 oM 7 86]
def f52 : FRow := ⟨(.seq (.reg 1 c52r0) (.seq (.reg 1 c52r1) (.seq (.reg 1 c52r2) (.seq (.reg 0 c52r3) (.seq (.seq (.reg 0 c52r4) (.block 0 (.loop c52l13m [(9, some 1, 1)] c52l13))) (.seq (.seq (.reg 0 c52r14) (.cond (.t 75) (.reg 1 c52r15) .skip)) (.seq (.reg 0 c52r16) .ret))))))), [.cell 6 2 true, .tmp 7], 87⟩
theorem okf52 : f52.Ok Try.prog 52 := ⟨_, _, Try.func52, rfl, by kernel_rfl, by kernel_rfl, by kernel_rfl⟩
end Go.Proofs.Ytmcjoahnlbckoaa.Sk

/- Contract of the laws' function: a book with one quarrel more. -/
namespace Go.Proofs.Ytmcjoahnlbckoaa.Sk
open Go Go.E Go.E.Sm
set_option maxRecDepth 10000
@[go_sem] theorem ldOK_loc {H : List ABlock} {n b off : Nat} {g : Bool} {k : AK} : ldOK H n g k (.loc b off) = ldOB H off n g k H[b]? := propext Iff.rfl
@[go_sem] theorem ldOK_ptr {H : List ABlock} {n : Nat} {g : Bool} {k : AK} {cs : List SV} : ldOK H n g k (.s (.ptr cs)) = partS H cs 0 n k g := propext Iff.rfl
@[go_sem] theorem ldOB_obj {H : List ABlock} {n off : Nat} {g : Bool} {k : AK} {cs : List LV} : ldOB H off n g k (some (.obj cs)) = partL H cs off n k g := propext Iff.rfl
theorem minL_two {a b : Int} : minL [a, b] = min a b := by
 simp only [minL, List.foldl]; split <;> omega
theorem maxL_two {a b : Int} : maxL [a, b] = max a b := by
 simp only [maxL, List.foldl]; split <;> omega
theorem qi_not {p : Int × Int} : ∀ {l : List (Int × Int)}, (∀ x ∈ l, ¬ bef p x) -> qi p l = l ++ [p]
 | [], _ => rfl
 | x :: l, h => by
  rw [qi, if_neg (h x (by simp)), qi_not fun y hy => h y (by simp [hy])]; rfl
theorem qi_new {p x : Int × Int} : ∀ {l : List (Int × Int)}, (∀ y ∈ l, ¬ bef p y) -> bef p x -> qi p (l ++ [x]) = l ++ [p] ++ [x]
 | [], _, hb => by rw [List.nil_append, qi, if_pos hb]; rfl
 | y :: l, h, hb => by
  rw [List.cons_append, qi, if_neg (h y (by simp)), qi_new (fun z hz => h z (by simp [hz])) hb]; rfl
theorem qi_old {p x : Int × Int} : ∀ {l : List (Int × Int)}, (∃ y ∈ l, bef p y) -> qi p (l ++ [x]) = qi p l ++ [x]
 | [], ⟨_, h, _⟩ => by cases h
 | y :: l, ⟨z, h, hb⟩ => by
  rw [List.cons_append, qi, qi]
  split
  ·rfl
  ·rename_i hn
   rcases List.mem_cons.1 h with rfl | h
   ·exact absurd hb hn
   ·rw [qi_old ⟨z, h, hb⟩]; rfl
theorem slice_two {K : List (Int × Int)} {n : Nat} (h : n = K.length) : sliceOf 0 n 2 ((twoL K).map (.int .i64)) = some (kS K) := by
 subst h
 rw [sliceOf, if_pos (by rw [List.length_map, twoL_len]; omega), elems, if_neg (by decide), List.drop_zero, chunk_two]; rfl
set_option maxHeartbeats 2000000 in
theorem k52 {K Q : List (Int × Int)} {one two : Int} (hQ : Q.length <= 100) : E.Fn Try.prog 52 [bk K Q, .int .i64 one, .int .i64 two] (if pO one two ∈ Q then [bk K Q, .bool false] else [bk K (qi (pO one two) Q), .bool (decide (Q.length + 1 <= 12))]) := by
 refine fn_of_row okf52 ?_
 have hmn : minL [one, two] = (pO one two).1 := minL_two
 have hmx : maxL [one, two] = (pO one two).2 := maxL_two
 generalize pO one two = q at *
 simp only [FRow.start, f52, c52r0, c52r1, bk, kS, SV.cells, hmn, hmx, splice, c52r2, c52r3, c52r4, go_sem, ↓reduceIte, reduceCtorEq, Nat.reduceAdd, Nat.reduceSub, Nat.reduceLeDiff]
 refine loop_rule (fun n τ => ∃ (i : Nat) (dn : Bool), n = Q.length - i /\ i <= Q.length /\ q ∉ Q.take i /\ (dn = false -> ∀ x ∈ Q.take i, ¬ bef q x) /\ (dn = true -> ∃ x ∈ Q.take i, bef q x) /\
  τ = ⟨[.any, .any, .any, .s (.ptr [.slice (K.map pr), .slice (Q.map pr)]), .any, .any, .loc 0 0, .any, .loc 1 0, .loc 2 0, .s (.bool dn), .s (.int .i64 i), .any, .any, .any, .any, .any, .any, .any, .any, .any, .any, .any, .any, .any, .any, .any, .any, .any, .any, .any, .any, .any, .any, .any, .any, .any, .any, .any, .any, .any, .any, .any, .any, .any, .any, .any, .any, .any, .any, .any, .any, .any, .any, .any, .any, .any, .any, .any, .any, .any, .any, .any, .any, .any, .any, .any, .any, .any, .any, .any, .any, .any, .any, .any, .any, .any, .any, .any, .any, .any, .any, .any, .any, .any, .any, .any], [.obj [.full [], .full []], .obj [.s (.int .i64 q.1), .s (.int .i64 q.2)], .obj [.s (.slice (K.map pr)), .sl 3 0 (i + if dn = true then 1 else 0) 2 false], .row ((twoL (if dn = true then qi q (Q.take i) else Q.take i)).map (.int .i64))]⟩) Q.length (promo_cell2 rfl rfl rfl) ?_ ?_
 ·simp only [c52l13m, go_sem, ↓reduceIte, reduceCtorEq, Nat.reduceAdd, Nat.reduceLeDiff]
  exact ⟨0, false, rfl, Nat.zero_le _, by simp, by simp, by simp, rfl⟩
 ·rintro I n τ ⟨i, dn, rfl, hi, hn, hd1, hd2, rfl⟩ hI
  simp only [c52l13, c52r5, go_sem, ↓reduceIte, Nat.reduceAdd, Nat.reduceLeDiff]
  intro _
  refine ⟨fun hlt => ?_, fun hge => ?_⟩
  ·have hlt : i < Q.length := by omega
   have hx : Q[i]? = some Q[i] := List.getElem?_eq_getElem hlt
   have hts : Q.take (i + 1) = Q.take i ++ [Q[i]] := by rw [List.take_succ, hx]; rfl
   have hmem : Q[i] ∈ Q := List.getElem_mem hlt
   have htl : (Q.take i).length = i := by rw [List.length_take]; omega
   generalize Q[i] = x at hx hts hmem
   by_cases hxq : x = q
   ·subst hxq
    simp only [c52r6, hx, pr, SV.cells, splice, c52r7, c52r8, go_sem, Nat.reduceAdd, Nat.reduceLeDiff]
    rw [if_pos hmem]
   ·have hne : ¬ (SV.agg [.int .i64 x.1, .int .i64 x.2] = SV.agg [.int .i64 q.1, .int .i64 q.2]) := fun e => by
     simp only [SV.agg.injEq, List.cons.injEq, SV.int.injEq, true_and, and_true] at e
     exact hxq (Prod.ext e.1 e.2)
    cases dn with
    | true =>
     have hb := hd2 rfl
     have hq2 := qi_old (x := x) hb
     have htl2 : (twoL (qi q (Q.take i))).length = (i + 1) * 2 := by rw [twoL_len, qi_len]; omega
     have e2 : (twoL (qi q (Q.take i))).map (SV.int .i64) ++ flatE [SV.agg [.int .i64 x.1, .int .i64 x.2]] = (twoL (qi q (Q.take (i + 1)))).map (SV.int .i64) := by rw [hts, hq2, twoL_snoc, List.map_append]; rfl
     have hn2 : q ∉ Q.take (i + 1) := by
      rw [hts, List.mem_append, List.mem_singleton]
      exact fun h => h.elim hn fun h => hxq h.symm
     simp only [c52r6, hx, pr, SV.cells, splice, c52r7, hne, c52r9, c52r11, Nat.reduceBEq, Bool.false_eq_true, go_sem, ↓reduceIte, Nat.reduceAdd, Nat.reduceLeDiff, Nat.reduceMul]
     refine ⟨by decide, by decide, rfl, one_pr, one_pr, htl2.symm, by omega, by omega, ?_⟩
     rw [e2]
     simp only [c52r12, c52l13m, go_sem, ↓reduceIte, reduceCtorEq, Nat.reduceLeDiff]
     refine ⟨inR_small (by omega) (by omega), hI (Q.length - (i + 1)) _ (by omega) ⟨i + 1, true, rfl, by omega, hn2, (by simp), fun _ => ?_, rfl⟩⟩
     obtain ⟨y, hy, hyb⟩ := hb
     exact ⟨y, by rw [hts]; simp [hy], hyb⟩
    | false =>
     have hb := hd1 rfl
     have htl2 : (twoL (Q.take i)).length = (i + 0) * 2 := by rw [twoL_len]; omega
     have htl3 : (twoL (Q.take i ++ [q])).length = (i + 0 + 1) * 2 := by rw [twoL_len, List.length_append, List.length_singleton]; omega
     have hn2 : q ∉ Q.take (i + 1) := by
      rw [hts, List.mem_append, List.mem_singleton]
      exact fun h => h.elim hn fun h => hxq h.symm
     have e2 : (twoL (Q.take i)).map (SV.int .i64) ++ flatE [SV.agg [.int .i64 q.1, .int .i64 q.2]] = (twoL (Q.take i ++ [q])).map (SV.int .i64) := by rw [twoL_snoc, List.map_append]; rfl
     simp only [c52r6, hx, pr, SV.cells, splice, c52r7, hne, c52r9, Bool.false_eq_true, go_sem, ↓reduceIte, Nat.reduceAdd, Nat.reduceLeDiff, Int.reduceLE, Int.reduceLT, Int.reduceToNat]
     refine ⟨fun h1 => ?a, fun h1 => ⟨fun h2 => ⟨fun h3 => ?b, fun h3 => ?c⟩, fun h2 => ?d⟩⟩
     case a | b =>
      have hbx : bef q x := by unfold bef; omega
      have e3 : (twoL (Q.take i ++ [q])).map (SV.int .i64) ++ flatE [SV.agg [.int .i64 x.1, .int .i64 x.2]] = (twoL (qi q (Q.take (i + 1)))).map (SV.int .i64) := by rw [hts, qi_new hb hbx, twoL_snoc (K := Q.take i ++ [q]), List.map_append]; rfl
      simp only [c52r10, splice, Nat.reduceBEq, Bool.false_eq_true, go_sem, ↓reduceIte, Nat.reduceAdd, Nat.reduceLeDiff, Nat.reduceMul]
      refine ⟨by decide, by decide, rfl, one_pr, one_pr, htl2.symm, by omega, by omega, ?_⟩
      rw [e2]
      simp only [c52r11, splice, Nat.reduceBEq, Bool.false_eq_true, go_sem, ↓reduceIte, Nat.reduceAdd, Nat.reduceLeDiff, Nat.reduceMul]
      refine ⟨by decide, by decide, rfl, one_pr, one_pr, htl3.symm, by omega, by omega, ?_⟩
      rw [e3]
      simp only [c52r12, c52l13m, go_sem, ↓reduceIte, reduceCtorEq, Nat.reduceLeDiff]
      exact ⟨inR_small (by omega) (by omega), hI (Q.length - (i + 1)) _ (by omega) ⟨i + 1, true, rfl, by omega, hn2, (by simp), fun _ => ⟨x, by rw [hts]; simp, hbx⟩, rfl⟩⟩
     case c | d =>
      have hbx : ¬ bef q x := by unfold bef; omega
      have e3 : (twoL (Q.take i)).map (SV.int .i64) ++ flatE [SV.agg [.int .i64 x.1, .int .i64 x.2]] = (twoL (Q.take (i + 1))).map (SV.int .i64) := by rw [hts, twoL_snoc, List.map_append]; rfl
      simp only [c52r11, splice, Nat.reduceBEq, Bool.false_eq_true, go_sem, ↓reduceIte, Nat.reduceAdd, Nat.reduceLeDiff, Nat.reduceMul]
      refine ⟨by decide, by decide, rfl, one_pr, one_pr, htl2.symm, by omega, by omega, ?_⟩
      rw [e3]
      simp only [c52r12, c52l13m, go_sem, ↓reduceIte, reduceCtorEq, Nat.reduceLeDiff]
      refine ⟨inR_small (by omega) (by omega), hI (Q.length - (i + 1)) _ (by omega) ⟨i + 1, false, rfl, by omega, hn2, fun _ y hy => ?_, (by simp), rfl⟩⟩
      rw [hts, List.mem_append, List.mem_singleton] at hy
      rcases hy with hy | rfl
      ·exact hb y hy
      ·exact hbx
  ·have hie : i = Q.length := by omega
   subst hie
   rw [List.take_length] at *
   rw [if_neg hn]
   cases dn with
   | true =>
    have hsl := slice_two (K := qi q Q) (n := Q.length + 1) (qi_len Q).symm
    simp only [c52r14, c52r16, splice, hsl, kS, go_sem, ↓reduceIte, reduceCtorEq, Nat.reduceAdd]
    intro _
    rw [decide_eq_decide.2 (show ((Q.length + 1 : Nat) : Int) <= 12 ↔ Q.length <= 11 by omega)]
   | false =>
    have htl : (twoL Q).length = (Q.length + 0) * 2 := by rw [twoL_len]; omega
    have e2 : (twoL Q).map (SV.int .i64) ++ flatE [SV.agg [.int .i64 q.1, .int .i64 q.2]] = (twoL (qi q Q)).map (SV.int .i64) := by rw [qi_not (hd1 rfl), twoL_snoc, List.map_append]; rfl
    have hsl := slice_two (K := qi q Q) (n := Q.length + 1) (qi_len Q).symm
    simp only [c52r14, c52r15, splice, Nat.reduceBEq, Bool.false_eq_true, go_sem, ↓reduceIte, Nat.reduceAdd, Nat.reduceLeDiff, Nat.reduceMul]
    refine ⟨by decide, by decide, rfl, one_pr, one_pr, htl.symm, by omega, by omega, ?_⟩
    rw [e2]
    simp only [c52r16, splice, hsl, kS, go_sem, reduceCtorEq, Nat.reduceAdd]
    intro _
    rw [decide_eq_decide.2 (show ((Q.length + 0 + 1 : Nat) : Int) <= 12 ↔ Q.length <= 11 by omega)]
end Go.Proofs.Ytmcjoahnlbckoaa.Sk

/- Contract of the laws' function: what a key becomes if the second one of two becomes the first one. -/
namespace Go.Proofs.Ytmcjoahnlbckoaa.Sk
open Go Go.E Go.E.Sm
set_option maxRecDepth 10000
theorem k53 {a i k : Nat} (h : a <= 100) : E.Fn Try.prog 53 [.int .i64 a, .int .i64 i, .int .i64 k] [.int .i64 (jd i k a : Nat)] := by
 refine fn_of_row okf53 ?_
 unfold jd
 by_cases h1 : a = k
 ·have e1 : (a : Int) = (k : Int) := by omega
  simp only [FRow.start, f53, c53r0, c53r1, e1, c53r2, go_sem, Nat.reduceAdd, Nat.reduceSub]
  rw [if_pos h1]
 ·have e1 : ¬ (a : Int) = (k : Int) := by omega
  rw [if_neg h1]
  by_cases h2 : k < a
  ·have e2 : (k : Int) < (a : Int) := by omega
   have e3 : ((a - 1 : Nat) : Int) = (a : Int) - 1 := by omega
   rw [if_pos h2, e3]
   simp only [FRow.start, f53, c53r0, c53r1, e1, c53r3, e2, c53r4, go_sem, Nat.reduceAdd, Nat.reduceSub]
   exact inR_small (by omega) (by omega)
  ·have e2 : ¬ (k : Int) < (a : Int) := by omega
   rw [if_neg h2]
   simp only [FRow.start, f53, c53r0, c53r1, e1, c53r3, e2, c53r5, go_sem, Nat.reduceAdd, Nat.reduceSub]
end Go.Proofs.Ytmcjoahnlbckoaa.Sk

/- What goes on behind appends, and rows of pairs. -/
namespace Go.Proofs.Ytmcjoahnlbckoaa.Sk
open Go Go.E Go.E.Sm
theorem row_two2 {K : List (Int × Int)} {n : Nat} (h : n = K.length) : rowOf 0 n 2 ((twoL K).map (.int .i64)) = some (K.map pr) := by
 subst h
 rw [rowOf, if_pos (by rw [List.length_map, twoL_len]; omega), elems, if_neg (by decide), List.drop_zero, chunk_two]
end Go.Proofs.Ytmcjoahnlbckoaa.Sk

/- Counts: with one ring more, and without clashes. -/
namespace Go.Proofs.Ytmcjoahnlbckoaa.Sk
open Go Go.E
theorem colC_le {R : Nat -> Nat -> Bool} {m n : Nat} : colC R m n <= m ^ n := pcs_le n []
end Go.Proofs.Ytmcjoahnlbckoaa.Sk

/- The code of a law in the value semantics. -/
namespace Go.Proofs.Ytmcjoahnlbckoaa.Sk
open Go Go.E
def c10r0 : List AOper := [
 oP 2 (.boxS (.t 0)),
 oP 4 (.mov bF)]
def c10r1 : List AOper := [
 oP 17 (.load 2 true (.t 2)),
 oP 18 (.call 45 [(.t 17)]),
 oP 19 (.not (.t 18))]
def c10r2 : List AOper := [
 oP 20 (.call 18 []),
 oM 4 20]
def c10r3 : List AOper := [
 oM 21 1,
 oP 22 (.conv .i64 (.t 21)),
 oP 23 (.div .rem (.t 22) (nI 8)),
 oM 5 23]
def c10r4 : List AOper := [
 oP 25 (.load 2 true (.t 2)),
 oP 26 (.call 46 [(.t 25)]),
 oM 24 26,
 oP 27 (.ext (.t 24) 0),
 oP 28 (.ext (.t 24) 1),
 oP 29 (.ext (.t 24) 2),
 oM 6 27,
 oM 7 28,
 oM 8 29]
def c10r5 : List AOper := [
 oP 31 (.load 2 true (.t 2)),
 oM 32 5,
 oP 33 (.call 50 [(.t 31), (.t 32)]),
 oM 30 33,
 oP 34 (.ext (.t 30) 0),
 oP 35 (.ext (.t 30) 1),
 oM 9 34,
 oM 10 35]
def c10r6 : List AOper := [
 oP 37 (.load 2 true (.t 2)),
 oM 38 5,
 oP 39 (.arith .add (.t 38) (nI 1)),
 oP 40 (.call 50 [(.t 37), (.t 39)]),
 oM 36 40,
 oP 41 (.ext (.t 36) 0),
 oP 42 (.ext (.t 36) 1),
 oM 11 41,
 oM 12 42]
def c10r7 : List AOper := [
 oM 43 8,
 oP 44 (.not (.t 43)),
 oM 45 44,
 oH 46 45 false 10,
 oG 47 45 false (.not (.t 46)),
 oP 48 (.pick (.t 45) bT (.t 47)),
 oM 49 48,
 oH 50 49 false 12,
 oG 51 49 false (.not (.t 50)),
 oP 52 (.pick (.t 49) bT (.t 51)),
 oM 53 52,
 oH 54 53 false 9,
 oG 55 53 false (.cmp .eql (.t 54) (nI 0)),
 oH 56 53 false 5,
 oH 57 53 false 6,
 oG 58 53 false (.cmp .lss (.t 56) (.t 57)),
 oG 59 53 false (.eql false [.bool] true (.t 55) (.t 58)),
 oP 60 (.pick (.t 53) bT (.t 59)),
 oM 61 60,
 oH 62 61 false 11,
 oH 63 61 false 9,
 oG 64 61 false (.cmp .lss (.t 62) (.t 63)),
 oP 65 (.pick (.t 61) bT (.t 64)),
 oM 66 65,
 oH 67 66 false 9,
 oG 68 66 false (.cmp .gtr (.t 67) (nI 0)),
 oH 69 66 false 68,
 oH 70 69 true 11,
 oH 71 69 true 9,
 oG 72 69 true (.cmp .eql (.t 70) (.t 71)),
 oG 73 66 false (.pick (.t 69) (.t 72) bF),
 oP 74 (.pick (.t 66) bT (.t 73))]
def c10r8 : List AOper := [
 oP 4 (.mov bF)]
def c10r9 : List AOper := [
 oP 13 (.mov bF),
 oP 14 (.mov (nI 1))]
def c10r10 : List AOper := [
 oP 15 (.mov (nI 0))]
def c10r11 : List AOper := [
 oM 75 15,
 oF 76 0 2,
 oL 77 76,
 oN 78 77,
 oP 79 (.cmp .lss (.t 75) (.t 78))]
def c10r12 : List AOper := [
 oM 82 14,
 oM 83 5,
 oP 84 (.arith .mul (.t 82) (.t 83)),
 oM 14 84]
def c10r13 : List AOper := [
 oP 16 (.mov (nI 0))]
def c10r14 : List AOper := [
 oM 85 16,
 oM 86 15,
 oP 87 (.cmp .lss (.t 85) (.t 86))]
def c10r15 : List AOper := [
 oM 90 13,
 oM 91 90,
 oG 92 91 false (.load 2 true (.t 2)),
 oH 93 91 false 16,
 oH 94 91 false 15,
 oG 95 91 false (.call 51 [(.t 92), (.t 93), (.t 94)]),
 oP 96 (.pick (.t 91) bT (.t 95)),
 oM 13 96]
def c10r16 : List AOper := [
 oM 88 16,
 oP 89 (.arith .add (.t 88) (nI 1)),
 oM 16 89]
def c10l17 : ACode := (.seq (.seq (.reg 0 c10r14) (.cond (.t 87) .skip (.exit 2))) (.seq (.block 3 (.reg 0 c10r15)) (.reg 0 c10r16)))
def c10l17m : List Bool := [fF,fF,tT,fF,fF,tT,fF,fF,fF,tT,fF,fF,fF,tT,tT,tT,tT,fF,fF,fF,fF,fF,fF,fF,fF,fF,fF,fF,fF,fF,fF,fF,fF,fF,fF,fF,fF,fF,fF,fF,fF,fF,fF,fF,fF,fF,fF,fF,fF,fF,fF,fF,fF,fF,fF,fF,fF,fF,fF,fF,fF,fF,fF,fF,fF,fF,fF,fF,fF,fF,fF,fF,fF,fF,fF,fF,fF,fF,fF,fF,fF,fF,fF,fF,fF,fF,fF,fF,fF,fF,fF,fF,fF,fF,fF,fF,fF,fF,fF,fF,fF,fF,fF,fF,fF,fF,fF,fF,fF,fF,fF]
def c10r18 : List AOper := [
 oM 80 15,
 oP 81 (.arith .add (.t 80) (nI 1)),
 oM 15 81]
def c10l19 : ACode := (.seq (.seq (.reg 0 c10r11) (.cond (.t 79) .skip (.exit 0))) (.seq (.block 1 (.seq (.reg 0 c10r12) (.seq (.reg 0 c10r13) (.block 2 (.loop c10l17m [] c10l17))))) (.reg 0 c10r18)))
def c10l19m : List Bool := [fF,fF,tT,fF,fF,tT,fF,fF,fF,tT,fF,fF,fF,tT,tT,tT,fF,fF,fF,fF,fF,fF,fF,fF,fF,fF,fF,fF,fF,fF,fF,fF,fF,fF,fF,fF,fF,fF,fF,fF,fF,fF,fF,fF,fF,fF,fF,fF,fF,fF,fF,fF,fF,fF,fF,fF,fF,fF,fF,fF,fF,fF,fF,fF,fF,fF,fF,fF,fF,fF,fF,fF,fF,fF,fF,fF,fF,fF,fF,fF,fF,fF,fF,fF,fF,fF,fF,fF,fF,fF,fF,fF,fF,fF,fF,fF,fF,fF,fF,fF,fF,fF,fF,fF,fF,fF,fF,fF,fF,fF,fF]
def c10r20 : List AOper := [
 oM 97 9,
 oM 98 14,
 oP 99 (.cmp .leq (.t 97) (.t 98)),
 oM 100 99,
 oH 101 100 true 9,
 oH 102 100 true 14,
 oG 103 100 true (.cmp .eql (.t 101) (.t 102)),
 oH 104 100 true 103,
 oH 105 104 false 13,
 oG 106 100 true (.pick (.t 104) bT (.t 105)),
 oP 107 (.pick (.t 100) (.t 106) bF),
 oM 108 107,
 oG 109 108 true (.call 18 []),
 oP 110 (.pick (.t 108) (.t 109) bF),
 oM 4 110]
def f10 : FRow := ⟨(.seq (.reg 0 c10r0) (.seq (.seq (.reg 0 c10r1) (.cond (.t 19) (.seq (.reg 0 c10r2) .ret) .skip)) (.seq (.reg 0 c10r3) (.seq (.reg 0 c10r4) (.seq (.reg 0 c10r5) (.seq (.reg 0 c10r6) (.seq (.seq (.reg 0 c10r7) (.cond (.t 74) (.seq (.reg 0 c10r8) .ret) .skip)) (.seq (.reg 0 c10r9) (.seq (.seq (.reg 0 c10r10) (.block 0 (.loop c10l19m [] c10l19))) (.seq (.reg 0 c10r20) .ret)))))))))), [.tmp 4], 111⟩
end Go.Proofs.Ytmcjoahnlbckoaa.Sk

/- RingCounted, reckoned: at every book and number of rings it answers true. -/
namespace Go.Proofs.Ytmcjoahnlbckoaa.Sk
open Go Go.E Go.E.Sm
set_option maxRecDepth 10000
theorem tmod_nat (a b : Nat) : (a : Int).tmod (b : Int) = ((a % b : Nat) : Int) := by
 rw [Int.tmod_eq_emod_of_nonneg (by omega)]; exact (Int.natCast_emod _ _).symm
end Go.Proofs.Ytmcjoahnlbckoaa.Sk
