/- The examples of the chapter hold. -/
import Derived.Test.YtmcjoahnlbckoaaJ10

set_option linter.all false

namespace Go.Proofs.Ytmcjoahnlbckoaa.Sk
open Go Go.E
def KB : List (Int × Int) := [(1, 4), (3, 6), (6, 8), (2, 3)]
def QB : List (Int × Int) := [(0, 2)]
def KC : List (Int × Int) := [(0, 0), (10, 10), (20, 20), (30, 30), (40, 40)]
def QC : List (Int × Int) := [(0, 1), (0, 4), (1, 2), (2, 3), (3, 4)]
def exB : SV := bk KB QB
def exC : SV := bk KC QC
def crcC : List (List Int) := crcs (clsh KC QC) KC.length KC.length
def circC : List Int := match crcC with | [] => [] | c :: cs => bestF shoB c cs
def ckRd (K Q : List (Int × Int)) (rings : List Int) : Int × Int :=
 if ckB K Q = 0 then (if rings.length = K.length then (if withinB 0 7 rings = true then (if ∃ p ∈ clsh K Q, rg rings p.1 = rg rings p.2 then (0, 23) else ((dn [] rings : Nat), 0)) else (0, 3)) else (0, 15)) else (0, ckB K Q)
theorem ckR_dn {K Q : List (Int × Int)} {rings : List Int} : ckR K Q rings = ckRd K Q rings := by unfold ckR ckRd; rw [cpt_dn]
theorem w0 : E.Fn Try.prog 25 [exB, .int .i64 0, .int .i64 2] [.int .i64 23] := by
 have h := k25 (K := KB) (Q := QB) (one := 0) (two := 2)
 rw [show pairE KB QB 0 2 = 23 by decide +kernel] at h
 exact h
theorem w1 : E.Fn Try.prog 25 [exB, .int .i64 2, .int .i64 3] [.int .i64 0] := by
 have h := k25 (K := KB) (Q := QB) (one := 2) (two := 3)
 rw [show pairE KB QB 2 3 = 0 by decide +kernel] at h
 exact h
theorem w2 : E.Fn Try.prog 25 [exB, .int .i64 1, .int .i64 1] [.int .i64 2] := by
 have h := k25 (K := KB) (Q := QB) (one := 1) (two := 1)
 rw [show pairE KB QB 1 1 = 2 by decide +kernel] at h
 exact h
theorem w3 : E.Fn Try.prog 25 [exB, .int .i64 1, .int .i64 2] [.int .i64 23] := by
 have h := k25 (K := KB) (Q := QB) (one := 1) (two := 2)
 rw [show pairE KB QB 1 2 = 23 by decide +kernel] at h
 exact h
theorem w4 : E.Fn Try.prog 19 [exB, .slice [.int .i64 5, .int .i64 1, .int .i64 0, .int .i64 0]] [.int .i64 3, .int .i64 0] := by
 have h := k19 (K := KB) (Q := QB) (rings := [5, 1, 0, 0])
 rw [ckR_dn, show ckRd KB QB [5, 1, 0, 0] = (3, 0) by decide +kernel] at h
 exact h
theorem w5 : E.Fn Try.prog 19 [exB, .slice [.int .i64 0, .int .i64 1, .int .i64 1, .int .i64 2]] [.int .i64 0, .int .i64 23] := by
 have h := k19 (K := KB) (Q := QB) (rings := [0, 1, 1, 2])
 rw [ckR_dn, show ckRd KB QB [0, 1, 1, 2] = (0, 23) by decide +kernel] at h
 exact h
theorem w10 : E.Fn Try.prog 27 [exC] [.int .i64 3, .int .i64 0] := by
 have h := k27 (K := KC) (Q := QC)
 rw [show fewR KC QC = (3, 0) by decide +kernel] at h
 exact h
theorem w11 : E.Fn Try.prog 29 [exB] [.slice [.int .i64 0, .int .i64 1, .int .i64 2, .int .i64 2], .int .i64 0] := by
 have h := k29 (K := KB) (Q := QB)
 unfold rngR at h
 rw [if_pos (by decide +kernel), show rngs (clsh KB QB) KB.length = [0, 1, 2, 2] by decide +kernel] at h
 exact h
theorem w12 : E.Fn Try.prog 29 [exC] [.slice [.int .i64 0, .int .i64 1, .int .i64 0, .int .i64 1, .int .i64 2], .int .i64 0] := by
 have h := k29 (K := KC) (Q := QC)
 unfold rngR at h
 rw [if_pos (by decide +kernel), show rngs (clsh KC QC) KC.length = [0, 1, 0, 1, 2] by decide +kernel] at h
 exact h
theorem w13 : E.Fn Try.prog 31 [exB, .int .i64 4] [.int .i64 48, .int .i64 0] := by
 have h := k31 (K := KB) (Q := QB) (m := 4)
 rw [show couR KB QB 4 = (48, 0) by decide +kernel] at h
 exact h
theorem w14 : E.Fn Try.prog 31 [exC, .int .i64 3] [.int .i64 30, .int .i64 0] := by
 have h := k31 (K := KC) (Q := QC) (m := 3)
 rw [show couR KC QC 3 = (30, 0) by decide +kernel] at h
 exact h
theorem w15 : E.Fn Try.prog 31 [exC, .int .i64 9] [.int .i64 0, .int .i64 2] := by
 have h := k31 (K := KC) (Q := QC) (m := 9)
 rw [show couR KC QC 9 = (0, 2) by decide +kernel] at h
 exact h
theorem w19 : E.Fn Try.prog 34 [exB] [.slice [.int .i64 0, .int .i64 1, .int .i64 2], .int .i64 0] := by
 have h := k34 (K := KB) (Q := QB)
 unfold grpR at h
 rw [if_pos (by decide +kernel), show gst (clsh KB QB) KB.length (KB.length + 1) [] 0 = [0, 1, 2] by decide +kernel] at h
 exact h
theorem w21 : E.Fn Try.prog 38 [exB, .slice [.int .i64 2, .int .i64 3]] [.int .i64 14] := by
 have h := k38 (K := KB) (Q := QB) (keys := [2, 3])
 rw [show ckG KB QB [2, 3] = 14 by decide +kernel] at h
 exact h
theorem w22 : E.Fn Try.prog 38 [exB, .slice []] [.int .i64 3] := by
 have h := k38 (K := KB) (Q := QB) (keys := [])
 rw [show ckG KB QB [] = 3 by decide +kernel] at h
 exact h
theorem w24 : E.Fn Try.prog 40 [exC, .slice [.int .i64 0, .int .i64 1, .int .i64 2]] [.int .i64 14] := by
 have h := k40 (K := KC) (Q := QC) (keys := [0, 1, 2]) (by decide)
 rw [show ckC KC QC [0, 1, 2] = 14 by decide +kernel] at h
 exact h
theorem w25 : E.Fn Try.prog 40 [exC, .slice [.int .i64 0, .int .i64 1]] [.int .i64 16] := by
 have h := k40 (K := KC) (Q := QC) (keys := [0, 1]) (by decide)
 rw [show ckC KC QC [0, 1] = 16 by decide +kernel] at h
 exact h
theorem w28 : E.Fn Try.prog 36 [exC] [ints circC, .int .i64 0] := by
 have h := k36 (K := KC) (Q := QC)
 unfold cirR at h
 rw [if_pos (by decide +kernel), show crcs (clsh KC QC) KC.length KC.length = crcC by decide +kernel] at h
 exact h
theorem w29 : E.Fn Try.prog 41 [exC, ints circC] [.int .i64 0] := by
 have h := k41 (K := KC) (Q := QC) (keys := circC)
 rw [show ckC KC QC circC = 0 by decide +kernel] at h
 exact h
theorem w30 : E.Fn Try.prog 21 [exB] [.int .i64 3, .int .i64 3, .int .i64 0] := by
 have h := k21 (K := KB) (Q := QB)
 unfold dayR at h
 rw [if_pos (by decide +kernel), show (dayK KB).1 = 3 by decide +kernel, show outC KB 3 = 3 by decide +kernel] at h
 exact h
theorem w32 : E.Fn Try.prog 43 [exB, .int .i64 2, .int .i64 3] [.int .i64 2, .int .i64 0] := by
 have h := k43 (K := KB) (Q := QB) (one := 2) (two := 3)
 rw [show kndR KB QB 2 3 = (2, 0) by decide +kernel] at h
 exact h
theorem w33 : E.Fn Try.prog 43 [exC, .int .i64 0, .int .i64 2] [.int .i64 1, .int .i64 0] := by
 have h := k43 (K := KC) (Q := QC) (one := 0) (two := 2)
 rw [show kndR KC QC 0 2 = (1, 0) by decide +kernel] at h
 exact h
end Go.Proofs.Ytmcjoahnlbckoaa.Sk

/- The examples of the chapter: books, and that all hold. -/
namespace Go.Proofs.Ytmcjoahnlbckoaa.Sk
open Go Go.E Go.E.Sm
set_option maxRecDepth 10000
theorem k56 {l : List Int} : E.Fn Try.prog 56 [ints l] [ints l] := by
 refine fn_of_row okf56 ?_
 simp only [FRow.start, f56, c56r0, c56r1, ints, go_sem, Nat.reduceSub]
def twoL (K : List (Int × Int)) : List Int := K.flatMap fun p => [p.1, p.2]
theorem twoL_len {K : List (Int × Int)} : (twoL K).length = 2 * K.length := by
 induction K with
 | nil => rfl
 | cons p K ih => simp only [twoL, List.flatMap_cons, List.length_append, List.length_cons, List.length_nil] at *; omega
theorem twoL_get {K : List (Int × Int)} : ∀ {i : Nat} {p : Int × Int}, K[i]? = some p -> (twoL K)[2 * i]? = some p.1 /\ (twoL K)[2 * i + 1]? = some p.2 := by
 induction K with
 | nil => intro i p h; cases h
 | cons q K ih =>
  intro i p h
  cases i with
  | zero => simp only [List.getElem?_cons_zero, Option.some.injEq] at h; subst h; exact ⟨rfl, rfl⟩
  | succ i =>
   have := ih (i := i) (by simpa using h)
   simp only [twoL, List.flatMap_cons] at this ⊢
   rw [show 2 * (i + 1) = (2 * i) + 2 by omega, show 2 * i + 2 + 1 = (2 * i + 1) + 2 by omega]
   simpa using this
theorem twoL_snoc {K : List (Int × Int)} {p : Int × Int} : twoL (K ++ [p]) = twoL K ++ [p.1, p.2] := by
 unfold twoL; rw [List.flatMap_append]; rfl
theorem chunk_two : ∀ (K : List (Int × Int)), chunk 2 K.length ((twoL K).map (SV.int .i64)) = K.map pr
 | [] => rfl
 | p :: K => by
  have := chunk_two K
  simp only [twoL, List.flatMap_cons, List.map_append, List.length_cons, List.map_cons, List.map_nil] at this ⊢
  rw [chunk]
  simp only [List.cons_append, List.nil_append, List.take_succ_cons, List.take_zero, List.drop_succ_cons, List.drop_zero]
  rw [this]; rfl
theorem promo_cell2 {σ : AState} {b d o off sz : Nat} {cs : List LV} (h : fget σ.fr d = .loc b o) (hB : σ.hp[b]? = some (.obj cs)) (hc : cs[o + off]? = some (.full [])) :
  promote [(d, some off, sz)] σ = { fr := σ.fr, hp := σ.hp.set b (.obj (cs.set (o + off) (.sl σ.hp.length 0 0 (sz + 1) false))) ++ [.row []] } := by
 simp only [promote, promote1, h, hB, hc]
theorem one_pr {p : Int × Int} : ∀ e ∈ [SV.agg [.int .i64 p.1, .int .i64 p.2]], e.cells.length = 2 := by
 intro e he
 rw [List.mem_singleton] at he
 subst he; rfl
theorem k87 {K : List (Int × Int)} (hk : K.length <= 100) : E.Fn Try.prog 87 [ints (twoL K)] [bk K []] := by
 refine fn_of_row okf87 ?_
 have hl := twoL_len (K := K)
 simp only [FRow.start, f87, c87r0, c87r1, c87r2, ints, go_sem, Nat.reduceAdd, Nat.reduceSub]
 refine loop_rule (fun n τ => ∃ i : Nat, n = K.length - i /\ i <= K.length /\
  τ = ⟨[.s (ints (twoL K)), .any, .loc 0 0, .loc 1 0, .s (.int .i64 ((2 * i : Nat) : Int)), .any, .any, .any, .any, .any, .any, .any, .any, .any, .any, .any, .any, .any, .any, .any, .any, .any, .any, .any, .any, .any, .any, .any], [.obj [.full [], .full []], .obj [.sl 2 0 i 2 false, .full []], .row ((twoL (K.take i)).map (.int .i64))]⟩) K.length (promo_cell2 rfl rfl rfl) ?_ ?_
 ·simp only [c87l6m, go_sem, ↓reduceIte, reduceCtorEq, Nat.reduceAdd, Nat.reduceLeDiff]
  exact ⟨0, rfl, Nat.zero_le _, rfl⟩
 ·rintro I n τ ⟨i, rfl, hi, rfl⟩ hI
  have hin : inR .i64 (((2 * i : Nat) : Int) + 1) := inR_small (by omega) (by omega)
  have e1 : ((2 * i : Nat) : Int) + 1 = ((2 * i + 1 : Nat) : Int) := rfl
  simp only [c87l6, c87r3, ints, go_sem, ↓reduceIte, Nat.reduceAdd]
  refine ⟨hin, fun _ => ?_⟩
  refine ⟨fun hlt => ?_, fun hge => ?_⟩
  ·have hlt : i < K.length := by omega
   have hx : K[i]? = some K[i] := List.getElem?_eq_getElem hlt
   obtain ⟨h1, h2⟩ := twoL_get hx
   have hts : twoL (K.take (i + 1)) = twoL (K.take i) ++ [K[i].1, K[i].2] := by rw [List.take_succ, hx]; exact twoL_snoc
   have htl : (twoL (K.take i)).length = i * 2 := by rw [twoL_len, List.length_take]; omega
   generalize K[i] = p at hx h1 h2 hts
   simp only [c87r4, h1, h2, e1, splice, SV.cells, Nat.reduceBEq, Bool.false_eq_true, go_sem, ↓reduceIte, Nat.reduceAdd, Nat.reduceLeDiff, Nat.reduceMul]
   refine ⟨hin, by decide, by decide, rfl, one_pr, one_pr, htl.symm, by omega, by omega, ?_⟩
   simp only [c87r5, c87l6m, go_sem, ↓reduceIte, reduceCtorEq, Nat.reduceLeDiff]
   have e2 : (twoL (K.take i)).map (SV.int .i64) ++ flatE [SV.agg [.int .i64 p.1, .int .i64 p.2]] = (twoL (K.take (i + 1))).map (SV.int .i64) := by rw [hts, List.map_append]; rfl
   rw [e2]
   exact ⟨inR_small (by omega) (by omega), hI (K.length - (i + 1)) _ (by omega) ⟨i + 1, rfl, by omega, rfl⟩⟩
  ·have hie : i = K.length := by omega
   subst hie
   rw [List.take_length]
   have hro : rowOf 0 K.length 2 ((twoL K).map (SV.int .i64)) = some (K.map pr) := by
    rw [rowOf, if_pos (by rw [List.length_map, hl]; omega), elems, if_neg (by decide), List.drop_zero, chunk_two]
   have hso : sliceOf 0 K.length 2 ((twoL K).map (SV.int .i64)) = some (kS K) := by
    rw [sliceOf, if_pos (by rw [List.length_map, hl]; omega), elems, if_neg (by decide), List.drop_zero, chunk_two]; rfl
   simp only [c87r7, splice, hso, bk, kS, go_sem, Nat.reduceAdd]
theorem k54 : E.Fn Try.prog 54 [] [exB] := by
 refine fn_of_row okf54 ?_
 simp only [FRow.start, f54, c54r0, c54r1, go_sem, Nat.reduceSub]
 refine ⟨by decide, by decide, rfl, ints_one (xs := [1, 4, 3, 6, 6, 8, 2, 3]), ?_⟩
 refine callK_of rfl (k87 (K := KB) (by decide)) (.inr rfl) ?_
 simp only [bk, kS, SV.cells, splice, c54r2, go_sem, ↓reduceIte, Nat.reduceAdd, Nat.reduceLeDiff, Nat.reduceMul]
 refine ⟨by decide, by decide, rfl, by intro e he; rw [List.mem_singleton] at he; subst he; rfl, ?_⟩
 simp only [c54r3, splice, go_sem, Nat.reduceAdd]
 rfl
theorem k55 : E.Fn Try.prog 55 [] [exC] := by
 refine fn_of_row okf55 ?_
 simp only [FRow.start, f55, c55r0, c55r1, go_sem, Nat.reduceSub]
 refine ⟨by decide, by decide, rfl, ints_one (xs := [0, 0, 10, 10, 20, 20, 30, 30, 40, 40]), ?_⟩
 refine callK_of rfl (k87 (K := KC) (by decide)) (.inr rfl) ?_
 simp only [bk, kS, SV.cells, splice, c55r2, go_sem, ↓reduceIte, Nat.reduceAdd, Nat.reduceLeDiff, Nat.reduceMul]
 refine ⟨by decide, by decide, rfl, by intro e he; simp only [List.mem_cons, List.not_mem_nil, or_false] at he; rcases he with rfl | rfl | rfl | rfl | rfl <;> rfl, ?_⟩
 simp only [c55r3, splice, go_sem, Nat.reduceAdd]
 rfl
theorem same33 {l : List Int} : E.Fn Try.prog 33 [ints l, ints l] [.bool true] := by
 have h := k33 (xs := l) (ys := l)
 rw [decide_eq_true rfl] at h
 exact h
set_option maxHeartbeats 4000000 in
theorem works_ok : E.Fn Try.prog 18 [] [.bool true] := by
 refine fn_of_row okf18 ?_
 have hcl : circC.length = 5 := by decide +kernel
 have hcs : ((circC.length : Nat) : Int) = 5 := by rw [hcl]; rfl
 simp only [FRow.start, f18, c18r0, c18r1, go_sem, Nat.reduceSub]
 refine callK_of rfl k54 (.inr rfl) ?_
 simp only [go_sem]
 refine callK_of rfl k55 (.inr rfl) ?_
 simp only [exB, exC, bk, SV.cells, splice, go_sem, Nat.reduceAdd]
 simp only [c18r2, go_sem, Nat.reduceAdd]
 refine callK_of rfl w0 (.inl rfl) ?_
 simp only [go_sem, Nat.reduceAdd]
 refine callK_of rfl w1 (.inl rfl) ?_
 simp only [go_sem, Nat.reduceAdd]
 refine callK_of rfl w2 (.inl rfl) ?_
 simp only [c18r3, go_sem, Nat.reduceAdd]
 refine ⟨by decide, by decide, rfl, ints_one (xs := [5, 1, 0, 0]), ?_⟩
 refine callK_of rfl (k56 (l := [5, 1, 0, 0])) (.inr rfl) ?_
 simp only [go_sem]
 refine callK_of rfl w4 (.inl rfl) ?_
 simp only [c18r4, go_sem, Nat.reduceAdd]
 refine ⟨by decide, by decide, rfl, ints_one (xs := [0, 1, 1, 2]), ?_⟩
 refine callK_of rfl (k56 (l := [0, 1, 1, 2])) (.inr rfl) ?_
 simp only [go_sem]
 refine callK_of rfl w5 (.inl rfl) ?_
 simp only [c18r5, go_sem, Nat.reduceAdd]
 refine callK_of rfl w10 (.inl rfl) ?_
 simp only [c18r6, go_sem, Nat.reduceAdd]
 refine callK_of rfl w11 (.inr rfl) ?_
 simp only [c18r7, go_sem, Nat.reduceAdd]
 refine callK_of rfl w12 (.inr rfl) ?_
 simp only [c18r8, go_sem, Nat.reduceAdd]
 refine callK_of rfl w13 (.inl rfl) ?_
 simp only [c18r9, go_sem, Nat.reduceAdd]
 refine callK_of rfl w14 (.inl rfl) ?_
 simp only [c18r10, go_sem, Nat.reduceAdd]
 refine callK_of rfl w15 (.inl rfl) ?_
 simp only [c18r11, go_sem, Nat.reduceAdd]
 refine callK_of rfl w19 (.inr rfl) ?_
 simp only [c18r12, go_sem, Nat.reduceAdd]
 refine ⟨by decide, by decide, rfl, ints_one (xs := [2, 3]), ?_⟩
 refine callK_of rfl (k56 (l := [2, 3])) (.inr rfl) ?_
 simp only [go_sem]
 refine callK_of rfl w21 (.inl rfl) ?_
 simp only [go_sem, Nat.reduceAdd]
 refine callK_of rfl w22 (.inl rfl) ?_
 simp only [c18r13, go_sem, Nat.reduceAdd]
 refine ⟨by decide, by decide, rfl, ints_one (xs := [0, 1, 2]), ?_⟩
 refine callK_of rfl (k56 (l := [0, 1, 2])) (.inr rfl) ?_
 simp only [go_sem]
 refine callK_of rfl w24 (.inl rfl) ?_
 simp only [go_sem, Nat.reduceAdd]
 refine ⟨by decide, by decide, rfl, ints_one (xs := [0, 1]), ?_⟩
 refine callK_of rfl (k56 (l := [0, 1])) (.inr rfl) ?_
 simp only [go_sem]
 refine callK_of rfl w25 (.inl rfl) ?_
 simp only [c18r14, go_sem, Nat.reduceAdd]
 refine callK_of rfl w28 (.inr rfl) ?_
 simp only [c18r15, go_sem, Nat.reduceAdd]
 refine callK_of rfl w30 (.inl rfl) ?_
 simp only [c18r16, go_sem, Nat.reduceAdd]
 refine callK_of rfl w32 (.inl rfl) ?_
 simp only [c18r17, go_sem, Nat.reduceAdd]
 refine callK_of rfl w33 (.inl rfl) ?_
 simp only [c18r18, go_sem, Nat.reduceAdd]
 simp only [c18r20, go_sem]
 refine ⟨by decide, by decide, rfl, ints_one (xs := [0, 1, 2, 2]), ?_⟩
 refine callK_of rfl (k56 (l := [0, 1, 2, 2])) (.inr rfl) ?_
 simp only [go_sem]
 refine callK_of rfl (same33 (l := [0, 1, 2, 2])) (.inl rfl) ?_
 simp only [go_sem]
 refine ⟨by decide, by decide, rfl, ints_one (xs := [0, 1, 0, 1, 2]), ?_⟩
 refine callK_of rfl (k56 (l := [0, 1, 0, 1, 2])) (.inr rfl) ?_
 simp only [go_sem]
 refine callK_of rfl (same33 (l := [0, 1, 0, 1, 2])) (.inl rfl) ?_
 simp only [go_sem]
 refine ⟨by decide, by decide, rfl, ints_one (xs := [0, 1, 2]), ?_⟩
 refine callK_of rfl (k56 (l := [0, 1, 2])) (.inr rfl) ?_
 simp only [go_sem]
 refine callK_of rfl (same33 (l := [0, 1, 2])) (.inl rfl) ?_
 simp only [ints, hcs, go_sem, Nat.reduceAdd]
 refine callK_of rfl w29 (.inl rfl) ?_
 simp only [go_sem]
end Go.Proofs.Ytmcjoahnlbckoaa.Sk

/- A call of the examples of the chapter answers true. -/
namespace Go.Proofs.Ytmcjoahnlbckoaa.Sk
open Go Go.E Go.E.Sm
set_option maxRecDepth 10000
theorem wk {H : List ABlock} {k : AK} (hk : k (LV.ofResults [.bool true]) H none True) : callK Try.prog H 18 [] k := callK_of rfl works_ok (.inl rfl) hk
theorem k45 {K Q : List (Int × Int)} : E.Fn Try.prog 45 [bk K Q] [.bool (!greatB K Q && decide (ckB K Q = 0))] := by
 refine fn_of_row okf45 ?_
 simp only [FRow.start, f45, c45r0, c45r1, bk, SV.cells, go_sem, Nat.reduceAdd, Nat.reduceSub]
 refine callK_of (by simp only [bk, go_sem]) (k17 (K := K) (Q := Q)) (.inl rfl) ?_
 cases hg : greatB K Q with
 | true => simp only [go_sem]; rfl
 | false =>
  simp only [go_sem, Nat.reduceAdd]
  refine callK_of (by simp only [bk, go_sem]) (k24 (K := K) (Q := Q)) (.inl rfl) ?_
  simp only [go_sem]
  rfl
end Go.Proofs.Ytmcjoahnlbckoaa.Sk

/- Contracts of the laws' functions: the fewest rings with such ones, counts, rings by numbers. -/
namespace Go.Proofs.Ytmcjoahnlbckoaa.Sk
open Go Go.E Go.E.Sm
set_option maxRecDepth 10000
theorem rngs_pcs {cl : List (Int × Int)} {n : Nat} (h : 1 <= n) : ∃ g, rngs cl n = toI g /\ g ∈ pcs (rel0 cl) (fw cl n) n [] /\ rgP g (fw cl n) := by
 have h1 := bst_head (cl := cl) (n := n)
 rw [<- rngs_eq h] at h1
 obtain ⟨h2, h3⟩ := bst_dn h1
 obtain ⟨g', e, h4, hr⟩ := hgF_rg n 0 [] rgP_nil _ (by simpa [toI] using h2)
 rw [h4, rgP_dn hr] at h3
 subst h3
 refine ⟨g', h4, ?_, hr⟩
 rw [bst_M, h4, List.mem_map] at h1
 obtain ⟨g2, h5, h6⟩ := h1
 rw [<- toI_inj h6]
 have hsub : ∀ (f d : Nat) (h : List Nat), rgP h d -> d <= fw cl n -> ∀ g ∈ hgM (rel0 cl) (fw cl n) f d h, g ∈ pcs (rel0 cl) (fw cl n) f h := by
  intro f
  induction f with
  | zero => intro d h _ _ g hg; exact hg
  | succ f ih =>
   intro d h hr hd g hg
   rw [hgM, List.mem_append, List.mem_flatMap] at hg
   rw [pcs, List.mem_flatMap]
   rcases hg with ⟨r, h1, h2⟩ | hg
   ·have h1 := List.mem_range.1 h1
    split at h2
    ·rename_i hok
     exact ⟨r, List.mem_range.2 (by omega), by rw [if_pos hok]; exact ih d _ (rgP_old hr h1) hd g h2⟩
    ·cases h2
   ·split at hg
    ·exact ⟨d, List.mem_range.2 (by omega), by rw [if_pos (okN_fresh hr.1 (Nat.le_refl _))]; exact ih (d + 1) _ (rgP_new hr) (by omega) g hg⟩
    ·cases hg
 exact hsub n 0 [] rgP_nil (Nat.zero_le _) g2 h5
theorem ckR_good {K Q : List (Int × Int)} (h : ckB K Q = 0) {rings : List Int} (hl : rings.length = K.length) (hw : ∀ x ∈ rings, 0 <= x /\ x <= 7) (hp : ∀ i k : Nat, i < k -> k < K.length -> pO (i : Int) (k : Int) ∈ clsh K Q -> rings.getD i 0 ≠ rings.getD k 0) : ckR K Q rings = (((dn [] rings : Nat) : Int), 0) := by
 unfold ckR
 rw [if_pos h, if_pos hl, if_pos (within_of hw), if_neg, cpt_dn]
 rw [bad_iff h]
 rintro ⟨i, k, h1, h2, h3, h4⟩
 exact hp k i h2 h1 h4 h3
theorem ckR_rngs {K Q : List (Int × Int)} (h : ckB K Q = 0) : ckR K Q (rngs (clsh K Q) K.length) = (((fw (clsh K Q) K.length : Nat) : Int), 0) := by
 obtain ⟨hk1, hk8, _⟩ := ckB_zero h
 obtain ⟨g, h1, h2, h3⟩ := rngs_pcs (cl := clsh K Q) hk1
 have h4 := fw_le (cl := clsh K Q) (n := K.length)
 obtain ⟨h5, h6⟩ := mem_col.1 h2
 rw [h1, ckR_good h (by rw [toI_len]; exact h5) (fun x hx => by
  obtain ⟨y, hy, rfl⟩ := List.mem_map.1 hx
  have := h3.1 y hy
  omega) (fun i k hik hk hc e => by
  rw [toI_getD, toI_getD] at e
  exact (h6 k hk).2 i hik (by simpa [rel0] using hc) (by omega)), rgP_dn h3]
theorem k46 {K Q : List (Int × Int)} (h0 : ckB K Q = 0) : E.Fn Try.prog 46 [bk K Q] [.int .i64 (fw (clsh K Q) K.length : Nat), ints (rngs (clsh K Q) K.length), .bool true] := by
 refine fn_of_row okf46 ?_
 obtain ⟨hk1, hk8, _⟩ := ckB_zero h0
 have h27 := k27 (K := K) (Q := Q)
 have h29 := k29 (K := K) (Q := Q)
 have h19 := k19 (K := K) (Q := Q) (rings := rngs (clsh K Q) K.length)
 have h20 := k20 (K := K) (Q := Q) (rings := rngs (clsh K Q) K.length)
 unfold fewR at h27
 unfold rngR at h29
 rw [if_pos h0, fewN_eq hk1] at h27
 rw [if_pos h0] at h29
 rw [ckR_rngs h0] at h19 h20
 have hp := fw_pos (cl := clsh K Q) hk1
 have hle := fw_le (cl := clsh K Q) (n := K.length)
 generalize rngs (clsh K Q) K.length = l at *
 generalize fw (clsh K Q) K.length = w at *
 have hw1 : (1 : Int) <= (w : Int) := by omega
 have hw2 : (w : Int) <= (K.length : Int) := by omega
 simp only [FRow.start, f46, c46r0, c46r1, bk, SV.cells, go_sem, Nat.reduceAdd, Nat.reduceSub]
 refine callK_of (by simp only [bk, go_sem]) h27 (.inl rfl) ?_
 simp only [c46r2, go_sem, Nat.reduceAdd]
 refine callK_of (by simp only [bk, go_sem]) h29 (.inr (by simp only [bk, go_sem])) ?_
 simp only [c46r3, c46r5, go_sem, Nat.reduceAdd]
 refine callK_of (by simp only [bk, go_sem]) h19 (.inl rfl) ?_
 simp only [c46r6, go_sem, Nat.reduceAdd]
 refine callK_of (by simp only [bk, go_sem]) h20 (.inl rfl) ?_
 simp only [c46r7, hw1, hw2, kS, go_sem, Nat.reduceAdd, Nat.reduceLeDiff]
 try (intro _)
 try simp only [hw1, hw2, go_sem, ↓reduceIte, reduceCtorEq, Nat.reduceAdd, Nat.reduceSub, Nat.reduceLT, Nat.reduceLeDiff, Int.reduceLE, Int.reduceLT, Int.reduceToNat, Nat.reduceMul, Int.reduceNeg]
 done
end Go.Proofs.Ytmcjoahnlbckoaa.Sk

/- Contract of the law's own function: the numbers of a book's keys. -/
namespace Go.Proofs.Ytmcjoahnlbckoaa.Sk
open Go Go.E Go.E.Sm
set_option maxRecDepth 10000
def hungN (l : List Int) (i : Nat) : Int := if 0 < l.length then (l.getD (i % l.length) 0).tmod 8 else ((i : Int)).tmod 8
def hungL (l : List Int) : Nat -> List Int
 | 0 => []
 | n + 1 => hungL l n ++ [hungN l n]
theorem hungL_len {l : List Int} : ∀ {n : Nat}, (hungL l n).length = n
 | 0 => rfl
 | n + 1 => by rw [hungL, List.length_append, hungL_len]; rfl
theorem hungL_mem {l : List Int} (hl : ∀ x ∈ l, 0 <= x) : ∀ {n : Nat}, ∀ x ∈ hungL l n, 0 <= x /\ x <= 7
 | 0, x, h => by simp [hungL] at h
 | n + 1, x, h => by
  rw [hungL, List.mem_append, List.mem_singleton] at h
  rcases h with h | rfl
  ·exact hungL_mem hl x h
  ·have hx : ∀ y : Int, 0 <= y -> 0 <= y.tmod 8 /\ y.tmod 8 <= 7 := fun y hy => by
    rw [Int.tmod_eq_emod_of_nonneg hy]; omega
   unfold hungN
   split
   ·rename_i h0
    apply hx
    have h1 := Nat.mod_lt n h0
    rw [List.getD_eq_getElem?_getD, List.getElem?_eq_getElem h1]
    exact hl _ (List.getElem_mem h1)
   ·exact hx _ (by omega)
theorem k48 {l : List Int} {n : Nat} (hn : n <= 8) (hl : ∀ x ∈ l, 0 <= x /\ x < 256) : E.Fn Try.prog 48 [.int .i64 n, .slice (l.map (.int .u8))] [ints (hungL l n)] := by
 refine fn_of_row okf48 ?_
 simp only [FRow.start, f48, c48r0, c48r1, c48r2, go_sem, Nat.reduceAdd, Nat.reduceSub]
 refine loop_rule (fun k τ => ∃ i : Nat, k = n - i /\ i <= n /\
  τ = ⟨[.s (.int .i64 n), .s (.slice (l.map (.int .u8))), .any, .any, .any, .sl 0 0 (hungL l i).length 1 false, .s (.int .i64 i), .any, .any, .any, .any, .any, .any, .any, .any, .any, .any, .any, .any, .any, .any, .any, .any, .any, .any, .any, .any, .any, .any, .any, .any, .any], [.row ((hungL l i).map (.int .i64))]⟩) n (promo_one rfl) ?_ ?_
 ·simp only [c48l9m, go_sem, ↓reduceIte, reduceCtorEq, Nat.reduceLeDiff]
  exact ⟨0, rfl, Nat.zero_le _, rfl⟩
 ·rintro I k τ ⟨i, rfl, hi, rfl⟩ hI
  have hos : hungL l (i + 1) = hungL l i ++ [hungN l i] := rfl
  have hol := hungL_len (l := l) (n := i)
  generalize hO : hungL l i = O at *
  simp only [c48l9, c48r3, go_sem, ↓reduceIte]
  refine ⟨fun hlt => ?_, fun hge => ?_⟩
  ·have hin : inR .i64 ((i : Int) + 1) := inR_small (by omega) (by omega)
   have fin : ∀ y, hungL l (i + 1) = y -> I ⟨[.s (.int .i64 n), .s (.slice (l.map (.int .u8))), .any, .any, .any, .sl 0 0 y.length 1 false, .s (.int .i64 (i + 1)), .any, .any, .any, .any, .any, .any, .any, .any, .any, .any, .any, .any, .any, .any, .any, .any, .any, .any, .any, .any, .any, .any, .any, .any, .any], [.row (y.map (.int .i64))]⟩ := fun y hy => by
    subst hy
    exact hI (n - (i + 1)) _ (by omega) ⟨i + 1, rfl, by omega, rfl⟩
   simp only [c48r4, c48r5, go_sem]
   have tail : ∀ v : Int, hungN l i = v -> hungL l (i + 1) = O ++ [v] := fun v hv => by rw [hos, hv]
   refine ⟨by decide, fun hlen => ⟨fun h => ?_, fun h => ?_⟩⟩
   ·have h' : 0 < l.length := by omega
    have hm := Nat.mod_lt i h'
    have em : (i : Int).tmod l.length = ((i % l.length : Nat) : Int) := by
     rw [Int.tmod_eq_emod_of_nonneg (by omega)]; exact (Int.natCast_emod _ _).symm
    have hx : l[i % l.length]? = some (l.getD (i % l.length) 0) := by rw [List.getD_eq_getElem?_getD, List.getElem?_eq_getElem hm]; rfl
    have hb := hl (l.getD (i % l.length) 0) (by rw [List.getD_eq_getElem?_getD, List.getElem?_eq_getElem hm]; exact List.getElem_mem hm)
    have hv : hungN l i = (l.getD (i % l.length) 0).tmod 8 := by unfold hungN; rw [if_pos h']
    generalize l.getD (i % l.length) 0 = x at hx hb hv
    have hw : IntKind.wrap .i64 x = x := inR_small (by omega) (by omega)
    simp only [c48r6, em, hx, c48r7, go_sem, Nat.reduceAdd]
    refine ⟨by omega, inR_small (by omega) (by omega), by decide, fun _ => ⟨by decide, by decide, rfl, one_int, one_int, by omega, by omega, ?_⟩⟩
    have := fin _ (tail _ hv)
    simp only [c48r8, c48l9m, go_sem, ↓reduceIte, reduceCtorEq, Nat.reduceLeDiff]
    refine ⟨hin, ?_⟩
    simp only [List.map_append, List.length_append, List.map_cons, List.map_nil, List.length_cons, List.length_nil] at this
    exact this
   ·have h' : ¬ 0 < l.length := by omega
    have hv : hungN l i = (i : Int).tmod 8 := by unfold hungN; rw [if_neg h']
    simp only [c48r7, go_sem, Nat.reduceAdd]
    refine ⟨by decide, by decide, rfl, one_int, one_int, by omega, by omega, ?_⟩
    have := fin _ (tail _ hv)
    simp only [c48r8, c48l9m, go_sem, ↓reduceIte, reduceCtorEq, Nat.reduceLeDiff]
    refine ⟨hin, ?_⟩
    simp only [List.map_append, List.length_append, List.map_cons, List.map_nil, List.length_cons, List.length_nil] at this
    exact this
  ·have hie : i = n := by omega
   subst hie
   simp only [c48r10, go_sem]
   refine exO_of (slice_all rfl) ?_
   rw [hO]
end Go.Proofs.Ytmcjoahnlbckoaa.Sk

/- Rings that are right are at least as many as the fewest, as a group's keys, and three if there is a circle. -/
namespace Go.Proofs.Ytmcjoahnlbckoaa.Sk
open Go Go.E
theorem getD_mem {l : List Int} {i : Nat} (h : i < l.length) : l.getD i 0 ∈ l := by
 rw [List.getD_eq_getElem?_getD, List.getElem?_eq_getElem h]; exact List.getElem_mem h
theorem fw_le_dn {cl : List (Int × Int)} {n : Nat} {rings : List Int} (hl : rings.length = n) (hp : ∀ i k : Nat, i < k -> k < n -> pO (i : Int) (k : Int) ∈ cl -> rings.getD i 0 ≠ rings.getD k 0) : fw cl n <= dn [] rings := by
 rw [<- pcs_some]
 intro e
 have h1 := List.head?_eq_none_iff.1 e
 have h2 : (rings.map fun x => (fsts [] rings).idxOf x) ∈ pcs (rel0 cl) (dn [] rings) n [] := by
  rw [mem_col]
  have hg : ∀ k, k < n -> (rings.map fun x => (fsts [] rings).idxOf x).getD k 0 = (fsts [] rings).idxOf (rings.getD k 0) := fun k hk => by
   rw [List.getD_eq_getElem?_getD, List.getD_eq_getElem?_getD, List.getElem?_map, List.getElem?_eq_getElem (by omega)]; rfl
  have hm : ∀ k, k < n -> rings.getD k 0 ∈ fsts [] rings := fun k hk => (mem_fsts _ _).2 ⟨getD_mem (by omega), by simp⟩
  refine ⟨by rw [List.length_map, hl], fun k hk => ?_⟩
  rw [hg k hk, dn_fsts]
  refine ⟨List.idxOf_lt_length_of_mem (hm k hk), fun i hi hR he => ?_⟩
  rw [hg i (by omega)] at he
  refine hp i k hi hk (by simpa [rel0] using hR) ?_
  have ha := List.getElem_idxOf (List.idxOf_lt_length_of_mem (hm k hk))
  have hb := List.getElem_idxOf (List.idxOf_lt_length_of_mem (hm i (by omega)))
  rw [<- ha, <- hb]
  simp only [he]
 rw [h1] at h2
 cases h2
theorem fw_col {cl : List (Int × Int)} {n : Nat} : ∃ g : List Nat, g.length = n /\ ∀ k, k < n -> g.getD k 0 < fw cl n /\ ∀ i, i < k -> rel0 cl i k = true -> g.getD i 0 ≠ g.getD k 0 := by
 have h := (pcs_some (cl := cl) (n := n) (m := fw cl n)).2 (Nat.le_refl _)
 cases hp : pcs (rel0 cl) (fw cl n) n [] with
 | nil => rw [hp] at h; exact absurd rfl h
 | cons g l => exact ⟨g, mem_col.1 (by rw [hp]; simp)⟩
theorem col_ne {cl : List (Int × Int)} (hc : ∀ p ∈ cl, p.1 < p.2) {n : Nat} {g : List Nat} (hg : ∀ k, k < n -> g.getD k 0 < fw cl n /\ ∀ i, i < k -> rel0 cl i k = true -> g.getD i 0 ≠ g.getD k 0)
  {x y : Int} (hx : 0 <= x /\ x < n) (hy : 0 <= y /\ y < n) (h : pO x y ∈ cl) : g.getD x.toNat 0 ≠ g.getD y.toNat 0 := by
 obtain ⟨a, rfl⟩ := Int.eq_ofNat_of_zero_le hx.1
 obtain ⟨b, rfl⟩ := Int.eq_ofNat_of_zero_le hy.1
 simp only [Int.toNat_natCast]
 rcases Nat.lt_trichotomy a b with h1 | h1 | h1
 ·exact (hg b (by omega)).2 a h1 (by simpa [rel0] using h)
 ·have := hc _ h
  subst h1
  simp only [pO] at this
  omega
 ·rw [pO_comm] at h
  exact ((hg a (by omega)).2 b h1 (by simpa [rel0] using h)).symm
theorem isG_le {cl : List (Int × Int)} (hc : ∀ p ∈ cl, p.1 < p.2) {n : Nat} {L : List Int} (hL : isG cl n L) : L.length <= fw cl n := by
 obtain ⟨g, _, hg⟩ := fw_col (cl := cl) (n := n)
 have h1 : (L.map fun x => g.getD x.toNat 0).Nodup := by
  rw [List.nodup_iff_pairwise_ne, List.pairwise_map]
  exact List.Pairwise.imp_of_mem (fun {a b} ha hb h => col_ne hc hg (hL.1 a ha) (hL.1 b hb) h) hL.2.2
 have h2 := h1.length_le_of_subset (l₂ := List.range (fw cl n)) (by
  intro y hy
  obtain ⟨x, hx, rfl⟩ := List.mem_map.1 hy
  have := hL.1 x hx
  exact List.mem_range.2 (hg _ (by omega)).1)
 rwa [List.length_map, List.length_range] at h2
theorem odd_three {cl : List (Int × Int)} (hc : ∀ p ∈ cl, p.1 < p.2) {n : Nat} {L : List Int} (hL : ∀ x ∈ L, 0 <= x /\ x < n) (ho : L.length % 2 = 1) (hy : cyc cl L) : 3 <= fw cl n := by
 obtain ⟨g, _, hg⟩ := fw_col (cl := cl) (n := n)
 rcases Nat.lt_or_ge (fw cl n) 3 with h3 | h3
 ·exfalso
  have hlt : ∀ i, i < L.length -> g.getD (L.getD i 0).toNat 0 < 2 := fun i hi => by
   have h1 := hL _ (getD_mem hi)
   have := (hg (L.getD i 0).toNat (by omega)).1
   omega
  have hne : ∀ i, i + 1 < L.length -> g.getD (L.getD i 0).toNat 0 ≠ g.getD (L.getD (i + 1) 0).toNat 0 := fun i hi => by
   have h1 := hy i (by omega)
   rw [Nat.mod_eq_of_lt hi] at h1
   exact col_ne hc hg (hL _ (getD_mem (by omega))) (hL _ (getD_mem hi)) h1
  have hpar : ∀ i, i < L.length -> g.getD (L.getD i 0).toNat 0 = (g.getD (L.getD 0 0).toNat 0 + i) % 2 := by
   intro i
   induction i with
   | zero => intro hi; have := hlt 0 hi; omega
   | succ i ih =>
    intro hi
    have h1 := ih (by omega)
    have h2 := hne i hi
    have h3 := hlt (i + 1) hi
    have h4 := hlt i (by omega)
    omega
  have h1 := hy (L.length - 1) (by omega)
  rw [show L.length - 1 + 1 = L.length by omega, Nat.mod_self] at h1
  have h2 := col_ne hc hg (hL _ (getD_mem (by omega))) (hL _ (getD_mem (by omega))) h1
  have h4 := hpar (L.length - 1) (by omega)
  have h5 := hlt 0 (by omega)
  omega
 ·exact h3
theorem clsh_lt2 {K Q : List (Int × Int)} (h : ckB K Q = 0) : ∀ p ∈ clsh K Q, p.1 < p.2 := fun p hp => (clsh_rng h hp).2.1
theorem ckG_le {K Q : List (Int × Int)} (h : ckB K Q = 0) {L : List Int} (hL : ckG K Q L = 0) : L.length <= fw (clsh K Q) K.length := isG_le (clsh_lt2 h) ((ckG_iff h).1 hL).1
theorem gst_le {K Q : List (Int × Int)} (h : ckB K Q = 0) : (gst (clsh K Q) K.length (K.length + 1) [] 0).length <= fw (clsh K Q) K.length := ckG_le h (gst_ok h)
theorem ckG_gst {K Q : List (Int × Int)} (h : ckB K Q = 0) {L : List Int} (hL : ckG K Q L = 0) : L.length <= (gst (clsh K Q) K.length (K.length + 1) [] 0).length := by
 rcases gst_best.2 L ((ckG_iff h).1 hL).1 with h1 | ⟨h1, _⟩ <;> omega
theorem ckC_zero {K Q : List (Int × Int)} {L : List Int} (hL : ckC K Q L = 0) : ckB K Q = 0 /\ (∀ x ∈ L, 0 <= x /\ x < K.length) /\ ¬ oddL L /\ cyc (clsh K Q) L := by
 unfold ckC at hL
 split at hL
 ·rename_i h
  split at hL
  ·rename_i hw
   split at hL
   ·cases hL
   ·rename_i ho
    split at hL
    ·rename_i hy
     exact ⟨h, fun x hx => by have := within_mem hw hx; omega, ho, hy⟩
    ·cases hL
  ·cases hL
 ·exact absurd hL ‹_›
theorem ckC_three {K Q : List (Int × Int)} {L : List Int} (hL : ckC K Q L = 0) : 3 <= fw (clsh K Q) K.length := by
 obtain ⟨h, h1, h2, h3⟩ := ckC_zero hL
 unfold oddL at h2
 exact odd_three (clsh_lt2 h) h1 (by omega) h3
theorem ckR_or {K Q : List (Int × Int)} (h : ckB K Q = 0) {rings : List Int} (hl : rings.length = K.length) (hw : ∀ x ∈ rings, 0 <= x /\ x <= 7) :
  ckR K Q rings = (0, 23) \/ ∃ d : Nat, ckR K Q rings = ((d : Int), 0) /\ fw (clsh K Q) K.length <= d := by
 unfold ckR
 rw [if_pos h, if_pos hl, if_pos (within_of hw)]
 split
 ·exact .inl rfl
 ·rename_i hn
  refine .inr ⟨_, rfl, ?_⟩
  rw [cpt_dn]
  refine fw_le_dn hl fun i k hik hk hc e => hn ?_
  rw [bad_iff h]
  exact ⟨k, i, hk, hik, e, hc⟩
end Go.Proofs.Ytmcjoahnlbckoaa.Sk
