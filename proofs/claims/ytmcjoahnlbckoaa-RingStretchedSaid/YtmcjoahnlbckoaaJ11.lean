/- The examples of the chapter hold. -/
import Derived.Test.YtmcjoahnlbckoaaJ10

set_option linter.all false

namespace Go.Proofs.Ytmcjoahnlbckoaa.Sk
open Go Go.E
def KB : List (Int × Int) := [(1, 4), (3, 6), (6, 8), (2, 3)]
def QB : List (Int × Int) := [(0, 2)]
def KC : List (Int × Int) := [(0, 0), (10, 10), (20, 20), (30, 30), (40, 40)]
def QC : List (Int × Int) := [(0, 1), (0, 4), (1, 2), (2, 3), (3, 4)]
def exB : SV := bk KB QB
def exC : SV := bk KC QC
def crcC : List (List Int) := crcs (clsh KC QC) KC.length KC.length
def circC : List Int := match crcC with | [] => [] | c :: cs => bestF shoB c cs
def ckRd (K Q : List (Int × Int)) (rings : List Int) : Int × Int :=
 if ckB K Q = 0 then (if rings.length = K.length then (if withinB 0 7 rings = true then (if ∃ p ∈ clsh K Q, rg rings p.1 = rg rings p.2 then (0, 23) else ((dn [] rings : Nat), 0)) else (0, 3)) else (0, 15)) else (0, ckB K Q)
theorem ckR_dn {K Q : List (Int × Int)} {rings : List Int} : ckR K Q rings = ckRd K Q rings := by unfold ckR ckRd; rw [cpt_dn]
theorem w0 : E.Fn Try.prog 25 [exB, .int .i64 0, .int .i64 2] [.int .i64 23] := by
 have h := k25 (K := KB) (Q := QB) (one := 0) (two := 2)
 rw [show pairE KB QB 0 2 = 23 by decide +kernel] at h
 exact h
theorem w1 : E.Fn Try.prog 25 [exB, .int .i64 2, .int .i64 3] [.int .i64 0] := by
 have h := k25 (K := KB) (Q := QB) (one := 2) (two := 3)
 rw [show pairE KB QB 2 3 = 0 by decide +kernel] at h
 exact h
theorem w2 : E.Fn Try.prog 25 [exB, .int .i64 1, .int .i64 1] [.int .i64 2] := by
 have h := k25 (K := KB) (Q := QB) (one := 1) (two := 1)
 rw [show pairE KB QB 1 1 = 2 by decide +kernel] at h
 exact h
theorem w3 : E.Fn Try.prog 25 [exB, .int .i64 1, .int .i64 2] [.int .i64 23] := by
 have h := k25 (K := KB) (Q := QB) (one := 1) (two := 2)
 rw [show pairE KB QB 1 2 = 23 by decide +kernel] at h
 exact h
theorem w4 : E.Fn Try.prog 19 [exB, .slice [.int .i64 5, .int .i64 1, .int .i64 0, .int .i64 0]] [.int .i64 3, .int .i64 0] := by
 have h := k19 (K := KB) (Q := QB) (rings := [5, 1, 0, 0])
 rw [ckR_dn, show ckRd KB QB [5, 1, 0, 0] = (3, 0) by decide +kernel] at h
 exact h
theorem w5 : E.Fn Try.prog 19 [exB, .slice [.int .i64 0, .int .i64 1, .int .i64 1, .int .i64 2]] [.int .i64 0, .int .i64 23] := by
 have h := k19 (K := KB) (Q := QB) (rings := [0, 1, 1, 2])
 rw [ckR_dn, show ckRd KB QB [0, 1, 1, 2] = (0, 23) by decide +kernel] at h
 exact h
theorem w10 : E.Fn Try.prog 27 [exC] [.int .i64 3, .int .i64 0] := by
 have h := k27 (K := KC) (Q := QC)
 rw [show fewR KC QC = (3, 0) by decide +kernel] at h
 exact h
theorem w11 : E.Fn Try.prog 29 [exB] [.slice [.int .i64 0, .int .i64 1, .int .i64 2, .int .i64 2], .int .i64 0] := by
 have h := k29 (K := KB) (Q := QB)
 unfold rngR at h
 rw [if_pos (by decide +kernel), show rngs (clsh KB QB) KB.length = [0, 1, 2, 2] by decide +kernel] at h
 exact h
theorem w12 : E.Fn Try.prog 29 [exC] [.slice [.int .i64 0, .int .i64 1, .int .i64 0, .int .i64 1, .int .i64 2], .int .i64 0] := by
 have h := k29 (K := KC) (Q := QC)
 unfold rngR at h
 rw [if_pos (by decide +kernel), show rngs (clsh KC QC) KC.length = [0, 1, 0, 1, 2] by decide +kernel] at h
 exact h
theorem w13 : E.Fn Try.prog 31 [exB, .int .i64 4] [.int .i64 48, .int .i64 0] := by
 have h := k31 (K := KB) (Q := QB) (m := 4)
 rw [show couR KB QB 4 = (48, 0) by decide +kernel] at h
 exact h
theorem w14 : E.Fn Try.prog 31 [exC, .int .i64 3] [.int .i64 30, .int .i64 0] := by
 have h := k31 (K := KC) (Q := QC) (m := 3)
 rw [show couR KC QC 3 = (30, 0) by decide +kernel] at h
 exact h
theorem w15 : E.Fn Try.prog 31 [exC, .int .i64 9] [.int .i64 0, .int .i64 2] := by
 have h := k31 (K := KC) (Q := QC) (m := 9)
 rw [show couR KC QC 9 = (0, 2) by decide +kernel] at h
 exact h
theorem w19 : E.Fn Try.prog 34 [exB] [.slice [.int .i64 0, .int .i64 1, .int .i64 2], .int .i64 0] := by
 have h := k34 (K := KB) (Q := QB)
 unfold grpR at h
 rw [if_pos (by decide +kernel), show gst (clsh KB QB) KB.length (KB.length + 1) [] 0 = [0, 1, 2] by decide +kernel] at h
 exact h
theorem w21 : E.Fn Try.prog 38 [exB, .slice [.int .i64 2, .int .i64 3]] [.int .i64 14] := by
 have h := k38 (K := KB) (Q := QB) (keys := [2, 3])
 rw [show ckG KB QB [2, 3] = 14 by decide +kernel] at h
 exact h
theorem w22 : E.Fn Try.prog 38 [exB, .slice []] [.int .i64 3] := by
 have h := k38 (K := KB) (Q := QB) (keys := [])
 rw [show ckG KB QB [] = 3 by decide +kernel] at h
 exact h
theorem w24 : E.Fn Try.prog 40 [exC, .slice [.int .i64 0, .int .i64 1, .int .i64 2]] [.int .i64 14] := by
 have h := k40 (K := KC) (Q := QC) (keys := [0, 1, 2]) (by decide)
 rw [show ckC KC QC [0, 1, 2] = 14 by decide +kernel] at h
 exact h
theorem w25 : E.Fn Try.prog 40 [exC, .slice [.int .i64 0, .int .i64 1]] [.int .i64 16] := by
 have h := k40 (K := KC) (Q := QC) (keys := [0, 1]) (by decide)
 rw [show ckC KC QC [0, 1] = 16 by decide +kernel] at h
 exact h
theorem w28 : E.Fn Try.prog 36 [exC] [ints circC, .int .i64 0] := by
 have h := k36 (K := KC) (Q := QC)
 unfold cirR at h
 rw [if_pos (by decide +kernel), show crcs (clsh KC QC) KC.length KC.length = crcC by decide +kernel] at h
 exact h
theorem w29 : E.Fn Try.prog 41 [exC, ints circC] [.int .i64 0] := by
 have h := k41 (K := KC) (Q := QC) (keys := circC)
 rw [show ckC KC QC circC = 0 by decide +kernel] at h
 exact h
theorem w30 : E.Fn Try.prog 21 [exB] [.int .i64 3, .int .i64 3, .int .i64 0] := by
 have h := k21 (K := KB) (Q := QB)
 unfold dayR at h
 rw [if_pos (by decide +kernel), show (dayK KB).1 = 3 by decide +kernel, show outC KB 3 = 3 by decide +kernel] at h
 exact h
theorem w32 : E.Fn Try.prog 43 [exB, .int .i64 2, .int .i64 3] [.int .i64 2, .int .i64 0] := by
 have h := k43 (K := KB) (Q := QB) (one := 2) (two := 3)
 rw [show kndR KB QB 2 3 = (2, 0) by decide +kernel] at h
 exact h
theorem w33 : E.Fn Try.prog 43 [exC, .int .i64 0, .int .i64 2] [.int .i64 1, .int .i64 0] := by
 have h := k43 (K := KC) (Q := QC) (one := 0) (two := 2)
 rw [show kndR KC QC 0 2 = (1, 0) by decide +kernel] at h
 exact h
end Go.Proofs.Ytmcjoahnlbckoaa.Sk

/- The examples of the chapter: books, and that all hold. -/
namespace Go.Proofs.Ytmcjoahnlbckoaa.Sk
open Go Go.E Go.E.Sm
set_option maxRecDepth 10000
theorem k56 {l : List Int} : E.Fn Try.prog 56 [ints l] [ints l] := by
 refine fn_of_row okf56 ?_
 simp only [FRow.start, f56, c56r0, c56r1, ints, go_sem, Nat.reduceSub]
def twoL (K : List (Int × Int)) : List Int := K.flatMap fun p => [p.1, p.2]
theorem twoL_len {K : List (Int × Int)} : (twoL K).length = 2 * K.length := by
 induction K with
 | nil => rfl
 | cons p K ih => simp only [twoL, List.flatMap_cons, List.length_append, List.length_cons, List.length_nil] at *; omega
theorem twoL_get {K : List (Int × Int)} : ∀ {i : Nat} {p : Int × Int}, K[i]? = some p -> (twoL K)[2 * i]? = some p.1 /\ (twoL K)[2 * i + 1]? = some p.2 := by
 induction K with
 | nil => intro i p h; cases h
 | cons q K ih =>
  intro i p h
  cases i with
  | zero => simp only [List.getElem?_cons_zero, Option.some.injEq] at h; subst h; exact ⟨rfl, rfl⟩
  | succ i =>
   have := ih (i := i) (by simpa using h)
   simp only [twoL, List.flatMap_cons] at this ⊢
   rw [show 2 * (i + 1) = (2 * i) + 2 by omega, show 2 * i + 2 + 1 = (2 * i + 1) + 2 by omega]
   simpa using this
theorem twoL_snoc {K : List (Int × Int)} {p : Int × Int} : twoL (K ++ [p]) = twoL K ++ [p.1, p.2] := by
 unfold twoL; rw [List.flatMap_append]; rfl
theorem chunk_two : ∀ (K : List (Int × Int)), chunk 2 K.length ((twoL K).map (SV.int .i64)) = K.map pr
 | [] => rfl
 | p :: K => by
  have := chunk_two K
  simp only [twoL, List.flatMap_cons, List.map_append, List.length_cons, List.map_cons, List.map_nil] at this ⊢
  rw [chunk]
  simp only [List.cons_append, List.nil_append, List.take_succ_cons, List.take_zero, List.drop_succ_cons, List.drop_zero]
  rw [this]; rfl
theorem promo_cell2 {σ : AState} {b d o off sz : Nat} {cs : List LV} (h : fget σ.fr d = .loc b o) (hB : σ.hp[b]? = some (.obj cs)) (hc : cs[o + off]? = some (.full [])) :
  promote [(d, some off, sz)] σ = { fr := σ.fr, hp := σ.hp.set b (.obj (cs.set (o + off) (.sl σ.hp.length 0 0 (sz + 1) false))) ++ [.row []] } := by
 simp only [promote, promote1, h, hB, hc]
theorem one_pr {p : Int × Int} : ∀ e ∈ [SV.agg [.int .i64 p.1, .int .i64 p.2]], e.cells.length = 2 := by
 intro e he
 rw [List.mem_singleton] at he
 subst he; rfl
theorem k87 {K : List (Int × Int)} (hk : K.length <= 100) : E.Fn Try.prog 87 [ints (twoL K)] [bk K []] := by
 refine fn_of_row okf87 ?_
 have hl := twoL_len (K := K)
 simp only [FRow.start, f87, c87r0, c87r1, c87r2, ints, go_sem, Nat.reduceAdd, Nat.reduceSub]
 refine loop_rule (fun n τ => ∃ i : Nat, n = K.length - i /\ i <= K.length /\
  τ = ⟨[.s (ints (twoL K)), .any, .loc 0 0, .loc 1 0, .s (.int .i64 ((2 * i : Nat) : Int)), .any, .any, .any, .any, .any, .any, .any, .any, .any, .any, .any, .any, .any, .any, .any, .any, .any, .any, .any, .any, .any, .any, .any], [.obj [.full [], .full []], .obj [.sl 2 0 i 2 false, .full []], .row ((twoL (K.take i)).map (.int .i64))]⟩) K.length (promo_cell2 rfl rfl rfl) ?_ ?_
 ·simp only [c87l6m, go_sem, ↓reduceIte, reduceCtorEq, Nat.reduceAdd, Nat.reduceLeDiff]
  exact ⟨0, rfl, Nat.zero_le _, rfl⟩
 ·rintro I n τ ⟨i, rfl, hi, rfl⟩ hI
  have hin : inR .i64 (((2 * i : Nat) : Int) + 1) := inR_small (by omega) (by omega)
  have e1 : ((2 * i : Nat) : Int) + 1 = ((2 * i + 1 : Nat) : Int) := rfl
  simp only [c87l6, c87r3, ints, go_sem, ↓reduceIte, Nat.reduceAdd]
  refine ⟨hin, fun _ => ?_⟩
  refine ⟨fun hlt => ?_, fun hge => ?_⟩
  ·have hlt : i < K.length := by omega
   have hx : K[i]? = some K[i] := List.getElem?_eq_getElem hlt
   obtain ⟨h1, h2⟩ := twoL_get hx
   have hts : twoL (K.take (i + 1)) = twoL (K.take i) ++ [K[i].1, K[i].2] := by rw [List.take_succ, hx]; exact twoL_snoc
   have htl : (twoL (K.take i)).length = i * 2 := by rw [twoL_len, List.length_take]; omega
   generalize K[i] = p at hx h1 h2 hts
   simp only [c87r4, h1, h2, e1, splice, SV.cells, Nat.reduceBEq, Bool.false_eq_true, go_sem, ↓reduceIte, Nat.reduceAdd, Nat.reduceLeDiff, Nat.reduceMul]
   refine ⟨hin, by decide, by decide, rfl, one_pr, one_pr, htl.symm, by omega, by omega, ?_⟩
   simp only [c87r5, c87l6m, go_sem, ↓reduceIte, reduceCtorEq, Nat.reduceLeDiff]
   have e2 : (twoL (K.take i)).map (SV.int .i64) ++ flatE [SV.agg [.int .i64 p.1, .int .i64 p.2]] = (twoL (K.take (i + 1))).map (SV.int .i64) := by rw [hts, List.map_append]; rfl
   rw [e2]
   exact ⟨inR_small (by omega) (by omega), hI (K.length - (i + 1)) _ (by omega) ⟨i + 1, rfl, by omega, rfl⟩⟩
  ·have hie : i = K.length := by omega
   subst hie
   rw [List.take_length]
   have hro : rowOf 0 K.length 2 ((twoL K).map (SV.int .i64)) = some (K.map pr) := by
    rw [rowOf, if_pos (by rw [List.length_map, hl]; omega), elems, if_neg (by decide), List.drop_zero, chunk_two]
   have hso : sliceOf 0 K.length 2 ((twoL K).map (SV.int .i64)) = some (kS K) := by
    rw [sliceOf, if_pos (by rw [List.length_map, hl]; omega), elems, if_neg (by decide), List.drop_zero, chunk_two]; rfl
   simp only [c87r7, splice, hso, bk, kS, go_sem, Nat.reduceAdd]
theorem k54 : E.Fn Try.prog 54 [] [exB] := by
 refine fn_of_row okf54 ?_
 simp only [FRow.start, f54, c54r0, c54r1, go_sem, Nat.reduceSub]
 refine ⟨by decide, by decide, rfl, ints_one (xs := [1, 4, 3, 6, 6, 8, 2, 3]), ?_⟩
 refine callK_of rfl (k87 (K := KB) (by decide)) (.inr rfl) ?_
 simp only [bk, kS, SV.cells, splice, c54r2, go_sem, ↓reduceIte, Nat.reduceAdd, Nat.reduceLeDiff, Nat.reduceMul]
 refine ⟨by decide, by decide, rfl, by intro e he; rw [List.mem_singleton] at he; subst he; rfl, ?_⟩
 simp only [c54r3, splice, go_sem, Nat.reduceAdd]
 rfl
theorem k55 : E.Fn Try.prog 55 [] [exC] := by
 refine fn_of_row okf55 ?_
 simp only [FRow.start, f55, c55r0, c55r1, go_sem, Nat.reduceSub]
 refine ⟨by decide, by decide, rfl, ints_one (xs := [0, 0, 10, 10, 20, 20, 30, 30, 40, 40]), ?_⟩
 refine callK_of rfl (k87 (K := KC) (by decide)) (.inr rfl) ?_
 simp only [bk, kS, SV.cells, splice, c55r2, go_sem, ↓reduceIte, Nat.reduceAdd, Nat.reduceLeDiff, Nat.reduceMul]
 refine ⟨by decide, by decide, rfl, by intro e he; simp only [List.mem_cons, List.not_mem_nil, or_false] at he; rcases he with rfl | rfl | rfl | rfl | rfl <;> rfl, ?_⟩
 simp only [c55r3, splice, go_sem, Nat.reduceAdd]
 rfl
theorem same33 {l : List Int} : E.Fn Try.prog 33 [ints l, ints l] [.bool true] := by
 have h := k33 (xs := l) (ys := l)
 rw [decide_eq_true rfl] at h
 exact h
set_option maxHeartbeats 4000000 in
theorem works_ok : E.Fn Try.prog 18 [] [.bool true] := by
 refine fn_of_row okf18 ?_
 have hcl : circC.length = 5 := by decide +kernel
 have hcs : ((circC.length : Nat) : Int) = 5 := by rw [hcl]; rfl
 simp only [FRow.start, f18, c18r0, c18r1, go_sem, Nat.reduceSub]
 refine callK_of rfl k54 (.inr rfl) ?_
 simp only [go_sem]
 refine callK_of rfl k55 (.inr rfl) ?_
 simp only [exB, exC, bk, SV.cells, splice, go_sem, Nat.reduceAdd]
 simp only [c18r2, go_sem, Nat.reduceAdd]
 refine callK_of rfl w0 (.inl rfl) ?_
 simp only [go_sem, Nat.reduceAdd]
 refine callK_of rfl w1 (.inl rfl) ?_
 simp only [go_sem, Nat.reduceAdd]
 refine callK_of rfl w2 (.inl rfl) ?_
 simp only [c18r3, go_sem, Nat.reduceAdd]
 refine ⟨by decide, by decide, rfl, ints_one (xs := [5, 1, 0, 0]), ?_⟩
 refine callK_of rfl (k56 (l := [5, 1, 0, 0])) (.inr rfl) ?_
 simp only [go_sem]
 refine callK_of rfl w4 (.inl rfl) ?_
 simp only [c18r4, go_sem, Nat.reduceAdd]
 refine ⟨by decide, by decide, rfl, ints_one (xs := [0, 1, 1, 2]), ?_⟩
 refine callK_of rfl (k56 (l := [0, 1, 1, 2])) (.inr rfl) ?_
 simp only [go_sem]
 refine callK_of rfl w5 (.inl rfl) ?_
 simp only [c18r5, go_sem, Nat.reduceAdd]
 refine callK_of rfl w10 (.inl rfl) ?_
 simp only [c18r6, go_sem, Nat.reduceAdd]
 refine callK_of rfl w11 (.inr rfl) ?_
 simp only [c18r7, go_sem, Nat.reduceAdd]
 refine callK_of rfl w12 (.inr rfl) ?_
 simp only [c18r8, go_sem, Nat.reduceAdd]
 refine callK_of rfl w13 (.inl rfl) ?_
 simp only [c18r9, go_sem, Nat.reduceAdd]
 refine callK_of rfl w14 (.inl rfl) ?_
 simp only [c18r10, go_sem, Nat.reduceAdd]
 refine callK_of rfl w15 (.inl rfl) ?_
 simp only [c18r11, go_sem, Nat.reduceAdd]
 refine callK_of rfl w19 (.inr rfl) ?_
 simp only [c18r12, go_sem, Nat.reduceAdd]
 refine ⟨by decide, by decide, rfl, ints_one (xs := [2, 3]), ?_⟩
 refine callK_of rfl (k56 (l := [2, 3])) (.inr rfl) ?_
 simp only [go_sem]
 refine callK_of rfl w21 (.inl rfl) ?_
 simp only [go_sem, Nat.reduceAdd]
 refine callK_of rfl w22 (.inl rfl) ?_
 simp only [c18r13, go_sem, Nat.reduceAdd]
 refine ⟨by decide, by decide, rfl, ints_one (xs := [0, 1, 2]), ?_⟩
 refine callK_of rfl (k56 (l := [0, 1, 2])) (.inr rfl) ?_
 simp only [go_sem]
 refine callK_of rfl w24 (.inl rfl) ?_
 simp only [go_sem, Nat.reduceAdd]
 refine ⟨by decide, by decide, rfl, ints_one (xs := [0, 1]), ?_⟩
 refine callK_of rfl (k56 (l := [0, 1])) (.inr rfl) ?_
 simp only [go_sem]
 refine callK_of rfl w25 (.inl rfl) ?_
 simp only [c18r14, go_sem, Nat.reduceAdd]
 refine callK_of rfl w28 (.inr rfl) ?_
 simp only [c18r15, go_sem, Nat.reduceAdd]
 refine callK_of rfl w30 (.inl rfl) ?_
 simp only [c18r16, go_sem, Nat.reduceAdd]
 refine callK_of rfl w32 (.inl rfl) ?_
 simp only [c18r17, go_sem, Nat.reduceAdd]
 refine callK_of rfl w33 (.inl rfl) ?_
 simp only [c18r18, go_sem, Nat.reduceAdd]
 simp only [c18r20, go_sem]
 refine ⟨by decide, by decide, rfl, ints_one (xs := [0, 1, 2, 2]), ?_⟩
 refine callK_of rfl (k56 (l := [0, 1, 2, 2])) (.inr rfl) ?_
 simp only [go_sem]
 refine callK_of rfl (same33 (l := [0, 1, 2, 2])) (.inl rfl) ?_
 simp only [go_sem]
 refine ⟨by decide, by decide, rfl, ints_one (xs := [0, 1, 0, 1, 2]), ?_⟩
 refine callK_of rfl (k56 (l := [0, 1, 0, 1, 2])) (.inr rfl) ?_
 simp only [go_sem]
 refine callK_of rfl (same33 (l := [0, 1, 0, 1, 2])) (.inl rfl) ?_
 simp only [go_sem]
 refine ⟨by decide, by decide, rfl, ints_one (xs := [0, 1, 2]), ?_⟩
 refine callK_of rfl (k56 (l := [0, 1, 2])) (.inr rfl) ?_
 simp only [go_sem]
 refine callK_of rfl (same33 (l := [0, 1, 2])) (.inl rfl) ?_
 simp only [ints, hcs, go_sem, Nat.reduceAdd]
 refine callK_of rfl w29 (.inl rfl) ?_
 simp only [go_sem]
end Go.Proofs.Ytmcjoahnlbckoaa.Sk

/- A call of the examples of the chapter answers true. -/
namespace Go.Proofs.Ytmcjoahnlbckoaa.Sk
open Go Go.E Go.E.Sm
set_option maxRecDepth 10000
theorem wk {H : List ABlock} {k : AK} (hk : k (LV.ofResults [.bool true]) H none True) : callK Try.prog H 18 [] k := callK_of rfl works_ok (.inl rfl) hk
theorem k45 {K Q : List (Int × Int)} : E.Fn Try.prog 45 [bk K Q] [.bool (!greatB K Q && decide (ckB K Q = 0))] := by
 refine fn_of_row okf45 ?_
 simp only [FRow.start, f45, c45r0, c45r1, bk, SV.cells, go_sem, Nat.reduceAdd, Nat.reduceSub]
 refine callK_of (by simp only [bk, go_sem]) (k17 (K := K) (Q := Q)) (.inl rfl) ?_
 cases hg : greatB K Q with
 | true => simp only [go_sem]; rfl
 | false =>
  simp only [go_sem, Nat.reduceAdd]
  refine callK_of (by simp only [bk, go_sem]) (k24 (K := K) (Q := Q)) (.inl rfl) ?_
  simp only [go_sem]
  rfl
end Go.Proofs.Ytmcjoahnlbckoaa.Sk

/- Contracts of the laws' functions: the fewest rings with such ones, counts, rings by numbers. -/
namespace Go.Proofs.Ytmcjoahnlbckoaa.Sk
open Go Go.E Go.E.Sm
set_option maxRecDepth 10000
theorem rngs_pcs {cl : List (Int × Int)} {n : Nat} (h : 1 <= n) : ∃ g, rngs cl n = toI g /\ g ∈ pcs (rel0 cl) (fw cl n) n [] /\ rgP g (fw cl n) := by
 have h1 := bst_head (cl := cl) (n := n)
 rw [<- rngs_eq h] at h1
 obtain ⟨h2, h3⟩ := bst_dn h1
 obtain ⟨g', e, h4, hr⟩ := hgF_rg n 0 [] rgP_nil _ (by simpa [toI] using h2)
 rw [h4, rgP_dn hr] at h3
 subst h3
 refine ⟨g', h4, ?_, hr⟩
 rw [bst_M, h4, List.mem_map] at h1
 obtain ⟨g2, h5, h6⟩ := h1
 rw [<- toI_inj h6]
 have hsub : ∀ (f d : Nat) (h : List Nat), rgP h d -> d <= fw cl n -> ∀ g ∈ hgM (rel0 cl) (fw cl n) f d h, g ∈ pcs (rel0 cl) (fw cl n) f h := by
  intro f
  induction f with
  | zero => intro d h _ _ g hg; exact hg
  | succ f ih =>
   intro d h hr hd g hg
   rw [hgM, List.mem_append, List.mem_flatMap] at hg
   rw [pcs, List.mem_flatMap]
   rcases hg with ⟨r, h1, h2⟩ | hg
   ·have h1 := List.mem_range.1 h1
    split at h2
    ·rename_i hok
     exact ⟨r, List.mem_range.2 (by omega), by rw [if_pos hok]; exact ih d _ (rgP_old hr h1) hd g h2⟩
    ·cases h2
   ·split at hg
    ·exact ⟨d, List.mem_range.2 (by omega), by rw [if_pos (okN_fresh hr.1 (Nat.le_refl _))]; exact ih (d + 1) _ (rgP_new hr) (by omega) g hg⟩
    ·cases hg
 exact hsub n 0 [] rgP_nil (Nat.zero_le _) g2 h5
theorem ckR_good {K Q : List (Int × Int)} (h : ckB K Q = 0) {rings : List Int} (hl : rings.length = K.length) (hw : ∀ x ∈ rings, 0 <= x /\ x <= 7) (hp : ∀ i k : Nat, i < k -> k < K.length -> pO (i : Int) (k : Int) ∈ clsh K Q -> rings.getD i 0 ≠ rings.getD k 0) : ckR K Q rings = (((dn [] rings : Nat) : Int), 0) := by
 unfold ckR
 rw [if_pos h, if_pos hl, if_pos (within_of hw), if_neg, cpt_dn]
 rw [bad_iff h]
 rintro ⟨i, k, h1, h2, h3, h4⟩
 exact hp k i h2 h1 h4 h3
theorem ckR_rngs {K Q : List (Int × Int)} (h : ckB K Q = 0) : ckR K Q (rngs (clsh K Q) K.length) = (((fw (clsh K Q) K.length : Nat) : Int), 0) := by
 obtain ⟨hk1, hk8, _⟩ := ckB_zero h
 obtain ⟨g, h1, h2, h3⟩ := rngs_pcs (cl := clsh K Q) hk1
 have h4 := fw_le (cl := clsh K Q) (n := K.length)
 obtain ⟨h5, h6⟩ := mem_col.1 h2
 rw [h1, ckR_good h (by rw [toI_len]; exact h5) (fun x hx => by
  obtain ⟨y, hy, rfl⟩ := List.mem_map.1 hx
  have := h3.1 y hy
  omega) (fun i k hik hk hc e => by
  rw [toI_getD, toI_getD] at e
  exact (h6 k hk).2 i hik (by simpa [rel0] using hc) (by omega)), rgP_dn h3]
theorem k46 {K Q : List (Int × Int)} (h0 : ckB K Q = 0) : E.Fn Try.prog 46 [bk K Q] [.int .i64 (fw (clsh K Q) K.length : Nat), ints (rngs (clsh K Q) K.length), .bool true] := by
 refine fn_of_row okf46 ?_
 obtain ⟨hk1, hk8, _⟩ := ckB_zero h0
 have h27 := k27 (K := K) (Q := Q)
 have h29 := k29 (K := K) (Q := Q)
 have h19 := k19 (K := K) (Q := Q) (rings := rngs (clsh K Q) K.length)
 have h20 := k20 (K := K) (Q := Q) (rings := rngs (clsh K Q) K.length)
 unfold fewR at h27
 unfold rngR at h29
 rw [if_pos h0, fewN_eq hk1] at h27
 rw [if_pos h0] at h29
 rw [ckR_rngs h0] at h19 h20
 have hp := fw_pos (cl := clsh K Q) hk1
 have hle := fw_le (cl := clsh K Q) (n := K.length)
 generalize rngs (clsh K Q) K.length = l at *
 generalize fw (clsh K Q) K.length = w at *
 have hw1 : (1 : Int) <= (w : Int) := by omega
 have hw2 : (w : Int) <= (K.length : Int) := by omega
 simp only [FRow.start, f46, c46r0, c46r1, bk, SV.cells, go_sem, Nat.reduceAdd, Nat.reduceSub]
 refine callK_of (by simp only [bk, go_sem]) h27 (.inl rfl) ?_
 simp only [c46r2, go_sem, Nat.reduceAdd]
 refine callK_of (by simp only [bk, go_sem]) h29 (.inr (by simp only [bk, go_sem])) ?_
 simp only [c46r3, c46r5, go_sem, Nat.reduceAdd]
 refine callK_of (by simp only [bk, go_sem]) h19 (.inl rfl) ?_
 simp only [c46r6, go_sem, Nat.reduceAdd]
 refine callK_of (by simp only [bk, go_sem]) h20 (.inl rfl) ?_
 simp only [c46r7, hw1, hw2, kS, go_sem, Nat.reduceAdd, Nat.reduceLeDiff]
 try (intro _)
 try simp only [hw1, hw2, go_sem, ↓reduceIte, reduceCtorEq, Nat.reduceAdd, Nat.reduceSub, Nat.reduceLT, Nat.reduceLeDiff, Int.reduceLE, Int.reduceLT, Int.reduceToNat, Nat.reduceMul, Int.reduceNeg]
 done
end Go.Proofs.Ytmcjoahnlbckoaa.Sk

/- Contract of the law's own function: the numbers of a book's keys. -/
namespace Go.Proofs.Ytmcjoahnlbckoaa.Sk
open Go Go.E Go.E.Sm
set_option maxRecDepth 10000
end Go.Proofs.Ytmcjoahnlbckoaa.Sk

/- Rings that are right are at least as many as the fewest, as a group's keys, and three if there is a circle. -/
namespace Go.Proofs.Ytmcjoahnlbckoaa.Sk
open Go Go.E
end Go.Proofs.Ytmcjoahnlbckoaa.Sk

/- Walks from key to key by clashes: closed ones of an odd length. -/
namespace Go.Proofs.Ytmcjoahnlbckoaa.Sk
open Go Go.E
def wlk (cl : List (Int × Int)) : Nat -> Int -> Int -> Prop
 | 0, a, b => a = b
 | s + 1, a, b => ∃ y, wlk cl s a y /\ pO y b ∈ cl
/-! The reference's search. -/
/-! Closed walks. -/
end Go.Proofs.Ytmcjoahnlbckoaa.Sk

/- The fullest day is one on which some key is taken out. -/
namespace Go.Proofs.Ytmcjoahnlbckoaa.Sk
open Go Go.E
theorem bestF_best {α : Type} {b : α -> α -> Bool} (htr : ∀ x y z, b y x = false -> b z y = false -> b z x = false) (hrf : ∀ x, b x x = false) (has : ∀ x y, b x y = true -> b y x = false) : ∀ (xs : List α) (o : α), ∀ x ∈ o :: xs, b x (bestF b o xs) = false
 | [], o, x, hx => by
  rw [List.mem_singleton] at hx
  subst hx; exact hrf _
 | y :: xs, o, x, hx => by
  rw [bestF]
  have ih := bestF_best htr hrf has xs (if b y o then y else o)
  have h0 := ih _ (List.mem_cons_self (l := xs))
  have ho : b o (bestF b (if b y o then y else o) xs) = false := by
   refine htr _ _ _ h0 ?_
   cases h : b y o with
   | true => rw [if_pos rfl]; exact has _ _ h
   | false => rw [if_neg (by simp)]; exact hrf _
  have hy : b y (bestF b (if b y o then y else o) xs) = false := by
   refine htr _ _ _ h0 ?_
   cases h : b y o with
   | true => rw [if_pos rfl]; exact hrf _
   | false => rw [if_neg (by simp)]; exact h
  rcases List.mem_cons.1 hx with rfl | hx
  ·exact ho
  ·rcases List.mem_cons.1 hx with rfl | hx
   ·exact hy
   ·exact ih x (by simp [hx])
theorem betB_iff {K : List (Int × Int)} {x y : Int × Int} : betB K x y = false ↔ outC K x.1 < outC K y.1 \/ (outC K x.1 = outC K y.1 /\ y.1 <= x.1) := by
 unfold betB
 rw [Bool.or_eq_false_iff, Bool.and_eq_false_iff, decide_eq_false_iff_not, decide_eq_false_iff_not, decide_eq_false_iff_not]
 omega
theorem dayK_spec {K : List (Int × Int)} (h : K ≠ []) : dayK K ∈ K /\ ∀ x ∈ K, outC K x.1 < outC K (dayK K).1 \/ (outC K x.1 = outC K (dayK K).1 /\ (dayK K).1 <= x.1) := by
 cases K with
 | nil => exact absurd rfl h
 | cons a l =>
  refine ⟨bestF_mem l a, fun x hx => betB_iff.1 (bestF_best ?_ ?_ ?_ l a x hx)⟩
  ·intro x y z h1 h2
   rw [betB_iff] at *
   omega
  ·intro x; rw [betB_iff]; omega
  ·intro x y h1
   rw [betB_iff]
   have : ¬ (betB (a :: l) x y = false) := by rw [h1]; simp
   rw [betB_iff] at this
   omega
theorem key_rng {K Q : List (Int × Int)} (h : ckB K Q = 0) {k : Int × Int} (hk : k ∈ K) : 0 <= k.1 /\ k.1 <= k.2 /\ k.2 <= 1000 := by
 obtain ⟨_, _, _, h1, _⟩ := ckB_zero h
 rw [List.any_eq_false] at h1
 have := h1 k hk
 simp only [oddB, Bool.or_eq_true, decide_eq_true_eq] at this
 omega
end Go.Proofs.Ytmcjoahnlbckoaa.Sk

/- The circle that is found is a shortest one; without circles two rings are enough. -/
namespace Go.Proofs.Ytmcjoahnlbckoaa.Sk
open Go Go.E
/-! Two rings. -/
def conn (cl : List (Int × Int)) (x y : Int) : Prop := ∃ s, wlk cl s x y
noncomputable def repr' (cl : List (Int × Int)) (x : Int) : Int := Classical.epsilon (conn cl x)
end Go.Proofs.Ytmcjoahnlbckoaa.Sk

/- Without quarrels: the fewest rings, the fullest day and the greatest groups. -/
namespace Go.Proofs.Ytmcjoahnlbckoaa.Sk
open Go Go.E
end Go.Proofs.Ytmcjoahnlbckoaa.Sk

/- A book of which all days are stretched, and later. -/
namespace Go.Proofs.Ytmcjoahnlbckoaa.Sk
open Go Go.E
def str (t l : Int) (k : Int × Int) : Int × Int := (k.1 * t + l, k.2 * t + l)
theorem str_le {t l a b : Int} (ht : 0 < t) : a * t + l <= b * t + l ↔ a <= b := by
 constructor
 ·intro h
  exact Int.le_of_mul_le_mul_right (by omega) ht
 ·intro h
  have := Int.mul_le_mul_of_nonneg_right h (Int.le_of_lt ht)
  omega
theorem over_str {t l : Int} (ht : 0 < t) {x y : Int × Int} : over (str t l x) (str t l y) ↔ over x y := by
 unfold over str
 simp only
 rw [str_le ht, str_le ht]
theorem innF_str {t l : Int} (ht : 0 < t) {y : Int × Int} {k : Nat} : ∀ (xs : List (Int × Int)) (i : Nat) (ys : List (Int × Int)), innF (str t l y) k (xs.map (str t l)) i ys = innF y k xs i ys
 | [], _, _ => rfl
 | x :: xs, i, ys => by
  rw [List.map_cons, innF, innF, innF_str ht xs]
  simp only [over_str ht]
theorem outF_str {t l : Int} (ht : 0 < t) {K : List (Int × Int)} : ∀ (rest : List (Int × Int)) (k : Nat) (ys : List (Int × Int)), outF (K.map (str t l)) (rest.map (str t l)) k ys = outF K rest k ys
 | [], _, _ => rfl
 | y :: rest, k, ys => by
  rw [List.map_cons, outF, outF, outF_str ht rest, <- List.map_take, innF_str ht]
theorem clsh_str {t l : Int} (ht : 0 < t) {K Q : List (Int × Int)} : clsh (K.map (str t l)) Q = clsh K Q := by
 unfold clsh
 rw [outF_str ht]
theorem ckB_str {t l : Int} (ht : 0 < t) (ht4 : t <= 4) (hl : 0 <= l /\ l <= 200) {K Q : List (Int × Int)} (h : ckB K Q = 0) (hK : ∀ k ∈ K, k.2 <= 200) : ckB (K.map (str t l)) Q = 0 := by
 have hq := ckB_zero h
 obtain ⟨h1, h2, h3, h4, h5⟩ := hq
 unfold ckB
 rw [List.length_map]
 rw [if_pos (within_of (by simp; omega)), if_neg (by omega), if_neg, h5]
 rw [Bool.not_eq_true, List.any_eq_false]
 intro x hx
 obtain ⟨k, hk, rfl⟩ := List.mem_map.1 hx
 obtain ⟨k1, k2, _⟩ := key_rng h hk
 have k3 := hK k hk
 have e1 := Int.mul_nonneg k1 (Int.le_of_lt ht)
 have e2 := Int.mul_le_mul_of_nonneg_right k2 (Int.le_of_lt ht)
 have e3 := Int.mul_le_mul k3 ht4 (Int.le_of_lt ht) (by omega)
 have ea : (str t l k).1 = k.1 * t + l := rfl
 have eb : (str t l k).2 = k.2 * t + l := rfl
 unfold oddB
 rw [Bool.or_eq_true, Bool.or_eq_true, decide_eq_true_eq, decide_eq_true_eq, decide_eq_true_eq, ea, eb]
 omega
theorem outC_str {t l : Int} (ht : 0 < t) {K : List (Int × Int)} {d : Int} : outC (K.map (str t l)) (d * t + l) = outC K d := by
 unfold outC
 rw [List.countP_map]
 congr 1
 funext k
 have ea : (str t l k).1 = k.1 * t + l := rfl
 have eb : (str t l k).2 = k.2 * t + l := rfl
 rw [Function.comp, Bool.eq_iff_iff]
 unfold outK
 rw [Bool.and_eq_true, Bool.and_eq_true, decide_eq_true_eq, decide_eq_true_eq, decide_eq_true_eq, decide_eq_true_eq, ea, eb, str_le ht, str_le ht]
theorem betB_str {t l : Int} (ht : 0 < t) {K : List (Int × Int)} {x y : Int × Int} : betB (K.map (str t l)) (str t l x) (str t l y) = betB K x y := by
 unfold betB
 have e : ∀ z : Int × Int, (str t l z).1 = z.1 * t + l := fun _ => rfl
 rw [e, e, outC_str ht, outC_str ht]
 congr 2
 rw [decide_eq_decide]
 have := str_le (l := l) (a := y.1) (b := x.1) ht
 omega
theorem bestF_map {α β : Type} {f : α -> β} {b : β -> β -> Bool} {b' : α -> α -> Bool} (h : ∀ x y, b (f x) (f y) = b' x y) : ∀ (xs : List α) (o : α), bestF b (f o) (xs.map f) = f (bestF b' o xs)
 | [], _ => rfl
 | x :: xs, o => by
  rw [List.map_cons, bestF, bestF, h, <- bestF_map h xs]
  split <;> rfl
theorem dayK_str {t l : Int} (ht : 0 < t) {K : List (Int × Int)} (h : K ≠ []) : dayK (K.map (str t l)) = str t l (dayK K) := by
 cases K with
 | nil => exact absurd rfl h
 | cons a K => exact bestF_map (f := str t l) (b' := betB (a :: K)) (fun x y => betB_str ht (K := a :: K)) K a
theorem pairE_str {t l : Int} (ht : 0 < t) {K Q : List (Int × Int)} (h : ckB K Q = 0) (h' : ckB (K.map (str t l)) Q = 0) {one two : Int} : pairE (K.map (str t l)) Q one two = pairE K Q one two := by
 unfold pairE ckP
 rw [clsh_str ht, h, h', List.length_map]
end Go.Proofs.Ytmcjoahnlbckoaa.Sk

/- A row that is frozen from there on, reckoned. -/
namespace Go.Proofs.Ytmcjoahnlbckoaa.Sk
open Go Go.E Go.E.Sm
@[go_sem] theorem awp_zap' {P : Program} {n0 t off : Nat} {a : ACode} {fr : List LV} {H : List ABlock} {Q : AExit -> AState -> Prop} : awp P n0 (.zap t off a) ⟨fr, H⟩ Q = zapK H off (fun H' => awp P n0 a { fr := fr, hp := H' } Q) (fget fr t) := propext Iff.rfl
end Go.Proofs.Ytmcjoahnlbckoaa.Sk
