/- Contracts of functions: what ranks prove, and keeps. -/
import Derived.Test.YtglmjdpmpgphkaaM12

set_option linter.all false

namespace Go.Proofs.Ytglmjdpmpgphkaa.Sk
open Go Go.E Go.E.Sm
set_option maxRecDepth 10000

def hasL (l : List Int) (n : Int) : Bool := l.any fun x => decide (n = x)

theorem hasL_cons (x : Int) (l : List Int) (v : Int) : hasL (x :: l) v = (decide (v = x) || hasL l v) := rfl

theorem k88 {xs : List Int} {v : Int} : E.Fn Try.prog 88 [ints xs, .int .i64 v] [.int .i64 (idx (fun x => decide (v = x)) xs 0)] := by
  refine fn_of_row okf88 ?_
  simp only [FRow.start, f88, c88r0, c88r1, ints, go_sem, ↓reduceIte, reduceCtorEq, Nat.reduceAdd, Nat.reduceSub, Nat.reduceLT, Nat.reduceLeDiff]
  intro hlen
  have hlen' : (xs.length : Int) ≤ 2 ^ 63 - 1 := Int.le_trans (Int.ofNat_le.mpr hlen) maxLen_le
  generalize hp : (fun x => decide (v = x)) = p
  have hp' : ∀ x, p x = decide (v = x) := fun x => by rw [← hp]
  refine loop_rule (fun n τ => ∃ i : Nat, n = xs.length - i ∧ i ≤ xs.length ∧ idx p xs 0 = idx p (xs.drop i) i ∧
    τ = ⟨[.s (.slice (xs.map (.int .i64))), .s (.int .i64 v), .any, .any, .any, .any, .any, .s (.int .i64 xs.length), .s (.int .i64 i), .any, .any, .any, .any, .any, .any, .any, .any, .any, .any], []⟩) xs.length rfl ?_ ?_
  · simp only [c88l7m, go_sem, ↓reduceIte, reduceCtorEq, Nat.reduceAdd, Nat.reduceSub, Nat.reduceLT, Nat.reduceLeDiff]
    exact ⟨0, rfl, Nat.zero_le _, rfl, rfl⟩
  · rintro I n τ ⟨i, rfl, hi, hidx, rfl⟩ hI
    simp only [c88l7, c88r2, c88r3, go_sem, ↓reduceIte, reduceCtorEq, Nat.reduceAdd, Nat.reduceSub, Nat.reduceLT, Nat.reduceLeDiff]
    refine ⟨fun hlt => ?_, fun hge => ?_⟩
    · have hx : xs[i]? = some xs[i] := List.getElem?_eq_getElem hlt
      have hdrop : xs.drop i = xs[i] :: xs.drop (i + 1) := List.drop_eq_getElem_cons hlt
      rw [hdrop, idx, hp'] at hidx
      generalize xs[i] = x at *
      simp only [c88r4, hx, hlt, go_sem, ↓reduceIte, reduceCtorEq, Nat.reduceAdd, Nat.reduceSub, Nat.reduceLT, Nat.reduceLeDiff]
      refine ⟨fun he => ?_, fun he => ?_⟩
      · rw [if_pos (by simpa using he)] at hidx
        simp only [c88r5, hidx, go_sem, ↓reduceIte, reduceCtorEq, Nat.reduceAdd, Nat.reduceSub, Nat.reduceLT, Nat.reduceLeDiff]
      · rw [if_neg (by simpa using he)] at hidx
        simp only [c88r6, c88l7m, go_sem, ↓reduceIte, reduceCtorEq, Nat.reduceAdd, Nat.reduceSub, Nat.reduceLT, Nat.reduceLeDiff]
        exact ⟨inR_i64 (by omega) (by omega), hI (xs.length - (i + 1)) _ (by omega) ⟨i + 1, rfl, by omega, by rw [hidx]; simp, by simp⟩⟩
    · have hie : i = xs.length := by omega
      subst hie
      simp only [List.drop_length, idx] at hidx
      simp only [c88r8, hidx, go_sem, ↓reduceIte, reduceCtorEq, Nat.reduceAdd, Nat.reduceSub, Nat.reduceLT, Nat.reduceLeDiff]

theorem k69 {xs : List Int} {v : Int} : E.Fn Try.prog 69 [ints xs, .int .i64 v] [.bool (hasL xs v)] := by
  refine fn_of_row okf69 ?_
  simp only [FRow.start, f69, c69r0, c69r1, go_sem, ↓reduceIte, reduceCtorEq, Nat.reduceAdd, Nat.reduceSub, Nat.reduceLT, Nat.reduceLeDiff]
  refine callK_of rfl k88 (.inl rfl) ?_
  simp only [go_sem, ↓reduceIte, reduceCtorEq, Nat.reduceAdd, Nat.reduceSub, Nat.reduceLT, Nat.reduceLeDiff]
  have := idx_ge (fun x => decide (v = x)) xs 0
  unfold hasL
  cases h : xs.any (fun x => decide (v = x)) <;> simp_all

theorem k49 {xs : List Int} {v : Int} : E.Fn Try.prog 49 [ints xs, .int .i64 v] [.bool (hasL xs v)] := by
  refine fn_of_row okf49 ?_
  simp only [FRow.start, f49, c49r0, c49r1, ints, go_sem, ↓reduceIte, reduceCtorEq, Nat.reduceAdd, Nat.reduceSub, Nat.reduceLT, Nat.reduceLeDiff]
  refine loop_rule (fun n τ => ∃ i : Nat, n = xs.length - i ∧ i ≤ xs.length ∧ hasL xs v = hasL (xs.drop i) v ∧
    τ = ⟨[.s (.slice (xs.map (.int .i64))), .s (.int .i64 v), .any, .any, .any, .s (.int .i64 i), .any, .any, .any, .any, .any, .any, .any, .any, .any, .any, .any, .any], []⟩) xs.length rfl ?_ ?_
  · simp only [c49l6m, go_sem, ↓reduceIte, reduceCtorEq, Nat.reduceAdd, Nat.reduceSub, Nat.reduceLT, Nat.reduceLeDiff]
    exact ⟨0, rfl, Nat.zero_le _, rfl, rfl⟩
  · rintro I n τ ⟨i, rfl, hi, hr, rfl⟩ hI
    simp only [c49l6, c49r2, go_sem, ↓reduceIte, reduceCtorEq, Nat.reduceAdd, Nat.reduceSub, Nat.reduceLT, Nat.reduceLeDiff]
    intro hlen
    have hlen' : (xs.length : Int) ≤ 2 ^ 63 - 1 := Int.le_trans (Int.ofNat_le.mpr hlen) maxLen_le
    refine ⟨fun hlt => ?_, fun hge => ?_⟩
    · have hx : xs[i]? = some xs[i] := List.getElem?_eq_getElem hlt
      have hdrop : xs.drop i = xs[i] :: xs.drop (i + 1) := List.drop_eq_getElem_cons hlt
      rw [hdrop, hasL_cons] at hr
      generalize xs[i] = x at *
      simp only [c49r3, hx, hlt, go_sem, ↓reduceIte, reduceCtorEq, Nat.reduceAdd, Nat.reduceSub, Nat.reduceLT, Nat.reduceLeDiff]
      refine ⟨fun he => ?_, fun he => ?_⟩
      · have : hasL xs v = true := by rw [hr]; simp [he]
        simp only [c49r4, this, go_sem, ↓reduceIte, reduceCtorEq, Nat.reduceAdd, Nat.reduceSub, Nat.reduceLT, Nat.reduceLeDiff]
      · have hne : decide (v = x) = false := by simpa using fun h => he (Eq.symm h)
        have : hasL xs v = hasL (xs.drop (i + 1)) v := by rw [hr, hne, Bool.false_or]
        simp only [c49r5, c49l6m, go_sem, ↓reduceIte, reduceCtorEq, Nat.reduceAdd, Nat.reduceSub, Nat.reduceLT, Nat.reduceLeDiff]
        exact ⟨inR_i64 (by omega) (by omega), hI (xs.length - (i + 1)) _ (by omega) ⟨i + 1, rfl, by omega, this, by simp⟩⟩
    · have hie : i = xs.length := by omega
      subst hie
      simp only [List.drop_length, hasL, List.any_nil] at hr
      have : hasL xs v = false := hr
      simp only [c49r7, this, go_sem, ↓reduceIte, reduceCtorEq, Nat.reduceAdd, Nat.reduceSub, Nat.reduceLT, Nat.reduceLeDiff]

theorem k68 {keep : List Int} {k : Int} : Asks 68 [] [.ptr [ints keep]] (.int .i64 k) (!hasL keep k) := by
  refine fn_of_row okf68 ?_
  simp only [FRow.start, f68, c68r0, c68r1, ints, go_sem, ↓reduceIte, reduceCtorEq, Nat.reduceAdd, Nat.reduceSub, Nat.reduceLT, Nat.reduceLeDiff]
  refine callK_of rfl (k69 (xs := keep)) (.inl rfl) ?_
  simp only [go_sem, ↓reduceIte, reduceCtorEq, Nat.reduceAdd, Nat.reduceSub, Nat.reduceLT, Nat.reduceLeDiff]

def lessB (R : List Int) (rank to : Int) : Bool := decide (0 ≤ getI R to) && decide (getI R to < rank)

theorem k65 {R : List Int} {rank to : Int} (h0 : 0 ≤ to) (h1 : to < R.length) (h2 : -1 ≤ rank) (h3 : rank ≤ 2 ^ 62) : Asks 65 [] [.ptr [.int .i64 rank], .ptr [ints R]] (.int .i64 to) (lessB R rank to) := by
  refine fn_of_row okf65 ?_
  have hx := getI_get (W := R) h0 h1
  have hl : to.toNat < R.length := by omega
  simp only [FRow.start, f65, c65r0, c65r1, ints, hx, hl, go_sem, ↓reduceIte, reduceCtorEq, Nat.reduceAdd, Nat.reduceSub, Nat.reduceLT, Nat.reduceLeDiff]
  refine ⟨inR_i64 (by omega) (by omega), h0, by decide, by decide, rfl, by simp [SV.cells], callK_of rfl (k60 (l := [getI R to])) (.inl rfl) ?_⟩
  simp only [inAll, lessB, go_sem, ↓reduceIte, reduceCtorEq, Nat.reduceAdd, Nat.reduceSub, Nat.reduceLT, Nat.reduceLeDiff]
  by_cases h : getI R to < rank
  · have : getI R to ≤ rank - 1 := by omega
    simp [h, this]
  · have : ¬ getI R to ≤ rank - 1 := by omega
    simp [h, this]

theorem k67 {R : List Int} {rank to : Int} (h0 : 0 ≤ to) (h1 : to < R.length) : E.Fn Try.prog 67 [ints R, .int .i64 to, .int .i64 rank] [.bool (lessB R rank to)] := by
  refine fn_of_row okf67 ?_
  have hx := getI_get (W := R) h0 h1
  have hl : to.toNat < R.length := by omega
  simp only [FRow.start, f67, c67r0, c67r1, ints, hx, hl, lessB, go_sem, ↓reduceIte, reduceCtorEq, Nat.reduceAdd, Nat.reduceSub, Nat.reduceLT, Nat.reduceLeDiff]
  refine ⟨h0, fun h => ?_, fun h => ?_⟩
  · refine ⟨h0, ?_⟩
    simp [h]
  · simp [h]

/-- What is found wrong with ranks at a position. -/
def rankOk (pl : List Bool) (mv : List (List Int)) (wn : List Bool) (R : List Int) (i : Nat) : Bool :=
  (decide (getI R i = 0) == wn.getD i false) && (decide (getI R i ≤ 0) || wins1 (pl.getD i false) (mv.getD i []) (lessB R (getI R i)))
def outP (q : Int → Bool) (i : Nat) : List Int := ((List.range i).map fun j : Nat => (j : Int)).filter q
def ranksR (pl : List Bool) (mv : List (List Int)) (wn : List Bool) (R : List Int) : List SV :=
  if chkM pl mv wn ≠ 0 then [.slice [], .int .i64 (chkM pl mv wn)]
  else if R.length ≠ mv.length then [.slice [], .int .i64 15]
  else if inAll (-1) 14 R = false then [.slice [], .int .i64 3]
  else if (List.range mv.length).all (rankOk pl mv wn R) = true then [ints (outP (fun i => decide (0 ≤ getI R i)) mv.length), .int .i64 0] else [.slice [], .int .i64 14]

theorem outP_succ (q : Int → Bool) (i : Nat) : outP q (i + 1) = if q i = true then outP q i ++ [(i : Int)] else outP q i := by
  unfold outP
  rw [List.range_succ, List.map_append, List.filter_append]
  simp only [List.map_cons, List.map_nil, List.filter_cons, List.filter_nil]
  split <;> simp
theorem outP_len (q : Int → Bool) (i : Nat) : (outP q i).length ≤ i := by
  unfold outP
  refine Nat.le_trans (List.length_filter_le _ _) (by simp)

theorem one1 {x : Int} : ∀ e ∈ [SV.int .i64 x], e.cells.length = 1 := by simp [SV.cells]
theorem app_map {O : List Int} {x : Int} : O.map (SV.int .i64) ++ flatE [SV.int .i64 x] = (O ++ [x]).map (SV.int .i64) := by simp [flatE, SV.cells]

theorem k23 {pl wn : List Bool} {mv : List (List Int)} {R : List Int} : E.Fn Try.prog 23 [mach pl mv wn, ints R] (ranksR pl mv wn R) := by
  refine fn_of_row okf23 ?_
  unfold ranksR
  by_cases h : chkM pl mv wn = 0
  · have hv := valid_of h
    have h1 := hv.few
    have h2 := hv.pos
    rw [if_neg (by simpa using h)]
    simp only [FRow.start, f23, c23r0, c23r1, mach, bools, h, ints, go_sem, ↓reduceIte, reduceCtorEq, Nat.reduceAdd, Nat.reduceSub, Nat.reduceLT, Nat.reduceLeDiff]
    refine callK_of rfl (k58 (ps := []) hv rfl) (.inr rfl) ?_
    simp only [c23r2, boardV, c23r4, Int.natCast_inj, go_sem, ↓reduceIte, reduceCtorEq, Nat.reduceAdd, Nat.reduceSub, Nat.reduceLT, Nat.reduceLeDiff]
    intro _
    refine ⟨fun hl => ?_, fun hl => ?_⟩
    · rw [if_neg (by simpa using hl)]
      simp only [c23r6, go_sem, ↓reduceIte, reduceCtorEq, Nat.reduceAdd, Nat.reduceSub, Nat.reduceLT, Nat.reduceLeDiff]
      refine callK_of rfl (k60 (l := R)) (.inl rfl) ?_
      cases hin : inAll (-1) 14 R with
      | false =>
        simp only [c23r7, go_sem, ↓reduceIte, reduceCtorEq, Nat.reduceAdd, Nat.reduceSub, Nat.reduceLT, Nat.reduceLeDiff]
      | true =>
        rw [if_neg (by simp)]
        generalize hq : (fun i => decide (0 ≤ getI R i)) = q
        have hq' : ∀ x, q x = decide (0 ≤ getI R x) := fun x => by rw [← hq]
        simp only [c23r8, c23r9, go_sem, ↓reduceIte, reduceCtorEq, Nat.reduceAdd, Nat.reduceSub, Nat.reduceLT, Nat.reduceLeDiff]
        intro _
        refine loop_rule (fun n τ => ∃ i : Nat, n = mv.length - i ∧ i ≤ mv.length ∧ (List.range i).all (rankOk pl mv wn R) = true ∧
          τ = ⟨[.any, .any, .s (.ptr [.slice (pl.map .bool), .slice (mv.map ints), .slice (wn.map .bool)]), .s (.ptr [.slice (R.map (.int .i64))]), .any, .any, .s (.ptr (bools pl :: .slice (mv.map ints) :: bools wn :: (pad (distW pl mv wn)).map (.int .i64))), .any, .sl 0 0 (outP q i).length 1 false, .any, .any, .any, .any, .any, .any, .any, .any, .any, .any, .any, .any, .any, .any, .any, .any, .any, .any, .any, .any, .any, .any, .any, .s (.slice (R.map (.int .i64))), .s (.int .i64 R.length), .s (.int .i64 i), .any, .any, .any, .any, .any, .any, .any, .any, .any, .any, .any, .any, .any, .any, .any, .any, .any, .any, .any, .any, .any, .any, .any, .any, .any, .any, .any, .any, .any, .any, .any, .any, .any, .any, .any, .any, .any, .any], [.row ((outP q i).map (SV.int .i64))]⟩) mv.length (promo_one rfl) ?_ ?_
        · simp only [c23l20m, go_sem, ↓reduceIte, reduceCtorEq, Nat.reduceAdd, Nat.reduceSub, Nat.reduceLT, Nat.reduceLeDiff]
          exact ⟨0, rfl, Nat.zero_le _, rfl, by simp [outP]⟩
        · rintro I n τ ⟨i, rfl, hi, hall, rfl⟩ hI
          simp only [c23l20, c23r10, go_sem, ↓reduceIte, reduceCtorEq, Nat.reduceAdd, Nat.reduceSub, Nat.reduceLT, Nat.reduceLeDiff]
          refine ⟨fun hlt => ?_, fun hge => ?_⟩
          · have hlt' : i < mv.length := by omega
            have hx : R[i]? = some (getI R i) := by have := getI_get (W := R) (x := i) (by omega) (by omega); rwa [Int.toNat_natCast] at this
            have hw : wn[i]? = some (wn.getD i false) := by have := hv.wn; rw [List.getD_eq_getElem?_getD, List.getElem?_eq_getElem (by omega), Option.getD_some]
            have hi2 : i < wn.length := by have := hv.wn; omega
            have hrk : rankOk pl mv wn R i = ((decide (getI R i = 0) == wn.getD i false) && (decide (getI R i ≤ 0) || wins1 (pl.getD i false) (mv.getD i []) (lessB R (getI R i)))) := rfl
            generalize wn.getD i false = b at *
            have hos := outP_succ q i
            have hol := outP_len q i
            rw [hq'] at hos
            generalize hO : outP q i = O at *
            have hr15 := List.all_eq_true.1 hin (getI R i) (List.mem_of_getElem? hx)
            simp only [Bool.and_eq_true, decide_eq_true_eq] at hr15
            have hall' : rankOk pl mv wn R i = true → (List.range (i + 1)).all (rankOk pl mv wn R) = true := fun h => by rw [List.range_succ, List.all_append, hall]; simp [h]
            have hbad : rankOk pl mv wn R i = false → (List.range mv.length).all (rankOk pl mv wn R) = false := fun h => by
              rw [Bool.eq_false_iff]
              intro h3
              rw [List.all_eq_true] at h3
              have := h3 i (by simpa using hlt')
              rw [h] at this; cases this
            simp only [c23r11, hx, splice, c23r12, c23r13, hw, hi2, go_sem, ↓reduceIte, reduceCtorEq, Nat.reduceAdd, Nat.reduceSub, Nat.reduceLT, Nat.reduceLeDiff]
            refine ⟨fun he => ?_, fun he => ?_⟩
            · have he' : decide (getI R i = 0) = b := by simpa using he
              rw [← he', beq_self_eq_true, Bool.true_and] at hrk
              simp only [c23r15, go_sem, ↓reduceIte, reduceCtorEq, Nat.reduceAdd, Nat.reduceSub, Nat.reduceLT, Nat.reduceLeDiff]
              refine ⟨fun hpos => ?_, fun hpos => ?_⟩
              · have hle : decide (getI R i ≤ 0) = false := by simp; omega
                rw [hle, Bool.false_or] at hrk
                refine callK_of (by simp only [ints, go_sem, ↓reduceIte, reduceCtorEq, Nat.reduceAdd, Nat.reduceSub, Nat.reduceLT, Nat.reduceLeDiff]) (k66 (g := 65) (first := []) (caps := [.ptr [.int .i64 (getI R i)], .ptr [ints R]]) (p := lessB R (getI R i)) (pl := pl) (mv := mv) (i := i) (rest := bools wn :: (pad (distW pl mv wn)).map (SV.int .i64)) ⟨tbl_fn 65 rfl, rfl⟩ hlt' hv.pl fun x hx2 => ?_) (.inl rfl) ?_
                · have hins := hv.ins _ (List.mem_of_getElem? (show mv[i]? = some (mv.getD i []) by rw [List.getD_eq_getElem?_getD, List.getElem?_eq_getElem hlt', Option.getD_some])) x hx2
                  exact k65 hins.1 (by omega) (by omega) (by omega)
                · cases hw1 : wins1 (pl.getD i false) (mv.getD i []) (lessB R (getI R i)) with
                  | false =>
                    have := hbad (by rw [hrk, hw1])
                    simp only [c23r16, this, Bool.false_eq_true, go_sem, ↓reduceIte, reduceCtorEq, Nat.reduceAdd, Nat.reduceSub, Nat.reduceLT, Nat.reduceLeDiff]
                  | true =>
                    rw [if_pos (by simp; omega)] at hos
                    have hge : decide (0 ≤ getI R i) = true := by simp; omega
                    simp only [c23r17, hge, c23r18, go_sem, ↓reduceIte, reduceCtorEq, Nat.reduceAdd, Nat.reduceSub, Nat.reduceLT, Nat.reduceLeDiff]
                    refine ⟨by omega, by decide, by decide, rfl, one1, one1, by omega, by omega, by omega, fun _ => ?_⟩
                    rw [Nat.zero_mul, List.drop_zero, app_map]
                    simp only [c23r19, c23l20m, go_sem, ↓reduceIte, reduceCtorEq, Nat.reduceAdd, Nat.reduceSub, Nat.reduceLT, Nat.reduceLeDiff]
                    exact ⟨inR_i64 (by omega) (by omega), hI (mv.length - (i + 1)) _ (by omega) ⟨i + 1, rfl, by omega, hall' (by rw [hrk, hw1]), by rw [hos]; simp⟩⟩
              · have hle : decide (getI R i ≤ 0) = true := by simp; omega
                rw [hle, Bool.true_or] at hrk
                simp only [c23r17, go_sem, ↓reduceIte, reduceCtorEq, Nat.reduceAdd, Nat.reduceSub, Nat.reduceLT, Nat.reduceLeDiff]
                refine ⟨fun hge => ?_, fun hge => ?_⟩
                · rw [if_pos (by simpa using hge)] at hos
                  simp only [c23r18, go_sem, ↓reduceIte, reduceCtorEq, Nat.reduceAdd, Nat.reduceSub, Nat.reduceLT, Nat.reduceLeDiff]
                  refine ⟨by omega, by decide, by decide, rfl, one1, one1, by omega, by omega, by omega, fun _ => ?_⟩
                  rw [Nat.zero_mul, List.drop_zero, app_map]
                  simp only [c23r19, c23l20m, go_sem, ↓reduceIte, reduceCtorEq, Nat.reduceAdd, Nat.reduceSub, Nat.reduceLT, Nat.reduceLeDiff]
                  exact ⟨inR_i64 (by omega) (by omega), hI (mv.length - (i + 1)) _ (by omega) ⟨i + 1, rfl, by omega, hall' hrk, by rw [hos]; simp⟩⟩
                · rw [if_neg (by simpa using hge)] at hos
                  simp only [c23r19, c23l20m, go_sem, ↓reduceIte, reduceCtorEq, Nat.reduceAdd, Nat.reduceSub, Nat.reduceLT, Nat.reduceLeDiff]
                  exact ⟨inR_i64 (by omega) (by omega), hI (mv.length - (i + 1)) _ (by omega) ⟨i + 1, rfl, by omega, hall' hrk, by rw [hos]; simp⟩⟩
            · have he' : (decide (getI R i = 0) == b) = false := by
                rw [beq_eq_false_iff_ne]
                intro h
                exact he (by rw [h])
              have := hbad (by rw [hrk, he', Bool.false_and])
              simp only [c23r14, this, Bool.false_eq_true, go_sem, ↓reduceIte, reduceCtorEq, Nat.reduceAdd, Nat.reduceSub, Nat.reduceLT, Nat.reduceLeDiff]
          · have hie : i = mv.length := by omega
            subst hie
            rw [if_pos hall]
            have hso : sliceOf 0 (outP q mv.length).length 1 ((outP q mv.length).map (SV.int .i64)) = some (.slice ((outP q mv.length).map (SV.int .i64))) := sliceOf_all (by simp)
            simp only [c23r21, hso, go_sem, ↓reduceIte, reduceCtorEq, Nat.reduceAdd, Nat.reduceSub, Nat.reduceLT, Nat.reduceLeDiff]
    · simp only [c23r5, hl, ne_eq, not_false_eq_true, go_sem, ↓reduceIte, reduceCtorEq, Nat.reduceAdd, Nat.reduceSub, Nat.reduceLT, Nat.reduceLeDiff]
  · rw [if_pos h]
    simp only [FRow.start, f23, c23r0, c23r1, mach, bools, h, ints, go_sem, ↓reduceIte, reduceCtorEq, Nat.reduceAdd, Nat.reduceSub, Nat.reduceLT, Nat.reduceLeDiff]
    refine callK_of rfl (k58e (ps := []) h) (.inl rfl) ?_
    simp only [c23r2, h, c23r3, go_sem, ↓reduceIte, reduceCtorEq, Nat.reduceAdd, Nat.reduceSub, Nat.reduceLT, Nat.reduceLeDiff]
end Go.Proofs.Ytglmjdpmpgphkaa.Sk

/- Contracts of functions: ways of playing. -/
namespace Go.Proofs.Ytglmjdpmpgphkaa.Sk
open Go Go.E Go.E.Sm
set_option maxRecDepth 10000

def wayOk (pl : List Bool) (mv : List (List Int)) (wn : List Bool) (p : Bool) (Y : List Int) (i : Nat) : Bool :=
  decide (getI Y i = -1) || (!wn.getD i false && (pl.getD i false == p) && hasL (mv.getD i []) (getI Y i))
def wayR (pl : List Bool) (mv : List (List Int)) (wn : List Bool) (p : Bool) (Y : List Int) : Int :=
  if chkM pl mv wn ≠ 0 then chkM pl mv wn else if Y.length ≠ mv.length then 15 else if (List.range mv.length).all (wayOk pl mv wn p Y) = true then 0 else 16

theorem all_succ {q : Nat → Bool} {i : Nat} (h : (List.range i).all q = true) (h2 : q i = true) : (List.range (i + 1)).all q = true := by
  rw [List.range_succ, List.all_append, h]; simp [h2]
theorem all_not {q : Nat → Bool} {i n : Nat} (h : i < n) (h2 : q i = false) : (List.range n).all q = false := by
  rw [Bool.eq_false_iff]
  intro h3
  rw [List.all_eq_true] at h3
  have := h3 i (by simpa using h)
  rw [h2] at this; cases this

/-- What is known of a position of a valid machine. -/
structure At (pl : List Bool) (mv : List (List Int)) (wn : List Bool) (i : Nat) : Prop where
  hm : mv[i]? = some (mv.getD i [])
  hp : pl[i]? = some (pl.getD i false)
  hw : wn[i]? = some (wn.getD i false)
  m2 : i < mv.length
  p2 : i < pl.length
  w2 : i < wn.length
  ins : inside mv.length (mv.getD i [])
theorem Valid.at' {pl wn : List Bool} {mv : List (List Int)} (hv : Valid pl mv wn) {i : Nat} (hi : i < mv.length) : At pl mv wn i := by
  have hp := hv.pl
  have hw := hv.wn
  have e : mv[i]? = some (mv.getD i []) := by rw [List.getD_eq_getElem?_getD, List.getElem?_eq_getElem hi, Option.getD_some]
  exact ⟨e, by rw [List.getD_eq_getElem?_getD, List.getElem?_eq_getElem (by omega), Option.getD_some], by rw [List.getD_eq_getElem?_getD, List.getElem?_eq_getElem (by omega), Option.getD_some], hi, by omega, by omega, hv.ins _ (List.mem_of_getElem? e)⟩
theorem getI_nat {W : List Int} {i : Nat} (h : i < W.length) : W[i]? = some (getI W i) := by
  have := getI_get (W := W) (x := i) (by omega) (by omega)
  rwa [Int.toNat_natCast] at this

theorem k33 {pl wn : List Bool} {mv : List (List Int)} {p : Bool} {Y : List Int} : E.Fn Try.prog 33 [mach pl mv wn, .bool p, ints Y] [.int .i64 (wayR pl mv wn p Y)] := by
  refine fn_of_row okf33 ?_
  unfold wayR
  simp only [FRow.start, f33, c33r0, c33r1, mach, bools, ints, go_sem, ↓reduceIte, reduceCtorEq, Nat.reduceAdd, Nat.reduceSub, Nat.reduceLT, Nat.reduceLeDiff]
  refine callK_of rfl (k20 (pl := pl) (mv := mv) (wn := wn)) (.inl rfl) ?_
  by_cases h : chkM pl mv wn = 0
  · have hv := valid_of h
    have h1 := hv.few
    rw [if_neg (by simpa using h)]
    simp only [h, c33r2, c33r4, Int.natCast_inj, go_sem, ↓reduceIte, reduceCtorEq, Nat.reduceAdd, Nat.reduceSub, Nat.reduceLT, Nat.reduceLeDiff]
    intro _
    refine ⟨fun hl => ?_, fun hl => ?_⟩
    · rw [if_neg (by simpa using hl)]
      simp only [c33r6, go_sem, ↓reduceIte, reduceCtorEq, Nat.reduceAdd, Nat.reduceSub, Nat.reduceLT, Nat.reduceLeDiff]
      intro _
      refine loop_rule (fun n τ => ∃ i : Nat, n = mv.length - i ∧ i ≤ mv.length ∧ (List.range i).all (wayOk pl mv wn p Y) = true ∧
        τ = ⟨[.any, .s (.bool p), .any, .s (.ptr [.slice (pl.map .bool), .slice (mv.map ints), .slice (wn.map .bool)]), .any, .any, .any, .any, .any, .any, .any, .any, .any, .any, .any, .any, .any, .any, .any, .any, .any, .any, .any, .s (.slice (Y.map (.int .i64))), .s (.int .i64 Y.length), .s (.int .i64 i), .any, .any, .any, .any, .any, .any, .any, .any, .any, .any, .any, .any, .any, .any, .any, .any, .any, .any, .any, .any, .any, .any, .any, .any, .any, .any, .any, .any, .any, .any, .any, .any, .any], []⟩) mv.length rfl ?_ ?_
      · simp only [c33l12m, go_sem, ↓reduceIte, reduceCtorEq, Nat.reduceAdd, Nat.reduceSub, Nat.reduceLT, Nat.reduceLeDiff]
        exact ⟨0, rfl, Nat.zero_le _, rfl, rfl⟩
      · rintro I n τ ⟨i, rfl, hi, hall, rfl⟩ hI
        simp only [c33l12, c33r7, go_sem, ↓reduceIte, reduceCtorEq, Nat.reduceAdd, Nat.reduceSub, Nat.reduceLT, Nat.reduceLeDiff]
        refine ⟨fun hlt => ?_, fun hge => ?_⟩
        · have hlt' : i < mv.length := by omega
          obtain ⟨hm, hp, hw, hm2, hp2, hw2, hins⟩ := hv.at' hlt'
          have hx := getI_nat (W := Y) (i := i) (by omega)
          have hok : wayOk pl mv wn p Y i = (decide (getI Y i = -1) || (!wn.getD i false && (pl.getD i false == p) && hasL (mv.getD i []) (getI Y i))) := rfl
          have good : wayOk pl mv wn p Y i = true → I ⟨[.any, .s (.bool p), .any, .s (.ptr [.slice (pl.map .bool), .slice (mv.map ints), .slice (wn.map .bool)]), .any, .any, .any, .any, .any, .any, .any, .any, .any, .any, .any, .any, .any, .any, .any, .any, .any, .any, .any, .s (.slice (Y.map (.int .i64))), .s (.int .i64 Y.length), .s (.int .i64 (i + 1)), .any, .any, .any, .any, .any, .any, .any, .any, .any, .any, .any, .any, .any, .any, .any, .any, .any, .any, .any, .any, .any, .any, .any, .any, .any, .any, .any, .any, .any, .any, .any, .any, .any], []⟩ := fun hk =>
            hI (mv.length - (i + 1)) _ (by omega) ⟨i + 1, rfl, by omega, all_succ hall hk, by simp⟩
          have bad : wayOk pl mv wn p Y i = false → (List.range mv.length).all (wayOk pl mv wn p Y) = false := fun hk => all_not hlt' hk
          generalize mv.getD i [] = l at *
          generalize pl.getD i false = b at *
          generalize wn.getD i false = w at *
          generalize getI Y i = y at *
          cases w with
          | true =>
            simp only [c33r8, hx, c33r9, hm, hp, hw, hm2, hp2, hw2, ints, go_sem, ↓reduceIte, reduceCtorEq, Nat.reduceAdd, Nat.reduceSub, Nat.reduceLT, Nat.reduceLeDiff]
            refine ⟨fun hy => ?_, fun hy => ?_⟩
            · simp only [c33r11, c33l12m, go_sem, ↓reduceIte, reduceCtorEq, Nat.reduceAdd, Nat.reduceSub, Nat.reduceLT, Nat.reduceLeDiff]
              exact ⟨inR_i64 (by omega) (by omega), good (by rw [hok]; simp [hy])⟩
            · simp only [c33r10, bad (by rw [hok]; simp [hy]), Bool.false_eq_true, go_sem, ↓reduceIte, reduceCtorEq, Nat.reduceAdd, Nat.reduceSub, Nat.reduceLT, Nat.reduceLeDiff]
          | false =>
            simp only [c33r8, hx, c33r9, hm, hp, hw, hm2, hp2, hw2, ints, go_sem, ↓reduceIte, reduceCtorEq, Nat.reduceAdd, Nat.reduceSub, Nat.reduceLT, Nat.reduceLeDiff]
            refine ⟨fun hy => ?_, fun hy => ⟨fun hbp => ?_, fun hbp => ?_⟩⟩
            · simp only [c33r11, c33l12m, go_sem, ↓reduceIte, reduceCtorEq, Nat.reduceAdd, Nat.reduceSub, Nat.reduceLT, Nat.reduceLeDiff]
              exact ⟨inR_i64 (by omega) (by omega), good (by rw [hok]; simp [hy])⟩
            · have hbp' : b = p := by simpa using hbp
              refine callK_of rfl (k69 (xs := l) (v := y)) (.inl rfl) ?_
              cases hk : hasL l y with
              | true =>
                simp only [c33r11, c33l12m, go_sem, ↓reduceIte, reduceCtorEq, Nat.reduceAdd, Nat.reduceSub, Nat.reduceLT, Nat.reduceLeDiff]
                exact ⟨inR_i64 (by omega) (by omega), good (by rw [hok, hk]; simp [hbp'])⟩
              | false =>
                simp only [c33r10, bad (by rw [hok, hk]; simp [hy]), Bool.false_eq_true, go_sem, ↓reduceIte, reduceCtorEq, Nat.reduceAdd, Nat.reduceSub, Nat.reduceLT, Nat.reduceLeDiff]
            · have hbp' : b ≠ p := fun h => hbp (by rw [h])
              have : (b == p) = false := by simpa using hbp'
              simp only [c33r10, bad (by rw [hok, this]; simp [hy]), Bool.false_eq_true, go_sem, ↓reduceIte, reduceCtorEq, Nat.reduceAdd, Nat.reduceSub, Nat.reduceLT, Nat.reduceLeDiff]
        · have hie : i = mv.length := by omega
          subst hie
          rw [if_pos hall]
          simp only [c33r13, go_sem, ↓reduceIte, reduceCtorEq, Nat.reduceAdd, Nat.reduceSub, Nat.reduceLT, Nat.reduceLeDiff]
    · simp only [c33r5, hl, ne_eq, not_false_eq_true, go_sem, ↓reduceIte, reduceCtorEq, Nat.reduceAdd, Nat.reduceSub, Nat.reduceLT, Nat.reduceLeDiff]
  · rw [if_pos h]
    simp only [h, c33r2, c33r3, go_sem, ↓reduceIte, reduceCtorEq, Nat.reduceAdd, Nat.reduceSub, Nat.reduceLT, Nat.reduceLeDiff]

theorem k34 {pl wn : List Bool} {mv : List (List Int)} {p : Bool} {Y : List Int} : E.Fn Try.prog 34 [mach pl mv wn, .bool p, ints Y] [.int .i64 (wayR pl mv wn p Y)] := by
  refine fn_of_row okf34 ?_
  unfold wayR
  simp only [FRow.start, f34, c34r0, c34r1, mach, bools, ints, go_sem, ↓reduceIte, reduceCtorEq, Nat.reduceAdd, Nat.reduceSub, Nat.reduceLT, Nat.reduceLeDiff]
  refine callK_of rfl (k21 (pl := pl) (mv := mv) (wn := wn)) (.inl rfl) ?_
  by_cases h : chkM pl mv wn = 0
  · have hv := valid_of h
    have h1 := hv.few
    rw [if_neg (by simpa using h)]
    simp only [h, c34r3, Int.natCast_inj, go_sem, ↓reduceIte, reduceCtorEq, Nat.reduceAdd, Nat.reduceSub, Nat.reduceLT, Nat.reduceLeDiff]
    intro _
    refine ⟨fun hl => ?_, fun hl => ?_⟩
    · rw [if_neg (by simpa using hl)]
      simp only [c34r5, go_sem, ↓reduceIte, reduceCtorEq, Nat.reduceAdd, Nat.reduceSub, Nat.reduceLT, Nat.reduceLeDiff]
      refine loop_rule (fun n τ => ∃ i : Nat, n = mv.length - i ∧ i ≤ mv.length ∧ (List.range i).all (wayOk pl mv wn p Y) = true ∧
        τ = ⟨[.any, .s (.bool p), .s (.slice (Y.map (.int .i64))), .s (.ptr [.slice (pl.map .bool), .slice (mv.map ints), .slice (wn.map .bool)]), .any, .any, .any, .s (.int .i64 i), .any, .any, .any, .any, .any, .any, .any, .any, .any, .any, .any, .any, .any, .any, .any, .any, .any, .any, .any, .any, .any, .any, .any, .any, .any, .any, .any, .any, .any, .any, .any, .any, .any, .any, .any, .any, .any, .any, .any, .any, .any, .any, .any, .any, .any, .any, .any, .any, .any, .any, .any, .any, .any, .any, .any], []⟩) mv.length rfl ?_ ?_
      · simp only [c34l11m, go_sem, ↓reduceIte, reduceCtorEq, Nat.reduceAdd, Nat.reduceSub, Nat.reduceLT, Nat.reduceLeDiff]
        exact ⟨0, rfl, Nat.zero_le _, rfl, rfl⟩
      · rintro I n τ ⟨i, rfl, hi, hall, rfl⟩ hI
        simp only [c34l11, c34r6, hl, go_sem, ↓reduceIte, reduceCtorEq, Nat.reduceAdd, Nat.reduceSub, Nat.reduceLT, Nat.reduceLeDiff]
        intro _
        refine ⟨fun hlt => ?_, fun hge => ?_⟩
        · have hlt' : i < mv.length := by omega
          obtain ⟨hm, hp, hw, hm2, hp2, hw2, hins⟩ := hv.at' hlt'
          have hx := getI_nat (W := Y) (i := i) (by omega)
          have hx2 : i < Y.length := by omega
          have hok : wayOk pl mv wn p Y i = (decide (getI Y i = -1) || (!wn.getD i false && (pl.getD i false == p) && hasL (mv.getD i []) (getI Y i))) := rfl
          have good : wayOk pl mv wn p Y i = true → I ⟨[.any, .s (.bool p), .s (.slice (Y.map (.int .i64))), .s (.ptr [.slice (pl.map .bool), .slice (mv.map ints), .slice (wn.map .bool)]), .any, .any, .any, .s (.int .i64 (i + 1)), .any, .any, .any, .any, .any, .any, .any, .any, .any, .any, .any, .any, .any, .any, .any, .any, .any, .any, .any, .any, .any, .any, .any, .any, .any, .any, .any, .any, .any, .any, .any, .any, .any, .any, .any, .any, .any, .any, .any, .any, .any, .any, .any, .any, .any, .any, .any, .any, .any, .any, .any, .any, .any, .any, .any], []⟩ := fun hk =>
            hI (mv.length - (i + 1)) _ (by omega) ⟨i + 1, rfl, by omega, all_succ hall hk, by simp⟩
          have bad : wayOk pl mv wn p Y i = false → (List.range mv.length).all (wayOk pl mv wn p Y) = false := fun hk => all_not hlt' hk
          generalize mv.getD i [] = l at *
          generalize pl.getD i false = b at *
          generalize wn.getD i false = w at *
          generalize getI Y i = y at *
          simp only [c34r7, hm, hp, hw, hm2, hp2, hw2, hx, hx2, ints, go_sem, ↓reduceIte, reduceCtorEq, Nat.reduceAdd, Nat.reduceSub, Nat.reduceLT, Nat.reduceLeDiff]
          refine ⟨fun hbp => ?_, fun hbp => ?_⟩
          · have hbp' : b = p := by simpa using hbp
            cases w with
            | true =>
              simp only [c34r8, hm, hm2, hx, hx2, ints, go_sem, ↓reduceIte, reduceCtorEq, Nat.reduceAdd, Nat.reduceSub, Nat.reduceLT, Nat.reduceLeDiff]
              refine ⟨fun hy => ?_, fun hy => ?_⟩
              · simp only [c34r10, c34l11m, go_sem, ↓reduceIte, reduceCtorEq, Nat.reduceAdd, Nat.reduceSub, Nat.reduceLT, Nat.reduceLeDiff]
                exact ⟨inR_i64 (by omega) (by omega), good (by rw [hok]; simp [hy])⟩
              · simp only [c34r9, bad (by rw [hok]; simp [hy]), Bool.false_eq_true, go_sem, ↓reduceIte, reduceCtorEq, Nat.reduceAdd, Nat.reduceSub, Nat.reduceLT, Nat.reduceLeDiff]
            | false =>
              simp only [c34r8, hm, hm2, hx, hx2, ints, go_sem, ↓reduceIte, reduceCtorEq, Nat.reduceAdd, Nat.reduceSub, Nat.reduceLT, Nat.reduceLeDiff]
              refine ⟨fun hy => ?_, fun hy => ?_⟩
              · simp only [c34r10, c34l11m, go_sem, ↓reduceIte, reduceCtorEq, Nat.reduceAdd, Nat.reduceSub, Nat.reduceLT, Nat.reduceLeDiff]
                exact ⟨inR_i64 (by omega) (by omega), good (by rw [hok]; simp [hy])⟩
              · refine callK_of rfl (k49 (xs := l) (v := y)) (.inl rfl) ?_
                cases hk : hasL l y with
                | true =>
                  simp only [c34r10, c34l11m, go_sem, ↓reduceIte, reduceCtorEq, Nat.reduceAdd, Nat.reduceSub, Nat.reduceLT, Nat.reduceLeDiff]
                  exact ⟨inR_i64 (by omega) (by omega), good (by rw [hok, hk]; simp [hbp'])⟩
                | false =>
                  simp only [c34r9, bad (by rw [hok, hk]; simp [hy]), Bool.false_eq_true, go_sem, ↓reduceIte, reduceCtorEq, Nat.reduceAdd, Nat.reduceSub, Nat.reduceLT, Nat.reduceLeDiff]
          · have hbp' : b ≠ p := fun h => hbp (by rw [h])
            have hb0 : (b == p) = false := by simpa using hbp'
            simp only [c34r8, hm, hm2, hx, hx2, ints, go_sem, ↓reduceIte, reduceCtorEq, Nat.reduceAdd, Nat.reduceSub, Nat.reduceLT, Nat.reduceLeDiff]
            refine ⟨fun hy => ?_, fun hy => ?_⟩
            · simp only [c34r10, c34l11m, go_sem, ↓reduceIte, reduceCtorEq, Nat.reduceAdd, Nat.reduceSub, Nat.reduceLT, Nat.reduceLeDiff]
              exact ⟨inR_i64 (by omega) (by omega), good (by rw [hok]; simp [hy])⟩
            · simp only [c34r9, bad (by rw [hok, hb0]; simp [hy]), Bool.false_eq_true, go_sem, ↓reduceIte, reduceCtorEq, Nat.reduceAdd, Nat.reduceSub, Nat.reduceLT, Nat.reduceLeDiff]
        · have hie : i = mv.length := by omega
          subst hie
          rw [if_pos hall]
          simp only [c34r12, go_sem, ↓reduceIte, reduceCtorEq, Nat.reduceAdd, Nat.reduceSub, Nat.reduceLT, Nat.reduceLeDiff]
    · simp only [c34r4, hl, ne_eq, not_false_eq_true, go_sem, ↓reduceIte, reduceCtorEq, Nat.reduceAdd, Nat.reduceSub, Nat.reduceLT, Nat.reduceLeDiff]
  · rw [if_pos h]
    simp only [h, c34r2, go_sem, ↓reduceIte, reduceCtorEq, Nat.reduceAdd, Nat.reduceSub, Nat.reduceLT, Nat.reduceLeDiff]
    refine callK_of rfl (k21 (pl := pl) (mv := mv) (wn := wn)) (.inl rfl) ?_
    simp only [go_sem, ↓reduceIte, reduceCtorEq, Nat.reduceAdd, Nat.reduceSub, Nat.reduceLT, Nat.reduceLeDiff]
end Go.Proofs.Ytglmjdpmpgphkaa.Sk

/- Distances: who is found behind some rounds, and what makes them less. -/
namespace Go.Proofs.Ytglmjdpmpgphkaa.Sk
open Go Go.E

theorem getI_map_range {n i : Nat} {f : Nat → Int} (hi : i < n) : getI ((List.range n).map f) i = f i := by
  unfold getI
  rw [List.getD_eq_getElem?_getD, Int.toNat_natCast, List.getElem?_map, List.getElem?_range hi]; rfl

theorem round_sign {pl : List Bool} {mv : List (List Int)} {r : Int} {W : List Int} {i : Nat} (hr : 0 ≤ r) (hi : i < mv.length) :
    0 ≤ getI (roundW pl mv r W) i ↔ (0 ≤ getI W i ∨ wins1 (pl.getD i false) (mv.getD i []) (isIn W) = true) := by
  unfold roundW
  rw [getI_map_range hi]
  unfold nxt
  split
  · rename_i h
    exact ⟨fun _ => .inr h.2, fun _ => hr⟩
  · rename_i h
    constructor
    · exact .inl
    · rintro (h1 | h1)
      · exact h1
      · by_cases h2 : getI W i < 0
        · exact absurd ⟨h2, h1⟩ h
        · omega
theorem round_keep {pl : List Bool} {mv : List (List Int)} {r : Int} {W : List Int} {i : Nat} (hi : i < mv.length) (h : 0 ≤ getI W i) : getI (roundW pl mv r W) i = getI W i := by
  unfold roundW
  rw [getI_map_range hi, nxt, if_neg (by omega)]
theorem round_new {pl : List Bool} {mv : List (List Int)} {r : Int} {W : List Int} {i : Nat} (hi : i < mv.length) (h : getI W i < 0) (h2 : 0 ≤ getI (roundW pl mv r W) i) : getI (roundW pl mv r W) i = r := by
  unfold roundW at *
  rw [getI_map_range hi] at *
  unfold nxt at *
  split at h2
  · rename_i hc; rw [if_pos hc]
  · omega

theorem iter_keep {pl wn : List Bool} {mv : List (List Int)} {k i : Nat} (hi : i < mv.length) (h : 0 ≤ getI (iterW pl mv wn k) i) : ∀ j, getI (iterW pl mv wn (k + j)) i = getI (iterW pl mv wn k) i
  | 0 => rfl
  | j + 1 => by
    have ih := iter_keep hi h j
    rw [show k + (j + 1) = (k + j) + 1 by omega, iterW, round_keep hi (by rw [ih]; exact h), ih]

/-- A distance was found in the round that it says. -/
theorem iter_when {pl wn : List Bool} {mv : List (List Int)} {i : Nat} (hi : i < mv.length) (hwn : wn.length = mv.length) : ∀ (m : Nat) (v : Nat), getI (iterW pl mv wn m) i = v → v ≤ m ∧ getI (iterW pl mv wn v) i = v
  | 0, v, h => by
    have h0 := getI_rng (by omega) (iterW_rng (pl := pl) (mv := mv) (wn := wn) 0) i
    have : v = 0 := by omega
    subst this
    exact ⟨Nat.le_refl _, h⟩
  | m + 1, v, h => by
    by_cases hp : 0 ≤ getI (iterW pl mv wn m) i
    · have h1 := round_keep (pl := pl) (r := m + 1) hi hp
      rw [iterW, h1] at h
      obtain ⟨h2, h3⟩ := iter_when hi hwn m v h
      exact ⟨by omega, h3⟩
    · have h1 := round_new (pl := pl) (r := m + 1) (W := iterW pl mv wn m) hi (by omega) (by rw [iterW] at h; omega)
      have h2 := h
      rw [iterW, h1] at h2
      have : v = m + 1 := by omega
      subst this
      exact ⟨Nat.le_refl _, h⟩

theorem iter_grow {pl wn : List Bool} {mv : List (List Int)} (hwn : wn.length = mv.length) : ∀ k, (∀ j, j < k → iterW pl mv wn (j + 1) ≠ iterW pl mv wn j) → cntW (iterW pl mv wn 0) + k ≤ cntW (iterW pl mv wn k)
  | 0, _ => Nat.le_refl _
  | k + 1, h => by
    have ih := iter_grow hwn k fun j hj => h j (by omega)
    have := cnt_round (pl := pl) (mv := mv) (r := k + 1) (W := iterW pl mv wn k) (by omega) (iterW_len hwn k) (h k (by omega))
    have e : iterW pl mv wn (k + 1) = roundW pl mv (k + 1) (iterW pl mv wn k) := rfl
    rw [e]
    omega
theorem iter_all {pl wn : List Bool} {mv : List (List Int)} (hwn : wn.length = mv.length) {k : Nat} (hk : mv.length ≤ k) : iterW pl mv wn k = distW pl mv wn := by
  by_cases h : ∃ j, j ≤ mv.length ∧ iterW pl mv wn (j + 1) = iterW pl mv wn j
  · obtain ⟨j, hj, he⟩ := h
    have h1 := iterW_stable he (k - j)
    have h2 := iterW_stable he (mv.length - j)
    rw [show j + (k - j) = k by omega] at h1
    rw [show j + (mv.length - j) = mv.length by omega] at h2
    rw [h1, distW, h2]
  · exfalso
    have := iter_grow (pl := pl) hwn (mv.length + 1) fun j hj he => h ⟨j, by omega, he⟩
    have h2 := cnt_le (iterW pl mv wn (mv.length + 1))
    rw [iterW_len hwn] at h2
    omega

/-- Who is found behind some rounds: those that are as far at most. -/
theorem isIn_iter {pl wn : List Bool} {mv : List (List Int)} {i : Nat} (hi : i < mv.length) (hwn : wn.length = mv.length) (k : Nat) :
    0 ≤ getI (iterW pl mv wn k) i ↔ (0 ≤ getI (distW pl mv wn) i ∧ getI (distW pl mv wn) i ≤ k) := by
  constructor
  · intro h
    have h1 := iter_keep hi h (mv.length)
    rw [iter_all hwn (by omega)] at h1
    have h2 := getI_rng (by omega) (iterW_rng (pl := pl) (mv := mv) (wn := wn) k) i
    omega
  · rintro ⟨h1, h2⟩
    obtain ⟨v, hv⟩ : ∃ v : Nat, getI (distW pl mv wn) i = v := ⟨(getI (distW pl mv wn) i).toNat, by omega⟩
    obtain ⟨h3, h4⟩ := iter_when hi hwn mv.length v hv
    have h5 := iter_keep (pl := pl) (wn := wn) hi (k := v) (by omega) (k - v)
    rw [show v + (k - v) = k by omega] at h5
    omega
theorem dist_zero {pl wn : List Bool} {mv : List (List Int)} {i : Nat} (hi : i < mv.length) (hwn : wn.length = mv.length) : getI (distW pl mv wn) i = 0 ↔ wn.getD i false = true := by
  have h1 := isIn_iter (pl := pl) hi hwn 0
  have h2 : getI (iterW pl mv wn 0) i = if wn.getD i false then 0 else -1 := by
    unfold iterW startW getI
    rw [List.getD_eq_getElem?_getD, Int.toNat_natCast, List.getElem?_map, List.getElem?_eq_getElem (by omega), List.getD_eq_getElem?_getD, List.getElem?_eq_getElem (by omega)]
    rfl
  rw [h2] at h1
  cases hw : wn.getD i false with
  | true => rw [hw] at h1; simp only [if_true] at h1; constructor; exact fun _ => rfl; intro _; have := h1.1 (by omega); omega
  | false =>
    rw [hw] at h1
    simp only [Bool.false_eq_true, if_false] at h1
    constructor
    · intro h; have := h1.2 (by omega); omega
    · intro h; cases h
theorem wins_none {p : Bool} {l : List Int} {g : Int → Bool} (h : ∀ x, g x = false) : wins1 p l g = false := by
  unfold wins1
  cases p with
  | true => simp [h]
  | false => cases l with | nil => simp | cons x l => simp [h]
theorem dist_lt {pl wn : List Bool} {mv : List (List Int)} {i : Nat} (hi : i < mv.length) (hwn : wn.length = mv.length) : getI (distW pl mv wn) i < mv.length := by
  have hr := getI_rng (by omega) (iterW_rng (pl := pl) (mv := mv) (wn := wn) mv.length) i
  by_cases h : getI (distW pl mv wn) i < mv.length
  · exact h
  · exfalso
    have hd : getI (iterW pl mv wn mv.length) i = mv.length := by
      have : getI (iterW pl mv wn mv.length) i = getI (distW pl mv wn) i := rfl
      omega
    have hch : ∀ j, j < mv.length → iterW pl mv wn (j + 1) ≠ iterW pl mv wn j := fun j hj he => by
      have h1 := iterW_stable he (mv.length - j)
      rw [show j + (mv.length - j) = mv.length by omega] at h1
      rw [h1] at hd
      have h2 := getI_rng (by omega) (iterW_rng (pl := pl) (mv := mv) (wn := wn) j) i
      omega
    have hg := iter_grow (pl := pl) hwn mv.length hch
    have hc := cnt_le (iterW pl mv wn mv.length)
    rw [iterW_len hwn] at hc
    have h0 : cntW (iterW pl mv wn 0) = 0 := by omega
    refine hch 0 (by omega) ?_
    have hneg : ∀ x : Int, isIn (iterW pl mv wn 0) x = false := fun x => by
      unfold cntW at h0
      rw [List.countP_eq_zero] at h0
      unfold isIn getI
      rw [List.getD_eq_getElem?_getD]
      cases e : (iterW pl mv wn 0)[x.toNat]? with
      | none => rfl
      | some y =>
        have := h0 y (List.mem_of_getElem? e)
        simpa using this
    have e : iterW pl mv wn (0 + 1) = roundW pl mv ((0 : Nat) + 1) (iterW pl mv wn 0) := rfl
    rw [e]
    conv => rhs; rw [list_range (iterW_len hwn 0)]
    unfold roundW
    refine List.map_congr_left fun j hj => ?_
    unfold nxt
    rw [if_neg]
    intro hcc
    rw [wins_none hneg] at hcc
    cases hcc.2

theorem wins_mono {p : Bool} {l : List Int} {g g' : Int → Bool} (h : ∀ x ∈ l, g x = true → g' x = true) (hw : wins1 p l g = true) : wins1 p l g' = true := by
  unfold wins1 at *
  cases p with
  | true =>
    simp only [if_true, List.any_eq_true] at *
    obtain ⟨x, hx, hg⟩ := hw
    exact ⟨x, hx, h x hx hg⟩
  | false =>
    simp only [Bool.false_eq_true, if_false, Bool.and_eq_true, List.all_eq_true] at *
    exact ⟨hw.1, fun x hx => h x hx (hw.2 x hx)⟩

def nearB (far near : List Int) : Bool := (List.range far.length).all fun i : Nat => !(decide (0 ≤ getI far i) && (decide (getI near i < 0) || decide (getI far i < getI near i)))

/-- If one machine finds all that another one finds, in each round, it is nearer. -/
theorem near_of {pl pl' wn wn' : List Bool} {mv mv' : List (List Int)} (hl : mv'.length = mv.length) (hwn : wn.length = mv.length) (hwn' : wn'.length = mv.length)
    (h0 : ∀ i, i < mv.length → wn.getD i false = true → wn'.getD i false = true)
    (hs : ∀ i (g g' : Int → Bool), i < mv.length → (∀ x ∈ mv.getD i [], g x = true → g' x = true) → (∀ x ∈ mv'.getD i [], g x = true → g' x = true) → wins1 (pl.getD i false) (mv.getD i []) g = true → wins1 (pl'.getD i false) (mv'.getD i []) g' = true)
    (hin : ∀ i, i < mv.length → (∀ x ∈ mv.getD i [], 0 ≤ x ∧ x < mv.length) ∧ (∀ x ∈ mv'.getD i [], 0 ≤ x ∧ x < mv.length)) :
    nearB (distW pl mv wn) (distW pl' mv' wn') = true := by
  have key : ∀ k i : Nat, i < mv.length → 0 ≤ getI (iterW pl mv wn k) i → 0 ≤ getI (iterW pl' mv' wn' k) i := by
    intro k
    induction k with
    | zero =>
      intro i hi h
      rw [isIn_iter hi hwn 0] at h
      have h1 := (dist_zero (pl := pl) hi hwn).1 (by omega)
      have h2 := (dist_zero (pl := pl') (mv := mv') (wn := wn') (i := i) (by omega) (by omega)).2 (h0 i hi h1)
      exact (isIn_iter (by omega) (by omega) 0).2 (by omega)
    | succ k ih =>
      intro i hi h
      have e : ∀ p m w, iterW p m w (k + 1) = roundW p m (k + 1) (iterW p m w k) := fun _ _ _ => rfl
      rw [e, round_sign (by omega) hi] at h
      rw [e, round_sign (by omega) (by omega)]
      rcases h with h | h
      · exact .inl (ih i hi h)
      · have hg : ∀ x : Int, 0 ≤ x → x < mv.length → isIn (iterW pl mv wn k) x = true → isIn (iterW pl' mv' wn' k) x = true := fun x h1 h2 h3 => by
          have := ih x.toNat (by omega)
          rw [show ((x.toNat : Nat) : Int) = x by omega] at this
          simp only [isIn, decide_eq_true_eq] at *
          exact this h3
        exact .inr (hs i _ _ hi (fun x hx => hg x ((hin i hi).1 x hx).1 ((hin i hi).1 x hx).2) (fun x hx => hg x ((hin i hi).2 x hx).1 ((hin i hi).2 x hx).2) h)
  unfold nearB
  rw [List.all_eq_true]
  intro i hi
  have hi : i < mv.length := by
    have := iterW_len (pl := pl) (mv := mv) (wn := wn) hwn mv.length
    simp only [List.mem_range] at hi
    unfold distW at hi
    omega
  by_cases hd : 0 ≤ getI (distW pl mv wn) i
  · have h1 := (isIn_iter (pl := pl) hi hwn (getI (distW pl mv wn) i).toNat).2 (by omega)
    have h2 := key _ i hi h1
    rw [isIn_iter (by omega) (by omega)] at h2
    have h3 : decide (getI (distW pl' mv' wn') i < 0) = false := by simp; omega
    have h4 : decide (getI (distW pl mv wn) i < getI (distW pl' mv' wn') i) = false := by simp; omega
    rw [h3, h4]
    simp
  · have : decide (0 ≤ getI (distW pl mv wn) i) = false := by simp; omega
    rw [this]; rfl
end Go.Proofs.Ytglmjdpmpgphkaa.Sk

/- Contracts of functions: the distances that laws ask for, lists with one more move, and nearer ones. -/
namespace Go.Proofs.Ytglmjdpmpgphkaa.Sk
open Go Go.E Go.E.Sm
set_option maxRecDepth 10000

theorem distW_rng' {pl wn : List Bool} {mv : List (List Int)} (k : Int) : -1 ≤ getI (distW pl mv wn) k ∧ getI (distW pl mv wn) k ≤ mv.length := getI_rng (by omega) (iterW_rng _) k

theorem k47 {pl wn : List Bool} {mv : List (List Int)} : E.Fn Try.prog 47 [mach pl mv wn] [.bool (!greatB pl mv wn && decide (chkM pl mv wn = 0))] := by
  refine fn_of_row okf47 ?_
  simp only [FRow.start, f47, c47r0, c47r1, mach, bools, go_sem, ↓reduceIte, reduceCtorEq, Nat.reduceAdd, Nat.reduceSub, Nat.reduceLT, Nat.reduceLeDiff]
  refine callK_of rfl (k16 (pl := pl) (mv := mv) (wn := wn)) (.inl rfl) ?_
  cases hg : greatB pl mv wn with
  | true => simp only [Bool.false_and, go_sem, ↓reduceIte, reduceCtorEq, Nat.reduceAdd, Nat.reduceSub, Nat.reduceLT, Nat.reduceLeDiff]
  | false =>
    simp only [go_sem, ↓reduceIte, reduceCtorEq, Nat.reduceAdd, Nat.reduceSub, Nat.reduceLT, Nat.reduceLeDiff]
    refine callK_of rfl (k21 (pl := pl) (mv := mv) (wn := wn)) (.inl rfl) ?_
    simp only [Bool.true_and, go_sem, ↓reduceIte, reduceCtorEq, Nat.reduceAdd, Nat.reduceSub, Nat.reduceLT, Nat.reduceLeDiff]

theorem k48 {pl wn : List Bool} {mv : List (List Int)} (hv : Valid pl mv wn) : E.Fn Try.prog 48 [mach pl mv wn] [ints (distW pl mv wn), .bool true] := by
  refine fn_of_row okf48 ?_
  have h1 := hv.few
  have hdl := distW_len hv
  have h0 := of_valid hv
  have hd : distR pl mv wn = [ints (distW pl mv wn), .int .i64 0] := by unfold distR; rw [if_pos h0]
  have hrng := fun k => distW_rng' (pl := pl) (mv := mv) (wn := wn) k
  have hlt := fun i hi => dist_lt (pl := pl) (mv := mv) (wn := wn) (i := i) hi hv.wn
  have hz := fun i hi => dist_zero (pl := pl) (mv := mv) (wn := wn) (i := i) hi hv.wn
  simp only [FRow.start, f48, c48r0, c48r1, mach, bools, go_sem, ↓reduceIte, reduceCtorEq, Nat.reduceAdd, Nat.reduceSub, Nat.reduceLT, Nat.reduceLeDiff]
  refine callK_of rfl (k18 (pl := pl) (mv := mv) (wn := wn)) (.inr rfl) ?_
  rw [hd]
  generalize distW pl mv wn = D at *
  simp only [c48r2, ints, Int.natCast_inj, hdl, go_sem, ↓reduceIte, reduceCtorEq, Nat.reduceAdd, Nat.reduceSub, Nat.reduceLT, Nat.reduceLeDiff]
  intro _
  simp only [c48r4, go_sem, ↓reduceIte, reduceCtorEq, Nat.reduceAdd, Nat.reduceSub, Nat.reduceLT, Nat.reduceLeDiff]
  refine loop_rule (fun n τ => ∃ i : Nat, n = mv.length - i ∧ i ≤ mv.length ∧
    τ = ⟨[.any, .s (.ptr [.slice (pl.map .bool), .slice (mv.map ints), .slice (wn.map .bool)]), .any, .any, .s (.slice (D.map (.int .i64))), .any, .s (.int .i64 i), .any, .any, .any, .any, .any, .any, .any, .any, .any, .any, .any, .any, .any, .any, .any, .any, .any, .any, .any, .any, .any, .any, .any, .any, .any, .any, .any, .any, .any, .any, .any, .any, .any, .any, .any, .any, .any, .any, .any, .any, .any, .any, .any, .any, .any, .any, .any, .any, .any], []⟩) mv.length rfl ?_ ?_
  · simp only [c48l9m, go_sem, ↓reduceIte, reduceCtorEq, Nat.reduceAdd, Nat.reduceSub, Nat.reduceLT, Nat.reduceLeDiff]
    exact ⟨0, rfl, Nat.zero_le _, rfl⟩
  · rintro I n τ ⟨i, rfl, hi, rfl⟩ hI
    simp only [c48l9, c48r5, hdl, go_sem, ↓reduceIte, reduceCtorEq, Nat.reduceAdd, Nat.reduceSub, Nat.reduceLT, Nat.reduceLeDiff]
    intro _
    refine ⟨fun hlt1 => ?_, fun hge => ?_⟩
    · have hlt' : i < mv.length := by omega
      obtain ⟨hm, hp, hw, hm2, hp2, hw2, hins⟩ := hv.at' hlt'
      have hx := getI_nat (W := D) (i := i) (by omega)
      have hx2 : i < D.length := by omega
      have hr := hrng i
      have hl := hlt i hlt'
      have hzi := hz i hlt'
      generalize wn.getD i false = w at *
      have hw0 : SV.bool (decide (getI D i = 0)) = SV.bool w := by
        congr 1
        cases w with
        | true => simpa using hzi
        | false => simpa using hzi
      have e1 : decide (getI D i < -1) = false := by simp; omega
      have e2 : decide ((D.length : Int) ≤ getI D i) = false := by simp; omega
      simp only [c48r6, hx, hx2, e1, e2, hw, hw2, go_sem, ↓reduceIte, reduceCtorEq, Nat.reduceAdd, Nat.reduceSub, Nat.reduceLT, Nat.reduceLeDiff]
      intro _
      refine ⟨fun _ => ?_, fun hn => absurd hw0 hn⟩
      simp only [c48r8, c48l9m, go_sem, ↓reduceIte, reduceCtorEq, Nat.reduceAdd, Nat.reduceSub, Nat.reduceLT, Nat.reduceLeDiff]
      exact ⟨inR_i64 (by omega) (by omega), hI (mv.length - (i + 1)) _ (by omega) ⟨i + 1, rfl, by omega, by simp⟩⟩
    · have hie : i = mv.length := by omega
      subst hie
      simp only [c48r10, go_sem, ↓reduceIte, reduceCtorEq, Nat.reduceAdd, Nat.reduceSub, Nat.reduceLT, Nat.reduceLeDiff]

theorem k52 {a b : List Int} (hl : a.length = b.length) : E.Fn Try.prog 52 [ints a, ints b] [.bool (nearB a b)] := by
  refine fn_of_row okf52 ?_
  simp only [FRow.start, f52, c52r0, c52r1, ints, go_sem, ↓reduceIte, reduceCtorEq, Nat.reduceAdd, Nat.reduceSub, Nat.reduceLT, Nat.reduceLeDiff]
  refine loop_rule (fun n τ => ∃ i : Nat, n = a.length - i ∧ i ≤ a.length ∧ ((List.range i).all fun i : Nat => !(decide (0 ≤ getI a i) && (decide (getI b i < 0) || decide (getI a i < getI b i)))) = true ∧
    τ = ⟨[.s (.slice (a.map (.int .i64))), .s (.slice (b.map (.int .i64))), .any, .any, .any, .s (.int .i64 i), .any, .any, .any, .any, .any, .any, .any, .any, .any, .any, .any, .any, .any, .any, .any, .any, .any, .any, .any, .any, .any, .any, .any, .any, .any, .any, .any, .any, .any], []⟩) a.length rfl ?_ ?_
  · simp only [c52l6m, go_sem, ↓reduceIte, reduceCtorEq, Nat.reduceAdd, Nat.reduceSub, Nat.reduceLT, Nat.reduceLeDiff]
    exact ⟨0, rfl, Nat.zero_le _, rfl, rfl⟩
  · rintro I n τ ⟨i, rfl, hi, hall, rfl⟩ hI
    simp only [c52l6, c52r2, go_sem, ↓reduceIte, reduceCtorEq, Nat.reduceAdd, Nat.reduceSub, Nat.reduceLT, Nat.reduceLeDiff]
    intro hal
    have hal' : (a.length : Int) ≤ 2 ^ 63 - 1 := Int.le_trans (Int.ofNat_le.mpr hal) maxLen_le
    refine ⟨fun hlt => ?_, fun hge => ?_⟩
    · have hx := getI_nat (W := a) (i := i) hlt
      have hy := getI_nat (W := b) (i := i) (by omega)
      have hy2 : i < b.length := by omega
      have bad : (!(decide (0 ≤ getI a i) && (decide (getI b i < 0) || decide (getI a i < getI b i)))) = false → nearB a b = false := fun h => all_not hlt h
      have good : (!(decide (0 ≤ getI a i) && (decide (getI b i < 0) || decide (getI a i < getI b i)))) = true → I ⟨[.s (.slice (a.map (.int .i64))), .s (.slice (b.map (.int .i64))), .any, .any, .any, .s (.int .i64 (i + 1)), .any, .any, .any, .any, .any, .any, .any, .any, .any, .any, .any, .any, .any, .any, .any, .any, .any, .any, .any, .any, .any, .any, .any, .any, .any, .any, .any, .any, .any], []⟩ := fun h =>
        hI (a.length - (i + 1)) _ (by omega) ⟨i + 1, rfl, by omega, all_succ hall h, by simp⟩
      generalize getI a i = x at *
      generalize getI b i = y at *
      simp only [c52r3, hx, hlt, hy, hy2, go_sem, ↓reduceIte, reduceCtorEq, Nat.reduceAdd, Nat.reduceSub, Nat.reduceLT, Nat.reduceLeDiff]
      refine ⟨fun h0 => ⟨fun h1 => ?_, fun h1 => ⟨fun h2 => ?_, fun h2 => ?_⟩⟩, fun h0 => ?_⟩
      · simp only [c52r4, bad (by simp [h0, h1]), go_sem, ↓reduceIte, reduceCtorEq, Nat.reduceAdd, Nat.reduceSub, Nat.reduceLT, Nat.reduceLeDiff]
      · simp only [c52r4, bad (by simp [h0, h2]), go_sem, ↓reduceIte, reduceCtorEq, Nat.reduceAdd, Nat.reduceSub, Nat.reduceLT, Nat.reduceLeDiff]
      · simp only [c52r5, c52l6m, go_sem, ↓reduceIte, reduceCtorEq, Nat.reduceAdd, Nat.reduceSub, Nat.reduceLT, Nat.reduceLeDiff]
        exact ⟨inR_i64 (by omega) (by omega), good (by simp; omega)⟩
      · simp only [c52r5, c52l6m, go_sem, ↓reduceIte, reduceCtorEq, Nat.reduceAdd, Nat.reduceSub, Nat.reduceLT, Nat.reduceLeDiff]
        exact ⟨inR_i64 (by omega) (by omega), good (by simp; omega)⟩
    · have hie : i = a.length := by omega
      subst hie
      have : nearB a b = true := hall
      simp only [c52r7, this, go_sem, ↓reduceIte, reduceCtorEq, Nat.reduceAdd, Nat.reduceSub, Nat.reduceLT, Nat.reduceLeDiff]

/-- A list with one more number. -/
def withL (l : List Int) (n : Int) : List Int := outP (fun i => decide (i = n) || hasL l i) 20
theorem k51 {l : List Int} {y : Int} : E.Fn Try.prog 51 [ints l, .int .i64 y] [ints (withL l y)] := by
  refine fn_of_row okf51 ?_
  unfold withL
  generalize hq : (fun i : Int => decide (i = y) || hasL l i) = q
  have hq' : ∀ x, q x = (decide (x = y) || hasL l x) := fun x => by rw [← hq]
  simp only [FRow.start, f51, c51r0, c51r1, c51r2, ints, go_sem, ↓reduceIte, reduceCtorEq, Nat.reduceAdd, Nat.reduceSub, Nat.reduceLT, Nat.reduceLeDiff]
  refine loop_rule (fun n τ => ∃ i : Nat, n = 20 - i ∧ i ≤ 20 ∧
    τ = ⟨[.s (.slice (l.map (.int .i64))), .s (.int .i64 y), .any, .any, .any, .sl 0 0 (outP q i).length 1 false, .s (.int .i64 i), .any, .any, .any, .any, .any, .any, .any, .any, .any, .any, .any, .any, .any, .any, .any, .any, .any], [.row ((outP q i).map (SV.int .i64))]⟩) 20 (promo_one rfl) ?_ ?_
  · simp only [c51l7m, go_sem, ↓reduceIte, reduceCtorEq, Nat.reduceAdd, Nat.reduceSub, Nat.reduceLT, Nat.reduceLeDiff]
    exact ⟨0, rfl, Nat.zero_le _, by simp [outP]⟩
  · rintro I n τ ⟨i, rfl, hi, rfl⟩ hI
    have hos := outP_succ q i
    have hol := outP_len q i
    rw [hq'] at hos
    generalize hO : outP q i = O at *
    simp only [c51l7, c51r3, go_sem, ↓reduceIte, reduceCtorEq, Nat.reduceAdd, Nat.reduceSub, Nat.reduceLT, Nat.reduceLeDiff]
    refine ⟨fun hlt => ?_, fun hge => ?_⟩
    · have hlt' : i < 20 := by omega
      have app : q i = true → I ⟨[.s (.slice (l.map (.int .i64))), .s (.int .i64 y), .any, .any, .any, .sl 0 0 (O.length + 1) 1 false, .s (.int .i64 (i + 1)), .any, .any, .any, .any, .any, .any, .any, .any, .any, .any, .any, .any, .any, .any, .any, .any, .any], [.row ((O ++ [(i : Int)]).map (SV.int .i64))]⟩ := fun h => by
        rw [hq'] at h
        rw [if_pos h] at hos
        exact hI (20 - (i + 1)) _ (by omega) ⟨i + 1, rfl, by omega, by rw [hos]; simp⟩
      have skip : q i = false → I ⟨[.s (.slice (l.map (.int .i64))), .s (.int .i64 y), .any, .any, .any, .sl 0 0 O.length 1 false, .s (.int .i64 (i + 1)), .any, .any, .any, .any, .any, .any, .any, .any, .any, .any, .any, .any, .any, .any, .any, .any, .any], [.row (O.map (SV.int .i64))]⟩ := fun h => by
        rw [hq'] at h
        rw [if_neg (by rw [h]; simp)] at hos
        exact hI (20 - (i + 1)) _ (by omega) ⟨i + 1, rfl, by omega, by rw [hos]; simp⟩
      simp only [c51r4, go_sem, ↓reduceIte, reduceCtorEq, Nat.reduceAdd, Nat.reduceSub, Nat.reduceLT, Nat.reduceLeDiff]
      refine ⟨fun he => ?_, fun he => ?_⟩
      · simp only [c51r5, go_sem, ↓reduceIte, reduceCtorEq, Nat.reduceAdd, Nat.reduceSub, Nat.reduceLT, Nat.reduceLeDiff]
        refine ⟨by decide, by decide, rfl, one1, one1, by omega, by omega, by omega, ?_⟩
        rw [app_map]
        simp only [c51r6, c51l7m, go_sem, ↓reduceIte, reduceCtorEq, Nat.reduceAdd, Nat.reduceSub, Nat.reduceLT, Nat.reduceLeDiff]
        exact ⟨inR_i64 (by omega) (by omega), app (by rw [hq']; simp [he])⟩
      · refine callK_of rfl (k49 (xs := l) (v := i)) (.inl rfl) ?_
        cases hh : hasL l i with
        | true =>
          simp only [c51r5, go_sem, ↓reduceIte, reduceCtorEq, Nat.reduceAdd, Nat.reduceSub, Nat.reduceLT, Nat.reduceLeDiff]
          refine ⟨by decide, by decide, rfl, one1, one1, by omega, by omega, by omega, ?_⟩
          rw [app_map]
          simp only [c51r6, c51l7m, go_sem, ↓reduceIte, reduceCtorEq, Nat.reduceAdd, Nat.reduceSub, Nat.reduceLT, Nat.reduceLeDiff]
          exact ⟨inR_i64 (by omega) (by omega), app (by rw [hq', hh]; simp)⟩
        | false =>
          simp only [c51r6, c51l7m, go_sem, ↓reduceIte, reduceCtorEq, Nat.reduceAdd, Nat.reduceSub, Nat.reduceLT, Nat.reduceLeDiff]
          exact ⟨inR_i64 (by omega) (by omega), skip (by rw [hq', hh]; simp [he])⟩
    · have hie : i = 20 := by omega
      subst hie
      have hso : sliceOf 0 O.length 1 (O.map (SV.int .i64)) = some (.slice (O.map (SV.int .i64))) := sliceOf_all (by simp)
      simp only [c51r8, hso, hO, go_sem, ↓reduceIte, reduceCtorEq, Nat.reduceAdd, Nat.reduceSub, Nat.reduceLT, Nat.reduceLeDiff]

theorem rise_snoc {below : Int} : ∀ (l : List Int) (lo y : Int), rise lo below l = true → (∀ x ∈ l, x < y) → lo ≤ y → y < below → rise lo below (l ++ [y]) = true
  | [], lo, y, _, _, h1, h2 => by simp [rise, h1, h2]
  | x :: l, lo, y, h, hx, h1, h2 => by
    simp only [rise, Bool.and_eq_true, decide_eq_true_eq, List.cons_append] at *
    exact ⟨h.1, rise_snoc l (x + 1) y h.2 (fun z hz => hx z (by simp [hz])) (by have := hx x (by simp); omega) h2⟩
theorem outP_lt (q : Int → Bool) (m : Nat) : ∀ x ∈ outP q m, 0 ≤ x ∧ x < m := by
  intro x hx
  unfold outP at hx
  obtain ⟨h1, _⟩ := List.mem_filter.1 hx
  obtain ⟨j, hj, rfl⟩ := List.mem_map.1 h1
  have : j < m := by simpa using hj
  omega
theorem rise_outP {q : Int → Bool} {below : Int} : ∀ (m : Nat), (∀ i : Nat, i < m → q i = true → (i : Int) < below) → rise 0 below (outP q m) = true
  | 0, _ => rfl
  | m + 1, h => by
    have ih := rise_outP m fun i hi => h i (by omega)
    rw [outP_succ]
    split
    · rename_i hq
      exact rise_snoc _ 0 m ih (fun x hx => (outP_lt q m x hx).2) (by omega) (h m (by omega) hq)
    · exact ih
theorem hasL_mem' {l : List Int} {x : Int} (h : hasL l x = true) : x ∈ l := by
  unfold hasL at h
  rw [List.any_eq_true] at h
  obtain ⟨y, hy, he⟩ := h
  rw [decide_eq_true_eq] at he
  exact he ▸ hy
theorem withL_rise {n : Nat} {l : List Int} {y : Int} (hr : rise 0 n l = true) (h1 : y < n) : rise 0 n (withL l y) = true := by
  refine rise_outP 20 fun i _ hq => ?_
  simp only [Bool.or_eq_true, decide_eq_true_eq] at hq
  rcases hq with h | h
  · omega
  · exact (rise_mem _ _ l hr _ (hasL_mem' h)).2
theorem hasL_of {l : List Int} {x : Int} (h : x ∈ l) : hasL l x = true := by
  unfold hasL
  rw [List.any_eq_true]
  exact ⟨x, h, by simp⟩
theorem withL_sub {n : Nat} {l : List Int} {y : Int} (hn : n ≤ 20) (hr : rise 0 n l = true) : ∀ x ∈ l, x ∈ withL l y := by
  intro x hx
  have hm := rise_mem _ _ l hr x hx
  unfold withL outP
  rw [List.mem_filter]
  refine ⟨List.mem_map.2 ⟨x.toNat, by simp; omega, by omega⟩, ?_⟩
  rw [hasL_of hx]; simp
theorem Valid.moves {pl wn : List Bool} {mv : List (List Int)} (hv : Valid pl mv wn) (i : Nat) (l : List Int) (hl : rise 0 mv.length l = true) : Valid pl (mv.set i l) wn := by
  refine ⟨by rw [List.length_set]; exact hv.pos, by rw [List.length_set]; exact hv.few, by rw [List.length_set]; exact hv.pl, by rw [List.length_set]; exact hv.wn, fun m hm => ?_⟩
  rw [List.length_set]
  rcases List.mem_or_eq_of_mem_set hm with h | h
  · exact hv.ris m h
  · rw [h]; exact hl
theorem Valid.won {pl wn : List Bool} {mv : List (List Int)} (hv : Valid pl mv wn) (w : List Bool) (hw : w.length = wn.length) : Valid pl mv w := ⟨hv.pos, hv.few, hv.pl, by rw [hw]; exact hv.wn, hv.ris⟩
theorem getD_set {α : Type} {d : α} {l : List α} {i j : Nat} {x : α} (hi : i < l.length) : (l.set i x).getD j d = if i = j then x else l.getD j d := by
  rw [List.getD_eq_getElem?_getD, List.getD_eq_getElem?_getD, List.getElem?_set]
  split
  · rfl
  · rfl
end Go.Proofs.Ytglmjdpmpgphkaa.Sk
