/- Contracts of functions: what ranks prove, and keeps. -/
import Derived.Test.YtglmjdpmpgphkaaM12

set_option linter.all false

namespace Go.Proofs.Ytglmjdpmpgphkaa.Sk
open Go Go.E Go.E.Sm
set_option maxRecDepth 10000

def hasL (l : List Int) (n : Int) : Bool := l.any fun x => decide (n = x)

theorem hasL_cons (x : Int) (l : List Int) (v : Int) : hasL (x :: l) v = (decide (v = x) || hasL l v) := rfl

theorem k88 {xs : List Int} {v : Int} : E.Fn Try.prog 88 [ints xs, .int .i64 v] [.int .i64 (idx (fun x => decide (v = x)) xs 0)] := by
  refine fn_of_row okf88 ?_
  simp only [FRow.start, f88, c88r0, c88r1, ints, go_sem, ↓reduceIte, reduceCtorEq, Nat.reduceAdd, Nat.reduceSub, Nat.reduceLT, Nat.reduceLeDiff]
  intro hlen
  have hlen' : (xs.length : Int) ≤ 2 ^ 63 - 1 := Int.le_trans (Int.ofNat_le.mpr hlen) maxLen_le
  generalize hp : (fun x => decide (v = x)) = p
  have hp' : ∀ x, p x = decide (v = x) := fun x => by rw [← hp]
  refine loop_rule (fun n τ => ∃ i : Nat, n = xs.length - i ∧ i ≤ xs.length ∧ idx p xs 0 = idx p (xs.drop i) i ∧
    τ = ⟨[.s (.slice (xs.map (.int .i64))), .s (.int .i64 v), .any, .any, .any, .any, .any, .s (.int .i64 xs.length), .s (.int .i64 i), .any, .any, .any, .any, .any, .any, .any, .any, .any, .any], []⟩) xs.length rfl ?_ ?_
  · simp only [c88l7m, go_sem, ↓reduceIte, reduceCtorEq, Nat.reduceAdd, Nat.reduceSub, Nat.reduceLT, Nat.reduceLeDiff]
    exact ⟨0, rfl, Nat.zero_le _, rfl, rfl⟩
  · rintro I n τ ⟨i, rfl, hi, hidx, rfl⟩ hI
    simp only [c88l7, c88r2, c88r3, go_sem, ↓reduceIte, reduceCtorEq, Nat.reduceAdd, Nat.reduceSub, Nat.reduceLT, Nat.reduceLeDiff]
    refine ⟨fun hlt => ?_, fun hge => ?_⟩
    · have hx : xs[i]? = some xs[i] := List.getElem?_eq_getElem hlt
      have hdrop : xs.drop i = xs[i] :: xs.drop (i + 1) := List.drop_eq_getElem_cons hlt
      rw [hdrop, idx, hp'] at hidx
      generalize xs[i] = x at *
      simp only [c88r4, hx, hlt, go_sem, ↓reduceIte, reduceCtorEq, Nat.reduceAdd, Nat.reduceSub, Nat.reduceLT, Nat.reduceLeDiff]
      refine ⟨fun he => ?_, fun he => ?_⟩
      · rw [if_pos (by simpa using he)] at hidx
        simp only [c88r5, hidx, go_sem, ↓reduceIte, reduceCtorEq, Nat.reduceAdd, Nat.reduceSub, Nat.reduceLT, Nat.reduceLeDiff]
      · rw [if_neg (by simpa using he)] at hidx
        simp only [c88r6, c88l7m, go_sem, ↓reduceIte, reduceCtorEq, Nat.reduceAdd, Nat.reduceSub, Nat.reduceLT, Nat.reduceLeDiff]
        exact ⟨inR_i64 (by omega) (by omega), hI (xs.length - (i + 1)) _ (by omega) ⟨i + 1, rfl, by omega, by rw [hidx]; simp, by simp⟩⟩
    · have hie : i = xs.length := by omega
      subst hie
      simp only [List.drop_length, idx] at hidx
      simp only [c88r8, hidx, go_sem, ↓reduceIte, reduceCtorEq, Nat.reduceAdd, Nat.reduceSub, Nat.reduceLT, Nat.reduceLeDiff]

theorem k69 {xs : List Int} {v : Int} : E.Fn Try.prog 69 [ints xs, .int .i64 v] [.bool (hasL xs v)] := by
  refine fn_of_row okf69 ?_
  simp only [FRow.start, f69, c69r0, c69r1, go_sem, ↓reduceIte, reduceCtorEq, Nat.reduceAdd, Nat.reduceSub, Nat.reduceLT, Nat.reduceLeDiff]
  refine callK_of rfl k88 (.inl rfl) ?_
  simp only [go_sem, ↓reduceIte, reduceCtorEq, Nat.reduceAdd, Nat.reduceSub, Nat.reduceLT, Nat.reduceLeDiff]
  have := idx_ge (fun x => decide (v = x)) xs 0
  unfold hasL
  cases h : xs.any (fun x => decide (v = x)) <;> simp_all

theorem k49 {xs : List Int} {v : Int} : E.Fn Try.prog 49 [ints xs, .int .i64 v] [.bool (hasL xs v)] := by
  refine fn_of_row okf49 ?_
  simp only [FRow.start, f49, c49r0, c49r1, ints, go_sem, ↓reduceIte, reduceCtorEq, Nat.reduceAdd, Nat.reduceSub, Nat.reduceLT, Nat.reduceLeDiff]
  refine loop_rule (fun n τ => ∃ i : Nat, n = xs.length - i ∧ i ≤ xs.length ∧ hasL xs v = hasL (xs.drop i) v ∧
    τ = ⟨[.s (.slice (xs.map (.int .i64))), .s (.int .i64 v), .any, .any, .any, .s (.int .i64 i), .any, .any, .any, .any, .any, .any, .any, .any, .any, .any, .any, .any], []⟩) xs.length rfl ?_ ?_
  · simp only [c49l6m, go_sem, ↓reduceIte, reduceCtorEq, Nat.reduceAdd, Nat.reduceSub, Nat.reduceLT, Nat.reduceLeDiff]
    exact ⟨0, rfl, Nat.zero_le _, rfl, rfl⟩
  · rintro I n τ ⟨i, rfl, hi, hr, rfl⟩ hI
    simp only [c49l6, c49r2, go_sem, ↓reduceIte, reduceCtorEq, Nat.reduceAdd, Nat.reduceSub, Nat.reduceLT, Nat.reduceLeDiff]
    intro hlen
    have hlen' : (xs.length : Int) ≤ 2 ^ 63 - 1 := Int.le_trans (Int.ofNat_le.mpr hlen) maxLen_le
    refine ⟨fun hlt => ?_, fun hge => ?_⟩
    · have hx : xs[i]? = some xs[i] := List.getElem?_eq_getElem hlt
      have hdrop : xs.drop i = xs[i] :: xs.drop (i + 1) := List.drop_eq_getElem_cons hlt
      rw [hdrop, hasL_cons] at hr
      generalize xs[i] = x at *
      simp only [c49r3, hx, hlt, go_sem, ↓reduceIte, reduceCtorEq, Nat.reduceAdd, Nat.reduceSub, Nat.reduceLT, Nat.reduceLeDiff]
      refine ⟨fun he => ?_, fun he => ?_⟩
      · have : hasL xs v = true := by rw [hr]; simp [he]
        simp only [c49r4, this, go_sem, ↓reduceIte, reduceCtorEq, Nat.reduceAdd, Nat.reduceSub, Nat.reduceLT, Nat.reduceLeDiff]
      · have hne : decide (v = x) = false := by simpa using fun h => he (Eq.symm h)
        have : hasL xs v = hasL (xs.drop (i + 1)) v := by rw [hr, hne, Bool.false_or]
        simp only [c49r5, c49l6m, go_sem, ↓reduceIte, reduceCtorEq, Nat.reduceAdd, Nat.reduceSub, Nat.reduceLT, Nat.reduceLeDiff]
        exact ⟨inR_i64 (by omega) (by omega), hI (xs.length - (i + 1)) _ (by omega) ⟨i + 1, rfl, by omega, this, by simp⟩⟩
    · have hie : i = xs.length := by omega
      subst hie
      simp only [List.drop_length, hasL, List.any_nil] at hr
      have : hasL xs v = false := hr
      simp only [c49r7, this, go_sem, ↓reduceIte, reduceCtorEq, Nat.reduceAdd, Nat.reduceSub, Nat.reduceLT, Nat.reduceLeDiff]

theorem k68 {keep : List Int} {k : Int} : Asks 68 [] [.ptr [ints keep]] (.int .i64 k) (!hasL keep k) := by
  refine fn_of_row okf68 ?_
  simp only [FRow.start, f68, c68r0, c68r1, ints, go_sem, ↓reduceIte, reduceCtorEq, Nat.reduceAdd, Nat.reduceSub, Nat.reduceLT, Nat.reduceLeDiff]
  refine callK_of rfl (k69 (xs := keep)) (.inl rfl) ?_
  simp only [go_sem, ↓reduceIte, reduceCtorEq, Nat.reduceAdd, Nat.reduceSub, Nat.reduceLT, Nat.reduceLeDiff]

def lessB (R : List Int) (rank to : Int) : Bool := decide (0 ≤ getI R to) && decide (getI R to < rank)

theorem k65 {R : List Int} {rank to : Int} (h0 : 0 ≤ to) (h1 : to < R.length) (h2 : -1 ≤ rank) (h3 : rank ≤ 2 ^ 62) : Asks 65 [] [.ptr [.int .i64 rank], .ptr [ints R]] (.int .i64 to) (lessB R rank to) := by
  refine fn_of_row okf65 ?_
  have hx := getI_get (W := R) h0 h1
  have hl : to.toNat < R.length := by omega
  simp only [FRow.start, f65, c65r0, c65r1, ints, hx, hl, go_sem, ↓reduceIte, reduceCtorEq, Nat.reduceAdd, Nat.reduceSub, Nat.reduceLT, Nat.reduceLeDiff]
  refine ⟨inR_i64 (by omega) (by omega), h0, by decide, by decide, rfl, by simp [SV.cells], callK_of rfl (k60 (l := [getI R to])) (.inl rfl) ?_⟩
  simp only [inAll, lessB, go_sem, ↓reduceIte, reduceCtorEq, Nat.reduceAdd, Nat.reduceSub, Nat.reduceLT, Nat.reduceLeDiff]
  by_cases h : getI R to < rank
  · have : getI R to ≤ rank - 1 := by omega
    simp [h, this]
  · have : ¬ getI R to ≤ rank - 1 := by omega
    simp [h, this]

theorem k67 {R : List Int} {rank to : Int} (h0 : 0 ≤ to) (h1 : to < R.length) : E.Fn Try.prog 67 [ints R, .int .i64 to, .int .i64 rank] [.bool (lessB R rank to)] := by
  refine fn_of_row okf67 ?_
  have hx := getI_get (W := R) h0 h1
  have hl : to.toNat < R.length := by omega
  simp only [FRow.start, f67, c67r0, c67r1, ints, hx, hl, lessB, go_sem, ↓reduceIte, reduceCtorEq, Nat.reduceAdd, Nat.reduceSub, Nat.reduceLT, Nat.reduceLeDiff]
  refine ⟨h0, fun h => ?_, fun h => ?_⟩
  · refine ⟨h0, ?_⟩
    simp [h]
  · simp [h]

/-- What is found wrong with ranks at a position. -/
def rankOk (pl : List Bool) (mv : List (List Int)) (wn : List Bool) (R : List Int) (i : Nat) : Bool :=
  (decide (getI R i = 0) == wn.getD i false) && (decide (getI R i ≤ 0) || wins1 (pl.getD i false) (mv.getD i []) (lessB R (getI R i)))
def outP (q : Int → Bool) (i : Nat) : List Int := ((List.range i).map fun j : Nat => (j : Int)).filter q
def ranksR (pl : List Bool) (mv : List (List Int)) (wn : List Bool) (R : List Int) : List SV :=
  if chkM pl mv wn ≠ 0 then [.slice [], .int .i64 (chkM pl mv wn)]
  else if R.length ≠ mv.length then [.slice [], .int .i64 15]
  else if inAll (-1) 14 R = false then [.slice [], .int .i64 3]
  else if (List.range mv.length).all (rankOk pl mv wn R) = true then [ints (outP (fun i => decide (0 ≤ getI R i)) mv.length), .int .i64 0] else [.slice [], .int .i64 14]

theorem outP_succ (q : Int → Bool) (i : Nat) : outP q (i + 1) = if q i = true then outP q i ++ [(i : Int)] else outP q i := by
  unfold outP
  rw [List.range_succ, List.map_append, List.filter_append]
  simp only [List.map_cons, List.map_nil, List.filter_cons, List.filter_nil]
  split <;> simp
theorem outP_len (q : Int → Bool) (i : Nat) : (outP q i).length ≤ i := by
  unfold outP
  refine Nat.le_trans (List.length_filter_le _ _) (by simp)

theorem one1 {x : Int} : ∀ e ∈ [SV.int .i64 x], e.cells.length = 1 := by simp [SV.cells]
theorem app_map {O : List Int} {x : Int} : O.map (SV.int .i64) ++ flatE [SV.int .i64 x] = (O ++ [x]).map (SV.int .i64) := by simp [flatE, SV.cells]

theorem k23 {pl wn : List Bool} {mv : List (List Int)} {R : List Int} : E.Fn Try.prog 23 [mach pl mv wn, ints R] (ranksR pl mv wn R) := by
  refine fn_of_row okf23 ?_
  unfold ranksR
  by_cases h : chkM pl mv wn = 0
  · have hv := valid_of h
    have h1 := hv.few
    have h2 := hv.pos
    rw [if_neg (by simpa using h)]
    simp only [FRow.start, f23, c23r0, c23r1, mach, bools, h, ints, go_sem, ↓reduceIte, reduceCtorEq, Nat.reduceAdd, Nat.reduceSub, Nat.reduceLT, Nat.reduceLeDiff]
    refine callK_of rfl (k58 (ps := []) hv rfl) (.inr rfl) ?_
    simp only [c23r2, boardV, c23r4, Int.natCast_inj, go_sem, ↓reduceIte, reduceCtorEq, Nat.reduceAdd, Nat.reduceSub, Nat.reduceLT, Nat.reduceLeDiff]
    intro _
    refine ⟨fun hl => ?_, fun hl => ?_⟩
    · rw [if_neg (by simpa using hl)]
      simp only [c23r6, go_sem, ↓reduceIte, reduceCtorEq, Nat.reduceAdd, Nat.reduceSub, Nat.reduceLT, Nat.reduceLeDiff]
      refine callK_of rfl (k60 (l := R)) (.inl rfl) ?_
      cases hin : inAll (-1) 14 R with
      | false =>
        simp only [c23r7, go_sem, ↓reduceIte, reduceCtorEq, Nat.reduceAdd, Nat.reduceSub, Nat.reduceLT, Nat.reduceLeDiff]
      | true =>
        rw [if_neg (by simp)]
        generalize hq : (fun i => decide (0 ≤ getI R i)) = q
        have hq' : ∀ x, q x = decide (0 ≤ getI R x) := fun x => by rw [← hq]
        simp only [c23r8, c23r9, go_sem, ↓reduceIte, reduceCtorEq, Nat.reduceAdd, Nat.reduceSub, Nat.reduceLT, Nat.reduceLeDiff]
        intro _
        refine loop_rule (fun n τ => ∃ i : Nat, n = mv.length - i ∧ i ≤ mv.length ∧ (List.range i).all (rankOk pl mv wn R) = true ∧
          τ = ⟨[.any, .any, .s (.ptr [.slice (pl.map .bool), .slice (mv.map ints), .slice (wn.map .bool)]), .s (.ptr [.slice (R.map (.int .i64))]), .any, .any, .s (.ptr (bools pl :: .slice (mv.map ints) :: bools wn :: (pad (distW pl mv wn)).map (.int .i64))), .any, .sl 0 0 (outP q i).length 1 false, .any, .any, .any, .any, .any, .any, .any, .any, .any, .any, .any, .any, .any, .any, .any, .any, .any, .any, .any, .any, .any, .any, .any, .s (.slice (R.map (.int .i64))), .s (.int .i64 R.length), .s (.int .i64 i), .any, .any, .any, .any, .any, .any, .any, .any, .any, .any, .any, .any, .any, .any, .any, .any, .any, .any, .any, .any, .any, .any, .any, .any, .any, .any, .any, .any, .any, .any, .any, .any, .any, .any, .any, .any, .any, .any], [.row ((outP q i).map (SV.int .i64))]⟩) mv.length (promo_one rfl) ?_ ?_
        · simp only [c23l20m, go_sem, ↓reduceIte, reduceCtorEq, Nat.reduceAdd, Nat.reduceSub, Nat.reduceLT, Nat.reduceLeDiff]
          exact ⟨0, rfl, Nat.zero_le _, rfl, by simp [outP]⟩
        · rintro I n τ ⟨i, rfl, hi, hall, rfl⟩ hI
          simp only [c23l20, c23r10, go_sem, ↓reduceIte, reduceCtorEq, Nat.reduceAdd, Nat.reduceSub, Nat.reduceLT, Nat.reduceLeDiff]
          refine ⟨fun hlt => ?_, fun hge => ?_⟩
          · have hlt' : i < mv.length := by omega
            have hx : R[i]? = some (getI R i) := by have := getI_get (W := R) (x := i) (by omega) (by omega); rwa [Int.toNat_natCast] at this
            have hw : wn[i]? = some (wn.getD i false) := by have := hv.wn; rw [List.getD_eq_getElem?_getD, List.getElem?_eq_getElem (by omega), Option.getD_some]
            have hi2 : i < wn.length := by have := hv.wn; omega
            have hrk : rankOk pl mv wn R i = ((decide (getI R i = 0) == wn.getD i false) && (decide (getI R i ≤ 0) || wins1 (pl.getD i false) (mv.getD i []) (lessB R (getI R i)))) := rfl
            generalize wn.getD i false = b at *
            have hos := outP_succ q i
            have hol := outP_len q i
            rw [hq'] at hos
            generalize hO : outP q i = O at *
            have hr15 := List.all_eq_true.1 hin (getI R i) (List.mem_of_getElem? hx)
            simp only [Bool.and_eq_true, decide_eq_true_eq] at hr15
            have hall' : rankOk pl mv wn R i = true → (List.range (i + 1)).all (rankOk pl mv wn R) = true := fun h => by rw [List.range_succ, List.all_append, hall]; simp [h]
            have hbad : rankOk pl mv wn R i = false → (List.range mv.length).all (rankOk pl mv wn R) = false := fun h => by
              rw [Bool.eq_false_iff]
              intro h3
              rw [List.all_eq_true] at h3
              have := h3 i (by simpa using hlt')
              rw [h] at this; cases this
            simp only [c23r11, hx, splice, c23r12, c23r13, hw, hi2, go_sem, ↓reduceIte, reduceCtorEq, Nat.reduceAdd, Nat.reduceSub, Nat.reduceLT, Nat.reduceLeDiff]
            refine ⟨fun he => ?_, fun he => ?_⟩
            · have he' : decide (getI R i = 0) = b := by simpa using he
              rw [← he', beq_self_eq_true, Bool.true_and] at hrk
              simp only [c23r15, go_sem, ↓reduceIte, reduceCtorEq, Nat.reduceAdd, Nat.reduceSub, Nat.reduceLT, Nat.reduceLeDiff]
              refine ⟨fun hpos => ?_, fun hpos => ?_⟩
              · have hle : decide (getI R i ≤ 0) = false := by simp; omega
                rw [hle, Bool.false_or] at hrk
                refine callK_of (by simp only [ints, go_sem, ↓reduceIte, reduceCtorEq, Nat.reduceAdd, Nat.reduceSub, Nat.reduceLT, Nat.reduceLeDiff]) (k66 (g := 65) (first := []) (caps := [.ptr [.int .i64 (getI R i)], .ptr [ints R]]) (p := lessB R (getI R i)) (pl := pl) (mv := mv) (i := i) (rest := bools wn :: (pad (distW pl mv wn)).map (SV.int .i64)) ⟨tbl_fn 65 rfl, rfl⟩ hlt' hv.pl fun x hx2 => ?_) (.inl rfl) ?_
                · have hins := hv.ins _ (List.mem_of_getElem? (show mv[i]? = some (mv.getD i []) by rw [List.getD_eq_getElem?_getD, List.getElem?_eq_getElem hlt', Option.getD_some])) x hx2
                  exact k65 hins.1 (by omega) (by omega) (by omega)
                · cases hw1 : wins1 (pl.getD i false) (mv.getD i []) (lessB R (getI R i)) with
                  | false =>
                    have := hbad (by rw [hrk, hw1])
                    simp only [c23r16, this, Bool.false_eq_true, go_sem, ↓reduceIte, reduceCtorEq, Nat.reduceAdd, Nat.reduceSub, Nat.reduceLT, Nat.reduceLeDiff]
                  | true =>
                    rw [if_pos (by simp; omega)] at hos
                    have hge : decide (0 ≤ getI R i) = true := by simp; omega
                    simp only [c23r17, hge, c23r18, go_sem, ↓reduceIte, reduceCtorEq, Nat.reduceAdd, Nat.reduceSub, Nat.reduceLT, Nat.reduceLeDiff]
                    refine ⟨by omega, by decide, by decide, rfl, one1, one1, by omega, by omega, by omega, fun _ => ?_⟩
                    rw [Nat.zero_mul, List.drop_zero, app_map]
                    simp only [c23r19, c23l20m, go_sem, ↓reduceIte, reduceCtorEq, Nat.reduceAdd, Nat.reduceSub, Nat.reduceLT, Nat.reduceLeDiff]
                    exact ⟨inR_i64 (by omega) (by omega), hI (mv.length - (i + 1)) _ (by omega) ⟨i + 1, rfl, by omega, hall' (by rw [hrk, hw1]), by rw [hos]; simp⟩⟩
              · have hle : decide (getI R i ≤ 0) = true := by simp; omega
                rw [hle, Bool.true_or] at hrk
                simp only [c23r17, go_sem, ↓reduceIte, reduceCtorEq, Nat.reduceAdd, Nat.reduceSub, Nat.reduceLT, Nat.reduceLeDiff]
                refine ⟨fun hge => ?_, fun hge => ?_⟩
                · rw [if_pos (by simpa using hge)] at hos
                  simp only [c23r18, go_sem, ↓reduceIte, reduceCtorEq, Nat.reduceAdd, Nat.reduceSub, Nat.reduceLT, Nat.reduceLeDiff]
                  refine ⟨by omega, by decide, by decide, rfl, one1, one1, by omega, by omega, by omega, fun _ => ?_⟩
                  rw [Nat.zero_mul, List.drop_zero, app_map]
                  simp only [c23r19, c23l20m, go_sem, ↓reduceIte, reduceCtorEq, Nat.reduceAdd, Nat.reduceSub, Nat.reduceLT, Nat.reduceLeDiff]
                  exact ⟨inR_i64 (by omega) (by omega), hI (mv.length - (i + 1)) _ (by omega) ⟨i + 1, rfl, by omega, hall' hrk, by rw [hos]; simp⟩⟩
                · rw [if_neg (by simpa using hge)] at hos
                  simp only [c23r19, c23l20m, go_sem, ↓reduceIte, reduceCtorEq, Nat.reduceAdd, Nat.reduceSub, Nat.reduceLT, Nat.reduceLeDiff]
                  exact ⟨inR_i64 (by omega) (by omega), hI (mv.length - (i + 1)) _ (by omega) ⟨i + 1, rfl, by omega, hall' hrk, by rw [hos]; simp⟩⟩
            · have he' : (decide (getI R i = 0) == b) = false := by
                rw [beq_eq_false_iff_ne]
                intro h
                exact he (by rw [h])
              have := hbad (by rw [hrk, he', Bool.false_and])
              simp only [c23r14, this, Bool.false_eq_true, go_sem, ↓reduceIte, reduceCtorEq, Nat.reduceAdd, Nat.reduceSub, Nat.reduceLT, Nat.reduceLeDiff]
          · have hie : i = mv.length := by omega
            subst hie
            rw [if_pos hall]
            have hso : sliceOf 0 (outP q mv.length).length 1 ((outP q mv.length).map (SV.int .i64)) = some (.slice ((outP q mv.length).map (SV.int .i64))) := sliceOf_all (by simp)
            simp only [c23r21, hso, go_sem, ↓reduceIte, reduceCtorEq, Nat.reduceAdd, Nat.reduceSub, Nat.reduceLT, Nat.reduceLeDiff]
    · simp only [c23r5, hl, ne_eq, not_false_eq_true, go_sem, ↓reduceIte, reduceCtorEq, Nat.reduceAdd, Nat.reduceSub, Nat.reduceLT, Nat.reduceLeDiff]
  · rw [if_pos h]
    simp only [FRow.start, f23, c23r0, c23r1, mach, bools, h, ints, go_sem, ↓reduceIte, reduceCtorEq, Nat.reduceAdd, Nat.reduceSub, Nat.reduceLT, Nat.reduceLeDiff]
    refine callK_of rfl (k58e (ps := []) h) (.inl rfl) ?_
    simp only [c23r2, h, c23r3, go_sem, ↓reduceIte, reduceCtorEq, Nat.reduceAdd, Nat.reduceSub, Nat.reduceLT, Nat.reduceLeDiff]
end Go.Proofs.Ytglmjdpmpgphkaa.Sk

/- Contracts of functions: the greatest keep, and whether one proves. -/
namespace Go.Proofs.Ytglmjdpmpgphkaa.Sk
open Go Go.E Go.E.Sm
set_option maxRecDepth 10000

def keepL (pl : List Bool) (mv : List (List Int)) (wn : List Bool) : List Int := outP (fun i => decide (getI (distW pl mv wn) i < 0)) mv.length
def keepR (pl : List Bool) (mv : List (List Int)) (wn : List Bool) : List SV := if chkM pl mv wn = 0 then [ints (keepL pl mv wn), .int .i64 0] else [.slice [], .int .i64 (chkM pl mv wn)]

theorem k25 {pl wn : List Bool} {mv : List (List Int)} : E.Fn Try.prog 25 [mach pl mv wn] (keepR pl mv wn) := by
  refine fn_of_row okf25 ?_
  unfold keepR
  by_cases h : chkM pl mv wn = 0
  · have hv := valid_of h
    have h1 := hv.few
    have h2 := hv.pos
    have hdl := distW_len hv
    have hpl := pad_len (W := distW pl mv wn) (by omega)
    simp only [FRow.start, f25, c25r0, c25r1, mach, bools, h, go_sem, ↓reduceIte, reduceCtorEq, Nat.reduceAdd, Nat.reduceSub, Nat.reduceLT, Nat.reduceLeDiff]
    refine callK_of rfl (k58 (ps := []) hv rfl) (.inr rfl) ?_
    unfold keepL
    generalize hq : (fun i => decide (getI (distW pl mv wn) i < 0)) = q
    have hq' : ∀ x, q x = decide (getI (distW pl mv wn) x < 0) := fun x => by rw [← hq]
    simp only [c25r2, c25r4, boardV, c25r5, go_sem, ↓reduceIte, reduceCtorEq, Nat.reduceAdd, Nat.reduceSub, Nat.reduceLT, Nat.reduceLeDiff]
    intro _
    refine loop_rule (fun n τ => ∃ i : Nat, n = mv.length - i ∧ i ≤ mv.length ∧
      τ = ⟨[.any, .any, .any, .any, .s (.ptr (bools pl :: .slice (mv.map ints) :: bools wn :: (pad (distW pl mv wn)).map (.int .i64))), .any, .sl 0 0 (outP q i).length 1 false, .any, .any, .any, .any, .any, .any, .any, .any, .any, .any, .any, .s (.int .i64 mv.length), .s (.int .i64 i), .any, .any, .any, .any, .any, .any, .any, .any, .any, .any, .any, .any, .any, .any, .any], [.row ((outP q i).map (SV.int .i64))]⟩) mv.length (promo_one rfl) ?_ ?_
    · simp only [c25l11m, go_sem, ↓reduceIte, reduceCtorEq, Nat.reduceAdd, Nat.reduceSub, Nat.reduceLT, Nat.reduceLeDiff]
      exact ⟨0, rfl, Nat.zero_le _, by simp [outP]⟩
    · rintro I n τ ⟨i, rfl, hi, rfl⟩ hI
      have hos := outP_succ q i
      have hol := outP_len q i
      rw [hq'] at hos
      generalize hO : outP q i = O at *
      simp only [c25l11, c25r6, go_sem, ↓reduceIte, reduceCtorEq, Nat.reduceAdd, Nat.reduceSub, Nat.reduceLT, Nat.reduceLeDiff]
      refine ⟨fun hlt => ?_, fun hge => ?_⟩
      · have hg : (pad (distW pl mv wn))[i]? = some (getI (distW pl mv wn) i) := by
          have := getI_get (W := pad (distW pl mv wn)) (x := i) (by omega) (by omega)
          rwa [getI_pad, Int.toNat_natCast] at this
        simp only [c25r7, c25r8, hg, Nat.mul_one, go_sem, ↓reduceIte, reduceCtorEq, Nat.reduceAdd, Nat.reduceSub, Nat.reduceLT, Nat.reduceLeDiff]
        refine ⟨by omega, by omega, ?_⟩
        simp only [List.getElem?_drop, Nat.add_zero, hg, go_sem, ↓reduceIte, reduceCtorEq, Nat.reduceAdd, Nat.reduceSub, Nat.reduceLT, Nat.reduceLeDiff]
        refine ⟨fun hneg => ?_, fun hneg => ?_⟩
        · rw [if_pos (by simpa using hneg)] at hos
          simp only [c25r9, go_sem, ↓reduceIte, reduceCtorEq, Nat.reduceAdd, Nat.reduceSub, Nat.reduceLT, Nat.reduceLeDiff]
          refine ⟨by decide, by decide, rfl, one1, one1, by omega, by omega, by omega, ?_⟩
          rw [app_map]
          simp only [c25r10, c25l11m, go_sem, ↓reduceIte, reduceCtorEq, Nat.reduceAdd, Nat.reduceSub, Nat.reduceLT, Nat.reduceLeDiff]
          exact ⟨inR_i64 (by omega) (by omega), hI (mv.length - (i + 1)) _ (by omega) ⟨i + 1, rfl, by omega, by rw [hos]; simp⟩⟩
        · rw [if_neg (by simpa using hneg)] at hos
          simp only [c25r10, c25l11m, go_sem, ↓reduceIte, reduceCtorEq, Nat.reduceAdd, Nat.reduceSub, Nat.reduceLT, Nat.reduceLeDiff]
          exact ⟨inR_i64 (by omega) (by omega), hI (mv.length - (i + 1)) _ (by omega) ⟨i + 1, rfl, by omega, by rw [hos]; simp⟩⟩
      · have hie : i = mv.length := by omega
        subst hie
        have hso : sliceOf 0 O.length 1 (O.map (SV.int .i64)) = some (.slice (O.map (SV.int .i64))) := sliceOf_all (by simp)
        simp only [c25r12, hso, hO, ints, go_sem, ↓reduceIte, reduceCtorEq, Nat.reduceAdd, Nat.reduceSub, Nat.reduceLT, Nat.reduceLeDiff]
  · rw [if_neg h]
    simp only [FRow.start, f25, c25r0, c25r1, mach, bools, h, go_sem, ↓reduceIte, reduceCtorEq, Nat.reduceAdd, Nat.reduceSub, Nat.reduceLT, Nat.reduceLeDiff]
    refine callK_of rfl (k58e (ps := []) h) (.inl rfl) ?_
    simp only [c25r2, h, c25r3, go_sem, ↓reduceIte, reduceCtorEq, Nat.reduceAdd, Nat.reduceSub, Nat.reduceLT, Nat.reduceLeDiff]

theorem k53 {pl wn : List Bool} {mv : List (List Int)} (hv : Valid pl mv wn) : E.Fn Try.prog 53 [mach pl mv wn] [ints (keepL pl mv wn)] := by
  refine fn_of_row okf53 ?_
  have h1 := hv.few
  have hdl := distW_len hv
  simp only [FRow.start, f53, c53r0, c53r1, mach, bools, go_sem, ↓reduceIte, reduceCtorEq, Nat.reduceAdd, Nat.reduceSub, Nat.reduceLT, Nat.reduceLeDiff]
  refine callK_of rfl (k59 hv.pos hv.few hv.pl hv.wn hv.ins) (.inr rfl) ?_
  unfold keepL
  generalize hq : (fun i => decide (getI (distW pl mv wn) i < 0)) = q
  have hq' : ∀ x, q x = decide (getI (distW pl mv wn) x < 0) := fun x => by rw [← hq]
  simp only [c53r2, c53r3, ints, go_sem, ↓reduceIte, reduceCtorEq, Nat.reduceAdd, Nat.reduceSub, Nat.reduceLT, Nat.reduceLeDiff]
  refine loop_rule (fun n τ => ∃ i : Nat, n = mv.length - i ∧ i ≤ mv.length ∧
    τ = ⟨[.any, .any, .any, .s (.slice ((distW pl mv wn).map (.int .i64))), .sl 0 0 (outP q i).length 1 false, .s (.int .i64 i), .any, .any, .any, .any, .any, .any, .any, .any, .any, .any, .any, .any, .any, .any, .any, .any, .any, .any], [.row ((outP q i).map (SV.int .i64))]⟩) mv.length (promo_one rfl) ?_ ?_
  · simp only [c53l8m, go_sem, ↓reduceIte, reduceCtorEq, Nat.reduceAdd, Nat.reduceSub, Nat.reduceLT, Nat.reduceLeDiff]
    exact ⟨0, rfl, Nat.zero_le _, by simp [outP]⟩
  · rintro I n τ ⟨i, rfl, hi, rfl⟩ hI
    have hos := outP_succ q i
    have hol := outP_len q i
    rw [hq'] at hos
    generalize hO : outP q i = O at *
    simp only [c53l8, c53r4, hdl, go_sem, ↓reduceIte, reduceCtorEq, Nat.reduceAdd, Nat.reduceSub, Nat.reduceLT, Nat.reduceLeDiff]
    intro _
    refine ⟨fun hlt => ?_, fun hge => ?_⟩
    · have hg : (distW pl mv wn)[i]? = some (getI (distW pl mv wn) i) := by
        have := getI_get (W := distW pl mv wn) (x := i) (by omega) (by omega)
        rwa [Int.toNat_natCast] at this
      have hl2 : i < (distW pl mv wn).length := by omega
      simp only [c53r5, hg, hl2, go_sem, ↓reduceIte, reduceCtorEq, Nat.reduceAdd, Nat.reduceSub, Nat.reduceLT, Nat.reduceLeDiff]
      refine ⟨fun hneg => ?_, fun hneg => ?_⟩
      · rw [if_pos (by simpa using hneg)] at hos
        simp only [c53r6, go_sem, ↓reduceIte, reduceCtorEq, Nat.reduceAdd, Nat.reduceSub, Nat.reduceLT, Nat.reduceLeDiff]
        refine ⟨by decide, by decide, rfl, one1, one1, by omega, by omega, by omega, ?_⟩
        rw [app_map]
        simp only [c53r7, c53l8m, go_sem, ↓reduceIte, reduceCtorEq, Nat.reduceAdd, Nat.reduceSub, Nat.reduceLT, Nat.reduceLeDiff]
        exact ⟨inR_i64 (by omega) (by omega), hI (mv.length - (i + 1)) _ (by omega) ⟨i + 1, rfl, by omega, by rw [hos]; simp⟩⟩
      · rw [if_neg (by simpa using hneg)] at hos
        simp only [c53r7, c53l8m, go_sem, ↓reduceIte, reduceCtorEq, Nat.reduceAdd, Nat.reduceSub, Nat.reduceLT, Nat.reduceLeDiff]
        exact ⟨inR_i64 (by omega) (by omega), hI (mv.length - (i + 1)) _ (by omega) ⟨i + 1, rfl, by omega, by rw [hos]; simp⟩⟩
    · have hie : i = mv.length := by omega
      subst hie
      have hso : sliceOf 0 O.length 1 (O.map (SV.int .i64)) = some (.slice (O.map (SV.int .i64))) := sliceOf_all (by simp)
      simp only [c53r9, hso, hO, go_sem, ↓reduceIte, reduceCtorEq, Nat.reduceAdd, Nat.reduceSub, Nat.reduceLT, Nat.reduceLeDiff]

theorem k26 {pl wn : List Bool} {mv : List (List Int)} : E.Fn Try.prog 26 [mach pl mv wn] (keepR pl mv wn) := by
  refine fn_of_row okf26 ?_
  unfold keepR
  simp only [FRow.start, f26, c26r0, c26r1, mach, bools, go_sem, ↓reduceIte, reduceCtorEq, Nat.reduceAdd, Nat.reduceSub, Nat.reduceLT, Nat.reduceLeDiff]
  refine callK_of rfl (k21 (pl := pl) (mv := mv) (wn := wn)) (.inl rfl) ?_
  by_cases h : chkM pl mv wn = 0
  · have hv := valid_of h
    simp only [h, c26r3, go_sem, ↓reduceIte, reduceCtorEq, Nat.reduceAdd, Nat.reduceSub, Nat.reduceLT, Nat.reduceLeDiff]
    refine callK_of rfl (k53 hv) (.inr rfl) ?_
    simp only [ints, go_sem, ↓reduceIte, reduceCtorEq, Nat.reduceAdd, Nat.reduceSub, Nat.reduceLT, Nat.reduceLeDiff]
  · simp only [h, c26r2, go_sem, ↓reduceIte, reduceCtorEq, Nat.reduceAdd, Nat.reduceSub, Nat.reduceLT, Nat.reduceLeDiff]
    refine callK_of rfl (k21 (pl := pl) (mv := mv) (wn := wn)) (.inl rfl) ?_
    simp only [go_sem, ↓reduceIte, reduceCtorEq, Nat.reduceAdd, Nat.reduceSub, Nat.reduceLT, Nat.reduceLeDiff]

/-- Whether a keep is broken at a position. -/
def badK (pl : List Bool) (mv : List (List Int)) (wn : List Bool) (K : List Int) (x : Int) : Bool :=
  wn.getD x.toNat false || wins1 (pl.getD x.toNat false) (mv.getD x.toNat []) (fun k => !hasL K k)
def ckR (pl : List Bool) (mv : List (List Int)) (wn : List Bool) (K : List Int) : Int :=
  if chkM pl mv wn ≠ 0 then chkM pl mv wn else if rise 0 mv.length K = false then 2 else if K.any (badK pl mv wn K) = true then 14 else 0

theorem k27 {pl wn : List Bool} {mv : List (List Int)} {K : List Int} : E.Fn Try.prog 27 [mach pl mv wn, ints K] [.int .i64 (ckR pl mv wn K)] := by
  refine fn_of_row okf27 ?_
  unfold ckR
  by_cases h : chkM pl mv wn = 0
  · have hv := valid_of h
    have h1 := hv.few
    have h2 := hv.pos
    rw [if_neg (by simpa using h)]
    simp only [FRow.start, f27, c27r0, c27r1, mach, bools, h, ints, go_sem, ↓reduceIte, reduceCtorEq, Nat.reduceAdd, Nat.reduceSub, Nat.reduceLT, Nat.reduceLeDiff]
    refine callK_of rfl (k58 (ps := []) hv rfl) (.inr rfl) ?_
    simp only [c27r2, boardV, c27r4, go_sem, ↓reduceIte, reduceCtorEq, Nat.reduceAdd, Nat.reduceSub, Nat.reduceLT, Nat.reduceLeDiff]
    refine callK_of rfl (k63 (l := K) (by omega) (by omega)) (.inl rfl) ?_
    cases hr : rise 0 mv.length K with
    | false =>
      simp only [hr, go_sem, ↓reduceIte, reduceCtorEq, Nat.reduceAdd, Nat.reduceSub, Nat.reduceLT, Nat.reduceLeDiff]
      intro _
      simp only [c27r5, go_sem, ↓reduceIte, reduceCtorEq, Nat.reduceAdd, Nat.reduceSub, Nat.reduceLT, Nat.reduceLeDiff]
    | true =>
      simp only [hr, go_sem, ↓reduceIte, reduceCtorEq, Nat.reduceAdd, Nat.reduceSub, Nat.reduceLT, Nat.reduceLeDiff]
      intro _
      have hmem := rise_mem _ _ K hr
      simp only [c27r6, c27r7, go_sem, ↓reduceIte, reduceCtorEq, Nat.reduceAdd, Nat.reduceSub, Nat.reduceLT, Nat.reduceLeDiff]
      intro hkl
      have hkl' : (K.length : Int) ≤ 2 ^ 63 - 1 := Int.le_trans (Int.ofNat_le.mpr hkl) maxLen_le
      refine loop_rule (fun n τ => ∃ i : Nat, n = K.length - i ∧ i ≤ K.length ∧ K.any (badK pl mv wn K) = (K.drop i).any (badK pl mv wn K) ∧
        τ = ⟨[.any, .any, .s (.ptr [.slice (pl.map .bool), .slice (mv.map ints), .slice (wn.map .bool)]), .any, .any, .s (.ptr (bools pl :: .slice (mv.map ints) :: bools wn :: (pad (distW pl mv wn)).map (.int .i64))), .any, .fn 68 [] [.s (.ptr [.slice (K.map (.int .i64))])], .any, .any, .any, .any, .any, .any, .any, .any, .any, .any, .any, .any, .any, .any, .any, .any, .any, .any, .any, .s (.slice (K.map (.int .i64))), .s (.int .i64 K.length), .s (.int .i64 i), .any, .any, .any, .any, .any, .any, .any, .any, .any, .any, .any, .any, .any, .any, .any], []⟩) K.length rfl ?_ ?_
      · simp only [c27l13m, go_sem, ↓reduceIte, reduceCtorEq, Nat.reduceAdd, Nat.reduceSub, Nat.reduceLT, Nat.reduceLeDiff]
        exact ⟨0, rfl, Nat.zero_le _, rfl, rfl⟩
      · rintro I n τ ⟨i, rfl, hi, hb, rfl⟩ hI
        simp only [c27l13, c27r8, go_sem, ↓reduceIte, reduceCtorEq, Nat.reduceAdd, Nat.reduceSub, Nat.reduceLT, Nat.reduceLeDiff]
        refine ⟨fun hlt => ?_, fun hge => ?_⟩
        · have hx : K[i]? = some K[i] := List.getElem?_eq_getElem hlt
          have hdrop : K.drop i = K[i] :: K.drop (i + 1) := List.drop_eq_getElem_cons hlt
          have hxm := hmem _ (List.getElem_mem hlt)
          rw [hdrop, List.any_cons] at hb
          generalize K[i] = x at *
          have hw : wn[x.toNat]? = some (wn.getD x.toNat false) := by have := hv.wn; rw [List.getD_eq_getElem?_getD, List.getElem?_eq_getElem (by omega), Option.getD_some]
          have hw2 : x.toNat < wn.length := by have := hv.wn; omega
          have hbk : badK pl mv wn K x = (wn.getD x.toNat false || wins1 (pl.getD x.toNat false) (mv.getD x.toNat []) (fun k => !hasL K k)) := rfl
          have hxx : (x.toNat : Int) = x := by omega
          generalize wn.getD x.toNat false = b at *
          simp only [c27r9, hx, c27r10, hw, hw2, go_sem, ↓reduceIte, reduceCtorEq, Nat.reduceAdd, Nat.reduceSub, Nat.reduceLT, Nat.reduceLeDiff]
          refine ⟨hxm.1, ?_⟩
          cases b with
          | true =>
            rw [hbk, Bool.true_or, Bool.true_or] at hb
            simp only [c27r11, hb, go_sem, ↓reduceIte, reduceCtorEq, Nat.reduceAdd, Nat.reduceSub, Nat.reduceLT, Nat.reduceLeDiff]
          | false =>
            rw [hbk, Bool.false_or] at hb
            simp only [go_sem, ↓reduceIte, reduceCtorEq, Nat.reduceAdd, Nat.reduceSub, Nat.reduceLT, Nat.reduceLeDiff]
            have hk := k66 (g := 68) (first := []) (caps := [.ptr [ints K]]) (p := fun k => !hasL K k) (pl := pl) (mv := mv) (i := x.toNat) (rest := bools wn :: (pad (distW pl mv wn)).map (SV.int .i64)) ⟨tbl_fn 68 rfl, rfl⟩ (by omega) hv.pl fun x _ => k68
            rw [hxx] at hk
            refine callK_of rfl hk (.inl rfl) ?_
            cases hw1 : wins1 (pl.getD x.toNat false) (mv.getD x.toNat []) (fun k => !hasL K k) with
            | true =>
              rw [hw1, Bool.true_or] at hb
              simp only [c27r11, hb, go_sem, ↓reduceIte, reduceCtorEq, Nat.reduceAdd, Nat.reduceSub, Nat.reduceLT, Nat.reduceLeDiff]
            | false =>
              rw [hw1, Bool.false_or] at hb
              simp only [c27r12, c27l13m, go_sem, ↓reduceIte, reduceCtorEq, Nat.reduceAdd, Nat.reduceSub, Nat.reduceLT, Nat.reduceLeDiff]
              exact ⟨inR_i64 (by omega) (by omega), hI (K.length - (i + 1)) _ (by omega) ⟨i + 1, rfl, by omega, hb, by simp⟩⟩
        · have hie : i = K.length := by omega
          subst hie
          rw [List.drop_length, List.any_nil] at hb
          simp only [c27r14, hb, Bool.false_eq_true, go_sem, ↓reduceIte, reduceCtorEq, Nat.reduceAdd, Nat.reduceSub, Nat.reduceLT, Nat.reduceLeDiff]
  · rw [if_pos h]
    simp only [FRow.start, f27, c27r0, c27r1, mach, bools, h, ints, go_sem, ↓reduceIte, reduceCtorEq, Nat.reduceAdd, Nat.reduceSub, Nat.reduceLT, Nat.reduceLeDiff]
    refine callK_of rfl (k58e (ps := []) h) (.inl rfl) ?_
    simp only [c27r2, h, c27r3, go_sem, ↓reduceIte, reduceCtorEq, Nat.reduceAdd, Nat.reduceSub, Nat.reduceLT, Nat.reduceLeDiff]
end Go.Proofs.Ytglmjdpmpgphkaa.Sk

/- Contracts of functions: whether a keep, and ranks, prove, as the document has it. -/
namespace Go.Proofs.Ytglmjdpmpgphkaa.Sk
open Go Go.E Go.E.Sm
set_option maxRecDepth 10000

theorem countP_take {p : Int → Bool} {l : List Int} {j : Nat} {x : Int} (h : l[j]? = some x) : (l.take (j + 1)).countP p = (l.take j).countP p + (if p x = true then 1 else 0) := by
  rw [List.take_succ, h, List.countP_append]
  simp
theorem countP_le_take (p : Int → Bool) (l : List Int) (j : Nat) : (l.take j).countP p ≤ j := Nat.le_trans List.countP_le_length (by simp; omega)
theorem count_any {p : Int → Bool} {l : List Int} : l.any p = true ↔ 0 < l.countP p := by
  rw [List.countP_pos_iff, List.any_eq_true]
theorem count_all {p : Int → Bool} {l : List Int} : l.all p = true ↔ l.countP p = l.length := by
  rw [List.countP_eq_length, List.all_eq_true]
theorem count_not {p : Int → Bool} {l : List Int} : (l.countP fun x => !p x) + l.countP p = l.length := by
  induction l with
  | nil => rfl
  | cons x l ih =>
    simp only [List.countP_cons, List.length_cons]
    cases p x <;> simp <;> omega
theorem wins_count {b : Bool} {l : List Int} {p : Int → Bool} : wins1 b l p = true ↔ if b = true then 0 < l.countP p else 0 < l.length ∧ l.countP p = l.length := by
  unfold wins1
  cases b with
  | true => simp only [if_true]; exact count_any
  | false =>
    simp only [Bool.false_eq_true, if_false, Bool.and_eq_true, Bool.not_eq_true']
    rw [count_all]
    cases l <;> simp

theorem k28 {pl wn : List Bool} {mv : List (List Int)} {K : List Int} : E.Fn Try.prog 28 [mach pl mv wn, ints K] [.int .i64 (ckR pl mv wn K)] := by
  refine fn_of_row okf28 ?_
  unfold ckR
  simp only [FRow.start, f28, c28r0, c28r1, mach, bools, ints, go_sem, ↓reduceIte, reduceCtorEq, Nat.reduceAdd, Nat.reduceSub, Nat.reduceLT, Nat.reduceLeDiff]
  refine callK_of rfl (k21 (pl := pl) (mv := mv) (wn := wn)) (.inl rfl) ?_
  by_cases h : chkM pl mv wn = 0
  · have hv := valid_of h
    have h1 := hv.few
    have h2 := hv.pos
    rw [if_neg (by simpa using h)]
    simp only [h, c28r3, go_sem, ↓reduceIte, reduceCtorEq, Nat.reduceAdd, Nat.reduceSub, Nat.reduceLT, Nat.reduceLeDiff]
    refine callK_of rfl (k64 (l := K)) (.inl rfl) ?_
    cases hr : rise 0 mv.length K with
    | false =>
      simp only [hr, go_sem, ↓reduceIte, reduceCtorEq, Nat.reduceAdd, Nat.reduceSub, Nat.reduceLT, Nat.reduceLeDiff]
      intro _
      simp only [c28r4, go_sem, ↓reduceIte, reduceCtorEq, Nat.reduceAdd, Nat.reduceSub, Nat.reduceLT, Nat.reduceLeDiff]
    | true =>
      simp only [hr, go_sem, ↓reduceIte, reduceCtorEq, Nat.reduceAdd, Nat.reduceSub, Nat.reduceLT, Nat.reduceLeDiff]
      intro _
      have hmem := rise_mem _ _ K hr
      simp only [c28r5, go_sem, ↓reduceIte, reduceCtorEq, Nat.reduceAdd, Nat.reduceSub, Nat.reduceLT, Nat.reduceLeDiff]
      refine loop_rule (fun n τ => ∃ i : Nat, n = K.length - i ∧ i ≤ K.length ∧ K.any (badK pl mv wn K) = (K.drop i).any (badK pl mv wn K) ∧
        τ = ⟨[.any, .s (.slice (K.map (.int .i64))), .s (.ptr [.slice (pl.map .bool), .slice (mv.map ints), .slice (wn.map .bool)]), .any, .any, .s (.int .i64 i), .any, .any, .any, .any, .any, .any, .any, .any, .any, .any, .any, .any, .any, .any, .any, .any, .any, .any, .any, .any, .any, .any, .any, .any, .any, .any, .any, .any, .any, .any, .any, .any, .any, .any, .any, .any, .any, .any, .any, .any, .any, .any, .any, .any, .any, .any, .any, .any, .any, .any, .any, .any, .any, .any, .any, .any, .any, .any, .any, .any, .any, .any, .any, .any, .any, .any, .any, .any, .any, .any, .any, .any, .any, .any, .any, .any, .any, .any, .any, .any, .any, .any, .any, .any, .any, .any], []⟩) K.length rfl ?_ ?_
      · simp only [c28l18m, go_sem, ↓reduceIte, reduceCtorEq, Nat.reduceAdd, Nat.reduceSub, Nat.reduceLT, Nat.reduceLeDiff]
        exact ⟨0, rfl, Nat.zero_le _, rfl, rfl⟩
      · rintro I n τ ⟨i, rfl, hi, hb, rfl⟩ hI
        simp only [c28l18, c28r6, go_sem, ↓reduceIte, reduceCtorEq, Nat.reduceAdd, Nat.reduceSub, Nat.reduceLT, Nat.reduceLeDiff]
        intro hkl
        have hkl' : (K.length : Int) ≤ 2 ^ 63 - 1 := Int.le_trans (Int.ofNat_le.mpr hkl) maxLen_le
        refine ⟨fun hlt => ?_, fun hge => ?_⟩
        · have hx : K[i]? = some K[i] := List.getElem?_eq_getElem hlt
          have hdrop : K.drop i = K[i] :: K.drop (i + 1) := List.drop_eq_getElem_cons hlt
          have hxm := hmem _ (List.getElem_mem hlt)
          rw [hdrop, List.any_cons] at hb
          generalize K[i] = x at *
          have hmx : mv[x.toNat]? = some (mv.getD x.toNat []) := by rw [List.getD_eq_getElem?_getD, List.getElem?_eq_getElem (by omega), Option.getD_some]
          have hw : wn[x.toNat]? = some (wn.getD x.toNat false) := by have := hv.wn; rw [List.getD_eq_getElem?_getD, List.getElem?_eq_getElem (by omega), Option.getD_some]
          have hp : pl[x.toNat]? = some (pl.getD x.toNat false) := by have := hv.pl; rw [List.getD_eq_getElem?_getD, List.getElem?_eq_getElem (by omega), Option.getD_some]
          have hw2 : x.toNat < wn.length := by have := hv.wn; omega
          have hp2 : x.toNat < pl.length := by have := hv.pl; omega
          have hm2 : x.toNat < mv.length := by omega
          have hbk : badK pl mv wn K x = (wn.getD x.toNat false || wins1 (pl.getD x.toNat false) (mv.getD x.toNat []) (fun k => !hasL K k)) := rfl
          generalize wn.getD x.toNat false = b at *
          generalize pl.getD x.toNat false = p at *
          generalize mv.getD x.toNat [] = l at *
          simp only [c28r7, hx, hlt, hmx, hm2, ints, go_sem, ↓reduceIte, reduceCtorEq, Nat.reduceAdd, Nat.reduceSub, Nat.reduceLT, Nat.reduceLeDiff]
          refine ⟨hxm.1, ?_⟩
          simp only [c28r8, c28r9, go_sem, ↓reduceIte, reduceCtorEq, Nat.reduceAdd, Nat.reduceSub, Nat.reduceLT, Nat.reduceLeDiff]
          refine loop_rule (fun n τ => ∃ j : Nat, n = l.length - j ∧ j ≤ l.length ∧
            τ = ⟨[.any, .s (.slice (K.map (.int .i64))), .s (.ptr [.slice (pl.map .bool), .slice (mv.map ints), .slice (wn.map .bool)]), .any, .any, .s (.int .i64 i), .s (.slice (l.map (.int .i64))), .s (.int .i64 ((l.take j).countP (hasL K) : Nat)), .s (.int .i64 j), .any, .any, .any, .any, .any, .any, .any, .any, .any, .any, .any, .any, .any, .any, .any, .any, .any, .any, .any, .any, .any, .any, .any, .any, .any, .any, .any, .any, .any, .any, .any, .any, .any, .any, .any, .any, .any, .any, .any, .any, .any, .any, .any, .any, .any, .any, .any, .any, .any, .any, .any, .any, .any, .any, .any, .any, .any, .any, .any, .any, .any, .any, .any, .any, .any, .any, .any, .any, .any, .any, .any, .any, .any, .any, .any, .any, .any, .any, .any, .any, .any, .any, .any], []⟩) l.length rfl ?_ ?_
          · simp only [c28l14m, go_sem, ↓reduceIte, reduceCtorEq, Nat.reduceAdd, Nat.reduceSub, Nat.reduceLT, Nat.reduceLeDiff]
            exact ⟨0, rfl, Nat.zero_le _, rfl⟩
          · rintro I2 n τ ⟨j, rfl, hj, rfl⟩ hI2
            simp only [c28l14, c28r10, go_sem, ↓reduceIte, reduceCtorEq, Nat.reduceAdd, Nat.reduceSub, Nat.reduceLT, Nat.reduceLeDiff]
            intro hll
            have hll' : (l.length : Int) ≤ 2 ^ 63 - 1 := Int.le_trans (Int.ofNat_le.mpr hll) maxLen_le
            refine ⟨fun hlt2 => ?_, fun hge2 => ?_⟩
            · have hy : l[j]? = some l[j] := List.getElem?_eq_getElem hlt2
              have hcs := countP_take (p := hasL K) hy
              have hcl := countP_le_take (hasL K) l j
              generalize l[j] = y at *
              simp only [c28r11, hy, hlt2, go_sem, ↓reduceIte, reduceCtorEq, Nat.reduceAdd, Nat.reduceSub, Nat.reduceLT, Nat.reduceLeDiff]
              refine callK_of rfl (k49 (xs := K) (v := y)) (.inl rfl) ?_
              cases hk : hasL K y with
              | true =>
                rw [hk, if_pos rfl] at hcs
                simp only [c28r12, c28r13, c28l14m, go_sem, ↓reduceIte, reduceCtorEq, Nat.reduceAdd, Nat.reduceSub, Nat.reduceLT, Nat.reduceLeDiff]
                exact ⟨inR_i64 (by omega) (by omega), inR_i64 (by omega) (by omega), hI2 (l.length - (j + 1)) _ (by omega) ⟨j + 1, rfl, by omega, by rw [hcs]; simp⟩⟩
              | false =>
                rw [hk, if_neg (by simp)] at hcs
                simp only [c28r13, c28l14m, go_sem, ↓reduceIte, reduceCtorEq, Nat.reduceAdd, Nat.reduceSub, Nat.reduceLT, Nat.reduceLeDiff]
                exact ⟨inR_i64 (by omega) (by omega), hI2 (l.length - (j + 1)) _ (by omega) ⟨j + 1, rfl, by omega, by rw [hcs]; simp⟩⟩
            · have hje : j = l.length := by omega
              subst hje
              have hnot := count_not (p := hasL K) (l := l)
              have hwc := wins_count (b := p) (l := l) (p := fun k => !hasL K k)
              have goOn : badK pl mv wn K x = false → I ⟨[.any, .s (.slice (K.map (.int .i64))), .s (.ptr [.slice (pl.map .bool), .slice (mv.map ints), .slice (wn.map .bool)]), .any, .any, .s (.int .i64 (i + 1)), .any, .any, .any, .any, .any, .any, .any, .any, .any, .any, .any, .any, .any, .any, .any, .any, .any, .any, .any, .any, .any, .any, .any, .any, .any, .any, .any, .any, .any, .any, .any, .any, .any, .any, .any, .any, .any, .any, .any, .any, .any, .any, .any, .any, .any, .any, .any, .any, .any, .any, .any, .any, .any, .any, .any, .any, .any, .any, .any, .any, .any, .any, .any, .any, .any, .any, .any, .any, .any, .any, .any, .any, .any, .any, .any, .any, .any, .any, .any, .any, .any, .any, .any, .any, .any, .any], []⟩ := fun he =>
                hI (K.length - (i + 1)) _ (by omega) ⟨i + 1, rfl, by omega, by rw [hb, he, Bool.false_or], by simp⟩
              have bad : badK pl mv wn K x = true → K.any (badK pl mv wn K) = true := fun he => by rw [hb, he, Bool.true_or]
              rw [List.take_length]
              generalize l.countP (hasL K) = c at *
              cases b with
              | true =>
                simp only [c28r15, hx, hlt, hw, hw2, go_sem, ↓reduceIte, reduceCtorEq, Nat.reduceAdd, Nat.reduceSub, Nat.reduceLT, Nat.reduceLeDiff]
                refine ⟨hxm.1, ?_⟩
                simp only [c28r16, bad (by rw [hbk]; rfl), go_sem, ↓reduceIte, reduceCtorEq, Nat.reduceAdd, Nat.reduceSub, Nat.reduceLT, Nat.reduceLeDiff]
              | false => cases p with
                | true =>
                  simp only [if_true] at hwc
                  rw [Bool.false_or] at hbk
                  simp only [c28r15, hx, hlt, hw, hw2, hp, hp2, go_sem, ↓reduceIte, reduceCtorEq, Nat.reduceAdd, Nat.reduceSub, Nat.reduceLT, Nat.reduceLeDiff]
                  refine ⟨hxm.1, hxm.1, fun hc _ => ?_, fun hc => ⟨hxm.1, fun _ => ?_⟩⟩
                  · simp only [c28r16, bad (by rw [hbk]; exact hwc.2 (by omega)), go_sem, ↓reduceIte, reduceCtorEq, Nat.reduceAdd, Nat.reduceSub, Nat.reduceLT, Nat.reduceLeDiff]
                  · have : badK pl mv wn K x = false := by
                      rw [hbk, Bool.eq_false_iff]
                      intro he
                      have := hwc.1 he
                      omega
                    simp only [c28r17, c28l18m, go_sem, ↓reduceIte, reduceCtorEq, Nat.reduceAdd, Nat.reduceSub, Nat.reduceLT, Nat.reduceLeDiff]
                    exact ⟨inR_i64 (by omega) (by omega), goOn this⟩
                | false =>
                  simp only [Bool.false_eq_true, if_false] at hwc
                  rw [Bool.false_or] at hbk
                  have nok : ¬ (0 < l.length ∧ c = 0) → badK pl mv wn K x = false := fun hn => by
                    rw [hbk, Bool.eq_false_iff]
                    intro he
                    have := hwc.1 he
                    omega
                  simp only [c28r15, hx, hlt, hw, hw2, hp, hp2, go_sem, ↓reduceIte, reduceCtorEq, Nat.reduceAdd, Nat.reduceSub, Nat.reduceLT, Nat.reduceLeDiff]
                  refine ⟨hxm.1, hxm.1, hxm.1, fun hc => ?_, fun hc => ?_⟩
                  · intro _
                    refine ⟨fun h5 => ?_, fun h5 => ?_⟩
                    · simp only [c28r16, bad (by rw [hbk]; exact hwc.2 (by omega)), go_sem, ↓reduceIte, reduceCtorEq, Nat.reduceAdd, Nat.reduceSub, Nat.reduceLT, Nat.reduceLeDiff]
                    · simp only [c28r17, c28l18m, go_sem, ↓reduceIte, reduceCtorEq, Nat.reduceAdd, Nat.reduceSub, Nat.reduceLT, Nat.reduceLeDiff]
                      exact ⟨inR_i64 (by omega) (by omega), goOn (nok (by omega))⟩
                  · simp only [c28r17, c28l18m, go_sem, ↓reduceIte, reduceCtorEq, Nat.reduceAdd, Nat.reduceSub, Nat.reduceLT, Nat.reduceLeDiff]
                    exact ⟨inR_i64 (by omega) (by omega), goOn (nok (by omega))⟩
        · have hie : i = K.length := by omega
          subst hie
          rw [List.drop_length, List.any_nil] at hb
          simp only [c28r19, hb, Bool.false_eq_true, go_sem, ↓reduceIte, reduceCtorEq, Nat.reduceAdd, Nat.reduceSub, Nat.reduceLT, Nat.reduceLeDiff]
  · rw [if_pos h]
    simp only [h, c28r2, go_sem, ↓reduceIte, reduceCtorEq, Nat.reduceAdd, Nat.reduceSub, Nat.reduceLT, Nat.reduceLeDiff]
    refine callK_of rfl (k21 (pl := pl) (mv := mv) (wn := wn)) (.inl rfl) ?_
    simp only [go_sem, ↓reduceIte, reduceCtorEq, Nat.reduceAdd, Nat.reduceSub, Nat.reduceLT, Nat.reduceLeDiff]
end Go.Proofs.Ytglmjdpmpgphkaa.Sk

/- Contracts of functions: what ranks prove, as the document has it. -/
namespace Go.Proofs.Ytglmjdpmpgphkaa.Sk
open Go Go.E Go.E.Sm
set_option maxRecDepth 10000

theorem k24 {pl wn : List Bool} {mv : List (List Int)} {R : List Int} : E.Fn Try.prog 24 [mach pl mv wn, ints R] (ranksR pl mv wn R) := by
  refine fn_of_row okf24 ?_
  unfold ranksR
  simp only [FRow.start, f24, c24r0, c24r1, mach, bools, ints, go_sem, ↓reduceIte, reduceCtorEq, Nat.reduceAdd, Nat.reduceSub, Nat.reduceLT, Nat.reduceLeDiff]
  refine callK_of rfl (k21 (pl := pl) (mv := mv) (wn := wn)) (.inl rfl) ?_
  by_cases h : chkM pl mv wn = 0
  · have hv := valid_of h
    have h1 := hv.few
    have h2 := hv.pos
    rw [if_neg (by simpa using h)]
    simp only [h, c24r3, Int.natCast_inj, go_sem, ↓reduceIte, reduceCtorEq, Nat.reduceAdd, Nat.reduceSub, Nat.reduceLT, Nat.reduceLeDiff]
    intro _
    refine ⟨fun hl => ?_, fun hl => ?_⟩
    · rw [if_neg (by simpa using hl)]
      simp only [c24r5, go_sem, ↓reduceIte, reduceCtorEq, Nat.reduceAdd, Nat.reduceSub, Nat.reduceLT, Nat.reduceLeDiff]
      refine loop_rule (fun n τ => ∃ i : Nat, n = R.length - i ∧ i ≤ R.length ∧ inAll (-1) 14 R = inAll (-1) 14 (R.drop i) ∧
        τ = ⟨[.any, .s (.slice (R.map (.int .i64))), .s (.ptr [.slice (pl.map .bool), .slice (mv.map ints), .slice (wn.map .bool)]), .any, .any, .any, .s (.int .i64 i), .any, .any, .any, .any, .any, .any, .any, .any, .any, .any, .any, .any, .any, .any, .any, .any, .any, .any, .any, .any, .any, .any, .any, .any, .any, .any, .any, .any, .any, .any, .any, .any, .any, .any, .any, .any, .any, .any, .any, .any, .any, .any, .any, .any, .any, .any, .any, .any, .any, .any, .any, .any, .any, .any, .any, .any, .any, .any, .any, .any, .any, .any, .any, .any, .any, .any, .any, .any, .any, .any, .any, .any, .any, .any, .any, .any, .any, .any, .any, .any, .any, .any, .any, .any, .any, .any, .any, .any, .any, .any, .any, .any, .any, .any, .any, .any, .any, .any, .any, .any, .any, .any, .any, .any, .any, .any, .any, .any, .any, .any, .any], []⟩) R.length rfl ?_ ?_
      · simp only [c24l10m, go_sem, ↓reduceIte, reduceCtorEq, Nat.reduceAdd, Nat.reduceSub, Nat.reduceLT, Nat.reduceLeDiff]
        exact ⟨0, rfl, Nat.zero_le _, rfl, rfl⟩
      · rintro I n τ ⟨i, rfl, hi, hin, rfl⟩ hI
        simp only [c24l10, c24r6, go_sem, ↓reduceIte, reduceCtorEq, Nat.reduceAdd, Nat.reduceSub, Nat.reduceLT, Nat.reduceLeDiff]
        intro _
        refine ⟨fun hlt => ?_, fun hge => ?_⟩
        · have hx : R[i]? = some R[i] := List.getElem?_eq_getElem hlt
          have hdrop : R.drop i = R[i] :: R.drop (i + 1) := List.drop_eq_getElem_cons hlt
          rw [hdrop] at hin
          generalize R[i] = x at *
          have hin' : inAll (-1) 14 R = ((decide (-1 ≤ x) && decide (x ≤ 14)) && inAll (-1) 14 (R.drop (i + 1))) := by rw [hin]; simp [inAll]
          simp only [c24r7, hx, hlt, go_sem, ↓reduceIte, reduceCtorEq, Nat.reduceAdd, Nat.reduceSub, Nat.reduceLT, Nat.reduceLeDiff]
          refine ⟨fun h5 => ?_, fun h5 => ⟨fun h6 => ?_, fun h6 => ?_⟩⟩
          · have e : inAll (-1) 14 R = false := by rw [hin']; have : decide (-1 ≤ x) = false := by { simp; omega }; rw [this]; rfl
            simp only [c24r8, e, go_sem, ↓reduceIte, reduceCtorEq, Nat.reduceAdd, Nat.reduceSub, Nat.reduceLT, Nat.reduceLeDiff]
          · have e : inAll (-1) 14 R = false := by rw [hin']; have : decide (x ≤ 14) = false := by { simp; omega }; rw [this]; simp
            simp only [c24r8, e, go_sem, ↓reduceIte, reduceCtorEq, Nat.reduceAdd, Nat.reduceSub, Nat.reduceLT, Nat.reduceLeDiff]
          · have e : inAll (-1) 14 R = inAll (-1) 14 (R.drop (i + 1)) := by rw [hin']; have h8 : decide (-1 ≤ x) = true := by { simp; omega }; have h9 : decide (x ≤ 14) = true := by { simp; omega }; rw [h8, h9]; rfl
            simp only [c24r9, c24l10m, go_sem, ↓reduceIte, reduceCtorEq, Nat.reduceAdd, Nat.reduceSub, Nat.reduceLT, Nat.reduceLeDiff]
            exact ⟨inR_i64 (by omega) (by omega), hI (R.length - (i + 1)) _ (by omega) ⟨i + 1, rfl, by omega, e, by simp⟩⟩
        · have hie : i = R.length := by omega
          subst hie
          have e : inAll (-1) 14 R = true := by rw [hin, List.drop_length]; rfl
          rw [if_neg (by rw [e]; simp)]
          clear hI hin
          generalize hq : (fun i => decide (0 ≤ getI R i)) = q
          have hq' : ∀ x, q x = decide (0 ≤ getI R x) := fun x => by rw [← hq]
          simp only [c24r11, c24r12, go_sem, ↓reduceIte, reduceCtorEq, Nat.reduceAdd, Nat.reduceSub, Nat.reduceLT, Nat.reduceLeDiff]
          refine loop_rule (fun n τ => ∃ i : Nat, n = mv.length - i ∧ i ≤ mv.length ∧ (List.range i).all (rankOk pl mv wn R) = true ∧
            τ = ⟨[.any, .s (.slice (R.map (.int .i64))), .s (.ptr [.slice (pl.map .bool), .slice (mv.map ints), .slice (wn.map .bool)]), .any, .any, .any, .any, .sl 0 0 (outP q i).length 1 false, .s (.int .i64 i), .any, .any, .any, .any, .any, .any, .any, .any, .any, .any, .any, .any, .any, .any, .any, .any, .any, .any, .any, .any, .any, .any, .any, .any, .any, .any, .any, .any, .any, .any, .any, .any, .any, .any, .any, .any, .any, .any, .any, .any, .any, .any, .any, .any, .any, .any, .any, .any, .any, .any, .any, .any, .any, .any, .any, .any, .any, .any, .any, .any, .any, .any, .any, .any, .any, .any, .any, .any, .any, .any, .any, .any, .any, .any, .any, .any, .any, .any, .any, .any, .any, .any, .any, .any, .any, .any, .any, .any, .any, .any, .any, .any, .any, .any, .any, .any, .any, .any, .any, .any, .any, .any, .any, .any, .any, .any, .any, .any, .any], [.row ((outP q i).map (SV.int .i64))]⟩) mv.length (promo_one rfl) ?_ ?_
          · simp only [c24l29m, go_sem, ↓reduceIte, reduceCtorEq, Nat.reduceAdd, Nat.reduceSub, Nat.reduceLT, Nat.reduceLeDiff]
            exact ⟨0, rfl, Nat.zero_le _, rfl, by simp [outP]⟩
          · rintro I n τ ⟨i, rfl, hi, hall, rfl⟩ hI
            have hos := outP_succ q i
            have hol := outP_len q i
            rw [hq'] at hos
            generalize hO : outP q i = O at *
            simp only [c24l29, c24r13, hl, go_sem, ↓reduceIte, reduceCtorEq, Nat.reduceAdd, Nat.reduceSub, Nat.reduceLT, Nat.reduceLeDiff]
            intro _
            refine ⟨fun hlt => ?_, fun hge => ?_⟩
            · have hlt' : i < mv.length := by omega
              have hx : R[i]? = some (getI R i) := by have := getI_get (W := R) (x := i) (by omega) (by omega); rwa [Int.toNat_natCast] at this
              have hx2 : i < R.length := by omega
              have hw : wn[i]? = some (wn.getD i false) := by have := hv.wn; rw [List.getD_eq_getElem?_getD, List.getElem?_eq_getElem (by omega), Option.getD_some]
              have hi2 : i < wn.length := by have := hv.wn; omega
              have hrk : rankOk pl mv wn R i = ((decide (getI R i = 0) == wn.getD i false) && (decide (getI R i ≤ 0) || wins1 (pl.getD i false) (mv.getD i []) (lessB R (getI R i)))) := rfl
              generalize wn.getD i false = b at *
              have hr15 := List.all_eq_true.1 e (getI R i) (List.mem_of_getElem? hx)
              simp only [Bool.and_eq_true, decide_eq_true_eq] at hr15
              have hall' : rankOk pl mv wn R i = true → (List.range (i + 1)).all (rankOk pl mv wn R) = true := fun h => by rw [List.range_succ, List.all_append, hall]; simp [h]
              have hbad : rankOk pl mv wn R i = false → (List.range mv.length).all (rankOk pl mv wn R) = false := fun h => by
                rw [Bool.eq_false_iff]
                intro h3
                rw [List.all_eq_true] at h3
                have := h3 i (by simpa using hlt')
                rw [h] at this; cases this
              simp only [c24r14, hx, hx2, hw, hi2, go_sem, ↓reduceIte, reduceCtorEq, Nat.reduceAdd, Nat.reduceSub, Nat.reduceLT, Nat.reduceLeDiff]
              refine ⟨fun he => ?_, fun he => ?_⟩
              · have he' : decide (getI R i = 0) = b := by simpa using he
                rw [← he', beq_self_eq_true, Bool.true_and] at hrk
                simp only [c24r16, hx, hx2, go_sem, ↓reduceIte, reduceCtorEq, Nat.reduceAdd, Nat.reduceSub, Nat.reduceLT, Nat.reduceLeDiff]
                refine ⟨fun hge => ?_, fun hge => ?_⟩
                · rw [if_pos (by simpa using hge)] at hos
                  simp only [c24r17, go_sem, ↓reduceIte, reduceCtorEq, Nat.reduceAdd, Nat.reduceSub, Nat.reduceLT, Nat.reduceLeDiff]
                  refine ⟨by decide, by decide, rfl, one1, one1, by omega, by omega, by omega, ?_⟩
                  rw [app_map]
                  simp only [c24r18, hx, hx2, go_sem, ↓reduceIte, reduceCtorEq, Nat.reduceAdd, Nat.reduceSub, Nat.reduceLT, Nat.reduceLeDiff]
                  refine ⟨fun hlt1 => ?_, fun hlt1 => ?_⟩
                  · have hle : decide (getI R i ≤ 0) = true := by simp; omega
                    rw [hle, Bool.true_or] at hrk
                    simp only [c24r28, c24l29m, go_sem, ↓reduceIte, reduceCtorEq, Nat.reduceAdd, Nat.reduceSub, Nat.reduceLT, Nat.reduceLeDiff]
                    exact ⟨inR_i64 (by omega) (by omega), hI (mv.length - (i + 1)) _ (by omega) ⟨i + 1, rfl, by omega, hall' hrk, by rw [hos]; simp⟩⟩
                  · have hle : decide (getI R i ≤ 0) = false := by simp; omega
                    rw [hle, Bool.false_or] at hrk
                    have hm : mv[i]? = some (mv.getD i []) := by rw [List.getD_eq_getElem?_getD, List.getElem?_eq_getElem hlt', Option.getD_some]
                    have hp : pl[i]? = some (pl.getD i false) := by have := hv.pl; rw [List.getD_eq_getElem?_getD, List.getElem?_eq_getElem (by omega), Option.getD_some]
                    have hp2 : i < pl.length := by have := hv.pl; omega
                    have hins := hv.ins _ (List.mem_of_getElem? hm)
                    generalize mv.getD i [] = l at *
                    generalize pl.getD i false = p at *
                    have hwc := wins_count (b := p) (l := l) (p := lessB R (getI R i))
                    simp only [c24r19, c24r20, go_sem, ↓reduceIte, reduceCtorEq, Nat.reduceAdd, Nat.reduceSub, Nat.reduceLT, Nat.reduceLeDiff]
                    refine loop_rule (fun n τ => ∃ j : Nat, n = l.length - j ∧ j ≤ l.length ∧
                      τ = ⟨[.any, .s (.slice (R.map (.int .i64))), .s (.ptr [.slice (pl.map .bool), .slice (mv.map ints), .slice (wn.map .bool)]), .any, .any, .any, .any, .sl 0 0 (O.length + 1) 1 false, .s (.int .i64 i), .s (.int .i64 ((l.take j).countP (lessB R (getI R i)) : Nat)), .s (.int .i64 j), .any, .any, .any, .any, .any, .any, .any, .any, .any, .any, .any, .any, .any, .any, .any, .any, .any, .any, .any, .any, .any, .any, .any, .any, .any, .any, .any, .any, .any, .any, .any, .any, .any, .any, .any, .any, .any, .any, .any, .any, .any, .any, .any, .any, .any, .any, .any, .any, .any, .any, .any, .any, .any, .any, .any, .any, .any, .any, .any, .any, .any, .any, .any, .any, .any, .any, .any, .any, .any, .any, .any, .any, .any, .any, .any, .any, .any, .any, .any, .any, .any, .any, .any, .any, .any, .any, .any, .any, .any, .any, .any, .any, .any, .any, .any, .any, .any, .any, .any, .any, .any, .any, .any, .any, .any, .any, .any], [.row ((O ++ [(i : Int)]).map (SV.int .i64)), .gone]⟩) l.length rfl ?_ ?_
                    · simp only [c24l25m, go_sem, ↓reduceIte, reduceCtorEq, Nat.reduceAdd, Nat.reduceSub, Nat.reduceLT, Nat.reduceLeDiff]
                      exact ⟨0, rfl, Nat.zero_le _, by simp⟩
                    · rintro I2 n τ ⟨j, rfl, hj, rfl⟩ hI2
                      simp only [c24l25, c24r21, hm, hlt', ints, go_sem, ↓reduceIte, reduceCtorEq, Nat.reduceAdd, Nat.reduceSub, Nat.reduceLT, Nat.reduceLeDiff]
                      intro hll
                      have hll' : (l.length : Int) ≤ 2 ^ 63 - 1 := Int.le_trans (Int.ofNat_le.mpr hll) maxLen_le
                      refine ⟨fun hlt2 => ?_, fun hge2 => ?_⟩
                      · have hy : l[j]? = some l[j] := List.getElem?_eq_getElem hlt2
                        have hyi := hins _ (List.getElem_mem hlt2)
                        have hcs := countP_take (p := lessB R (getI R i)) hy
                        have hcl := countP_le_take (lessB R (getI R i)) l j
                        generalize l[j] = y at *
                        simp only [c24r22, hm, hlt', hy, hlt2, hx, hx2, ints, go_sem, ↓reduceIte, reduceCtorEq, Nat.reduceAdd, Nat.reduceSub, Nat.reduceLT, Nat.reduceLeDiff]
                        refine callK_of rfl (k67 (R := R) (rank := getI R i) (to := y) hyi.1 (by omega)) (.inl rfl) ?_
                        cases hk : lessB R (getI R i) y with
                        | true =>
                          rw [hk, if_pos rfl] at hcs
                          simp only [c24r23, c24r24, c24l25m, go_sem, ↓reduceIte, reduceCtorEq, Nat.reduceAdd, Nat.reduceSub, Nat.reduceLT, Nat.reduceLeDiff]
                          exact ⟨inR_i64 (by omega) (by omega), inR_i64 (by omega) (by omega), hI2 (l.length - (j + 1)) _ (by omega) ⟨j + 1, rfl, by omega, by rw [hcs]; simp⟩⟩
                        | false =>
                          rw [hk, if_neg (by simp)] at hcs
                          simp only [c24r24, c24l25m, go_sem, ↓reduceIte, reduceCtorEq, Nat.reduceAdd, Nat.reduceSub, Nat.reduceLT, Nat.reduceLeDiff]
                          exact ⟨inR_i64 (by omega) (by omega), hI2 (l.length - (j + 1)) _ (by omega) ⟨j + 1, rfl, by omega, by rw [hcs]; simp⟩⟩
                      · have hje : j = l.length := by omega
                        subst hje
                        have hcle : l.countP (lessB R (getI R i)) ≤ l.length := List.countP_le_length
                        have goOn : rankOk pl mv wn R i = true → I ⟨[.any, .s (.slice (R.map (.int .i64))), .s (.ptr [.slice (pl.map .bool), .slice (mv.map ints), .slice (wn.map .bool)]), .any, .any, .any, .any, .sl 0 0 (O.length + 1) 1 false, .s (.int .i64 (i + 1)), .any, .any, .any, .any, .any, .any, .any, .any, .any, .any, .any, .any, .any, .any, .any, .any, .any, .any, .any, .any, .any, .any, .any, .any, .any, .any, .any, .any, .any, .any, .any, .any, .any, .any, .any, .any, .any, .any, .any, .any, .any, .any, .any, .any, .any, .any, .any, .any, .any, .any, .any, .any, .any, .any, .any, .any, .any, .any, .any, .any, .any, .any, .any, .any, .any, .any, .any, .any, .any, .any, .any, .any, .any, .any, .any, .any, .any, .any, .any, .any, .any, .any, .any, .any, .any, .any, .any, .any, .any, .any, .any, .any, .any, .any, .any, .any, .any, .any, .any, .any, .any, .any, .any, .any, .any, .any, .any, .any, .any], [.row ((O ++ [(i : Int)]).map (SV.int .i64))]⟩ := fun hk =>
                          hI (mv.length - (i + 1)) _ (by omega) ⟨i + 1, rfl, by omega, hall' hk, by rw [hos]; simp⟩
                        rw [List.take_length]
                        generalize l.countP (lessB R (getI R i)) = c at *
                        cases p with
                        | true =>
                          simp only [if_true] at hwc
                          simp only [c24r26, hp, hp2, go_sem, ↓reduceIte, reduceCtorEq, Nat.reduceAdd, Nat.reduceSub, Nat.reduceLT, Nat.reduceLeDiff]
                          refine ⟨fun hc => ?_, fun hc => ?_⟩
                          · have := hbad (by rw [hrk, Bool.eq_false_iff]; intro he; have := hwc.1 he; omega)
                            simp only [c24r27, this, Bool.false_eq_true, go_sem, ↓reduceIte, reduceCtorEq, Nat.reduceAdd, Nat.reduceSub, Nat.reduceLT, Nat.reduceLeDiff]
                          · simp only [c24r28, c24l29m, go_sem, ↓reduceIte, reduceCtorEq, Nat.reduceAdd, Nat.reduceSub, Nat.reduceLT, Nat.reduceLeDiff]
                            exact ⟨inR_i64 (by omega) (by omega), goOn (by rw [hrk]; exact hwc.2 (by omega))⟩
                        | false =>
                          simp only [Bool.false_eq_true, if_false] at hwc
                          simp only [c24r26, hp, hp2, hm, hlt', ints, go_sem, ↓reduceIte, reduceCtorEq, Nat.reduceAdd, Nat.reduceSub, Nat.reduceLT, Nat.reduceLeDiff]
                          refine ⟨fun hc => ?_, fun hc _ => ⟨fun h5 => ?_, fun h5 => ?_⟩⟩
                          · have := hbad (by rw [hrk, Bool.eq_false_iff]; intro he; have := hwc.1 he; omega)
                            simp only [c24r27, this, Bool.false_eq_true, go_sem, ↓reduceIte, reduceCtorEq, Nat.reduceAdd, Nat.reduceSub, Nat.reduceLT, Nat.reduceLeDiff]
                          · have := hbad (by rw [hrk, Bool.eq_false_iff]; intro he; have := hwc.1 he; omega)
                            simp only [c24r27, this, Bool.false_eq_true, go_sem, ↓reduceIte, reduceCtorEq, Nat.reduceAdd, Nat.reduceSub, Nat.reduceLT, Nat.reduceLeDiff]
                          · simp only [c24r28, c24l29m, go_sem, ↓reduceIte, reduceCtorEq, Nat.reduceAdd, Nat.reduceSub, Nat.reduceLT, Nat.reduceLeDiff]
                            exact ⟨inR_i64 (by omega) (by omega), goOn (by rw [hrk]; exact hwc.2 (by omega))⟩
                · rw [if_neg (by simpa using hge)] at hos
                  have hle : decide (getI R i ≤ 0) = true := by simp; omega
                  rw [hle, Bool.true_or] at hrk
                  have hl1 : decide (getI R i < 1) = true := by simp; omega
                  simp only [c24r18, hx, hx2, hl1, c24r28, c24l29m, go_sem, ↓reduceIte, reduceCtorEq, Nat.reduceAdd, Nat.reduceSub, Nat.reduceLT, Nat.reduceLeDiff]
                  exact ⟨inR_i64 (by omega) (by omega), hI (mv.length - (i + 1)) _ (by omega) ⟨i + 1, rfl, by omega, hall' hrk, by rw [hos]; simp⟩⟩
              · have he' : (decide (getI R i = 0) == b) = false := by
                  rw [beq_eq_false_iff_ne]
                  intro h
                  exact he (by rw [h])
                have := hbad (by rw [hrk, he', Bool.false_and])
                simp only [c24r15, this, Bool.false_eq_true, go_sem, ↓reduceIte, reduceCtorEq, Nat.reduceAdd, Nat.reduceSub, Nat.reduceLT, Nat.reduceLeDiff]
            · have hie : i = mv.length := by omega
              subst hie
              rw [if_pos hall]
              have hso : sliceOf 0 O.length 1 (O.map (SV.int .i64)) = some (.slice (O.map (SV.int .i64))) := sliceOf_all (by simp)
              simp only [c24r30, hso, hO, go_sem, ↓reduceIte, reduceCtorEq, Nat.reduceAdd, Nat.reduceSub, Nat.reduceLT, Nat.reduceLeDiff]
    · simp only [c24r4, hl, ne_eq, not_false_eq_true, go_sem, ↓reduceIte, reduceCtorEq, Nat.reduceAdd, Nat.reduceSub, Nat.reduceLT, Nat.reduceLeDiff]
  · rw [if_pos h]
    simp only [h, c24r2, go_sem, ↓reduceIte, reduceCtorEq, Nat.reduceAdd, Nat.reduceSub, Nat.reduceLT, Nat.reduceLeDiff]
    refine callK_of rfl (k21 (pl := pl) (mv := mv) (wn := wn)) (.inl rfl) ?_
    simp only [go_sem, ↓reduceIte, reduceCtorEq, Nat.reduceAdd, Nat.reduceSub, Nat.reduceLT, Nat.reduceLeDiff]
end Go.Proofs.Ytglmjdpmpgphkaa.Sk
