/- Contracts of functions: what ranks prove, and keeps. -/
import Derived.Test.YtglmjdpmpgphkaaM12

set_option linter.all false

namespace Go.Proofs.Ytglmjdpmpgphkaa.Sk
open Go Go.E Go.E.Sm
set_option maxRecDepth 10000

def hasL (l : List Int) (n : Int) : Bool := l.any fun x => decide (n = x)

theorem hasL_cons (x : Int) (l : List Int) (v : Int) : hasL (x :: l) v = (decide (v = x) || hasL l v) := rfl

theorem k88 {xs : List Int} {v : Int} : E.Fn Try.prog 88 [ints xs, .int .i64 v] [.int .i64 (idx (fun x => decide (v = x)) xs 0)] := by
  refine fn_of_row okf88 ?_
  simp only [FRow.start, f88, c88r0, c88r1, ints, go_sem, ↓reduceIte, reduceCtorEq, Nat.reduceAdd, Nat.reduceSub, Nat.reduceLT, Nat.reduceLeDiff]
  intro hlen
  have hlen' : (xs.length : Int) ≤ 2 ^ 63 - 1 := Int.le_trans (Int.ofNat_le.mpr hlen) maxLen_le
  generalize hp : (fun x => decide (v = x)) = p
  have hp' : ∀ x, p x = decide (v = x) := fun x => by rw [← hp]
  refine loop_rule (fun n τ => ∃ i : Nat, n = xs.length - i ∧ i ≤ xs.length ∧ idx p xs 0 = idx p (xs.drop i) i ∧
    τ = ⟨[.s (.slice (xs.map (.int .i64))), .s (.int .i64 v), .any, .any, .any, .any, .any, .s (.int .i64 xs.length), .s (.int .i64 i), .any, .any, .any, .any, .any, .any, .any, .any, .any, .any], []⟩) xs.length rfl ?_ ?_
  · simp only [c88l7m, go_sem, ↓reduceIte, reduceCtorEq, Nat.reduceAdd, Nat.reduceSub, Nat.reduceLT, Nat.reduceLeDiff]
    exact ⟨0, rfl, Nat.zero_le _, rfl, rfl⟩
  · rintro I n τ ⟨i, rfl, hi, hidx, rfl⟩ hI
    simp only [c88l7, c88r2, c88r3, go_sem, ↓reduceIte, reduceCtorEq, Nat.reduceAdd, Nat.reduceSub, Nat.reduceLT, Nat.reduceLeDiff]
    refine ⟨fun hlt => ?_, fun hge => ?_⟩
    · have hx : xs[i]? = some xs[i] := List.getElem?_eq_getElem hlt
      have hdrop : xs.drop i = xs[i] :: xs.drop (i + 1) := List.drop_eq_getElem_cons hlt
      rw [hdrop, idx, hp'] at hidx
      generalize xs[i] = x at *
      simp only [c88r4, hx, hlt, go_sem, ↓reduceIte, reduceCtorEq, Nat.reduceAdd, Nat.reduceSub, Nat.reduceLT, Nat.reduceLeDiff]
      refine ⟨fun he => ?_, fun he => ?_⟩
      · rw [if_pos (by simpa using he)] at hidx
        simp only [c88r5, hidx, go_sem, ↓reduceIte, reduceCtorEq, Nat.reduceAdd, Nat.reduceSub, Nat.reduceLT, Nat.reduceLeDiff]
      · rw [if_neg (by simpa using he)] at hidx
        simp only [c88r6, c88l7m, go_sem, ↓reduceIte, reduceCtorEq, Nat.reduceAdd, Nat.reduceSub, Nat.reduceLT, Nat.reduceLeDiff]
        exact ⟨inR_i64 (by omega) (by omega), hI (xs.length - (i + 1)) _ (by omega) ⟨i + 1, rfl, by omega, by rw [hidx]; simp, by simp⟩⟩
    · have hie : i = xs.length := by omega
      subst hie
      simp only [List.drop_length, idx] at hidx
      simp only [c88r8, hidx, go_sem, ↓reduceIte, reduceCtorEq, Nat.reduceAdd, Nat.reduceSub, Nat.reduceLT, Nat.reduceLeDiff]

theorem k69 {xs : List Int} {v : Int} : E.Fn Try.prog 69 [ints xs, .int .i64 v] [.bool (hasL xs v)] := by
  refine fn_of_row okf69 ?_
  simp only [FRow.start, f69, c69r0, c69r1, go_sem, ↓reduceIte, reduceCtorEq, Nat.reduceAdd, Nat.reduceSub, Nat.reduceLT, Nat.reduceLeDiff]
  refine callK_of rfl k88 (.inl rfl) ?_
  simp only [go_sem, ↓reduceIte, reduceCtorEq, Nat.reduceAdd, Nat.reduceSub, Nat.reduceLT, Nat.reduceLeDiff]
  have := idx_ge (fun x => decide (v = x)) xs 0
  unfold hasL
  cases h : xs.any (fun x => decide (v = x)) <;> simp_all

theorem k49 {xs : List Int} {v : Int} : E.Fn Try.prog 49 [ints xs, .int .i64 v] [.bool (hasL xs v)] := by
  refine fn_of_row okf49 ?_
  simp only [FRow.start, f49, c49r0, c49r1, ints, go_sem, ↓reduceIte, reduceCtorEq, Nat.reduceAdd, Nat.reduceSub, Nat.reduceLT, Nat.reduceLeDiff]
  refine loop_rule (fun n τ => ∃ i : Nat, n = xs.length - i ∧ i ≤ xs.length ∧ hasL xs v = hasL (xs.drop i) v ∧
    τ = ⟨[.s (.slice (xs.map (.int .i64))), .s (.int .i64 v), .any, .any, .any, .s (.int .i64 i), .any, .any, .any, .any, .any, .any, .any, .any, .any, .any, .any, .any], []⟩) xs.length rfl ?_ ?_
  · simp only [c49l6m, go_sem, ↓reduceIte, reduceCtorEq, Nat.reduceAdd, Nat.reduceSub, Nat.reduceLT, Nat.reduceLeDiff]
    exact ⟨0, rfl, Nat.zero_le _, rfl, rfl⟩
  · rintro I n τ ⟨i, rfl, hi, hr, rfl⟩ hI
    simp only [c49l6, c49r2, go_sem, ↓reduceIte, reduceCtorEq, Nat.reduceAdd, Nat.reduceSub, Nat.reduceLT, Nat.reduceLeDiff]
    intro hlen
    have hlen' : (xs.length : Int) ≤ 2 ^ 63 - 1 := Int.le_trans (Int.ofNat_le.mpr hlen) maxLen_le
    refine ⟨fun hlt => ?_, fun hge => ?_⟩
    · have hx : xs[i]? = some xs[i] := List.getElem?_eq_getElem hlt
      have hdrop : xs.drop i = xs[i] :: xs.drop (i + 1) := List.drop_eq_getElem_cons hlt
      rw [hdrop, hasL_cons] at hr
      generalize xs[i] = x at *
      simp only [c49r3, hx, hlt, go_sem, ↓reduceIte, reduceCtorEq, Nat.reduceAdd, Nat.reduceSub, Nat.reduceLT, Nat.reduceLeDiff]
      refine ⟨fun he => ?_, fun he => ?_⟩
      · have : hasL xs v = true := by rw [hr]; simp [he]
        simp only [c49r4, this, go_sem, ↓reduceIte, reduceCtorEq, Nat.reduceAdd, Nat.reduceSub, Nat.reduceLT, Nat.reduceLeDiff]
      · have hne : decide (v = x) = false := by simpa using fun h => he (Eq.symm h)
        have : hasL xs v = hasL (xs.drop (i + 1)) v := by rw [hr, hne, Bool.false_or]
        simp only [c49r5, c49l6m, go_sem, ↓reduceIte, reduceCtorEq, Nat.reduceAdd, Nat.reduceSub, Nat.reduceLT, Nat.reduceLeDiff]
        exact ⟨inR_i64 (by omega) (by omega), hI (xs.length - (i + 1)) _ (by omega) ⟨i + 1, rfl, by omega, this, by simp⟩⟩
    · have hie : i = xs.length := by omega
      subst hie
      simp only [List.drop_length, hasL, List.any_nil] at hr
      have : hasL xs v = false := hr
      simp only [c49r7, this, go_sem, ↓reduceIte, reduceCtorEq, Nat.reduceAdd, Nat.reduceSub, Nat.reduceLT, Nat.reduceLeDiff]

theorem k68 {keep : List Int} {k : Int} : Asks 68 [] [.ptr [ints keep]] (.int .i64 k) (!hasL keep k) := by
  refine fn_of_row okf68 ?_
  simp only [FRow.start, f68, c68r0, c68r1, ints, go_sem, ↓reduceIte, reduceCtorEq, Nat.reduceAdd, Nat.reduceSub, Nat.reduceLT, Nat.reduceLeDiff]
  refine callK_of rfl (k69 (xs := keep)) (.inl rfl) ?_
  simp only [go_sem, ↓reduceIte, reduceCtorEq, Nat.reduceAdd, Nat.reduceSub, Nat.reduceLT, Nat.reduceLeDiff]

def lessB (R : List Int) (rank to : Int) : Bool := decide (0 ≤ getI R to) && decide (getI R to < rank)

theorem k65 {R : List Int} {rank to : Int} (h0 : 0 ≤ to) (h1 : to < R.length) (h2 : -1 ≤ rank) (h3 : rank ≤ 2 ^ 62) : Asks 65 [] [.ptr [.int .i64 rank], .ptr [ints R]] (.int .i64 to) (lessB R rank to) := by
  refine fn_of_row okf65 ?_
  have hx := getI_get (W := R) h0 h1
  have hl : to.toNat < R.length := by omega
  simp only [FRow.start, f65, c65r0, c65r1, ints, hx, hl, go_sem, ↓reduceIte, reduceCtorEq, Nat.reduceAdd, Nat.reduceSub, Nat.reduceLT, Nat.reduceLeDiff]
  refine ⟨inR_i64 (by omega) (by omega), h0, by decide, by decide, rfl, by simp [SV.cells], callK_of rfl (k60 (l := [getI R to])) (.inl rfl) ?_⟩
  simp only [inAll, lessB, go_sem, ↓reduceIte, reduceCtorEq, Nat.reduceAdd, Nat.reduceSub, Nat.reduceLT, Nat.reduceLeDiff]
  by_cases h : getI R to < rank
  · have : getI R to ≤ rank - 1 := by omega
    simp [h, this]
  · have : ¬ getI R to ≤ rank - 1 := by omega
    simp [h, this]

theorem k67 {R : List Int} {rank to : Int} (h0 : 0 ≤ to) (h1 : to < R.length) : E.Fn Try.prog 67 [ints R, .int .i64 to, .int .i64 rank] [.bool (lessB R rank to)] := by
  refine fn_of_row okf67 ?_
  have hx := getI_get (W := R) h0 h1
  have hl : to.toNat < R.length := by omega
  simp only [FRow.start, f67, c67r0, c67r1, ints, hx, hl, lessB, go_sem, ↓reduceIte, reduceCtorEq, Nat.reduceAdd, Nat.reduceSub, Nat.reduceLT, Nat.reduceLeDiff]
  refine ⟨h0, fun h => ?_, fun h => ?_⟩
  · refine ⟨h0, ?_⟩
    simp [h]
  · simp [h]

/-- What is found wrong with ranks at a position. -/
def rankOk (pl : List Bool) (mv : List (List Int)) (wn : List Bool) (R : List Int) (i : Nat) : Bool :=
  (decide (getI R i = 0) == wn.getD i false) && (decide (getI R i ≤ 0) || wins1 (pl.getD i false) (mv.getD i []) (lessB R (getI R i)))
def outP (q : Int → Bool) (i : Nat) : List Int := ((List.range i).map fun j : Nat => (j : Int)).filter q
def ranksR (pl : List Bool) (mv : List (List Int)) (wn : List Bool) (R : List Int) : List SV :=
  if chkM pl mv wn ≠ 0 then [.slice [], .int .i64 (chkM pl mv wn)]
  else if R.length ≠ mv.length then [.slice [], .int .i64 15]
  else if inAll (-1) 14 R = false then [.slice [], .int .i64 3]
  else if (List.range mv.length).all (rankOk pl mv wn R) = true then [ints (outP (fun i => decide (0 ≤ getI R i)) mv.length), .int .i64 0] else [.slice [], .int .i64 14]

theorem outP_succ (q : Int → Bool) (i : Nat) : outP q (i + 1) = if q i = true then outP q i ++ [(i : Int)] else outP q i := by
  unfold outP
  rw [List.range_succ, List.map_append, List.filter_append]
  simp only [List.map_cons, List.map_nil, List.filter_cons, List.filter_nil]
  split <;> simp
theorem outP_len (q : Int → Bool) (i : Nat) : (outP q i).length ≤ i := by
  unfold outP
  refine Nat.le_trans (List.length_filter_le _ _) (by simp)

theorem one1 {x : Int} : ∀ e ∈ [SV.int .i64 x], e.cells.length = 1 := by simp [SV.cells]
theorem app_map {O : List Int} {x : Int} : O.map (SV.int .i64) ++ flatE [SV.int .i64 x] = (O ++ [x]).map (SV.int .i64) := by simp [flatE, SV.cells]

theorem k23 {pl wn : List Bool} {mv : List (List Int)} {R : List Int} : E.Fn Try.prog 23 [mach pl mv wn, ints R] (ranksR pl mv wn R) := by
  refine fn_of_row okf23 ?_
  unfold ranksR
  by_cases h : chkM pl mv wn = 0
  · have hv := valid_of h
    have h1 := hv.few
    have h2 := hv.pos
    rw [if_neg (by simpa using h)]
    simp only [FRow.start, f23, c23r0, c23r1, mach, bools, h, ints, go_sem, ↓reduceIte, reduceCtorEq, Nat.reduceAdd, Nat.reduceSub, Nat.reduceLT, Nat.reduceLeDiff]
    refine callK_of rfl (k58 (ps := []) hv rfl) (.inr rfl) ?_
    simp only [c23r2, boardV, c23r4, Int.natCast_inj, go_sem, ↓reduceIte, reduceCtorEq, Nat.reduceAdd, Nat.reduceSub, Nat.reduceLT, Nat.reduceLeDiff]
    intro _
    refine ⟨fun hl => ?_, fun hl => ?_⟩
    · rw [if_neg (by simpa using hl)]
      simp only [c23r6, go_sem, ↓reduceIte, reduceCtorEq, Nat.reduceAdd, Nat.reduceSub, Nat.reduceLT, Nat.reduceLeDiff]
      refine callK_of rfl (k60 (l := R)) (.inl rfl) ?_
      cases hin : inAll (-1) 14 R with
      | false =>
        simp only [c23r7, go_sem, ↓reduceIte, reduceCtorEq, Nat.reduceAdd, Nat.reduceSub, Nat.reduceLT, Nat.reduceLeDiff]
      | true =>
        rw [if_neg (by simp)]
        generalize hq : (fun i => decide (0 ≤ getI R i)) = q
        have hq' : ∀ x, q x = decide (0 ≤ getI R x) := fun x => by rw [← hq]
        simp only [c23r8, c23r9, go_sem, ↓reduceIte, reduceCtorEq, Nat.reduceAdd, Nat.reduceSub, Nat.reduceLT, Nat.reduceLeDiff]
        intro _
        refine loop_rule (fun n τ => ∃ i : Nat, n = mv.length - i ∧ i ≤ mv.length ∧ (List.range i).all (rankOk pl mv wn R) = true ∧
          τ = ⟨[.any, .any, .s (.ptr [.slice (pl.map .bool), .slice (mv.map ints), .slice (wn.map .bool)]), .s (.ptr [.slice (R.map (.int .i64))]), .any, .any, .s (.ptr (bools pl :: .slice (mv.map ints) :: bools wn :: (pad (distW pl mv wn)).map (.int .i64))), .any, .sl 0 0 (outP q i).length 1 false, .any, .any, .any, .any, .any, .any, .any, .any, .any, .any, .any, .any, .any, .any, .any, .any, .any, .any, .any, .any, .any, .any, .any, .s (.slice (R.map (.int .i64))), .s (.int .i64 R.length), .s (.int .i64 i), .any, .any, .any, .any, .any, .any, .any, .any, .any, .any, .any, .any, .any, .any, .any, .any, .any, .any, .any, .any, .any, .any, .any, .any, .any, .any, .any, .any, .any, .any, .any, .any, .any, .any, .any, .any, .any, .any], [.row ((outP q i).map (SV.int .i64))]⟩) mv.length (promo_one rfl) ?_ ?_
        · simp only [c23l20m, go_sem, ↓reduceIte, reduceCtorEq, Nat.reduceAdd, Nat.reduceSub, Nat.reduceLT, Nat.reduceLeDiff]
          exact ⟨0, rfl, Nat.zero_le _, rfl, by simp [outP]⟩
        · rintro I n τ ⟨i, rfl, hi, hall, rfl⟩ hI
          simp only [c23l20, c23r10, go_sem, ↓reduceIte, reduceCtorEq, Nat.reduceAdd, Nat.reduceSub, Nat.reduceLT, Nat.reduceLeDiff]
          refine ⟨fun hlt => ?_, fun hge => ?_⟩
          · have hlt' : i < mv.length := by omega
            have hx : R[i]? = some (getI R i) := by have := getI_get (W := R) (x := i) (by omega) (by omega); rwa [Int.toNat_natCast] at this
            have hw : wn[i]? = some (wn.getD i false) := by have := hv.wn; rw [List.getD_eq_getElem?_getD, List.getElem?_eq_getElem (by omega), Option.getD_some]
            have hi2 : i < wn.length := by have := hv.wn; omega
            have hrk : rankOk pl mv wn R i = ((decide (getI R i = 0) == wn.getD i false) && (decide (getI R i ≤ 0) || wins1 (pl.getD i false) (mv.getD i []) (lessB R (getI R i)))) := rfl
            generalize wn.getD i false = b at *
            have hos := outP_succ q i
            have hol := outP_len q i
            rw [hq'] at hos
            generalize hO : outP q i = O at *
            have hr15 := List.all_eq_true.1 hin (getI R i) (List.mem_of_getElem? hx)
            simp only [Bool.and_eq_true, decide_eq_true_eq] at hr15
            have hall' : rankOk pl mv wn R i = true → (List.range (i + 1)).all (rankOk pl mv wn R) = true := fun h => by rw [List.range_succ, List.all_append, hall]; simp [h]
            have hbad : rankOk pl mv wn R i = false → (List.range mv.length).all (rankOk pl mv wn R) = false := fun h => by
              rw [Bool.eq_false_iff]
              intro h3
              rw [List.all_eq_true] at h3
              have := h3 i (by simpa using hlt')
              rw [h] at this; cases this
            simp only [c23r11, hx, splice, c23r12, c23r13, hw, hi2, go_sem, ↓reduceIte, reduceCtorEq, Nat.reduceAdd, Nat.reduceSub, Nat.reduceLT, Nat.reduceLeDiff]
            refine ⟨fun he => ?_, fun he => ?_⟩
            · have he' : decide (getI R i = 0) = b := by simpa using he
              rw [← he', beq_self_eq_true, Bool.true_and] at hrk
              simp only [c23r15, go_sem, ↓reduceIte, reduceCtorEq, Nat.reduceAdd, Nat.reduceSub, Nat.reduceLT, Nat.reduceLeDiff]
              refine ⟨fun hpos => ?_, fun hpos => ?_⟩
              · have hle : decide (getI R i ≤ 0) = false := by simp; omega
                rw [hle, Bool.false_or] at hrk
                refine callK_of (by simp only [ints, go_sem, ↓reduceIte, reduceCtorEq, Nat.reduceAdd, Nat.reduceSub, Nat.reduceLT, Nat.reduceLeDiff]) (k66 (g := 65) (first := []) (caps := [.ptr [.int .i64 (getI R i)], .ptr [ints R]]) (p := lessB R (getI R i)) (pl := pl) (mv := mv) (i := i) (rest := bools wn :: (pad (distW pl mv wn)).map (SV.int .i64)) ⟨tbl_fn 65 rfl, rfl⟩ hlt' hv.pl fun x hx2 => ?_) (.inl rfl) ?_
                · have hins := hv.ins _ (List.mem_of_getElem? (show mv[i]? = some (mv.getD i []) by rw [List.getD_eq_getElem?_getD, List.getElem?_eq_getElem hlt', Option.getD_some])) x hx2
                  exact k65 hins.1 (by omega) (by omega) (by omega)
                · cases hw1 : wins1 (pl.getD i false) (mv.getD i []) (lessB R (getI R i)) with
                  | false =>
                    have := hbad (by rw [hrk, hw1])
                    simp only [c23r16, this, Bool.false_eq_true, go_sem, ↓reduceIte, reduceCtorEq, Nat.reduceAdd, Nat.reduceSub, Nat.reduceLT, Nat.reduceLeDiff]
                  | true =>
                    rw [if_pos (by simp; omega)] at hos
                    have hge : decide (0 ≤ getI R i) = true := by simp; omega
                    simp only [c23r17, hge, c23r18, go_sem, ↓reduceIte, reduceCtorEq, Nat.reduceAdd, Nat.reduceSub, Nat.reduceLT, Nat.reduceLeDiff]
                    refine ⟨by omega, by decide, by decide, rfl, one1, one1, by omega, by omega, by omega, fun _ => ?_⟩
                    rw [Nat.zero_mul, List.drop_zero, app_map]
                    simp only [c23r19, c23l20m, go_sem, ↓reduceIte, reduceCtorEq, Nat.reduceAdd, Nat.reduceSub, Nat.reduceLT, Nat.reduceLeDiff]
                    exact ⟨inR_i64 (by omega) (by omega), hI (mv.length - (i + 1)) _ (by omega) ⟨i + 1, rfl, by omega, hall' (by rw [hrk, hw1]), by rw [hos]; simp⟩⟩
              · have hle : decide (getI R i ≤ 0) = true := by simp; omega
                rw [hle, Bool.true_or] at hrk
                simp only [c23r17, go_sem, ↓reduceIte, reduceCtorEq, Nat.reduceAdd, Nat.reduceSub, Nat.reduceLT, Nat.reduceLeDiff]
                refine ⟨fun hge => ?_, fun hge => ?_⟩
                · rw [if_pos (by simpa using hge)] at hos
                  simp only [c23r18, go_sem, ↓reduceIte, reduceCtorEq, Nat.reduceAdd, Nat.reduceSub, Nat.reduceLT, Nat.reduceLeDiff]
                  refine ⟨by omega, by decide, by decide, rfl, one1, one1, by omega, by omega, by omega, fun _ => ?_⟩
                  rw [Nat.zero_mul, List.drop_zero, app_map]
                  simp only [c23r19, c23l20m, go_sem, ↓reduceIte, reduceCtorEq, Nat.reduceAdd, Nat.reduceSub, Nat.reduceLT, Nat.reduceLeDiff]
                  exact ⟨inR_i64 (by omega) (by omega), hI (mv.length - (i + 1)) _ (by omega) ⟨i + 1, rfl, by omega, hall' hrk, by rw [hos]; simp⟩⟩
                · rw [if_neg (by simpa using hge)] at hos
                  simp only [c23r19, c23l20m, go_sem, ↓reduceIte, reduceCtorEq, Nat.reduceAdd, Nat.reduceSub, Nat.reduceLT, Nat.reduceLeDiff]
                  exact ⟨inR_i64 (by omega) (by omega), hI (mv.length - (i + 1)) _ (by omega) ⟨i + 1, rfl, by omega, hall' hrk, by rw [hos]; simp⟩⟩
            · have he' : (decide (getI R i = 0) == b) = false := by
                rw [beq_eq_false_iff_ne]
                intro h
                exact he (by rw [h])
              have := hbad (by rw [hrk, he', Bool.false_and])
              simp only [c23r14, this, Bool.false_eq_true, go_sem, ↓reduceIte, reduceCtorEq, Nat.reduceAdd, Nat.reduceSub, Nat.reduceLT, Nat.reduceLeDiff]
          · have hie : i = mv.length := by omega
            subst hie
            rw [if_pos hall]
            have hso : sliceOf 0 (outP q mv.length).length 1 ((outP q mv.length).map (SV.int .i64)) = some (.slice ((outP q mv.length).map (SV.int .i64))) := sliceOf_all (by simp)
            simp only [c23r21, hso, go_sem, ↓reduceIte, reduceCtorEq, Nat.reduceAdd, Nat.reduceSub, Nat.reduceLT, Nat.reduceLeDiff]
    · simp only [c23r5, hl, ne_eq, not_false_eq_true, go_sem, ↓reduceIte, reduceCtorEq, Nat.reduceAdd, Nat.reduceSub, Nat.reduceLT, Nat.reduceLeDiff]
  · rw [if_pos h]
    simp only [FRow.start, f23, c23r0, c23r1, mach, bools, h, ints, go_sem, ↓reduceIte, reduceCtorEq, Nat.reduceAdd, Nat.reduceSub, Nat.reduceLT, Nat.reduceLeDiff]
    refine callK_of rfl (k58e (ps := []) h) (.inl rfl) ?_
    simp only [c23r2, h, c23r3, go_sem, ↓reduceIte, reduceCtorEq, Nat.reduceAdd, Nat.reduceSub, Nat.reduceLT, Nat.reduceLeDiff]
end Go.Proofs.Ytglmjdpmpgphkaa.Sk

/- Contracts of functions: the greatest keep, and whether one proves. -/
namespace Go.Proofs.Ytglmjdpmpgphkaa.Sk
open Go Go.E Go.E.Sm
set_option maxRecDepth 10000

def keepL (pl : List Bool) (mv : List (List Int)) (wn : List Bool) : List Int := outP (fun i => decide (getI (distW pl mv wn) i < 0)) mv.length
def keepR (pl : List Bool) (mv : List (List Int)) (wn : List Bool) : List SV := if chkM pl mv wn = 0 then [ints (keepL pl mv wn), .int .i64 0] else [.slice [], .int .i64 (chkM pl mv wn)]

theorem k25 {pl wn : List Bool} {mv : List (List Int)} : E.Fn Try.prog 25 [mach pl mv wn] (keepR pl mv wn) := by
  refine fn_of_row okf25 ?_
  unfold keepR
  by_cases h : chkM pl mv wn = 0
  · have hv := valid_of h
    have h1 := hv.few
    have h2 := hv.pos
    have hdl := distW_len hv
    have hpl := pad_len (W := distW pl mv wn) (by omega)
    simp only [FRow.start, f25, c25r0, c25r1, mach, bools, h, go_sem, ↓reduceIte, reduceCtorEq, Nat.reduceAdd, Nat.reduceSub, Nat.reduceLT, Nat.reduceLeDiff]
    refine callK_of rfl (k58 (ps := []) hv rfl) (.inr rfl) ?_
    unfold keepL
    generalize hq : (fun i => decide (getI (distW pl mv wn) i < 0)) = q
    have hq' : ∀ x, q x = decide (getI (distW pl mv wn) x < 0) := fun x => by rw [← hq]
    simp only [c25r2, c25r4, boardV, c25r5, go_sem, ↓reduceIte, reduceCtorEq, Nat.reduceAdd, Nat.reduceSub, Nat.reduceLT, Nat.reduceLeDiff]
    intro _
    refine loop_rule (fun n τ => ∃ i : Nat, n = mv.length - i ∧ i ≤ mv.length ∧
      τ = ⟨[.any, .any, .any, .any, .s (.ptr (bools pl :: .slice (mv.map ints) :: bools wn :: (pad (distW pl mv wn)).map (.int .i64))), .any, .sl 0 0 (outP q i).length 1 false, .any, .any, .any, .any, .any, .any, .any, .any, .any, .any, .any, .s (.int .i64 mv.length), .s (.int .i64 i), .any, .any, .any, .any, .any, .any, .any, .any, .any, .any, .any, .any, .any, .any, .any], [.row ((outP q i).map (SV.int .i64))]⟩) mv.length (promo_one rfl) ?_ ?_
    · simp only [c25l11m, go_sem, ↓reduceIte, reduceCtorEq, Nat.reduceAdd, Nat.reduceSub, Nat.reduceLT, Nat.reduceLeDiff]
      exact ⟨0, rfl, Nat.zero_le _, by simp [outP]⟩
    · rintro I n τ ⟨i, rfl, hi, rfl⟩ hI
      have hos := outP_succ q i
      have hol := outP_len q i
      rw [hq'] at hos
      generalize hO : outP q i = O at *
      simp only [c25l11, c25r6, go_sem, ↓reduceIte, reduceCtorEq, Nat.reduceAdd, Nat.reduceSub, Nat.reduceLT, Nat.reduceLeDiff]
      refine ⟨fun hlt => ?_, fun hge => ?_⟩
      · have hg : (pad (distW pl mv wn))[i]? = some (getI (distW pl mv wn) i) := by
          have := getI_get (W := pad (distW pl mv wn)) (x := i) (by omega) (by omega)
          rwa [getI_pad, Int.toNat_natCast] at this
        simp only [c25r7, c25r8, hg, Nat.mul_one, go_sem, ↓reduceIte, reduceCtorEq, Nat.reduceAdd, Nat.reduceSub, Nat.reduceLT, Nat.reduceLeDiff]
        refine ⟨by omega, by omega, ?_⟩
        simp only [List.getElem?_drop, Nat.add_zero, hg, go_sem, ↓reduceIte, reduceCtorEq, Nat.reduceAdd, Nat.reduceSub, Nat.reduceLT, Nat.reduceLeDiff]
        refine ⟨fun hneg => ?_, fun hneg => ?_⟩
        · rw [if_pos (by simpa using hneg)] at hos
          simp only [c25r9, go_sem, ↓reduceIte, reduceCtorEq, Nat.reduceAdd, Nat.reduceSub, Nat.reduceLT, Nat.reduceLeDiff]
          refine ⟨by decide, by decide, rfl, one1, one1, by omega, by omega, by omega, ?_⟩
          rw [app_map]
          simp only [c25r10, c25l11m, go_sem, ↓reduceIte, reduceCtorEq, Nat.reduceAdd, Nat.reduceSub, Nat.reduceLT, Nat.reduceLeDiff]
          exact ⟨inR_i64 (by omega) (by omega), hI (mv.length - (i + 1)) _ (by omega) ⟨i + 1, rfl, by omega, by rw [hos]; simp⟩⟩
        · rw [if_neg (by simpa using hneg)] at hos
          simp only [c25r10, c25l11m, go_sem, ↓reduceIte, reduceCtorEq, Nat.reduceAdd, Nat.reduceSub, Nat.reduceLT, Nat.reduceLeDiff]
          exact ⟨inR_i64 (by omega) (by omega), hI (mv.length - (i + 1)) _ (by omega) ⟨i + 1, rfl, by omega, by rw [hos]; simp⟩⟩
      · have hie : i = mv.length := by omega
        subst hie
        have hso : sliceOf 0 O.length 1 (O.map (SV.int .i64)) = some (.slice (O.map (SV.int .i64))) := sliceOf_all (by simp)
        simp only [c25r12, hso, hO, ints, go_sem, ↓reduceIte, reduceCtorEq, Nat.reduceAdd, Nat.reduceSub, Nat.reduceLT, Nat.reduceLeDiff]
  · rw [if_neg h]
    simp only [FRow.start, f25, c25r0, c25r1, mach, bools, h, go_sem, ↓reduceIte, reduceCtorEq, Nat.reduceAdd, Nat.reduceSub, Nat.reduceLT, Nat.reduceLeDiff]
    refine callK_of rfl (k58e (ps := []) h) (.inl rfl) ?_
    simp only [c25r2, h, c25r3, go_sem, ↓reduceIte, reduceCtorEq, Nat.reduceAdd, Nat.reduceSub, Nat.reduceLT, Nat.reduceLeDiff]

theorem k53 {pl wn : List Bool} {mv : List (List Int)} (hv : Valid pl mv wn) : E.Fn Try.prog 53 [mach pl mv wn] [ints (keepL pl mv wn)] := by
  refine fn_of_row okf53 ?_
  have h1 := hv.few
  have hdl := distW_len hv
  simp only [FRow.start, f53, c53r0, c53r1, mach, bools, go_sem, ↓reduceIte, reduceCtorEq, Nat.reduceAdd, Nat.reduceSub, Nat.reduceLT, Nat.reduceLeDiff]
  refine callK_of rfl (k59 hv.pos hv.few hv.pl hv.wn hv.ins) (.inr rfl) ?_
  unfold keepL
  generalize hq : (fun i => decide (getI (distW pl mv wn) i < 0)) = q
  have hq' : ∀ x, q x = decide (getI (distW pl mv wn) x < 0) := fun x => by rw [← hq]
  simp only [c53r2, c53r3, ints, go_sem, ↓reduceIte, reduceCtorEq, Nat.reduceAdd, Nat.reduceSub, Nat.reduceLT, Nat.reduceLeDiff]
  refine loop_rule (fun n τ => ∃ i : Nat, n = mv.length - i ∧ i ≤ mv.length ∧
    τ = ⟨[.any, .any, .any, .s (.slice ((distW pl mv wn).map (.int .i64))), .sl 0 0 (outP q i).length 1 false, .s (.int .i64 i), .any, .any, .any, .any, .any, .any, .any, .any, .any, .any, .any, .any, .any, .any, .any, .any, .any, .any], [.row ((outP q i).map (SV.int .i64))]⟩) mv.length (promo_one rfl) ?_ ?_
  · simp only [c53l8m, go_sem, ↓reduceIte, reduceCtorEq, Nat.reduceAdd, Nat.reduceSub, Nat.reduceLT, Nat.reduceLeDiff]
    exact ⟨0, rfl, Nat.zero_le _, by simp [outP]⟩
  · rintro I n τ ⟨i, rfl, hi, rfl⟩ hI
    have hos := outP_succ q i
    have hol := outP_len q i
    rw [hq'] at hos
    generalize hO : outP q i = O at *
    simp only [c53l8, c53r4, hdl, go_sem, ↓reduceIte, reduceCtorEq, Nat.reduceAdd, Nat.reduceSub, Nat.reduceLT, Nat.reduceLeDiff]
    intro _
    refine ⟨fun hlt => ?_, fun hge => ?_⟩
    · have hg : (distW pl mv wn)[i]? = some (getI (distW pl mv wn) i) := by
        have := getI_get (W := distW pl mv wn) (x := i) (by omega) (by omega)
        rwa [Int.toNat_natCast] at this
      have hl2 : i < (distW pl mv wn).length := by omega
      simp only [c53r5, hg, hl2, go_sem, ↓reduceIte, reduceCtorEq, Nat.reduceAdd, Nat.reduceSub, Nat.reduceLT, Nat.reduceLeDiff]
      refine ⟨fun hneg => ?_, fun hneg => ?_⟩
      · rw [if_pos (by simpa using hneg)] at hos
        simp only [c53r6, go_sem, ↓reduceIte, reduceCtorEq, Nat.reduceAdd, Nat.reduceSub, Nat.reduceLT, Nat.reduceLeDiff]
        refine ⟨by decide, by decide, rfl, one1, one1, by omega, by omega, by omega, ?_⟩
        rw [app_map]
        simp only [c53r7, c53l8m, go_sem, ↓reduceIte, reduceCtorEq, Nat.reduceAdd, Nat.reduceSub, Nat.reduceLT, Nat.reduceLeDiff]
        exact ⟨inR_i64 (by omega) (by omega), hI (mv.length - (i + 1)) _ (by omega) ⟨i + 1, rfl, by omega, by rw [hos]; simp⟩⟩
      · rw [if_neg (by simpa using hneg)] at hos
        simp only [c53r7, c53l8m, go_sem, ↓reduceIte, reduceCtorEq, Nat.reduceAdd, Nat.reduceSub, Nat.reduceLT, Nat.reduceLeDiff]
        exact ⟨inR_i64 (by omega) (by omega), hI (mv.length - (i + 1)) _ (by omega) ⟨i + 1, rfl, by omega, by rw [hos]; simp⟩⟩
    · have hie : i = mv.length := by omega
      subst hie
      have hso : sliceOf 0 O.length 1 (O.map (SV.int .i64)) = some (.slice (O.map (SV.int .i64))) := sliceOf_all (by simp)
      simp only [c53r9, hso, hO, go_sem, ↓reduceIte, reduceCtorEq, Nat.reduceAdd, Nat.reduceSub, Nat.reduceLT, Nat.reduceLeDiff]

theorem k26 {pl wn : List Bool} {mv : List (List Int)} : E.Fn Try.prog 26 [mach pl mv wn] (keepR pl mv wn) := by
  refine fn_of_row okf26 ?_
  unfold keepR
  simp only [FRow.start, f26, c26r0, c26r1, mach, bools, go_sem, ↓reduceIte, reduceCtorEq, Nat.reduceAdd, Nat.reduceSub, Nat.reduceLT, Nat.reduceLeDiff]
  refine callK_of rfl (k21 (pl := pl) (mv := mv) (wn := wn)) (.inl rfl) ?_
  by_cases h : chkM pl mv wn = 0
  · have hv := valid_of h
    simp only [h, c26r3, go_sem, ↓reduceIte, reduceCtorEq, Nat.reduceAdd, Nat.reduceSub, Nat.reduceLT, Nat.reduceLeDiff]
    refine callK_of rfl (k53 hv) (.inr rfl) ?_
    simp only [ints, go_sem, ↓reduceIte, reduceCtorEq, Nat.reduceAdd, Nat.reduceSub, Nat.reduceLT, Nat.reduceLeDiff]
  · simp only [h, c26r2, go_sem, ↓reduceIte, reduceCtorEq, Nat.reduceAdd, Nat.reduceSub, Nat.reduceLT, Nat.reduceLeDiff]
    refine callK_of rfl (k21 (pl := pl) (mv := mv) (wn := wn)) (.inl rfl) ?_
    simp only [go_sem, ↓reduceIte, reduceCtorEq, Nat.reduceAdd, Nat.reduceSub, Nat.reduceLT, Nat.reduceLeDiff]

/-- Whether a keep is broken at a position. -/
def badK (pl : List Bool) (mv : List (List Int)) (wn : List Bool) (K : List Int) (x : Int) : Bool :=
  wn.getD x.toNat false || wins1 (pl.getD x.toNat false) (mv.getD x.toNat []) (fun k => !hasL K k)
def ckR (pl : List Bool) (mv : List (List Int)) (wn : List Bool) (K : List Int) : Int :=
  if chkM pl mv wn ≠ 0 then chkM pl mv wn else if rise 0 mv.length K = false then 2 else if K.any (badK pl mv wn K) = true then 14 else 0

theorem k27 {pl wn : List Bool} {mv : List (List Int)} {K : List Int} : E.Fn Try.prog 27 [mach pl mv wn, ints K] [.int .i64 (ckR pl mv wn K)] := by
  refine fn_of_row okf27 ?_
  unfold ckR
  by_cases h : chkM pl mv wn = 0
  · have hv := valid_of h
    have h1 := hv.few
    have h2 := hv.pos
    rw [if_neg (by simpa using h)]
    simp only [FRow.start, f27, c27r0, c27r1, mach, bools, h, ints, go_sem, ↓reduceIte, reduceCtorEq, Nat.reduceAdd, Nat.reduceSub, Nat.reduceLT, Nat.reduceLeDiff]
    refine callK_of rfl (k58 (ps := []) hv rfl) (.inr rfl) ?_
    simp only [c27r2, boardV, c27r4, go_sem, ↓reduceIte, reduceCtorEq, Nat.reduceAdd, Nat.reduceSub, Nat.reduceLT, Nat.reduceLeDiff]
    refine callK_of rfl (k63 (l := K) (by omega) (by omega)) (.inl rfl) ?_
    cases hr : rise 0 mv.length K with
    | false =>
      simp only [hr, go_sem, ↓reduceIte, reduceCtorEq, Nat.reduceAdd, Nat.reduceSub, Nat.reduceLT, Nat.reduceLeDiff]
      intro _
      simp only [c27r5, go_sem, ↓reduceIte, reduceCtorEq, Nat.reduceAdd, Nat.reduceSub, Nat.reduceLT, Nat.reduceLeDiff]
    | true =>
      simp only [hr, go_sem, ↓reduceIte, reduceCtorEq, Nat.reduceAdd, Nat.reduceSub, Nat.reduceLT, Nat.reduceLeDiff]
      intro _
      have hmem := rise_mem _ _ K hr
      simp only [c27r6, c27r7, go_sem, ↓reduceIte, reduceCtorEq, Nat.reduceAdd, Nat.reduceSub, Nat.reduceLT, Nat.reduceLeDiff]
      intro hkl
      have hkl' : (K.length : Int) ≤ 2 ^ 63 - 1 := Int.le_trans (Int.ofNat_le.mpr hkl) maxLen_le
      refine loop_rule (fun n τ => ∃ i : Nat, n = K.length - i ∧ i ≤ K.length ∧ K.any (badK pl mv wn K) = (K.drop i).any (badK pl mv wn K) ∧
        τ = ⟨[.any, .any, .s (.ptr [.slice (pl.map .bool), .slice (mv.map ints), .slice (wn.map .bool)]), .any, .any, .s (.ptr (bools pl :: .slice (mv.map ints) :: bools wn :: (pad (distW pl mv wn)).map (.int .i64))), .any, .fn 68 [] [.s (.ptr [.slice (K.map (.int .i64))])], .any, .any, .any, .any, .any, .any, .any, .any, .any, .any, .any, .any, .any, .any, .any, .any, .any, .any, .any, .s (.slice (K.map (.int .i64))), .s (.int .i64 K.length), .s (.int .i64 i), .any, .any, .any, .any, .any, .any, .any, .any, .any, .any, .any, .any, .any, .any, .any], []⟩) K.length rfl ?_ ?_
      · simp only [c27l13m, go_sem, ↓reduceIte, reduceCtorEq, Nat.reduceAdd, Nat.reduceSub, Nat.reduceLT, Nat.reduceLeDiff]
        exact ⟨0, rfl, Nat.zero_le _, rfl, rfl⟩
      · rintro I n τ ⟨i, rfl, hi, hb, rfl⟩ hI
        simp only [c27l13, c27r8, go_sem, ↓reduceIte, reduceCtorEq, Nat.reduceAdd, Nat.reduceSub, Nat.reduceLT, Nat.reduceLeDiff]
        refine ⟨fun hlt => ?_, fun hge => ?_⟩
        · have hx : K[i]? = some K[i] := List.getElem?_eq_getElem hlt
          have hdrop : K.drop i = K[i] :: K.drop (i + 1) := List.drop_eq_getElem_cons hlt
          have hxm := hmem _ (List.getElem_mem hlt)
          rw [hdrop, List.any_cons] at hb
          generalize K[i] = x at *
          have hw : wn[x.toNat]? = some (wn.getD x.toNat false) := by have := hv.wn; rw [List.getD_eq_getElem?_getD, List.getElem?_eq_getElem (by omega), Option.getD_some]
          have hw2 : x.toNat < wn.length := by have := hv.wn; omega
          have hbk : badK pl mv wn K x = (wn.getD x.toNat false || wins1 (pl.getD x.toNat false) (mv.getD x.toNat []) (fun k => !hasL K k)) := rfl
          have hxx : (x.toNat : Int) = x := by omega
          generalize wn.getD x.toNat false = b at *
          simp only [c27r9, hx, c27r10, hw, hw2, go_sem, ↓reduceIte, reduceCtorEq, Nat.reduceAdd, Nat.reduceSub, Nat.reduceLT, Nat.reduceLeDiff]
          refine ⟨hxm.1, ?_⟩
          cases b with
          | true =>
            rw [hbk, Bool.true_or, Bool.true_or] at hb
            simp only [c27r11, hb, go_sem, ↓reduceIte, reduceCtorEq, Nat.reduceAdd, Nat.reduceSub, Nat.reduceLT, Nat.reduceLeDiff]
          | false =>
            rw [hbk, Bool.false_or] at hb
            simp only [go_sem, ↓reduceIte, reduceCtorEq, Nat.reduceAdd, Nat.reduceSub, Nat.reduceLT, Nat.reduceLeDiff]
            have hk := k66 (g := 68) (first := []) (caps := [.ptr [ints K]]) (p := fun k => !hasL K k) (pl := pl) (mv := mv) (i := x.toNat) (rest := bools wn :: (pad (distW pl mv wn)).map (SV.int .i64)) ⟨tbl_fn 68 rfl, rfl⟩ (by omega) hv.pl fun x _ => k68
            rw [hxx] at hk
            refine callK_of rfl hk (.inl rfl) ?_
            cases hw1 : wins1 (pl.getD x.toNat false) (mv.getD x.toNat []) (fun k => !hasL K k) with
            | true =>
              rw [hw1, Bool.true_or] at hb
              simp only [c27r11, hb, go_sem, ↓reduceIte, reduceCtorEq, Nat.reduceAdd, Nat.reduceSub, Nat.reduceLT, Nat.reduceLeDiff]
            | false =>
              rw [hw1, Bool.false_or] at hb
              simp only [c27r12, c27l13m, go_sem, ↓reduceIte, reduceCtorEq, Nat.reduceAdd, Nat.reduceSub, Nat.reduceLT, Nat.reduceLeDiff]
              exact ⟨inR_i64 (by omega) (by omega), hI (K.length - (i + 1)) _ (by omega) ⟨i + 1, rfl, by omega, hb, by simp⟩⟩
        · have hie : i = K.length := by omega
          subst hie
          rw [List.drop_length, List.any_nil] at hb
          simp only [c27r14, hb, Bool.false_eq_true, go_sem, ↓reduceIte, reduceCtorEq, Nat.reduceAdd, Nat.reduceSub, Nat.reduceLT, Nat.reduceLeDiff]
  · rw [if_pos h]
    simp only [FRow.start, f27, c27r0, c27r1, mach, bools, h, ints, go_sem, ↓reduceIte, reduceCtorEq, Nat.reduceAdd, Nat.reduceSub, Nat.reduceLT, Nat.reduceLeDiff]
    refine callK_of rfl (k58e (ps := []) h) (.inl rfl) ?_
    simp only [c27r2, h, c27r3, go_sem, ↓reduceIte, reduceCtorEq, Nat.reduceAdd, Nat.reduceSub, Nat.reduceLT, Nat.reduceLeDiff]
end Go.Proofs.Ytglmjdpmpgphkaa.Sk

/- Contracts of functions: ways of playing. -/
namespace Go.Proofs.Ytglmjdpmpgphkaa.Sk
open Go Go.E Go.E.Sm
set_option maxRecDepth 10000

def wayOk (pl : List Bool) (mv : List (List Int)) (wn : List Bool) (p : Bool) (Y : List Int) (i : Nat) : Bool :=
  decide (getI Y i = -1) || (!wn.getD i false && (pl.getD i false == p) && hasL (mv.getD i []) (getI Y i))
def wayR (pl : List Bool) (mv : List (List Int)) (wn : List Bool) (p : Bool) (Y : List Int) : Int :=
  if chkM pl mv wn ≠ 0 then chkM pl mv wn else if Y.length ≠ mv.length then 15 else if (List.range mv.length).all (wayOk pl mv wn p Y) = true then 0 else 16

theorem all_succ {q : Nat → Bool} {i : Nat} (h : (List.range i).all q = true) (h2 : q i = true) : (List.range (i + 1)).all q = true := by
  rw [List.range_succ, List.all_append, h]; simp [h2]
theorem all_not {q : Nat → Bool} {i n : Nat} (h : i < n) (h2 : q i = false) : (List.range n).all q = false := by
  rw [Bool.eq_false_iff]
  intro h3
  rw [List.all_eq_true] at h3
  have := h3 i (by simpa using h)
  rw [h2] at this; cases this

/-- What is known of a position of a valid machine. -/
structure At (pl : List Bool) (mv : List (List Int)) (wn : List Bool) (i : Nat) : Prop where
  hm : mv[i]? = some (mv.getD i [])
  hp : pl[i]? = some (pl.getD i false)
  hw : wn[i]? = some (wn.getD i false)
  m2 : i < mv.length
  p2 : i < pl.length
  w2 : i < wn.length
  ins : inside mv.length (mv.getD i [])
theorem Valid.at' {pl wn : List Bool} {mv : List (List Int)} (hv : Valid pl mv wn) {i : Nat} (hi : i < mv.length) : At pl mv wn i := by
  have hp := hv.pl
  have hw := hv.wn
  have e : mv[i]? = some (mv.getD i []) := by rw [List.getD_eq_getElem?_getD, List.getElem?_eq_getElem hi, Option.getD_some]
  exact ⟨e, by rw [List.getD_eq_getElem?_getD, List.getElem?_eq_getElem (by omega), Option.getD_some], by rw [List.getD_eq_getElem?_getD, List.getElem?_eq_getElem (by omega), Option.getD_some], hi, by omega, by omega, hv.ins _ (List.mem_of_getElem? e)⟩
theorem getI_nat {W : List Int} {i : Nat} (h : i < W.length) : W[i]? = some (getI W i) := by
  have := getI_get (W := W) (x := i) (by omega) (by omega)
  rwa [Int.toNat_natCast] at this

theorem k33 {pl wn : List Bool} {mv : List (List Int)} {p : Bool} {Y : List Int} : E.Fn Try.prog 33 [mach pl mv wn, .bool p, ints Y] [.int .i64 (wayR pl mv wn p Y)] := by
  refine fn_of_row okf33 ?_
  unfold wayR
  simp only [FRow.start, f33, c33r0, c33r1, mach, bools, ints, go_sem, ↓reduceIte, reduceCtorEq, Nat.reduceAdd, Nat.reduceSub, Nat.reduceLT, Nat.reduceLeDiff]
  refine callK_of rfl (k20 (pl := pl) (mv := mv) (wn := wn)) (.inl rfl) ?_
  by_cases h : chkM pl mv wn = 0
  · have hv := valid_of h
    have h1 := hv.few
    rw [if_neg (by simpa using h)]
    simp only [h, c33r2, c33r4, Int.natCast_inj, go_sem, ↓reduceIte, reduceCtorEq, Nat.reduceAdd, Nat.reduceSub, Nat.reduceLT, Nat.reduceLeDiff]
    intro _
    refine ⟨fun hl => ?_, fun hl => ?_⟩
    · rw [if_neg (by simpa using hl)]
      simp only [c33r6, go_sem, ↓reduceIte, reduceCtorEq, Nat.reduceAdd, Nat.reduceSub, Nat.reduceLT, Nat.reduceLeDiff]
      intro _
      refine loop_rule (fun n τ => ∃ i : Nat, n = mv.length - i ∧ i ≤ mv.length ∧ (List.range i).all (wayOk pl mv wn p Y) = true ∧
        τ = ⟨[.any, .s (.bool p), .any, .s (.ptr [.slice (pl.map .bool), .slice (mv.map ints), .slice (wn.map .bool)]), .any, .any, .any, .any, .any, .any, .any, .any, .any, .any, .any, .any, .any, .any, .any, .any, .any, .any, .any, .s (.slice (Y.map (.int .i64))), .s (.int .i64 Y.length), .s (.int .i64 i), .any, .any, .any, .any, .any, .any, .any, .any, .any, .any, .any, .any, .any, .any, .any, .any, .any, .any, .any, .any, .any, .any, .any, .any, .any, .any, .any, .any, .any, .any, .any, .any, .any], []⟩) mv.length rfl ?_ ?_
      · simp only [c33l12m, go_sem, ↓reduceIte, reduceCtorEq, Nat.reduceAdd, Nat.reduceSub, Nat.reduceLT, Nat.reduceLeDiff]
        exact ⟨0, rfl, Nat.zero_le _, rfl, rfl⟩
      · rintro I n τ ⟨i, rfl, hi, hall, rfl⟩ hI
        simp only [c33l12, c33r7, go_sem, ↓reduceIte, reduceCtorEq, Nat.reduceAdd, Nat.reduceSub, Nat.reduceLT, Nat.reduceLeDiff]
        refine ⟨fun hlt => ?_, fun hge => ?_⟩
        · have hlt' : i < mv.length := by omega
          obtain ⟨hm, hp, hw, hm2, hp2, hw2, hins⟩ := hv.at' hlt'
          have hx := getI_nat (W := Y) (i := i) (by omega)
          have hok : wayOk pl mv wn p Y i = (decide (getI Y i = -1) || (!wn.getD i false && (pl.getD i false == p) && hasL (mv.getD i []) (getI Y i))) := rfl
          have good : wayOk pl mv wn p Y i = true → I ⟨[.any, .s (.bool p), .any, .s (.ptr [.slice (pl.map .bool), .slice (mv.map ints), .slice (wn.map .bool)]), .any, .any, .any, .any, .any, .any, .any, .any, .any, .any, .any, .any, .any, .any, .any, .any, .any, .any, .any, .s (.slice (Y.map (.int .i64))), .s (.int .i64 Y.length), .s (.int .i64 (i + 1)), .any, .any, .any, .any, .any, .any, .any, .any, .any, .any, .any, .any, .any, .any, .any, .any, .any, .any, .any, .any, .any, .any, .any, .any, .any, .any, .any, .any, .any, .any, .any, .any, .any], []⟩ := fun hk =>
            hI (mv.length - (i + 1)) _ (by omega) ⟨i + 1, rfl, by omega, all_succ hall hk, by simp⟩
          have bad : wayOk pl mv wn p Y i = false → (List.range mv.length).all (wayOk pl mv wn p Y) = false := fun hk => all_not hlt' hk
          generalize mv.getD i [] = l at *
          generalize pl.getD i false = b at *
          generalize wn.getD i false = w at *
          generalize getI Y i = y at *
          cases w with
          | true =>
            simp only [c33r8, hx, c33r9, hm, hp, hw, hm2, hp2, hw2, ints, go_sem, ↓reduceIte, reduceCtorEq, Nat.reduceAdd, Nat.reduceSub, Nat.reduceLT, Nat.reduceLeDiff]
            refine ⟨fun hy => ?_, fun hy => ?_⟩
            · simp only [c33r11, c33l12m, go_sem, ↓reduceIte, reduceCtorEq, Nat.reduceAdd, Nat.reduceSub, Nat.reduceLT, Nat.reduceLeDiff]
              exact ⟨inR_i64 (by omega) (by omega), good (by rw [hok]; simp [hy])⟩
            · simp only [c33r10, bad (by rw [hok]; simp [hy]), Bool.false_eq_true, go_sem, ↓reduceIte, reduceCtorEq, Nat.reduceAdd, Nat.reduceSub, Nat.reduceLT, Nat.reduceLeDiff]
          | false =>
            simp only [c33r8, hx, c33r9, hm, hp, hw, hm2, hp2, hw2, ints, go_sem, ↓reduceIte, reduceCtorEq, Nat.reduceAdd, Nat.reduceSub, Nat.reduceLT, Nat.reduceLeDiff]
            refine ⟨fun hy => ?_, fun hy => ⟨fun hbp => ?_, fun hbp => ?_⟩⟩
            · simp only [c33r11, c33l12m, go_sem, ↓reduceIte, reduceCtorEq, Nat.reduceAdd, Nat.reduceSub, Nat.reduceLT, Nat.reduceLeDiff]
              exact ⟨inR_i64 (by omega) (by omega), good (by rw [hok]; simp [hy])⟩
            · have hbp' : b = p := by simpa using hbp
              refine callK_of rfl (k69 (xs := l) (v := y)) (.inl rfl) ?_
              cases hk : hasL l y with
              | true =>
                simp only [c33r11, c33l12m, go_sem, ↓reduceIte, reduceCtorEq, Nat.reduceAdd, Nat.reduceSub, Nat.reduceLT, Nat.reduceLeDiff]
                exact ⟨inR_i64 (by omega) (by omega), good (by rw [hok, hk]; simp [hbp'])⟩
              | false =>
                simp only [c33r10, bad (by rw [hok, hk]; simp [hy]), Bool.false_eq_true, go_sem, ↓reduceIte, reduceCtorEq, Nat.reduceAdd, Nat.reduceSub, Nat.reduceLT, Nat.reduceLeDiff]
            · have hbp' : b ≠ p := fun h => hbp (by rw [h])
              have : (b == p) = false := by simpa using hbp'
              simp only [c33r10, bad (by rw [hok, this]; simp [hy]), Bool.false_eq_true, go_sem, ↓reduceIte, reduceCtorEq, Nat.reduceAdd, Nat.reduceSub, Nat.reduceLT, Nat.reduceLeDiff]
        · have hie : i = mv.length := by omega
          subst hie
          rw [if_pos hall]
          simp only [c33r13, go_sem, ↓reduceIte, reduceCtorEq, Nat.reduceAdd, Nat.reduceSub, Nat.reduceLT, Nat.reduceLeDiff]
    · simp only [c33r5, hl, ne_eq, not_false_eq_true, go_sem, ↓reduceIte, reduceCtorEq, Nat.reduceAdd, Nat.reduceSub, Nat.reduceLT, Nat.reduceLeDiff]
  · rw [if_pos h]
    simp only [h, c33r2, c33r3, go_sem, ↓reduceIte, reduceCtorEq, Nat.reduceAdd, Nat.reduceSub, Nat.reduceLT, Nat.reduceLeDiff]

theorem k34 {pl wn : List Bool} {mv : List (List Int)} {p : Bool} {Y : List Int} : E.Fn Try.prog 34 [mach pl mv wn, .bool p, ints Y] [.int .i64 (wayR pl mv wn p Y)] := by
  refine fn_of_row okf34 ?_
  unfold wayR
  simp only [FRow.start, f34, c34r0, c34r1, mach, bools, ints, go_sem, ↓reduceIte, reduceCtorEq, Nat.reduceAdd, Nat.reduceSub, Nat.reduceLT, Nat.reduceLeDiff]
  refine callK_of rfl (k21 (pl := pl) (mv := mv) (wn := wn)) (.inl rfl) ?_
  by_cases h : chkM pl mv wn = 0
  · have hv := valid_of h
    have h1 := hv.few
    rw [if_neg (by simpa using h)]
    simp only [h, c34r3, Int.natCast_inj, go_sem, ↓reduceIte, reduceCtorEq, Nat.reduceAdd, Nat.reduceSub, Nat.reduceLT, Nat.reduceLeDiff]
    intro _
    refine ⟨fun hl => ?_, fun hl => ?_⟩
    · rw [if_neg (by simpa using hl)]
      simp only [c34r5, go_sem, ↓reduceIte, reduceCtorEq, Nat.reduceAdd, Nat.reduceSub, Nat.reduceLT, Nat.reduceLeDiff]
      refine loop_rule (fun n τ => ∃ i : Nat, n = mv.length - i ∧ i ≤ mv.length ∧ (List.range i).all (wayOk pl mv wn p Y) = true ∧
        τ = ⟨[.any, .s (.bool p), .s (.slice (Y.map (.int .i64))), .s (.ptr [.slice (pl.map .bool), .slice (mv.map ints), .slice (wn.map .bool)]), .any, .any, .any, .s (.int .i64 i), .any, .any, .any, .any, .any, .any, .any, .any, .any, .any, .any, .any, .any, .any, .any, .any, .any, .any, .any, .any, .any, .any, .any, .any, .any, .any, .any, .any, .any, .any, .any, .any, .any, .any, .any, .any, .any, .any, .any, .any, .any, .any, .any, .any, .any, .any, .any, .any, .any, .any, .any, .any, .any, .any, .any], []⟩) mv.length rfl ?_ ?_
      · simp only [c34l11m, go_sem, ↓reduceIte, reduceCtorEq, Nat.reduceAdd, Nat.reduceSub, Nat.reduceLT, Nat.reduceLeDiff]
        exact ⟨0, rfl, Nat.zero_le _, rfl, rfl⟩
      · rintro I n τ ⟨i, rfl, hi, hall, rfl⟩ hI
        simp only [c34l11, c34r6, hl, go_sem, ↓reduceIte, reduceCtorEq, Nat.reduceAdd, Nat.reduceSub, Nat.reduceLT, Nat.reduceLeDiff]
        intro _
        refine ⟨fun hlt => ?_, fun hge => ?_⟩
        · have hlt' : i < mv.length := by omega
          obtain ⟨hm, hp, hw, hm2, hp2, hw2, hins⟩ := hv.at' hlt'
          have hx := getI_nat (W := Y) (i := i) (by omega)
          have hx2 : i < Y.length := by omega
          have hok : wayOk pl mv wn p Y i = (decide (getI Y i = -1) || (!wn.getD i false && (pl.getD i false == p) && hasL (mv.getD i []) (getI Y i))) := rfl
          have good : wayOk pl mv wn p Y i = true → I ⟨[.any, .s (.bool p), .s (.slice (Y.map (.int .i64))), .s (.ptr [.slice (pl.map .bool), .slice (mv.map ints), .slice (wn.map .bool)]), .any, .any, .any, .s (.int .i64 (i + 1)), .any, .any, .any, .any, .any, .any, .any, .any, .any, .any, .any, .any, .any, .any, .any, .any, .any, .any, .any, .any, .any, .any, .any, .any, .any, .any, .any, .any, .any, .any, .any, .any, .any, .any, .any, .any, .any, .any, .any, .any, .any, .any, .any, .any, .any, .any, .any, .any, .any, .any, .any, .any, .any, .any, .any], []⟩ := fun hk =>
            hI (mv.length - (i + 1)) _ (by omega) ⟨i + 1, rfl, by omega, all_succ hall hk, by simp⟩
          have bad : wayOk pl mv wn p Y i = false → (List.range mv.length).all (wayOk pl mv wn p Y) = false := fun hk => all_not hlt' hk
          generalize mv.getD i [] = l at *
          generalize pl.getD i false = b at *
          generalize wn.getD i false = w at *
          generalize getI Y i = y at *
          simp only [c34r7, hm, hp, hw, hm2, hp2, hw2, hx, hx2, ints, go_sem, ↓reduceIte, reduceCtorEq, Nat.reduceAdd, Nat.reduceSub, Nat.reduceLT, Nat.reduceLeDiff]
          refine ⟨fun hbp => ?_, fun hbp => ?_⟩
          · have hbp' : b = p := by simpa using hbp
            cases w with
            | true =>
              simp only [c34r8, hm, hm2, hx, hx2, ints, go_sem, ↓reduceIte, reduceCtorEq, Nat.reduceAdd, Nat.reduceSub, Nat.reduceLT, Nat.reduceLeDiff]
              refine ⟨fun hy => ?_, fun hy => ?_⟩
              · simp only [c34r10, c34l11m, go_sem, ↓reduceIte, reduceCtorEq, Nat.reduceAdd, Nat.reduceSub, Nat.reduceLT, Nat.reduceLeDiff]
                exact ⟨inR_i64 (by omega) (by omega), good (by rw [hok]; simp [hy])⟩
              · simp only [c34r9, bad (by rw [hok]; simp [hy]), Bool.false_eq_true, go_sem, ↓reduceIte, reduceCtorEq, Nat.reduceAdd, Nat.reduceSub, Nat.reduceLT, Nat.reduceLeDiff]
            | false =>
              simp only [c34r8, hm, hm2, hx, hx2, ints, go_sem, ↓reduceIte, reduceCtorEq, Nat.reduceAdd, Nat.reduceSub, Nat.reduceLT, Nat.reduceLeDiff]
              refine ⟨fun hy => ?_, fun hy => ?_⟩
              · simp only [c34r10, c34l11m, go_sem, ↓reduceIte, reduceCtorEq, Nat.reduceAdd, Nat.reduceSub, Nat.reduceLT, Nat.reduceLeDiff]
                exact ⟨inR_i64 (by omega) (by omega), good (by rw [hok]; simp [hy])⟩
              · refine callK_of rfl (k49 (xs := l) (v := y)) (.inl rfl) ?_
                cases hk : hasL l y with
                | true =>
                  simp only [c34r10, c34l11m, go_sem, ↓reduceIte, reduceCtorEq, Nat.reduceAdd, Nat.reduceSub, Nat.reduceLT, Nat.reduceLeDiff]
                  exact ⟨inR_i64 (by omega) (by omega), good (by rw [hok, hk]; simp [hbp'])⟩
                | false =>
                  simp only [c34r9, bad (by rw [hok, hk]; simp [hy]), Bool.false_eq_true, go_sem, ↓reduceIte, reduceCtorEq, Nat.reduceAdd, Nat.reduceSub, Nat.reduceLT, Nat.reduceLeDiff]
          · have hbp' : b ≠ p := fun h => hbp (by rw [h])
            have hb0 : (b == p) = false := by simpa using hbp'
            simp only [c34r8, hm, hm2, hx, hx2, ints, go_sem, ↓reduceIte, reduceCtorEq, Nat.reduceAdd, Nat.reduceSub, Nat.reduceLT, Nat.reduceLeDiff]
            refine ⟨fun hy => ?_, fun hy => ?_⟩
            · simp only [c34r10, c34l11m, go_sem, ↓reduceIte, reduceCtorEq, Nat.reduceAdd, Nat.reduceSub, Nat.reduceLT, Nat.reduceLeDiff]
              exact ⟨inR_i64 (by omega) (by omega), good (by rw [hok]; simp [hy])⟩
            · simp only [c34r9, bad (by rw [hok, hb0]; simp [hy]), Bool.false_eq_true, go_sem, ↓reduceIte, reduceCtorEq, Nat.reduceAdd, Nat.reduceSub, Nat.reduceLT, Nat.reduceLeDiff]
        · have hie : i = mv.length := by omega
          subst hie
          rw [if_pos hall]
          simp only [c34r12, go_sem, ↓reduceIte, reduceCtorEq, Nat.reduceAdd, Nat.reduceSub, Nat.reduceLT, Nat.reduceLeDiff]
    · simp only [c34r4, hl, ne_eq, not_false_eq_true, go_sem, ↓reduceIte, reduceCtorEq, Nat.reduceAdd, Nat.reduceSub, Nat.reduceLT, Nat.reduceLeDiff]
  · rw [if_pos h]
    simp only [h, c34r2, go_sem, ↓reduceIte, reduceCtorEq, Nat.reduceAdd, Nat.reduceSub, Nat.reduceLT, Nat.reduceLeDiff]
    refine callK_of rfl (k21 (pl := pl) (mv := mv) (wn := wn)) (.inl rfl) ?_
    simp only [go_sem, ↓reduceIte, reduceCtorEq, Nat.reduceAdd, Nat.reduceSub, Nat.reduceLT, Nat.reduceLeDiff]
end Go.Proofs.Ytglmjdpmpgphkaa.Sk

/- Distances: who is found behind some rounds, and what makes them less. -/
namespace Go.Proofs.Ytglmjdpmpgphkaa.Sk
open Go Go.E

theorem getI_map_range {n i : Nat} {f : Nat → Int} (hi : i < n) : getI ((List.range n).map f) i = f i := by
  unfold getI
  rw [List.getD_eq_getElem?_getD, Int.toNat_natCast, List.getElem?_map, List.getElem?_range hi]; rfl

theorem round_sign {pl : List Bool} {mv : List (List Int)} {r : Int} {W : List Int} {i : Nat} (hr : 0 ≤ r) (hi : i < mv.length) :
    0 ≤ getI (roundW pl mv r W) i ↔ (0 ≤ getI W i ∨ wins1 (pl.getD i false) (mv.getD i []) (isIn W) = true) := by
  unfold roundW
  rw [getI_map_range hi]
  unfold nxt
  split
  · rename_i h
    exact ⟨fun _ => .inr h.2, fun _ => hr⟩
  · rename_i h
    constructor
    · exact .inl
    · rintro (h1 | h1)
      · exact h1
      · by_cases h2 : getI W i < 0
        · exact absurd ⟨h2, h1⟩ h
        · omega
theorem round_keep {pl : List Bool} {mv : List (List Int)} {r : Int} {W : List Int} {i : Nat} (hi : i < mv.length) (h : 0 ≤ getI W i) : getI (roundW pl mv r W) i = getI W i := by
  unfold roundW
  rw [getI_map_range hi, nxt, if_neg (by omega)]
theorem round_new {pl : List Bool} {mv : List (List Int)} {r : Int} {W : List Int} {i : Nat} (hi : i < mv.length) (h : getI W i < 0) (h2 : 0 ≤ getI (roundW pl mv r W) i) : getI (roundW pl mv r W) i = r := by
  unfold roundW at *
  rw [getI_map_range hi] at *
  unfold nxt at *
  split at h2
  · rename_i hc; rw [if_pos hc]
  · omega

theorem iter_keep {pl wn : List Bool} {mv : List (List Int)} {k i : Nat} (hi : i < mv.length) (h : 0 ≤ getI (iterW pl mv wn k) i) : ∀ j, getI (iterW pl mv wn (k + j)) i = getI (iterW pl mv wn k) i
  | 0 => rfl
  | j + 1 => by
    have ih := iter_keep hi h j
    rw [show k + (j + 1) = (k + j) + 1 by omega, iterW, round_keep hi (by rw [ih]; exact h), ih]

/-- A distance was found in the round that it says. -/
theorem iter_when {pl wn : List Bool} {mv : List (List Int)} {i : Nat} (hi : i < mv.length) (hwn : wn.length = mv.length) : ∀ (m : Nat) (v : Nat), getI (iterW pl mv wn m) i = v → v ≤ m ∧ getI (iterW pl mv wn v) i = v
  | 0, v, h => by
    have h0 := getI_rng (by omega) (iterW_rng (pl := pl) (mv := mv) (wn := wn) 0) i
    have : v = 0 := by omega
    subst this
    exact ⟨Nat.le_refl _, h⟩
  | m + 1, v, h => by
    by_cases hp : 0 ≤ getI (iterW pl mv wn m) i
    · have h1 := round_keep (pl := pl) (r := m + 1) hi hp
      rw [iterW, h1] at h
      obtain ⟨h2, h3⟩ := iter_when hi hwn m v h
      exact ⟨by omega, h3⟩
    · have h1 := round_new (pl := pl) (r := m + 1) (W := iterW pl mv wn m) hi (by omega) (by rw [iterW] at h; omega)
      have h2 := h
      rw [iterW, h1] at h2
      have : v = m + 1 := by omega
      subst this
      exact ⟨Nat.le_refl _, h⟩

theorem iter_grow {pl wn : List Bool} {mv : List (List Int)} (hwn : wn.length = mv.length) : ∀ k, (∀ j, j < k → iterW pl mv wn (j + 1) ≠ iterW pl mv wn j) → cntW (iterW pl mv wn 0) + k ≤ cntW (iterW pl mv wn k)
  | 0, _ => Nat.le_refl _
  | k + 1, h => by
    have ih := iter_grow hwn k fun j hj => h j (by omega)
    have := cnt_round (pl := pl) (mv := mv) (r := k + 1) (W := iterW pl mv wn k) (by omega) (iterW_len hwn k) (h k (by omega))
    have e : iterW pl mv wn (k + 1) = roundW pl mv (k + 1) (iterW pl mv wn k) := rfl
    rw [e]
    omega
theorem iter_all {pl wn : List Bool} {mv : List (List Int)} (hwn : wn.length = mv.length) {k : Nat} (hk : mv.length ≤ k) : iterW pl mv wn k = distW pl mv wn := by
  by_cases h : ∃ j, j ≤ mv.length ∧ iterW pl mv wn (j + 1) = iterW pl mv wn j
  · obtain ⟨j, hj, he⟩ := h
    have h1 := iterW_stable he (k - j)
    have h2 := iterW_stable he (mv.length - j)
    rw [show j + (k - j) = k by omega] at h1
    rw [show j + (mv.length - j) = mv.length by omega] at h2
    rw [h1, distW, h2]
  · exfalso
    have := iter_grow (pl := pl) hwn (mv.length + 1) fun j hj he => h ⟨j, by omega, he⟩
    have h2 := cnt_le (iterW pl mv wn (mv.length + 1))
    rw [iterW_len hwn] at h2
    omega

/-- Who is found behind some rounds: those that are as far at most. -/
theorem isIn_iter {pl wn : List Bool} {mv : List (List Int)} {i : Nat} (hi : i < mv.length) (hwn : wn.length = mv.length) (k : Nat) :
    0 ≤ getI (iterW pl mv wn k) i ↔ (0 ≤ getI (distW pl mv wn) i ∧ getI (distW pl mv wn) i ≤ k) := by
  constructor
  · intro h
    have h1 := iter_keep hi h (mv.length)
    rw [iter_all hwn (by omega)] at h1
    have h2 := getI_rng (by omega) (iterW_rng (pl := pl) (mv := mv) (wn := wn) k) i
    omega
  · rintro ⟨h1, h2⟩
    obtain ⟨v, hv⟩ : ∃ v : Nat, getI (distW pl mv wn) i = v := ⟨(getI (distW pl mv wn) i).toNat, by omega⟩
    obtain ⟨h3, h4⟩ := iter_when hi hwn mv.length v hv
    have h5 := iter_keep (pl := pl) (wn := wn) hi (k := v) (by omega) (k - v)
    rw [show v + (k - v) = k by omega] at h5
    omega
theorem dist_zero {pl wn : List Bool} {mv : List (List Int)} {i : Nat} (hi : i < mv.length) (hwn : wn.length = mv.length) : getI (distW pl mv wn) i = 0 ↔ wn.getD i false = true := by
  have h1 := isIn_iter (pl := pl) hi hwn 0
  have h2 : getI (iterW pl mv wn 0) i = if wn.getD i false then 0 else -1 := by
    unfold iterW startW getI
    rw [List.getD_eq_getElem?_getD, Int.toNat_natCast, List.getElem?_map, List.getElem?_eq_getElem (by omega), List.getD_eq_getElem?_getD, List.getElem?_eq_getElem (by omega)]
    rfl
  rw [h2] at h1
  cases hw : wn.getD i false with
  | true => rw [hw] at h1; simp only [if_true] at h1; constructor; exact fun _ => rfl; intro _; have := h1.1 (by omega); omega
  | false =>
    rw [hw] at h1
    simp only [Bool.false_eq_true, if_false] at h1
    constructor
    · intro h; have := h1.2 (by omega); omega
    · intro h; cases h
theorem wins_none {p : Bool} {l : List Int} {g : Int → Bool} (h : ∀ x, g x = false) : wins1 p l g = false := by
  unfold wins1
  cases p with
  | true => simp [h]
  | false => cases l with | nil => simp | cons x l => simp [h]
theorem dist_lt {pl wn : List Bool} {mv : List (List Int)} {i : Nat} (hi : i < mv.length) (hwn : wn.length = mv.length) : getI (distW pl mv wn) i < mv.length := by
  have hr := getI_rng (by omega) (iterW_rng (pl := pl) (mv := mv) (wn := wn) mv.length) i
  by_cases h : getI (distW pl mv wn) i < mv.length
  · exact h
  · exfalso
    have hd : getI (iterW pl mv wn mv.length) i = mv.length := by
      have : getI (iterW pl mv wn mv.length) i = getI (distW pl mv wn) i := rfl
      omega
    have hch : ∀ j, j < mv.length → iterW pl mv wn (j + 1) ≠ iterW pl mv wn j := fun j hj he => by
      have h1 := iterW_stable he (mv.length - j)
      rw [show j + (mv.length - j) = mv.length by omega] at h1
      rw [h1] at hd
      have h2 := getI_rng (by omega) (iterW_rng (pl := pl) (mv := mv) (wn := wn) j) i
      omega
    have hg := iter_grow (pl := pl) hwn mv.length hch
    have hc := cnt_le (iterW pl mv wn mv.length)
    rw [iterW_len hwn] at hc
    have h0 : cntW (iterW pl mv wn 0) = 0 := by omega
    refine hch 0 (by omega) ?_
    have hneg : ∀ x : Int, isIn (iterW pl mv wn 0) x = false := fun x => by
      unfold cntW at h0
      rw [List.countP_eq_zero] at h0
      unfold isIn getI
      rw [List.getD_eq_getElem?_getD]
      cases e : (iterW pl mv wn 0)[x.toNat]? with
      | none => rfl
      | some y =>
        have := h0 y (List.mem_of_getElem? e)
        simpa using this
    have e : iterW pl mv wn (0 + 1) = roundW pl mv ((0 : Nat) + 1) (iterW pl mv wn 0) := rfl
    rw [e]
    conv => rhs; rw [list_range (iterW_len hwn 0)]
    unfold roundW
    refine List.map_congr_left fun j hj => ?_
    unfold nxt
    rw [if_neg]
    intro hcc
    rw [wins_none hneg] at hcc
    cases hcc.2

theorem wins_mono {p : Bool} {l : List Int} {g g' : Int → Bool} (h : ∀ x ∈ l, g x = true → g' x = true) (hw : wins1 p l g = true) : wins1 p l g' = true := by
  unfold wins1 at *
  cases p with
  | true =>
    simp only [if_true, List.any_eq_true] at *
    obtain ⟨x, hx, hg⟩ := hw
    exact ⟨x, hx, h x hx hg⟩
  | false =>
    simp only [Bool.false_eq_true, if_false, Bool.and_eq_true, List.all_eq_true] at *
    exact ⟨hw.1, fun x hx => h x hx (hw.2 x hx)⟩

def nearB (far near : List Int) : Bool := (List.range far.length).all fun i : Nat => !(decide (0 ≤ getI far i) && (decide (getI near i < 0) || decide (getI far i < getI near i)))

/-- If one machine finds all that another one finds, in each round, it is nearer. -/
theorem near_of {pl pl' wn wn' : List Bool} {mv mv' : List (List Int)} (hl : mv'.length = mv.length) (hwn : wn.length = mv.length) (hwn' : wn'.length = mv.length)
    (h0 : ∀ i, i < mv.length → wn.getD i false = true → wn'.getD i false = true)
    (hs : ∀ i (g g' : Int → Bool), i < mv.length → (∀ x ∈ mv.getD i [], g x = true → g' x = true) → (∀ x ∈ mv'.getD i [], g x = true → g' x = true) → wins1 (pl.getD i false) (mv.getD i []) g = true → wins1 (pl'.getD i false) (mv'.getD i []) g' = true)
    (hin : ∀ i, i < mv.length → (∀ x ∈ mv.getD i [], 0 ≤ x ∧ x < mv.length) ∧ (∀ x ∈ mv'.getD i [], 0 ≤ x ∧ x < mv.length)) :
    nearB (distW pl mv wn) (distW pl' mv' wn') = true := by
  have key : ∀ k i : Nat, i < mv.length → 0 ≤ getI (iterW pl mv wn k) i → 0 ≤ getI (iterW pl' mv' wn' k) i := by
    intro k
    induction k with
    | zero =>
      intro i hi h
      rw [isIn_iter hi hwn 0] at h
      have h1 := (dist_zero (pl := pl) hi hwn).1 (by omega)
      have h2 := (dist_zero (pl := pl') (mv := mv') (wn := wn') (i := i) (by omega) (by omega)).2 (h0 i hi h1)
      exact (isIn_iter (by omega) (by omega) 0).2 (by omega)
    | succ k ih =>
      intro i hi h
      have e : ∀ p m w, iterW p m w (k + 1) = roundW p m (k + 1) (iterW p m w k) := fun _ _ _ => rfl
      rw [e, round_sign (by omega) hi] at h
      rw [e, round_sign (by omega) (by omega)]
      rcases h with h | h
      · exact .inl (ih i hi h)
      · have hg : ∀ x : Int, 0 ≤ x → x < mv.length → isIn (iterW pl mv wn k) x = true → isIn (iterW pl' mv' wn' k) x = true := fun x h1 h2 h3 => by
          have := ih x.toNat (by omega)
          rw [show ((x.toNat : Nat) : Int) = x by omega] at this
          simp only [isIn, decide_eq_true_eq] at *
          exact this h3
        exact .inr (hs i _ _ hi (fun x hx => hg x ((hin i hi).1 x hx).1 ((hin i hi).1 x hx).2) (fun x hx => hg x ((hin i hi).2 x hx).1 ((hin i hi).2 x hx).2) h)
  unfold nearB
  rw [List.all_eq_true]
  intro i hi
  have hi : i < mv.length := by
    have := iterW_len (pl := pl) (mv := mv) (wn := wn) hwn mv.length
    simp only [List.mem_range] at hi
    unfold distW at hi
    omega
  by_cases hd : 0 ≤ getI (distW pl mv wn) i
  · have h1 := (isIn_iter (pl := pl) hi hwn (getI (distW pl mv wn) i).toNat).2 (by omega)
    have h2 := key _ i hi h1
    rw [isIn_iter (by omega) (by omega)] at h2
    have h3 : decide (getI (distW pl' mv' wn') i < 0) = false := by simp; omega
    have h4 : decide (getI (distW pl mv wn) i < getI (distW pl' mv' wn') i) = false := by simp; omega
    rw [h3, h4]
    simp
  · have : decide (0 ≤ getI (distW pl mv wn) i) = false := by simp; omega
    rw [this]; rfl
end Go.Proofs.Ytglmjdpmpgphkaa.Sk

/- Contracts of functions: the distances that laws ask for, lists with one more move, and nearer ones. -/
namespace Go.Proofs.Ytglmjdpmpgphkaa.Sk
open Go Go.E Go.E.Sm
set_option maxRecDepth 10000

theorem distW_rng' {pl wn : List Bool} {mv : List (List Int)} (k : Int) : -1 ≤ getI (distW pl mv wn) k ∧ getI (distW pl mv wn) k ≤ mv.length := getI_rng (by omega) (iterW_rng _) k

theorem k47 {pl wn : List Bool} {mv : List (List Int)} : E.Fn Try.prog 47 [mach pl mv wn] [.bool (!greatB pl mv wn && decide (chkM pl mv wn = 0))] := by
  refine fn_of_row okf47 ?_
  simp only [FRow.start, f47, c47r0, c47r1, mach, bools, go_sem, ↓reduceIte, reduceCtorEq, Nat.reduceAdd, Nat.reduceSub, Nat.reduceLT, Nat.reduceLeDiff]
  refine callK_of rfl (k16 (pl := pl) (mv := mv) (wn := wn)) (.inl rfl) ?_
  cases hg : greatB pl mv wn with
  | true => simp only [Bool.false_and, go_sem, ↓reduceIte, reduceCtorEq, Nat.reduceAdd, Nat.reduceSub, Nat.reduceLT, Nat.reduceLeDiff]
  | false =>
    simp only [go_sem, ↓reduceIte, reduceCtorEq, Nat.reduceAdd, Nat.reduceSub, Nat.reduceLT, Nat.reduceLeDiff]
    refine callK_of rfl (k21 (pl := pl) (mv := mv) (wn := wn)) (.inl rfl) ?_
    simp only [Bool.true_and, go_sem, ↓reduceIte, reduceCtorEq, Nat.reduceAdd, Nat.reduceSub, Nat.reduceLT, Nat.reduceLeDiff]

theorem k48 {pl wn : List Bool} {mv : List (List Int)} (hv : Valid pl mv wn) : E.Fn Try.prog 48 [mach pl mv wn] [ints (distW pl mv wn), .bool true] := by
  refine fn_of_row okf48 ?_
  have h1 := hv.few
  have hdl := distW_len hv
  have h0 := of_valid hv
  have hd : distR pl mv wn = [ints (distW pl mv wn), .int .i64 0] := by unfold distR; rw [if_pos h0]
  have hrng := fun k => distW_rng' (pl := pl) (mv := mv) (wn := wn) k
  have hlt := fun i hi => dist_lt (pl := pl) (mv := mv) (wn := wn) (i := i) hi hv.wn
  have hz := fun i hi => dist_zero (pl := pl) (mv := mv) (wn := wn) (i := i) hi hv.wn
  simp only [FRow.start, f48, c48r0, c48r1, mach, bools, go_sem, ↓reduceIte, reduceCtorEq, Nat.reduceAdd, Nat.reduceSub, Nat.reduceLT, Nat.reduceLeDiff]
  refine callK_of rfl (k18 (pl := pl) (mv := mv) (wn := wn)) (.inr rfl) ?_
  rw [hd]
  generalize distW pl mv wn = D at *
  simp only [c48r2, ints, Int.natCast_inj, hdl, go_sem, ↓reduceIte, reduceCtorEq, Nat.reduceAdd, Nat.reduceSub, Nat.reduceLT, Nat.reduceLeDiff]
  intro _
  simp only [c48r4, go_sem, ↓reduceIte, reduceCtorEq, Nat.reduceAdd, Nat.reduceSub, Nat.reduceLT, Nat.reduceLeDiff]
  refine loop_rule (fun n τ => ∃ i : Nat, n = mv.length - i ∧ i ≤ mv.length ∧
    τ = ⟨[.any, .s (.ptr [.slice (pl.map .bool), .slice (mv.map ints), .slice (wn.map .bool)]), .any, .any, .s (.slice (D.map (.int .i64))), .any, .s (.int .i64 i), .any, .any, .any, .any, .any, .any, .any, .any, .any, .any, .any, .any, .any, .any, .any, .any, .any, .any, .any, .any, .any, .any, .any, .any, .any, .any, .any, .any, .any, .any, .any, .any, .any, .any, .any, .any, .any, .any, .any, .any, .any, .any, .any, .any, .any, .any, .any, .any, .any], []⟩) mv.length rfl ?_ ?_
  · simp only [c48l9m, go_sem, ↓reduceIte, reduceCtorEq, Nat.reduceAdd, Nat.reduceSub, Nat.reduceLT, Nat.reduceLeDiff]
    exact ⟨0, rfl, Nat.zero_le _, rfl⟩
  · rintro I n τ ⟨i, rfl, hi, rfl⟩ hI
    simp only [c48l9, c48r5, hdl, go_sem, ↓reduceIte, reduceCtorEq, Nat.reduceAdd, Nat.reduceSub, Nat.reduceLT, Nat.reduceLeDiff]
    intro _
    refine ⟨fun hlt1 => ?_, fun hge => ?_⟩
    · have hlt' : i < mv.length := by omega
      obtain ⟨hm, hp, hw, hm2, hp2, hw2, hins⟩ := hv.at' hlt'
      have hx := getI_nat (W := D) (i := i) (by omega)
      have hx2 : i < D.length := by omega
      have hr := hrng i
      have hl := hlt i hlt'
      have hzi := hz i hlt'
      generalize wn.getD i false = w at *
      have hw0 : SV.bool (decide (getI D i = 0)) = SV.bool w := by
        congr 1
        cases w with
        | true => simpa using hzi
        | false => simpa using hzi
      have e1 : decide (getI D i < -1) = false := by simp; omega
      have e2 : decide ((D.length : Int) ≤ getI D i) = false := by simp; omega
      simp only [c48r6, hx, hx2, e1, e2, hw, hw2, go_sem, ↓reduceIte, reduceCtorEq, Nat.reduceAdd, Nat.reduceSub, Nat.reduceLT, Nat.reduceLeDiff]
      intro _
      refine ⟨fun _ => ?_, fun hn => absurd hw0 hn⟩
      simp only [c48r8, c48l9m, go_sem, ↓reduceIte, reduceCtorEq, Nat.reduceAdd, Nat.reduceSub, Nat.reduceLT, Nat.reduceLeDiff]
      exact ⟨inR_i64 (by omega) (by omega), hI (mv.length - (i + 1)) _ (by omega) ⟨i + 1, rfl, by omega, by simp⟩⟩
    · have hie : i = mv.length := by omega
      subst hie
      simp only [c48r10, go_sem, ↓reduceIte, reduceCtorEq, Nat.reduceAdd, Nat.reduceSub, Nat.reduceLT, Nat.reduceLeDiff]

theorem k52 {a b : List Int} (hl : a.length = b.length) : E.Fn Try.prog 52 [ints a, ints b] [.bool (nearB a b)] := by
  refine fn_of_row okf52 ?_
  simp only [FRow.start, f52, c52r0, c52r1, ints, go_sem, ↓reduceIte, reduceCtorEq, Nat.reduceAdd, Nat.reduceSub, Nat.reduceLT, Nat.reduceLeDiff]
  refine loop_rule (fun n τ => ∃ i : Nat, n = a.length - i ∧ i ≤ a.length ∧ ((List.range i).all fun i : Nat => !(decide (0 ≤ getI a i) && (decide (getI b i < 0) || decide (getI a i < getI b i)))) = true ∧
    τ = ⟨[.s (.slice (a.map (.int .i64))), .s (.slice (b.map (.int .i64))), .any, .any, .any, .s (.int .i64 i), .any, .any, .any, .any, .any, .any, .any, .any, .any, .any, .any, .any, .any, .any, .any, .any, .any, .any, .any, .any, .any, .any, .any, .any, .any, .any, .any, .any, .any], []⟩) a.length rfl ?_ ?_
  · simp only [c52l6m, go_sem, ↓reduceIte, reduceCtorEq, Nat.reduceAdd, Nat.reduceSub, Nat.reduceLT, Nat.reduceLeDiff]
    exact ⟨0, rfl, Nat.zero_le _, rfl, rfl⟩
  · rintro I n τ ⟨i, rfl, hi, hall, rfl⟩ hI
    simp only [c52l6, c52r2, go_sem, ↓reduceIte, reduceCtorEq, Nat.reduceAdd, Nat.reduceSub, Nat.reduceLT, Nat.reduceLeDiff]
    intro hal
    have hal' : (a.length : Int) ≤ 2 ^ 63 - 1 := Int.le_trans (Int.ofNat_le.mpr hal) maxLen_le
    refine ⟨fun hlt => ?_, fun hge => ?_⟩
    · have hx := getI_nat (W := a) (i := i) hlt
      have hy := getI_nat (W := b) (i := i) (by omega)
      have hy2 : i < b.length := by omega
      have bad : (!(decide (0 ≤ getI a i) && (decide (getI b i < 0) || decide (getI a i < getI b i)))) = false → nearB a b = false := fun h => all_not hlt h
      have good : (!(decide (0 ≤ getI a i) && (decide (getI b i < 0) || decide (getI a i < getI b i)))) = true → I ⟨[.s (.slice (a.map (.int .i64))), .s (.slice (b.map (.int .i64))), .any, .any, .any, .s (.int .i64 (i + 1)), .any, .any, .any, .any, .any, .any, .any, .any, .any, .any, .any, .any, .any, .any, .any, .any, .any, .any, .any, .any, .any, .any, .any, .any, .any, .any, .any, .any, .any], []⟩ := fun h =>
        hI (a.length - (i + 1)) _ (by omega) ⟨i + 1, rfl, by omega, all_succ hall h, by simp⟩
      generalize getI a i = x at *
      generalize getI b i = y at *
      simp only [c52r3, hx, hlt, hy, hy2, go_sem, ↓reduceIte, reduceCtorEq, Nat.reduceAdd, Nat.reduceSub, Nat.reduceLT, Nat.reduceLeDiff]
      refine ⟨fun h0 => ⟨fun h1 => ?_, fun h1 => ⟨fun h2 => ?_, fun h2 => ?_⟩⟩, fun h0 => ?_⟩
      · simp only [c52r4, bad (by simp [h0, h1]), go_sem, ↓reduceIte, reduceCtorEq, Nat.reduceAdd, Nat.reduceSub, Nat.reduceLT, Nat.reduceLeDiff]
      · simp only [c52r4, bad (by simp [h0, h2]), go_sem, ↓reduceIte, reduceCtorEq, Nat.reduceAdd, Nat.reduceSub, Nat.reduceLT, Nat.reduceLeDiff]
      · simp only [c52r5, c52l6m, go_sem, ↓reduceIte, reduceCtorEq, Nat.reduceAdd, Nat.reduceSub, Nat.reduceLT, Nat.reduceLeDiff]
        exact ⟨inR_i64 (by omega) (by omega), good (by simp; omega)⟩
      · simp only [c52r5, c52l6m, go_sem, ↓reduceIte, reduceCtorEq, Nat.reduceAdd, Nat.reduceSub, Nat.reduceLT, Nat.reduceLeDiff]
        exact ⟨inR_i64 (by omega) (by omega), good (by simp; omega)⟩
    · have hie : i = a.length := by omega
      subst hie
      have : nearB a b = true := hall
      simp only [c52r7, this, go_sem, ↓reduceIte, reduceCtorEq, Nat.reduceAdd, Nat.reduceSub, Nat.reduceLT, Nat.reduceLeDiff]

/-- A list with one more number. -/
def withL (l : List Int) (n : Int) : List Int := outP (fun i => decide (i = n) || hasL l i) 20
theorem k51 {l : List Int} {y : Int} : E.Fn Try.prog 51 [ints l, .int .i64 y] [ints (withL l y)] := by
  refine fn_of_row okf51 ?_
  unfold withL
  generalize hq : (fun i : Int => decide (i = y) || hasL l i) = q
  have hq' : ∀ x, q x = (decide (x = y) || hasL l x) := fun x => by rw [← hq]
  simp only [FRow.start, f51, c51r0, c51r1, c51r2, ints, go_sem, ↓reduceIte, reduceCtorEq, Nat.reduceAdd, Nat.reduceSub, Nat.reduceLT, Nat.reduceLeDiff]
  refine loop_rule (fun n τ => ∃ i : Nat, n = 20 - i ∧ i ≤ 20 ∧
    τ = ⟨[.s (.slice (l.map (.int .i64))), .s (.int .i64 y), .any, .any, .any, .sl 0 0 (outP q i).length 1 false, .s (.int .i64 i), .any, .any, .any, .any, .any, .any, .any, .any, .any, .any, .any, .any, .any, .any, .any, .any, .any], [.row ((outP q i).map (SV.int .i64))]⟩) 20 (promo_one rfl) ?_ ?_
  · simp only [c51l7m, go_sem, ↓reduceIte, reduceCtorEq, Nat.reduceAdd, Nat.reduceSub, Nat.reduceLT, Nat.reduceLeDiff]
    exact ⟨0, rfl, Nat.zero_le _, by simp [outP]⟩
  · rintro I n τ ⟨i, rfl, hi, rfl⟩ hI
    have hos := outP_succ q i
    have hol := outP_len q i
    rw [hq'] at hos
    generalize hO : outP q i = O at *
    simp only [c51l7, c51r3, go_sem, ↓reduceIte, reduceCtorEq, Nat.reduceAdd, Nat.reduceSub, Nat.reduceLT, Nat.reduceLeDiff]
    refine ⟨fun hlt => ?_, fun hge => ?_⟩
    · have hlt' : i < 20 := by omega
      have app : q i = true → I ⟨[.s (.slice (l.map (.int .i64))), .s (.int .i64 y), .any, .any, .any, .sl 0 0 (O.length + 1) 1 false, .s (.int .i64 (i + 1)), .any, .any, .any, .any, .any, .any, .any, .any, .any, .any, .any, .any, .any, .any, .any, .any, .any], [.row ((O ++ [(i : Int)]).map (SV.int .i64))]⟩ := fun h => by
        rw [hq'] at h
        rw [if_pos h] at hos
        exact hI (20 - (i + 1)) _ (by omega) ⟨i + 1, rfl, by omega, by rw [hos]; simp⟩
      have skip : q i = false → I ⟨[.s (.slice (l.map (.int .i64))), .s (.int .i64 y), .any, .any, .any, .sl 0 0 O.length 1 false, .s (.int .i64 (i + 1)), .any, .any, .any, .any, .any, .any, .any, .any, .any, .any, .any, .any, .any, .any, .any, .any, .any], [.row (O.map (SV.int .i64))]⟩ := fun h => by
        rw [hq'] at h
        rw [if_neg (by rw [h]; simp)] at hos
        exact hI (20 - (i + 1)) _ (by omega) ⟨i + 1, rfl, by omega, by rw [hos]; simp⟩
      simp only [c51r4, go_sem, ↓reduceIte, reduceCtorEq, Nat.reduceAdd, Nat.reduceSub, Nat.reduceLT, Nat.reduceLeDiff]
      refine ⟨fun he => ?_, fun he => ?_⟩
      · simp only [c51r5, go_sem, ↓reduceIte, reduceCtorEq, Nat.reduceAdd, Nat.reduceSub, Nat.reduceLT, Nat.reduceLeDiff]
        refine ⟨by decide, by decide, rfl, one1, one1, by omega, by omega, by omega, ?_⟩
        rw [app_map]
        simp only [c51r6, c51l7m, go_sem, ↓reduceIte, reduceCtorEq, Nat.reduceAdd, Nat.reduceSub, Nat.reduceLT, Nat.reduceLeDiff]
        exact ⟨inR_i64 (by omega) (by omega), app (by rw [hq']; simp [he])⟩
      · refine callK_of rfl (k49 (xs := l) (v := i)) (.inl rfl) ?_
        cases hh : hasL l i with
        | true =>
          simp only [c51r5, go_sem, ↓reduceIte, reduceCtorEq, Nat.reduceAdd, Nat.reduceSub, Nat.reduceLT, Nat.reduceLeDiff]
          refine ⟨by decide, by decide, rfl, one1, one1, by omega, by omega, by omega, ?_⟩
          rw [app_map]
          simp only [c51r6, c51l7m, go_sem, ↓reduceIte, reduceCtorEq, Nat.reduceAdd, Nat.reduceSub, Nat.reduceLT, Nat.reduceLeDiff]
          exact ⟨inR_i64 (by omega) (by omega), app (by rw [hq', hh]; simp)⟩
        | false =>
          simp only [c51r6, c51l7m, go_sem, ↓reduceIte, reduceCtorEq, Nat.reduceAdd, Nat.reduceSub, Nat.reduceLT, Nat.reduceLeDiff]
          exact ⟨inR_i64 (by omega) (by omega), skip (by rw [hq', hh]; simp [he])⟩
    · have hie : i = 20 := by omega
      subst hie
      have hso : sliceOf 0 O.length 1 (O.map (SV.int .i64)) = some (.slice (O.map (SV.int .i64))) := sliceOf_all (by simp)
      simp only [c51r8, hso, hO, go_sem, ↓reduceIte, reduceCtorEq, Nat.reduceAdd, Nat.reduceSub, Nat.reduceLT, Nat.reduceLeDiff]

theorem rise_snoc {below : Int} : ∀ (l : List Int) (lo y : Int), rise lo below l = true → (∀ x ∈ l, x < y) → lo ≤ y → y < below → rise lo below (l ++ [y]) = true
  | [], lo, y, _, _, h1, h2 => by simp [rise, h1, h2]
  | x :: l, lo, y, h, hx, h1, h2 => by
    simp only [rise, Bool.and_eq_true, decide_eq_true_eq, List.cons_append] at *
    exact ⟨h.1, rise_snoc l (x + 1) y h.2 (fun z hz => hx z (by simp [hz])) (by have := hx x (by simp); omega) h2⟩
theorem outP_lt (q : Int → Bool) (m : Nat) : ∀ x ∈ outP q m, 0 ≤ x ∧ x < m := by
  intro x hx
  unfold outP at hx
  obtain ⟨h1, _⟩ := List.mem_filter.1 hx
  obtain ⟨j, hj, rfl⟩ := List.mem_map.1 h1
  have : j < m := by simpa using hj
  omega
theorem rise_outP {q : Int → Bool} {below : Int} : ∀ (m : Nat), (∀ i : Nat, i < m → q i = true → (i : Int) < below) → rise 0 below (outP q m) = true
  | 0, _ => rfl
  | m + 1, h => by
    have ih := rise_outP m fun i hi => h i (by omega)
    rw [outP_succ]
    split
    · rename_i hq
      exact rise_snoc _ 0 m ih (fun x hx => (outP_lt q m x hx).2) (by omega) (h m (by omega) hq)
    · exact ih
theorem hasL_mem' {l : List Int} {x : Int} (h : hasL l x = true) : x ∈ l := by
  unfold hasL at h
  rw [List.any_eq_true] at h
  obtain ⟨y, hy, he⟩ := h
  rw [decide_eq_true_eq] at he
  exact he ▸ hy
theorem withL_rise {n : Nat} {l : List Int} {y : Int} (hr : rise 0 n l = true) (h1 : y < n) : rise 0 n (withL l y) = true := by
  refine rise_outP 20 fun i _ hq => ?_
  simp only [Bool.or_eq_true, decide_eq_true_eq] at hq
  rcases hq with h | h
  · omega
  · exact (rise_mem _ _ l hr _ (hasL_mem' h)).2
theorem hasL_of {l : List Int} {x : Int} (h : x ∈ l) : hasL l x = true := by
  unfold hasL
  rw [List.any_eq_true]
  exact ⟨x, h, by simp⟩
theorem withL_sub {n : Nat} {l : List Int} {y : Int} (hn : n ≤ 20) (hr : rise 0 n l = true) : ∀ x ∈ l, x ∈ withL l y := by
  intro x hx
  have hm := rise_mem _ _ l hr x hx
  unfold withL outP
  rw [List.mem_filter]
  refine ⟨List.mem_map.2 ⟨x.toNat, by simp; omega, by omega⟩, ?_⟩
  rw [hasL_of hx]; simp
theorem Valid.moves {pl wn : List Bool} {mv : List (List Int)} (hv : Valid pl mv wn) (i : Nat) (l : List Int) (hl : rise 0 mv.length l = true) : Valid pl (mv.set i l) wn := by
  refine ⟨by rw [List.length_set]; exact hv.pos, by rw [List.length_set]; exact hv.few, by rw [List.length_set]; exact hv.pl, by rw [List.length_set]; exact hv.wn, fun m hm => ?_⟩
  rw [List.length_set]
  rcases List.mem_or_eq_of_mem_set hm with h | h
  · exact hv.ris m h
  · rw [h]; exact hl
theorem Valid.won {pl wn : List Bool} {mv : List (List Int)} (hv : Valid pl mv wn) (w : List Bool) (hw : w.length = wn.length) : Valid pl mv w := ⟨hv.pos, hv.few, hv.pl, by rw [hw]; exact hv.wn, hv.ris⟩
theorem getD_set {α : Type} {d : α} {l : List α} {i j : Nat} {x : α} (hi : i < l.length) : (l.set i x).getD j d = if i = j then x else l.getD j d := by
  rw [List.getD_eq_getElem?_getD, List.getD_eq_getElem?_getD, List.getElem?_set]
  split
  · rfl
  · rfl
end Go.Proofs.Ytglmjdpmpgphkaa.Sk

/- Distances: how one goes with those of its moves; that they prove as ranks, the keep as one, and what given ranks and keeps say of them. -/
namespace Go.Proofs.Ytglmjdpmpgphkaa.Sk
open Go Go.E
set_option linter.all false

theorem wins_congr {p : Bool} {l : List Int} {g g' : Int → Bool} (h : ∀ x ∈ l, g x = g' x) : wins1 p l g = wins1 p l g' := by
  rw [Bool.eq_iff_iff]
  exact ⟨wins_mono fun x hx hg => by rw [← h x hx]; exact hg, wins_mono fun x hx hg => by rw [h x hx]; exact hg⟩

theorem dist_step {pl wn : List Bool} {mv : List (List Int)} (hv : Valid pl mv wn) {i : Nat} (hi : i < mv.length) (r : Nat) :
    (0 ≤ getI (distW pl mv wn) i ∧ getI (distW pl mv wn) i ≤ r + 1) ↔ ((0 ≤ getI (distW pl mv wn) i ∧ getI (distW pl mv wn) i ≤ r) ∨ wins1 (pl.getD i false) (mv.getD i []) (lessB (distW pl mv wn) (r + 1)) = true) := by
  have h1 := isIn_iter (pl := pl) hi hv.wn (r + 1)
  have h2 := isIn_iter (pl := pl) hi hv.wn r
  have e : iterW pl mv wn (r + 1) = roundW pl mv (r + 1) (iterW pl mv wn r) := rfl
  rw [e, round_sign (by omega) hi, h2] at h1
  rw [show ((r + 1 : Nat) : Int) = (r : Int) + 1 by omega] at h1
  rw [← h1]
  refine or_congr Iff.rfl ?_
  rw [wins_congr (g' := lessB (distW pl mv wn) (r + 1)) fun x hx => ?_]
  have hx2 := (hv.at' hi).ins x hx
  have h3 := isIn_iter (pl := pl) (i := x.toNat) (by omega) hv.wn r
  rw [show ((x.toNat : Nat) : Int) = x by omega] at h3
  unfold isIn lessB
  rw [Bool.eq_iff_iff, Bool.and_eq_true, decide_eq_true_eq, decide_eq_true_eq, decide_eq_true_eq, h3]
  omega

theorem dist_pos {pl wn : List Bool} {mv : List (List Int)} (hv : Valid pl mv wn) {i : Nat} (hi : i < mv.length) (h : 0 < getI (distW pl mv wn) i) :
    wins1 (pl.getD i false) (mv.getD i []) (lessB (distW pl mv wn) (getI (distW pl mv wn) i)) = true := by
  obtain ⟨r, hr⟩ : ∃ r : Nat, getI (distW pl mv wn) i = r + 1 := ⟨(getI (distW pl mv wn) i - 1).toNat, by omega⟩
  rcases (dist_step hv hi r).1 (by omega) with h1 | h1
  · omega
  · rw [hr]; exact h1
theorem dist_neg {pl wn : List Bool} {mv : List (List Int)} (hv : Valid pl mv wn) {i : Nat} (hi : i < mv.length) (h : getI (distW pl mv wn) i < 0) :
    wins1 (pl.getD i false) (mv.getD i []) (isIn (distW pl mv wn)) = false := by
  rw [Bool.eq_false_iff]
  intro hw
  have := (dist_step hv hi mv.length).2 (.inr (wins_mono (fun x hx hg => ?_) hw))
  · omega
  · have := distW_rng' (pl := pl) (mv := mv) (wn := wn) x
    simp only [isIn, lessB, Bool.and_eq_true, decide_eq_true_eq] at *
    omega
/-- Who comes to less ones is no farther. -/
theorem dist_le {pl wn : List Bool} {mv : List (List Int)} (hv : Valid pl mv wn) {i : Nat} (hi : i < mv.length) {r : Int} (hr : 0 ≤ r) (h : wins1 (pl.getD i false) (mv.getD i []) (lessB (distW pl mv wn) r) = true) :
    0 ≤ getI (distW pl mv wn) i ∧ getI (distW pl mv wn) i ≤ r := by
  by_cases h0 : r = 0
  · exfalso
    rw [wins_none (fun x => ?_)] at h
    · cases h
    · simp only [lessB, Bool.and_eq_false_iff, decide_eq_false_iff_not]
      omega
  · obtain ⟨k, hk⟩ : ∃ k : Nat, r = k + 1 := ⟨(r - 1).toNat, by omega⟩
    rw [hk] at h ⊢
    exact (dist_step hv hi k).2 (.inr h)

theorem rank_dist {pl wn : List Bool} {mv : List (List Int)} (hv : Valid pl mv wn) : (List.range mv.length).all (rankOk pl mv wn (distW pl mv wn)) = true := by
  rw [List.all_eq_true]
  intro i hi
  have hi : i < mv.length := by simpa using hi
  unfold rankOk
  have hz := dist_zero (pl := pl) hi hv.wn
  have e : (decide (getI (distW pl mv wn) i = 0) == wn.getD i false) = true := by
    rw [beq_iff_eq, Bool.eq_iff_iff, decide_eq_true_eq, hz]
  rw [e, Bool.true_and, Bool.or_eq_true, decide_eq_true_eq]
  by_cases h : getI (distW pl mv wn) i ≤ 0
  · exact .inl h
  · exact .inr (dist_pos hv hi (by omega))

theorem mem_outP {q : Int → Bool} {m : Nat} {x : Int} : x ∈ outP q m ↔ ((0 ≤ x ∧ x < m) ∧ q x = true) := by
  unfold outP
  rw [List.mem_filter, List.mem_map]
  refine and_congr ⟨?_, fun h => ⟨x.toNat, by simp; omega, by omega⟩⟩ Iff.rfl
  rintro ⟨j, hj, rfl⟩
  have : j < m := by simpa using hj
  omega
theorem has_outP {q : Int → Bool} {m : Nat} {x : Int} (h0 : 0 ≤ x) (h1 : x < m) : hasL (outP q m) x = q x := by
  rw [Bool.eq_iff_iff]
  exact ⟨fun h => (mem_outP.1 (hasL_mem' h)).2, fun h => hasL_of (mem_outP.2 ⟨⟨h0, h1⟩, h⟩)⟩
theorem outP_both (q q' : Int → Bool) : ∀ m : Nat, (∀ i : Nat, i < m → q' i = !q i) → (outP q m).length + (outP q' m).length = m
  | 0, _ => rfl
  | m + 1, h => by
    have ih := outP_both q q' m fun i hi => h i (by omega)
    rw [outP_succ, outP_succ, h m (by omega)]
    cases q m with
    | true => simp; omega
    | false => simp; omega
theorem has_keep {pl wn : List Bool} {mv : List (List Int)} {x : Int} (h0 : 0 ≤ x) (h1 : x < mv.length) : hasL (keepL pl mv wn) x = decide (getI (distW pl mv wn) x < 0) := has_outP h0 h1

theorem ck_keep {pl wn : List Bool} {mv : List (List Int)} (hv : Valid pl mv wn) : ckR pl mv wn (keepL pl mv wn) = 0 := by
  have h1 : rise 0 mv.length (keepL pl mv wn) = true := rise_outP _ fun i hi _ => by omega
  unfold ckR
  rw [if_neg (by rw [of_valid hv]; simp), if_neg (by rw [h1]; simp), if_neg]
  rw [List.any_eq_true]
  rintro ⟨x, hx, hb⟩
  obtain ⟨⟨h2, h3⟩, h4⟩ := mem_outP.1 hx
  rw [decide_eq_true_eq] at h4
  have hxx : ((x.toNat : Nat) : Int) = x := by omega
  unfold badK at hb
  rw [Bool.or_eq_true] at hb
  rcases hb with hb | hb
  · have := (dist_zero (pl := pl) (mv := mv) (i := x.toNat) (by omega) hv.wn).2 hb
    rw [hxx] at this; omega
  · have h5 := dist_neg hv (i := x.toNat) (by omega) (by rw [hxx]; exact h4)
    rw [wins_congr (g' := isIn (distW pl mv wn)) fun y hy => ?_] at hb
    · rw [h5] at hb; cases hb
    · have := (hv.at' (i := x.toNat) (by omega)).ins y hy
      rw [has_keep this.1 this.2]
      unfold isIn
      rw [Bool.eq_iff_iff]
      simp

theorem wins_some {p : Bool} {l : List Int} {g : Int → Bool} (h : wins1 p l g = true) : ∃ x ∈ l, g x = true := by
  unfold wins1 at h
  cases p with
  | true => simpa using h
  | false =>
    simp only [Bool.false_eq_true, if_false, Bool.and_eq_true, List.all_eq_true] at h
    cases l with
    | nil => cases h.1
    | cons x l => exact ⟨x, by simp, h.2 x (by simp)⟩

theorem keep_dist {pl wn : List Bool} {mv : List (List Int)} (hv : Valid pl mv wn) {K : List Int} (hK : ckR pl mv wn K = 0) : ∀ x ∈ K, getI (distW pl mv wn) x < 0 := by
  have hr : rise 0 mv.length K = true ∧ K.any (badK pl mv wn K) = false := by
    unfold ckR at hK
    rw [if_neg (by rw [of_valid hv]; simp)] at hK
    split at hK
    · omega
    · split at hK
      · omega
      · rename_i h1 h2
        exact ⟨by simpa using h1, by simpa using h2⟩
  have hm := rise_mem _ _ K hr.1
  have key : ∀ r : Nat, ∀ x ∈ K, 0 ≤ getI (distW pl mv wn) x → ¬ getI (distW pl mv wn) x ≤ r := by
    intro r
    induction r with
    | zero =>
      intro x hx h0 h1
      have hmx := hm x hx
      have hb := List.any_eq_false.1 hr.2 x hx
      have := (dist_zero (pl := pl) (mv := mv) (wn := wn) (i := x.toNat) (by omega) hv.wn).1 (by rw [show ((x.toNat : Nat) : Int) = x by omega]; omega)
      exact hb (by unfold badK; rw [this, Bool.true_or])
    | succ r ih =>
      intro x hx h0 h1
      have hmx := hm x hx
      have hxx : ((x.toNat : Nat) : Int) = x := by omega
      have hb := List.any_eq_false.1 hr.2 x hx
      have hs := (dist_step hv (i := x.toNat) (by omega) r).1 (by rw [hxx]; omega)
      rw [hxx] at hs
      rcases hs with hs | hs
      · exact ih x hx hs.1 hs.2
      · refine hb ?_
        unfold badK
        rw [wins_mono (fun y hy hg => ?_) hs, Bool.or_true]
        cases hk : hasL K y with
        | false => rfl
        | true =>
          exfalso
          simp only [lessB, Bool.and_eq_true, decide_eq_true_eq] at hg
          exact ih y (hasL_mem' hk) hg.1 (by omega)
  intro x hx
  have := distW_rng' (pl := pl) (mv := mv) (wn := wn) x
  by_cases h : getI (distW pl mv wn) x < 0
  · exact h
  · exact absurd (show getI (distW pl mv wn) x ≤ (mv.length : Nat) by omega) (key mv.length x hx (by omega))

theorem rank_le {pl wn : List Bool} {mv : List (List Int)} (hv : Valid pl mv wn) {R : List Int} (hR : (List.range mv.length).all (rankOk pl mv wn R) = true) :
    ∀ (r : Nat) (i : Nat), i < mv.length → 0 ≤ getI R i → getI R i ≤ r → 0 ≤ getI (distW pl mv wn) i ∧ getI (distW pl mv wn) i ≤ getI R i := by
  rw [List.all_eq_true] at hR
  intro r
  induction r with
  | zero =>
    intro i hi h0 h1
    have hk := hR i (by simpa using hi)
    unfold rankOk at hk
    rw [Bool.and_eq_true, beq_iff_eq] at hk
    have := (dist_zero (pl := pl) (mv := mv) (wn := wn) hi hv.wn).2 (by rw [← hk.1]; simp; omega)
    omega
  | succ r ih =>
    intro i hi h0 h1
    by_cases h2 : getI R i ≤ r
    · exact ih i hi h0 h2
    · have hk := hR i (by simpa using hi)
      unfold rankOk at hk
      rw [Bool.and_eq_true, Bool.or_eq_true, decide_eq_true_eq] at hk
      refine dist_le hv hi h0 (wins_mono (fun x hx hg => ?_) (hk.2.resolve_left (by omega)))
      have hx2 := (hv.at' hi).ins x hx
      simp only [lessB, Bool.and_eq_true, decide_eq_true_eq] at *
      have := ih x.toNat (by omega)
      rw [show ((x.toNat : Nat) : Int) = x by omega] at this
      have := this hg.1 (by omega)
      omega

theorem dist_all {pl wn : List Bool} {mv : List (List Int)} (hv : Valid pl mv wn) : inAll (-1) 14 (distW pl mv wn) = true := by
  unfold inAll
  rw [List.all_eq_true]
  intro x hx
  obtain ⟨j, hj, rfl⟩ := List.getElem_of_mem hx
  have h1 := getI_nat hj
  have h2 := distW_rng' (pl := pl) (mv := mv) (wn := wn) j
  have := hv.few
  rw [List.getElem?_eq_getElem hj, Option.some.injEq] at h1
  simp
  omega
theorem ranks_dist {pl wn : List Bool} {mv : List (List Int)} (hv : Valid pl mv wn) : ranksR pl mv wn (distW pl mv wn) = [ints (outP (fun i => decide (0 ≤ getI (distW pl mv wn) i)) mv.length), .int .i64 0] := by
  unfold ranksR
  rw [if_neg (by rw [of_valid hv]; simp), if_neg (by rw [distW_len hv]; simp), if_neg (by rw [dist_all hv]; simp), if_pos (rank_dist hv)]
theorem keep_res {pl wn : List Bool} {mv : List (List Int)} (hv : Valid pl mv wn) : keepR pl mv wn = [ints (keepL pl mv wn), .int .i64 0] := by
  unfold keepR
  rw [if_pos (of_valid hv)]
/-- What given ranks may say. -/
theorem ranks_cases {pl wn : List Bool} {mv : List (List Int)} (hv : Valid pl mv wn) {R : List Int} :
    (∃ e, e ≠ 0 ∧ ranksR pl mv wn R = [.slice [], .int .i64 e]) ∨
    (R.length = mv.length ∧ (∀ i : Nat, i < mv.length → 0 ≤ getI R i → 0 ≤ getI (distW pl mv wn) i ∧ getI (distW pl mv wn) i ≤ getI R i) ∧ ranksR pl mv wn R = [ints (outP (fun i => decide (0 ≤ getI R i)) mv.length), .int .i64 0]) := by
  unfold ranksR
  rw [if_neg (by rw [of_valid hv]; simp)]
  by_cases h1 : R.length = mv.length
  · rw [if_neg (by simpa using h1)]
    by_cases h2 : inAll (-1) 14 R = false
    · rw [if_pos h2]; exact .inl ⟨3, by decide, rfl⟩
    · rw [if_neg h2]
      by_cases h3 : (List.range mv.length).all (rankOk pl mv wn R) = true
      · rw [if_pos h3]
        exact .inr ⟨h1, fun i hi h0 => rank_le hv h3 (getI R i).toNat i hi h0 (by omega), rfl⟩
      · rw [if_neg h3]; exact .inl ⟨14, by decide, rfl⟩
  · rw [if_pos h1]; exact .inl ⟨15, by decide, rfl⟩
theorem ck_own {pl wn : List Bool} {mv : List (List Int)} (hv : Valid pl mv wn) {q : Int → Bool} : ckR pl mv wn (outP q mv.length) = 0 ∨ ckR pl mv wn (outP q mv.length) = 14 := by
  have h1 : rise 0 mv.length (outP q mv.length) = true := rise_outP _ fun i hi _ => by omega
  unfold ckR
  rw [if_neg (by rw [of_valid hv]; simp), if_neg (by rw [h1]; simp)]
  split
  · exact .inr rfl
  · exact .inl rfl
end Go.Proofs.Ytglmjdpmpgphkaa.Sk

/- If positions have other numbers distances go with them. -/
namespace Go.Proofs.Ytglmjdpmpgphkaa.Sk
open Go Go.E
set_option linter.all false

def rot (n s i : Nat) : Nat := (i + s) % n
def back (n s k : Nat) : Nat := (k + n - s) % n

theorem rot_eq {n s i : Nat} (hs : s < n) (hi : i < n) : rot n s i = if i + s < n then i + s else i + s - n := by
  unfold rot
  split
  · rename_i h; exact Nat.mod_eq_of_lt h
  · rename_i h; rw [Nat.mod_eq_sub_mod (by omega), Nat.mod_eq_of_lt (by omega)]
theorem back_eq {n s i : Nat} (hs : s < n) (hi : i < n) : back n s i = if s ≤ i then i - s else i + n - s := by
  unfold back
  split
  · rename_i h; rw [Nat.mod_eq_sub_mod (by omega), Nat.mod_eq_of_lt (by omega)]; omega
  · rename_i h; exact Nat.mod_eq_of_lt (by omega)
theorem rot_lt {n s i : Nat} (hs : s < n) (hi : i < n) : rot n s i < n := by rw [rot_eq hs hi]; split <;> omega
theorem back_lt {n s i : Nat} (hs : s < n) (hi : i < n) : back n s i < n := by rw [back_eq hs hi]; split <;> omega
theorem back_rot {n s i : Nat} (hs : s < n) (hi : i < n) : back n s (rot n s i) = i := by
  rw [back_eq hs (rot_lt hs hi), rot_eq hs hi]
  split <;> split <;> omega
theorem rot_back {n s i : Nat} (hs : s < n) (hi : i < n) : rot n s (back n s i) = i := by
  rw [rot_eq hs (back_lt hs hi), back_eq hs hi]
  split <;> split <;> omega

theorem getI_start {wn : List Bool} {i : Nat} (hi : i < wn.length) : getI (startW wn) i = if wn.getD i false = true then 0 else -1 := by
  unfold getI startW
  rw [List.getD_eq_getElem?_getD, Int.toNat_natCast, List.getElem?_map, List.getD_eq_getElem?_getD, List.getElem?_eq_getElem hi]; rfl

theorem turn_iter {pl wn pl' wn' : List Bool} {mv mv' : List (List Int)} {s : Nat} (hs : s < mv.length) (hl : mv'.length = mv.length) (hwn : wn.length = mv.length) (hwn' : wn'.length = mv.length)
    (hin : ∀ l ∈ mv, inside mv.length l)
    (hp : ∀ i, i < mv.length → pl'.getD (rot mv.length s i) false = pl.getD i false) (hw : ∀ i, i < mv.length → wn'.getD (rot mv.length s i) false = wn.getD i false)
    (hm : ∀ i, i < mv.length → ∀ y : Int, y ∈ mv'.getD (rot mv.length s i) [] ↔ ∃ x ∈ mv.getD i [], y = (rot mv.length s x.toNat : Nat)) :
    ∀ (k i : Nat), i < mv.length → getI (iterW pl' mv' wn' k) (rot mv.length s i : Nat) = getI (iterW pl mv wn k) i := by
  intro k
  induction k with
  | zero =>
    intro i hi
    have hr := rot_lt hs hi
    unfold iterW
    rw [getI_start (by omega), getI_start (by omega), hw i hi]
  | succ k ih =>
    intro i hi
    have hr := rot_lt hs hi
    unfold iterW roundW
    rw [getI_map_range (by omega), getI_map_range hi]
    unfold nxt
    rw [ih i hi, hp i hi]
    have hins : ∀ x ∈ mv.getD i [], 0 ≤ x ∧ x < mv.length := fun x hx => by
      rw [List.getD_eq_getElem?_getD, List.getElem?_eq_getElem hi] at hx
      exact hin _ (List.getElem_mem hi) x hx
    have hg : ∀ x ∈ mv.getD i [], isIn (iterW pl' mv' wn' k) (rot mv.length s x.toNat : Nat) = isIn (iterW pl mv wn k) x := fun x hx => by
      have := hins x hx
      unfold isIn
      rw [ih x.toNat (by omega), show ((x.toNat : Nat) : Int) = x by omega]
    have : wins1 (pl.getD i false) (mv'.getD (rot mv.length s i) []) (isIn (iterW pl' mv' wn' k)) = wins1 (pl.getD i false) (mv.getD i []) (isIn (iterW pl mv wn k)) := by
      have he : (mv'.getD (rot mv.length s i) []).isEmpty = (mv.getD i []).isEmpty := by
        rw [Bool.eq_iff_iff, List.isEmpty_iff, List.isEmpty_iff]
        constructor
        · intro h
          refine List.eq_nil_iff_forall_not_mem.2 fun x hx => ?_
          have := (hm i hi _).2 ⟨x, hx, rfl⟩
          rw [h] at this; cases this
        · intro h
          refine List.eq_nil_iff_forall_not_mem.2 fun y hy => ?_
          obtain ⟨x, hx, _⟩ := (hm i hi y).1 hy
          rw [h] at hx; cases hx
      unfold wins1
      cases pl.getD i false with
      | true =>
        simp only [if_true]
        rw [Bool.eq_iff_iff, List.any_eq_true, List.any_eq_true]
        constructor
        · rintro ⟨y, hy, h⟩
          obtain ⟨x, hx, rfl⟩ := (hm i hi y).1 hy
          exact ⟨x, hx, by rw [← hg x hx]; exact h⟩
        · rintro ⟨x, hx, h⟩
          exact ⟨_, (hm i hi _).2 ⟨x, hx, rfl⟩, by rw [hg x hx]; exact h⟩
      | false =>
        simp only [Bool.false_eq_true, if_false]
        rw [he]
        congr 1
        rw [Bool.eq_iff_iff, List.all_eq_true, List.all_eq_true]
        constructor
        · intro h x hx
          rw [← hg x hx]
          exact h _ ((hm i hi _).2 ⟨x, hx, rfl⟩)
        · intro h y hy
          obtain ⟨x, hx, rfl⟩ := (hm i hi y).1 hy
          rw [hg x hx]
          exact h x hx
    rw [this]

/-- The moves of a position, with other numbers, up to one. -/
def turnL (n s : Nat) (l : List Int) (m : Nat) : List Int := outP (fun k => hasL l ((back n s k.toNat : Nat) : Int)) m
theorem turnL_mem {n s : Nat} {l : List Int} {y : Int} : y ∈ turnL n s l n ↔ ((0 ≤ y ∧ y < n) ∧ hasL l ((back n s y.toNat : Nat) : Int) = true) := mem_outP
theorem hasL_iff {l : List Int} {x : Int} : hasL l x = true ↔ x ∈ l := by
  unfold hasL
  rw [List.any_eq_true]
  constructor
  · rintro ⟨y, hy, h⟩
    rw [decide_eq_true_eq] at h
    exact h ▸ hy
  · intro h
    exact ⟨x, h, by simp⟩
def turnM (n s : Nat) (mv : List (List Int)) : List (List Int) := (List.range n).map fun k => turnL n s (mv.getD (back n s k) []) n
def turnB (n s : Nat) (pl : List Bool) : List Bool := (List.range n).map fun k => pl.getD (back n s k) false
theorem turn_dist {pl wn : List Bool} {mv : List (List Int)} (hv : Valid pl mv wn) {s : Nat} (hs : s < mv.length) : 
    Valid (turnB mv.length s pl) (turnM mv.length s mv) (turnB mv.length s wn) ∧
    ∀ i, i < mv.length → getI (distW (turnB mv.length s pl) (turnM mv.length s mv) (turnB mv.length s wn)) (rot mv.length s i : Nat) = getI (distW pl mv wn) i := by
  have hg : ∀ (f : Nat → Bool) i, i < mv.length → ((List.range mv.length).map f).getD i false = f i := fun f i hi => by
    rw [List.getD_eq_getElem?_getD, List.getElem?_map, List.getElem?_range hi]; rfl
  have hgm : ∀ (f : Nat → List Int) i, i < mv.length → ((List.range mv.length).map f).getD i [] = f i := fun f i hi => by
    rw [List.getD_eq_getElem?_getD, List.getElem?_map, List.getElem?_range hi]; rfl
  have hl : (turnM mv.length s mv).length = mv.length := by simp [turnM]
  refine ⟨⟨by rw [hl]; exact hv.pos, by rw [hl]; exact hv.few, by rw [hl]; simp [turnB], by rw [hl]; simp [turnB], ?_⟩, ?_⟩
  · intro l hlm
    rw [hl]
    obtain ⟨k, _, rfl⟩ := List.mem_map.1 hlm
    exact rise_outP _ (fun i hi _ => by omega)
  · intro i hi
    unfold distW
    rw [hl]
    refine turn_iter hs hl hv.wn (by simp [turnB]) hv.ins (fun i hi => ?_) (fun i hi => ?_) (fun i hi y => ?_) _ i hi
    · rw [turnB, hg _ _ (rot_lt hs hi), back_rot hs hi]
    · rw [turnB, hg _ _ (rot_lt hs hi), back_rot hs hi]
    · rw [turnM, hgm _ _ (rot_lt hs hi), back_rot hs hi, turnL_mem, hasL_iff]
      have hins := (hv.at' hi).ins
      constructor
      · rintro ⟨h1, h2⟩
        refine ⟨_, h2, ?_⟩
        rw [Int.toNat_natCast, rot_back hs (by omega)]; omega
      · rintro ⟨x, hx, rfl⟩
        have h3 := hins x hx
        have h4 := rot_lt (s := s) hs (i := x.toNat) (by omega)
        refine ⟨by omega, ?_⟩
        rw [Int.toNat_natCast, back_rot hs (by omega), show ((x.toNat : Nat) : Int) = x by omega]
        exact hx

/-- What is laid for the first positions. -/
def parT {α : Type} (n s : Nat) (f : Nat → α) (d : α) (i : Nat) : List α := (List.range n).map fun k => if back n s k < i then f k else d
theorem parT_len {α : Type} {n s i : Nat} {f : Nat → α} {d : α} : (parT n s f d i).length = n := by simp [parT]
theorem parT_0 {α : Type} {n s : Nat} {f : Nat → α} {d : α} : parT n s f d 0 = List.replicate n d := by
  unfold parT
  simp only [Nat.not_lt_zero, if_false]
  apply List.ext_getElem?
  intro i
  by_cases hi : i < n
  · rw [List.getElem?_map, List.getElem?_range hi, List.getElem?_replicate, if_pos hi]; rfl
  · rw [List.getElem?_eq_none (by simp; omega), List.getElem?_eq_none (by simp; omega)]
theorem parT_n {α : Type} {n s : Nat} {f : Nat → α} {d : α} (hs : s < n) : parT n s f d n = (List.range n).map f := by
  unfold parT
  refine List.map_congr_left fun k hk => ?_
  rw [if_pos (back_lt hs (by simpa using hk))]
theorem parT_at {α : Type} {n s i k : Nat} {f : Nat → α} {d : α} (hk : k < n) : (parT n s f d i)[k]? = some (if back n s k < i then f k else d) := by
  unfold parT
  rw [List.getElem?_map, List.getElem?_range hk]; rfl
theorem parT_succ {α : Type} {n s i : Nat} {f : Nat → α} {d : α} (hs : s < n) (hi : i < n) : (parT n s f d i).set (rot n s i) (f (rot n s i)) = parT n s f d (i + 1) := by
  apply List.ext_getElem?
  intro k
  by_cases hk : k < n
  · rw [List.getElem?_set, parT_at hk, parT_at hk, parT_len]
    by_cases e : rot n s i = k
    · rw [if_pos e, if_pos (e ▸ rot_lt hs hi), ← e, back_rot hs hi, if_pos (by omega)]
    · rw [if_neg e]
      have hne : back n s k ≠ i := fun h => e (by rw [← h, rot_back hs hk])
      by_cases h : back n s k < i
      · rw [if_pos h, if_pos (by omega)]
      · rw [if_neg h, if_neg (by omega)]
  · rw [List.getElem?_eq_none (by rw [List.length_set, parT_len]; omega), List.getElem?_eq_none (by rw [parT_len]; omega)]
theorem parT_same {α : Type} {n s i : Nat} {f : Nat → α} {d : α} (hs : s < n) (hi : i < n) : (parT n s f d i).set (rot n s i) d = parT n s f d i := by
  apply List.ext_getElem?
  intro k
  by_cases hk : k < n
  · rw [List.getElem?_set, parT_at hk, parT_len]
    by_cases e : rot n s i = k
    · rw [if_pos e, if_pos (e ▸ rot_lt hs hi), ← e, back_rot hs hi, if_neg (by omega)]
    · rw [if_neg e]
  · rw [List.getElem?_eq_none (by rw [List.length_set, parT_len]; omega), List.getElem?_eq_none (by rw [parT_len]; omega)]
theorem turnB_eq {n s : Nat} {pl : List Bool} (hs : s < n) : parT n s (fun k => pl.getD (back n s k) false) false n = turnB n s pl := parT_n hs
theorem turnM_eq {n s : Nat} {mv : List (List Int)} (hs : s < n) : parT n s (fun k => turnL n s (mv.getD (back n s k) []) n) [] n = turnM n s mv := parT_n hs
theorem rot_int {n s i : Nat} : ((i : Int) + s).tmod n = (rot n s i : Nat) := by
  rw [← Int.natCast_add, ← Int.ofNat_tmod]; rfl
theorem back_int {n s k : Nat} (hs : s < n) : ((k : Int) + n - s).tmod n = (back n s k : Nat) := by
  rw [show (k : Int) + n - s = ((k + n - s : Nat) : Int) by omega, ← Int.ofNat_tmod]; rfl
theorem turnL_0 {n s : Nat} {l : List Int} : turnL n s l 0 = [] := rfl
theorem turnL_succ {n s k : Nat} {l : List Int} : turnL n s l (k + 1) = if hasL l (back n s k : Nat) = true then turnL n s l k ++ [(k : Int)] else turnL n s l k := by
  unfold turnL
  rw [outP_succ, Int.toNat_natCast]
theorem turnL_len {n s k : Nat} {l : List Int} : (turnL n s l k).length ≤ k := outP_len _ _
end Go.Proofs.Ytglmjdpmpgphkaa.Sk

/- Contracts of functions: the ways of playing that are returned. -/
namespace Go.Proofs.Ytglmjdpmpgphkaa.Sk
open Go Go.E Go.E.Sm
set_option maxRecDepth 10000

def foundR : Option Int → List SV
  | some x => [.int .i64 x, .bool true]
  | none => [.int .i64 0, .bool false]

theorem k89 {g : FuncId} {first caps : List SV} {l : List Int} {q : Int → Bool} (hg : Ok1 g first caps) (hq : ∀ x ∈ l, Asks g first caps (.int .i64 x) (q x)) : E.Fn Try.prog 89 [ints l, .fn g first caps] (foundR (l.find? q)) := by
  refine fn_of_row okf89 ?_
  simp only [FRow.start, f89, c89r0, c89r1, ints, go_sem, ↓reduceIte, reduceCtorEq, Nat.reduceAdd, Nat.reduceSub, Nat.reduceLT, Nat.reduceLeDiff]
  intro hlen
  have hlen' : (l.length : Int) ≤ 2 ^ 63 - 1 := Int.le_trans (Int.ofNat_le.mpr hlen) maxLen_le
  refine loop_rule (fun n τ => ∃ i : Nat, n = l.length - i ∧ i ≤ l.length ∧ l.find? q = (l.drop i).find? q ∧
    τ = ⟨[.any, .s (.fn g first caps), .any, .any, .any, .any, .any, .any, .any, .s (.slice (l.map (.int .i64))), .s (.int .i64 l.length), .s (.int .i64 i), .any, .any, .any, .any, .any, .any, .any, .any, .any], []⟩) l.length rfl ?_ ?_
  · simp only [c89l7m, go_sem, ↓reduceIte, reduceCtorEq, Nat.reduceAdd, Nat.reduceSub, Nat.reduceLT, Nat.reduceLeDiff]
    exact ⟨0, rfl, Nat.zero_le _, rfl, rfl⟩
  · rintro I n τ ⟨i, rfl, hi, hf, rfl⟩ hI
    simp only [c89l7, c89r2, go_sem, ↓reduceIte, reduceCtorEq, Nat.reduceAdd, Nat.reduceSub, Nat.reduceLT, Nat.reduceLeDiff]
    refine ⟨fun hlt => ?_, fun hge => ?_⟩
    · have hx : l[i]? = some l[i] := List.getElem?_eq_getElem hlt
      have hdrop : l.drop i = l[i] :: l.drop (i + 1) := List.drop_eq_getElem_cons hlt
      have hqx := hq _ (List.getElem_mem hlt)
      rw [hdrop, List.find?_cons] at hf
      generalize l[i] = x at *
      simp only [c89r3, hx, c89r4, go_sem, ↓reduceIte, reduceCtorEq, Nat.reduceAdd, Nat.reduceSub, Nat.reduceLT, Nat.reduceLeDiff]
      refine ⟨hg.1, hg.2, callK_of (by simp only [go_sem, ↓reduceIte, reduceCtorEq, Nat.reduceAdd, Nat.reduceSub, Nat.reduceLT, Nat.reduceLeDiff]) hqx (.inl rfl) ?_⟩
      cases hk : q x with
      | true =>
        rw [hk] at hf
        simp only at hf
        simp only [c89r5, hf, foundR, go_sem, ↓reduceIte, reduceCtorEq, Nat.reduceAdd, Nat.reduceSub, Nat.reduceLT, Nat.reduceLeDiff]
      | false =>
        rw [hk] at hf
        simp only at hf
        simp only [c89r6, c89l7m, go_sem, ↓reduceIte, reduceCtorEq, Nat.reduceAdd, Nat.reduceSub, Nat.reduceLT, Nat.reduceLeDiff]
        exact ⟨inR_i64 (by omega) (by omega), hI (l.length - (i + 1)) _ (by omega) ⟨i + 1, rfl, by omega, hf, by simp⟩⟩
    · have hie : i = l.length := by omega
      subst hie
      rw [List.drop_length, List.find?_nil] at hf
      simp only [c89r8, c89r9, hf, foundR, go_sem, ↓reduceIte, reduceCtorEq, Nat.reduceAdd, Nat.reduceSub, Nat.reduceLT, Nat.reduceLeDiff]

theorem k90 {a b c : SV} {D : List Int} {want k : Int} (hD : D.length ≤ 14) (h0 : 0 ≤ k) (h1 : k < 14) : Asks 90 [] [.ptr [.ptr (a :: b :: c :: (pad D).map (.int .i64))], .ptr [.int .i64 want]] (.int .i64 k) (decide (getI D k = want)) := by
  refine fn_of_row okf90 ?_
  have hpl := pad_len hD
  have hx := getI_get (W := pad D) h0 (by omega)
  rw [getI_pad] at hx
  simp only [FRow.start, f90, c90r0, c90r1, go_sem, ↓reduceIte, reduceCtorEq, Nat.reduceAdd, Nat.reduceSub, Nat.reduceLT, Nat.reduceLeDiff]
  refine ⟨h0, by omega, by omega, ?_⟩
  simp only [List.getElem?_drop, Nat.mul_one, Nat.add_zero, hx, go_sem, ↓reduceIte, reduceCtorEq, Nat.reduceAdd, Nat.reduceSub, Nat.reduceLT, Nat.reduceLeDiff]

def wayV (pl : List Bool) (mv : List (List Int)) (D : List Int) (p : Bool) (i : Nat) : Int :=
  if pl.getD i false ≠ p ∨ getI D i = 0 ∨ (p = true ∧ getI D i < 0) then -1 else ((mv.getD i []).find? fun k => decide (getI D k = if getI D i < 0 then -1 else getI D i - 1)).getD (-1)
def wayL (pl : List Bool) (mv : List (List Int)) (wn : List Bool) (p : Bool) : List Int := (List.range mv.length).map (wayV pl mv (distW pl mv wn) p)

def midV (v : Nat → Int) (n i : Nat) : List Int := (List.range n).map fun j => if j < i then v j else 0
theorem midV_len {v : Nat → Int} {n i : Nat} : (midV v n i).length = n := by simp [midV]
theorem midV_0 {v : Nat → Int} {n : Nat} : midV v n 0 = List.replicate n 0 := by
  unfold midV
  simp only [Nat.not_lt_zero, if_false]
  apply List.ext_getElem?
  intro j
  by_cases hj : j < n
  · rw [List.getElem?_map, List.getElem?_range hj, List.getElem?_replicate, if_pos hj]; rfl
  · rw [List.getElem?_eq_none (by simp; omega), List.getElem?_eq_none (by simp; omega)]
theorem midV_n {v : Nat → Int} {n : Nat} : midV v n n = (List.range n).map v := by
  unfold midV
  refine List.map_congr_left fun i hi => ?_
  rw [if_pos (by simpa using hi)]
theorem midV_succ {v : Nat → Int} {n i : Nat} : (midV v n i).set i (v i) = midV v n (i + 1) := by
  apply List.ext_getElem?
  intro j
  by_cases hj : j < n
  · rw [List.getElem?_set]
    unfold midV
    rw [List.getElem?_map, List.getElem?_map, List.getElem?_range hj]
    simp only [Option.map_some, List.length_map, List.length_range]
    by_cases e : i = j
    · subst e; simp [hj]
    · rw [if_neg e]
      congr 1
      by_cases h : j < i
      · rw [if_pos h, if_pos (by omega)]
      · rw [if_neg h, if_neg (by omega)]
  · rw [List.getElem?_eq_none (by rw [List.length_set, midV_len]; omega), List.getElem?_eq_none (by rw [midV_len]; omega)]
theorem distW_rng {pl wn : List Bool} {mv : List (List Int)} (k : Int) : -1 ≤ getI (distW pl mv wn) k ∧ getI (distW pl mv wn) k ≤ mv.length := getI_rng (by omega) (iterW_rng _) k

theorem k70 {pl wn : List Bool} {mv : List (List Int)} {p : Bool} (hv : Valid pl mv wn) : E.Fn Try.prog 70 [boardV pl mv wn, .bool p] [ints (wayL pl mv wn p)] := by
  refine fn_of_row okf70 ?_
  have h1 := hv.few
  have hdl := distW_len hv
  have hpl := pad_len (W := distW pl mv wn) (by omega)
  have hrng := fun k => distW_rng (pl := pl) (mv := mv) (wn := wn) k
  unfold wayL
  simp only [FRow.start, f70, c70r0, c70r1, boardV, bools, flat_rep1, go_sem, ↓reduceIte, reduceCtorEq, Nat.reduceAdd, Nat.reduceSub, Nat.reduceLT, Nat.reduceLeDiff]
  refine ⟨by omega, by omega, fun _ => ?_⟩
  simp only [c70r2, go_sem, ↓reduceIte, reduceCtorEq, Nat.reduceAdd, Nat.reduceSub, Nat.reduceLT, Nat.reduceLeDiff]
  intro _
  generalize hD : distW pl mv wn = D at *
  have hvd : ∀ i : Nat, wayV pl mv D p i = if pl.getD i false ≠ p ∨ getI D i = 0 ∨ (p = true ∧ getI D i < 0) then -1 else ((mv.getD i []).find? fun k => decide (getI D k = if getI D i < 0 then -1 else getI D i - 1)).getD (-1) := fun i => rfl
  generalize wayV pl mv D p = v at *
  refine loop_rule (fun n τ => ∃ i : Nat, n = mv.length - i ∧ i ≤ mv.length ∧
    τ = ⟨[.any, .s (.bool p), .s (.ptr [.ptr (.slice (pl.map .bool) :: .slice (mv.map ints) :: .slice (wn.map .bool) :: (pad D).map (.int .i64))]), .any, .any, .sl 0 0 mv.length 1 true, .any, .any, .any, .any, .any, .any, .any, .any, .any, .any, .any, .any, .any, .any, .any, .any, .s (.slice (mv.map ints)), .s (.int .i64 mv.length), .s (.int .i64 i), .any, .any, .any, .any, .any, .any, .any, .any, .any, .any, .any, .any, .any, .any, .any, .any, .any, .any, .any, .any, .any, .any, .any, .any, .any, .any, .any, .any, .any, .any, .any, .any, .any, .any, .any, .any, .any, .any, .any, .any, .any, .any, .any, .any, .any, .any, .any, .any, .any, .any, .any, .any, .any, .any, .any, .any, .any, .any, .any, .any, .any, .any, .any, .any, .any, .any, .any], [.row ((midV v mv.length i).map (SV.int .i64))]⟩) mv.length rfl ?_ ?_
  · simp only [c70l14m, go_sem, ↓reduceIte, reduceCtorEq, Nat.reduceAdd, Nat.reduceSub, Nat.reduceLT, Nat.reduceLeDiff]
    exact ⟨0, rfl, Nat.zero_le _, by simp [midV_0]⟩
  · rintro I n τ ⟨i, rfl, hi, rfl⟩ hI
    have hml := midV_len (v := v) (n := mv.length) (i := i)
    have hms := midV_succ (v := v) (n := mv.length) (i := i)
    have hmn := midV_n (v := v) (n := mv.length)
    generalize hM : midV v mv.length i = M at *
    simp only [c70l14, c70r3, go_sem, ↓reduceIte, reduceCtorEq, Nat.reduceAdd, Nat.reduceSub, Nat.reduceLT, Nat.reduceLeDiff]
    refine ⟨fun hlt => ?_, fun hge => ?_⟩
    · obtain ⟨hm, hp, hw, hm2, hp2, hw2, hins⟩ := hv.at' hlt
      have hg : (pad D)[i]? = some (getI D i) := by
        have := getI_get (W := pad D) (x := i) (by omega) (by omega)
        rwa [getI_pad, Int.toNat_natCast] at this
      have hvi := hvd i
      have hri := hrng i
      have goOn : ∀ y, v i = y → I ⟨[.any, .s (.bool p), .s (.ptr [.ptr (.slice (pl.map .bool) :: .slice (mv.map ints) :: .slice (wn.map .bool) :: (pad D).map (.int .i64))]), .any, .any, .sl 0 0 mv.length 1 true, .any, .any, .any, .any, .any, .any, .any, .any, .any, .any, .any, .any, .any, .any, .any, .any, .s (.slice (mv.map ints)), .s (.int .i64 mv.length), .s (.int .i64 (i + 1)), .any, .any, .any, .any, .any, .any, .any, .any, .any, .any, .any, .any, .any, .any, .any, .any, .any, .any, .any, .any, .any, .any, .any, .any, .any, .any, .any, .any, .any, .any, .any, .any, .any, .any, .any, .any, .any, .any, .any, .any, .any, .any, .any, .any, .any, .any, .any, .any, .any, .any, .any, .any, .any, .any, .any, .any, .any, .any, .any, .any, .any, .any, .any, .any, .any, .any, .any], [.row ((M.set i y).map (SV.int .i64))]⟩ := fun y hy => by
        subst hy
        exact hI (mv.length - (i + 1)) _ (by omega) ⟨i + 1, rfl, by omega, by rw [hms]; simp⟩
      have fnd : ∀ want : Int, E.Fn Try.prog 89 [.slice ((mv.getD i []).map (.int .i64)), .fn 90 [] [.ptr [.ptr (.slice (pl.map .bool) :: .slice (mv.map ints) :: .slice (wn.map .bool) :: (pad D).map (.int .i64))], .ptr [.int .i64 want]]] (foundR ((mv.getD i []).find? fun k => decide (getI D k = want))) := fun want =>
        k89 (first := []) (q := fun k => decide (getI D k = want)) ⟨tbl_fn 90 rfl, rfl⟩ fun x hx => k90 (by omega) (hins x hx).1 (by have := (hins x hx).2; omega)
      generalize mv.getD i [] = l at *
      generalize pl.getD i false = b at *
      simp only [c70r4, hm, c70r5, Nat.mul_one, Nat.zero_add, ints, go_sem, ↓reduceIte, reduceCtorEq, Nat.reduceAdd, Nat.reduceSub, Nat.reduceLT, Nat.reduceLeDiff]
      refine ⟨by omega, by omega, ?_⟩
      rw [splice_row (by omega)]
      have hi14 : i < 14 := by omega
      have hile : i ≤ (pad D).length := by omega
      have hsel : (List.drop i (List.map (SV.int .i64) (pad D)))[0]? = some (.int .i64 (getI D i)) := by
        rw [List.getElem?_drop, Nat.add_zero, List.getElem?_map, hg]; rfl
      simp only [c70r6, Nat.mul_one, splice, hm2, hi14, hile, hsel, go_sem, ↓reduceIte, reduceCtorEq, Nat.reduceAdd, Nat.reduceSub, Nat.reduceLT, Nat.reduceLeDiff]
      refine ⟨inR_i64 (by omega) (by omega), ?_⟩
      have h12 : ((1 : Nat) = 2) = False := by simp
      simp only [c70r7, hp, hp2, Nat.mul_one, hi14, hile, hsel, h12, go_sem, ↓reduceIte, reduceCtorEq, Nat.reduceAdd, Nat.reduceSub, Nat.reduceLT, Nat.reduceLeDiff]
      refine ⟨fun hbp => ⟨fun hd0 => ?_, fun hd0 => ?_⟩, fun hbp => ?_⟩
      · rw [if_pos (.inr (.inl hd0))] at hvi
        simp only [c70r13, c70l14m, go_sem, ↓reduceIte, reduceCtorEq, Nat.reduceAdd, Nat.reduceSub, Nat.reduceLT, Nat.reduceLeDiff]
        exact ⟨inR_i64 (by omega) (by omega), goOn _ hvi⟩
      · have hbp' : b = p := by simpa using hbp
        cases p with
        | true =>
          simp only [hi14, hile, hsel, Nat.mul_one, h12, go_sem, ↓reduceIte, reduceCtorEq, Nat.reduceAdd, Nat.reduceSub, Nat.reduceLT, Nat.reduceLeDiff]
          refine ⟨fun hneg => ?_, fun hneg => ?_⟩
          · rw [if_pos (.inr (.inr ⟨rfl, hneg⟩))] at hvi
            simp only [c70r13, c70l14m, go_sem, ↓reduceIte, reduceCtorEq, Nat.reduceAdd, Nat.reduceSub, Nat.reduceLT, Nat.reduceLeDiff]
            exact ⟨inR_i64 (by omega) (by omega), goOn _ hvi⟩
          · rw [if_neg (by simp [hbp', hd0]; omega)] at hvi
            have hn : decide (getI D i < 0) = false := by simp; omega
            rw [if_neg hneg] at hvi
            simp only [c70r8, hi14, hile, hsel, Nat.mul_one, hn, c70r10, go_sem, ↓reduceIte, reduceCtorEq, Nat.reduceAdd, Nat.reduceSub, Nat.reduceLT, Nat.reduceLeDiff]
            cases hf : l.find? (fun k => decide (getI D k = getI D i - 1)) with
            | some y =>
              have hfn := fnd (getI D i - 1)
              rw [hf] at hfn
              simp only [foundR] at hfn
              refine callK_of (by simp only [go_sem, ↓reduceIte, reduceCtorEq, Nat.reduceAdd, Nat.reduceSub, Nat.reduceLT, Nat.reduceLeDiff]) hfn (.inl rfl) ?_
              simp only [c70r11, c70r12, Nat.mul_one, Nat.zero_add, go_sem, ↓reduceIte, reduceCtorEq, Nat.reduceAdd, Nat.reduceSub, Nat.reduceLT, Nat.reduceLeDiff]
              refine ⟨by omega, by simp; omega, ?_⟩
              rw [splice_row (by simp; omega), List.set_set]
              simp only [c70r13, c70l14m, go_sem, ↓reduceIte, reduceCtorEq, Nat.reduceAdd, Nat.reduceSub, Nat.reduceLT, Nat.reduceLeDiff]
              exact ⟨inR_i64 (by omega) (by omega), goOn _ (by rw [hvi, hf]; rfl)⟩
            | none =>
              have hfn := fnd (getI D i - 1)
              rw [hf] at hfn
              simp only [foundR] at hfn
              refine callK_of (by simp only [go_sem, ↓reduceIte, reduceCtorEq, Nat.reduceAdd, Nat.reduceSub, Nat.reduceLT, Nat.reduceLeDiff]) hfn (.inl rfl) ?_
              simp only [c70r11, c70r13, c70l14m, go_sem, ↓reduceIte, reduceCtorEq, Nat.reduceAdd, Nat.reduceSub, Nat.reduceLT, Nat.reduceLeDiff]
              exact ⟨inR_i64 (by omega) (by omega), goOn _ (by rw [hvi, hf]; rfl)⟩
        | false =>
          rw [if_neg (by simp [hbp', hd0])] at hvi
          simp only [c70r8, hi14, hile, hsel, Nat.mul_one, h12, go_sem, ↓reduceIte, reduceCtorEq, Nat.reduceAdd, Nat.reduceSub, Nat.reduceLT, Nat.reduceLeDiff]
          refine ⟨fun hneg => ?_, fun hneg => ?_⟩
          · rw [if_pos hneg] at hvi
            simp only [c70r9, splice, c70r10, go_sem, ↓reduceIte, reduceCtorEq, Nat.reduceAdd, Nat.reduceSub, Nat.reduceLT, Nat.reduceLeDiff]
            cases hf : l.find? (fun k => decide (getI D k = -1)) with
            | some y =>
              have hfn := fnd (-1)
              rw [hf] at hfn
              simp only [foundR] at hfn
              refine callK_of (by simp only [go_sem, ↓reduceIte, reduceCtorEq, Nat.reduceAdd, Nat.reduceSub, Nat.reduceLT, Nat.reduceLeDiff]) hfn (.inl rfl) ?_
              simp only [c70r11, c70r12, Nat.mul_one, Nat.zero_add, go_sem, ↓reduceIte, reduceCtorEq, Nat.reduceAdd, Nat.reduceSub, Nat.reduceLT, Nat.reduceLeDiff]
              refine ⟨by omega, by simp; omega, ?_⟩
              rw [splice_row (by simp; omega), List.set_set]
              simp only [c70r13, c70l14m, go_sem, ↓reduceIte, reduceCtorEq, Nat.reduceAdd, Nat.reduceSub, Nat.reduceLT, Nat.reduceLeDiff]
              exact ⟨inR_i64 (by omega) (by omega), goOn _ (by rw [hvi, hf]; rfl)⟩
            | none =>
              have hfn := fnd (-1)
              rw [hf] at hfn
              simp only [foundR] at hfn
              refine callK_of (by simp only [go_sem, ↓reduceIte, reduceCtorEq, Nat.reduceAdd, Nat.reduceSub, Nat.reduceLT, Nat.reduceLeDiff]) hfn (.inl rfl) ?_
              simp only [c70r11, c70r13, c70l14m, go_sem, ↓reduceIte, reduceCtorEq, Nat.reduceAdd, Nat.reduceSub, Nat.reduceLT, Nat.reduceLeDiff]
              exact ⟨inR_i64 (by omega) (by omega), goOn _ (by rw [hvi, hf]; rfl)⟩
          · rw [if_neg hneg] at hvi
            simp only [c70r10, go_sem, ↓reduceIte, reduceCtorEq, Nat.reduceAdd, Nat.reduceSub, Nat.reduceLT, Nat.reduceLeDiff]
            cases hf : l.find? (fun k => decide (getI D k = getI D i - 1)) with
            | some y =>
              have hfn := fnd (getI D i - 1)
              rw [hf] at hfn
              simp only [foundR] at hfn
              refine callK_of (by simp only [go_sem, ↓reduceIte, reduceCtorEq, Nat.reduceAdd, Nat.reduceSub, Nat.reduceLT, Nat.reduceLeDiff]) hfn (.inl rfl) ?_
              simp only [c70r11, c70r12, Nat.mul_one, Nat.zero_add, go_sem, ↓reduceIte, reduceCtorEq, Nat.reduceAdd, Nat.reduceSub, Nat.reduceLT, Nat.reduceLeDiff]
              refine ⟨by omega, by simp; omega, ?_⟩
              rw [splice_row (by simp; omega), List.set_set]
              simp only [c70r13, c70l14m, go_sem, ↓reduceIte, reduceCtorEq, Nat.reduceAdd, Nat.reduceSub, Nat.reduceLT, Nat.reduceLeDiff]
              exact ⟨inR_i64 (by omega) (by omega), goOn _ (by rw [hvi, hf]; rfl)⟩
            | none =>
              have hfn := fnd (getI D i - 1)
              rw [hf] at hfn
              simp only [foundR] at hfn
              refine callK_of (by simp only [go_sem, ↓reduceIte, reduceCtorEq, Nat.reduceAdd, Nat.reduceSub, Nat.reduceLT, Nat.reduceLeDiff]) hfn (.inl rfl) ?_
              simp only [c70r11, c70r13, c70l14m, go_sem, ↓reduceIte, reduceCtorEq, Nat.reduceAdd, Nat.reduceSub, Nat.reduceLT, Nat.reduceLeDiff]
              exact ⟨inR_i64 (by omega) (by omega), goOn _ (by rw [hvi, hf]; rfl)⟩
      · have hbp' : b ≠ p := fun h => hbp (by rw [h])
        rw [if_pos (.inl hbp')] at hvi
        simp only [c70r13, c70l14m, go_sem, ↓reduceIte, reduceCtorEq, Nat.reduceAdd, Nat.reduceSub, Nat.reduceLT, Nat.reduceLeDiff]
        exact ⟨inR_i64 (by omega) (by omega), goOn _ hvi⟩
    · have hie : i = mv.length := by omega
      subst hie
      have hMn : M = (List.range mv.length).map v := by rw [← hM, hmn]
      have hso : sliceOf 0 mv.length 1 (M.map (SV.int .i64)) = some (.slice (M.map (SV.int .i64))) := sliceOf_all (by simp [hml])
      rw [hMn] at hso
      simp only [c70r15, hMn, hso, ints, go_sem, ↓reduceIte, reduceCtorEq, Nat.reduceAdd, Nat.reduceSub, Nat.reduceLT, Nat.reduceLeDiff]
end Go.Proofs.Ytglmjdpmpgphkaa.Sk

/- Contracts of functions: ways, as the document has them, and both asked for. -/
namespace Go.Proofs.Ytglmjdpmpgphkaa.Sk
open Go Go.E Go.E.Sm
set_option maxRecDepth 10000

theorem k91 {pl wn : List Bool} {mv : List (List Int)} {D : List Int} {i : Nat} {want : Int} (hi : i < mv.length) (hD : D.length = mv.length) (hin : inside mv.length (mv.getD i [])) :
    E.Fn Try.prog 91 [mach pl mv wn, .int .i64 i, .int .i64 want, ints D] [.int .i64 (((mv.getD i []).find? fun k => decide (getI D k = want)).getD (-1))] := by
  refine fn_of_row okf91 ?_
  have hm : mv[i]? = some (mv.getD i []) := by rw [List.getD_eq_getElem?_getD, List.getElem?_eq_getElem hi, Option.getD_some]
  generalize mv.getD i [] = l at *
  generalize hq : (fun k => decide (getI D k = want)) = q
  have hq' : ∀ x, q x = decide (getI D x = want) := fun x => by rw [← hq]
  simp only [FRow.start, f91, c91r0, c91r1, mach, bools, ints, go_sem, ↓reduceIte, reduceCtorEq, Nat.reduceAdd, Nat.reduceSub, Nat.reduceLT, Nat.reduceLeDiff]
  refine loop_rule (fun n τ => ∃ j : Nat, n = l.length - j ∧ j ≤ l.length ∧ l.find? q = (l.drop j).find? q ∧
    τ = ⟨[.any, .s (.int .i64 i), .s (.int .i64 want), .s (.slice (D.map (.int .i64))), .s (.ptr [.slice (pl.map .bool), .slice (mv.map ints), .slice (wn.map .bool)]), .any, .any, .any, .any, .s (.int .i64 j), .any, .any, .any, .any, .any, .any, .any, .any, .any, .any, .any, .any, .any, .any, .any, .any, .any, .any, .any, .any, .any, .any, .any, .any, .any, .any, .any, .any, .any, .any, .any], []⟩) l.length rfl ?_ ?_
  · simp only [c91l6m, go_sem, ↓reduceIte, reduceCtorEq, Nat.reduceAdd, Nat.reduceSub, Nat.reduceLT, Nat.reduceLeDiff]
    exact ⟨0, rfl, Nat.zero_le _, rfl, rfl⟩
  · rintro I n τ ⟨j, rfl, hj, hf, rfl⟩ hI
    simp only [c91l6, c91r2, hm, hi, ints, go_sem, ↓reduceIte, reduceCtorEq, Nat.reduceAdd, Nat.reduceSub, Nat.reduceLT, Nat.reduceLeDiff]
    intro hll
    have hll' : (l.length : Int) ≤ 2 ^ 63 - 1 := Int.le_trans (Int.ofNat_le.mpr hll) maxLen_le
    refine ⟨fun hlt => ?_, fun hge => ?_⟩
    · have hx : l[j]? = some l[j] := List.getElem?_eq_getElem hlt
      have hdrop : l.drop j = l[j] :: l.drop (j + 1) := List.drop_eq_getElem_cons hlt
      have hxi := hin _ (List.getElem_mem hlt)
      rw [hdrop, List.find?_cons] at hf
      generalize l[j] = x at *
      have hg := getI_get (W := D) hxi.1 (by omega)
      have hx0 : x.toNat < D.length := by omega
      simp only [c91r3, hm, hi, hx, hlt, hg, hx0, ints, go_sem, ↓reduceIte, reduceCtorEq, Nat.reduceAdd, Nat.reduceSub, Nat.reduceLT, Nat.reduceLeDiff]
      refine ⟨hxi.1, fun he => ?_, fun he => ?_⟩
      · rw [hq', decide_eq_true he] at hf
        simp only at hf
        simp only [c91r4, hm, hi, hx, hlt, hf, ints, Option.getD_some, go_sem, ↓reduceIte, reduceCtorEq, Nat.reduceAdd, Nat.reduceSub, Nat.reduceLT, Nat.reduceLeDiff]
      · rw [hq', decide_eq_false he] at hf
        simp only at hf
        simp only [c91r5, c91l6m, go_sem, ↓reduceIte, reduceCtorEq, Nat.reduceAdd, Nat.reduceSub, Nat.reduceLT, Nat.reduceLeDiff]
        exact ⟨inR_i64 (by omega) (by omega), hI (l.length - (j + 1)) _ (by omega) ⟨j + 1, rfl, by omega, hf, by simp⟩⟩
    · have hje : j = l.length := by omega
      subst hje
      rw [List.drop_length, List.find?_nil] at hf
      simp only [c91r7, hf, Option.getD_none, go_sem, ↓reduceIte, reduceCtorEq, Nat.reduceAdd, Nat.reduceSub, Nat.reduceLT, Nat.reduceLeDiff]

theorem range_map_succ (v : Nat → Int) (i : Nat) : (List.range (i + 1)).map v = (List.range i).map v ++ [v i] := by rw [List.range_succ, List.map_append]; rfl

theorem k71 {pl wn : List Bool} {mv : List (List Int)} (hv : Valid pl mv wn) : E.Fn Try.prog 71 [mach pl mv wn] [ints (wayL pl mv wn true)] := by
  refine fn_of_row okf71 ?_
  have h1 := hv.few
  have hdl := distW_len hv
  have hrng := fun k => distW_rng (pl := pl) (mv := mv) (wn := wn) k
  unfold wayL
  simp only [FRow.start, f71, c71r0, c71r1, mach, bools, go_sem, ↓reduceIte, reduceCtorEq, Nat.reduceAdd, Nat.reduceSub, Nat.reduceLT, Nat.reduceLeDiff]
  refine callK_of rfl (k59 hv.pos hv.few hv.pl hv.wn hv.ins) (.inr rfl) ?_
  generalize hD : distW pl mv wn = D at *
  have hvd : ∀ i : Nat, wayV pl mv D true i = if pl.getD i false ≠ true ∨ getI D i = 0 ∨ (true = true ∧ getI D i < 0) then -1 else ((mv.getD i []).find? fun k => decide (getI D k = if getI D i < 0 then -1 else getI D i - 1)).getD (-1) := fun i => rfl
  generalize wayV pl mv D true = v at *
  simp only [c71r2, c71r3, ints, go_sem, ↓reduceIte, reduceCtorEq, Nat.reduceAdd, Nat.reduceSub, Nat.reduceLT, Nat.reduceLeDiff]
  refine loop_rule (fun n τ => ∃ i : Nat, n = mv.length - i ∧ i ≤ mv.length ∧
    τ = ⟨[.any, .s (.ptr [.slice (pl.map .bool), .slice (mv.map ints), .slice (wn.map .bool)]), .any, .s (.slice (D.map (.int .i64))), .sl 0 0 i 1 false, .s (.int .i64 i), .any, .any, .any, .any, .any, .any, .any, .any, .any, .any, .any, .any, .any, .any, .any, .any, .any, .any, .any, .any, .any, .any, .any, .any, .any, .any, .any, .any, .any, .any, .any, .any, .any, .any, .any], [.row (((List.range i).map v).map (SV.int .i64))]⟩) mv.length (promo_one rfl) ?_ ?_
  · simp only [c71l10m, go_sem, ↓reduceIte, reduceCtorEq, Nat.reduceAdd, Nat.reduceSub, Nat.reduceLT, Nat.reduceLeDiff]
    exact ⟨0, rfl, Nat.zero_le _, by simp⟩
  · rintro I n τ ⟨i, rfl, hi, rfl⟩ hI
    have hrs := range_map_succ v i
    have hrl : ((List.range i).map v).length = i := by simp
    generalize hO : (List.range i).map v = O at *
    simp only [c71l10, c71r4, hdl, go_sem, ↓reduceIte, reduceCtorEq, Nat.reduceAdd, Nat.reduceSub, Nat.reduceLT, Nat.reduceLeDiff]
    intro _
    refine ⟨fun hlt => ?_, fun hge => ?_⟩
    · have hlt' : i < mv.length := by omega
      obtain ⟨hm, hp, hw, hm2, hp2, hw2, hins⟩ := hv.at' hlt'
      have hg := getI_nat (W := D) (i := i) (by omega)
      have hd2 : i < D.length := by omega
      have hvi := hvd i
      have hri := hrng i
      have k := fun want : Int => k91 (pl := pl) (wn := wn) (want := want) hlt' hdl hins
      have goOn : ∀ y, v i = y → I ⟨[.any, .s (.ptr [.slice (pl.map .bool), .slice (mv.map ints), .slice (wn.map .bool)]), .any, .s (.slice (D.map (.int .i64))), .sl 0 0 (i + 1) 1 false, .s (.int .i64 (i + 1)), .any, .any, .any, .any, .any, .any, .any, .any, .any, .any, .any, .any, .any, .any, .any, .any, .any, .any, .any, .any, .any, .any, .any, .any, .any, .any, .any, .any, .any, .any, .any, .any, .any, .any, .any], [.row ((O ++ [y]).map (SV.int .i64))]⟩ := fun y hy => by
        subst hy
        exact hI (mv.length - (i + 1)) _ (by omega) ⟨i + 1, rfl, by omega, by rw [hrs]; simp⟩
      generalize mv.getD i [] = l at *
      generalize pl.getD i false = b at *
      cases b with
      | true =>
        simp only [c71r5, c71r6, hp, hp2, hg, hd2, go_sem, ↓reduceIte, reduceCtorEq, Nat.reduceAdd, Nat.reduceSub, Nat.reduceLT, Nat.reduceLeDiff]
        refine ⟨fun hpos => ?_, fun hpos => ?_⟩
        · rw [if_neg (by simp; omega), if_neg (by omega)] at hvi
          simp only [c71r7, hg, hd2, go_sem, ↓reduceIte, reduceCtorEq, Nat.reduceAdd, Nat.reduceSub, Nat.reduceLT, Nat.reduceLeDiff]
          refine ⟨inR_i64 (by omega) (by omega), callK_of rfl (k _) (.inl rfl) ?_⟩
          simp only [c71r8, go_sem, ↓reduceIte, reduceCtorEq, Nat.reduceAdd, Nat.reduceSub, Nat.reduceLT, Nat.reduceLeDiff]
          refine ⟨by decide, by decide, rfl, one1, one1, by omega, by omega, by omega, ?_⟩
          rw [app_map]
          simp only [c71r9, c71l10m, go_sem, ↓reduceIte, reduceCtorEq, Nat.reduceAdd, Nat.reduceSub, Nat.reduceLT, Nat.reduceLeDiff]
          exact ⟨inR_i64 (by omega) (by omega), goOn _ hvi⟩
        · have h0 : getI D i = 0 ∨ getI D i < 0 := by omega
          rw [if_pos (by rcases h0 with h | h; exact .inr (.inl h); exact .inr (.inr ⟨rfl, h⟩))] at hvi
          simp only [c71r8, go_sem, ↓reduceIte, reduceCtorEq, Nat.reduceAdd, Nat.reduceSub, Nat.reduceLT, Nat.reduceLeDiff]
          refine ⟨by decide, by decide, rfl, one1, one1, by omega, by omega, by omega, ?_⟩
          rw [app_map]
          simp only [c71r9, c71l10m, go_sem, ↓reduceIte, reduceCtorEq, Nat.reduceAdd, Nat.reduceSub, Nat.reduceLT, Nat.reduceLeDiff]
          exact ⟨inR_i64 (by omega) (by omega), goOn _ hvi⟩
      | false =>
        rw [if_pos (.inl (by simp))] at hvi
        simp only [c71r5, c71r6, hp, hp2, c71r8, go_sem, ↓reduceIte, reduceCtorEq, Nat.reduceAdd, Nat.reduceSub, Nat.reduceLT, Nat.reduceLeDiff]
        refine ⟨by decide, by decide, rfl, one1, one1, by omega, by omega, by omega, ?_⟩
        rw [app_map]
        simp only [c71r9, c71l10m, go_sem, ↓reduceIte, reduceCtorEq, Nat.reduceAdd, Nat.reduceSub, Nat.reduceLT, Nat.reduceLeDiff]
        exact ⟨inR_i64 (by omega) (by omega), goOn _ hvi⟩
    · have hie : i = mv.length := by omega
      subst hie
      have hso : sliceOf 0 mv.length 1 (O.map (SV.int .i64)) = some (.slice (O.map (SV.int .i64))) := sliceOf_all (by simp [hrl])
      simp only [c71r11, hso, hO, go_sem, ↓reduceIte, reduceCtorEq, Nat.reduceAdd, Nat.reduceSub, Nat.reduceLT, Nat.reduceLeDiff]

theorem k72 {pl wn : List Bool} {mv : List (List Int)} (hv : Valid pl mv wn) : E.Fn Try.prog 72 [mach pl mv wn] [ints (wayL pl mv wn false)] := by
  refine fn_of_row okf72 ?_
  have h1 := hv.few
  have hdl := distW_len hv
  have hrng := fun k => distW_rng (pl := pl) (mv := mv) (wn := wn) k
  unfold wayL
  simp only [FRow.start, f72, c72r0, c72r1, mach, bools, go_sem, ↓reduceIte, reduceCtorEq, Nat.reduceAdd, Nat.reduceSub, Nat.reduceLT, Nat.reduceLeDiff]
  refine callK_of rfl (k59 hv.pos hv.few hv.pl hv.wn hv.ins) (.inr rfl) ?_
  generalize hD : distW pl mv wn = D at *
  have hvd : ∀ i : Nat, wayV pl mv D false i = if pl.getD i false ≠ false ∨ getI D i = 0 ∨ (false = true ∧ getI D i < 0) then -1 else ((mv.getD i []).find? fun k => decide (getI D k = if getI D i < 0 then -1 else getI D i - 1)).getD (-1) := fun i => rfl
  generalize wayV pl mv D false = v at *
  simp only [c72r2, c72r3, ints, go_sem, ↓reduceIte, reduceCtorEq, Nat.reduceAdd, Nat.reduceSub, Nat.reduceLT, Nat.reduceLeDiff]
  refine loop_rule (fun n τ => ∃ i : Nat, n = mv.length - i ∧ i ≤ mv.length ∧
    τ = ⟨[.any, .s (.ptr [.slice (pl.map .bool), .slice (mv.map ints), .slice (wn.map .bool)]), .any, .s (.slice (D.map (.int .i64))), .sl 0 0 i 1 false, .s (.int .i64 i), .any, .any, .any, .any, .any, .any, .any, .any, .any, .any, .any, .any, .any, .any, .any, .any, .any, .any, .any, .any, .any, .any, .any, .any, .any, .any, .any, .any, .any, .any, .any, .any, .any, .any, .any, .any, .any], [.row (((List.range i).map v).map (SV.int .i64))]⟩) mv.length (promo_one rfl) ?_ ?_
  · simp only [c72l10m, go_sem, ↓reduceIte, reduceCtorEq, Nat.reduceAdd, Nat.reduceSub, Nat.reduceLT, Nat.reduceLeDiff]
    exact ⟨0, rfl, Nat.zero_le _, by simp⟩
  · rintro I n τ ⟨i, rfl, hi, rfl⟩ hI
    have hrs := range_map_succ v i
    have hrl : ((List.range i).map v).length = i := by simp
    generalize hO : (List.range i).map v = O at *
    simp only [c72l10, c72r4, hdl, go_sem, ↓reduceIte, reduceCtorEq, Nat.reduceAdd, Nat.reduceSub, Nat.reduceLT, Nat.reduceLeDiff]
    intro _
    refine ⟨fun hlt => ?_, fun hge => ?_⟩
    · have hlt' : i < mv.length := by omega
      obtain ⟨hm, hp, hw, hm2, hp2, hw2, hins⟩ := hv.at' hlt'
      have hg := getI_nat (W := D) (i := i) (by omega)
      have hd2 : i < D.length := by omega
      have hvi := hvd i
      have hri := hrng i
      have k := fun want : Int => k91 (pl := pl) (wn := wn) (want := want) hlt' hdl hins
      have goOn : ∀ y, v i = y → I ⟨[.any, .s (.ptr [.slice (pl.map .bool), .slice (mv.map ints), .slice (wn.map .bool)]), .any, .s (.slice (D.map (.int .i64))), .sl 0 0 (i + 1) 1 false, .s (.int .i64 (i + 1)), .any, .any, .any, .any, .any, .any, .any, .any, .any, .any, .any, .any, .any, .any, .any, .any, .any, .any, .any, .any, .any, .any, .any, .any, .any, .any, .any, .any, .any, .any, .any, .any, .any, .any, .any, .any, .any], [.row ((O ++ [y]).map (SV.int .i64))]⟩ := fun y hy => by
        subst hy
        exact hI (mv.length - (i + 1)) _ (by omega) ⟨i + 1, rfl, by omega, by rw [hrs]; simp⟩
      generalize mv.getD i [] = l at *
      generalize pl.getD i false = b at *
      cases b with
      | true =>
        rw [if_pos (.inl (by simp))] at hvi
        simp only [c72r5, c72r6, hp, hp2, c72r8, go_sem, ↓reduceIte, reduceCtorEq, Nat.reduceAdd, Nat.reduceSub, Nat.reduceLT, Nat.reduceLeDiff]
        refine ⟨by decide, by decide, rfl, one1, one1, by omega, by omega, by omega, ?_⟩
        rw [app_map]
        simp only [c72r9, c72l10m, go_sem, ↓reduceIte, reduceCtorEq, Nat.reduceAdd, Nat.reduceSub, Nat.reduceLT, Nat.reduceLeDiff]
        exact ⟨inR_i64 (by omega) (by omega), goOn _ hvi⟩
      | false =>
        simp only [c72r5, c72r6, hp, hp2, hg, hd2, go_sem, ↓reduceIte, reduceCtorEq, Nat.reduceAdd, Nat.reduceSub, Nat.reduceLT, Nat.reduceLeDiff]
        refine ⟨fun hz => ?_, fun hz => ?_⟩
        · rw [if_pos (.inr (.inl hz))] at hvi
          simp only [c72r8, go_sem, ↓reduceIte, reduceCtorEq, Nat.reduceAdd, Nat.reduceSub, Nat.reduceLT, Nat.reduceLeDiff]
          refine ⟨by decide, by decide, rfl, one1, one1, by omega, by omega, by omega, ?_⟩
          rw [app_map]
          simp only [c72r9, c72l10m, go_sem, ↓reduceIte, reduceCtorEq, Nat.reduceAdd, Nat.reduceSub, Nat.reduceLT, Nat.reduceLeDiff]
          exact ⟨inR_i64 (by omega) (by omega), goOn _ hvi⟩
        · rw [if_neg (by simp [hz])] at hvi
          have hmx : (if getI D i - 1 > -1 then getI D i - 1 else -1) = if getI D i < 0 then -1 else getI D i - 1 := by
            split <;> split <;> omega
          simp only [c72r7, hg, hd2, maxL, List.foldl_cons, List.foldl_nil, go_sem, ↓reduceIte, reduceCtorEq, Nat.reduceAdd, Nat.reduceSub, Nat.reduceLT, Nat.reduceLeDiff]
          refine ⟨inR_i64 (by omega) (by omega), by simp, ?_⟩
          rw [hmx]
          refine callK_of rfl (k _) (.inl rfl) ?_
          simp only [c72r8, go_sem, ↓reduceIte, reduceCtorEq, Nat.reduceAdd, Nat.reduceSub, Nat.reduceLT, Nat.reduceLeDiff]
          refine ⟨by decide, by decide, rfl, one1, one1, by omega, by omega, by omega, ?_⟩
          rw [app_map]
          simp only [c72r9, c72l10m, go_sem, ↓reduceIte, reduceCtorEq, Nat.reduceAdd, Nat.reduceSub, Nat.reduceLT, Nat.reduceLeDiff]
          exact ⟨inR_i64 (by omega) (by omega), goOn _ hvi⟩
    · have hie : i = mv.length := by omega
      subst hie
      have hso : sliceOf 0 mv.length 1 (O.map (SV.int .i64)) = some (.slice (O.map (SV.int .i64))) := sliceOf_all (by simp [hrl])
      simp only [c72r11, hso, hO, go_sem, ↓reduceIte, reduceCtorEq, Nat.reduceAdd, Nat.reduceSub, Nat.reduceLT, Nat.reduceLeDiff]

def waysR (pl : List Bool) (mv : List (List Int)) (wn : List Bool) (p : Bool) : List SV := if chkM pl mv wn = 0 then [ints (wayL pl mv wn p), .int .i64 0] else [.slice [], .int .i64 (chkM pl mv wn)]

theorem k29 {pl wn : List Bool} {mv : List (List Int)} : E.Fn Try.prog 29 [mach pl mv wn] (waysR pl mv wn true) := by
  refine fn_of_row okf29 ?_
  unfold waysR
  by_cases h : chkM pl mv wn = 0
  · have hv := valid_of h
    simp only [FRow.start, f29, c29r0, c29r1, mach, bools, h, go_sem, ↓reduceIte, reduceCtorEq, Nat.reduceAdd, Nat.reduceSub, Nat.reduceLT, Nat.reduceLeDiff]
    refine callK_of rfl (k58 (ps := []) hv rfl) (.inr rfl) ?_
    simp only [c29r2, c29r4, go_sem, ↓reduceIte, reduceCtorEq, Nat.reduceAdd, Nat.reduceSub, Nat.reduceLT, Nat.reduceLeDiff]
    refine callK_of rfl (k70 hv) (.inr rfl) ?_
    simp only [ints, go_sem, ↓reduceIte, reduceCtorEq, Nat.reduceAdd, Nat.reduceSub, Nat.reduceLT, Nat.reduceLeDiff]
  · simp only [FRow.start, f29, c29r0, c29r1, mach, bools, h, go_sem, ↓reduceIte, reduceCtorEq, Nat.reduceAdd, Nat.reduceSub, Nat.reduceLT, Nat.reduceLeDiff]
    refine callK_of rfl (k58e (ps := []) h) (.inl rfl) ?_
    simp only [c29r2, h, c29r3, go_sem, ↓reduceIte, reduceCtorEq, Nat.reduceAdd, Nat.reduceSub, Nat.reduceLT, Nat.reduceLeDiff]
theorem k31 {pl wn : List Bool} {mv : List (List Int)} : E.Fn Try.prog 31 [mach pl mv wn] (waysR pl mv wn false) := by
  refine fn_of_row okf31 ?_
  unfold waysR
  by_cases h : chkM pl mv wn = 0
  · have hv := valid_of h
    simp only [FRow.start, f31, c31r0, c31r1, mach, bools, h, go_sem, ↓reduceIte, reduceCtorEq, Nat.reduceAdd, Nat.reduceSub, Nat.reduceLT, Nat.reduceLeDiff]
    refine callK_of rfl (k58 (ps := []) hv rfl) (.inr rfl) ?_
    simp only [c31r2, c31r4, go_sem, ↓reduceIte, reduceCtorEq, Nat.reduceAdd, Nat.reduceSub, Nat.reduceLT, Nat.reduceLeDiff]
    refine callK_of rfl (k70 hv) (.inr rfl) ?_
    simp only [ints, go_sem, ↓reduceIte, reduceCtorEq, Nat.reduceAdd, Nat.reduceSub, Nat.reduceLT, Nat.reduceLeDiff]
  · simp only [FRow.start, f31, c31r0, c31r1, mach, bools, h, go_sem, ↓reduceIte, reduceCtorEq, Nat.reduceAdd, Nat.reduceSub, Nat.reduceLT, Nat.reduceLeDiff]
    refine callK_of rfl (k58e (ps := []) h) (.inl rfl) ?_
    simp only [c31r2, h, c31r3, go_sem, ↓reduceIte, reduceCtorEq, Nat.reduceAdd, Nat.reduceSub, Nat.reduceLT, Nat.reduceLeDiff]
theorem k30 {pl wn : List Bool} {mv : List (List Int)} : E.Fn Try.prog 30 [mach pl mv wn] (waysR pl mv wn true) := by
  refine fn_of_row okf30 ?_
  unfold waysR
  simp only [FRow.start, f30, c30r0, c30r1, mach, bools, go_sem, ↓reduceIte, reduceCtorEq, Nat.reduceAdd, Nat.reduceSub, Nat.reduceLT, Nat.reduceLeDiff]
  refine callK_of rfl (k21 (pl := pl) (mv := mv) (wn := wn)) (.inl rfl) ?_
  by_cases h : chkM pl mv wn = 0
  · have hv := valid_of h
    simp only [h, c30r3, go_sem, ↓reduceIte, reduceCtorEq, Nat.reduceAdd, Nat.reduceSub, Nat.reduceLT, Nat.reduceLeDiff]
    refine callK_of rfl (k71 hv) (.inr rfl) ?_
    simp only [ints, go_sem, ↓reduceIte, reduceCtorEq, Nat.reduceAdd, Nat.reduceSub, Nat.reduceLT, Nat.reduceLeDiff]
  · simp only [h, c30r2, go_sem, ↓reduceIte, reduceCtorEq, Nat.reduceAdd, Nat.reduceSub, Nat.reduceLT, Nat.reduceLeDiff]
    refine callK_of rfl (k21 (pl := pl) (mv := mv) (wn := wn)) (.inl rfl) ?_
    simp only [go_sem, ↓reduceIte, reduceCtorEq, Nat.reduceAdd, Nat.reduceSub, Nat.reduceLT, Nat.reduceLeDiff]
theorem k32 {pl wn : List Bool} {mv : List (List Int)} : E.Fn Try.prog 32 [mach pl mv wn] (waysR pl mv wn false) := by
  refine fn_of_row okf32 ?_
  unfold waysR
  simp only [FRow.start, f32, c32r0, c32r1, mach, bools, go_sem, ↓reduceIte, reduceCtorEq, Nat.reduceAdd, Nat.reduceSub, Nat.reduceLT, Nat.reduceLeDiff]
  refine callK_of rfl (k21 (pl := pl) (mv := mv) (wn := wn)) (.inl rfl) ?_
  by_cases h : chkM pl mv wn = 0
  · have hv := valid_of h
    simp only [h, c32r3, go_sem, ↓reduceIte, reduceCtorEq, Nat.reduceAdd, Nat.reduceSub, Nat.reduceLT, Nat.reduceLeDiff]
    refine callK_of rfl (k72 hv) (.inr rfl) ?_
    simp only [ints, go_sem, ↓reduceIte, reduceCtorEq, Nat.reduceAdd, Nat.reduceSub, Nat.reduceLT, Nat.reduceLeDiff]
  · simp only [h, c32r2, go_sem, ↓reduceIte, reduceCtorEq, Nat.reduceAdd, Nat.reduceSub, Nat.reduceLT, Nat.reduceLeDiff]
    refine callK_of rfl (k21 (pl := pl) (mv := mv) (wn := wn)) (.inl rfl) ?_
    simp only [go_sem, ↓reduceIte, reduceCtorEq, Nat.reduceAdd, Nat.reduceSub, Nat.reduceLT, Nat.reduceLeDiff]
theorem waysR_eq (pl : List Bool) (mv : List (List Int)) (wn : List Bool) (p : Bool) : ∃ (D : List Int) (e : Int), waysR pl mv wn p = [ints D, .int .i64 e] := by
  unfold waysR
  split
  · exact ⟨_, _, rfl⟩
  · exact ⟨[], _, rfl⟩
end Go.Proofs.Ytglmjdpmpgphkaa.Sk

/- Contracts of functions: plays, and in how many moves the player wins. -/
namespace Go.Proofs.Ytglmjdpmpgphkaa.Sk
open Go Go.E Go.E.Sm
set_option maxRecDepth 10000

theorem two_ne : ((2 : Int) = 0) = False := by simp
def inN (n : Nat) (x : Int) : Bool := decide (0 ≤ x) && decide (x < n)
theorem inAll_one {n : Nat} {x : Int} : inAll 0 ((n : Int) - 1) [x] = inN n x := by
  simp only [inAll, inN, List.all_cons, List.all_nil, Bool.and_true]
  congr 1
  by_cases h : x < n
  · have : x ≤ (n : Int) - 1 := by omega
    simp [h, this]
  · have : ¬ x ≤ (n : Int) - 1 := by omega
    simp [h, this]

def sureR (pl : List Bool) (mv : List (List Int)) (wn : List Bool) (x : Int) : List SV :=
  if chkM pl mv wn ≠ 0 then [.int .i64 0, .int .i64 (chkM pl mv wn)] else if inN mv.length x = false then [.int .i64 0, .int .i64 2]
  else if getI (distW pl mv wn) x < 0 then [.int .i64 0, .int .i64 19] else [.int .i64 (getI (distW pl mv wn) x), .int .i64 0]

theorem k39 {pl wn : List Bool} {mv : List (List Int)} {x : Int} : E.Fn Try.prog 39 [mach pl mv wn, .int .i64 x] (sureR pl mv wn x) := by
  refine fn_of_row okf39 ?_
  unfold sureR
  simp only [FRow.start, f39, c39r0, c39r1, mach, bools, go_sem, ↓reduceIte, reduceCtorEq, Nat.reduceAdd, Nat.reduceSub, Nat.reduceLT, Nat.reduceLeDiff]
  refine ⟨by decide, by decide, rfl, one1, ?_⟩
  by_cases h : chkM pl mv wn = 0
  · have hv := valid_of h
    have h1 := hv.few
    have hdl := distW_len hv
    have hpl := pad_len (W := distW pl mv wn) (by omega)
    rw [if_neg (by simpa using h)]
    cases hx : inN mv.length x with
    | false =>
      refine callK_of rfl (k58p (ps := [x]) hv (by rw [inAll_one, hx])) (.inl rfl) ?_
      simp only [c39r2, two_ne, c39r3, go_sem, ↓reduceIte, reduceCtorEq, Nat.reduceAdd, Nat.reduceSub, Nat.reduceLT, Nat.reduceLeDiff]
    | true =>
      have hx' := hx
      simp only [inN, Bool.and_eq_true, decide_eq_true_eq] at hx'
      have hg := getI_get (W := pad (distW pl mv wn)) (x := x) hx'.1 (by omega)
      rw [getI_pad] at hg
      have h14 : x < 14 := by omega
      have hile : x.toNat ≤ (pad (distW pl mv wn)).length := by omega
      have hsel : (List.drop x.toNat (List.map (SV.int .i64) (pad (distW pl mv wn))))[0]? = some (.int .i64 (getI (distW pl mv wn) x)) := by
        rw [List.getElem?_drop, Nat.add_zero, List.getElem?_map, hg]; rfl
      refine callK_of rfl (k58 (ps := [x]) hv (by rw [inAll_one, hx])) (.inr rfl) ?_
      simp only [c39r2, boardV, c39r4, Nat.mul_one, go_sem, ↓reduceIte, reduceCtorEq, Nat.reduceAdd, Nat.reduceSub, Nat.reduceLT, Nat.reduceLeDiff]
      refine ⟨hx'.1, by omega, hile, ?_⟩
      simp only [hsel, go_sem, ↓reduceIte, reduceCtorEq, Nat.reduceAdd, Nat.reduceSub, Nat.reduceLT, Nat.reduceLeDiff]
      refine ⟨fun hn => ?_, fun hn => ?_⟩
      · simp only [c39r5, hn, go_sem, ↓reduceIte, reduceCtorEq, Nat.reduceAdd, Nat.reduceSub, Nat.reduceLT, Nat.reduceLeDiff]
      · simp only [c39r6, hn, Nat.mul_one, go_sem, ↓reduceIte, reduceCtorEq, Nat.reduceAdd, Nat.reduceSub, Nat.reduceLT, Nat.reduceLeDiff]
        refine ⟨hx'.1, by omega, hile, ?_⟩
        simp only [hsel, go_sem, ↓reduceIte, reduceCtorEq, Nat.reduceAdd, Nat.reduceSub, Nat.reduceLT, Nat.reduceLeDiff]
  · rw [if_pos h]
    refine callK_of rfl (k58e (ps := [x]) h) (.inl rfl) ?_
    simp only [c39r2, h, c39r3, go_sem, ↓reduceIte, reduceCtorEq, Nat.reduceAdd, Nat.reduceSub, Nat.reduceLT, Nat.reduceLeDiff]

theorem k40 {pl wn : List Bool} {mv : List (List Int)} {x : Int} : E.Fn Try.prog 40 [mach pl mv wn, .int .i64 x] (sureR pl mv wn x) := by
  refine fn_of_row okf40 ?_
  unfold sureR
  simp only [FRow.start, f40, c40r0, c40r1, mach, bools, go_sem, ↓reduceIte, reduceCtorEq, Nat.reduceAdd, Nat.reduceSub, Nat.reduceLT, Nat.reduceLeDiff]
  refine callK_of rfl (k21 (pl := pl) (mv := mv) (wn := wn)) (.inl rfl) ?_
  by_cases h : chkM pl mv wn = 0
  · have hv := valid_of h
    have h1 := hv.few
    have hdl := distW_len hv
    rw [if_neg (by simpa using h)]
    simp only [h, c40r3, go_sem, ↓reduceIte, reduceCtorEq, Nat.reduceAdd, Nat.reduceSub, Nat.reduceLT, Nat.reduceLeDiff]
    refine ⟨fun h3 => ?_, fun h3 _ => ⟨fun h4 => ?_, fun h4 => ?_⟩⟩
    · have : inN mv.length x = false := by have : decide (0 ≤ x) = false := by { simp; omega }; rw [inN, this]; rfl
      simp only [c40r4, this, go_sem, ↓reduceIte, reduceCtorEq, Nat.reduceAdd, Nat.reduceSub, Nat.reduceLT, Nat.reduceLeDiff]
    · have : inN mv.length x = false := by have : decide (x < (mv.length : Int)) = false := by { simp; omega }; rw [inN, this]; simp
      simp only [c40r4, this, go_sem, ↓reduceIte, reduceCtorEq, Nat.reduceAdd, Nat.reduceSub, Nat.reduceLT, Nat.reduceLeDiff]
    · have hin : inN mv.length x = true := by simp [inN]; omega
      have hg := getI_get (W := distW pl mv wn) (x := x) (by omega) (by omega)
      have hx2 : x.toNat < (distW pl mv wn).length := by omega
      simp only [c40r5, go_sem, ↓reduceIte, reduceCtorEq, Nat.reduceAdd, Nat.reduceSub, Nat.reduceLT, Nat.reduceLeDiff]
      refine callK_of rfl (k59 hv.pos hv.few hv.pl hv.wn hv.ins) (.inr rfl) ?_
      simp only [ints, hg, hx2, go_sem, ↓reduceIte, reduceCtorEq, Nat.reduceAdd, Nat.reduceSub, Nat.reduceLT, Nat.reduceLeDiff]
      refine ⟨by omega, ?_⟩
      simp only [c40r6, go_sem, ↓reduceIte, reduceCtorEq, Nat.reduceAdd, Nat.reduceSub, Nat.reduceLT, Nat.reduceLeDiff]
      refine ⟨fun hn => ?_, fun hn => ?_⟩
      · simp only [c40r7, hin, hn, Bool.true_eq_false, go_sem, ↓reduceIte, reduceCtorEq, Nat.reduceAdd, Nat.reduceSub, Nat.reduceLT, Nat.reduceLeDiff]
      · simp only [c40r8, hin, hn, Bool.true_eq_false, go_sem, ↓reduceIte, reduceCtorEq, Nat.reduceAdd, Nat.reduceSub, Nat.reduceLT, Nat.reduceLeDiff]
  · rw [if_pos h]
    simp only [h, c40r2, go_sem, ↓reduceIte, reduceCtorEq, Nat.reduceAdd, Nat.reduceSub, Nat.reduceLT, Nat.reduceLeDiff]
    refine callK_of rfl (k21 (pl := pl) (mv := mv) (wn := wn)) (.inl rfl) ?_
    simp only [go_sem, ↓reduceIte, reduceCtorEq, Nat.reduceAdd, Nat.reduceSub, Nat.reduceLT, Nat.reduceLeDiff]

/-! Plays. -/
def playL (nx : Int → Int) : Nat → List Int → Int → List Int
  | 0, out, _ => out
  | k + 1, out, y => if y = -1 ∨ hasL out y = true then out else playL nx k (out ++ [y]) (nx y)
def unseen (n : Nat) (out : List Int) : Nat := (List.range n).countP fun i : Nat => !hasL out i

theorem hasL_app (out : List Int) (y x : Int) : hasL (out ++ [y]) x = (hasL out x || decide (x = y)) := by
  simp [hasL]

theorem countP_lt {p q : Nat → Bool} (hpq : ∀ i, p i = true → q i = true) : ∀ {n i : Nat}, i < n → q i = true → p i = false → (List.range n).countP p < (List.range n).countP q
  | n + 1, i, hi, hq, hp => by
    have hle : (List.range n).countP p ≤ (List.range n).countP q := List.countP_mono_left fun x _ h => hpq x h
    rw [List.range_succ, List.countP_append, List.countP_append]
    simp only [List.countP_cons, List.countP_nil]
    by_cases e : i = n
    · subst e
      rw [hq, hp]
      simp; omega
    · have ih := countP_lt hpq (n := n) (i := i) (by omega) hq hp
      have : (if p n = true then 1 else 0) ≤ (if q n = true then 1 else 0) := by
        cases h : p n with
        | false => simp
        | true => rw [hpq n h]; exact Nat.le_refl _
      omega

theorem unseen_lt {n : Nat} {out : List Int} {y : Int} (h0 : 0 ≤ y) (h1 : y < n) (h2 : hasL out y = false) : unseen n (out ++ [y]) < unseen n out := by
  refine countP_lt (i := y.toNat) (fun i h => ?_) (by omega) ?_ ?_
  · rw [hasL_app, Bool.not_eq_true', Bool.or_eq_false_iff] at h
    rw [h.1]; rfl
  · rw [show ((y.toNat : Nat) : Int) = y by omega, h2]; rfl
  · rw [show ((y.toNat : Nat) : Int) = y by omega, hasL_app]; simp
theorem unseen_le (n : Nat) (out : List Int) : unseen n out ≤ n := Nat.le_trans List.countP_le_length (by simp)

def nextP (pl : List Bool) (own other : List Int) (i : Int) : Int := if pl.getD i.toNat false then getI own i else getI other i
def playW (pl : List Bool) (mv : List (List Int)) (own other : List Int) (x : Int) : List Int := playL (nextP pl own other) (mv.length + 1) [] x
def playR (pl : List Bool) (mv : List (List Int)) (wn : List Bool) (own other : List Int) (x : Int) : List SV :=
  if wayR pl mv wn true own ≠ 0 then [.slice [], .bool false, .int .i64 (wayR pl mv wn true own)]
  else if wayR pl mv wn false other ≠ 0 then [.slice [], .bool false, .int .i64 (wayR pl mv wn false other)]
  else if inN mv.length x = false then [.slice [], .bool false, .int .i64 2]
  else [ints (playW pl mv own other x), .bool (wn.getD (getI (playW pl mv own other x) ((playW pl mv own other x).length - 1 : Nat)).toNat false), .int .i64 0]

/-- What is known of a way that is one. -/
structure IsWay (pl : List Bool) (mv : List (List Int)) (wn : List Bool) (p : Bool) (Y : List Int) : Prop where
  len : Y.length = mv.length
  ok : ∀ i, i < mv.length → getI Y i = -1 ∨ (wn.getD i false = false ∧ pl.getD i false = p ∧ hasL (mv.getD i []) (getI Y i) = true)
theorem hasL_mem {l : List Int} {x : Int} (h : hasL l x = true) : x ∈ l := by
  unfold hasL at h
  rw [List.any_eq_true] at h
  obtain ⟨y, hy, he⟩ := h
  rw [decide_eq_true_eq] at he
  exact he ▸ hy
theorem wayR_ok {pl wn : List Bool} {mv : List (List Int)} {p : Bool} {Y : List Int} (h : wayR pl mv wn p Y = 0) : Valid pl mv wn ∧ IsWay pl mv wn p Y := by
  unfold wayR at h
  split at h
  · rename_i h1; exact absurd h h1
  · rename_i h1
    have hv : Valid pl mv wn := valid_of (by simpa using h1)
    split at h
    · omega
    · rename_i h2
      split at h
      · rename_i h3
        refine ⟨hv, by simpa using h2, fun i hi => ?_⟩
        rw [List.all_eq_true] at h3
        have := h3 i (by simpa using hi)
        simp only [wayOk, Bool.or_eq_true, decide_eq_true_eq, Bool.and_eq_true, Bool.not_eq_true', beq_iff_eq] at this
        rcases this with h | h
        · exact .inl h
        · exact .inr ⟨h.1.1, h.1.2, h.2⟩
      · omega
theorem IsWay.rng {pl wn : List Bool} {mv : List (List Int)} {p : Bool} {Y : List Int} (hv : Valid pl mv wn) (h : IsWay pl mv wn p Y) {i : Nat} (hi : i < mv.length) : getI Y i = -1 ∨ (0 ≤ getI Y i ∧ getI Y i < mv.length) := by
  rcases h.ok i hi with h1 | ⟨_, _, h1⟩
  · exact .inl h1
  · have := hv.ins _ (List.mem_of_getElem? (hv.at' hi).hm) _ (hasL_mem h1)
    exact .inr this

theorem k35 {pl wn : List Bool} {mv : List (List Int)} {own other : List Int} {x : Int} : E.Fn Try.prog 35 [mach pl mv wn, ints own, ints other, .int .i64 x] (playR pl mv wn own other x) := by
  refine fn_of_row okf35 ?_
  unfold playR
  simp only [FRow.start, f35, c35r0, c35r1, mach, bools, ints, go_sem, ↓reduceIte, reduceCtorEq, Nat.reduceAdd, Nat.reduceSub, Nat.reduceLT, Nat.reduceLeDiff]
  refine callK_of rfl (k33 (pl := pl) (mv := mv) (wn := wn) (p := true) (Y := own)) (.inl rfl) ?_
  by_cases h1 : wayR pl mv wn true own = 0
  · rw [if_neg (by simpa using h1)]
    simp only [c35r2, h1, c35r4, go_sem, ↓reduceIte, reduceCtorEq, Nat.reduceAdd, Nat.reduceSub, Nat.reduceLT, Nat.reduceLeDiff]
    refine callK_of rfl (k33 (pl := pl) (mv := mv) (wn := wn) (p := false) (Y := other)) (.inl rfl) ?_
    by_cases h2 : wayR pl mv wn false other = 0
    · rw [if_neg (by simpa using h2)]
      obtain ⟨hv, hy1⟩ := wayR_ok h1
      have hy2 := (wayR_ok h2).2
      have h14 := hv.few
      simp only [c35r5, h2, c35r7, go_sem, ↓reduceIte, reduceCtorEq, Nat.reduceAdd, Nat.reduceSub, Nat.reduceLT, Nat.reduceLeDiff]
      refine ⟨by decide, by decide, rfl, one1, ?_⟩
      cases hx : inN mv.length x with
      | false =>
        refine callK_of rfl (k58p (ps := [x]) hv (by rw [inAll_one, hx])) (.inl rfl) ?_
        simp only [c35r8, two_ne, c35r9, go_sem, ↓reduceIte, reduceCtorEq, Nat.reduceAdd, Nat.reduceSub, Nat.reduceLT, Nat.reduceLeDiff]
      | true =>
        rw [if_neg (by simp)]
        have hx' := hx
        simp only [inN, Bool.and_eq_true, decide_eq_true_eq] at hx'
        refine callK_of rfl (k58 (ps := [x]) hv (by rw [inAll_one, hx])) (.inr rfl) ?_
        generalize hR : playW pl mv own other x = R
        have hnx : ∀ y : Int, nextP pl own other y = if pl.getD y.toNat false then getI own y else getI other y := fun y => rfl
        simp only [c35r8, boardV, c35r10, c35r11, go_sem, ↓reduceIte, reduceCtorEq, Nat.reduceAdd, Nat.reduceSub, Nat.reduceLT, Nat.reduceLeDiff]
        refine loop_rule (fun n τ => ∃ (f : Nat) (out : List Int) (y : Int), n = f ∧ unseen mv.length out < f ∧ playL (nextP pl own other) f out y = R ∧ (y = -1 ∨ (0 ≤ y ∧ y < mv.length)) ∧ (∀ z ∈ out, 0 ≤ z ∧ z < mv.length) ∧ (out = [] → y ≠ -1) ∧ out.length + f ≤ mv.length + 1 ∧
          τ = ⟨[.any, .s (.slice (own.map (.int .i64))), .s (.slice (other.map (.int .i64))), .any, .s (.ptr [.slice (pl.map .bool), .slice (mv.map ints), .slice (wn.map .bool)]), .any, .any, .any, .any, .any, .any, .any, .any, .any, .any, .sl 0 0 out.length 1 false, .s (.int .i64 y), .any, .any, .any, .any, .any, .any, .any, .any, .any, .any, .any, .any, .any, .any, .any, .any, .any, .any, .any, .any, .any, .any, .any, .any, .any, .any, .any, .any, .any, .any, .any, .any, .any, .any, .any, .any, .any, .any, .any, .any, .any, .any, .any, .any, .any, .any, .any, .any, .any, .any, .any, .any, .any, .any, .any, .any, .any, .any, .any], [.row (out.map (SV.int .i64))]⟩) (mv.length + 1) (promo_one rfl) ?_ ?_
        · simp only [c35l17m, go_sem, ↓reduceIte, reduceCtorEq, Nat.reduceAdd, Nat.reduceSub, Nat.reduceLT, Nat.reduceLeDiff]
          exact ⟨mv.length + 1, [], x, rfl, by have := unseen_le mv.length []; omega, hR, .inr hx', by simp, fun _ => by omega, by simp, by simp⟩
        · rintro I f τ ⟨_, out, y, rfl, hu, hp, hyr, hor, hoe, hol, rfl⟩ hI
          have hso : sliceOf 0 out.length 1 (out.map (SV.int .i64)) = some (.slice (out.map (SV.int .i64))) := sliceOf_all (by simp)
          have hend : (y = -1 ∨ hasL out y = true) → out = R := fun he => by
            cases f with
            | zero => omega
            | succ f => rw [playL, if_pos he] at hp; exact hp
          have hgo : ¬ (y = -1 ∨ hasL out y = true) → ∃ f', f = f' + 1 ∧ playL (nextP pl own other) f' (out ++ [y]) (nextP pl own other y) = R := fun he => by
            cases f with
            | zero => omega
            | succ f => rw [playL, if_neg he] at hp; exact ⟨f, rfl, hp⟩
          simp only [c35l17, c35r12, go_sem, ↓reduceIte, reduceCtorEq, Nat.reduceAdd, Nat.reduceSub, Nat.reduceLT, Nat.reduceLeDiff]
          refine ⟨fun hy => ?_, fun hy => ?_⟩
          · have hR' := hend (.inl hy)
            have hne : out ≠ [] := fun h => hoe h hy
            have hlp : 1 ≤ out.length := by cases out with | nil => exact absurd rfl hne | cons => simp
            have hlast := getI_nat (W := out) (i := out.length - 1) (by omega)
            have hlr := hor _ (List.mem_of_getElem? hlast)
            have hidx : ((out.length : Int) - 1).toNat * 1 = out.length - 1 := by omega
            have hwl := (hv.at' (i := (getI out (out.length - 1 : Nat)).toNat) (by omega)).hw
            have hw2 := (hv.at' (i := (getI out (out.length - 1 : Nat)).toNat) (by omega)).w2
            subst hR'
            simp only [c35r18, go_sem, ↓reduceIte, reduceCtorEq, Nat.reduceAdd, Nat.reduceSub, Nat.reduceLT, Nat.reduceLeDiff]
            refine ⟨inR_i64 (by omega) (by omega), by omega, by omega, ?_⟩
            rw [hidx]
            simp only [hlast, hwl, hw2, go_sem, ↓reduceIte, reduceCtorEq, Nat.reduceAdd, Nat.reduceSub, Nat.reduceLT, Nat.reduceLeDiff]
            refine ⟨hlr.1, ?_⟩
            intro _
            simp only [hso, go_sem, ↓reduceIte, reduceCtorEq, Nat.reduceAdd, Nat.reduceSub, Nat.reduceLT, Nat.reduceLeDiff]
          · refine callK_of (by simp only [hso, ints, go_sem, ↓reduceIte, reduceCtorEq, Nat.reduceAdd, Nat.reduceSub, Nat.reduceLT, Nat.reduceLeDiff]) (k69 (xs := out) (v := y)) (.inl rfl) ?_
            cases hh : hasL out y with
            | true =>
              have hR' := hend (.inr hh)
              have hne : out ≠ [] := fun h => by rw [h] at hh; cases hh
              have hlp : 1 ≤ out.length := by cases out with | nil => exact absurd rfl hne | cons => simp
              have hlast := getI_nat (W := out) (i := out.length - 1) (by omega)
              have hlr := hor _ (List.mem_of_getElem? hlast)
              have hidx : ((out.length : Int) - 1).toNat * 1 = out.length - 1 := by omega
              have hwl := (hv.at' (i := (getI out (out.length - 1 : Nat)).toNat) (by omega)).hw
              have hw2 := (hv.at' (i := (getI out (out.length - 1 : Nat)).toNat) (by omega)).w2
              subst hR'
              simp only [c35r18, go_sem, ↓reduceIte, reduceCtorEq, Nat.reduceAdd, Nat.reduceSub, Nat.reduceLT, Nat.reduceLeDiff]
              refine ⟨inR_i64 (by omega) (by omega), by omega, by omega, ?_⟩
              rw [hidx]
              simp only [hlast, hwl, hw2, go_sem, ↓reduceIte, reduceCtorEq, Nat.reduceAdd, Nat.reduceSub, Nat.reduceLT, Nat.reduceLeDiff]
              refine ⟨hlr.1, ?_⟩
              intro _
              simp only [hso, go_sem, ↓reduceIte, reduceCtorEq, Nat.reduceAdd, Nat.reduceSub, Nat.reduceLT, Nat.reduceLeDiff]
            | false =>
              obtain ⟨f', rfl, hp'⟩ := hgo (by rw [hh]; simp [hy])
              have hy0 : 0 ≤ y ∧ y < mv.length := by
                rcases hyr with h | h
                · exact absurd h hy
                · exact h
              obtain ⟨hm, hpy, hw, hm2, hp2, hw2, hins⟩ := hv.at' (i := y.toNat) (by omega)
              have hun := unseen_lt hy0.1 hy0.2 hh
              have ho := getI_get (W := own) hy0.1 (by have := hy1.len; omega)
              have ho2 : y.toNat < own.length := by have := hy1.len; omega
              have ht := getI_get (W := other) hy0.1 (by have := hy2.len; omega)
              have ht2 : y.toNat < other.length := by have := hy2.len; omega
              have hr1 := hy1.rng hv (i := y.toNat) (by omega)
              have hr2 := hy2.rng hv (i := y.toNat) (by omega)
              have hyt : ((y.toNat : Nat) : Int) = y := by omega
              rw [hyt] at hr1 hr2
              have hny := hnx y
              have goOn : ∀ z, nextP pl own other y = z → (z = -1 ∨ (0 ≤ z ∧ z < mv.length)) → I ⟨[.any, .s (.slice (own.map (.int .i64))), .s (.slice (other.map (.int .i64))), .any, .s (.ptr [.slice (pl.map .bool), .slice (mv.map ints), .slice (wn.map .bool)]), .any, .any, .any, .any, .any, .any, .any, .any, .any, .any, .sl 0 0 (out.length + 1) 1 false, .s (.int .i64 z), .any, .any, .any, .any, .any, .any, .any, .any, .any, .any, .any, .any, .any, .any, .any, .any, .any, .any, .any, .any, .any, .any, .any, .any, .any, .any, .any, .any, .any, .any, .any, .any, .any, .any, .any, .any, .any, .any, .any, .any, .any, .any, .any, .any, .any, .any, .any, .any, .any, .any, .any, .any, .any, .any, .any, .any, .any, .any, .any], [.row ((out ++ [y]).map (SV.int .i64))]⟩ := fun z hz hzr => by
                subst hz
                refine hI f' _ (by omega) ⟨f', out ++ [y], _, rfl, by omega, hp', hzr, fun z hz => ?_, by simp, by simp; omega, by simp⟩
                rcases List.mem_append.1 hz with hz | hz
                · exact hor z hz
                · rw [List.mem_singleton] at hz; subst hz; exact hy0
              generalize pl.getD y.toNat false = b at *
              simp only [c35r13, go_sem, ↓reduceIte, reduceCtorEq, Nat.reduceAdd, Nat.reduceSub, Nat.reduceLT, Nat.reduceLeDiff]
              refine ⟨by decide, by decide, rfl, one1, one1, by omega, by omega, by omega, ?_⟩
              rw [app_map]
              cases b with
              | true =>
                simp only [c35r14, hpy, hp2, c35r15, ho, ho2, c35l17m, go_sem, ↓reduceIte, reduceCtorEq, Nat.reduceAdd, Nat.reduceSub, Nat.reduceLT, Nat.reduceLeDiff]
                exact ⟨hy0.1, hy0.1, goOn _ hny hr1⟩
              | false =>
                simp only [c35r14, hpy, hp2, c35r16, ht, ht2, c35l17m, go_sem, ↓reduceIte, reduceCtorEq, Nat.reduceAdd, Nat.reduceSub, Nat.reduceLT, Nat.reduceLeDiff]
                exact ⟨hy0.1, hy0.1, goOn _ hny hr2⟩
    · rw [if_pos h2]
      simp only [c35r5, h2, c35r6, go_sem, ↓reduceIte, reduceCtorEq, Nat.reduceAdd, Nat.reduceSub, Nat.reduceLT, Nat.reduceLeDiff]
  · rw [if_pos h1]
    simp only [c35r2, h1, c35r3, go_sem, ↓reduceIte, reduceCtorEq, Nat.reduceAdd, Nat.reduceSub, Nat.reduceLT, Nat.reduceLeDiff]
theorem k36 {pl wn : List Bool} {mv : List (List Int)} {own other : List Int} {x : Int} : E.Fn Try.prog 36 [mach pl mv wn, ints own, ints other, .int .i64 x] (playR pl mv wn own other x) := by
  refine fn_of_row okf36 ?_
  unfold playR
  simp only [FRow.start, f36, c36r0, c36r1, mach, bools, ints, go_sem, ↓reduceIte, reduceCtorEq, Nat.reduceAdd, Nat.reduceSub, Nat.reduceLT, Nat.reduceLeDiff]
  refine callK_of rfl (k34 (pl := pl) (mv := mv) (wn := wn) (p := true) (Y := own)) (.inl rfl) ?_
  by_cases h1 : wayR pl mv wn true own = 0
  · rw [if_neg (by simpa using h1)]
    simp only [h1, c36r3, go_sem, ↓reduceIte, reduceCtorEq, Nat.reduceAdd, Nat.reduceSub, Nat.reduceLT, Nat.reduceLeDiff]
    refine callK_of rfl (k34 (pl := pl) (mv := mv) (wn := wn) (p := false) (Y := other)) (.inl rfl) ?_
    by_cases h2 : wayR pl mv wn false other = 0
    · rw [if_neg (by simpa using h2)]
      obtain ⟨hv, hy1⟩ := wayR_ok h1
      have hy2 := (wayR_ok h2).2
      have h14 := hv.few
      simp only [h2, c36r5, go_sem, ↓reduceIte, reduceCtorEq, Nat.reduceAdd, Nat.reduceSub, Nat.reduceLT, Nat.reduceLeDiff]
      refine ⟨fun h3 => ?_, fun h3 _ => ⟨fun h4 => ?_, fun h4 => ?_⟩⟩
      · have : inN mv.length x = false := by have : decide (0 ≤ x) = false := by { simp; omega }; rw [inN, this]; rfl
        simp only [c36r6, this, go_sem, ↓reduceIte, reduceCtorEq, Nat.reduceAdd, Nat.reduceSub, Nat.reduceLT, Nat.reduceLeDiff]
      · have : inN mv.length x = false := by have : decide (x < (mv.length : Int)) = false := by { simp; omega }; rw [inN, this]; simp
        simp only [c36r6, this, go_sem, ↓reduceIte, reduceCtorEq, Nat.reduceAdd, Nat.reduceSub, Nat.reduceLT, Nat.reduceLeDiff]
      · have hx : inN mv.length x = true := by simp [inN]; omega
        rw [if_neg (by rw [hx]; simp)]
        have hx' : 0 ≤ x ∧ x < mv.length := by omega
        generalize hR : playW pl mv own other x = R
        have hnx : ∀ y : Int, nextP pl own other y = if pl.getD y.toNat false then getI own y else getI other y := fun y => rfl
        simp only [c36r7, c36r8, go_sem, ↓reduceIte, reduceCtorEq, Nat.reduceAdd, Nat.reduceSub, Nat.reduceLT, Nat.reduceLeDiff]
        refine loop_rule (fun n τ => ∃ (f : Nat) (out : List Int) (y : Int), n = f ∧ unseen mv.length out < f ∧ playL (nextP pl own other) f out y = R ∧ (y = -1 ∨ (0 ≤ y ∧ y < mv.length)) ∧ (∀ z ∈ out, 0 ≤ z ∧ z < mv.length) ∧ (out = [] → y ≠ -1) ∧ out.length + f ≤ mv.length + 1 ∧
          τ = ⟨[.any, .s (.slice (own.map (.int .i64))), .s (.slice (other.map (.int .i64))), .any, .s (.ptr [.slice (pl.map .bool), .slice (mv.map ints), .slice (wn.map .bool)]), .any, .any, .any, .any, .any, .any, .sl 0 0 out.length 1 false, .s (.int .i64 y), .any, .any, .any, .any, .any, .any, .any, .any, .any, .any, .any, .any, .any, .any, .any, .any, .any, .any, .any, .any, .any, .any, .any, .any, .any, .any, .any, .any, .any, .any, .any, .any, .any, .any, .any, .any, .any, .any, .any, .any, .any, .any, .any, .any, .any, .any, .any, .any, .any, .any, .any, .any, .any, .any, .any, .any], [.row (out.map (SV.int .i64))]⟩) (mv.length + 1) (promo_one rfl) ?_ ?_
        · simp only [c36l12m, go_sem, ↓reduceIte, reduceCtorEq, Nat.reduceAdd, Nat.reduceSub, Nat.reduceLT, Nat.reduceLeDiff]
          exact ⟨mv.length + 1, [], x, rfl, by have := unseen_le mv.length []; omega, hR, .inr hx', by simp, fun _ => by omega, by simp, by simp⟩
        · rintro I f τ ⟨_, out, y, rfl, hu, hp, hyr, hor, hoe, hol, rfl⟩ hI
          have hso : sliceOf 0 out.length 1 (out.map (SV.int .i64)) = some (.slice (out.map (SV.int .i64))) := sliceOf_all (by simp)
          have hend : (y = -1 ∨ hasL out y = true) → out = R := fun he => by
            cases f with
            | zero => omega
            | succ f => rw [playL, if_pos he] at hp; exact hp
          have hgo : ¬ (y = -1 ∨ hasL out y = true) → ∃ f', f = f' + 1 ∧ playL (nextP pl own other) f' (out ++ [y]) (nextP pl own other y) = R := fun he => by
            cases f with
            | zero => omega
            | succ f => rw [playL, if_neg he] at hp; exact ⟨f, rfl, hp⟩
          simp only [c36l12, c36r9, go_sem, ↓reduceIte, reduceCtorEq, Nat.reduceAdd, Nat.reduceSub, Nat.reduceLT, Nat.reduceLeDiff]
          refine ⟨fun hy => ?_, fun hy => ?_⟩
          · refine callK_of (by simp only [hso, ints, go_sem, ↓reduceIte, reduceCtorEq, Nat.reduceAdd, Nat.reduceSub, Nat.reduceLT, Nat.reduceLeDiff]) (k49 (xs := out) (v := y)) (.inl rfl) ?_
            cases hh : hasL out y with
            | true =>
              have hR' := hend (.inr hh)
              have hne : out ≠ [] := fun h => by rw [h] at hh; cases hh
              have hlp : 1 ≤ out.length := by cases out with | nil => exact absurd rfl hne | cons => simp
              have hlast := getI_nat (W := out) (i := out.length - 1) (by omega)
              have hlr := hor _ (List.mem_of_getElem? hlast)
              have hidx : ((out.length : Int) - 1).toNat * 1 = out.length - 1 := by omega
              have hwl := (hv.at' (i := (getI out (out.length - 1 : Nat)).toNat) (by omega)).hw
              have hw2 := (hv.at' (i := (getI out (out.length - 1 : Nat)).toNat) (by omega)).w2
              subst hR'
              simp only [c36r13, go_sem, ↓reduceIte, reduceCtorEq, Nat.reduceAdd, Nat.reduceSub, Nat.reduceLT, Nat.reduceLeDiff]
              refine ⟨inR_i64 (by omega) (by omega), by omega, by omega, ?_⟩
              rw [hidx]
              simp only [hlast, hwl, hw2, go_sem, ↓reduceIte, reduceCtorEq, Nat.reduceAdd, Nat.reduceSub, Nat.reduceLT, Nat.reduceLeDiff]
              refine ⟨hlr.1, ?_⟩
              intro _
              simp only [hso, go_sem, ↓reduceIte, reduceCtorEq, Nat.reduceAdd, Nat.reduceSub, Nat.reduceLT, Nat.reduceLeDiff]
            | false =>
              obtain ⟨f', rfl, hp'⟩ := hgo (by rw [hh]; simp; omega)
              have hy0 : 0 ≤ y ∧ y < mv.length := by
                rcases hyr with h | h
                · omega
                · exact h
              obtain ⟨hm, hpy, hw, hm2, hp2, hw2, hins⟩ := hv.at' (i := y.toNat) (by omega)
              have hun := unseen_lt hy0.1 hy0.2 hh
              have ho := getI_get (W := own) hy0.1 (by have := hy1.len; omega)
              have ho2 : y.toNat < own.length := by have := hy1.len; omega
              have ht := getI_get (W := other) hy0.1 (by have := hy2.len; omega)
              have ht2 : y.toNat < other.length := by have := hy2.len; omega
              have hr1 := hy1.rng hv (i := y.toNat) (by omega)
              have hr2 := hy2.rng hv (i := y.toNat) (by omega)
              have hyt : ((y.toNat : Nat) : Int) = y := by omega
              rw [hyt] at hr1 hr2
              have hny := hnx y
              have goOn : ∀ z, nextP pl own other y = z → (z = -1 ∨ (0 ≤ z ∧ z < mv.length)) → I ⟨[.any, .s (.slice (own.map (.int .i64))), .s (.slice (other.map (.int .i64))), .any, .s (.ptr [.slice (pl.map .bool), .slice (mv.map ints), .slice (wn.map .bool)]), .any, .any, .any, .any, .any, .any, .sl 0 0 (out.length + 1) 1 false, .s (.int .i64 z), .any, .any, .any, .any, .any, .any, .any, .any, .any, .any, .any, .any, .any, .any, .any, .any, .any, .any, .any, .any, .any, .any, .any, .any, .any, .any, .any, .any, .any, .any, .any, .any, .any, .any, .any, .any, .any, .any, .any, .any, .any, .any, .any, .any, .any, .any, .any, .any, .any, .any, .any, .any, .any, .any, .any, .any], [.row ((out ++ [y]).map (SV.int .i64))]⟩ := fun z hz hzr => by
                subst hz
                refine hI f' _ (by omega) ⟨f', out ++ [y], _, rfl, by omega, hp', hzr, fun z hz => ?_, by simp, by simp; omega, by simp⟩
                rcases List.mem_append.1 hz with hz | hz
                · exact hor z hz
                · rw [List.mem_singleton] at hz; subst hz; exact hy0
              have hmax : (if getI own y < getI other y then getI other y else getI own y) = nextP pl own other y := by
                rw [hny]
                rcases hy1.ok y.toNat (by omega) with h | ⟨_, h, _⟩
                · rw [hyt] at h
                  rcases hy2.ok y.toNat (by omega) with h' | ⟨_, h', _⟩
                  · rw [hyt] at h'
                    rw [h, h']; split <;> split <;> rfl
                  · rw [h', h]
                    simp only [Bool.false_eq_true, if_false]
                    split <;> omega
                · rcases hy2.ok y.toNat (by omega) with h' | ⟨_, h', _⟩
                  · rw [hyt] at h'
                    rw [h, h']
                    simp only [if_true]
                    split <;> omega
                  · rw [h] at h'; cases h'
              have hrn : nextP pl own other y = -1 ∨ (0 ≤ nextP pl own other y ∧ nextP pl own other y < mv.length) := by
                rw [hny]; split
                · exact hr1
                · exact hr2
              simp only [c36r10, go_sem, ↓reduceIte, reduceCtorEq, Nat.reduceAdd, Nat.reduceSub, Nat.reduceLT, Nat.reduceLeDiff]
              refine ⟨by decide, by decide, rfl, one1, one1, by omega, by omega, by omega, ?_⟩
              rw [app_map]
              simp only [c36r11, ho, ho2, ht, ht2, maxL, List.foldl_cons, List.foldl_nil, c36l12m, go_sem, ↓reduceIte, reduceCtorEq, Nat.reduceAdd, Nat.reduceSub, Nat.reduceLT, Nat.reduceLeDiff]
              exact ⟨hy0.1, hy0.1, by simp, goOn _ (by rw [← hmax]) (by have := hrn; rw [← hmax] at this; exact this)⟩
          · have hR' := hend (.inl (by rcases hyr with h | h; exact h; omega))
            have hne : out ≠ [] := fun h => hoe h (by rcases hyr with h | h; exact h; omega)
            have hlp : 1 ≤ out.length := by cases out with | nil => exact absurd rfl hne | cons => simp
            have hlast := getI_nat (W := out) (i := out.length - 1) (by omega)
            have hlr := hor _ (List.mem_of_getElem? hlast)
            have hidx : ((out.length : Int) - 1).toNat * 1 = out.length - 1 := by omega
            have hwl := (hv.at' (i := (getI out (out.length - 1 : Nat)).toNat) (by omega)).hw
            have hw2 := (hv.at' (i := (getI out (out.length - 1 : Nat)).toNat) (by omega)).w2
            subst hR'
            simp only [c36r13, go_sem, ↓reduceIte, reduceCtorEq, Nat.reduceAdd, Nat.reduceSub, Nat.reduceLT, Nat.reduceLeDiff]
            refine ⟨inR_i64 (by omega) (by omega), by omega, by omega, ?_⟩
            rw [hidx]
            simp only [hlast, hwl, hw2, go_sem, ↓reduceIte, reduceCtorEq, Nat.reduceAdd, Nat.reduceSub, Nat.reduceLT, Nat.reduceLeDiff]
            refine ⟨hlr.1, ?_⟩
            intro _
            simp only [hso, go_sem, ↓reduceIte, reduceCtorEq, Nat.reduceAdd, Nat.reduceSub, Nat.reduceLT, Nat.reduceLeDiff]
    · rw [if_pos h2]
      simp only [h2, c36r4, go_sem, ↓reduceIte, reduceCtorEq, Nat.reduceAdd, Nat.reduceSub, Nat.reduceLT, Nat.reduceLeDiff]
      refine callK_of rfl (k34 (pl := pl) (mv := mv) (wn := wn) (p := false) (Y := other)) (.inl rfl) ?_
      simp only [go_sem, ↓reduceIte, reduceCtorEq, Nat.reduceAdd, Nat.reduceSub, Nat.reduceLT, Nat.reduceLeDiff]
  · rw [if_pos h1]
    simp only [h1, c36r2, go_sem, ↓reduceIte, reduceCtorEq, Nat.reduceAdd, Nat.reduceSub, Nat.reduceLT, Nat.reduceLeDiff]
    refine callK_of rfl (k34 (pl := pl) (mv := mv) (wn := wn) (p := true) (Y := own)) (.inl rfl) ?_
    simp only [go_sem, ↓reduceIte, reduceCtorEq, Nat.reduceAdd, Nat.reduceSub, Nat.reduceLT, Nat.reduceLeDiff]
end Go.Proofs.Ytglmjdpmpgphkaa.Sk

/- Contracts of functions: copies, deleting, and whether the player wins by a way. -/
namespace Go.Proofs.Ytglmjdpmpgphkaa.Sk
open Go Go.E Go.E.Sm
set_option maxRecDepth 10000

theorem flatE_one_each {α : Type} {e : α → SV} (he : ∀ x, (e x).cells = [e x]) : ∀ (xs : List α), flatE (xs.map e) = xs.map e
  | [] => rfl
  | x :: xs => by
    have ih := flatE_one_each he xs
    simp only [flatE, List.map_cons, List.flatten_cons, he] at ih ⊢
    rw [ih]; rfl

theorem k75 {xs : List Int} (hx : xs.length ≤ 64) : E.FnNew Try.prog 75 1 [.slice (xs.map (SV.int .i64))] (xs.map (SV.int .i64)) := by
  refine new_of_row okf75 ?_
  have hfl : flatE (xs.map (SV.int .i64)) = xs.map (SV.int .i64) := flatE_one_each (fun _ => rfl) xs
  simp only [FRow.start, f75, c75r0, c75r1, c75r2, c75r3, go_sem, ↓reduceIte, reduceCtorEq, Nat.reduceAdd, Nat.reduceSub, Nat.reduceLT, Nat.reduceLeDiff]
  have hoc : ∀ y ∈ xs.map (SV.int .i64), y.cells.length = 1 := by
    intro y hy
    obtain ⟨x, _, rfl⟩ := List.mem_map.1 hy
    rfl
  refine ⟨fun he => ?_, by decide, by decide, rfl, by simp, ⟨by simp, hoc, by simp only [List.length_nil, List.length_map]; omega, by simp only [List.length_nil, List.length_map]; omega, by decide⟩, fun he => ?_, fun hne => ?_⟩
  · rw [he]; simp [finN, newOf, fget]
  · simp only [go_sem, ↓reduceIte, reduceCtorEq, Nat.reduceAdd, Nat.reduceSub, Nat.reduceLT, Nat.reduceLeDiff]
    rw [he]; simp [finN, newOf, fget]
  · simp only [hfl, go_sem, ↓reduceIte, reduceCtorEq, Nat.reduceAdd, Nat.reduceSub, Nat.reduceLT, Nat.reduceLeDiff]
    exact .inr ⟨rfl, _, rfl, by simp, hne, by rw [hfl]; simp, by simp, by rw [hfl]; simp only [Nat.mul_one, List.drop_zero]; exact (List.take_of_length_le (by simp)).symm⟩

theorem k73 {xs : List (List Int)} (hx : xs.length ≤ 64) : E.FnNew Try.prog 73 1 [.slice (xs.map ints)] (xs.map ints) := by
  refine new_of_row okf73 ?_
  have hfl : flatE (xs.map ints) = xs.map ints := flatE_one_each (fun _ => rfl) xs
  simp only [FRow.start, f73, c73r0, c73r1, c73r2, c73r3, go_sem, ↓reduceIte, reduceCtorEq, Nat.reduceAdd, Nat.reduceSub, Nat.reduceLT, Nat.reduceLeDiff]
  have hoc : ∀ y ∈ xs.map ints, y.cells.length = 1 := by
    intro y hy
    obtain ⟨x, _, rfl⟩ := List.mem_map.1 hy
    rfl
  refine ⟨fun he => ?_, by decide, by decide, rfl, by simp, ⟨by simp, hoc, by simp only [List.length_nil, List.length_map]; omega, by simp only [List.length_nil, List.length_map]; omega, by decide⟩, fun he => ?_, fun hne => ?_⟩
  · rw [he]; simp [finN, newOf, fget]
  · simp only [go_sem, ↓reduceIte, reduceCtorEq, Nat.reduceAdd, Nat.reduceSub, Nat.reduceLT, Nat.reduceLeDiff]
    rw [he]; simp [finN, newOf, fget]
  · simp only [hfl, go_sem, ↓reduceIte, reduceCtorEq, Nat.reduceAdd, Nat.reduceSub, Nat.reduceLT, Nat.reduceLeDiff]
    exact .inr ⟨rfl, _, rfl, by simp, hne, by rw [hfl]; simp, by simp, by rw [hfl]; simp only [Nat.mul_one, List.drop_zero]; exact (List.take_of_length_le (by simp)).symm⟩

/-- What is left of a list. -/
def keepF (q : Int → Bool) (xs : List Int) : List Int := xs.filter fun x => !q x

theorem idx_some {q : Int → Bool} : ∀ (xs : List Int) (i : Int), xs.any q = true → ∃ (k : Nat) (x : Int), idx q xs i = i + k ∧ xs[k]? = some x ∧ q x = true ∧ keepF q (xs.take k) = xs.take k
  | [], i, h => by simp at h
  | x :: xs, i, h => by
    unfold idx
    by_cases hx : q x = true
    · rw [if_pos hx]
      exact ⟨0, x, by simp, rfl, hx, rfl⟩
    · rw [if_neg hx]
      simp only [List.any_cons, Bool.or_eq_true] at h
      obtain ⟨k, y, h1, h2, h3, h4⟩ := idx_some xs (i + 1) (h.resolve_left hx)
      refine ⟨k + 1, y, by rw [h1]; omega, h2, h3, ?_⟩
      rw [List.take_succ_cons, keepF, List.filter_cons, if_pos (by simpa using hx)]
      exact congrArg _ h4
theorem idx_none {q : Int → Bool} : ∀ (xs : List Int) (i : Int), xs.any q = false → idx q xs i = -1 ∧ keepF q xs = xs
  | [], i, _ => ⟨rfl, rfl⟩
  | x :: xs, i, h => by
    simp only [List.any_cons, Bool.or_eq_false_iff] at h
    obtain ⟨h1, h2⟩ := idx_none xs (i + 1) h.2
    refine ⟨by rw [idx, if_neg (by simp [h.1]), h1], ?_⟩
    rw [keepF, List.filter_cons, if_pos (by simp [h.1])]
    exact congrArg _ h2
theorem keepF_take {q : Int → Bool} {xs : List Int} {j : Nat} {x : Int} (h : xs[j]? = some x) : keepF q (xs.take (j + 1)) = if q x = true then keepF q (xs.take j) else keepF q (xs.take j) ++ [x] := by
  unfold keepF
  rw [List.take_succ, h, List.filter_append]
  simp only [Option.toList_some, List.filter_cons, List.filter_nil]
  cases q x <;> simp

theorem k74 {g : FuncId} {first caps : List SV} {xs : List Int} {q : Int → Bool} (hg : Ok1 g first caps) (hq : ∀ x ∈ xs, Asks g first caps (.int .i64 x) (q x)) (hl : xs.length ≤ 64) :
    E.CSem Try.prog 74 [.sl 0 0 xs.length 1 false, .s (.fn g first caps)] [.row (xs.map (SV.int .i64))] (.sl 0 0 (keepF q xs).length 1 false) [.row ((keepF q xs ++ List.replicate (xs.length - (keepF q xs).length) 0).map (SV.int .i64))] := by
  refine csem_of_row okf74 ?_
  have hso : sliceOf 0 xs.length 1 (xs.map (SV.int .i64)) = some (.slice (xs.map (SV.int .i64))) := sliceOf_all (by simp)
  simp only [FRow.start, f74, c74r0, c74r1, go_sem, ↓reduceIte, reduceCtorEq, Nat.reduceAdd, Nat.reduceSub, Nat.reduceLT, Nat.reduceLeDiff]
  refine callK_of (by simp only [hso, ints, go_sem, ↓reduceIte, reduceCtorEq, Nat.reduceAdd, Nat.reduceSub, Nat.reduceLT, Nat.reduceLeDiff]) (k92 hg hq) (.inl rfl) ?_
  cases ha : xs.any q with
  | false =>
    obtain ⟨h1, h2⟩ := idx_none xs 0 ha
    rw [h2]
    simp only [c74r2, h1, c74r3, go_sem, ↓reduceIte, reduceCtorEq, Nat.reduceAdd, Nat.reduceSub, Nat.reduceLT, Nat.reduceLeDiff]
    refine ⟨rfl, ?_⟩
    simp
    rfl
  | true =>
    obtain ⟨k, x0, h1, h2, h3, h4⟩ := idx_some xs 0 ha
    have hk := (List.getElem?_eq_some_iff.1 h2).1
    have hne : ((k : Int) = -1) = False := by simp
    rw [Int.zero_add] at h1
    simp only [c74r2, h1, hne, c74r4, go_sem, ↓reduceIte, reduceCtorEq, Nat.reduceAdd, Nat.reduceSub, Nat.reduceLT, Nat.reduceLeDiff]
    refine ⟨inR_i64 (by omega) (by omega), ?_⟩
    refine loop_rule (fun n τ => ∃ (j : Nat) (rs ws : List Int), n = xs.length - j ∧ j ≤ xs.length ∧ rs = keepF q (xs.take j) ∧ rs.length + ws.length = j ∧ 0 < ws.length ∧
      τ = ⟨[.sl 0 0 xs.length 1 false, .s (.fn g first caps), .any, .any, .any, .s (.int .i64 rs.length), .s (.int .i64 j), .any, .any, .any, .any, .any, .any, .any, .any, .any, .any, .any, .any, .any, .any, .any, .any, .any, .any, .any, .any, .any, .any, .any, .any, .any, .any, .any, .any, .any, .any, .any, .any, .any, .any, .any], [.row ((rs ++ ws ++ xs.drop j).map (SV.int .i64))]⟩) (xs.length - (k + 1)) rfl ?_ ?_
    · simp only [c74l11m, go_sem, ↓reduceIte, reduceCtorEq, Nat.reduceAdd, Nat.reduceSub, Nat.reduceLT, Nat.reduceLeDiff]
      have hkt : (xs.take k).length = k := by simp; omega
      refine ⟨k + 1, xs.take k, [x0], rfl, by omega, by rw [keepF_take h2, if_pos h3, h4], by simp [hkt], by simp, ?_⟩
      have : xs.take k ++ [x0] ++ xs.drop (k + 1) = xs := by
        rw [show xs.take k ++ [x0] = xs.take (k + 1) by rw [List.take_succ, h2]; rfl, List.take_append_drop]
      rw [this, hkt]
      simp
    · rintro I n τ ⟨j, rs, ws, rfl, hj, hrs, hrw, hw0, rfl⟩ hI
      simp only [c74l11, c74r5, go_sem, ↓reduceIte, reduceCtorEq, Nat.reduceAdd, Nat.reduceSub, Nat.reduceLT, Nat.reduceLeDiff]
      intro hxl
      refine ⟨fun hlt => ?_, fun hge => ?_⟩
      · have hx : xs[j]? = some xs[j] := List.getElem?_eq_getElem hlt
        have hqx := hq _ (List.getElem_mem hlt)
        have hdrop : xs.drop j = xs[j] :: xs.drop (j + 1) := List.drop_eq_getElem_cons hlt
        have hks := keepF_take (q := q) hx
        rw [← hrs] at hks
        generalize xs[j] = x at *
        have hrow : (rs ++ ws ++ xs.drop j)[j]? = some x := by
          rw [List.getElem?_append_right (by simp; omega), hdrop]
          have : j - (rs ++ ws).length = 0 := by simp; omega
          rw [this]; rfl
        simp only [c74r6, Nat.mul_one, Nat.zero_add, hrow, go_sem, ↓reduceIte, reduceCtorEq, Nat.reduceAdd, Nat.reduceSub, Nat.reduceLT, Nat.reduceLeDiff]
        refine ⟨by omega, ?_⟩
        simp only [c74r7, go_sem, ↓reduceIte, reduceCtorEq, Nat.reduceAdd, Nat.reduceSub, Nat.reduceLT, Nat.reduceLeDiff]
        refine ⟨hg.1, hg.2, callK_of (by simp only [go_sem, ↓reduceIte, reduceCtorEq, Nat.reduceAdd, Nat.reduceSub, Nat.reduceLT, Nat.reduceLeDiff]) hqx (.inl rfl) ?_⟩
        cases hb : q x with
        | true =>
          rw [if_pos hb] at hks
          simp only [c74r10, c74l11m, go_sem, ↓reduceIte, reduceCtorEq, Nat.reduceAdd, Nat.reduceSub, Nat.reduceLT, Nat.reduceLeDiff]
          refine ⟨inR_i64 (by omega) (by omega), hI (xs.length - (j + 1)) _ (by omega) ⟨j + 1, rs, ws ++ [x], rfl, by omega, hks.symm, by simp; omega, by simp, ?_⟩⟩
          rw [hdrop]
          simp
        | false =>
          rw [if_neg (by rw [hb]; simp)] at hks
          obtain ⟨w0, ws', rfl⟩ : ∃ w0 ws', ws = w0 :: ws' := by cases ws with | nil => simp at hw0 | cons a b => exact ⟨a, b, rfl⟩
          simp only [List.length_cons] at hrw
          simp only [c74r8, Nat.mul_one, Nat.zero_add, go_sem, ↓reduceIte, reduceCtorEq, Nat.reduceAdd, Nat.reduceSub, Nat.reduceLT, Nat.reduceLeDiff]
          refine ⟨by omega, by simp <;> omega, ?_⟩
          rw [splice_row (by simp <;> omega)]
          simp only [c74r9, c74r10, c74l11m, go_sem, ↓reduceIte, reduceCtorEq, Nat.reduceAdd, Nat.reduceSub, Nat.reduceLT, Nat.reduceLeDiff]
          refine ⟨inR_i64 (by omega) (by omega), inR_i64 (by omega) (by omega), hI (xs.length - (j + 1)) _ (by omega) ⟨j + 1, rs ++ [x], ws' ++ [x], rfl, by omega, hks.symm, by simp; omega, by simp, ?_⟩⟩
          have : (rs ++ w0 :: ws' ++ List.drop j xs).set rs.length x = rs ++ [x] ++ (ws' ++ [x]) ++ List.drop (j + 1) xs := by
            rw [hdrop]
            simp
          rw [this]
          simp
      · have hje : j = xs.length := by omega
        subst hje
        rw [List.take_length] at hrs
        subst hrs
        have hwl : ws.length = xs.length - (keepF q xs).length := by omega
        have hsp : splice ((keepF q xs ++ ws).map (SV.int .i64)) (keepF q xs).length (List.replicate (xs.length - (keepF q xs).length) (SV.int .i64 0)) = (keepF q xs ++ List.replicate (xs.length - (keepF q xs).length) 0).map (SV.int .i64) := by
          unfold splice
          rw [← hwl]
          simp
        simp only [c74r12, Nat.mul_one, Nat.zero_add, List.drop_length, flat_rep1, hsp, go_sem, ↓reduceIte, reduceCtorEq, Nat.reduceAdd, Nat.reduceSub, Nat.reduceLT, Nat.reduceLeDiff]
        refine ⟨by omega, by simp <;> omega, ?_⟩
        simp only [c74r13, Nat.mul_one, Nat.zero_add, go_sem, ↓reduceIte, reduceCtorEq, Nat.reduceAdd, Nat.reduceSub, Nat.reduceLT, Nat.reduceLeDiff]
        refine ⟨by omega, by omega, ?_⟩
        refine ⟨by simp [fget, fgt], ?_⟩
        simp
        rfl
end Go.Proofs.Ytglmjdpmpgphkaa.Sk

/- Contracts of functions: whether the player wins by a way. -/
namespace Go.Proofs.Ytglmjdpmpgphkaa.Sk
open Go Go.E Go.E.Sm
set_option maxRecDepth 10000

@[go_sem] theorem awp_zap' {P : Program} {n0 : Nat} {σ : AState} {Q : AExit → AState → Prop} {t off : Nat} {a : ACode} : (awp P n0 (.zap t off a) σ Q) = (zapK σ.hp off (fun H' => awp P n0 a ⟨σ.fr, H'⟩ Q) (fget σ.fr t)) := propext Iff.rfl

def byV (pl : List Bool) (mv : List (List Int)) (Y : List Int) (i : Nat) : List Int :=
  if pl.getD i false = true then keepF (fun k => !decide (k = getI Y i)) (mv.getD i []) else mv.getD i []
def byM (pl : List Bool) (mv : List (List Int)) (Y : List Int) : List (List Int) := (List.range mv.length).map (byV pl mv Y)

theorem rise_keep {q : Int → Bool} {below : Int} : ∀ (l : List Int) (lo lo' : Int), lo' ≤ lo → rise lo below l = true → rise lo' below (keepF q l) = true
  | [], _, _, _, _ => rfl
  | x :: l, lo, lo', hl, h => by
    simp only [rise, Bool.and_eq_true, decide_eq_true_eq] at h
    unfold keepF
    rw [List.filter_cons]
    split
    · simp only [rise, Bool.and_eq_true, decide_eq_true_eq]
      exact ⟨⟨by omega, h.1.2⟩, rise_keep l (x + 1) (x + 1) (Int.le_refl _) h.2⟩
    · exact rise_keep l (x + 1) lo' (by omega) h.2
theorem byM_valid {pl wn : List Bool} {mv : List (List Int)} {Y : List Int} (hv : Valid pl mv wn) : Valid pl (byM pl mv Y) wn := by
  have hl : (byM pl mv Y).length = mv.length := by simp [byM]
  refine ⟨by rw [hl]; exact hv.pos, by rw [hl]; exact hv.few, by rw [hl]; exact hv.pl, by rw [hl]; exact hv.wn, fun l hx => ?_⟩
  rw [hl]
  unfold byM at hx
  obtain ⟨i, hi, rfl⟩ := List.mem_map.1 hx
  have hr := hv.ris _ (List.mem_of_getElem? (hv.at' (i := i) (by simpa using hi)).hm)
  unfold byV
  split
  · exact rise_keep _ 0 0 (Int.le_refl _) hr
  · exact hr

/-- One number of a rising list. -/
theorem keep_one {y below : Int} : ∀ (l : List Int) (lo : Int), rise lo below l = true → keepF (fun k => !decide (k = y)) l = if hasL l y = true then [y] else []
  | [], _, _ => rfl
  | x :: l, lo, h => by
    simp only [rise, Bool.and_eq_true, decide_eq_true_eq] at h
    have ih := keep_one (y := y) l (x + 1) h.2
    unfold keepF at ih ⊢
    rw [List.filter_cons, hasL_cons]
    by_cases e : x = y
    · subst e
      have hno : hasL l x = false := by
        rw [Bool.eq_false_iff]
        intro hh
        have := rise_mem _ _ l h.2 x (hasL_mem hh)
        omega
      rw [hno] at ih
      simp only [Bool.false_eq_true, if_false] at ih
      rw [ih]
      simp
    · have e1 : decide (x = y) = false := by simpa using e
      have e2 : decide (y = x) = false := by simpa using fun h => e h.symm
      simp only [e1, e2, Bool.not_false, Bool.not_true, Bool.false_eq_true, if_false, Bool.false_or]
      simpa using ih

theorem rise_len {below : Int} : ∀ (l : List Int) (lo : Int), rise lo below l = true → lo ≤ below → (l.length : Int) ≤ below - lo
  | [], _, _, _ => by simp; omega
  | x :: l, lo, h, hb => by
    simp only [rise, Bool.and_eq_true, decide_eq_true_eq] at h
    have := rise_len l (x + 1) h.2 (by omega)
    simp only [List.length_cons]
    omega

def midG {α : Type} (v u : Nat → α) (n i : Nat) : List α := (List.range n).map fun j => if j < i then v j else u j
theorem midG_len {α : Type} {v u : Nat → α} {n i : Nat} : (midG v u n i).length = n := by simp [midG]
theorem midG_n {α : Type} {v u : Nat → α} {n : Nat} : midG v u n n = (List.range n).map v := by
  unfold midG
  refine List.map_congr_left fun i hi => ?_
  rw [if_pos (by simpa using hi)]
theorem midG_0 {α : Type} {v u : Nat → α} {n : Nat} : midG v u n 0 = (List.range n).map u := by
  unfold midG
  simp only [Nat.not_lt_zero, if_false]
theorem midG_succ {α : Type} {v u : Nat → α} {n i : Nat} : (midG v u n i).set i (v i) = midG v u n (i + 1) := by
  apply List.ext_getElem?
  intro j
  by_cases hj : j < n
  · rw [List.getElem?_set]
    unfold midG
    rw [List.getElem?_map, List.getElem?_map, List.getElem?_range hj]
    simp only [Option.map_some, List.length_map, List.length_range]
    by_cases e : i = j
    · subst e; simp [hj]
    · rw [if_neg e]
      congr 1
      by_cases h : j < i
      · rw [if_pos h, if_pos (by omega)]
      · rw [if_neg h, if_neg (by omega)]
  · rw [List.getElem?_eq_none (by rw [List.length_set, midG_len]; omega), List.getElem?_eq_none (by rw [midG_len]; omega)]
theorem midG_same {α : Type} {v u : Nat → α} {n i : Nat} (hi : i < n) (h : v i = u i) : midG v u n i = midG v u n (i + 1) := by
  rw [← midG_succ, h]
  have hl : i < (midG v u n i).length := by rw [midG_len]; exact hi
  have e : (midG v u n i)[i] = u i := by simp [midG]
  rw [← e]
  exact (List.set_getElem_self hl).symm
theorem range_getD {α : Type} {d : α} {l : List α} : (List.range l.length).map (fun i => l.getD i d) = l := by
  apply List.ext_getElem?
  intro i
  by_cases hi : i < l.length
  · rw [List.getElem?_map, List.getElem?_range hi, Option.map_some, List.getD_eq_getElem?_getD, List.getElem?_eq_getElem hi]; rfl
  · rw [List.getElem?_eq_none (by simp; omega), List.getElem?_eq_none (by omega)]
theorem splice_rowG {α : Type} {e : α → SV} {F : List α} {i : Nat} {x : α} (hi : i < F.length) : splice (F.map e) i [e x] = (F.set i x).map e := by
  rw [splice_set (by simpa using hi), List.map_set]

theorem k76 {y k : Int} : Asks 76 [] [.ptr [.int .i64 y]] (.int .i64 k) (!decide (k = y)) := by
  refine fn_of_row okf76 ?_
  simp only [FRow.start, f76, c76r0, c76r1, go_sem, ↓reduceIte, reduceCtorEq, Nat.reduceAdd, Nat.reduceSub, Nat.reduceLT, Nat.reduceLeDiff]

theorem k74e {g : FuncId} {first caps : List SV} (hg : Ok1 g first caps) : E.Fn Try.prog 74 [.slice [], .fn g first caps] [.slice []] := by
  refine fn_of_row okf74 ?_
  simp only [FRow.start, f74, c74r0, c74r1, go_sem, ↓reduceIte, reduceCtorEq, Nat.reduceAdd, Nat.reduceSub, Nat.reduceLT, Nat.reduceLeDiff]
  refine callK_of rfl (k92 (xs := []) (p := fun _ => false) (g := g) (first := first) (caps := caps) hg (by simp)) (.inl rfl) ?_
  simp only [c74r2, idx, c74r3, go_sem, ↓reduceIte, reduceCtorEq, Nat.reduceAdd, Nat.reduceSub, Nat.reduceLT, Nat.reduceLeDiff]

def beatsR (pl : List Bool) (mv : List (List Int)) (wn : List Bool) (Y : List Int) (x : Int) : List SV :=
  if wayR pl mv wn true Y ≠ 0 then [.bool false, .int .i64 (wayR pl mv wn true Y)] else if inN mv.length x = false then [.bool false, .int .i64 2]
  else [.bool (decide (0 ≤ getI (distW pl (byM pl mv Y) wn) x)), .int .i64 0]

theorem k37 {pl wn : List Bool} {mv : List (List Int)} {Y : List Int} {x : Int} : E.Fn Try.prog 37 [mach pl mv wn, ints Y, .int .i64 x] (beatsR pl mv wn Y x) := by
  refine fn_of_row okf37 ?_
  unfold beatsR
  simp only [FRow.start, f37, c37r0, c37r1, mach, bools, ints, ldOK, ldOB, go_sem, ↓reduceIte, reduceCtorEq, Nat.reduceAdd, Nat.reduceSub, Nat.reduceLT, Nat.reduceLeDiff]
  refine callK_of rfl (k33 (pl := pl) (mv := mv) (wn := wn) (p := true) (Y := Y)) (.inl rfl) ?_
  by_cases h1 : wayR pl mv wn true Y = 0
  · rw [if_neg (by simpa using h1)]
    obtain ⟨hv, hy⟩ := wayR_ok h1
    have h14 := hv.few
    have hpos := hv.pos
    have hyl := hy.len
    have hocm : ∀ y ∈ mv.map ints, y.cells.length = 1 := by
      intro y hy
      obtain ⟨x, _, rfl⟩ := List.mem_map.1 hy
      rfl
    have hmne : mv.map ints ≠ [] := fun e => by have := congrArg List.length e; rw [List.length_map] at this; simp only [List.length_nil] at this; omega
    have hfl : flatE (mv.map ints) = mv.map ints := flatE_one_each (fun _ => rfl) mv
    simp only [c37r2, h1, c37r4, ldOK, ldOB, go_sem, ↓reduceIte, reduceCtorEq, Nat.reduceAdd, Nat.reduceSub, Nat.reduceLT, Nat.reduceLeDiff]
    refine ⟨_, _, k73 (xs := mv) (by omega), rfl, by decide, hocm, rfl, ?_⟩
    rw [if_neg hmne]
    have hvd : ∀ i : Nat, byV pl mv Y i = if pl.getD i false = true then keepF (fun k => !decide (k = getI Y i)) (mv.getD i []) else mv.getD i [] := fun i => rfl
    have hbM : byM pl mv Y = (List.range mv.length).map (byV pl mv Y) := rfl
    rw [hbM]
    generalize byV pl mv Y = v at *
    simp only [hfl, c37r5, splice, go_sem, ↓reduceIte, reduceCtorEq, Nat.reduceAdd, Nat.reduceSub, Nat.reduceLT, Nat.reduceLeDiff]
    intro _
    refine loop_rule (fun n τ => ∃ i : Nat, n = mv.length - i ∧ i ≤ mv.length ∧
      τ = ⟨[.any, .any, .s (.int .i64 x), .s (.ptr [.slice (pl.map .bool), .slice (mv.map ints), .slice (wn.map .bool)]), .any, .any, .any, .any, .any, .loc 1 0, .any, .any, .any, .any, .any, .any, .any, .any, .any, .any, .any, .any, .any, .any, .any, .any, .any, .any, .s (.slice (Y.map (.int .i64))), .s (.int .i64 Y.length), .s (.int .i64 i), .any, .any, .any, .any, .any, .any, .any, .any, .any, .any, .any, .any, .any, .any, .any, .any, .any, .any, .any, .any, .any, .any, .any, .any, .any, .any, .any, .any, .any, .any, .any, .any, .any, .any, .any, .any, .any, .any, .any], [.row ((midG v (fun i => mv.getD i []) mv.length i).map ints), .obj [.s (.slice (pl.map .bool)), .sl 0 0 mv.length 1 false, .s (.slice (wn.map .bool))]]⟩) mv.length rfl ?_ ?_
    · simp only [c37l11m, go_sem, ↓reduceIte, reduceCtorEq, Nat.reduceAdd, Nat.reduceSub, Nat.reduceLT, Nat.reduceLeDiff]
      exact ⟨0, rfl, Nat.zero_le _, by rw [midG_0, range_getD]; simp⟩
    · rintro I n τ ⟨i, rfl, hi, rfl⟩ hI
      have hml := midG_len (v := v) (u := fun i => mv.getD i []) (n := mv.length) (i := i)
      have hms := midG_succ (v := v) (u := fun i => mv.getD i []) (n := mv.length) (i := i)
      have hsame := fun h1 h2 => midG_same (v := v) (u := fun i => mv.getD i []) (n := mv.length) (i := i) h1 h2
      have hmn := midG_n (v := v) (u := fun i => mv.getD i []) (n := mv.length)
      generalize hM : midG v (fun i => mv.getD i []) mv.length i = M at *
      simp only [c37l11, c37r6, go_sem, ↓reduceIte, reduceCtorEq, Nat.reduceAdd, Nat.reduceSub, Nat.reduceLT, Nat.reduceLeDiff]
      refine ⟨fun hlt => ?_, fun hge => ?_⟩
      · have hlt' : i < mv.length := by omega
        obtain ⟨hm, hp, hw, hm2, hp2, hw2, hins⟩ := hv.at' hlt'
        have hx := getI_nat (W := Y) (i := i) (by omega)
        have hris := hv.ris _ (List.mem_of_getElem? hm)
        have hrl := rise_len _ 0 hris (by omega)
        have hvi := hvd i
        have goOn : ∀ y, v i = y → I ⟨[.any, .any, .s (.int .i64 x), .s (.ptr [.slice (pl.map .bool), .slice (mv.map ints), .slice (wn.map .bool)]), .any, .any, .any, .any, .any, .loc 1 0, .any, .any, .any, .any, .any, .any, .any, .any, .any, .any, .any, .any, .any, .any, .any, .any, .any, .any, .s (.slice (Y.map (.int .i64))), .s (.int .i64 Y.length), .s (.int .i64 (i + 1)), .any, .any, .any, .any, .any, .any, .any, .any, .any, .any, .any, .any, .any, .any, .any, .any, .any, .any, .any, .any, .any, .any, .any, .any, .any, .any, .any, .any, .any, .any, .any, .any, .any, .any, .any, .any, .any, .any, .any], [.row ((M.set i y).map ints), .obj [.s (.slice (pl.map .bool)), .sl 0 0 mv.length 1 false, .s (.slice (wn.map .bool))]]⟩ := fun y hy => by
          subst hy
          exact hI (mv.length - (i + 1)) _ (by omega) ⟨i + 1, rfl, by omega, by rw [hms]; simp⟩
        have goSame : v i = mv.getD i [] → I ⟨[.any, .any, .s (.int .i64 x), .s (.ptr [.slice (pl.map .bool), .slice (mv.map ints), .slice (wn.map .bool)]), .any, .any, .any, .any, .any, .loc 1 0, .any, .any, .any, .any, .any, .any, .any, .any, .any, .any, .any, .any, .any, .any, .any, .any, .any, .any, .s (.slice (Y.map (.int .i64))), .s (.int .i64 Y.length), .s (.int .i64 (i + 1)), .any, .any, .any, .any, .any, .any, .any, .any, .any, .any, .any, .any, .any, .any, .any, .any, .any, .any, .any, .any, .any, .any, .any, .any, .any, .any, .any, .any, .any, .any, .any, .any, .any, .any, .any, .any, .any, .any, .any], [.row (M.map ints), .obj [.s (.slice (pl.map .bool)), .sl 0 0 mv.length 1 false, .s (.slice (wn.map .bool))]]⟩ := fun hy =>
          hI (mv.length - (i + 1)) _ (by omega) ⟨i + 1, rfl, by omega, by rw [hsame hlt' hy]; simp⟩
        generalize mv.getD i [] = l at *
        generalize pl.getD i false = b at *
        cases b with
        | false =>
          rw [if_neg (by simp)] at hvi
          simp only [c37r7, hx, splice, c37r8, ldOK, ldOB, hp, hp2, c37r10, c37l11m, go_sem, ↓reduceIte, reduceCtorEq, Nat.reduceAdd, Nat.reduceSub, Nat.reduceLT, Nat.reduceLeDiff]
          exact ⟨inR_i64 (by omega) (by omega), goSame hvi⟩
        | true =>
          rw [if_pos rfl] at hvi
          simp only [c37r7, hx, splice, c37r8, ldOK, ldOB, hp, hp2, c37r9, hm, hm2, ints, go_sem, ↓reduceIte, reduceCtorEq, Nat.reduceAdd, Nat.reduceSub, Nat.reduceLT, Nat.reduceLeDiff]
          refine ⟨_, _, k75 (xs := l) (by omega), rfl, by decide, one_cells, rfl, ?_⟩
          by_cases hl0 : l.map (SV.int .i64) = []
          · rw [if_pos hl0]
            have hl0' : l = [] := by simpa using hl0
            subst hl0'
            simp only [callFK, go_sem, ↓reduceIte, reduceCtorEq, Nat.reduceAdd, Nat.reduceSub, Nat.reduceLT, Nat.reduceLeDiff]
            refine callK_of (by simp only [go_sem, ↓reduceIte, reduceCtorEq, Nat.reduceAdd, Nat.reduceSub, Nat.reduceLT, Nat.reduceLeDiff]) (k74e (g := 76) (first := []) (caps := [.ptr [.int .i64 (getI Y i)]]) ⟨tbl_fn 76 rfl, rfl⟩) (.inl rfl) ?_
            have hsp : splice (M.map ints) i [SV.slice []] = (M.set i []).map ints := splice_rowG (e := ints) (x := []) (by omega)
            simp only [Nat.mul_one, Nat.zero_add, stRK, stRB, go_sem, ↓reduceIte, reduceCtorEq, Nat.reduceAdd, Nat.reduceSub, Nat.reduceLT, Nat.reduceLeDiff]
            refine ⟨by omega, by omega, ?_⟩
            rw [hsp]
            simp only [c37r10, c37l11m, go_sem, ↓reduceIte, reduceCtorEq, Nat.reduceAdd, Nat.reduceSub, Nat.reduceLT, Nat.reduceLeDiff]
            exact ⟨inR_i64 (by omega) (by omega), goOn _ (by rw [hvi]; rfl)⟩
          · rw [if_neg hl0]
            have hk := k74 (g := 76) (first := []) (caps := [.ptr [.int .i64 (getI Y i)]]) (xs := l) (q := fun k => !decide (k = getI Y i)) ⟨tbl_fn 76 rfl, rfl⟩ (fun x _ => k76) (by omega)
            rw [← hvi] at hk
            have hvl : (v i).length ≤ l.length := by rw [hvi]; exact List.length_filter_le _ _
            generalize hvv : v i = vi at *
            have hro : rowOf 0 vi.length 1 ((vi ++ List.replicate (l.length - vi.length) 0).map (SV.int .i64)) = some (vi.map (SV.int .i64)) := by
              unfold rowOf
              rw [if_pos (by simp)]
              simp [elems]
            have hfl1 : ((vi ++ List.replicate (l.length - vi.length) 0).map (SV.int .i64)).all SV.flat1 = true := by
              rw [List.all_eq_true]
              intro y hy
              obtain ⟨z, _, rfl⟩ := List.mem_map.1 hy
              rfl
            have hsp : splice (M.map ints) i [SV.slice (vi.map (SV.int .i64))] = (M.set i vi).map ints := splice_rowG (e := ints) (x := vi) (by omega)
            simp only [flatE_ints, callFK, callFB, go_sem, ↓reduceIte, reduceCtorEq, Nat.reduceAdd, Nat.reduceSub, Nat.reduceLT, Nat.reduceLeDiff]
            refine ⟨_, _, _, _, _, _, rfl, hk, hro, hfl1, by omega, ?_⟩
            simp only [Nat.mul_one, Nat.zero_add, stRK, stRB, go_sem, ↓reduceIte, reduceCtorEq, Nat.reduceAdd, Nat.reduceSub, Nat.reduceLT, Nat.reduceLeDiff]
            refine ⟨by omega, ?_⟩
            rw [hsp]
            simp only [c37r10, c37l11m, go_sem, ↓reduceIte, reduceCtorEq, Nat.reduceAdd, Nat.reduceSub, Nat.reduceLT, Nat.reduceLeDiff]
            exact ⟨inR_i64 (by omega) (by omega), goOn _ rfl⟩
      · have hie : i = mv.length := by omega
        subst hie
        have hMn : M = (List.range mv.length).map v := by rw [← hM, hmn]
        have hro : rowOf 0 mv.length 1 (M.map ints) = some (M.map ints) := rowOf_all (by rw [List.length_map, hml])
        have hv2 := byM_valid (Y := Y) hv
        rw [hbM, ← hMn] at hv2
        rw [← hMn]
        have hM14 : M.length ≤ 14 := by omega
        refine ⟨_, hro, ?_⟩
        simp only [c37r12, ldOK, ldOB, go_sem, ↓reduceIte, reduceCtorEq, Nat.reduceAdd, Nat.reduceSub, Nat.reduceLT, Nat.reduceLeDiff]
        refine ⟨by decide, by decide, rfl, one1, ?_⟩
        cases hx : inN mv.length x with
        | false =>
          refine callK_of rfl (k58p (mv := M) (ps := [x]) hv2 (by rw [inAll_one, hml, hx])) (.inl rfl) ?_
          simp only [c37r13, two_ne, c37r14, go_sem, ↓reduceIte, reduceCtorEq, Nat.reduceAdd, Nat.reduceSub, Nat.reduceLT, Nat.reduceLeDiff]
        | true =>
          have hx' := hx
          simp only [inN, Bool.and_eq_true, decide_eq_true_eq] at hx'
          have hdl := distW_len hv2
          have hpl := pad_len (W := distW pl M wn) (by omega)
          have hg := getI_get (W := pad (distW pl M wn)) (x := x) hx'.1 (by omega)
          rw [getI_pad] at hg
          have hile : x.toNat ≤ (pad (distW pl M wn)).length := by omega
          have hsel : (List.drop x.toNat (List.map (SV.int .i64) (pad (distW pl M wn))))[0]? = some (.int .i64 (getI (distW pl M wn) x)) := by
            rw [List.getElem?_drop, Nat.add_zero, List.getElem?_map, hg]; rfl
          refine callK_of rfl (k58 (mv := M) (ps := [x]) hv2 (by rw [inAll_one, hml, hx])) (.inr rfl) ?_
          simp only [c37r13, boardV, c37r15, Nat.mul_one, ldOK, ldOB, go_sem, ↓reduceIte, reduceCtorEq, Nat.reduceAdd, Nat.reduceSub, Nat.reduceLT, Nat.reduceLeDiff]
          refine ⟨hx'.1, by omega, hile, ?_⟩
          simp only [hsel, Bool.true_eq_false, go_sem, ↓reduceIte, reduceCtorEq, Nat.reduceAdd, Nat.reduceSub, Nat.reduceLT, Nat.reduceLeDiff]
  · rw [if_pos h1]
    simp only [c37r2, h1, c37r3, go_sem, ↓reduceIte, reduceCtorEq, Nat.reduceAdd, Nat.reduceSub, Nat.reduceLT, Nat.reduceLeDiff]
end Go.Proofs.Ytglmjdpmpgphkaa.Sk
