/- Contracts of functions: what ranks prove, and keeps. -/
import Derived.Test.YtglmjdpmpgphkaaM12

set_option linter.all false

namespace Go.Proofs.Ytglmjdpmpgphkaa.Sk
open Go Go.E Go.E.Sm
set_option maxRecDepth 10000

def hasL (l : List Int) (n : Int) : Bool := l.any fun x => decide (n = x)

theorem hasL_cons (x : Int) (l : List Int) (v : Int) : hasL (x :: l) v = (decide (v = x) || hasL l v) := rfl

theorem k88 {xs : List Int} {v : Int} : E.Fn Try.prog 88 [ints xs, .int .i64 v] [.int .i64 (idx (fun x => decide (v = x)) xs 0)] := by
  refine fn_of_row okf88 ?_
  simp only [FRow.start, f88, c88r0, c88r1, ints, go_sem, ↓reduceIte, reduceCtorEq, Nat.reduceAdd, Nat.reduceSub, Nat.reduceLT, Nat.reduceLeDiff]
  intro hlen
  have hlen' : (xs.length : Int) ≤ 2 ^ 63 - 1 := Int.le_trans (Int.ofNat_le.mpr hlen) maxLen_le
  generalize hp : (fun x => decide (v = x)) = p
  have hp' : ∀ x, p x = decide (v = x) := fun x => by rw [← hp]
  refine loop_rule (fun n τ => ∃ i : Nat, n = xs.length - i ∧ i ≤ xs.length ∧ idx p xs 0 = idx p (xs.drop i) i ∧
    τ = ⟨[.s (.slice (xs.map (.int .i64))), .s (.int .i64 v), .any, .any, .any, .any, .any, .s (.int .i64 xs.length), .s (.int .i64 i), .any, .any, .any, .any, .any, .any, .any, .any, .any, .any], []⟩) xs.length rfl ?_ ?_
  · simp only [c88l7m, go_sem, ↓reduceIte, reduceCtorEq, Nat.reduceAdd, Nat.reduceSub, Nat.reduceLT, Nat.reduceLeDiff]
    exact ⟨0, rfl, Nat.zero_le _, rfl, rfl⟩
  · rintro I n τ ⟨i, rfl, hi, hidx, rfl⟩ hI
    simp only [c88l7, c88r2, c88r3, go_sem, ↓reduceIte, reduceCtorEq, Nat.reduceAdd, Nat.reduceSub, Nat.reduceLT, Nat.reduceLeDiff]
    refine ⟨fun hlt => ?_, fun hge => ?_⟩
    · have hx : xs[i]? = some xs[i] := List.getElem?_eq_getElem hlt
      have hdrop : xs.drop i = xs[i] :: xs.drop (i + 1) := List.drop_eq_getElem_cons hlt
      rw [hdrop, idx, hp'] at hidx
      generalize xs[i] = x at *
      simp only [c88r4, hx, hlt, go_sem, ↓reduceIte, reduceCtorEq, Nat.reduceAdd, Nat.reduceSub, Nat.reduceLT, Nat.reduceLeDiff]
      refine ⟨fun he => ?_, fun he => ?_⟩
      · rw [if_pos (by simpa using he)] at hidx
        simp only [c88r5, hidx, go_sem, ↓reduceIte, reduceCtorEq, Nat.reduceAdd, Nat.reduceSub, Nat.reduceLT, Nat.reduceLeDiff]
      · rw [if_neg (by simpa using he)] at hidx
        simp only [c88r6, c88l7m, go_sem, ↓reduceIte, reduceCtorEq, Nat.reduceAdd, Nat.reduceSub, Nat.reduceLT, Nat.reduceLeDiff]
        exact ⟨inR_i64 (by omega) (by omega), hI (xs.length - (i + 1)) _ (by omega) ⟨i + 1, rfl, by omega, by rw [hidx]; simp, by simp⟩⟩
    · have hie : i = xs.length := by omega
      subst hie
      simp only [List.drop_length, idx] at hidx
      simp only [c88r8, hidx, go_sem, ↓reduceIte, reduceCtorEq, Nat.reduceAdd, Nat.reduceSub, Nat.reduceLT, Nat.reduceLeDiff]

theorem k69 {xs : List Int} {v : Int} : E.Fn Try.prog 69 [ints xs, .int .i64 v] [.bool (hasL xs v)] := by
  refine fn_of_row okf69 ?_
  simp only [FRow.start, f69, c69r0, c69r1, go_sem, ↓reduceIte, reduceCtorEq, Nat.reduceAdd, Nat.reduceSub, Nat.reduceLT, Nat.reduceLeDiff]
  refine callK_of rfl k88 (.inl rfl) ?_
  simp only [go_sem, ↓reduceIte, reduceCtorEq, Nat.reduceAdd, Nat.reduceSub, Nat.reduceLT, Nat.reduceLeDiff]
  have := idx_ge (fun x => decide (v = x)) xs 0
  unfold hasL
  cases h : xs.any (fun x => decide (v = x)) <;> simp_all

theorem k49 {xs : List Int} {v : Int} : E.Fn Try.prog 49 [ints xs, .int .i64 v] [.bool (hasL xs v)] := by
  refine fn_of_row okf49 ?_
  simp only [FRow.start, f49, c49r0, c49r1, ints, go_sem, ↓reduceIte, reduceCtorEq, Nat.reduceAdd, Nat.reduceSub, Nat.reduceLT, Nat.reduceLeDiff]
  refine loop_rule (fun n τ => ∃ i : Nat, n = xs.length - i ∧ i ≤ xs.length ∧ hasL xs v = hasL (xs.drop i) v ∧
    τ = ⟨[.s (.slice (xs.map (.int .i64))), .s (.int .i64 v), .any, .any, .any, .s (.int .i64 i), .any, .any, .any, .any, .any, .any, .any, .any, .any, .any, .any, .any], []⟩) xs.length rfl ?_ ?_
  · simp only [c49l6m, go_sem, ↓reduceIte, reduceCtorEq, Nat.reduceAdd, Nat.reduceSub, Nat.reduceLT, Nat.reduceLeDiff]
    exact ⟨0, rfl, Nat.zero_le _, rfl, rfl⟩
  · rintro I n τ ⟨i, rfl, hi, hr, rfl⟩ hI
    simp only [c49l6, c49r2, go_sem, ↓reduceIte, reduceCtorEq, Nat.reduceAdd, Nat.reduceSub, Nat.reduceLT, Nat.reduceLeDiff]
    intro hlen
    have hlen' : (xs.length : Int) ≤ 2 ^ 63 - 1 := Int.le_trans (Int.ofNat_le.mpr hlen) maxLen_le
    refine ⟨fun hlt => ?_, fun hge => ?_⟩
    · have hx : xs[i]? = some xs[i] := List.getElem?_eq_getElem hlt
      have hdrop : xs.drop i = xs[i] :: xs.drop (i + 1) := List.drop_eq_getElem_cons hlt
      rw [hdrop, hasL_cons] at hr
      generalize xs[i] = x at *
      simp only [c49r3, hx, hlt, go_sem, ↓reduceIte, reduceCtorEq, Nat.reduceAdd, Nat.reduceSub, Nat.reduceLT, Nat.reduceLeDiff]
      refine ⟨fun he => ?_, fun he => ?_⟩
      · have : hasL xs v = true := by rw [hr]; simp [he]
        simp only [c49r4, this, go_sem, ↓reduceIte, reduceCtorEq, Nat.reduceAdd, Nat.reduceSub, Nat.reduceLT, Nat.reduceLeDiff]
      · have hne : decide (v = x) = false := by simpa using fun h => he (Eq.symm h)
        have : hasL xs v = hasL (xs.drop (i + 1)) v := by rw [hr, hne, Bool.false_or]
        simp only [c49r5, c49l6m, go_sem, ↓reduceIte, reduceCtorEq, Nat.reduceAdd, Nat.reduceSub, Nat.reduceLT, Nat.reduceLeDiff]
        exact ⟨inR_i64 (by omega) (by omega), hI (xs.length - (i + 1)) _ (by omega) ⟨i + 1, rfl, by omega, this, by simp⟩⟩
    · have hie : i = xs.length := by omega
      subst hie
      simp only [List.drop_length, hasL, List.any_nil] at hr
      have : hasL xs v = false := hr
      simp only [c49r7, this, go_sem, ↓reduceIte, reduceCtorEq, Nat.reduceAdd, Nat.reduceSub, Nat.reduceLT, Nat.reduceLeDiff]

theorem k68 {keep : List Int} {k : Int} : Asks 68 [] [.ptr [ints keep]] (.int .i64 k) (!hasL keep k) := by
  refine fn_of_row okf68 ?_
  simp only [FRow.start, f68, c68r0, c68r1, ints, go_sem, ↓reduceIte, reduceCtorEq, Nat.reduceAdd, Nat.reduceSub, Nat.reduceLT, Nat.reduceLeDiff]
  refine callK_of rfl (k69 (xs := keep)) (.inl rfl) ?_
  simp only [go_sem, ↓reduceIte, reduceCtorEq, Nat.reduceAdd, Nat.reduceSub, Nat.reduceLT, Nat.reduceLeDiff]

def lessB (R : List Int) (rank to : Int) : Bool := decide (0 ≤ getI R to) && decide (getI R to < rank)

theorem k65 {R : List Int} {rank to : Int} (h0 : 0 ≤ to) (h1 : to < R.length) (h2 : -1 ≤ rank) (h3 : rank ≤ 2 ^ 62) : Asks 65 [] [.ptr [.int .i64 rank], .ptr [ints R]] (.int .i64 to) (lessB R rank to) := by
  refine fn_of_row okf65 ?_
  have hx := getI_get (W := R) h0 h1
  have hl : to.toNat < R.length := by omega
  simp only [FRow.start, f65, c65r0, c65r1, ints, hx, hl, go_sem, ↓reduceIte, reduceCtorEq, Nat.reduceAdd, Nat.reduceSub, Nat.reduceLT, Nat.reduceLeDiff]
  refine ⟨inR_i64 (by omega) (by omega), h0, by decide, by decide, rfl, by simp [SV.cells], callK_of rfl (k60 (l := [getI R to])) (.inl rfl) ?_⟩
  simp only [inAll, lessB, go_sem, ↓reduceIte, reduceCtorEq, Nat.reduceAdd, Nat.reduceSub, Nat.reduceLT, Nat.reduceLeDiff]
  by_cases h : getI R to < rank
  · have : getI R to ≤ rank - 1 := by omega
    simp [h, this]
  · have : ¬ getI R to ≤ rank - 1 := by omega
    simp [h, this]

theorem k67 {R : List Int} {rank to : Int} (h0 : 0 ≤ to) (h1 : to < R.length) : E.Fn Try.prog 67 [ints R, .int .i64 to, .int .i64 rank] [.bool (lessB R rank to)] := by
  refine fn_of_row okf67 ?_
  have hx := getI_get (W := R) h0 h1
  have hl : to.toNat < R.length := by omega
  simp only [FRow.start, f67, c67r0, c67r1, ints, hx, hl, lessB, go_sem, ↓reduceIte, reduceCtorEq, Nat.reduceAdd, Nat.reduceSub, Nat.reduceLT, Nat.reduceLeDiff]
  refine ⟨h0, fun h => ?_, fun h => ?_⟩
  · refine ⟨h0, ?_⟩
    simp [h]
  · simp [h]

/-- What is found wrong with ranks at a position. -/
def rankOk (pl : List Bool) (mv : List (List Int)) (wn : List Bool) (R : List Int) (i : Nat) : Bool :=
  (decide (getI R i = 0) == wn.getD i false) && (decide (getI R i ≤ 0) || wins1 (pl.getD i false) (mv.getD i []) (lessB R (getI R i)))
def outP (q : Int → Bool) (i : Nat) : List Int := ((List.range i).map fun j : Nat => (j : Int)).filter q
def ranksR (pl : List Bool) (mv : List (List Int)) (wn : List Bool) (R : List Int) : List SV :=
  if chkM pl mv wn ≠ 0 then [.slice [], .int .i64 (chkM pl mv wn)]
  else if R.length ≠ mv.length then [.slice [], .int .i64 15]
  else if inAll (-1) 14 R = false then [.slice [], .int .i64 3]
  else if (List.range mv.length).all (rankOk pl mv wn R) = true then [ints (outP (fun i => decide (0 ≤ getI R i)) mv.length), .int .i64 0] else [.slice [], .int .i64 14]

theorem outP_succ (q : Int → Bool) (i : Nat) : outP q (i + 1) = if q i = true then outP q i ++ [(i : Int)] else outP q i := by
  unfold outP
  rw [List.range_succ, List.map_append, List.filter_append]
  simp only [List.map_cons, List.map_nil, List.filter_cons, List.filter_nil]
  split <;> simp
theorem outP_len (q : Int → Bool) (i : Nat) : (outP q i).length ≤ i := by
  unfold outP
  refine Nat.le_trans (List.length_filter_le _ _) (by simp)

theorem one1 {x : Int} : ∀ e ∈ [SV.int .i64 x], e.cells.length = 1 := by simp [SV.cells]
theorem app_map {O : List Int} {x : Int} : O.map (SV.int .i64) ++ flatE [SV.int .i64 x] = (O ++ [x]).map (SV.int .i64) := by simp [flatE, SV.cells]

theorem k23 {pl wn : List Bool} {mv : List (List Int)} {R : List Int} : E.Fn Try.prog 23 [mach pl mv wn, ints R] (ranksR pl mv wn R) := by
  refine fn_of_row okf23 ?_
  unfold ranksR
  by_cases h : chkM pl mv wn = 0
  · have hv := valid_of h
    have h1 := hv.few
    have h2 := hv.pos
    rw [if_neg (by simpa using h)]
    simp only [FRow.start, f23, c23r0, c23r1, mach, bools, h, ints, go_sem, ↓reduceIte, reduceCtorEq, Nat.reduceAdd, Nat.reduceSub, Nat.reduceLT, Nat.reduceLeDiff]
    refine callK_of rfl (k58 (ps := []) hv rfl) (.inr rfl) ?_
    simp only [c23r2, boardV, c23r4, Int.natCast_inj, go_sem, ↓reduceIte, reduceCtorEq, Nat.reduceAdd, Nat.reduceSub, Nat.reduceLT, Nat.reduceLeDiff]
    intro _
    refine ⟨fun hl => ?_, fun hl => ?_⟩
    · rw [if_neg (by simpa using hl)]
      simp only [c23r6, go_sem, ↓reduceIte, reduceCtorEq, Nat.reduceAdd, Nat.reduceSub, Nat.reduceLT, Nat.reduceLeDiff]
      refine callK_of rfl (k60 (l := R)) (.inl rfl) ?_
      cases hin : inAll (-1) 14 R with
      | false =>
        simp only [c23r7, go_sem, ↓reduceIte, reduceCtorEq, Nat.reduceAdd, Nat.reduceSub, Nat.reduceLT, Nat.reduceLeDiff]
      | true =>
        rw [if_neg (by simp)]
        generalize hq : (fun i => decide (0 ≤ getI R i)) = q
        have hq' : ∀ x, q x = decide (0 ≤ getI R x) := fun x => by rw [← hq]
        simp only [c23r8, c23r9, go_sem, ↓reduceIte, reduceCtorEq, Nat.reduceAdd, Nat.reduceSub, Nat.reduceLT, Nat.reduceLeDiff]
        intro _
        refine loop_rule (fun n τ => ∃ i : Nat, n = mv.length - i ∧ i ≤ mv.length ∧ (List.range i).all (rankOk pl mv wn R) = true ∧
          τ = ⟨[.any, .any, .s (.ptr [.slice (pl.map .bool), .slice (mv.map ints), .slice (wn.map .bool)]), .s (.ptr [.slice (R.map (.int .i64))]), .any, .any, .s (.ptr (bools pl :: .slice (mv.map ints) :: bools wn :: (pad (distW pl mv wn)).map (.int .i64))), .any, .sl 0 0 (outP q i).length 1 false, .any, .any, .any, .any, .any, .any, .any, .any, .any, .any, .any, .any, .any, .any, .any, .any, .any, .any, .any, .any, .any, .any, .any, .s (.slice (R.map (.int .i64))), .s (.int .i64 R.length), .s (.int .i64 i), .any, .any, .any, .any, .any, .any, .any, .any, .any, .any, .any, .any, .any, .any, .any, .any, .any, .any, .any, .any, .any, .any, .any, .any, .any, .any, .any, .any, .any, .any, .any, .any, .any, .any, .any, .any, .any, .any], [.row ((outP q i).map (SV.int .i64))]⟩) mv.length (promo_one rfl) ?_ ?_
        · simp only [c23l20m, go_sem, ↓reduceIte, reduceCtorEq, Nat.reduceAdd, Nat.reduceSub, Nat.reduceLT, Nat.reduceLeDiff]
          exact ⟨0, rfl, Nat.zero_le _, rfl, by simp [outP]⟩
        · rintro I n τ ⟨i, rfl, hi, hall, rfl⟩ hI
          simp only [c23l20, c23r10, go_sem, ↓reduceIte, reduceCtorEq, Nat.reduceAdd, Nat.reduceSub, Nat.reduceLT, Nat.reduceLeDiff]
          refine ⟨fun hlt => ?_, fun hge => ?_⟩
          · have hlt' : i < mv.length := by omega
            have hx : R[i]? = some (getI R i) := by have := getI_get (W := R) (x := i) (by omega) (by omega); rwa [Int.toNat_natCast] at this
            have hw : wn[i]? = some (wn.getD i false) := by have := hv.wn; rw [List.getD_eq_getElem?_getD, List.getElem?_eq_getElem (by omega), Option.getD_some]
            have hi2 : i < wn.length := by have := hv.wn; omega
            have hrk : rankOk pl mv wn R i = ((decide (getI R i = 0) == wn.getD i false) && (decide (getI R i ≤ 0) || wins1 (pl.getD i false) (mv.getD i []) (lessB R (getI R i)))) := rfl
            generalize wn.getD i false = b at *
            have hos := outP_succ q i
            have hol := outP_len q i
            rw [hq'] at hos
            generalize hO : outP q i = O at *
            have hr15 := List.all_eq_true.1 hin (getI R i) (List.mem_of_getElem? hx)
            simp only [Bool.and_eq_true, decide_eq_true_eq] at hr15
            have hall' : rankOk pl mv wn R i = true → (List.range (i + 1)).all (rankOk pl mv wn R) = true := fun h => by rw [List.range_succ, List.all_append, hall]; simp [h]
            have hbad : rankOk pl mv wn R i = false → (List.range mv.length).all (rankOk pl mv wn R) = false := fun h => by
              rw [Bool.eq_false_iff]
              intro h3
              rw [List.all_eq_true] at h3
              have := h3 i (by simpa using hlt')
              rw [h] at this; cases this
            simp only [c23r11, hx, splice, c23r12, c23r13, hw, hi2, go_sem, ↓reduceIte, reduceCtorEq, Nat.reduceAdd, Nat.reduceSub, Nat.reduceLT, Nat.reduceLeDiff]
            refine ⟨fun he => ?_, fun he => ?_⟩
            · have he' : decide (getI R i = 0) = b := by simpa using he
              rw [← he', beq_self_eq_true, Bool.true_and] at hrk
              simp only [c23r15, go_sem, ↓reduceIte, reduceCtorEq, Nat.reduceAdd, Nat.reduceSub, Nat.reduceLT, Nat.reduceLeDiff]
              refine ⟨fun hpos => ?_, fun hpos => ?_⟩
              · have hle : decide (getI R i ≤ 0) = false := by simp; omega
                rw [hle, Bool.false_or] at hrk
                refine callK_of (by simp only [ints, go_sem, ↓reduceIte, reduceCtorEq, Nat.reduceAdd, Nat.reduceSub, Nat.reduceLT, Nat.reduceLeDiff]) (k66 (g := 65) (first := []) (caps := [.ptr [.int .i64 (getI R i)], .ptr [ints R]]) (p := lessB R (getI R i)) (pl := pl) (mv := mv) (i := i) (rest := bools wn :: (pad (distW pl mv wn)).map (SV.int .i64)) ⟨tbl_fn 65 rfl, rfl⟩ hlt' hv.pl fun x hx2 => ?_) (.inl rfl) ?_
                · have hins := hv.ins _ (List.mem_of_getElem? (show mv[i]? = some (mv.getD i []) by rw [List.getD_eq_getElem?_getD, List.getElem?_eq_getElem hlt', Option.getD_some])) x hx2
                  exact k65 hins.1 (by omega) (by omega) (by omega)
                · cases hw1 : wins1 (pl.getD i false) (mv.getD i []) (lessB R (getI R i)) with
                  | false =>
                    have := hbad (by rw [hrk, hw1])
                    simp only [c23r16, this, Bool.false_eq_true, go_sem, ↓reduceIte, reduceCtorEq, Nat.reduceAdd, Nat.reduceSub, Nat.reduceLT, Nat.reduceLeDiff]
                  | true =>
                    rw [if_pos (by simp; omega)] at hos
                    have hge : decide (0 ≤ getI R i) = true := by simp; omega
                    simp only [c23r17, hge, c23r18, go_sem, ↓reduceIte, reduceCtorEq, Nat.reduceAdd, Nat.reduceSub, Nat.reduceLT, Nat.reduceLeDiff]
                    refine ⟨by omega, by decide, by decide, rfl, one1, one1, by omega, by omega, by omega, fun _ => ?_⟩
                    rw [Nat.zero_mul, List.drop_zero, app_map]
                    simp only [c23r19, c23l20m, go_sem, ↓reduceIte, reduceCtorEq, Nat.reduceAdd, Nat.reduceSub, Nat.reduceLT, Nat.reduceLeDiff]
                    exact ⟨inR_i64 (by omega) (by omega), hI (mv.length - (i + 1)) _ (by omega) ⟨i + 1, rfl, by omega, hall' (by rw [hrk, hw1]), by rw [hos]; simp⟩⟩
              · have hle : decide (getI R i ≤ 0) = true := by simp; omega
                rw [hle, Bool.true_or] at hrk
                simp only [c23r17, go_sem, ↓reduceIte, reduceCtorEq, Nat.reduceAdd, Nat.reduceSub, Nat.reduceLT, Nat.reduceLeDiff]
                refine ⟨fun hge => ?_, fun hge => ?_⟩
                · rw [if_pos (by simpa using hge)] at hos
                  simp only [c23r18, go_sem, ↓reduceIte, reduceCtorEq, Nat.reduceAdd, Nat.reduceSub, Nat.reduceLT, Nat.reduceLeDiff]
                  refine ⟨by omega, by decide, by decide, rfl, one1, one1, by omega, by omega, by omega, fun _ => ?_⟩
                  rw [Nat.zero_mul, List.drop_zero, app_map]
                  simp only [c23r19, c23l20m, go_sem, ↓reduceIte, reduceCtorEq, Nat.reduceAdd, Nat.reduceSub, Nat.reduceLT, Nat.reduceLeDiff]
                  exact ⟨inR_i64 (by omega) (by omega), hI (mv.length - (i + 1)) _ (by omega) ⟨i + 1, rfl, by omega, hall' hrk, by rw [hos]; simp⟩⟩
                · rw [if_neg (by simpa using hge)] at hos
                  simp only [c23r19, c23l20m, go_sem, ↓reduceIte, reduceCtorEq, Nat.reduceAdd, Nat.reduceSub, Nat.reduceLT, Nat.reduceLeDiff]
                  exact ⟨inR_i64 (by omega) (by omega), hI (mv.length - (i + 1)) _ (by omega) ⟨i + 1, rfl, by omega, hall' hrk, by rw [hos]; simp⟩⟩
            · have he' : (decide (getI R i = 0) == b) = false := by
                rw [beq_eq_false_iff_ne]
                intro h
                exact he (by rw [h])
              have := hbad (by rw [hrk, he', Bool.false_and])
              simp only [c23r14, this, Bool.false_eq_true, go_sem, ↓reduceIte, reduceCtorEq, Nat.reduceAdd, Nat.reduceSub, Nat.reduceLT, Nat.reduceLeDiff]
          · have hie : i = mv.length := by omega
            subst hie
            rw [if_pos hall]
            have hso : sliceOf 0 (outP q mv.length).length 1 ((outP q mv.length).map (SV.int .i64)) = some (.slice ((outP q mv.length).map (SV.int .i64))) := sliceOf_all (by simp)
            simp only [c23r21, hso, go_sem, ↓reduceIte, reduceCtorEq, Nat.reduceAdd, Nat.reduceSub, Nat.reduceLT, Nat.reduceLeDiff]
    · simp only [c23r5, hl, ne_eq, not_false_eq_true, go_sem, ↓reduceIte, reduceCtorEq, Nat.reduceAdd, Nat.reduceSub, Nat.reduceLT, Nat.reduceLeDiff]
  · rw [if_pos h]
    simp only [FRow.start, f23, c23r0, c23r1, mach, bools, h, ints, go_sem, ↓reduceIte, reduceCtorEq, Nat.reduceAdd, Nat.reduceSub, Nat.reduceLT, Nat.reduceLeDiff]
    refine callK_of rfl (k58e (ps := []) h) (.inl rfl) ?_
    simp only [c23r2, h, c23r3, go_sem, ↓reduceIte, reduceCtorEq, Nat.reduceAdd, Nat.reduceSub, Nat.reduceLT, Nat.reduceLeDiff]
end Go.Proofs.Ytglmjdpmpgphkaa.Sk

/- Contracts of functions: ways of playing. -/
namespace Go.Proofs.Ytglmjdpmpgphkaa.Sk
open Go Go.E Go.E.Sm
set_option maxRecDepth 10000

def wayOk (pl : List Bool) (mv : List (List Int)) (wn : List Bool) (p : Bool) (Y : List Int) (i : Nat) : Bool :=
  decide (getI Y i = -1) || (!wn.getD i false && (pl.getD i false == p) && hasL (mv.getD i []) (getI Y i))
def wayR (pl : List Bool) (mv : List (List Int)) (wn : List Bool) (p : Bool) (Y : List Int) : Int :=
  if chkM pl mv wn ≠ 0 then chkM pl mv wn else if Y.length ≠ mv.length then 15 else if (List.range mv.length).all (wayOk pl mv wn p Y) = true then 0 else 16

theorem all_succ {q : Nat → Bool} {i : Nat} (h : (List.range i).all q = true) (h2 : q i = true) : (List.range (i + 1)).all q = true := by
  rw [List.range_succ, List.all_append, h]; simp [h2]
theorem all_not {q : Nat → Bool} {i n : Nat} (h : i < n) (h2 : q i = false) : (List.range n).all q = false := by
  rw [Bool.eq_false_iff]
  intro h3
  rw [List.all_eq_true] at h3
  have := h3 i (by simpa using h)
  rw [h2] at this; cases this

/-- What is known of a position of a valid machine. -/
structure At (pl : List Bool) (mv : List (List Int)) (wn : List Bool) (i : Nat) : Prop where
  hm : mv[i]? = some (mv.getD i [])
  hp : pl[i]? = some (pl.getD i false)
  hw : wn[i]? = some (wn.getD i false)
  m2 : i < mv.length
  p2 : i < pl.length
  w2 : i < wn.length
  ins : inside mv.length (mv.getD i [])
theorem Valid.at' {pl wn : List Bool} {mv : List (List Int)} (hv : Valid pl mv wn) {i : Nat} (hi : i < mv.length) : At pl mv wn i := by
  have hp := hv.pl
  have hw := hv.wn
  have e : mv[i]? = some (mv.getD i []) := by rw [List.getD_eq_getElem?_getD, List.getElem?_eq_getElem hi, Option.getD_some]
  exact ⟨e, by rw [List.getD_eq_getElem?_getD, List.getElem?_eq_getElem (by omega), Option.getD_some], by rw [List.getD_eq_getElem?_getD, List.getElem?_eq_getElem (by omega), Option.getD_some], hi, by omega, by omega, hv.ins _ (List.mem_of_getElem? e)⟩
theorem getI_nat {W : List Int} {i : Nat} (h : i < W.length) : W[i]? = some (getI W i) := by
  have := getI_get (W := W) (x := i) (by omega) (by omega)
  rwa [Int.toNat_natCast] at this

theorem k33 {pl wn : List Bool} {mv : List (List Int)} {p : Bool} {Y : List Int} : E.Fn Try.prog 33 [mach pl mv wn, .bool p, ints Y] [.int .i64 (wayR pl mv wn p Y)] := by
  refine fn_of_row okf33 ?_
  unfold wayR
  simp only [FRow.start, f33, c33r0, c33r1, mach, bools, ints, go_sem, ↓reduceIte, reduceCtorEq, Nat.reduceAdd, Nat.reduceSub, Nat.reduceLT, Nat.reduceLeDiff]
  refine callK_of rfl (k20 (pl := pl) (mv := mv) (wn := wn)) (.inl rfl) ?_
  by_cases h : chkM pl mv wn = 0
  · have hv := valid_of h
    have h1 := hv.few
    rw [if_neg (by simpa using h)]
    simp only [h, c33r2, c33r4, Int.natCast_inj, go_sem, ↓reduceIte, reduceCtorEq, Nat.reduceAdd, Nat.reduceSub, Nat.reduceLT, Nat.reduceLeDiff]
    intro _
    refine ⟨fun hl => ?_, fun hl => ?_⟩
    · rw [if_neg (by simpa using hl)]
      simp only [c33r6, go_sem, ↓reduceIte, reduceCtorEq, Nat.reduceAdd, Nat.reduceSub, Nat.reduceLT, Nat.reduceLeDiff]
      intro _
      refine loop_rule (fun n τ => ∃ i : Nat, n = mv.length - i ∧ i ≤ mv.length ∧ (List.range i).all (wayOk pl mv wn p Y) = true ∧
        τ = ⟨[.any, .s (.bool p), .any, .s (.ptr [.slice (pl.map .bool), .slice (mv.map ints), .slice (wn.map .bool)]), .any, .any, .any, .any, .any, .any, .any, .any, .any, .any, .any, .any, .any, .any, .any, .any, .any, .any, .any, .s (.slice (Y.map (.int .i64))), .s (.int .i64 Y.length), .s (.int .i64 i), .any, .any, .any, .any, .any, .any, .any, .any, .any, .any, .any, .any, .any, .any, .any, .any, .any, .any, .any, .any, .any, .any, .any, .any, .any, .any, .any, .any, .any, .any, .any, .any, .any], []⟩) mv.length rfl ?_ ?_
      · simp only [c33l12m, go_sem, ↓reduceIte, reduceCtorEq, Nat.reduceAdd, Nat.reduceSub, Nat.reduceLT, Nat.reduceLeDiff]
        exact ⟨0, rfl, Nat.zero_le _, rfl, rfl⟩
      · rintro I n τ ⟨i, rfl, hi, hall, rfl⟩ hI
        simp only [c33l12, c33r7, go_sem, ↓reduceIte, reduceCtorEq, Nat.reduceAdd, Nat.reduceSub, Nat.reduceLT, Nat.reduceLeDiff]
        refine ⟨fun hlt => ?_, fun hge => ?_⟩
        · have hlt' : i < mv.length := by omega
          obtain ⟨hm, hp, hw, hm2, hp2, hw2, hins⟩ := hv.at' hlt'
          have hx := getI_nat (W := Y) (i := i) (by omega)
          have hok : wayOk pl mv wn p Y i = (decide (getI Y i = -1) || (!wn.getD i false && (pl.getD i false == p) && hasL (mv.getD i []) (getI Y i))) := rfl
          have good : wayOk pl mv wn p Y i = true → I ⟨[.any, .s (.bool p), .any, .s (.ptr [.slice (pl.map .bool), .slice (mv.map ints), .slice (wn.map .bool)]), .any, .any, .any, .any, .any, .any, .any, .any, .any, .any, .any, .any, .any, .any, .any, .any, .any, .any, .any, .s (.slice (Y.map (.int .i64))), .s (.int .i64 Y.length), .s (.int .i64 (i + 1)), .any, .any, .any, .any, .any, .any, .any, .any, .any, .any, .any, .any, .any, .any, .any, .any, .any, .any, .any, .any, .any, .any, .any, .any, .any, .any, .any, .any, .any, .any, .any, .any, .any], []⟩ := fun hk =>
            hI (mv.length - (i + 1)) _ (by omega) ⟨i + 1, rfl, by omega, all_succ hall hk, by simp⟩
          have bad : wayOk pl mv wn p Y i = false → (List.range mv.length).all (wayOk pl mv wn p Y) = false := fun hk => all_not hlt' hk
          generalize mv.getD i [] = l at *
          generalize pl.getD i false = b at *
          generalize wn.getD i false = w at *
          generalize getI Y i = y at *
          cases w with
          | true =>
            simp only [c33r8, hx, c33r9, hm, hp, hw, hm2, hp2, hw2, ints, go_sem, ↓reduceIte, reduceCtorEq, Nat.reduceAdd, Nat.reduceSub, Nat.reduceLT, Nat.reduceLeDiff]
            refine ⟨fun hy => ?_, fun hy => ?_⟩
            · simp only [c33r11, c33l12m, go_sem, ↓reduceIte, reduceCtorEq, Nat.reduceAdd, Nat.reduceSub, Nat.reduceLT, Nat.reduceLeDiff]
              exact ⟨inR_i64 (by omega) (by omega), good (by rw [hok]; simp [hy])⟩
            · simp only [c33r10, bad (by rw [hok]; simp [hy]), Bool.false_eq_true, go_sem, ↓reduceIte, reduceCtorEq, Nat.reduceAdd, Nat.reduceSub, Nat.reduceLT, Nat.reduceLeDiff]
          | false =>
            simp only [c33r8, hx, c33r9, hm, hp, hw, hm2, hp2, hw2, ints, go_sem, ↓reduceIte, reduceCtorEq, Nat.reduceAdd, Nat.reduceSub, Nat.reduceLT, Nat.reduceLeDiff]
            refine ⟨fun hy => ?_, fun hy => ⟨fun hbp => ?_, fun hbp => ?_⟩⟩
            · simp only [c33r11, c33l12m, go_sem, ↓reduceIte, reduceCtorEq, Nat.reduceAdd, Nat.reduceSub, Nat.reduceLT, Nat.reduceLeDiff]
              exact ⟨inR_i64 (by omega) (by omega), good (by rw [hok]; simp [hy])⟩
            · have hbp' : b = p := by simpa using hbp
              refine callK_of rfl (k69 (xs := l) (v := y)) (.inl rfl) ?_
              cases hk : hasL l y with
              | true =>
                simp only [c33r11, c33l12m, go_sem, ↓reduceIte, reduceCtorEq, Nat.reduceAdd, Nat.reduceSub, Nat.reduceLT, Nat.reduceLeDiff]
                exact ⟨inR_i64 (by omega) (by omega), good (by rw [hok, hk]; simp [hbp'])⟩
              | false =>
                simp only [c33r10, bad (by rw [hok, hk]; simp [hy]), Bool.false_eq_true, go_sem, ↓reduceIte, reduceCtorEq, Nat.reduceAdd, Nat.reduceSub, Nat.reduceLT, Nat.reduceLeDiff]
            · have hbp' : b ≠ p := fun h => hbp (by rw [h])
              have : (b == p) = false := by simpa using hbp'
              simp only [c33r10, bad (by rw [hok, this]; simp [hy]), Bool.false_eq_true, go_sem, ↓reduceIte, reduceCtorEq, Nat.reduceAdd, Nat.reduceSub, Nat.reduceLT, Nat.reduceLeDiff]
        · have hie : i = mv.length := by omega
          subst hie
          rw [if_pos hall]
          simp only [c33r13, go_sem, ↓reduceIte, reduceCtorEq, Nat.reduceAdd, Nat.reduceSub, Nat.reduceLT, Nat.reduceLeDiff]
    · simp only [c33r5, hl, ne_eq, not_false_eq_true, go_sem, ↓reduceIte, reduceCtorEq, Nat.reduceAdd, Nat.reduceSub, Nat.reduceLT, Nat.reduceLeDiff]
  · rw [if_pos h]
    simp only [h, c33r2, c33r3, go_sem, ↓reduceIte, reduceCtorEq, Nat.reduceAdd, Nat.reduceSub, Nat.reduceLT, Nat.reduceLeDiff]

theorem k34 {pl wn : List Bool} {mv : List (List Int)} {p : Bool} {Y : List Int} : E.Fn Try.prog 34 [mach pl mv wn, .bool p, ints Y] [.int .i64 (wayR pl mv wn p Y)] := by
  refine fn_of_row okf34 ?_
  unfold wayR
  simp only [FRow.start, f34, c34r0, c34r1, mach, bools, ints, go_sem, ↓reduceIte, reduceCtorEq, Nat.reduceAdd, Nat.reduceSub, Nat.reduceLT, Nat.reduceLeDiff]
  refine callK_of rfl (k21 (pl := pl) (mv := mv) (wn := wn)) (.inl rfl) ?_
  by_cases h : chkM pl mv wn = 0
  · have hv := valid_of h
    have h1 := hv.few
    rw [if_neg (by simpa using h)]
    simp only [h, c34r3, Int.natCast_inj, go_sem, ↓reduceIte, reduceCtorEq, Nat.reduceAdd, Nat.reduceSub, Nat.reduceLT, Nat.reduceLeDiff]
    intro _
    refine ⟨fun hl => ?_, fun hl => ?_⟩
    · rw [if_neg (by simpa using hl)]
      simp only [c34r5, go_sem, ↓reduceIte, reduceCtorEq, Nat.reduceAdd, Nat.reduceSub, Nat.reduceLT, Nat.reduceLeDiff]
      refine loop_rule (fun n τ => ∃ i : Nat, n = mv.length - i ∧ i ≤ mv.length ∧ (List.range i).all (wayOk pl mv wn p Y) = true ∧
        τ = ⟨[.any, .s (.bool p), .s (.slice (Y.map (.int .i64))), .s (.ptr [.slice (pl.map .bool), .slice (mv.map ints), .slice (wn.map .bool)]), .any, .any, .any, .s (.int .i64 i), .any, .any, .any, .any, .any, .any, .any, .any, .any, .any, .any, .any, .any, .any, .any, .any, .any, .any, .any, .any, .any, .any, .any, .any, .any, .any, .any, .any, .any, .any, .any, .any, .any, .any, .any, .any, .any, .any, .any, .any, .any, .any, .any, .any, .any, .any, .any, .any, .any, .any, .any, .any, .any, .any, .any], []⟩) mv.length rfl ?_ ?_
      · simp only [c34l11m, go_sem, ↓reduceIte, reduceCtorEq, Nat.reduceAdd, Nat.reduceSub, Nat.reduceLT, Nat.reduceLeDiff]
        exact ⟨0, rfl, Nat.zero_le _, rfl, rfl⟩
      · rintro I n τ ⟨i, rfl, hi, hall, rfl⟩ hI
        simp only [c34l11, c34r6, hl, go_sem, ↓reduceIte, reduceCtorEq, Nat.reduceAdd, Nat.reduceSub, Nat.reduceLT, Nat.reduceLeDiff]
        intro _
        refine ⟨fun hlt => ?_, fun hge => ?_⟩
        · have hlt' : i < mv.length := by omega
          obtain ⟨hm, hp, hw, hm2, hp2, hw2, hins⟩ := hv.at' hlt'
          have hx := getI_nat (W := Y) (i := i) (by omega)
          have hx2 : i < Y.length := by omega
          have hok : wayOk pl mv wn p Y i = (decide (getI Y i = -1) || (!wn.getD i false && (pl.getD i false == p) && hasL (mv.getD i []) (getI Y i))) := rfl
          have good : wayOk pl mv wn p Y i = true → I ⟨[.any, .s (.bool p), .s (.slice (Y.map (.int .i64))), .s (.ptr [.slice (pl.map .bool), .slice (mv.map ints), .slice (wn.map .bool)]), .any, .any, .any, .s (.int .i64 (i + 1)), .any, .any, .any, .any, .any, .any, .any, .any, .any, .any, .any, .any, .any, .any, .any, .any, .any, .any, .any, .any, .any, .any, .any, .any, .any, .any, .any, .any, .any, .any, .any, .any, .any, .any, .any, .any, .any, .any, .any, .any, .any, .any, .any, .any, .any, .any, .any, .any, .any, .any, .any, .any, .any, .any, .any], []⟩ := fun hk =>
            hI (mv.length - (i + 1)) _ (by omega) ⟨i + 1, rfl, by omega, all_succ hall hk, by simp⟩
          have bad : wayOk pl mv wn p Y i = false → (List.range mv.length).all (wayOk pl mv wn p Y) = false := fun hk => all_not hlt' hk
          generalize mv.getD i [] = l at *
          generalize pl.getD i false = b at *
          generalize wn.getD i false = w at *
          generalize getI Y i = y at *
          simp only [c34r7, hm, hp, hw, hm2, hp2, hw2, hx, hx2, ints, go_sem, ↓reduceIte, reduceCtorEq, Nat.reduceAdd, Nat.reduceSub, Nat.reduceLT, Nat.reduceLeDiff]
          refine ⟨fun hbp => ?_, fun hbp => ?_⟩
          · have hbp' : b = p := by simpa using hbp
            cases w with
            | true =>
              simp only [c34r8, hm, hm2, hx, hx2, ints, go_sem, ↓reduceIte, reduceCtorEq, Nat.reduceAdd, Nat.reduceSub, Nat.reduceLT, Nat.reduceLeDiff]
              refine ⟨fun hy => ?_, fun hy => ?_⟩
              · simp only [c34r10, c34l11m, go_sem, ↓reduceIte, reduceCtorEq, Nat.reduceAdd, Nat.reduceSub, Nat.reduceLT, Nat.reduceLeDiff]
                exact ⟨inR_i64 (by omega) (by omega), good (by rw [hok]; simp [hy])⟩
              · simp only [c34r9, bad (by rw [hok]; simp [hy]), Bool.false_eq_true, go_sem, ↓reduceIte, reduceCtorEq, Nat.reduceAdd, Nat.reduceSub, Nat.reduceLT, Nat.reduceLeDiff]
            | false =>
              simp only [c34r8, hm, hm2, hx, hx2, ints, go_sem, ↓reduceIte, reduceCtorEq, Nat.reduceAdd, Nat.reduceSub, Nat.reduceLT, Nat.reduceLeDiff]
              refine ⟨fun hy => ?_, fun hy => ?_⟩
              · simp only [c34r10, c34l11m, go_sem, ↓reduceIte, reduceCtorEq, Nat.reduceAdd, Nat.reduceSub, Nat.reduceLT, Nat.reduceLeDiff]
                exact ⟨inR_i64 (by omega) (by omega), good (by rw [hok]; simp [hy])⟩
              · refine callK_of rfl (k49 (xs := l) (v := y)) (.inl rfl) ?_
                cases hk : hasL l y with
                | true =>
                  simp only [c34r10, c34l11m, go_sem, ↓reduceIte, reduceCtorEq, Nat.reduceAdd, Nat.reduceSub, Nat.reduceLT, Nat.reduceLeDiff]
                  exact ⟨inR_i64 (by omega) (by omega), good (by rw [hok, hk]; simp [hbp'])⟩
                | false =>
                  simp only [c34r9, bad (by rw [hok, hk]; simp [hy]), Bool.false_eq_true, go_sem, ↓reduceIte, reduceCtorEq, Nat.reduceAdd, Nat.reduceSub, Nat.reduceLT, Nat.reduceLeDiff]
          · have hbp' : b ≠ p := fun h => hbp (by rw [h])
            have hb0 : (b == p) = false := by simpa using hbp'
            simp only [c34r8, hm, hm2, hx, hx2, ints, go_sem, ↓reduceIte, reduceCtorEq, Nat.reduceAdd, Nat.reduceSub, Nat.reduceLT, Nat.reduceLeDiff]
            refine ⟨fun hy => ?_, fun hy => ?_⟩
            · simp only [c34r10, c34l11m, go_sem, ↓reduceIte, reduceCtorEq, Nat.reduceAdd, Nat.reduceSub, Nat.reduceLT, Nat.reduceLeDiff]
              exact ⟨inR_i64 (by omega) (by omega), good (by rw [hok]; simp [hy])⟩
            · simp only [c34r9, bad (by rw [hok, hb0]; simp [hy]), Bool.false_eq_true, go_sem, ↓reduceIte, reduceCtorEq, Nat.reduceAdd, Nat.reduceSub, Nat.reduceLT, Nat.reduceLeDiff]
        · have hie : i = mv.length := by omega
          subst hie
          rw [if_pos hall]
          simp only [c34r12, go_sem, ↓reduceIte, reduceCtorEq, Nat.reduceAdd, Nat.reduceSub, Nat.reduceLT, Nat.reduceLeDiff]
    · simp only [c34r4, hl, ne_eq, not_false_eq_true, go_sem, ↓reduceIte, reduceCtorEq, Nat.reduceAdd, Nat.reduceSub, Nat.reduceLT, Nat.reduceLeDiff]
  · rw [if_pos h]
    simp only [h, c34r2, go_sem, ↓reduceIte, reduceCtorEq, Nat.reduceAdd, Nat.reduceSub, Nat.reduceLT, Nat.reduceLeDiff]
    refine callK_of rfl (k21 (pl := pl) (mv := mv) (wn := wn)) (.inl rfl) ?_
    simp only [go_sem, ↓reduceIte, reduceCtorEq, Nat.reduceAdd, Nat.reduceSub, Nat.reduceLT, Nat.reduceLeDiff]
end Go.Proofs.Ytglmjdpmpgphkaa.Sk

/- Contracts of functions: the ways of playing that are returned. -/
namespace Go.Proofs.Ytglmjdpmpgphkaa.Sk
open Go Go.E Go.E.Sm
set_option maxRecDepth 10000

def foundR : Option Int → List SV
  | some x => [.int .i64 x, .bool true]
  | none => [.int .i64 0, .bool false]

theorem k89 {g : FuncId} {first caps : List SV} {l : List Int} {q : Int → Bool} (hg : Ok1 g first caps) (hq : ∀ x ∈ l, Asks g first caps (.int .i64 x) (q x)) : E.Fn Try.prog 89 [ints l, .fn g first caps] (foundR (l.find? q)) := by
  refine fn_of_row okf89 ?_
  simp only [FRow.start, f89, c89r0, c89r1, ints, go_sem, ↓reduceIte, reduceCtorEq, Nat.reduceAdd, Nat.reduceSub, Nat.reduceLT, Nat.reduceLeDiff]
  intro hlen
  have hlen' : (l.length : Int) ≤ 2 ^ 63 - 1 := Int.le_trans (Int.ofNat_le.mpr hlen) maxLen_le
  refine loop_rule (fun n τ => ∃ i : Nat, n = l.length - i ∧ i ≤ l.length ∧ l.find? q = (l.drop i).find? q ∧
    τ = ⟨[.any, .s (.fn g first caps), .any, .any, .any, .any, .any, .any, .any, .s (.slice (l.map (.int .i64))), .s (.int .i64 l.length), .s (.int .i64 i), .any, .any, .any, .any, .any, .any, .any, .any, .any], []⟩) l.length rfl ?_ ?_
  · simp only [c89l7m, go_sem, ↓reduceIte, reduceCtorEq, Nat.reduceAdd, Nat.reduceSub, Nat.reduceLT, Nat.reduceLeDiff]
    exact ⟨0, rfl, Nat.zero_le _, rfl, rfl⟩
  · rintro I n τ ⟨i, rfl, hi, hf, rfl⟩ hI
    simp only [c89l7, c89r2, go_sem, ↓reduceIte, reduceCtorEq, Nat.reduceAdd, Nat.reduceSub, Nat.reduceLT, Nat.reduceLeDiff]
    refine ⟨fun hlt => ?_, fun hge => ?_⟩
    · have hx : l[i]? = some l[i] := List.getElem?_eq_getElem hlt
      have hdrop : l.drop i = l[i] :: l.drop (i + 1) := List.drop_eq_getElem_cons hlt
      have hqx := hq _ (List.getElem_mem hlt)
      rw [hdrop, List.find?_cons] at hf
      generalize l[i] = x at *
      simp only [c89r3, hx, c89r4, go_sem, ↓reduceIte, reduceCtorEq, Nat.reduceAdd, Nat.reduceSub, Nat.reduceLT, Nat.reduceLeDiff]
      refine ⟨hg.1, hg.2, callK_of (by simp only [go_sem, ↓reduceIte, reduceCtorEq, Nat.reduceAdd, Nat.reduceSub, Nat.reduceLT, Nat.reduceLeDiff]) hqx (.inl rfl) ?_⟩
      cases hk : q x with
      | true =>
        rw [hk] at hf
        simp only at hf
        simp only [c89r5, hf, foundR, go_sem, ↓reduceIte, reduceCtorEq, Nat.reduceAdd, Nat.reduceSub, Nat.reduceLT, Nat.reduceLeDiff]
      | false =>
        rw [hk] at hf
        simp only at hf
        simp only [c89r6, c89l7m, go_sem, ↓reduceIte, reduceCtorEq, Nat.reduceAdd, Nat.reduceSub, Nat.reduceLT, Nat.reduceLeDiff]
        exact ⟨inR_i64 (by omega) (by omega), hI (l.length - (i + 1)) _ (by omega) ⟨i + 1, rfl, by omega, hf, by simp⟩⟩
    · have hie : i = l.length := by omega
      subst hie
      rw [List.drop_length, List.find?_nil] at hf
      simp only [c89r8, c89r9, hf, foundR, go_sem, ↓reduceIte, reduceCtorEq, Nat.reduceAdd, Nat.reduceSub, Nat.reduceLT, Nat.reduceLeDiff]

theorem k90 {a b c : SV} {D : List Int} {want k : Int} (hD : D.length ≤ 14) (h0 : 0 ≤ k) (h1 : k < 14) : Asks 90 [] [.ptr [.ptr (a :: b :: c :: (pad D).map (.int .i64))], .ptr [.int .i64 want]] (.int .i64 k) (decide (getI D k = want)) := by
  refine fn_of_row okf90 ?_
  have hpl := pad_len hD
  have hx := getI_get (W := pad D) h0 (by omega)
  rw [getI_pad] at hx
  simp only [FRow.start, f90, c90r0, c90r1, go_sem, ↓reduceIte, reduceCtorEq, Nat.reduceAdd, Nat.reduceSub, Nat.reduceLT, Nat.reduceLeDiff]
  refine ⟨h0, by omega, by omega, ?_⟩
  simp only [List.getElem?_drop, Nat.mul_one, Nat.add_zero, hx, go_sem, ↓reduceIte, reduceCtorEq, Nat.reduceAdd, Nat.reduceSub, Nat.reduceLT, Nat.reduceLeDiff]

def wayV (pl : List Bool) (mv : List (List Int)) (D : List Int) (p : Bool) (i : Nat) : Int :=
  if pl.getD i false ≠ p ∨ getI D i = 0 ∨ (p = true ∧ getI D i < 0) then -1 else ((mv.getD i []).find? fun k => decide (getI D k = if getI D i < 0 then -1 else getI D i - 1)).getD (-1)
def wayL (pl : List Bool) (mv : List (List Int)) (wn : List Bool) (p : Bool) : List Int := (List.range mv.length).map (wayV pl mv (distW pl mv wn) p)

def midV (v : Nat → Int) (n i : Nat) : List Int := (List.range n).map fun j => if j < i then v j else 0
theorem midV_len {v : Nat → Int} {n i : Nat} : (midV v n i).length = n := by simp [midV]
theorem midV_0 {v : Nat → Int} {n : Nat} : midV v n 0 = List.replicate n 0 := by
  unfold midV
  simp only [Nat.not_lt_zero, if_false]
  apply List.ext_getElem?
  intro j
  by_cases hj : j < n
  · rw [List.getElem?_map, List.getElem?_range hj, List.getElem?_replicate, if_pos hj]; rfl
  · rw [List.getElem?_eq_none (by simp; omega), List.getElem?_eq_none (by simp; omega)]
theorem midV_n {v : Nat → Int} {n : Nat} : midV v n n = (List.range n).map v := by
  unfold midV
  refine List.map_congr_left fun i hi => ?_
  rw [if_pos (by simpa using hi)]
theorem midV_succ {v : Nat → Int} {n i : Nat} : (midV v n i).set i (v i) = midV v n (i + 1) := by
  apply List.ext_getElem?
  intro j
  by_cases hj : j < n
  · rw [List.getElem?_set]
    unfold midV
    rw [List.getElem?_map, List.getElem?_map, List.getElem?_range hj]
    simp only [Option.map_some, List.length_map, List.length_range]
    by_cases e : i = j
    · subst e; simp [hj]
    · rw [if_neg e]
      congr 1
      by_cases h : j < i
      · rw [if_pos h, if_pos (by omega)]
      · rw [if_neg h, if_neg (by omega)]
  · rw [List.getElem?_eq_none (by rw [List.length_set, midV_len]; omega), List.getElem?_eq_none (by rw [midV_len]; omega)]
theorem distW_rng {pl wn : List Bool} {mv : List (List Int)} (k : Int) : -1 ≤ getI (distW pl mv wn) k ∧ getI (distW pl mv wn) k ≤ mv.length := getI_rng (by omega) (iterW_rng _) k

theorem k70 {pl wn : List Bool} {mv : List (List Int)} {p : Bool} (hv : Valid pl mv wn) : E.Fn Try.prog 70 [boardV pl mv wn, .bool p] [ints (wayL pl mv wn p)] := by
  refine fn_of_row okf70 ?_
  have h1 := hv.few
  have hdl := distW_len hv
  have hpl := pad_len (W := distW pl mv wn) (by omega)
  have hrng := fun k => distW_rng (pl := pl) (mv := mv) (wn := wn) k
  unfold wayL
  simp only [FRow.start, f70, c70r0, c70r1, boardV, bools, flat_rep1, go_sem, ↓reduceIte, reduceCtorEq, Nat.reduceAdd, Nat.reduceSub, Nat.reduceLT, Nat.reduceLeDiff]
  refine ⟨by omega, by omega, fun _ => ?_⟩
  simp only [c70r2, go_sem, ↓reduceIte, reduceCtorEq, Nat.reduceAdd, Nat.reduceSub, Nat.reduceLT, Nat.reduceLeDiff]
  intro _
  generalize hD : distW pl mv wn = D at *
  have hvd : ∀ i : Nat, wayV pl mv D p i = if pl.getD i false ≠ p ∨ getI D i = 0 ∨ (p = true ∧ getI D i < 0) then -1 else ((mv.getD i []).find? fun k => decide (getI D k = if getI D i < 0 then -1 else getI D i - 1)).getD (-1) := fun i => rfl
  generalize wayV pl mv D p = v at *
  refine loop_rule (fun n τ => ∃ i : Nat, n = mv.length - i ∧ i ≤ mv.length ∧
    τ = ⟨[.any, .s (.bool p), .s (.ptr [.ptr (.slice (pl.map .bool) :: .slice (mv.map ints) :: .slice (wn.map .bool) :: (pad D).map (.int .i64))]), .any, .any, .sl 0 0 mv.length 1 true, .any, .any, .any, .any, .any, .any, .any, .any, .any, .any, .any, .any, .any, .any, .any, .any, .s (.slice (mv.map ints)), .s (.int .i64 mv.length), .s (.int .i64 i), .any, .any, .any, .any, .any, .any, .any, .any, .any, .any, .any, .any, .any, .any, .any, .any, .any, .any, .any, .any, .any, .any, .any, .any, .any, .any, .any, .any, .any, .any, .any, .any, .any, .any, .any, .any, .any, .any, .any, .any, .any, .any, .any, .any, .any, .any, .any, .any, .any, .any, .any, .any, .any, .any, .any, .any, .any, .any, .any, .any, .any, .any, .any, .any, .any, .any, .any], [.row ((midV v mv.length i).map (SV.int .i64))]⟩) mv.length rfl ?_ ?_
  · simp only [c70l14m, go_sem, ↓reduceIte, reduceCtorEq, Nat.reduceAdd, Nat.reduceSub, Nat.reduceLT, Nat.reduceLeDiff]
    exact ⟨0, rfl, Nat.zero_le _, by simp [midV_0]⟩
  · rintro I n τ ⟨i, rfl, hi, rfl⟩ hI
    have hml := midV_len (v := v) (n := mv.length) (i := i)
    have hms := midV_succ (v := v) (n := mv.length) (i := i)
    have hmn := midV_n (v := v) (n := mv.length)
    generalize hM : midV v mv.length i = M at *
    simp only [c70l14, c70r3, go_sem, ↓reduceIte, reduceCtorEq, Nat.reduceAdd, Nat.reduceSub, Nat.reduceLT, Nat.reduceLeDiff]
    refine ⟨fun hlt => ?_, fun hge => ?_⟩
    · obtain ⟨hm, hp, hw, hm2, hp2, hw2, hins⟩ := hv.at' hlt
      have hg : (pad D)[i]? = some (getI D i) := by
        have := getI_get (W := pad D) (x := i) (by omega) (by omega)
        rwa [getI_pad, Int.toNat_natCast] at this
      have hvi := hvd i
      have hri := hrng i
      have goOn : ∀ y, v i = y → I ⟨[.any, .s (.bool p), .s (.ptr [.ptr (.slice (pl.map .bool) :: .slice (mv.map ints) :: .slice (wn.map .bool) :: (pad D).map (.int .i64))]), .any, .any, .sl 0 0 mv.length 1 true, .any, .any, .any, .any, .any, .any, .any, .any, .any, .any, .any, .any, .any, .any, .any, .any, .s (.slice (mv.map ints)), .s (.int .i64 mv.length), .s (.int .i64 (i + 1)), .any, .any, .any, .any, .any, .any, .any, .any, .any, .any, .any, .any, .any, .any, .any, .any, .any, .any, .any, .any, .any, .any, .any, .any, .any, .any, .any, .any, .any, .any, .any, .any, .any, .any, .any, .any, .any, .any, .any, .any, .any, .any, .any, .any, .any, .any, .any, .any, .any, .any, .any, .any, .any, .any, .any, .any, .any, .any, .any, .any, .any, .any, .any, .any, .any, .any, .any], [.row ((M.set i y).map (SV.int .i64))]⟩ := fun y hy => by
        subst hy
        exact hI (mv.length - (i + 1)) _ (by omega) ⟨i + 1, rfl, by omega, by rw [hms]; simp⟩
      have fnd : ∀ want : Int, E.Fn Try.prog 89 [.slice ((mv.getD i []).map (.int .i64)), .fn 90 [] [.ptr [.ptr (.slice (pl.map .bool) :: .slice (mv.map ints) :: .slice (wn.map .bool) :: (pad D).map (.int .i64))], .ptr [.int .i64 want]]] (foundR ((mv.getD i []).find? fun k => decide (getI D k = want))) := fun want =>
        k89 (first := []) (q := fun k => decide (getI D k = want)) ⟨tbl_fn 90 rfl, rfl⟩ fun x hx => k90 (by omega) (hins x hx).1 (by have := (hins x hx).2; omega)
      generalize mv.getD i [] = l at *
      generalize pl.getD i false = b at *
      simp only [c70r4, hm, c70r5, Nat.mul_one, Nat.zero_add, ints, go_sem, ↓reduceIte, reduceCtorEq, Nat.reduceAdd, Nat.reduceSub, Nat.reduceLT, Nat.reduceLeDiff]
      refine ⟨by omega, by omega, ?_⟩
      rw [splice_row (by omega)]
      have hi14 : i < 14 := by omega
      have hile : i ≤ (pad D).length := by omega
      have hsel : (List.drop i (List.map (SV.int .i64) (pad D)))[0]? = some (.int .i64 (getI D i)) := by
        rw [List.getElem?_drop, Nat.add_zero, List.getElem?_map, hg]; rfl
      simp only [c70r6, Nat.mul_one, splice, hm2, hi14, hile, hsel, go_sem, ↓reduceIte, reduceCtorEq, Nat.reduceAdd, Nat.reduceSub, Nat.reduceLT, Nat.reduceLeDiff]
      refine ⟨inR_i64 (by omega) (by omega), ?_⟩
      have h12 : ((1 : Nat) = 2) = False := by simp
      simp only [c70r7, hp, hp2, Nat.mul_one, hi14, hile, hsel, h12, go_sem, ↓reduceIte, reduceCtorEq, Nat.reduceAdd, Nat.reduceSub, Nat.reduceLT, Nat.reduceLeDiff]
      refine ⟨fun hbp => ⟨fun hd0 => ?_, fun hd0 => ?_⟩, fun hbp => ?_⟩
      · rw [if_pos (.inr (.inl hd0))] at hvi
        simp only [c70r13, c70l14m, go_sem, ↓reduceIte, reduceCtorEq, Nat.reduceAdd, Nat.reduceSub, Nat.reduceLT, Nat.reduceLeDiff]
        exact ⟨inR_i64 (by omega) (by omega), goOn _ hvi⟩
      · have hbp' : b = p := by simpa using hbp
        cases p with
        | true =>
          simp only [hi14, hile, hsel, Nat.mul_one, h12, go_sem, ↓reduceIte, reduceCtorEq, Nat.reduceAdd, Nat.reduceSub, Nat.reduceLT, Nat.reduceLeDiff]
          refine ⟨fun hneg => ?_, fun hneg => ?_⟩
          · rw [if_pos (.inr (.inr ⟨rfl, hneg⟩))] at hvi
            simp only [c70r13, c70l14m, go_sem, ↓reduceIte, reduceCtorEq, Nat.reduceAdd, Nat.reduceSub, Nat.reduceLT, Nat.reduceLeDiff]
            exact ⟨inR_i64 (by omega) (by omega), goOn _ hvi⟩
          · rw [if_neg (by simp [hbp', hd0]; omega)] at hvi
            have hn : decide (getI D i < 0) = false := by simp; omega
            rw [if_neg hneg] at hvi
            simp only [c70r8, hi14, hile, hsel, Nat.mul_one, hn, c70r10, go_sem, ↓reduceIte, reduceCtorEq, Nat.reduceAdd, Nat.reduceSub, Nat.reduceLT, Nat.reduceLeDiff]
            cases hf : l.find? (fun k => decide (getI D k = getI D i - 1)) with
            | some y =>
              have hfn := fnd (getI D i - 1)
              rw [hf] at hfn
              simp only [foundR] at hfn
              refine callK_of (by simp only [go_sem, ↓reduceIte, reduceCtorEq, Nat.reduceAdd, Nat.reduceSub, Nat.reduceLT, Nat.reduceLeDiff]) hfn (.inl rfl) ?_
              simp only [c70r11, c70r12, Nat.mul_one, Nat.zero_add, go_sem, ↓reduceIte, reduceCtorEq, Nat.reduceAdd, Nat.reduceSub, Nat.reduceLT, Nat.reduceLeDiff]
              refine ⟨by omega, by simp; omega, ?_⟩
              rw [splice_row (by simp; omega), List.set_set]
              simp only [c70r13, c70l14m, go_sem, ↓reduceIte, reduceCtorEq, Nat.reduceAdd, Nat.reduceSub, Nat.reduceLT, Nat.reduceLeDiff]
              exact ⟨inR_i64 (by omega) (by omega), goOn _ (by rw [hvi, hf]; rfl)⟩
            | none =>
              have hfn := fnd (getI D i - 1)
              rw [hf] at hfn
              simp only [foundR] at hfn
              refine callK_of (by simp only [go_sem, ↓reduceIte, reduceCtorEq, Nat.reduceAdd, Nat.reduceSub, Nat.reduceLT, Nat.reduceLeDiff]) hfn (.inl rfl) ?_
              simp only [c70r11, c70r13, c70l14m, go_sem, ↓reduceIte, reduceCtorEq, Nat.reduceAdd, Nat.reduceSub, Nat.reduceLT, Nat.reduceLeDiff]
              exact ⟨inR_i64 (by omega) (by omega), goOn _ (by rw [hvi, hf]; rfl)⟩
        | false =>
          rw [if_neg (by simp [hbp', hd0])] at hvi
          simp only [c70r8, hi14, hile, hsel, Nat.mul_one, h12, go_sem, ↓reduceIte, reduceCtorEq, Nat.reduceAdd, Nat.reduceSub, Nat.reduceLT, Nat.reduceLeDiff]
          refine ⟨fun hneg => ?_, fun hneg => ?_⟩
          · rw [if_pos hneg] at hvi
            simp only [c70r9, splice, c70r10, go_sem, ↓reduceIte, reduceCtorEq, Nat.reduceAdd, Nat.reduceSub, Nat.reduceLT, Nat.reduceLeDiff]
            cases hf : l.find? (fun k => decide (getI D k = -1)) with
            | some y =>
              have hfn := fnd (-1)
              rw [hf] at hfn
              simp only [foundR] at hfn
              refine callK_of (by simp only [go_sem, ↓reduceIte, reduceCtorEq, Nat.reduceAdd, Nat.reduceSub, Nat.reduceLT, Nat.reduceLeDiff]) hfn (.inl rfl) ?_
              simp only [c70r11, c70r12, Nat.mul_one, Nat.zero_add, go_sem, ↓reduceIte, reduceCtorEq, Nat.reduceAdd, Nat.reduceSub, Nat.reduceLT, Nat.reduceLeDiff]
              refine ⟨by omega, by simp; omega, ?_⟩
              rw [splice_row (by simp; omega), List.set_set]
              simp only [c70r13, c70l14m, go_sem, ↓reduceIte, reduceCtorEq, Nat.reduceAdd, Nat.reduceSub, Nat.reduceLT, Nat.reduceLeDiff]
              exact ⟨inR_i64 (by omega) (by omega), goOn _ (by rw [hvi, hf]; rfl)⟩
            | none =>
              have hfn := fnd (-1)
              rw [hf] at hfn
              simp only [foundR] at hfn
              refine callK_of (by simp only [go_sem, ↓reduceIte, reduceCtorEq, Nat.reduceAdd, Nat.reduceSub, Nat.reduceLT, Nat.reduceLeDiff]) hfn (.inl rfl) ?_
              simp only [c70r11, c70r13, c70l14m, go_sem, ↓reduceIte, reduceCtorEq, Nat.reduceAdd, Nat.reduceSub, Nat.reduceLT, Nat.reduceLeDiff]
              exact ⟨inR_i64 (by omega) (by omega), goOn _ (by rw [hvi, hf]; rfl)⟩
          · rw [if_neg hneg] at hvi
            simp only [c70r10, go_sem, ↓reduceIte, reduceCtorEq, Nat.reduceAdd, Nat.reduceSub, Nat.reduceLT, Nat.reduceLeDiff]
            cases hf : l.find? (fun k => decide (getI D k = getI D i - 1)) with
            | some y =>
              have hfn := fnd (getI D i - 1)
              rw [hf] at hfn
              simp only [foundR] at hfn
              refine callK_of (by simp only [go_sem, ↓reduceIte, reduceCtorEq, Nat.reduceAdd, Nat.reduceSub, Nat.reduceLT, Nat.reduceLeDiff]) hfn (.inl rfl) ?_
              simp only [c70r11, c70r12, Nat.mul_one, Nat.zero_add, go_sem, ↓reduceIte, reduceCtorEq, Nat.reduceAdd, Nat.reduceSub, Nat.reduceLT, Nat.reduceLeDiff]
              refine ⟨by omega, by simp; omega, ?_⟩
              rw [splice_row (by simp; omega), List.set_set]
              simp only [c70r13, c70l14m, go_sem, ↓reduceIte, reduceCtorEq, Nat.reduceAdd, Nat.reduceSub, Nat.reduceLT, Nat.reduceLeDiff]
              exact ⟨inR_i64 (by omega) (by omega), goOn _ (by rw [hvi, hf]; rfl)⟩
            | none =>
              have hfn := fnd (getI D i - 1)
              rw [hf] at hfn
              simp only [foundR] at hfn
              refine callK_of (by simp only [go_sem, ↓reduceIte, reduceCtorEq, Nat.reduceAdd, Nat.reduceSub, Nat.reduceLT, Nat.reduceLeDiff]) hfn (.inl rfl) ?_
              simp only [c70r11, c70r13, c70l14m, go_sem, ↓reduceIte, reduceCtorEq, Nat.reduceAdd, Nat.reduceSub, Nat.reduceLT, Nat.reduceLeDiff]
              exact ⟨inR_i64 (by omega) (by omega), goOn _ (by rw [hvi, hf]; rfl)⟩
      · have hbp' : b ≠ p := fun h => hbp (by rw [h])
        rw [if_pos (.inl hbp')] at hvi
        simp only [c70r13, c70l14m, go_sem, ↓reduceIte, reduceCtorEq, Nat.reduceAdd, Nat.reduceSub, Nat.reduceLT, Nat.reduceLeDiff]
        exact ⟨inR_i64 (by omega) (by omega), goOn _ hvi⟩
    · have hie : i = mv.length := by omega
      subst hie
      have hMn : M = (List.range mv.length).map v := by rw [← hM, hmn]
      have hso : sliceOf 0 mv.length 1 (M.map (SV.int .i64)) = some (.slice (M.map (SV.int .i64))) := sliceOf_all (by simp [hml])
      rw [hMn] at hso
      simp only [c70r15, hMn, hso, ints, go_sem, ↓reduceIte, reduceCtorEq, Nat.reduceAdd, Nat.reduceSub, Nat.reduceLT, Nat.reduceLeDiff]
end Go.Proofs.Ytglmjdpmpgphkaa.Sk

/- Contracts of functions: ways, as the document has them, and both asked for. -/
namespace Go.Proofs.Ytglmjdpmpgphkaa.Sk
open Go Go.E Go.E.Sm
set_option maxRecDepth 10000

theorem k91 {pl wn : List Bool} {mv : List (List Int)} {D : List Int} {i : Nat} {want : Int} (hi : i < mv.length) (hD : D.length = mv.length) (hin : inside mv.length (mv.getD i [])) :
    E.Fn Try.prog 91 [mach pl mv wn, .int .i64 i, .int .i64 want, ints D] [.int .i64 (((mv.getD i []).find? fun k => decide (getI D k = want)).getD (-1))] := by
  refine fn_of_row okf91 ?_
  have hm : mv[i]? = some (mv.getD i []) := by rw [List.getD_eq_getElem?_getD, List.getElem?_eq_getElem hi, Option.getD_some]
  generalize mv.getD i [] = l at *
  generalize hq : (fun k => decide (getI D k = want)) = q
  have hq' : ∀ x, q x = decide (getI D x = want) := fun x => by rw [← hq]
  simp only [FRow.start, f91, c91r0, c91r1, mach, bools, ints, go_sem, ↓reduceIte, reduceCtorEq, Nat.reduceAdd, Nat.reduceSub, Nat.reduceLT, Nat.reduceLeDiff]
  refine loop_rule (fun n τ => ∃ j : Nat, n = l.length - j ∧ j ≤ l.length ∧ l.find? q = (l.drop j).find? q ∧
    τ = ⟨[.any, .s (.int .i64 i), .s (.int .i64 want), .s (.slice (D.map (.int .i64))), .s (.ptr [.slice (pl.map .bool), .slice (mv.map ints), .slice (wn.map .bool)]), .any, .any, .any, .any, .s (.int .i64 j), .any, .any, .any, .any, .any, .any, .any, .any, .any, .any, .any, .any, .any, .any, .any, .any, .any, .any, .any, .any, .any, .any, .any, .any, .any, .any, .any, .any, .any, .any, .any], []⟩) l.length rfl ?_ ?_
  · simp only [c91l6m, go_sem, ↓reduceIte, reduceCtorEq, Nat.reduceAdd, Nat.reduceSub, Nat.reduceLT, Nat.reduceLeDiff]
    exact ⟨0, rfl, Nat.zero_le _, rfl, rfl⟩
  · rintro I n τ ⟨j, rfl, hj, hf, rfl⟩ hI
    simp only [c91l6, c91r2, hm, hi, ints, go_sem, ↓reduceIte, reduceCtorEq, Nat.reduceAdd, Nat.reduceSub, Nat.reduceLT, Nat.reduceLeDiff]
    intro hll
    have hll' : (l.length : Int) ≤ 2 ^ 63 - 1 := Int.le_trans (Int.ofNat_le.mpr hll) maxLen_le
    refine ⟨fun hlt => ?_, fun hge => ?_⟩
    · have hx : l[j]? = some l[j] := List.getElem?_eq_getElem hlt
      have hdrop : l.drop j = l[j] :: l.drop (j + 1) := List.drop_eq_getElem_cons hlt
      have hxi := hin _ (List.getElem_mem hlt)
      rw [hdrop, List.find?_cons] at hf
      generalize l[j] = x at *
      have hg := getI_get (W := D) hxi.1 (by omega)
      have hx0 : x.toNat < D.length := by omega
      simp only [c91r3, hm, hi, hx, hlt, hg, hx0, ints, go_sem, ↓reduceIte, reduceCtorEq, Nat.reduceAdd, Nat.reduceSub, Nat.reduceLT, Nat.reduceLeDiff]
      refine ⟨hxi.1, fun he => ?_, fun he => ?_⟩
      · rw [hq', decide_eq_true he] at hf
        simp only at hf
        simp only [c91r4, hm, hi, hx, hlt, hf, ints, Option.getD_some, go_sem, ↓reduceIte, reduceCtorEq, Nat.reduceAdd, Nat.reduceSub, Nat.reduceLT, Nat.reduceLeDiff]
      · rw [hq', decide_eq_false he] at hf
        simp only at hf
        simp only [c91r5, c91l6m, go_sem, ↓reduceIte, reduceCtorEq, Nat.reduceAdd, Nat.reduceSub, Nat.reduceLT, Nat.reduceLeDiff]
        exact ⟨inR_i64 (by omega) (by omega), hI (l.length - (j + 1)) _ (by omega) ⟨j + 1, rfl, by omega, hf, by simp⟩⟩
    · have hje : j = l.length := by omega
      subst hje
      rw [List.drop_length, List.find?_nil] at hf
      simp only [c91r7, hf, Option.getD_none, go_sem, ↓reduceIte, reduceCtorEq, Nat.reduceAdd, Nat.reduceSub, Nat.reduceLT, Nat.reduceLeDiff]

theorem range_map_succ (v : Nat → Int) (i : Nat) : (List.range (i + 1)).map v = (List.range i).map v ++ [v i] := by rw [List.range_succ, List.map_append]; rfl

theorem k71 {pl wn : List Bool} {mv : List (List Int)} (hv : Valid pl mv wn) : E.Fn Try.prog 71 [mach pl mv wn] [ints (wayL pl mv wn true)] := by
  refine fn_of_row okf71 ?_
  have h1 := hv.few
  have hdl := distW_len hv
  have hrng := fun k => distW_rng (pl := pl) (mv := mv) (wn := wn) k
  unfold wayL
  simp only [FRow.start, f71, c71r0, c71r1, mach, bools, go_sem, ↓reduceIte, reduceCtorEq, Nat.reduceAdd, Nat.reduceSub, Nat.reduceLT, Nat.reduceLeDiff]
  refine callK_of rfl (k59 hv.pos hv.few hv.pl hv.wn hv.ins) (.inr rfl) ?_
  generalize hD : distW pl mv wn = D at *
  have hvd : ∀ i : Nat, wayV pl mv D true i = if pl.getD i false ≠ true ∨ getI D i = 0 ∨ (true = true ∧ getI D i < 0) then -1 else ((mv.getD i []).find? fun k => decide (getI D k = if getI D i < 0 then -1 else getI D i - 1)).getD (-1) := fun i => rfl
  generalize wayV pl mv D true = v at *
  simp only [c71r2, c71r3, ints, go_sem, ↓reduceIte, reduceCtorEq, Nat.reduceAdd, Nat.reduceSub, Nat.reduceLT, Nat.reduceLeDiff]
  refine loop_rule (fun n τ => ∃ i : Nat, n = mv.length - i ∧ i ≤ mv.length ∧
    τ = ⟨[.any, .s (.ptr [.slice (pl.map .bool), .slice (mv.map ints), .slice (wn.map .bool)]), .any, .s (.slice (D.map (.int .i64))), .sl 0 0 i 1 false, .s (.int .i64 i), .any, .any, .any, .any, .any, .any, .any, .any, .any, .any, .any, .any, .any, .any, .any, .any, .any, .any, .any, .any, .any, .any, .any, .any, .any, .any, .any, .any, .any, .any, .any, .any, .any, .any, .any], [.row (((List.range i).map v).map (SV.int .i64))]⟩) mv.length (promo_one rfl) ?_ ?_
  · simp only [c71l10m, go_sem, ↓reduceIte, reduceCtorEq, Nat.reduceAdd, Nat.reduceSub, Nat.reduceLT, Nat.reduceLeDiff]
    exact ⟨0, rfl, Nat.zero_le _, by simp⟩
  · rintro I n τ ⟨i, rfl, hi, rfl⟩ hI
    have hrs := range_map_succ v i
    have hrl : ((List.range i).map v).length = i := by simp
    generalize hO : (List.range i).map v = O at *
    simp only [c71l10, c71r4, hdl, go_sem, ↓reduceIte, reduceCtorEq, Nat.reduceAdd, Nat.reduceSub, Nat.reduceLT, Nat.reduceLeDiff]
    intro _
    refine ⟨fun hlt => ?_, fun hge => ?_⟩
    · have hlt' : i < mv.length := by omega
      obtain ⟨hm, hp, hw, hm2, hp2, hw2, hins⟩ := hv.at' hlt'
      have hg := getI_nat (W := D) (i := i) (by omega)
      have hd2 : i < D.length := by omega
      have hvi := hvd i
      have hri := hrng i
      have k := fun want : Int => k91 (pl := pl) (wn := wn) (want := want) hlt' hdl hins
      have goOn : ∀ y, v i = y → I ⟨[.any, .s (.ptr [.slice (pl.map .bool), .slice (mv.map ints), .slice (wn.map .bool)]), .any, .s (.slice (D.map (.int .i64))), .sl 0 0 (i + 1) 1 false, .s (.int .i64 (i + 1)), .any, .any, .any, .any, .any, .any, .any, .any, .any, .any, .any, .any, .any, .any, .any, .any, .any, .any, .any, .any, .any, .any, .any, .any, .any, .any, .any, .any, .any, .any, .any, .any, .any, .any, .any], [.row ((O ++ [y]).map (SV.int .i64))]⟩ := fun y hy => by
        subst hy
        exact hI (mv.length - (i + 1)) _ (by omega) ⟨i + 1, rfl, by omega, by rw [hrs]; simp⟩
      generalize mv.getD i [] = l at *
      generalize pl.getD i false = b at *
      cases b with
      | true =>
        simp only [c71r5, c71r6, hp, hp2, hg, hd2, go_sem, ↓reduceIte, reduceCtorEq, Nat.reduceAdd, Nat.reduceSub, Nat.reduceLT, Nat.reduceLeDiff]
        refine ⟨fun hpos => ?_, fun hpos => ?_⟩
        · rw [if_neg (by simp; omega), if_neg (by omega)] at hvi
          simp only [c71r7, hg, hd2, go_sem, ↓reduceIte, reduceCtorEq, Nat.reduceAdd, Nat.reduceSub, Nat.reduceLT, Nat.reduceLeDiff]
          refine ⟨inR_i64 (by omega) (by omega), callK_of rfl (k _) (.inl rfl) ?_⟩
          simp only [c71r8, go_sem, ↓reduceIte, reduceCtorEq, Nat.reduceAdd, Nat.reduceSub, Nat.reduceLT, Nat.reduceLeDiff]
          refine ⟨by decide, by decide, rfl, one1, one1, by omega, by omega, by omega, ?_⟩
          rw [app_map]
          simp only [c71r9, c71l10m, go_sem, ↓reduceIte, reduceCtorEq, Nat.reduceAdd, Nat.reduceSub, Nat.reduceLT, Nat.reduceLeDiff]
          exact ⟨inR_i64 (by omega) (by omega), goOn _ hvi⟩
        · have h0 : getI D i = 0 ∨ getI D i < 0 := by omega
          rw [if_pos (by rcases h0 with h | h; exact .inr (.inl h); exact .inr (.inr ⟨rfl, h⟩))] at hvi
          simp only [c71r8, go_sem, ↓reduceIte, reduceCtorEq, Nat.reduceAdd, Nat.reduceSub, Nat.reduceLT, Nat.reduceLeDiff]
          refine ⟨by decide, by decide, rfl, one1, one1, by omega, by omega, by omega, ?_⟩
          rw [app_map]
          simp only [c71r9, c71l10m, go_sem, ↓reduceIte, reduceCtorEq, Nat.reduceAdd, Nat.reduceSub, Nat.reduceLT, Nat.reduceLeDiff]
          exact ⟨inR_i64 (by omega) (by omega), goOn _ hvi⟩
      | false =>
        rw [if_pos (.inl (by simp))] at hvi
        simp only [c71r5, c71r6, hp, hp2, c71r8, go_sem, ↓reduceIte, reduceCtorEq, Nat.reduceAdd, Nat.reduceSub, Nat.reduceLT, Nat.reduceLeDiff]
        refine ⟨by decide, by decide, rfl, one1, one1, by omega, by omega, by omega, ?_⟩
        rw [app_map]
        simp only [c71r9, c71l10m, go_sem, ↓reduceIte, reduceCtorEq, Nat.reduceAdd, Nat.reduceSub, Nat.reduceLT, Nat.reduceLeDiff]
        exact ⟨inR_i64 (by omega) (by omega), goOn _ hvi⟩
    · have hie : i = mv.length := by omega
      subst hie
      have hso : sliceOf 0 mv.length 1 (O.map (SV.int .i64)) = some (.slice (O.map (SV.int .i64))) := sliceOf_all (by simp [hrl])
      simp only [c71r11, hso, hO, go_sem, ↓reduceIte, reduceCtorEq, Nat.reduceAdd, Nat.reduceSub, Nat.reduceLT, Nat.reduceLeDiff]

theorem k72 {pl wn : List Bool} {mv : List (List Int)} (hv : Valid pl mv wn) : E.Fn Try.prog 72 [mach pl mv wn] [ints (wayL pl mv wn false)] := by
  refine fn_of_row okf72 ?_
  have h1 := hv.few
  have hdl := distW_len hv
  have hrng := fun k => distW_rng (pl := pl) (mv := mv) (wn := wn) k
  unfold wayL
  simp only [FRow.start, f72, c72r0, c72r1, mach, bools, go_sem, ↓reduceIte, reduceCtorEq, Nat.reduceAdd, Nat.reduceSub, Nat.reduceLT, Nat.reduceLeDiff]
  refine callK_of rfl (k59 hv.pos hv.few hv.pl hv.wn hv.ins) (.inr rfl) ?_
  generalize hD : distW pl mv wn = D at *
  have hvd : ∀ i : Nat, wayV pl mv D false i = if pl.getD i false ≠ false ∨ getI D i = 0 ∨ (false = true ∧ getI D i < 0) then -1 else ((mv.getD i []).find? fun k => decide (getI D k = if getI D i < 0 then -1 else getI D i - 1)).getD (-1) := fun i => rfl
  generalize wayV pl mv D false = v at *
  simp only [c72r2, c72r3, ints, go_sem, ↓reduceIte, reduceCtorEq, Nat.reduceAdd, Nat.reduceSub, Nat.reduceLT, Nat.reduceLeDiff]
  refine loop_rule (fun n τ => ∃ i : Nat, n = mv.length - i ∧ i ≤ mv.length ∧
    τ = ⟨[.any, .s (.ptr [.slice (pl.map .bool), .slice (mv.map ints), .slice (wn.map .bool)]), .any, .s (.slice (D.map (.int .i64))), .sl 0 0 i 1 false, .s (.int .i64 i), .any, .any, .any, .any, .any, .any, .any, .any, .any, .any, .any, .any, .any, .any, .any, .any, .any, .any, .any, .any, .any, .any, .any, .any, .any, .any, .any, .any, .any, .any, .any, .any, .any, .any, .any, .any, .any], [.row (((List.range i).map v).map (SV.int .i64))]⟩) mv.length (promo_one rfl) ?_ ?_
  · simp only [c72l10m, go_sem, ↓reduceIte, reduceCtorEq, Nat.reduceAdd, Nat.reduceSub, Nat.reduceLT, Nat.reduceLeDiff]
    exact ⟨0, rfl, Nat.zero_le _, by simp⟩
  · rintro I n τ ⟨i, rfl, hi, rfl⟩ hI
    have hrs := range_map_succ v i
    have hrl : ((List.range i).map v).length = i := by simp
    generalize hO : (List.range i).map v = O at *
    simp only [c72l10, c72r4, hdl, go_sem, ↓reduceIte, reduceCtorEq, Nat.reduceAdd, Nat.reduceSub, Nat.reduceLT, Nat.reduceLeDiff]
    intro _
    refine ⟨fun hlt => ?_, fun hge => ?_⟩
    · have hlt' : i < mv.length := by omega
      obtain ⟨hm, hp, hw, hm2, hp2, hw2, hins⟩ := hv.at' hlt'
      have hg := getI_nat (W := D) (i := i) (by omega)
      have hd2 : i < D.length := by omega
      have hvi := hvd i
      have hri := hrng i
      have k := fun want : Int => k91 (pl := pl) (wn := wn) (want := want) hlt' hdl hins
      have goOn : ∀ y, v i = y → I ⟨[.any, .s (.ptr [.slice (pl.map .bool), .slice (mv.map ints), .slice (wn.map .bool)]), .any, .s (.slice (D.map (.int .i64))), .sl 0 0 (i + 1) 1 false, .s (.int .i64 (i + 1)), .any, .any, .any, .any, .any, .any, .any, .any, .any, .any, .any, .any, .any, .any, .any, .any, .any, .any, .any, .any, .any, .any, .any, .any, .any, .any, .any, .any, .any, .any, .any, .any, .any, .any, .any, .any, .any], [.row ((O ++ [y]).map (SV.int .i64))]⟩ := fun y hy => by
        subst hy
        exact hI (mv.length - (i + 1)) _ (by omega) ⟨i + 1, rfl, by omega, by rw [hrs]; simp⟩
      generalize mv.getD i [] = l at *
      generalize pl.getD i false = b at *
      cases b with
      | true =>
        rw [if_pos (.inl (by simp))] at hvi
        simp only [c72r5, c72r6, hp, hp2, c72r8, go_sem, ↓reduceIte, reduceCtorEq, Nat.reduceAdd, Nat.reduceSub, Nat.reduceLT, Nat.reduceLeDiff]
        refine ⟨by decide, by decide, rfl, one1, one1, by omega, by omega, by omega, ?_⟩
        rw [app_map]
        simp only [c72r9, c72l10m, go_sem, ↓reduceIte, reduceCtorEq, Nat.reduceAdd, Nat.reduceSub, Nat.reduceLT, Nat.reduceLeDiff]
        exact ⟨inR_i64 (by omega) (by omega), goOn _ hvi⟩
      | false =>
        simp only [c72r5, c72r6, hp, hp2, hg, hd2, go_sem, ↓reduceIte, reduceCtorEq, Nat.reduceAdd, Nat.reduceSub, Nat.reduceLT, Nat.reduceLeDiff]
        refine ⟨fun hz => ?_, fun hz => ?_⟩
        · rw [if_pos (.inr (.inl hz))] at hvi
          simp only [c72r8, go_sem, ↓reduceIte, reduceCtorEq, Nat.reduceAdd, Nat.reduceSub, Nat.reduceLT, Nat.reduceLeDiff]
          refine ⟨by decide, by decide, rfl, one1, one1, by omega, by omega, by omega, ?_⟩
          rw [app_map]
          simp only [c72r9, c72l10m, go_sem, ↓reduceIte, reduceCtorEq, Nat.reduceAdd, Nat.reduceSub, Nat.reduceLT, Nat.reduceLeDiff]
          exact ⟨inR_i64 (by omega) (by omega), goOn _ hvi⟩
        · rw [if_neg (by simp [hz])] at hvi
          have hmx : (if getI D i - 1 > -1 then getI D i - 1 else -1) = if getI D i < 0 then -1 else getI D i - 1 := by
            split <;> split <;> omega
          simp only [c72r7, hg, hd2, maxL, List.foldl_cons, List.foldl_nil, go_sem, ↓reduceIte, reduceCtorEq, Nat.reduceAdd, Nat.reduceSub, Nat.reduceLT, Nat.reduceLeDiff]
          refine ⟨inR_i64 (by omega) (by omega), by simp, ?_⟩
          rw [hmx]
          refine callK_of rfl (k _) (.inl rfl) ?_
          simp only [c72r8, go_sem, ↓reduceIte, reduceCtorEq, Nat.reduceAdd, Nat.reduceSub, Nat.reduceLT, Nat.reduceLeDiff]
          refine ⟨by decide, by decide, rfl, one1, one1, by omega, by omega, by omega, ?_⟩
          rw [app_map]
          simp only [c72r9, c72l10m, go_sem, ↓reduceIte, reduceCtorEq, Nat.reduceAdd, Nat.reduceSub, Nat.reduceLT, Nat.reduceLeDiff]
          exact ⟨inR_i64 (by omega) (by omega), goOn _ hvi⟩
    · have hie : i = mv.length := by omega
      subst hie
      have hso : sliceOf 0 mv.length 1 (O.map (SV.int .i64)) = some (.slice (O.map (SV.int .i64))) := sliceOf_all (by simp [hrl])
      simp only [c72r11, hso, hO, go_sem, ↓reduceIte, reduceCtorEq, Nat.reduceAdd, Nat.reduceSub, Nat.reduceLT, Nat.reduceLeDiff]

def waysR (pl : List Bool) (mv : List (List Int)) (wn : List Bool) (p : Bool) : List SV := if chkM pl mv wn = 0 then [ints (wayL pl mv wn p), .int .i64 0] else [.slice [], .int .i64 (chkM pl mv wn)]

theorem k29 {pl wn : List Bool} {mv : List (List Int)} : E.Fn Try.prog 29 [mach pl mv wn] (waysR pl mv wn true) := by
  refine fn_of_row okf29 ?_
  unfold waysR
  by_cases h : chkM pl mv wn = 0
  · have hv := valid_of h
    simp only [FRow.start, f29, c29r0, c29r1, mach, bools, h, go_sem, ↓reduceIte, reduceCtorEq, Nat.reduceAdd, Nat.reduceSub, Nat.reduceLT, Nat.reduceLeDiff]
    refine callK_of rfl (k58 (ps := []) hv rfl) (.inr rfl) ?_
    simp only [c29r2, c29r4, go_sem, ↓reduceIte, reduceCtorEq, Nat.reduceAdd, Nat.reduceSub, Nat.reduceLT, Nat.reduceLeDiff]
    refine callK_of rfl (k70 hv) (.inr rfl) ?_
    simp only [ints, go_sem, ↓reduceIte, reduceCtorEq, Nat.reduceAdd, Nat.reduceSub, Nat.reduceLT, Nat.reduceLeDiff]
  · simp only [FRow.start, f29, c29r0, c29r1, mach, bools, h, go_sem, ↓reduceIte, reduceCtorEq, Nat.reduceAdd, Nat.reduceSub, Nat.reduceLT, Nat.reduceLeDiff]
    refine callK_of rfl (k58e (ps := []) h) (.inl rfl) ?_
    simp only [c29r2, h, c29r3, go_sem, ↓reduceIte, reduceCtorEq, Nat.reduceAdd, Nat.reduceSub, Nat.reduceLT, Nat.reduceLeDiff]
theorem k31 {pl wn : List Bool} {mv : List (List Int)} : E.Fn Try.prog 31 [mach pl mv wn] (waysR pl mv wn false) := by
  refine fn_of_row okf31 ?_
  unfold waysR
  by_cases h : chkM pl mv wn = 0
  · have hv := valid_of h
    simp only [FRow.start, f31, c31r0, c31r1, mach, bools, h, go_sem, ↓reduceIte, reduceCtorEq, Nat.reduceAdd, Nat.reduceSub, Nat.reduceLT, Nat.reduceLeDiff]
    refine callK_of rfl (k58 (ps := []) hv rfl) (.inr rfl) ?_
    simp only [c31r2, c31r4, go_sem, ↓reduceIte, reduceCtorEq, Nat.reduceAdd, Nat.reduceSub, Nat.reduceLT, Nat.reduceLeDiff]
    refine callK_of rfl (k70 hv) (.inr rfl) ?_
    simp only [ints, go_sem, ↓reduceIte, reduceCtorEq, Nat.reduceAdd, Nat.reduceSub, Nat.reduceLT, Nat.reduceLeDiff]
  · simp only [FRow.start, f31, c31r0, c31r1, mach, bools, h, go_sem, ↓reduceIte, reduceCtorEq, Nat.reduceAdd, Nat.reduceSub, Nat.reduceLT, Nat.reduceLeDiff]
    refine callK_of rfl (k58e (ps := []) h) (.inl rfl) ?_
    simp only [c31r2, h, c31r3, go_sem, ↓reduceIte, reduceCtorEq, Nat.reduceAdd, Nat.reduceSub, Nat.reduceLT, Nat.reduceLeDiff]
theorem k30 {pl wn : List Bool} {mv : List (List Int)} : E.Fn Try.prog 30 [mach pl mv wn] (waysR pl mv wn true) := by
  refine fn_of_row okf30 ?_
  unfold waysR
  simp only [FRow.start, f30, c30r0, c30r1, mach, bools, go_sem, ↓reduceIte, reduceCtorEq, Nat.reduceAdd, Nat.reduceSub, Nat.reduceLT, Nat.reduceLeDiff]
  refine callK_of rfl (k21 (pl := pl) (mv := mv) (wn := wn)) (.inl rfl) ?_
  by_cases h : chkM pl mv wn = 0
  · have hv := valid_of h
    simp only [h, c30r3, go_sem, ↓reduceIte, reduceCtorEq, Nat.reduceAdd, Nat.reduceSub, Nat.reduceLT, Nat.reduceLeDiff]
    refine callK_of rfl (k71 hv) (.inr rfl) ?_
    simp only [ints, go_sem, ↓reduceIte, reduceCtorEq, Nat.reduceAdd, Nat.reduceSub, Nat.reduceLT, Nat.reduceLeDiff]
  · simp only [h, c30r2, go_sem, ↓reduceIte, reduceCtorEq, Nat.reduceAdd, Nat.reduceSub, Nat.reduceLT, Nat.reduceLeDiff]
    refine callK_of rfl (k21 (pl := pl) (mv := mv) (wn := wn)) (.inl rfl) ?_
    simp only [go_sem, ↓reduceIte, reduceCtorEq, Nat.reduceAdd, Nat.reduceSub, Nat.reduceLT, Nat.reduceLeDiff]
theorem k32 {pl wn : List Bool} {mv : List (List Int)} : E.Fn Try.prog 32 [mach pl mv wn] (waysR pl mv wn false) := by
  refine fn_of_row okf32 ?_
  unfold waysR
  simp only [FRow.start, f32, c32r0, c32r1, mach, bools, go_sem, ↓reduceIte, reduceCtorEq, Nat.reduceAdd, Nat.reduceSub, Nat.reduceLT, Nat.reduceLeDiff]
  refine callK_of rfl (k21 (pl := pl) (mv := mv) (wn := wn)) (.inl rfl) ?_
  by_cases h : chkM pl mv wn = 0
  · have hv := valid_of h
    simp only [h, c32r3, go_sem, ↓reduceIte, reduceCtorEq, Nat.reduceAdd, Nat.reduceSub, Nat.reduceLT, Nat.reduceLeDiff]
    refine callK_of rfl (k72 hv) (.inr rfl) ?_
    simp only [ints, go_sem, ↓reduceIte, reduceCtorEq, Nat.reduceAdd, Nat.reduceSub, Nat.reduceLT, Nat.reduceLeDiff]
  · simp only [h, c32r2, go_sem, ↓reduceIte, reduceCtorEq, Nat.reduceAdd, Nat.reduceSub, Nat.reduceLT, Nat.reduceLeDiff]
    refine callK_of rfl (k21 (pl := pl) (mv := mv) (wn := wn)) (.inl rfl) ?_
    simp only [go_sem, ↓reduceIte, reduceCtorEq, Nat.reduceAdd, Nat.reduceSub, Nat.reduceLT, Nat.reduceLeDiff]
theorem waysR_eq (pl : List Bool) (mv : List (List Int)) (wn : List Bool) (p : Bool) : ∃ (D : List Int) (e : Int), waysR pl mv wn p = [ints D, .int .i64 e] := by
  unfold waysR
  split
  · exact ⟨_, _, rfl⟩
  · exact ⟨[], _, rfl⟩
end Go.Proofs.Ytglmjdpmpgphkaa.Sk
