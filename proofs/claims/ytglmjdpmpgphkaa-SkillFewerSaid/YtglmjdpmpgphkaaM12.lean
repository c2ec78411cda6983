/- Contracts of functions: what ranks prove, and keeps. -/
import Derived.Test.YtglmjdpmpgphkaaM11
import Derived.Shelf.SlLaysF0
import Derived.Shelf.SlSortCmp.NoneTotal
import Derived.Test.YtglmjdpmpgphkaaProg

set_option linter.all false

namespace Go.Proofs.Ytglmjdpmpgphkaa.Sk
open Go Go.E Go.E.Sm
set_option maxRecDepth 10000

def hasL (l : List Int) (n : Int) : Bool := l.any fun x => decide (n = x)

theorem hasL_cons (x : Int) (l : List Int) (v : Int) : hasL (x :: l) v = (decide (v = x) || hasL l v) := rfl

theorem k49 {xs : List Int} {v : Int} : E.Fn Try.prog 49 [ints xs, .int .i64 v] [.bool (hasL xs v)] := by
  refine fn_of_row okf49 ?_
  simp only [FRow.start, f49, c49r0, c49r1, ints, go_sem, ↓reduceIte, reduceCtorEq, Nat.reduceAdd, Nat.reduceSub, Nat.reduceLT, Nat.reduceLeDiff]
  refine loop_rule (fun n τ => ∃ i : Nat, n = xs.length - i ∧ i ≤ xs.length ∧ hasL xs v = hasL (xs.drop i) v ∧
    τ = ⟨[.s (.slice (xs.map (.int .i64))), .s (.int .i64 v), .any, .any, .any, .s (.int .i64 i), .any, .any, .any, .any, .any, .any, .any, .any, .any, .any, .any, .any], []⟩) xs.length rfl ?_ ?_
  · simp only [c49l6m, go_sem, ↓reduceIte, reduceCtorEq, Nat.reduceAdd, Nat.reduceSub, Nat.reduceLT, Nat.reduceLeDiff]
    exact ⟨0, rfl, Nat.zero_le _, rfl, rfl⟩
  · rintro I n τ ⟨i, rfl, hi, hr, rfl⟩ hI
    simp only [c49l6, c49r2, go_sem, ↓reduceIte, reduceCtorEq, Nat.reduceAdd, Nat.reduceSub, Nat.reduceLT, Nat.reduceLeDiff]
    intro hlen
    have hlen' : (xs.length : Int) ≤ 2 ^ 63 - 1 := Int.le_trans (Int.ofNat_le.mpr hlen) maxLen_le
    refine ⟨fun hlt => ?_, fun hge => ?_⟩
    · have hx : xs[i]? = some xs[i] := List.getElem?_eq_getElem hlt
      have hdrop : xs.drop i = xs[i] :: xs.drop (i + 1) := List.drop_eq_getElem_cons hlt
      rw [hdrop, hasL_cons] at hr
      generalize xs[i] = x at *
      simp only [c49r3, hx, hlt, go_sem, ↓reduceIte, reduceCtorEq, Nat.reduceAdd, Nat.reduceSub, Nat.reduceLT, Nat.reduceLeDiff]
      refine ⟨fun he => ?_, fun he => ?_⟩
      · have : hasL xs v = true := by rw [hr]; simp [he]
        simp only [c49r4, this, go_sem, ↓reduceIte, reduceCtorEq, Nat.reduceAdd, Nat.reduceSub, Nat.reduceLT, Nat.reduceLeDiff]
      · have hne : decide (v = x) = false := by simpa using fun h => he (Eq.symm h)
        have : hasL xs v = hasL (xs.drop (i + 1)) v := by rw [hr, hne, Bool.false_or]
        simp only [c49r5, c49l6m, go_sem, ↓reduceIte, reduceCtorEq, Nat.reduceAdd, Nat.reduceSub, Nat.reduceLT, Nat.reduceLeDiff]
        exact ⟨inR_i64 (by omega) (by omega), hI (xs.length - (i + 1)) _ (by omega) ⟨i + 1, rfl, by omega, this, by simp⟩⟩
    · have hie : i = xs.length := by omega
      subst hie
      simp only [List.drop_length, hasL, List.any_nil] at hr
      have : hasL xs v = false := hr
      simp only [c49r7, this, go_sem, ↓reduceIte, reduceCtorEq, Nat.reduceAdd, Nat.reduceSub, Nat.reduceLT, Nat.reduceLeDiff]

def lessB (R : List Int) (rank to : Int) : Bool := decide (0 ≤ getI R to) && decide (getI R to < rank)

def outP (q : Int → Bool) (i : Nat) : List Int := ((List.range i).map fun j : Nat => (j : Int)).filter q
theorem outP_succ (q : Int → Bool) (i : Nat) : outP q (i + 1) = if q i = true then outP q i ++ [(i : Int)] else outP q i := by
  unfold outP
  rw [List.range_succ, List.map_append, List.filter_append]
  simp only [List.map_cons, List.map_nil, List.filter_cons, List.filter_nil]
  split <;> simp
theorem outP_len (q : Int → Bool) (i : Nat) : (outP q i).length ≤ i := by
  unfold outP
  refine Nat.le_trans (List.length_filter_le _ _) (by simp)

theorem one1 {x : Int} : ∀ e ∈ [SV.int .i64 x], e.cells.length = 1 := by simp [SV.cells]
theorem app_map {O : List Int} {x : Int} : O.map (SV.int .i64) ++ flatE [SV.int .i64 x] = (O ++ [x]).map (SV.int .i64) := by simp [flatE, SV.cells]

end Go.Proofs.Ytglmjdpmpgphkaa.Sk

/- Contracts of functions: ways of playing. -/
namespace Go.Proofs.Ytglmjdpmpgphkaa.Sk
open Go Go.E Go.E.Sm
set_option maxRecDepth 10000

theorem all_succ {q : Nat → Bool} {i : Nat} (h : (List.range i).all q = true) (h2 : q i = true) : (List.range (i + 1)).all q = true := by
  rw [List.range_succ, List.all_append, h]; simp [h2]
theorem all_not {q : Nat → Bool} {i n : Nat} (h : i < n) (h2 : q i = false) : (List.range n).all q = false := by
  rw [Bool.eq_false_iff]
  intro h3
  rw [List.all_eq_true] at h3
  have := h3 i (by simpa using h)
  rw [h2] at this; cases this

structure At (pl : List Bool) (mv : List (List Int)) (wn : List Bool) (i : Nat) : Prop where
  hm : mv[i]? = some (mv.getD i [])
  hp : pl[i]? = some (pl.getD i false)
  hw : wn[i]? = some (wn.getD i false)
  m2 : i < mv.length
  p2 : i < pl.length
  w2 : i < wn.length
  ins : inside mv.length (mv.getD i [])
theorem Valid.at' {pl wn : List Bool} {mv : List (List Int)} (hv : Valid pl mv wn) {i : Nat} (hi : i < mv.length) : At pl mv wn i := by
  have hp := hv.pl
  have hw := hv.wn
  have e : mv[i]? = some (mv.getD i []) := by rw [List.getD_eq_getElem?_getD, List.getElem?_eq_getElem hi, Option.getD_some]
  exact ⟨e, by rw [List.getD_eq_getElem?_getD, List.getElem?_eq_getElem (by omega), Option.getD_some], by rw [List.getD_eq_getElem?_getD, List.getElem?_eq_getElem (by omega), Option.getD_some], hi, by omega, by omega, hv.ins _ (List.mem_of_getElem? e)⟩
theorem getI_nat {W : List Int} {i : Nat} (h : i < W.length) : W[i]? = some (getI W i) := by
  have := getI_get (W := W) (x := i) (by omega) (by omega)
  rwa [Int.toNat_natCast] at this

end Go.Proofs.Ytglmjdpmpgphkaa.Sk

/- Contracts of functions: the ways of playing that are returned. -/
namespace Go.Proofs.Ytglmjdpmpgphkaa.Sk
open Go Go.E Go.E.Sm
set_option maxRecDepth 10000

end Go.Proofs.Ytglmjdpmpgphkaa.Sk

/- Contracts of functions: ways, as the document has them, and both asked for. -/
namespace Go.Proofs.Ytglmjdpmpgphkaa.Sk
open Go Go.E Go.E.Sm
set_option maxRecDepth 10000

end Go.Proofs.Ytglmjdpmpgphkaa.Sk

/- Contracts of functions: plays, and in how many moves the player wins. -/
namespace Go.Proofs.Ytglmjdpmpgphkaa.Sk
open Go Go.E Go.E.Sm
set_option maxRecDepth 10000

theorem two_ne : ((2 : Int) = 0) = False := by simp
def inN (n : Nat) (x : Int) : Bool := decide (0 ≤ x) && decide (x < n)
theorem inAll_one {n : Nat} {x : Int} : inAll 0 ((n : Int) - 1) [x] = inN n x := by
  simp only [inAll, inN, List.all_cons, List.all_nil, Bool.and_true]
  congr 1
  by_cases h : x < n
  · have : x ≤ (n : Int) - 1 := by omega
    simp [h, this]
  · have : ¬ x ≤ (n : Int) - 1 := by omega
    simp [h, this]

def sureR (pl : List Bool) (mv : List (List Int)) (wn : List Bool) (x : Int) : List SV :=
  if chkM pl mv wn ≠ 0 then [.int .i64 0, .int .i64 (chkM pl mv wn)] else if inN mv.length x = false then [.int .i64 0, .int .i64 2]
  else if getI (distW pl mv wn) x < 0 then [.int .i64 0, .int .i64 19] else [.int .i64 (getI (distW pl mv wn) x), .int .i64 0]

theorem k39 {pl wn : List Bool} {mv : List (List Int)} {x : Int} : E.Fn Try.prog 39 [mach pl mv wn, .int .i64 x] (sureR pl mv wn x) := by
  refine fn_of_row okf39 ?_
  unfold sureR
  simp only [FRow.start, f39, c39r0, c39r1, mach, bools, go_sem, ↓reduceIte, reduceCtorEq, Nat.reduceAdd, Nat.reduceSub, Nat.reduceLT, Nat.reduceLeDiff]
  refine ⟨by decide, by decide, rfl, one1, ?_⟩
  by_cases h : chkM pl mv wn = 0
  · have hv := valid_of h
    have h1 := hv.few
    have hdl := distW_len hv
    have hpl := pad_len (W := distW pl mv wn) (by omega)
    rw [if_neg (by simpa using h)]
    cases hx : inN mv.length x with
    | false =>
      refine callK_of rfl (k58p (ps := [x]) hv (by rw [inAll_one, hx])) (.inl rfl) ?_
      simp only [c39r2, two_ne, c39r3, go_sem, ↓reduceIte, reduceCtorEq, Nat.reduceAdd, Nat.reduceSub, Nat.reduceLT, Nat.reduceLeDiff]
    | true =>
      have hx' := hx
      simp only [inN, Bool.and_eq_true, decide_eq_true_eq] at hx'
      have hg := getI_get (W := pad (distW pl mv wn)) (x := x) hx'.1 (by omega)
      rw [getI_pad] at hg
      have h14 : x < 14 := by omega
      have hile : x.toNat ≤ (pad (distW pl mv wn)).length := by omega
      have hsel : (List.drop x.toNat (List.map (SV.int .i64) (pad (distW pl mv wn))))[0]? = some (.int .i64 (getI (distW pl mv wn) x)) := by
        rw [List.getElem?_drop, Nat.add_zero, List.getElem?_map, hg]; rfl
      refine callK_of rfl (k58 (ps := [x]) hv (by rw [inAll_one, hx])) (.inr rfl) ?_
      simp only [c39r2, boardV, c39r4, Nat.mul_one, go_sem, ↓reduceIte, reduceCtorEq, Nat.reduceAdd, Nat.reduceSub, Nat.reduceLT, Nat.reduceLeDiff]
      refine ⟨hx'.1, by omega, hile, ?_⟩
      simp only [hsel, go_sem, ↓reduceIte, reduceCtorEq, Nat.reduceAdd, Nat.reduceSub, Nat.reduceLT, Nat.reduceLeDiff]
      refine ⟨fun hn => ?_, fun hn => ?_⟩
      · simp only [c39r5, hn, go_sem, ↓reduceIte, reduceCtorEq, Nat.reduceAdd, Nat.reduceSub, Nat.reduceLT, Nat.reduceLeDiff]
      · simp only [c39r6, hn, Nat.mul_one, go_sem, ↓reduceIte, reduceCtorEq, Nat.reduceAdd, Nat.reduceSub, Nat.reduceLT, Nat.reduceLeDiff]
        refine ⟨hx'.1, by omega, hile, ?_⟩
        simp only [hsel, go_sem, ↓reduceIte, reduceCtorEq, Nat.reduceAdd, Nat.reduceSub, Nat.reduceLT, Nat.reduceLeDiff]
  · rw [if_pos h]
    refine callK_of rfl (k58e (ps := [x]) h) (.inl rfl) ?_
    simp only [c39r2, h, c39r3, go_sem, ↓reduceIte, reduceCtorEq, Nat.reduceAdd, Nat.reduceSub, Nat.reduceLT, Nat.reduceLeDiff]

/-! Plays. -/
structure IsWay (pl : List Bool) (mv : List (List Int)) (wn : List Bool) (p : Bool) (Y : List Int) : Prop where
  len : Y.length = mv.length
  ok : ∀ i, i < mv.length → getI Y i = -1 ∨ (wn.getD i false = false ∧ pl.getD i false = p ∧ hasL (mv.getD i []) (getI Y i) = true)
end Go.Proofs.Ytglmjdpmpgphkaa.Sk

/- Contracts of functions: copies, deleting, and whether the player wins by a way. -/
namespace Go.Proofs.Ytglmjdpmpgphkaa.Sk
open Go Go.E Go.E.Sm
set_option maxRecDepth 10000

theorem flatE_one_each {α : Type} {e : α → SV} (he : ∀ x, (e x).cells = [e x]) : ∀ (xs : List α), flatE (xs.map e) = xs.map e
  | [] => rfl
  | x :: xs => by
    have ih := flatE_one_each he xs
    simp only [flatE, List.map_cons, List.flatten_cons, he] at ih ⊢
    rw [ih]; rfl

theorem k75 {xs : List Int} (hx : xs.length ≤ 64) : E.FnNew Try.prog 75 1 [.slice (xs.map (SV.int .i64))] (xs.map (SV.int .i64)) := by
  refine new_of_row okf75 ?_
  have hfl : flatE (xs.map (SV.int .i64)) = xs.map (SV.int .i64) := flatE_one_each (fun _ => rfl) xs
  simp only [FRow.start, f75, c75r0, c75r1, c75r2, c75r3, go_sem, ↓reduceIte, reduceCtorEq, Nat.reduceAdd, Nat.reduceSub, Nat.reduceLT, Nat.reduceLeDiff]
  have hoc : ∀ y ∈ xs.map (SV.int .i64), y.cells.length = 1 := by
    intro y hy
    obtain ⟨x, _, rfl⟩ := List.mem_map.1 hy
    rfl
  refine ⟨fun he => ?_, by decide, by decide, rfl, by simp, ⟨by simp, hoc, by simp only [List.length_nil, List.length_map]; omega, by simp only [List.length_nil, List.length_map]; omega, by decide⟩, fun he => ?_, fun hne => ?_⟩
  · rw [he]; simp [finN, newOf, fget]
  · simp only [go_sem, ↓reduceIte, reduceCtorEq, Nat.reduceAdd, Nat.reduceSub, Nat.reduceLT, Nat.reduceLeDiff]
    rw [he]; simp [finN, newOf, fget]
  · simp only [hfl, go_sem, ↓reduceIte, reduceCtorEq, Nat.reduceAdd, Nat.reduceSub, Nat.reduceLT, Nat.reduceLeDiff]
    exact .inr ⟨rfl, _, rfl, by simp, hne, by rw [hfl]; simp, by simp, by rw [hfl]; simp only [Nat.mul_one, List.drop_zero]; exact (List.take_of_length_le (by simp)).symm⟩

theorem k73 {xs : List (List Int)} (hx : xs.length ≤ 64) : E.FnNew Try.prog 73 1 [.slice (xs.map ints)] (xs.map ints) := by
  refine new_of_row okf73 ?_
  have hfl : flatE (xs.map ints) = xs.map ints := flatE_one_each (fun _ => rfl) xs
  simp only [FRow.start, f73, c73r0, c73r1, c73r2, c73r3, go_sem, ↓reduceIte, reduceCtorEq, Nat.reduceAdd, Nat.reduceSub, Nat.reduceLT, Nat.reduceLeDiff]
  have hoc : ∀ y ∈ xs.map ints, y.cells.length = 1 := by
    intro y hy
    obtain ⟨x, _, rfl⟩ := List.mem_map.1 hy
    rfl
  refine ⟨fun he => ?_, by decide, by decide, rfl, by simp, ⟨by simp, hoc, by simp only [List.length_nil, List.length_map]; omega, by simp only [List.length_nil, List.length_map]; omega, by decide⟩, fun he => ?_, fun hne => ?_⟩
  · rw [he]; simp [finN, newOf, fget]
  · simp only [go_sem, ↓reduceIte, reduceCtorEq, Nat.reduceAdd, Nat.reduceSub, Nat.reduceLT, Nat.reduceLeDiff]
    rw [he]; simp [finN, newOf, fget]
  · simp only [hfl, go_sem, ↓reduceIte, reduceCtorEq, Nat.reduceAdd, Nat.reduceSub, Nat.reduceLT, Nat.reduceLeDiff]
    exact .inr ⟨rfl, _, rfl, by simp, hne, by rw [hfl]; simp, by simp, by rw [hfl]; simp only [Nat.mul_one, List.drop_zero]; exact (List.take_of_length_le (by simp)).symm⟩

def keepF (q : Int → Bool) (xs : List Int) : List Int := xs.filter fun x => !q x

theorem idx_some {q : Int → Bool} : ∀ (xs : List Int) (i : Int), xs.any q = true → ∃ (k : Nat) (x : Int), idx q xs i = i + k ∧ xs[k]? = some x ∧ q x = true ∧ keepF q (xs.take k) = xs.take k
  | [], i, h => by simp at h
  | x :: xs, i, h => by
    unfold idx
    by_cases hx : q x = true
    · rw [if_pos hx]
      exact ⟨0, x, by simp, rfl, hx, rfl⟩
    · rw [if_neg hx]
      simp only [List.any_cons, Bool.or_eq_true] at h
      obtain ⟨k, y, h1, h2, h3, h4⟩ := idx_some xs (i + 1) (h.resolve_left hx)
      refine ⟨k + 1, y, by rw [h1]; omega, h2, h3, ?_⟩
      rw [List.take_succ_cons, keepF, List.filter_cons, if_pos (by simpa using hx)]
      exact congrArg _ h4
theorem idx_none {q : Int → Bool} : ∀ (xs : List Int) (i : Int), xs.any q = false → idx q xs i = -1 ∧ keepF q xs = xs
  | [], i, _ => ⟨rfl, rfl⟩
  | x :: xs, i, h => by
    simp only [List.any_cons, Bool.or_eq_false_iff] at h
    obtain ⟨h1, h2⟩ := idx_none xs (i + 1) h.2
    refine ⟨by rw [idx, if_neg (by simp [h.1]), h1], ?_⟩
    rw [keepF, List.filter_cons, if_pos (by simp [h.1])]
    exact congrArg _ h2
theorem keepF_take {q : Int → Bool} {xs : List Int} {j : Nat} {x : Int} (h : xs[j]? = some x) : keepF q (xs.take (j + 1)) = if q x = true then keepF q (xs.take j) else keepF q (xs.take j) ++ [x] := by
  unfold keepF
  rw [List.take_succ, h, List.filter_append]
  simp only [Option.toList_some, List.filter_cons, List.filter_nil]
  cases q x <;> simp

theorem k74 {g : FuncId} {first caps : List SV} {xs : List Int} {q : Int → Bool} (hg : Ok1 g first caps) (hq : ∀ x ∈ xs, Asks g first caps (.int .i64 x) (q x)) (hl : xs.length ≤ 64) :
    E.CSem Try.prog 74 [.sl 0 0 xs.length 1 false, .s (.fn g first caps)] [.row (xs.map (SV.int .i64))] (.sl 0 0 (keepF q xs).length 1 false) [.row ((keepF q xs ++ List.replicate (xs.length - (keepF q xs).length) 0).map (SV.int .i64))] := by
  refine csem_of_row okf74 ?_
  have hso : sliceOf 0 xs.length 1 (xs.map (SV.int .i64)) = some (.slice (xs.map (SV.int .i64))) := sliceOf_all (by simp)
  simp only [FRow.start, f74, c74r0, c74r1, go_sem, ↓reduceIte, reduceCtorEq, Nat.reduceAdd, Nat.reduceSub, Nat.reduceLT, Nat.reduceLeDiff]
  refine callK_of (by simp only [hso, ints, go_sem, ↓reduceIte, reduceCtorEq, Nat.reduceAdd, Nat.reduceSub, Nat.reduceLT, Nat.reduceLeDiff]) (k92 hg hq) (.inl rfl) ?_
  cases ha : xs.any q with
  | false =>
    obtain ⟨h1, h2⟩ := idx_none xs 0 ha
    rw [h2]
    simp only [c74r2, h1, c74r3, go_sem, ↓reduceIte, reduceCtorEq, Nat.reduceAdd, Nat.reduceSub, Nat.reduceLT, Nat.reduceLeDiff]
    refine ⟨rfl, ?_⟩
    simp
    rfl
  | true =>
    obtain ⟨k, x0, h1, h2, h3, h4⟩ := idx_some xs 0 ha
    have hk := (List.getElem?_eq_some_iff.1 h2).1
    have hne : ((k : Int) = -1) = False := by simp
    rw [Int.zero_add] at h1
    simp only [c74r2, h1, hne, c74r4, go_sem, ↓reduceIte, reduceCtorEq, Nat.reduceAdd, Nat.reduceSub, Nat.reduceLT, Nat.reduceLeDiff]
    refine ⟨inR_i64 (by omega) (by omega), ?_⟩
    refine loop_rule (fun n τ => ∃ (j : Nat) (rs ws : List Int), n = xs.length - j ∧ j ≤ xs.length ∧ rs = keepF q (xs.take j) ∧ rs.length + ws.length = j ∧ 0 < ws.length ∧
      τ = ⟨[.sl 0 0 xs.length 1 false, .s (.fn g first caps), .any, .any, .any, .s (.int .i64 rs.length), .s (.int .i64 j), .any, .any, .any, .any, .any, .any, .any, .any, .any, .any, .any, .any, .any, .any, .any, .any, .any, .any, .any, .any, .any, .any, .any, .any, .any, .any, .any, .any, .any, .any, .any, .any, .any, .any, .any], [.row ((rs ++ ws ++ xs.drop j).map (SV.int .i64))]⟩) (xs.length - (k + 1)) rfl ?_ ?_
    · simp only [c74l11m, go_sem, ↓reduceIte, reduceCtorEq, Nat.reduceAdd, Nat.reduceSub, Nat.reduceLT, Nat.reduceLeDiff]
      have hkt : (xs.take k).length = k := by simp; omega
      refine ⟨k + 1, xs.take k, [x0], rfl, by omega, by rw [keepF_take h2, if_pos h3, h4], by simp [hkt], by simp, ?_⟩
      have : xs.take k ++ [x0] ++ xs.drop (k + 1) = xs := by
        rw [show xs.take k ++ [x0] = xs.take (k + 1) by rw [List.take_succ, h2]; rfl, List.take_append_drop]
      rw [this, hkt]
      simp
    · rintro I n τ ⟨j, rs, ws, rfl, hj, hrs, hrw, hw0, rfl⟩ hI
      simp only [c74l11, c74r5, go_sem, ↓reduceIte, reduceCtorEq, Nat.reduceAdd, Nat.reduceSub, Nat.reduceLT, Nat.reduceLeDiff]
      intro hxl
      refine ⟨fun hlt => ?_, fun hge => ?_⟩
      · have hx : xs[j]? = some xs[j] := List.getElem?_eq_getElem hlt
        have hqx := hq _ (List.getElem_mem hlt)
        have hdrop : xs.drop j = xs[j] :: xs.drop (j + 1) := List.drop_eq_getElem_cons hlt
        have hks := keepF_take (q := q) hx
        rw [← hrs] at hks
        generalize xs[j] = x at *
        have hrow : (rs ++ ws ++ xs.drop j)[j]? = some x := by
          rw [List.getElem?_append_right (by simp; omega), hdrop]
          have : j - (rs ++ ws).length = 0 := by simp; omega
          rw [this]; rfl
        simp only [c74r6, Nat.mul_one, Nat.zero_add, hrow, go_sem, ↓reduceIte, reduceCtorEq, Nat.reduceAdd, Nat.reduceSub, Nat.reduceLT, Nat.reduceLeDiff]
        refine ⟨by omega, ?_⟩
        simp only [c74r7, go_sem, ↓reduceIte, reduceCtorEq, Nat.reduceAdd, Nat.reduceSub, Nat.reduceLT, Nat.reduceLeDiff]
        refine ⟨hg.1, hg.2, callK_of (by simp only [go_sem, ↓reduceIte, reduceCtorEq, Nat.reduceAdd, Nat.reduceSub, Nat.reduceLT, Nat.reduceLeDiff]) hqx (.inl rfl) ?_⟩
        cases hb : q x with
        | true =>
          rw [if_pos hb] at hks
          simp only [c74r10, c74l11m, go_sem, ↓reduceIte, reduceCtorEq, Nat.reduceAdd, Nat.reduceSub, Nat.reduceLT, Nat.reduceLeDiff]
          refine ⟨inR_i64 (by omega) (by omega), hI (xs.length - (j + 1)) _ (by omega) ⟨j + 1, rs, ws ++ [x], rfl, by omega, hks.symm, by simp; omega, by simp, ?_⟩⟩
          rw [hdrop]
          simp
        | false =>
          rw [if_neg (by rw [hb]; simp)] at hks
          obtain ⟨w0, ws', rfl⟩ : ∃ w0 ws', ws = w0 :: ws' := by cases ws with | nil => simp at hw0 | cons a b => exact ⟨a, b, rfl⟩
          simp only [List.length_cons] at hrw
          simp only [c74r8, Nat.mul_one, Nat.zero_add, go_sem, ↓reduceIte, reduceCtorEq, Nat.reduceAdd, Nat.reduceSub, Nat.reduceLT, Nat.reduceLeDiff]
          refine ⟨by omega, by simp <;> omega, ?_⟩
          rw [splice_row (by simp <;> omega)]
          simp only [c74r9, c74r10, c74l11m, go_sem, ↓reduceIte, reduceCtorEq, Nat.reduceAdd, Nat.reduceSub, Nat.reduceLT, Nat.reduceLeDiff]
          refine ⟨inR_i64 (by omega) (by omega), inR_i64 (by omega) (by omega), hI (xs.length - (j + 1)) _ (by omega) ⟨j + 1, rs ++ [x], ws' ++ [x], rfl, by omega, hks.symm, by simp; omega, by simp, ?_⟩⟩
          have : (rs ++ w0 :: ws' ++ List.drop j xs).set rs.length x = rs ++ [x] ++ (ws' ++ [x]) ++ List.drop (j + 1) xs := by
            rw [hdrop]
            simp
          rw [this]
          simp
      · have hje : j = xs.length := by omega
        subst hje
        rw [List.take_length] at hrs
        subst hrs
        have hwl : ws.length = xs.length - (keepF q xs).length := by omega
        have hsp : splice ((keepF q xs ++ ws).map (SV.int .i64)) (keepF q xs).length (List.replicate (xs.length - (keepF q xs).length) (SV.int .i64 0)) = (keepF q xs ++ List.replicate (xs.length - (keepF q xs).length) 0).map (SV.int .i64) := by
          unfold splice
          rw [← hwl]
          simp
        simp only [c74r12, Nat.mul_one, Nat.zero_add, List.drop_length, flat_rep1, hsp, go_sem, ↓reduceIte, reduceCtorEq, Nat.reduceAdd, Nat.reduceSub, Nat.reduceLT, Nat.reduceLeDiff]
        refine ⟨by omega, by simp <;> omega, ?_⟩
        simp only [c74r13, Nat.mul_one, Nat.zero_add, go_sem, ↓reduceIte, reduceCtorEq, Nat.reduceAdd, Nat.reduceSub, Nat.reduceLT, Nat.reduceLeDiff]
        refine ⟨by omega, by omega, ?_⟩
        refine ⟨by simp [fget, fgt], ?_⟩
        simp
        rfl
end Go.Proofs.Ytglmjdpmpgphkaa.Sk

/- Contracts of functions: whether the player wins by a way. -/
namespace Go.Proofs.Ytglmjdpmpgphkaa.Sk
open Go Go.E Go.E.Sm
set_option maxRecDepth 10000

@[go_sem] theorem awp_zap' {P : Program} {n0 : Nat} {σ : AState} {Q : AExit → AState → Prop} {t off : Nat} {a : ACode} : (awp P n0 (.zap t off a) σ Q) = (zapK σ.hp off (fun H' => awp P n0 a ⟨σ.fr, H'⟩ Q) (fget σ.fr t)) := propext Iff.rfl

theorem rise_keep {q : Int → Bool} {below : Int} : ∀ (l : List Int) (lo lo' : Int), lo' ≤ lo → rise lo below l = true → rise lo' below (keepF q l) = true
  | [], _, _, _, _ => rfl
  | x :: l, lo, lo', hl, h => by
    simp only [rise, Bool.and_eq_true, decide_eq_true_eq] at h
    unfold keepF
    rw [List.filter_cons]
    split
    · simp only [rise, Bool.and_eq_true, decide_eq_true_eq]
      exact ⟨⟨by omega, h.1.2⟩, rise_keep l (x + 1) (x + 1) (Int.le_refl _) h.2⟩
    · exact rise_keep l (x + 1) lo' (by omega) h.2
theorem rise_len {below : Int} : ∀ (l : List Int) (lo : Int), rise lo below l = true → lo ≤ below → (l.length : Int) ≤ below - lo
  | [], _, _, _ => by simp; omega
  | x :: l, lo, h, hb => by
    simp only [rise, Bool.and_eq_true, decide_eq_true_eq] at h
    have := rise_len l (x + 1) h.2 (by omega)
    simp only [List.length_cons]
    omega

theorem splice_rowG {α : Type} {e : α → SV} {F : List α} {i : Nat} {x : α} (hi : i < F.length) : splice (F.map e) i [e x] = (F.set i x).map e := by
  rw [splice_set (by simpa using hi), List.map_set]

theorem k74e {g : FuncId} {first caps : List SV} (hg : Ok1 g first caps) : E.Fn Try.prog 74 [.slice [], .fn g first caps] [.slice []] := by
  refine fn_of_row okf74 ?_
  simp only [FRow.start, f74, c74r0, c74r1, go_sem, ↓reduceIte, reduceCtorEq, Nat.reduceAdd, Nat.reduceSub, Nat.reduceLT, Nat.reduceLeDiff]
  refine callK_of rfl (k92 (xs := []) (p := fun _ => false) (g := g) (first := first) (caps := caps) hg (by simp)) (.inl rfl) ?_
  simp only [c74r2, idx, c74r3, go_sem, ↓reduceIte, reduceCtorEq, Nat.reduceAdd, Nat.reduceSub, Nat.reduceLT, Nat.reduceLeDiff]

end Go.Proofs.Ytglmjdpmpgphkaa.Sk

/- Contracts of functions: pairs are compared; the answers of a board. -/
namespace Go.Proofs.Ytglmjdpmpgphkaa.Sk
open Go Go.E Go.E.Sm
set_option maxRecDepth 10000

theorem k116 {a : Int} : E.Fn Try.prog 116 [.int .i64 a] [.bool false] := by
  refine fn_of_row okf116 ?_
  simp only [FRow.start, f116, c116r0, c116r1, go_sem, ↓reduceIte, reduceCtorEq, Nat.reduceAdd, Nat.reduceSub, Nat.reduceLT, Nat.reduceLeDiff]

def cmp1 (a b : Int) : Int := if a < b then -1 else if b < a then 1 else 0
theorem k103 {a b : Int} : E.Fn Try.prog 103 [.int .i64 a, .int .i64 b] [.int .i64 (cmp1 a b)] := by
  refine fn_of_row okf103 ?_
  simp only [FRow.start, f103, c103r0, c103r1, go_sem, ↓reduceIte, reduceCtorEq, Nat.reduceAdd, Nat.reduceSub, Nat.reduceLT, Nat.reduceLeDiff]
  refine callK_of rfl (k116 (a := a)) (.inl rfl) ?_
  simp only [c103r2, go_sem, ↓reduceIte, reduceCtorEq, Nat.reduceAdd, Nat.reduceSub, Nat.reduceLT, Nat.reduceLeDiff]
  refine callK_of rfl (k116 (a := b)) (.inl rfl) ?_
  unfold cmp1
  by_cases h : a < b
  · simp only [c103r3, c103r7, c103r9, h, c103r10, go_sem, ↓reduceIte, reduceCtorEq, Nat.reduceAdd, Nat.reduceSub, Nat.reduceLT, Nat.reduceLeDiff]
  · by_cases h2 : b < a
    · simp only [c103r3, c103r7, c103r9, h, h2, c103r11, c103r12, go_sem, ↓reduceIte, reduceCtorEq, Nat.reduceAdd, Nat.reduceSub, Nat.reduceLT, Nat.reduceLeDiff]
    · simp only [c103r3, c103r7, c103r9, h, h2, c103r11, c103r13, go_sem, ↓reduceIte, reduceCtorEq, Nat.reduceAdd, Nat.reduceSub, Nat.reduceLT, Nat.reduceLeDiff]

def cmp2 (x y : Int × Int) : Int := if cmp1 x.1 y.1 = 0 then cmp1 x.2 y.2 else cmp1 x.1 y.1
def lexlt (x y : Int × Int) : Bool := decide (x.1 < y.1) || (decide (x.1 = y.1) && decide (x.2 < y.2))
theorem cmp2_neg {x y : Int × Int} : cmp2 x y < 0 ↔ lexlt x y = true := by
  unfold cmp2 cmp1 lexlt
  simp only [Bool.or_eq_true, Bool.and_eq_true, decide_eq_true_eq]
  split <;> split <;> (try split) <;> (try split) <;> (try split) <;> omega
theorem k96 {x y : Int × Int} : E.Fn Try.prog 96 [.slice [.int .i64 x.1, .int .i64 x.2], .slice [.int .i64 y.1, .int .i64 y.2]] [.int .i64 (cmp2 x y)] := by
  obtain ⟨a, b⟩ := x
  obtain ⟨c, d⟩ := y
  refine fn_of_row okf96 ?_
  simp only [FRow.start, f96, c96r0, c96r1, go_sem, ↓reduceIte, reduceCtorEq, Nat.reduceAdd, Nat.reduceSub, Nat.reduceLT, Nat.reduceLeDiff]
  intro _
  refine loop_rule (fun n τ => (n = 2 ∧ τ = ⟨[.s (.slice [.int .i64 a, .int .i64 b]), .s (.slice [.int .i64 c, .int .i64 d]), .any, .any, .any, .any, .any, .any, .any, .s (.slice [.int .i64 a, .int .i64 b]), .s (.int .i64 2), .s (.int .i64 0), .any, .any, .any, .any, .any, .any, .any, .any, .any, .any, .any, .any, .any, .any, .any, .any, .any, .any, .any, .any, .any, .any, .any, .any], []⟩) ∨ (n = 1 ∧ a = c ∧ τ = ⟨[.s (.slice [.int .i64 a, .int .i64 b]), .s (.slice [.int .i64 c, .int .i64 d]), .any, .any, .any, .any, .any, .any, .any, .s (.slice [.int .i64 a, .int .i64 b]), .s (.int .i64 2), .s (.int .i64 1), .any, .any, .any, .any, .any, .any, .any, .any, .any, .any, .any, .any, .any, .any, .any, .any, .any, .any, .any, .any, .any, .any, .any, .any], []⟩) ∨ (n = 0 ∧ a = c ∧ b = d ∧ τ = ⟨[.s (.slice [.int .i64 a, .int .i64 b]), .s (.slice [.int .i64 c, .int .i64 d]), .any, .any, .any, .any, .any, .any, .any, .s (.slice [.int .i64 a, .int .i64 b]), .s (.int .i64 2), .s (.int .i64 2), .any, .any, .any, .any, .any, .any, .any, .any, .any, .any, .any, .any, .any, .any, .any, .any, .any, .any, .any, .any, .any, .any, .any, .any], []⟩)) 2 rfl ?_ ?_
  · simp only [c96l11m, go_sem, ↓reduceIte, reduceCtorEq, Nat.reduceAdd, Nat.reduceSub, Nat.reduceLT, Nat.reduceLeDiff]
    first | exact .inl ⟨rfl, rfl⟩ | exact .inl rfl
  · rintro I n τ (⟨rfl, rfl⟩ | ⟨rfl, rfl, rfl⟩ | ⟨rfl, rfl, rfl, rfl⟩) hI
    · simp only [c96l11, c96r2, c96r3, Int.toNat_zero, List.getElem?_cons_zero, go_sem, ↓reduceIte, reduceCtorEq, Nat.reduceAdd, Nat.reduceSub, Nat.reduceLT, Nat.reduceLeDiff]
      refine ⟨fun _ => ?_, fun h => absurd (by decide) h⟩
      simp only [c96r4, go_sem, ↓reduceIte, reduceCtorEq, Nat.reduceAdd, Nat.reduceSub, Nat.reduceLT, Nat.reduceLeDiff]
      intro _
      refine ⟨fun h => absurd h (by decide), fun _ => ?_⟩
      simp only [c96r6, Int.toNat_zero, List.getElem?_cons_zero, c96r7, go_sem, ↓reduceIte, reduceCtorEq, Nat.reduceAdd, Nat.reduceSub, Nat.reduceLT, Nat.reduceLeDiff]
      refine callK_of rfl (k103 (a := a) (b := c)) (.inl rfl) ?_
      by_cases h : cmp1 a c = 0
      · have hac : a = c := by unfold cmp1 at h; split at h; omega; split at h; omega; omega
        subst hac
        simp only [c96r8, h, c96r10, c96l11m, go_sem, ↓reduceIte, reduceCtorEq, Nat.reduceAdd, Nat.reduceSub, Nat.reduceLT, Nat.reduceLeDiff]
        exact ⟨inR_i64 (by decide) (by decide), hI 1 _ (by omega) (.inr (.inl ⟨rfl, rfl, rfl⟩))⟩
      · have hr : cmp2 (a, b) (c, d) = cmp1 a c := by unfold cmp2; exact if_neg h
        rw [hr]
        simp only [c96r8, h, c96r9, go_sem, ↓reduceIte, reduceCtorEq, Nat.reduceAdd, Nat.reduceSub, Nat.reduceLT, Nat.reduceLeDiff]
    · have e0 : cmp1 a a = 0 := by unfold cmp1; rw [if_neg (by omega), if_neg (by omega)]
      have hr : cmp2 (a, b) (a, d) = cmp1 b d := by unfold cmp2; exact if_pos e0
      rw [hr]
      simp only [c96l11, c96r2, c96r3, Int.toNat_one, List.getElem?_cons_zero, List.getElem?_cons_succ, go_sem, ↓reduceIte, reduceCtorEq, Nat.reduceAdd, Nat.reduceSub, Nat.reduceLT, Nat.reduceLeDiff]
      refine ⟨fun _ => ⟨by decide, ?_⟩, fun h => absurd (by decide) h⟩
      simp only [c96r4, go_sem, ↓reduceIte, reduceCtorEq, Nat.reduceAdd, Nat.reduceSub, Nat.reduceLT, Nat.reduceLeDiff]
      intro _
      refine ⟨fun h => absurd h (by decide), fun _ => ?_⟩
      simp only [c96r6, Int.toNat_one, List.getElem?_cons_zero, List.getElem?_cons_succ, c96r7, go_sem, ↓reduceIte, reduceCtorEq, Nat.reduceAdd, Nat.reduceSub, Nat.reduceLT, Nat.reduceLeDiff]
      refine ⟨by decide, ?_⟩
      refine callK_of rfl (k103 (a := b) (b := d)) (.inl rfl) ?_
      by_cases h : cmp1 b d = 0
      · have hac : b = d := by unfold cmp1 at h; split at h; omega; split at h; omega; omega
        subst hac
        simp only [c96r8, h, c96r10, c96l11m, go_sem, ↓reduceIte, reduceCtorEq, Nat.reduceAdd, Nat.reduceSub, Nat.reduceLT, Nat.reduceLeDiff]
        exact ⟨inR_i64 (by decide) (by decide), hI 0 _ (by omega) (.inr (.inr ⟨rfl, rfl, rfl, rfl⟩))⟩
      · simp only [c96r8, h, c96r9, go_sem, ↓reduceIte, reduceCtorEq, Nat.reduceAdd, Nat.reduceSub, Nat.reduceLT, Nat.reduceLeDiff]
    · simp only [c96l11, c96r2, go_sem, ↓reduceIte, reduceCtorEq, Nat.reduceAdd, Nat.reduceSub, Nat.reduceLT, Nat.reduceLeDiff]
      refine ⟨fun h => absurd h (by decide), fun _ => ?_⟩
      have e0 : cmp1 a a = 0 := by unfold cmp1; rw [if_neg (by omega), if_neg (by omega)]
      have e1 : cmp1 b b = 0 := by unfold cmp1; rw [if_neg (by omega), if_neg (by omega)]
      have hr : cmp2 (a, b) (a, b) = 0 := by unfold cmp2; rw [if_pos e0]; exact e1
      rw [hr]
      simp only [c96r12, c96r14, go_sem, ↓reduceIte, reduceCtorEq, Nat.reduceAdd, Nat.reduceSub, Nat.reduceLT, Nat.reduceLeDiff]
theorem k97 {x : List SV} : E.Fn Try.prog 97 [.ptr x] [.fn 104 [] [.ptr [.ptr x]]] := by
  refine fn_of_row okf97 ?_
  simp only [FRow.start, f97, c97r0, c97r1, go_sem, ↓reduceIte, reduceCtorEq, Nat.reduceAdd, Nat.reduceSub, Nat.reduceLT, Nat.reduceLeDiff]
theorem k98 {i to k : Int} : Asks 98 [] [.ptr [.int .i64 i, .int .i64 to]] (.int .i64 k) (decide (k = to)) := by
  refine fn_of_row okf98 ?_
  simp only [FRow.start, f98, c98r0, c98r1, go_sem, ↓reduceIte, reduceCtorEq, Nat.reduceAdd, Nat.reduceSub, Nat.reduceLT, Nat.reduceLeDiff]
theorem k95 {x y : Int × Int} : E.Fn Try.prog 95 [.agg [.int .i64 x.1, .int .i64 x.2], .agg [.int .i64 y.1, .int .i64 y.2]] [.int .i64 (cmp2 x y)] := by
  refine fn_of_row okf95 ?_
  simp only [FRow.start, f95, c95r0, c95r1, go_sem, ↓reduceIte, reduceCtorEq, Nat.reduceAdd, Nat.reduceSub, Nat.reduceLT, Nat.reduceLeDiff]
  refine ⟨by decide, by decide, ?_⟩
  refine callK_of rfl (k96 (x := x) (y := y)) (.inl rfl) ?_
  simp only [go_sem, ↓reduceIte, reduceCtorEq, Nat.reduceAdd, Nat.reduceSub, Nat.reduceLT, Nat.reduceLeDiff]
end Go.Proofs.Ytglmjdpmpgphkaa.Sk

/- Answers that are taken away: what is left, by what the program does. -/
namespace Go.Proofs.Ytglmjdpmpgphkaa.Sk
open Go Go.E
set_option linter.all false

def pr (x : Int × Int) : SV := .agg [.int .i64 x.1, .int .i64 x.2]
def prs (T : List (Int × Int)) : SV := .slice (T.map pr)
theorem pr_inj {x y : Int × Int} (h : pr x = pr y) : x = y := by
  obtain ⟨a, b⟩ := x
  obtain ⟨c, d⟩ := y
  simp only [pr, SV.agg.injEq, List.cons.injEq, SV.int.injEq, true_and, and_true] at h
  rw [h.1, h.2]
def oneS : SV := .int .i64 1
def mapB (R : List (Int × Int)) : ABlock := .map (R.map pr) (R.map fun _ => oneS)

theorem mFind_pr {x : Int × Int} : ∀ {R : List (Int × Int)}, (x ∉ R → mFind (pr x) (R.map pr) = none) ∧ (x ∈ R → ∃ i, mFind (pr x) (R.map pr) = some i ∧ i < R.length ∧ R.eraseIdx i = R.erase x)
  | [] => ⟨fun _ => rfl, fun h => (by cases h)⟩
  | y :: R => by
    obtain ⟨h1, h2⟩ := mFind_pr (x := x) (R := R)
    simp only [List.map_cons, mFind]
    by_cases e : x = y
    · subst e
      refine ⟨fun h => absurd (List.mem_cons_self ..) h, fun _ => ⟨0, by simp, by simp, by simp⟩⟩
    · have hp : ¬ pr x = pr y := fun h => e (pr_inj h)
      rw [if_neg hp]
      refine ⟨fun h => by rw [h1 (fun hm => h (List.mem_cons_of_mem _ hm))]; rfl, fun h => ?_⟩
      rcases List.mem_cons.1 h with h | h
      · exact absurd h e
      · obtain ⟨i, g1, g2, g3⟩ := h2 h
        refine ⟨i + 1, by rw [g1]; rfl, by simp; omega, ?_⟩
        rw [List.eraseIdx_cons_succ, g3, List.erase_cons_tail (by simpa using fun h => e h.symm)]

theorem keyOk_pr {x : Int × Int} {R : List (Int × Int)} : keyOk [.int .i64, .int .i64] (pr x) (R.map pr) := by
  refine ⟨⟨rfl, rfl⟩, fun y hy => ?_⟩
  obtain ⟨z, _, rfl⟩ := List.mem_map.1 hy
  exact ⟨rfl, rfl⟩

theorem mget_pr {H : List ABlock} {k : AK} {b : Nat} {R : List (Int × Int)} {x : Int × Int} {kx : LV} (hB : H[b]? = some (mapB R)) (hk : frz [] kx = some (pr x)) (h : k (.s (.int .i64 (if x ∈ R then 1 else 0))) H none True) :
    mgetK H false [.int .i64, .int .i64] (.int .i64 0) kx k (.mp b) := by
  simp only [mgetK, hk, exO, hB, mapB, mgetB]
  refine ⟨keyOk_pr, ?_⟩
  obtain ⟨h1, h2⟩ := mFind_pr (x := x) (R := R)
  by_cases hm : x ∈ R
  · rw [if_pos hm] at h
    obtain ⟨i, g1, g2, _⟩ := h2 hm
    rw [g1]
    simp only [mgetI]
    rw [List.getElem?_map, List.getElem?_eq_getElem g2]
    exact h
  · rw [if_neg hm] at h
    rw [h1 hm]
    exact h
theorem mset_pr {H : List ABlock} {k : AK} {b : Nat} {R : List (Int × Int)} {x : Int × Int} {kx : LV} (hB : H[b]? = some (mapB R)) (hk : frz [] kx = some (pr x)) (hx : x ∉ R) (h : k (.tup []) (H.set b (mapB (R ++ [x]))) none True) :
    msetK H [.int .i64, .int .i64] kx (.s (.int .i64 1)) k (.mp b) := by
  simp only [msetK, hk, exO, hB, mapB, msetB]
  show keyOk _ _ _ ∧ _
  refine ⟨keyOk_pr, ?_⟩
  rw [mFind_pr.1 hx]
  simp only [mPut]
  have e : mapB (R ++ [x]) = .map (R.map pr ++ [pr x]) ((R.map fun _ => oneS) ++ [oneS]) := by simp [mapB]
  rw [e] at h
  exact h
theorem map_cut {α β : Type} {f : α → β} : ∀ (l : List α) (i : Nat), (l.eraseIdx i).map f = (l.map f).eraseIdx i
  | [], _ => rfl
  | x :: l, 0 => rfl
  | x :: l, i + 1 => by simp only [List.eraseIdx_cons_succ, List.map_cons, map_cut l i]
theorem mdel_pr {H : List ABlock} {k : AK} {b : Nat} {R : List (Int × Int)} {x : Int × Int} {kx : LV} (hB : H[b]? = some (mapB R)) (hk : frz [] kx = some (pr x)) (hx : x ∈ R) (h : k (.tup []) (H.set b (mapB (R.erase x))) none True) :
    mdelK H [.int .i64, .int .i64] kx k (.mp b) := by
  simp only [mdelK, hk, exO, hB, mapB, mdelB]
  refine ⟨keyOk_pr, ?_⟩
  obtain ⟨i, g1, _, g3⟩ := mFind_pr.2 hx
  rw [g1]
  simp only [mCut]
  have e : mapB (R.erase x) = .map ((R.map pr).eraseIdx i) ((R.map fun _ => oneS).eraseIdx i) := by rw [← g3, mapB, map_cut, map_cut]
  rw [e] at h
  exact h

def sortd : Int × Int → List (Int × Int) → Bool
  | _, [] => true
  | l, x :: xs => lexlt l x && sortd x xs
theorem lexlt_trans {x y z : Int × Int} (h : lexlt x y = true) (k : lexlt y z = true) : lexlt x z = true := by
  simp only [lexlt, Bool.or_eq_true, Bool.and_eq_true, decide_eq_true_eq] at *
  omega
theorem lexlt_irr {x : Int × Int} : lexlt x x = false := by
  simp [lexlt]
theorem sortd_lt : ∀ {T : List (Int × Int)} {l : Int × Int}, sortd l T = true → ∀ x ∈ T, lexlt l x = true
  | [], _, _ => by simp
  | y :: T, l, h => by
    simp only [sortd, Bool.and_eq_true] at h
    intro x hx
    rcases List.mem_cons.1 hx with rfl | hx
    · exact h.1
    · exact lexlt_trans h.1 (sortd_lt h.2 x hx)
theorem sortd_nodup : ∀ {T : List (Int × Int)} {l : Int × Int}, sortd l T = true → T.Nodup
  | [], _, _ => List.nodup_nil
  | y :: T, l, h => by
    simp only [sortd, Bool.and_eq_true] at h
    refine List.nodup_cons.2 ⟨fun hm => ?_, sortd_nodup h.2⟩
    have := sortd_lt h.2 y hm
    rw [lexlt_irr] at this; cases this

def ansP : Nat → List Bool → List (List Int) → List Bool → List (Nat × Int)
  | i, p :: ps, l :: ls, w :: ws => (if p then [] else if w then [] else l.map fun k => (i, k)) ++ ansP (i + 1) ps ls ws
  | _, _, _, _ => []
theorem ansP_from : ∀ (i : Nat) (ps : List Bool) (ls : List (List Int)) (ws : List Bool), ansFrom i ps ls ws = (ansP i ps ls ws).map fun x => stepv x.1 x.2
  | i, p :: ps, l :: ls, w :: ws => by
    simp only [ansFrom, ansP, List.map_append, ansP_from (i + 1) ps ls ws]
    congr 1
    unfold ansAt
    cases p
    · cases w
      · simp
      · simp
    · simp
  | _, [], _, _ => by simp [ansFrom, ansP]
  | _, _ :: _, [], _ => by simp [ansFrom, ansP]
  | _, _ :: _, _ :: _, [] => by simp [ansFrom, ansP]

def cutL (l : List Int) (k : Int) : List Int := keepF (fun x => decide (x = k)) l
def runA : List (Nat × Int) → List (Int × Int) → List (List Int) → Option (List (Int × Int) × List (List Int))
  | [], R, M => some (R, M)
  | x :: A, R, M => if ((x.1 : Int), x.2) ∈ R then (if cutL (M.getD x.1 []) x.2 = [] then none else runA A (R.erase ((x.1 : Int), x.2)) (M.set x.1 (cutL (M.getD x.1 []) x.2))) else runA A R M
def zmach : SV := .agg [.slice [], .slice [], .slice []]
def takeRes (pl wn : List Bool) : Option (List (Int × Int) × List (List Int)) → List SV
  | some (R, M) => [mach pl M wn, .bool (decide (R = []))]
  | none => [zmach, .bool false]
def takenR (pl : List Bool) (mv : List (List Int)) (wn : List Bool) (T : List (Int × Int)) : List SV :=
  if sortd (-1, -1) T = true then takeRes pl wn (runA (ansP 0 pl mv wn) T mv) else [zmach, .bool false]
theorem mlen_pr {H : List ABlock} {k : AK} {b : Nat} {R : List (Int × Int)} (hB : H[b]? = some (mapB R)) (h : k (.s (.int .i64 R.length)) H none True) : mlenK H k (.mp b) := by
  simp only [mlenK, hB, mapB, mlenB, intK, List.length_map]
  exact h
theorem ansP_lt : ∀ (i : Nat) (ps : List Bool) (ls : List (List Int)) (ws : List Bool), ∀ x ∈ ansP i ps ls ws, i ≤ x.1 ∧ x.1 < i + ls.length
  | i, p :: ps, l :: ls, w :: ws => by
    intro x hx
    simp only [ansP, List.mem_append] at hx
    rcases hx with hx | hx
    · have : x.1 = i := by
        cases p
        · cases w
          · simp at hx; obtain ⟨k, _, rfl⟩ := hx; rfl
          · simp at hx
        · simp at hx
      simp only [List.length_cons]; omega
    · have := ansP_lt (i + 1) ps ls ws x hx
      simp only [List.length_cons]; omega
  | _, [], _, _ => by simp [ansP]
  | _, _ :: _, [], _ => by simp [ansP]
  | _, _ :: _, _ :: _, [] => by simp [ansP]
end Go.Proofs.Ytglmjdpmpgphkaa.Sk

/- The way back from a set of positions: which answers have to go. -/
namespace Go.Proofs.Ytglmjdpmpgphkaa.Sk
open Go Go.E
set_option linter.all false

theorem bit_off {p i : Nat} (hp : p.testBit i = false) (h : p ||| 2 ^ i < 2 ^ 62) : bitOf .i64 ((p ||| 2 ^ i : Nat) : Int) ((2 ^ i : Nat) : Int) .andNot = (p : Int) := by
  have h1 : p ≤ p ||| 2 ^ i := Nat.left_le_or
  have h2 : 2 ^ i ≤ p ||| 2 ^ i := Nat.right_le_or
  have e : (BitVec.ofInt 64 ((p ||| 2 ^ i : Nat) : Int) &&& ~~~ BitVec.ofInt 64 ((2 ^ i : Nat) : Int)) = BitVec.ofInt 64 (p : Int) := by
    simp only [BitVec.ofInt_natCast]
    apply BitVec.eq_of_getLsbD_eq
    intro j hj
    simp only [BitVec.getLsbD_and, BitVec.getLsbD_not, BitVec.getLsbD_ofNat, Nat.testBit_or, Nat.testBit_two_pow]
    by_cases e : i = j
    · subst e; simp [hp]
    · simp [e, hj]
  unfold bitOf
  simp only
  rw [show IntKind.bits .i64 = 64 from rfl, e, ofInt_nat (by omega)]
  exact wrap64 (by omega)
theorem xor_off {p i : Nat} (hp : p.testBit i = false) : (p ||| 2 ^ i) ^^^ 2 ^ i = p := by
  apply Nat.eq_of_testBit_eq
  intro j
  simp only [Nat.testBit_xor, Nat.testBit_or, Nat.testBit_two_pow]
  by_cases e : i = j
  · subst e; simp [hp]
  · simp [e]

def rowB (p : Bool) (i s : Nat) (l : List Int) : List (Int × Int) := if p then [] else (l.filter fun k => decide (b2i (s : Int) k = 0)).map fun k => ((i : Int), k)
def backF (pl : List Bool) (mv : List (List Int)) (L : List Int) (won : Nat) : Nat → Nat → List (Int × Int)
  | 0, _ => []
  | f + 1, u => if u = won then [] else rowB (pl.getD (gD L u).toNat false) (gD L u).toNat (u ^^^ 2 ^ (gD L u).toNat) (mv.getD (gD L u).toNat []) ++ backF pl mv L won f (u ^^^ 2 ^ (gD L u).toNat)
theorem backF_won {pl : List Bool} {mv : List (List Int)} {L : List Int} {won : Nat} : ∀ f, backF pl mv L won f won = []
  | 0 => rfl
  | f + 1 => if_pos rfl
theorem rowB_take {p : Bool} {i s k : Nat} {l : List Int} {y : Int} (h : l[k]? = some y) : rowB p i s (l.take (k + 1)) = rowB p i s (l.take k) ++ (if p = false ∧ b2i (s : Int) y = 0 then [((i : Int), y)] else []) := by
  unfold rowB
  rw [List.take_succ, h]
  cases p with
  | true => simp
  | false =>
    simp only [Bool.false_eq_true, if_false, List.filter_append, List.map_append, true_and, Option.toList_some]
    by_cases e : b2i (s : Int) y = 0
    · simp [e]
    · simp [e]
theorem rowB_le {p : Bool} {i s : Nat} {l : List Int} : (rowB p i s l).length ≤ l.length := by
  unfold rowB
  split
  · simp
  · rw [List.length_map]; exact List.length_filter_le _ _

theorem bestI_rng {pl : List Bool} {mv : List (List Int)} {C : List Int} {x : Nat} : ∀ k, -1 ≤ bestI pl mv C x k ∧ bestI pl mv C x k < k ∧ (0 ≤ bestI pl mv C x k → 0 ≤ gD (runC pl mv C k) (bestI pl mv C x k).toNat ∧ (bestI pl mv C x k).toNat.testBit x = true)
  | 0 => by simp [bestI]
  | k + 1 => by
    obtain ⟨h1, h2, h3⟩ := bestI_rng (pl := pl) (mv := mv) (C := C) (x := x) k
    have hl := fun t ht => runC_low (pl := pl) (mv := mv) (C := C) (t := t) k ht
    rw [bestI]
    split
    · refine ⟨h1, by omega, fun h => ?_⟩
      rw [hl _ (by omega)]; exact h3 h
    · rename_i hn
      split
      · rename_i hc
        refine ⟨by omega, by omega, fun _ => ?_⟩
        rw [Int.toNat_natCast, hl _ (by omega)]
        exact ⟨by omega, hc.1⟩
      · refine ⟨h1, by omega, fun h => ?_⟩
        rw [hl _ (by omega)]; exact h3 h
def fewS (pl : List Bool) (mv : List (List Int)) (wn : List Bool) (x : Nat) : Option (List (Int × Int)) :=
  if bestI pl mv (startC wn mv.length) x (2 ^ mv.length) < 0 then none else
    some (backF pl mv (runL pl mv (startC wn mv.length) (List.replicate (2 ^ mv.length) 0) (2 ^ mv.length)) (wonN wn mv.length) (2 ^ mv.length) (bestI pl mv (startC wn mv.length) x (2 ^ mv.length)).toNat)
end Go.Proofs.Ytglmjdpmpgphkaa.Sk

/- The functions of the sort are the ones that the library's contract was proved of. -/
namespace Go.Proofs.Ytglmjdpmpgphkaa.Sk
open Go Go.Shelf
def sortP_ren : Go.Shelf.Ren := ⟨fun | 6 => 94 | 15 => 102 | 14 => 101 | 28 => 114 | 29 => 115 | 20 => 106 | 21 => 107 | 22 => 108 | 23 => 109 | 24 => 110 | 25 => 111 | 26 => 112 | 27 => 113 | 46 => 117 | 47 => 118 | 48 => 119 | 49 => 120 | 50 => 121 | 57 => 122 | n => n, fun | 22 => 46 | 24 => 64 | 25 => 109 | 3 => 3 | 39 => 118 | 0 => 0 | 53 => 129 | 55 => 131 | 4 => 4 | 46 => 123 | 45 => 122 | 50 => 100 | 5 => 5 | 9 => 9 | 66 => 132 | 70 => 136 | 76 => 138 | 77 => 139 | n => n, fun | n => n⟩
theorem sortP : Go.Proofs.SlLaysF0.n6 Try.prog sortP_ren := {
  mixed := by kernel_rfl
  f6 := ⟨Try.f94.name, by decide, Try.func94.trans (congrArg some (by kernel_rfl))⟩
  f14 := ⟨Try.f101.name, by decide, Try.func101.trans (congrArg some (by kernel_rfl))⟩
  f15 := Try.func102.trans (congrArg some (by kernel_rfl))
  f20 := ⟨Try.f106.name, by decide, Try.func106.trans (congrArg some (by kernel_rfl))⟩
  f21 := ⟨Try.f107.name, by decide, Try.func107.trans (congrArg some (by kernel_rfl))⟩
  f22 := ⟨Try.f108.name, by decide, Try.func108.trans (congrArg some (by kernel_rfl))⟩
  f23 := ⟨Try.f109.name, by decide, Try.func109.trans (congrArg some (by kernel_rfl))⟩
  f24 := ⟨Try.f110.name, by decide, Try.func110.trans (congrArg some (by kernel_rfl))⟩
  f25 := ⟨Try.f111.name, by decide, Try.func111.trans (congrArg some (by kernel_rfl))⟩
  f26 := ⟨Try.f112.name, by decide, Try.func112.trans (congrArg some (by kernel_rfl))⟩
  f27 := ⟨Try.f113.name, by decide, Try.func113.trans (congrArg some (by kernel_rfl))⟩
  f28 := Try.func114.trans (congrArg some (by kernel_rfl))
  f29 := Try.func115.trans (congrArg some (by kernel_rfl))
  f46 := ⟨Try.f117.name, by decide, Try.func117.trans (congrArg some (by kernel_rfl))⟩
  f47 := Try.func118.trans (congrArg some (by kernel_rfl))
  f48 := Try.func119.trans (congrArg some (by kernel_rfl))
  f49 := ⟨Try.f120.name, by decide, Try.func120.trans (congrArg some (by kernel_rfl))⟩
  f50 := ⟨Try.f121.name, by decide, Try.func121.trans (congrArg some (by kernel_rfl))⟩
  f57 := ⟨Try.f122.name, by decide, Try.func122.trans (congrArg some (by kernel_rfl))⟩
  t0 := Try.underlying0
  a0 := Try.isAgg0
  z0 := Try.sizeOf0
  v0 := Try.zeroValue0
  t3 := Try.underlying3
  a3 := Try.isAgg3
  z3 := Try.sizeOf3
  v3 := Try.zeroValue3
  t4 := Try.underlying4
  a4 := Try.isAgg4
  z4 := Try.sizeOf4
  v4 := Try.zeroValue4
  t5 := Try.underlying5
  a5 := Try.isAgg5
  z5 := Try.sizeOf5
  v5 := Try.zeroValue5
  t9 := Try.underlying9
  a9 := Try.isAgg9
  z9 := Try.sizeOf9
  v9 := Try.zeroValue9
  t22 := Try.underlying46
  a22 := Try.isAgg46
  z22 := Try.sizeOf46
  v22 := Try.zeroValue46
  t25 := Try.underlying109
  a25 := Try.isAgg109
  z25 := Try.sizeOf109
  v25 := Try.zeroValue109
  t39 := Try.underlying118
  a39 := Try.isAgg118
  z39 := Try.sizeOf118
  v39 := Try.zeroValue118
  t45 := Try.underlying122
  a45 := Try.isAgg122
  z45 := Try.sizeOf122
  v45 := Try.zeroValue122
  t46 := Try.underlying123
  a46 := Try.isAgg123
  z46 := Try.sizeOf123
  v46 := Try.zeroValue123
  t50 := Try.underlying100
  a50 := Try.isAgg100
  z50 := Try.sizeOf100
  v50 := Try.zeroValue100
  t53 := Try.underlying129
  a53 := Try.isAgg129
  z53 := Try.sizeOf129
  v53 := Try.zeroValue129
  t55 := Try.underlying131
  a55 := Try.isAgg131
  z55 := Try.sizeOf131
  v55 := Try.zeroValue131
  t66 := Try.underlying132
  a66 := Try.isAgg132
  z66 := Try.sizeOf132
  v66 := Try.zeroValue132
  t70 := Try.underlying136
  a70 := Try.isAgg136
  z70 := Try.sizeOf136
  v70 := Try.zeroValue136
  t76 := Try.underlying138
  a76 := Try.isAgg138
  z76 := Try.sizeOf138
  v76 := Try.zeroValue138
  t77 := Try.underlying139
  a77 := Try.isAgg139
  z77 := Try.sizeOf139
  v77 := Try.zeroValue139 }
end Go.Proofs.Ytglmjdpmpgphkaa.Sk

/- slices.SortFunc at pairs: an own row of pairs is sorted. -/
namespace Go.Proofs.Ytglmjdpmpgphkaa.Sk
open Go Go.E Go.E.Sm Go.Sort Go.Shelf
set_option maxRecDepth 10000

def encP (x : Int × Int) : List Value := [.int .i64 x.1, .int .i64 x.2]
def valsP (L : List (Int × Int)) : List Value := L.flatMap encP

theorem touch_grow {w w' : World} (h : E.Touch [] w w') : ∃ q os, w' = grow (w.drewN q) os := by
  refine ⟨w'.drawn - w.drawn, w'.heap.extract w.heap.size, ?_⟩
  have h1 := h.os
  have h2 := h.tape
  have h3 := h.output
  have h4 := h.drawn
  have h5 := h.size
  have h6 : w'.heap = w.heap ++ w'.heap.extract w.heap.size := by
    apply Array.ext_getElem?
    intro i
    rw [Array.getElem?_append]
    split
    · rename_i hi
      exact h.block i hi (Env.nil_has i)
    · rename_i hi
      rw [Array.getElem?_extract]
      split
      · congr 1; omega
      · rw [Array.getElem?_eq_none (by simp at *; omega)]
  unfold grow World.drewN
  cases w'
  simp only [World.mk.injEq] at *
  exact ⟨h6, h2, by omega, h1, h3⟩

theorem cmpLays {blk off size : Nat} {w : World} : CmpLays Try.prog 95 #[] encP 2 cmp2 blk off size w := by
  intro m os dk _ x y
  generalize sortWorldK encP 2 w blk off m dk os = W
  have h := k95 (x := x) (y := y) ⟨fun _ _ => none, fun _ => none⟩ W [.agg #[.int .i64 x.1, .int .i64 x.2], .agg #[.int .i64 y.1, .int .i64 y.2]] ⟨fun _ _ _ h => (by cases h), fun _ _ h => (by cases h)⟩
    ⟨_, _, rfl, ⟨[.int .i64 x.1, .int .i64 x.2], by simp [CRel, CRelC], rfl⟩, ⟨_, _, rfl, ⟨[.int .i64 y.1, .int .i64 y.2], by simp [CRel, CRelC], rfl⟩, rfl⟩⟩
  refine h.mono fun e w' ⟨xs, M', he, _, _, hx, ht, _⟩ => ?_
  obtain ⟨v, ys, rfl, ⟨us, hu, rfl⟩, hys⟩ := hx
  simp only [VRelL] at hys
  subst hys
  simp only [CRel] at hu
  subst hu
  exact ⟨he, touch_grow ht⟩

theorem vals_len : ∀ (L : List (Int × Int)), (valsP L).length = L.length * 2
  | [] => rfl
  | x :: L => by
    have := vals_len L
    simp only [valsP, List.flatMap_cons, List.length_append, List.length_cons, encP, List.length_nil] at *
    omega
theorem val_at : ∀ (L : List (Int × Int)) (j : Nat), j < L.length * 2 → (valsP L)[j]? = some ((encP L[j / 2]!)[j % 2]!)
  | [], j, h => by simp at h
  | x :: L, 0, _ => rfl
  | x :: L, 1, _ => rfl
  | x :: L, j + 2, h => by
    have ih := val_at L j (by simp at h; omega)
    have e1 : (j + 2) / 2 = j / 2 + 1 := by omega
    have e2 : (j + 2) % 2 = j % 2 := by omega
    rw [e1, e2]
    have e3 : (valsP (x :: L))[j + 2]? = (valsP L)[j]? := rfl
    rw [e3, ih]
    simp
theorem flat_vals (L : List (Int × Int)) : (flatK encP 2 L.toArray).toList = valsP L := by
  apply List.ext_getElem?
  intro j
  by_cases hj : j < L.length * 2
  · have h1 := get_flatK encP 2 L.toArray j (by simpa using hj)
    rw [getElem!_pos _ _ (by simpa using hj)] at h1
    rw [val_at L j hj, Array.getElem?_toList, Array.getElem?_eq_getElem (by simpa using hj), h1]
    simp
  · rw [List.getElem?_eq_none (by simp; omega), List.getElem?_eq_none (by rw [vals_len]; omega)]
theorem crel_vals {M : Mem} : ∀ (L : List (Int × Int)) (us : List Value), CRelC M (flatE (L.map pr)) (ones us) ↔ us = valsP L
  | [], us => by
    cases us with
    | nil => simp [flatE, CRelC, ones, valsP]
    | cons u us => simp [flatE, CRelC, ones, valsP]
  | x :: L, us => by
    have e : flatE ((x :: L).map pr) = .int .i64 x.1 :: .int .i64 x.2 :: flatE (L.map pr) := rfl
    have e2 : valsP (x :: L) = .int .i64 x.1 :: .int .i64 x.2 :: valsP L := rfl
    rw [e, e2]
    cases us with
    | nil => simp [CRelC, ones]
    | cons u us =>
      cases us with
      | nil => simp [CRelC, ones]
      | cons u2 us =>
        have ih := crel_vals (M := M) L us
        constructor
        · intro h
          simp only [CRelC] at h
          obtain ⟨a, as1, e3, ha, c, cs, e4, hc, h3⟩ := h
          simp only [ones_cons, List.cons.injEq] at e3
          obtain ⟨rfl, e3⟩ := e3
          rw [← e3, List.cons.injEq] at e4
          obtain ⟨rfl, rfl⟩ := e4
          simp only [CRel, List.cons.injEq, and_true] at ha hc
          rw [ha, hc, ih.1 h3]
        · intro h
          simp only [List.cons.injEq] at h
          obtain ⟨rfl, rfl, h3⟩ := h
          simp only [CRelC, ones_cons]
          exact ⟨_, _, rfl, by simp only [CRel], _, _, rfl, by simp only [CRel], ih.2 h3⟩

theorem lt_cmp2 (x y : Int × Int) : ltOf cmp2 x y = lexlt x y := by
  unfold ltOf
  have := cmp2_neg (x := x) (y := y)
  cases h : lexlt x y with
  | true => rw [h] at this; simpa using this
  | false => rw [h] at this; simpa using this
theorem swo2 : SWO (ltOf cmp2) where
  irrefl x := by rw [lt_cmp2]; exact lexlt_irr
  trans x y z h1 h2 := by rw [lt_cmp2] at *; exact lexlt_trans h1 h2
  ntrans x y z h1 h2 := by
    rw [lt_cmp2] at *
    simp only [lexlt, Bool.or_eq_false_iff, Bool.and_eq_false_iff, decide_eq_false_iff_not] at *
    omega
theorem mapBlock_setRow {w : World} {blk : Nat} {f : Array Value → Array Value} {c : Array Value} {T : TypeId} {fr : Nat × Nat} (h : w.heap[blk]? = some (.cells c T fr)) : mapBlock w blk f = w.setRow blk (f c) := by
  unfold mapBlock World.setRow
  congr 1
  apply Array.ext_getElem?
  intro i
  rw [Array.getElem?_modify, Array.getElem?_modify]
  by_cases e : blk = i
  · subst e; rw [if_pos rfl, if_pos rfl, h]; rfl
  · rw [if_neg e, if_neg e]
theorem grow_touch (w : World) (os : Array Obj) : E.Touch [] w (grow w os) :=
  ⟨rfl, rfl, rfl, Nat.le_refl _, by simp [grow], fun b hb _ => by simp only [grow]; rw [Array.getElem?_append_left hb]⟩
theorem putCells_take (sh : Nat) (d c : Array Value) (h : sh + d.size ≤ c.size) : ((putCells id sh d c).toList.drop sh).take d.size = d.toList := by
  apply List.ext_getElem?
  intro j
  rw [List.getElem?_take]
  split
  · rename_i hj
    rw [List.getElem?_drop, Array.getElem?_toList, Array.getElem?_toList]
    unfold putCells
    rw [Array.getElem?_mapIdx, Array.getElem?_eq_getElem (by omega), Array.getElem?_eq_getElem hj]
    simp only [Option.map_some]
    rw [if_pos (by omega), Nat.add_sub_cancel_left, getElem!_pos d j hj]
    rfl
  · rw [Array.getElem?_toList, Array.getElem?_eq_none (by omega)]

def srtP (L : List (Int × Int)) : List (Int × Int) := L.mergeSort fun x y => !(ltOf cmp2) y x

theorem k94 {H : List ABlock} {b : Nat} {L : List (Int × Int)} {clip : Bool} (hB : H[b]? = some (.row (flatE (L.map pr)))) (hLs : L.length < 4611686018427387904) :
    CSem Try.prog 94 [.sl b 0 L.length 2 clip, .s (.fn 95 [] [])] H (.tup []) (H.set b (.row (flatE ((srtP L).map pr)))) := by
  intro M ρ w vs hS hF
  obtain ⟨v0, ys, rfl, h0, v1, ys2, rfl, h1, hys⟩ := hF
  simp only [FRel] at hys
  subst hys
  have g0 := h0.one rfl (by simp)
  simp only [LRel] at g0
  obtain ⟨r, ad, cap, hr, hg, e0, hlc, hcm, _, _, hcap⟩ := g0
  simp only [List.cons.injEq, and_true] at e0
  subst e0
  rw [lval_s] at h1
  obtain ⟨us1, hu1, rfl⟩ := h1
  simp only [CRel] at hu1
  obtain ⟨r', hr1, hr2⟩ := hS.spot hB
  rw [hr] at hr1; cases hr1
  have hbl := (List.getElem?_eq_some_iff.1 hB).1
  have hv1 : (SV.fn 95 [] []).mk us1 = .func (.func 95) #[] #[] := by
    obtain ⟨fs, cs, rfl, h3, h4⟩ := hu1
    simp only [CRelC] at h3 h4
    have e1 : fs = [] := by cases fs with | nil => rfl | cons => simp [ones] at h3
    have e2 : cs = [] := by cases cs with | nil => rfl | cons => simp [ones] at h4
    subst e1 e2
    rfl
  rw [hv1]
  have hI := MInv.start hS
  by_cases hL : L = []
  · subst hL
    have hset : H.set b (.row (flatE ((srtP []).map pr))) = H := by
      have : srtP [] = [] := by simp [srtP]
      rw [this]
      apply List.ext_getElem?
      intro j
      rw [List.getElem?_set]
      by_cases e : b = j
      · subst e; rw [if_pos rfl, if_pos hbl, hB]
      · rw [if_neg e]
    rw [hset]
    refine (AnyF.slices_SortFunc_none sortP ad cap (.func (.func 95) #[] #[]) w).mono fun e w' ⟨he, hw⟩ => ?_
    subst hw
    exact ⟨_, M, ρ, he, hI, lval_tup (vs := []) (xs := []) rfl⟩
  · cases r with
    | gone => exact absurd rfl hg
    | empty =>
      simp only [BRel] at hr2
      exfalso
      cases L with
      | nil => exact hL rfl
      | cons x L => simp [flatE, pr, SV.cells] at hr2
    | here cb sh n =>
      simp only [BRel] at hr2
      obtain ⟨c, T, hc1, hc2, hc3, hc4, hc5⟩ := hr2
      have hlp := List.length_pos_iff.2 hL
      rcases hcap with hc0 | ⟨cb', sh', n', e1, e2, e3⟩
      · omega
      cases e1
      subst e2
      simp only [Nat.add_zero] at e3 ⊢
      have hfl : (flatE (L.map pr)).length = L.length * 2 := by
        rw [flatE_length (sz := 2) (by intro y hy; obtain ⟨z, _, rfl⟩ := List.mem_map.1 hy; rfl), List.length_map]
      rw [hfl] at hc3 hc4
      have hcells := (crel_vals L _).1 hc4
      have hHold : HoldsK encP 2 w cb sh L.toArray := by
        intro j hj
        have hj2 : j < L.length * 2 := by simpa using hj
        refine ⟨?_, by simp [World.frozen?, hc1]⟩
        have h5 : (flatK encP 2 L.toArray).toList[j]? = (valsP L)[j]? := by rw [flat_vals]
        rw [Array.getElem?_toList, Array.getElem?_eq_getElem hj, ← hcells, List.getElem?_take, if_pos hj2, List.getElem?_drop, Array.getElem?_toList] at h5
        rw [heap_cell? hc1, ← h5, getElem!_pos (flatK encP 2 L.toArray) j hj]; rfl
      have hblk := hS.lt b cb sh n hr
      have eg : ∀ args w, (callFunc 95 args).run Try.prog w = .ok (.enter 95 args) w := enters_of Try.func95 (by kernel_rfl) rfl
      have hmax : maxLen < 2 ^ 63 := by decide
      have hcon := AnyQ.slices_SortFunc_total sortP 2 Try.isAgg64 Try.sizeOf64 encP (fun _ => rfl) (fun x v hv => by simp [encP] at hv; rcases hv with rfl | rfl <;> rfl) cmp2 swo2 95 #[] cb sh cap L.toArray w eg cmpLays hHold hblk (by simpa using hLs) (fun x y h1 h2 => by
        rw [lt_cmp2] at h1 h2
        simp only [lexlt, Bool.or_eq_false_iff, Bool.and_eq_false_iff, decide_eq_false_iff_not] at h1 h2
        exact Prod.ext (by omega) (by omega))
      change Calls Try.prog 94 _ _ _ at hcon
      refine hcon.mono fun e w' ⟨he, m, os, hw⟩ => ?_
      have e2 : (L.toArray.toList.mergeSort fun x y => !(ltOf cmp2) y x) = srtP L := rfl
      rw [e2] at hw
      have hsl : (srtP L).length = L.length := List.length_mergeSort _
      have hfs : (flatK encP 2 (srtP L).toArray).size = L.length * 2 := by simp [hsl]
      have hA : (Sort.ahead w m).heap[cb]? = some (.cells c T (0, 0)) := hc1
      have hI1 : MInv NoA M ρ w M ρ H (Sort.ahead w m) := hI.world rfl rfl rfl rfl (Nat.le_add_right _ _)
      have hflS : (flatE ((srtP L).map pr)).length = L.length * 2 := by
        rw [flatE_length (sz := 2) (by intro y hy; obtain ⟨z, _, rfl⟩ := List.mem_map.1 hy; rfl), List.length_map, hsl]
      have hI2 := hI1.write (B' := .row (flatE ((srtP L).map pr))) (c' := putCells id sh (flatK encP 2 (srtP L).toArray) c) hB hr hA hc5 (by
        simp only [BRel]
        refine ⟨_, T, setRow_heap _ cb c _ T _ hA, by simpa [putCells] using hc2, by rw [hflS]; exact hc3, ?_, hc5⟩
        rw [hflS, crel_vals, ← flat_vals, ← hfs]
        exact putCells_take _ _ _ (by omega))
      have hw2 : w' = grow ((Sort.ahead w m).setRow cb (putCells id sh (flatK encP 2 (srtP L).toArray) c)) os := by
        rw [hw]
        unfold sortWorldK putRowK putRow
        rw [mapBlock_setRow hA]
      have ht := grow_touch ((Sort.ahead w m).setRow cb (putCells id sh (flatK encP 2 (srtP L).toArray) c)) os
      subst hw2
      refine ⟨_, M, ρ, he, hI2.grow (Mem.le_refl _) ht (Newer.refl _ _ _) ?_, lval_tup (vs := []) (xs := []) rfl⟩
      exact E.Holds.grow ⟨hI2.rel.cells, hI2.rel.maps⟩ ht
end Go.Proofs.Ytglmjdpmpgphkaa.Sk

/- Contracts of functions: whether the player wins by a way, as the document has it. -/
namespace Go.Proofs.Ytglmjdpmpgphkaa.Sk
open Go Go.E Go.E.Sm
set_option maxRecDepth 10000

theorem promo_cell {d off sz b o : Nat} {cs : List LV} {σ : AState} (h : fget σ.fr d = .loc b o) (hB : σ.hp[b]? = some (.obj cs)) (hc : cs[o + off]? = some (.full [])) :
    promote [(d, some off, sz)] σ = { fr := σ.fr, hp := σ.hp.set b (.obj (cs.set (o + off) (.sl σ.hp.length 0 0 (sz + 1) false))) ++ [.row []] } := by
  simp only [promote, promote1, h, hB, hc]

theorem one1s {l : List SV} : ∀ e ∈ [SV.slice l], e.cells.length = 1 := by simp [SV.cells]
theorem app_mapG {O : List (List Int)} {x : List Int} : O.map ints ++ flatE [SV.slice (x.map (SV.int .i64))] = (O ++ [x]).map ints := by simp [flatE, SV.cells, ints]

end Go.Proofs.Ytglmjdpmpgphkaa.Sk

/- Contracts of functions: which answers may be taken away, by the document. -/
namespace Go.Proofs.Ytglmjdpmpgphkaa.Sk
open Go Go.E Go.E.Sm
set_option maxRecDepth 10000

def cntT (T : List (Int × Int)) (a : Int) : Nat := T.countP fun x => decide (x.1 = a)
def tkAt (pl : List Bool) (mv : List (List Int)) (wn : List Bool) (T : List (Int × Int)) (j : Nat) : Bool :=
  decide (0 ≤ (T.getD j (0, 0)).1) && decide ((T.getD j (0, 0)).1 < mv.length) && !pl.getD (T.getD j (0, 0)).1.toNat false && !wn.getD (T.getD j (0, 0)).1.toNat false && hasL (mv.getD (T.getD j (0, 0)).1.toNat []) (T.getD j (0, 0)).2 &&
    (decide (j = 0) || lexlt (T.getD (j - 1) (0, 0)) (T.getD j (0, 0))) && !decide (cntT (T.take (j + 1)) (T.getD j (0, 0)).1 = (mv.getD (T.getD j (0, 0)).1.toNat []).length)
def tkB (pl : List Bool) (mv : List (List Int)) (wn : List Bool) (T : List (Int × Int)) : Bool := (List.range T.length).all (tkAt pl mv wn T)
def cntL (n : Nat) (T : List (Int × Int)) : List Int := (List.range n).map fun k : Nat => (cntT T k : Int)
theorem cntT_snoc {T : List (Int × Int)} {x : Int × Int} {a : Int} : cntT (T ++ [x]) a = cntT T a + (if x.1 = a then 1 else 0) := by
  unfold cntT
  rw [List.countP_append, List.countP_singleton]
  by_cases h : x.1 = a
  · simp [h]
  · simp [h]
theorem cntL_at {n k : Nat} {T : List (Int × Int)} (hk : k < n) : (cntL n T)[k]? = some (cntT T k : Int) := by
  unfold cntL
  rw [List.getElem?_map, List.getElem?_range hk]; rfl
theorem cntL_len {n : Nat} {T : List (Int × Int)} : (cntL n T).length = n := by simp [cntL]
theorem cntL_snoc {n : Nat} {T : List (Int × Int)} {x : Int × Int} (h0 : 0 ≤ x.1) (h1 : x.1 < n) : (cntL n T).set x.1.toNat ((cntT T x.1 : Int) + 1) = cntL n (T ++ [x]) := by
  apply List.ext_getElem?
  intro k
  by_cases hk : k < n
  · rw [List.getElem?_set, cntL_at hk, cntL_at hk, cntL_len, cntT_snoc]
    by_cases e : x.1.toNat = k
    · rw [if_pos e, if_pos (by omega), if_pos (by omega)]
      have : x.1 = (k : Int) := by omega
      rw [this]; rfl
    · rw [if_neg e, if_neg (by omega)]; rfl
  · rw [List.getElem?_eq_none (by rw [List.length_set, cntL_len]; omega), List.getElem?_eq_none (by rw [cntL_len]; omega)]

set_option maxHeartbeats 4000000 in
theorem k81 {pl wn : List Bool} {mv : List (List Int)} {T : List (Int × Int)} (hv : Valid pl mv wn) (hT : T.length ≤ 200) : E.Fn Try.prog 81 [mach pl mv wn, prs T] [.bool (tkB pl mv wn T)] := by
  refine fn_of_row okf81 ?_
  have h1 := hv.few
  have h2 := hv.pos
  generalize hr : tkB pl mv wn T = rs
  simp only [FRow.start, f81, c81r0, c81r1, mach, bools, prs, flat_rep1, go_sem, ↓reduceIte, reduceCtorEq, Nat.reduceAdd, Nat.reduceSub, Nat.reduceLT, Nat.reduceLeDiff]
  refine ⟨by omega, by omega, fun _ => ?_⟩
  have hz : List.replicate mv.length (SV.int .i64 0) = (cntL mv.length (T.take 0)).map (SV.int .i64) := by
    apply List.ext_getElem?
    intro k
    by_cases hk : k < mv.length
    · rw [List.getElem?_replicate, if_pos hk, List.getElem?_map, cntL_at hk]; rfl
    · rw [List.getElem?_eq_none (by simp; omega), List.getElem?_eq_none (by simp [cntL]; omega)]
  rw [hz]
  simp only [c81r2, go_sem, ↓reduceIte, reduceCtorEq, Nat.reduceAdd, Nat.reduceSub, Nat.reduceLT, Nat.reduceLeDiff]
  refine loop_rule (fun n τ => ∃ i : Nat, n = T.length - i ∧ i ≤ T.length ∧ (List.range i).all (tkAt pl mv wn T) = true ∧
    τ = ⟨[.any, .s (.slice (T.map pr)), .s (.ptr [.slice (pl.map .bool), .slice (mv.map ints), .slice (wn.map .bool)]), .any, .any, .sl 0 0 mv.length 1 true, .s (.int .i64 i), .any, .any, .any, .any, .any, .any, .any, .any, .any, .any, .any, .any, .any, .any, .any, .any, .any, .any, .any, .any, .any, .any, .any, .any, .any, .any, .any, .any, .any, .any, .any, .any, .any, .any, .any, .any, .any, .any, .any, .any, .any, .any, .any, .any, .any, .any, .any, .any, .any, .any, .any, .any, .any, .any, .any, .any, .any, .any, .any, .any, .any, .any, .any, .any, .any, .any, .any, .any, .any, .any, .any, .any, .any, .any, .any, .any, .any, .any, .any, .any, .any, .any, .any, .any, .any, .any, .any, .any, .any, .any, .any, .any, .any, .any, .any, .any, .any, .any, .any, .any, .any, .any, .any, .any], [.row ((cntL mv.length (T.take i)).map (SV.int .i64))]⟩) T.length rfl ?_ ?_
  · simp only [c81l13m, go_sem, ↓reduceIte, reduceCtorEq, Nat.reduceAdd, Nat.reduceSub, Nat.reduceLT, Nat.reduceLeDiff]
    exact ⟨0, rfl, Nat.zero_le _, rfl, rfl⟩
  · rintro I n τ ⟨i, rfl, hi, hall, rfl⟩ hI
    simp only [c81l13, c81r3, go_sem, ↓reduceIte, reduceCtorEq, Nat.reduceAdd, Nat.reduceSub, Nat.reduceLT, Nat.reduceLeDiff]
    intro _
    refine ⟨fun hlt => ?_, fun hge => ?_⟩
    · have hlt' : i < T.length := by omega
      have hx : T[i]? = some (T.getD i (0, 0)) := by rw [List.getD_eq_getElem?_getD, List.getElem?_eq_getElem hlt']; rfl
      have hpv : 0 < i → T[i - 1]? = some (T.getD (i - 1) (0, 0)) := fun h => by rw [List.getD_eq_getElem?_getD, List.getElem?_eq_getElem (by omega)]; rfl
      have htk : T.take (i + 1) = T.take i ++ [T.getD i (0, 0)] := by rw [List.take_succ, hx]; rfl
      have hno : tkAt pl mv wn T i = false → rs = false := fun h => by rw [← hr]; exact all_not hlt' h
      have hyes : tkAt pl mv wn T i = true → (List.range (i + 1)).all (tkAt pl mv wn T) = true := fun h => all_succ hall h
      have htd : tkAt pl mv wn T i = (decide (0 ≤ (T.getD i (0, 0)).1) && decide ((T.getD i (0, 0)).1 < mv.length) && !pl.getD (T.getD i (0, 0)).1.toNat false && !wn.getD (T.getD i (0, 0)).1.toNat false && hasL (mv.getD (T.getD i (0, 0)).1.toNat []) (T.getD i (0, 0)).2 &&
        (decide (i = 0) || lexlt (T.getD (i - 1) (0, 0)) (T.getD i (0, 0))) && !decide (cntT (T.take (i + 1)) (T.getD i (0, 0)).1 = (mv.getD (T.getD i (0, 0)).1.toNat []).length)) := rfl
      have hcs := fun h0 h1 => cntL_snoc (n := mv.length) (T := T.take i) (x := T.getD i (0, 0)) h0 h1
      rw [← htk] at hcs
      generalize T.getD (i - 1) (0, 0) = y at *
      generalize T.getD i (0, 0) = x at *
      obtain ⟨a, b⟩ := x
      simp only [] at htd hcs
      simp only [c81r4, hx, hlt', pr, List.getElem?_cons_zero, List.getElem?_cons_succ, Int.toNat_zero, Int.toNat_one, Nat.mul_one, go_sem, ↓reduceIte, reduceCtorEq, Nat.reduceAdd, Nat.reduceSub, Nat.reduceLT, Nat.reduceLeDiff]
      refine ⟨by decide, by decide, by decide, ?_⟩
      by_cases ha0 : a < 0
      · have hf := hno (by rw [htd]; simp; omega)
        subst hf
        simp only [c81r5, ha0, c81r6, go_sem, ↓reduceIte, reduceCtorEq, Nat.reduceAdd, Nat.reduceSub, Nat.reduceLT, Nat.reduceLeDiff]
      by_cases ha1 : (mv.length : Int) ≤ a
      · have hf := hno (by rw [htd]; simp; omega)
        subst hf
        simp only [c81r5, ha0, ha1, c81r6, go_sem, ↓reduceIte, reduceCtorEq, Nat.reduceAdd, Nat.reduceSub, Nat.reduceLT, Nat.reduceLeDiff]
      have ha2 : 0 ≤ a := by omega
      have hal : a.toNat < mv.length := by omega
      obtain ⟨hm, hp, hw, hm2, hp2, hw2, hins⟩ := hv.at' hal
      have hcs := hcs ha2 (by omega)
      have hat := cntL_at (n := mv.length) (T := T.take i) hal
      have hatl := cntL_len (n := mv.length) (T := T.take i)
      have hat2 := cntL_at (n := mv.length) (T := T.take (i + 1)) hal
      have hatl2 := cntL_len (n := mv.length) (T := T.take (i + 1))
      rw [show ((a.toNat : Nat) : Int) = a by omega] at hat hat2
      have hd0 : decide (0 ≤ a) = true := by simpa using ha2
      have hd1 : decide (a < mv.length) = true := by simp; omega
      rw [hd0, hd1] at htd
      simp only [Bool.true_and] at htd
      have hl14 : (mv.getD a.toNat []).length ≤ 14 := by have := rise_len _ 0 (hv.ris _ (List.mem_of_getElem? hm)) (by omega); omega
      generalize mv.getD a.toNat [] = l at *
      generalize pl.getD a.toNat false = p at *
      generalize wn.getD a.toNat false = w at *
      generalize cntL mv.length (T.take i) = C at *
      have hcb : cntT (T.take i) a ≤ 200 := Nat.le_trans List.countP_le_length (by rw [List.length_take]; omega)
      generalize hC2 : cntL mv.length (T.take (i + 1)) = C2 at *
      generalize cntT (T.take i) a = c at *
      generalize cntT (T.take (i + 1)) a = c2 at *
      cases p with
      | true =>
        have hf := hno (by rw [htd]; simp)
        subst hf
        simp only [c81r5, ha0, ha1, hp, hp2, c81r6, go_sem, ↓reduceIte, reduceCtorEq, Nat.reduceAdd, Nat.reduceSub, Nat.reduceLT, Nat.reduceLeDiff]
        exact ha2
      | false =>
      cases w with
      | true =>
        have hf := hno (by rw [htd]; simp)
        subst hf
        simp only [c81r5, ha0, ha1, hp, hp2, hw, hw2, c81r6, go_sem, ↓reduceIte, reduceCtorEq, Nat.reduceAdd, Nat.reduceSub, Nat.reduceLT, Nat.reduceLeDiff]
        exact ⟨ha2, ha2⟩
      | false =>
        simp only [c81r5, ha0, ha1, hp, hp2, hw, hw2, hm, hm2, ints, go_sem, ↓reduceIte, reduceCtorEq, Nat.reduceAdd, Nat.reduceSub, Nat.reduceLT, Nat.reduceLeDiff]
        refine ⟨ha2, ha2, ha2, ?_⟩
        refine callK_of (by rfl) (k49 (xs := l) (v := b)) (.inl rfl) ?_
        cases hq : hasL l b with
        | false =>
          have hf := hno (by rw [htd, hq]; simp)
          subst hf
          simp only [c81r6, go_sem, ↓reduceIte, reduceCtorEq, Nat.reduceAdd, Nat.reduceSub, Nat.reduceLT, Nat.reduceLeDiff]
        | true =>
          rw [hq] at htd
          simp only [Bool.not_false, Bool.true_and] at htd
          simp only [go_sem, ↓reduceIte, reduceCtorEq, Nat.reduceAdd, Nat.reduceSub, Nat.reduceLT, Nat.reduceLeDiff]
          intro _
          have fin : tkAt pl mv wn T i = true → I ⟨[.any, .s (.slice (T.map pr)), .s (.ptr [.slice (pl.map .bool), .slice (mv.map ints), .slice (wn.map .bool)]), .any, .any, .sl 0 0 mv.length 1 true, .s (.int .i64 (i + 1)), .any, .any, .any, .any, .any, .any, .any, .any, .any, .any, .any, .any, .any, .any, .any, .any, .any, .any, .any, .any, .any, .any, .any, .any, .any, .any, .any, .any, .any, .any, .any, .any, .any, .any, .any, .any, .any, .any, .any, .any, .any, .any, .any, .any, .any, .any, .any, .any, .any, .any, .any, .any, .any, .any, .any, .any, .any, .any, .any, .any, .any, .any, .any, .any, .any, .any, .any, .any, .any, .any, .any, .any, .any, .any, .any, .any, .any, .any, .any, .any, .any, .any, .any, .any, .any, .any, .any, .any, .any, .any, .any, .any, .any, .any, .any, .any, .any, .any, .any, .any, .any, .any, .any, .any], [.row (C2.map (SV.int .i64))]⟩ := fun h => hI (T.length - (i + 1)) _ (by omega) ⟨i + 1, rfl, by omega, hyes h, by rw [← hC2]; simp⟩
          have hspC : splice (C.map (SV.int .i64)) a.toNat [SV.int .i64 ((c : Int) + 1)] = C2.map (SV.int .i64) := by rw [splice_row (by omega), hcs]
          by_cases hi0 : i = 0
          · have hi1 : ¬ ((0 : Int) < i) := by omega
            have hgo : tkAt pl mv wn T i = !decide (c2 = l.length) := by rw [htd]; simp [hi0]
            simp only [c81r7, hi1, go_sem, ↓reduceIte, reduceCtorEq, Nat.reduceAdd, Nat.reduceSub, Nat.reduceLT, Nat.reduceLeDiff]
            simp only [c81r9, Nat.mul_one, hat, hatl, hal, go_sem, ↓reduceIte, reduceCtorEq, Nat.reduceAdd, Nat.reduceSub, Nat.reduceLT, Nat.reduceLeDiff]
            refine ⟨ha2, by omega, inR_i64 (by omega) (by omega), ha2, by omega, by omega, ?_⟩
            rw [hspC]
            by_cases hce : c2 = l.length
            · have hf := hno (by rw [hgo]; simp [hce])
              subst hf
              have hce' : (c2 : Int) = l.length := by omega
              simp only [c81r10, Nat.mul_one, hat2, hatl2, hal, hm, hm2, ints, hce', c81r11, go_sem, ↓reduceIte, reduceCtorEq, Nat.reduceAdd, Nat.reduceSub, Nat.reduceLT, Nat.reduceLeDiff]
              exact ⟨ha2, by omega, ha2⟩
            · have hce' : ¬ ((c2 : Int) = l.length) := by omega
              simp only [c81r10, Nat.mul_one, hat2, hatl2, hal, hm, hm2, ints, hce', c81r12, c81l13m, go_sem, ↓reduceIte, reduceCtorEq, Nat.reduceAdd, Nat.reduceSub, Nat.reduceLT, Nat.reduceLeDiff]
              exact ⟨ha2, by omega, ha2, fun _ => ⟨inR_i64 (by omega) (by omega), fin (by rw [hgo]; simp [hce])⟩⟩
          · have hpr := hpv (by omega)
            obtain ⟨pa, pb⟩ := y
            have hi1 : (0 : Int) < i := by omega
            have hin : ((i : Int) - 1).toNat = i - 1 := by omega
            have hix : i - 1 < T.length := by omega
            have hd0 : decide (i = 0) = false := by simpa using hi0
            rw [hd0, Bool.false_or] at htd
            by_cases hA : a < pa
            · have hf := hno (by rw [htd]; simp [lexlt]; omega)
              subst hf
              simp only [c81r7, hi1, hin, hA, hix, hpr, hx, hlt', pr, List.getElem?_cons_zero, List.getElem?_cons_succ, Int.toNat_zero, Int.toNat_one, Nat.mul_one, c81r8, go_sem, ↓reduceIte, reduceCtorEq, Nat.reduceAdd, Nat.reduceSub, Nat.reduceLT, Nat.reduceLeDiff]
              exact ⟨inR_i64 (by omega) (by omega), by omega, by decide⟩
            · by_cases hB : a = pa
              · subst hB
                by_cases hC : b ≤ pb
                · have hf := hno (by rw [htd]; simp [lexlt]; omega)
                  subst hf
                  simp only [c81r7, hi1, hin, hA, hC, hix, hpr, hx, hlt', pr, List.getElem?_cons_zero, List.getElem?_cons_succ, Int.toNat_zero, Int.toNat_one, Nat.mul_one, c81r8, go_sem, ↓reduceIte, reduceCtorEq, Nat.reduceAdd, Nat.reduceSub, Nat.reduceLT, Nat.reduceLeDiff]
                  exact ⟨inR_i64 (by omega) (by omega), by omega, by decide, inR_i64 (by omega) (by omega), by omega, by decide, inR_i64 (by omega) (by omega), by omega, by decide, by decide⟩
                · have hgo : tkAt pl mv wn T i = !decide (c2 = l.length) := by rw [htd]; simp [lexlt]; omega
                  simp only [c81r7, hi1, hin, hA, hC, hix, hpr, hx, hlt', pr, List.getElem?_cons_zero, List.getElem?_cons_succ, Int.toNat_zero, Int.toNat_one, Nat.mul_one, go_sem, ↓reduceIte, reduceCtorEq, Nat.reduceAdd, Nat.reduceSub, Nat.reduceLT, Nat.reduceLeDiff]
                  refine ⟨inR_i64 (by omega) (by omega), by omega, by decide, inR_i64 (by omega) (by omega), by omega, by decide, inR_i64 (by omega) (by omega), by omega, by decide, by decide, ?_⟩
                  simp only [c81r9, Nat.mul_one, hat, hatl, hal, go_sem, ↓reduceIte, reduceCtorEq, Nat.reduceAdd, Nat.reduceSub, Nat.reduceLT, Nat.reduceLeDiff]
                  refine ⟨ha2, by omega, inR_i64 (by omega) (by omega), ha2, by omega, by omega, ?_⟩
                  rw [hspC]
                  by_cases hce : c2 = l.length
                  · have hf := hno (by rw [hgo]; simp [hce])
                    subst hf
                    have hce' : (c2 : Int) = l.length := by omega
                    simp only [c81r10, Nat.mul_one, hat2, hatl2, hal, hm, hm2, ints, hce', c81r11, go_sem, ↓reduceIte, reduceCtorEq, Nat.reduceAdd, Nat.reduceSub, Nat.reduceLT, Nat.reduceLeDiff]
                    exact ⟨ha2, by omega, ha2⟩
                  · have hce' : ¬ ((c2 : Int) = l.length) := by omega
                    simp only [c81r10, Nat.mul_one, hat2, hatl2, hal, hm, hm2, ints, hce', c81r12, c81l13m, go_sem, ↓reduceIte, reduceCtorEq, Nat.reduceAdd, Nat.reduceSub, Nat.reduceLT, Nat.reduceLeDiff]
                    exact ⟨ha2, by omega, ha2, fun _ => ⟨inR_i64 (by omega) (by omega), fin (by rw [hgo]; simp [hce])⟩⟩
              · have hgo : tkAt pl mv wn T i = !decide (c2 = l.length) := by rw [htd]; simp [lexlt]; omega
                simp only [c81r7, hi1, hin, hA, hB, hix, hpr, hx, hlt', pr, List.getElem?_cons_zero, List.getElem?_cons_succ, Int.toNat_zero, Int.toNat_one, Nat.mul_one, go_sem, ↓reduceIte, reduceCtorEq, Nat.reduceAdd, Nat.reduceSub, Nat.reduceLT, Nat.reduceLeDiff]
                refine ⟨inR_i64 (by omega) (by omega), by omega, by decide, inR_i64 (by omega) (by omega), by omega, by decide, ?_⟩
                simp only [c81r9, Nat.mul_one, hat, hatl, hal, go_sem, ↓reduceIte, reduceCtorEq, Nat.reduceAdd, Nat.reduceSub, Nat.reduceLT, Nat.reduceLeDiff]
                refine ⟨ha2, by omega, inR_i64 (by omega) (by omega), ha2, by omega, by omega, ?_⟩
                rw [hspC]
                by_cases hce : c2 = l.length
                · have hf := hno (by rw [hgo]; simp [hce])
                  subst hf
                  have hce' : (c2 : Int) = l.length := by omega
                  simp only [c81r10, Nat.mul_one, hat2, hatl2, hal, hm, hm2, ints, hce', c81r11, go_sem, ↓reduceIte, reduceCtorEq, Nat.reduceAdd, Nat.reduceSub, Nat.reduceLT, Nat.reduceLeDiff]
                  exact ⟨ha2, by omega, ha2⟩
                · have hce' : ¬ ((c2 : Int) = l.length) := by omega
                  simp only [c81r10, Nat.mul_one, hat2, hatl2, hal, hm, hm2, ints, hce', c81r12, c81l13m, go_sem, ↓reduceIte, reduceCtorEq, Nat.reduceAdd, Nat.reduceSub, Nat.reduceLT, Nat.reduceLeDiff]
                  exact ⟨ha2, by omega, ha2, fun _ => ⟨inR_i64 (by omega) (by omega), fin (by rw [hgo]; simp [hce])⟩⟩
    · have hie : i = T.length := by omega
      subst hie
      have ht : rs = true := by rw [← hr]; exact hall
      subst ht
      simp only [c81r14, go_sem, ↓reduceIte, reduceCtorEq, Nat.reduceAdd, Nat.reduceSub, Nat.reduceLT, Nat.reduceLeDiff]
end Go.Proofs.Ytglmjdpmpgphkaa.Sk

/- Contracts of functions: the machine without some answers, by the document, and whether the player wins there. -/
namespace Go.Proofs.Ytglmjdpmpgphkaa.Sk
open Go Go.E Go.E.Sm
set_option maxRecDepth 10000

def goneB (T : List (Int × Int)) (i : Nat) (k : Int) : Bool := T.any fun x => decide (x = ((i : Int), k))
def wtV (mv : List (List Int)) (T : List (Int × Int)) (i : Nat) : List Int := keepF (goneB T i) (mv.getD i [])
def wtM (mv : List (List Int)) (T : List (Int × Int)) : List (List Int) := (List.range mv.length).map (wtV mv T)
theorem wtM_len {mv : List (List Int)} {T : List (Int × Int)} : (wtM mv T).length = mv.length := by simp [wtM]
theorem wtM_at {mv : List (List Int)} {T : List (Int × Int)} {i : Nat} (hi : i < mv.length) : (wtM mv T).getD i [] = wtV mv T i := by
  unfold wtM
  rw [List.getD_eq_getElem?_getD, List.getElem?_map, List.getElem?_range hi]; rfl
theorem wtM_valid {pl wn : List Bool} {mv : List (List Int)} {T : List (Int × Int)} (hv : Valid pl mv wn) : Valid pl (wtM mv T) wn := by
  refine ⟨by rw [wtM_len]; exact hv.pos, by rw [wtM_len]; exact hv.few, by rw [wtM_len]; exact hv.pl, by rw [wtM_len]; exact hv.wn, fun l hl => ?_⟩
  rw [wtM_len]
  obtain ⟨i, hi, rfl⟩ := List.mem_map.1 hl
  exact rise_keep _ 0 0 (Int.le_refl _) (hv.ris _ (List.mem_of_getElem? (hv.at' (by simpa using hi)).hm))
theorem any_snoc {T : List (Int × Int)} {j : Nat} {q : Int × Int → Bool} {x : Int × Int} (h : T[j]? = some x) : (T.take (j + 1)).any q = ((T.take j).any q || q x) := by
  rw [List.take_succ, h, List.any_append]; simp

set_option maxHeartbeats 4000000 in
theorem k54 {pl wn : List Bool} {mv : List (List Int)} {T : List (Int × Int)} (hv : Valid pl mv wn) (hT : T.length ≤ 200) : E.Fn Try.prog 54 [mach pl mv wn, prs T] [mach pl (wtM mv T) wn] := by
  refine fn_of_row okf54 ?_
  have h14 := hv.few
  have hvd : ∀ i, wtV mv T i = keepF (goneB T i) (mv.getD i []) := fun i => rfl
  unfold wtM
  generalize wtV mv T = v at *
  simp only [FRow.start, f54, c54r0, c54r1, c54r2, mach, bools, ints, prs, splice, go_sem, ↓reduceIte, reduceCtorEq, Nat.reduceAdd, Nat.reduceSub, Nat.reduceLT, Nat.reduceLeDiff]
  refine loop_rule (fun n τ => ∃ i : Nat, n = mv.length - i ∧ i ≤ mv.length ∧
    τ = ⟨[.any, .s (.slice (T.map pr)), .s (.ptr [.slice (pl.map .bool), .slice (mv.map ints), .slice (wn.map .bool)]), .any, .loc 0 0, .loc 1 0, .s (.int .i64 i), .any, .any, .any, .any, .any, .any, .any, .any, .any, .any, .any, .any, .any, .any, .any, .any, .any, .any, .any, .any, .any, .any, .any, .any, .any, .any, .any, .any, .any, .any, .any, .any, .any, .any, .any, .any, .any, .any, .any, .any, .any, .any, .any, .any, .any, .any, .any, .any, .any, .any, .any, .any, .any, .any, .any, .any, .any, .any, .any, .any, .any, .any, .any, .any, .any, .any, .any, .any, .any, .any], [.obj [.full [], .full [], .full []], .obj [.s (.slice (pl.map .bool)), .sl 2 0 i 1 false, .s (.slice (wn.map .bool))], .row (((List.range i).map v).map ints)]⟩) mv.length (promo_cell rfl rfl rfl) ?_ ?_
  · simp only [c54l19m, go_sem, ↓reduceIte, reduceCtorEq, Nat.reduceAdd, Nat.reduceSub, Nat.reduceLT, Nat.reduceLeDiff]
    exact ⟨0, rfl, Nat.zero_le _, by simp⟩
  · rintro I n τ ⟨i, rfl, hi, rfl⟩ hI
    have hrs : (List.range (i + 1)).map v = (List.range i).map v ++ [v i] := by rw [List.range_succ, List.map_append]; rfl
    have hrl : ((List.range i).map v).length = i := by simp
    generalize hO : (List.range i).map v = O at *
    simp only [c54l19, c54r3, go_sem, ↓reduceIte, reduceCtorEq, Nat.reduceAdd, Nat.reduceSub, Nat.reduceLT, Nat.reduceLeDiff]
    intro _
    refine ⟨fun hlt => ?_, fun hge => ?_⟩
    · have hlt' : i < mv.length := by omega
      obtain ⟨hm, hp, hw, hm2, hp2, hw2, hins⟩ := hv.at' hlt'
      have hl14 : (mv.getD i []).length ≤ 14 := by have := rise_len _ 0 (hv.ris _ (List.mem_of_getElem? hm)) (by omega); omega
      have hvi := hvd i
      have goOn : ∀ y, v i = y → I ⟨[.any, .s (.slice (T.map pr)), .s (.ptr [.slice (pl.map .bool), .slice (mv.map ints), .slice (wn.map .bool)]), .any, .loc 0 0, .loc 1 0, .s (.int .i64 (i + 1)), .any, .any, .any, .any, .any, .any, .any, .any, .any, .any, .any, .any, .any, .any, .any, .any, .any, .any, .any, .any, .any, .any, .any, .any, .any, .any, .any, .any, .any, .any, .any, .any, .any, .any, .any, .any, .any, .any, .any, .any, .any, .any, .any, .any, .any, .any, .any, .any, .any, .any, .any, .any, .any, .any, .any, .any, .any, .any, .any, .any, .any, .any, .any, .any, .any, .any, .any, .any, .any, .any], [.obj [.full [], .full [], .full []], .obj [.s (.slice (pl.map .bool)), .sl 2 0 (i + 1) 1 false, .s (.slice (wn.map .bool))], .row ((O ++ [y]).map ints)]⟩ := fun y hy => by
        subst hy
        exact hI (mv.length - (i + 1)) _ (by omega) ⟨i + 1, rfl, by omega, by rw [hrs]; simp⟩
      generalize hl : mv.getD i [] = l at *
      simp only [c54r4, c54r5, go_sem, ↓reduceIte, reduceCtorEq, Nat.reduceAdd, Nat.reduceSub, Nat.reduceLT, Nat.reduceLeDiff]
      refine loop_rule (fun n τ => ∃ k : Nat, n = l.length - k ∧ k ≤ l.length ∧
        τ = ⟨[.any, .s (.slice (T.map pr)), .s (.ptr [.slice (pl.map .bool), .slice (mv.map ints), .slice (wn.map .bool)]), .any, .loc 0 0, .loc 1 0, .s (.int .i64 i), .sl 3 0 (keepF (goneB T i) (l.take k)).length 1 false, .s (.int .i64 k), .any, .any, .any, .any, .any, .any, .any, .any, .any, .any, .any, .any, .any, .any, .any, .any, .any, .any, .any, .any, .any, .any, .any, .any, .any, .any, .any, .any, .any, .any, .any, .any, .any, .any, .any, .any, .any, .any, .any, .any, .any, .any, .any, .any, .any, .any, .any, .any, .any, .any, .any, .any, .any, .any, .any, .any, .any, .any, .any, .any, .any, .any, .any, .any, .any, .any, .any, .any], [.obj [.full [], .full [], .full []], .obj [.s (.slice (pl.map .bool)), .sl 2 0 i 1 false, .s (.slice (wn.map .bool))], .row (O.map ints), .row ((keepF (goneB T i) (l.take k)).map (SV.int .i64))]⟩) l.length (promo_one rfl) ?_ ?_
      · simp only [c54l16m, go_sem, ↓reduceIte, reduceCtorEq, Nat.reduceAdd, Nat.reduceSub, Nat.reduceLT, Nat.reduceLeDiff]
        exact ⟨0, rfl, Nat.zero_le _, by simp [keepF]⟩
      · rintro I2 n τ ⟨k, rfl, hk, rfl⟩ hI2
        simp only [c54l16, c54r6, hm, hm2, ints, go_sem, ↓reduceIte, reduceCtorEq, Nat.reduceAdd, Nat.reduceSub, Nat.reduceLT, Nat.reduceLeDiff]
        intro _
        refine ⟨fun hlt2 => ?_, fun hge2 => ?_⟩
        · have hlt2' : k < l.length := by omega
          have hy := getI_nat (W := l) (i := k) hlt2'
          have hkt := keepF_take (q := goneB T i) hy
          have hkl : (keepF (goneB T i) (l.take k)).length ≤ 14 := by
            have := List.length_filter_le (fun x => !goneB T i x) (l.take k)
            have := List.length_take_le k l
            unfold keepF; omega
          generalize getI l k = y at *
          generalize hG : keepF (goneB T i) (l.take k) = G at *
          simp only [c54r7, c54r8, go_sem, ↓reduceIte, reduceCtorEq, Nat.reduceAdd, Nat.reduceSub, Nat.reduceLT, Nat.reduceLeDiff]
          refine loop_rule (fun n τ => ∃ j : Nat, n = T.length - j ∧ j ≤ T.length ∧
            τ = ⟨[.any, .s (.slice (T.map pr)), .s (.ptr [.slice (pl.map .bool), .slice (mv.map ints), .slice (wn.map .bool)]), .any, .loc 0 0, .loc 1 0, .s (.int .i64 i), .sl 3 0 G.length 1 false, .s (.int .i64 k), .s (.bool ((T.take j).any fun x => decide (x = ((i : Int), y)))), .s (.int .i64 j), .any, .any, .any, .any, .any, .any, .any, .any, .any, .any, .any, .any, .any, .any, .any, .any, .any, .any, .any, .any, .any, .any, .any, .any, .any, .any, .any, .any, .any, .any, .any, .any, .any, .any, .any, .any, .any, .any, .any, .any, .any, .any, .any, .any, .any, .any, .any, .any, .any, .any, .any, .any, .any, .any, .any, .any, .any, .any, .any, .any, .any, .any, .any, .any, .any, .any], [.obj [.full [], .full [], .full []], .obj [.s (.slice (pl.map .bool)), .sl 2 0 i 1 false, .s (.slice (wn.map .bool))], .row (O.map ints), .row (G.map (SV.int .i64))]⟩) T.length rfl ?_ ?_
          · simp only [c54l12m, go_sem, ↓reduceIte, reduceCtorEq, Nat.reduceAdd, Nat.reduceSub, Nat.reduceLT, Nat.reduceLeDiff]
            exact ⟨0, rfl, Nat.zero_le _, rfl⟩
          · rintro I3 n τ ⟨j, rfl, hj, rfl⟩ hI3
            simp only [c54l12, c54r9, go_sem, ↓reduceIte, reduceCtorEq, Nat.reduceAdd, Nat.reduceSub, Nat.reduceLT, Nat.reduceLeDiff]
            intro _
            refine ⟨fun hlt3 => ?_, fun hge3 => ?_⟩
            · have hlt3' : j < T.length := by omega
              have hx : T[j]? = some (T.getD j (0, 0)) := by rw [List.getD_eq_getElem?_getD, List.getElem?_eq_getElem hlt3']; rfl
              have has := any_snoc (q := fun x => decide (x = ((i : Int), y))) hx
              have fin3 : ∀ b, ((T.take (j + 1)).any fun x => decide (x = ((i : Int), y))) = b → I3 ⟨[.any, .s (.slice (T.map pr)), .s (.ptr [.slice (pl.map .bool), .slice (mv.map ints), .slice (wn.map .bool)]), .any, .loc 0 0, .loc 1 0, .s (.int .i64 i), .sl 3 0 G.length 1 false, .s (.int .i64 k), .s (.bool b), .s (.int .i64 (j + 1)), .any, .any, .any, .any, .any, .any, .any, .any, .any, .any, .any, .any, .any, .any, .any, .any, .any, .any, .any, .any, .any, .any, .any, .any, .any, .any, .any, .any, .any, .any, .any, .any, .any, .any, .any, .any, .any, .any, .any, .any, .any, .any, .any, .any, .any, .any, .any, .any, .any, .any, .any, .any, .any, .any, .any, .any, .any, .any, .any, .any, .any, .any, .any, .any, .any, .any], [.obj [.full [], .full [], .full []], .obj [.s (.slice (pl.map .bool)), .sl 2 0 i 1 false, .s (.slice (wn.map .bool))], .row (O.map ints), .row (G.map (SV.int .i64))]⟩ := fun b hb => by
                subst hb
                exact hI3 (T.length - (j + 1)) _ (by omega) ⟨j + 1, rfl, by omega, by simp⟩
              generalize T.getD j (0, 0) = x at *
              generalize ((T.take j).any fun x => decide (x = ((i : Int), y))) = g at *
              cases g with
              | true =>
                simp only [c54r10, c54r11, c54l12m, go_sem, ↓reduceIte, reduceCtorEq, Nat.reduceAdd, Nat.reduceSub, Nat.reduceLT, Nat.reduceLeDiff]
                exact ⟨inR_i64 (by omega) (by omega), fin3 _ (by rw [has]; rfl)⟩
              | false =>
                simp only [c54r10, hx, hlt3', pr, hm, hm2, hy, hlt2', ints, c54r11, c54l12m, go_sem, ↓reduceIte, reduceCtorEq, Nat.reduceAdd, Nat.reduceSub, Nat.reduceLT, Nat.reduceLeDiff]
                refine ⟨inR_i64 (by omega) (by omega), fin3 _ ?_⟩
                rw [has, Bool.false_or]
                exact decide_eq_decide.2 ⟨fun h => by rw [h], fun h => pr_inj h⟩
            · have hje : j = T.length := by omega
              subst hje
              rw [List.take_length]
              have hgd : (T.any fun x => decide (x = ((i : Int), y))) = goneB T i y := rfl
              rw [hgd]
              generalize goneB T i y = g at *
              cases g with
              | true =>
                rw [if_pos rfl] at hkt
                simp only [c54r13, c54r15, c54l16m, go_sem, ↓reduceIte, reduceCtorEq, Nat.reduceAdd, Nat.reduceSub, Nat.reduceLT, Nat.reduceLeDiff]
                exact ⟨inR_i64 (by omega) (by omega), hI2 (l.length - (k + 1)) _ (by omega) ⟨k + 1, rfl, by omega, by rw [hkt]; simp⟩⟩
              | false =>
                rw [if_neg (by simp)] at hkt
                simp only [c54r13, c54r14, hm, hm2, hy, hlt2', ints, Nat.reduceBEq, Nat.reduceEqDiff, go_sem, ↓reduceIte, reduceCtorEq, Nat.reduceAdd, Nat.reduceSub, Nat.reduceLT, Nat.reduceLeDiff]
                refine ⟨by decide, by decide, rfl, one1, one1, by omega, by omega, by omega, ?_⟩
                rw [app_map]
                simp only [c54r15, c54l16m, go_sem, ↓reduceIte, reduceCtorEq, Nat.reduceAdd, Nat.reduceSub, Nat.reduceLT, Nat.reduceLeDiff]
                exact ⟨inR_i64 (by omega) (by omega), hI2 (l.length - (k + 1)) _ (by omega) ⟨k + 1, rfl, by omega, by rw [hkt]; simp⟩⟩
        · have hke : k = l.length := by omega
          subst hke
          rw [List.take_length] at *
          simp only [c54r17, Nat.reduceBEq, Nat.reduceEqDiff, go_sem, ↓reduceIte, reduceCtorEq, Nat.reduceAdd, Nat.reduceSub, Nat.reduceLT, Nat.reduceLeDiff]
          refine ⟨_, rowOf_all (by simp), by decide, by decide, rfl, one1s, one1s, by omega, by omega, by omega, ?_⟩
          have e := app_mapG (O := O) (x := keepF (goneB T i) l)
          rw [e]
          simp only [c54r18, c54l19m, splice, go_sem, ↓reduceIte, reduceCtorEq, Nat.reduceAdd, Nat.reduceSub, Nat.reduceLT, Nat.reduceLeDiff]
          exact ⟨inR_i64 (by omega) (by omega), goOn _ hvi⟩
    · have hie : i = mv.length := by omega
      subst hie
      have hso : sliceOf 0 mv.length 1 (O.map ints) = some (.slice (O.map ints)) := sliceOf_all (by rw [List.length_map, hrl])
      simp only [c54r20, hso, hO, splice, go_sem, ↓reduceIte, reduceCtorEq, Nat.reduceAdd, Nat.reduceSub, Nat.reduceLT, Nat.reduceLeDiff]
end Go.Proofs.Ytglmjdpmpgphkaa.Sk

/- Contracts of functions: whether the player wins without some answers, by the document; which machines are too wide. -/
namespace Go.Proofs.Ytglmjdpmpgphkaa.Sk
open Go Go.E Go.E.Sm
set_option maxRecDepth 10000

def ckT (pl : List Bool) (mv : List (List Int)) (wn : List Bool) (x : Int) (T : List (Int × Int)) : Int :=
  if chkM pl mv wn ≠ 0 then chkM pl mv wn else if inN mv.length x = false then 2 else if tkB pl mv wn T = false then 16 else if getI (distW pl (wtM mv T) wn) x < 0 then 19 else 0

theorem k45 {pl wn : List Bool} {mv : List (List Int)} {x : Int} {T : List (Int × Int)} (hT : T.length ≤ 200) : E.Fn Try.prog 45 [mach pl mv wn, .int .i64 x, prs T] [.int .i64 (ckT pl mv wn x T)] := by
  refine fn_of_row okf45 ?_
  unfold ckT
  simp only [FRow.start, f45, c45r0, c45r1, mach, bools, prs, go_sem, ↓reduceIte, reduceCtorEq, Nat.reduceAdd, Nat.reduceSub, Nat.reduceLT, Nat.reduceLeDiff]
  refine callK_of rfl (k21 (pl := pl) (mv := mv) (wn := wn)) (.inl rfl) ?_
  by_cases h : chkM pl mv wn = 0
  · have hv := valid_of h
    have h1 := hv.few
    have h2 := hv.pos
    rw [if_neg (by simpa using h)]
    simp only [h, go_sem, ↓reduceIte, reduceCtorEq, Nat.reduceAdd, Nat.reduceSub, Nat.reduceLT, Nat.reduceLeDiff]
    cases hx : inN mv.length x with
    | false =>
      rw [if_pos rfl]
      by_cases hx0 : x < 0
      · simp only [c45r3, hx0, c45r4, go_sem, ↓reduceIte, reduceCtorEq, Nat.reduceAdd, Nat.reduceSub, Nat.reduceLT, Nat.reduceLeDiff]
      · have hx1 : (mv.length : Int) ≤ x := by
          simp only [inN, Bool.and_eq_false_iff, decide_eq_false_iff_not] at hx
          omega
        simp only [c45r3, hx0, hx1, c45r4, go_sem, ↓reduceIte, reduceCtorEq, Nat.reduceAdd, Nat.reduceSub, Nat.reduceLT, Nat.reduceLeDiff]
    | true =>
      rw [if_neg (by simp)]
      have hx' := hx
      simp only [inN, Bool.and_eq_true, decide_eq_true_eq] at hx'
      have hx0 : ¬ (x < 0) := by omega
      have hx1 : ¬ ((mv.length : Int) ≤ x) := by omega
      simp only [c45r3, hx0, hx1, c45r5, go_sem, ↓reduceIte, reduceCtorEq, Nat.reduceAdd, Nat.reduceSub, Nat.reduceLT, Nat.reduceLeDiff]
      intro _
      refine callK_of rfl (k81 (T := T) hv hT) (.inl rfl) ?_
      cases ht : tkB pl mv wn T with
      | false =>
        rw [if_pos rfl]
        simp only [c45r6, go_sem, ↓reduceIte, reduceCtorEq, Nat.reduceAdd, Nat.reduceSub, Nat.reduceLT, Nat.reduceLeDiff]
      | true =>
        rw [if_neg (by simp)]
        simp only [c45r7, go_sem, ↓reduceIte, reduceCtorEq, Nat.reduceAdd, Nat.reduceSub, Nat.reduceLT, Nat.reduceLeDiff]
        refine callK_of rfl (k54 (T := T) hv hT) (.inr rfl) ?_
        have hv2 := wtM_valid (T := T) hv
        have hw := wtM_len (mv := mv) (T := T)
        have hdl := distW_len hv2
        have q := k59 hv2.pos hv2.few hv2.pl hv2.wn hv2.ins
        generalize wtM mv T = M at *
        generalize distW pl M wn = D at *
        have hg := getI_get (W := D) (x := x) hx'.1 (by omega)
        have hg2 : x.toNat < D.length := by omega
        simp only [mach, bools, go_sem, ↓reduceIte, reduceCtorEq, Nat.reduceAdd, Nat.reduceSub, Nat.reduceLT, Nat.reduceLeDiff]
        refine callK_of rfl q (.inr rfl) ?_
        by_cases hd : getI D x < 0
        · rw [if_pos hd]
          simp only [ints, hg, hg2, hd, c45r8, go_sem, ↓reduceIte, reduceCtorEq, Nat.reduceAdd, Nat.reduceSub, Nat.reduceLT, Nat.reduceLeDiff]
          exact hx'.1
        · rw [if_neg hd]
          simp only [ints, hg, hg2, hd, c45r9, go_sem, ↓reduceIte, reduceCtorEq, Nat.reduceAdd, Nat.reduceSub, Nat.reduceLT, Nat.reduceLeDiff]
          exact hx'.1
  · rw [if_pos h]
    simp only [h, c45r2, go_sem, ↓reduceIte, reduceCtorEq, Nat.reduceAdd, Nat.reduceSub, Nat.reduceLT, Nat.reduceLeDiff]
    refine callK_of rfl (k21 (pl := pl) (mv := mv) (wn := wn)) (.inl rfl) ?_
    simp only [go_sem, ↓reduceIte, reduceCtorEq, Nat.reduceAdd, Nat.reduceSub, Nat.reduceLT, Nat.reduceLeDiff]

def wideB (pl : List Bool) (mv : List (List Int)) (wn : List Bool) : Bool := greatB pl mv wn || (decide (11 < mv.length) && decide (chkM pl mv wn = 0))
theorem k41 {pl wn : List Bool} {mv : List (List Int)} : E.Fn Try.prog 41 [mach pl mv wn] [.bool (wideB pl mv wn)] := by
  refine fn_of_row okf41 ?_
  unfold wideB
  simp only [FRow.start, f41, c41r0, c41r1, mach, bools, ints, go_sem, ↓reduceIte, reduceCtorEq, Nat.reduceAdd, Nat.reduceSub, Nat.reduceLT, Nat.reduceLeDiff]
  refine callK_of rfl (k16 (pl := pl) (mv := mv) (wn := wn)) (.inl rfl) ?_
  cases hg : greatB pl mv wn with
  | true =>
    simp only [go_sem, ↓reduceIte, reduceCtorEq, Nat.reduceAdd, Nat.reduceSub, Nat.reduceLT, Nat.reduceLeDiff]
    rfl
  | false =>
    by_cases h11 : (11 : Int) < mv.length
    · have h11' : 11 < mv.length := by omega
      simp only [h11, go_sem, ↓reduceIte, reduceCtorEq, Nat.reduceAdd, Nat.reduceSub, Nat.reduceLT, Nat.reduceLeDiff]
      refine callK_of rfl (k21 (pl := pl) (mv := mv) (wn := wn)) (.inl rfl) ?_
      simp only [go_sem, ↓reduceIte, reduceCtorEq, Nat.reduceAdd, Nat.reduceSub, Nat.reduceLT, Nat.reduceLeDiff]
      intro _
      simp [h11']
    · have h11' : ¬ (11 < mv.length) := by omega
      simp only [h11, go_sem, ↓reduceIte, reduceCtorEq, Nat.reduceAdd, Nat.reduceSub, Nat.reduceLT, Nat.reduceLeDiff]
      intro _
      simp [h11']
end Go.Proofs.Ytglmjdpmpgphkaa.Sk

/- Contracts of functions: how few answers have to be taken away, by the document. -/
namespace Go.Proofs.Ytglmjdpmpgphkaa.Sk
open Go Go.E Go.E.Sm
set_option maxRecDepth 10000

theorem pow_int (i : Nat) : (1 : Int) * 2 ^ i = ((2 ^ i : Nat) : Int) := by simp
def fillN (N k : Nat) : List Int := List.replicate k (-1) ++ List.replicate (N - k) 0
theorem fillN_len {N k : Nat} (h : k ≤ N) : (fillN N k).length = N := by simp [fillN]; omega
theorem fillN_set {N k : Nat} (h : k < N) : (fillN N k).set k (-1) = fillN N (k + 1) := by
  unfold fillN
  rw [List.set_append_right _ _ (by simp), show N - k = (N - (k + 1)) + 1 by omega, List.replicate_succ]
  simp only [List.length_replicate, Nat.sub_self, List.set_cons_zero]
  rw [List.replicate_succ']
  simp
theorem gD_get {C : List Int} {s : Nat} (h : s < C.length) : C[s]? = some (gD C s) := by
  unfold gD
  rw [List.getD_eq_getElem?_getD, List.getElem?_eq_getElem h]; rfl
theorem splice_gD {F : List Int} {i : Nat} {n : Int} (hi : i < F.length) : splice (F.map (SV.int .i64)) i [.int .i64 n] = (F.set i n).map (SV.int .i64) := splice_row hi

end Go.Proofs.Ytglmjdpmpgphkaa.Sk

/- Contracts of functions: as few answers as there can be. -/
namespace Go.Proofs.Ytglmjdpmpgphkaa.Sk
open Go Go.E Go.E.Sm
set_option maxRecDepth 10000

set_option maxHeartbeats 8000000 in
theorem inner78 {pl wn : List Bool} {mv : List (List Int)} {far : List SV} {x s N won : Nat} {b : Int} {C L : List Int} {σ : AState} {Q : AExit → AState → Prop} (hv : Valid pl mv wn) (h11 : mv.length ≤ 11) (hN : N = 2 ^ mv.length) (hs : s < N) (hCl : C.length = N) (hLl : L.length = N)
    (hc0 : 0 ≤ gD C s) (hb : ∀ m, m ≤ mv.length → ∀ t, -1 ≤ gD (innC pl mv s C m) t ∧ gD (innC pl mv s C m) t ≤ 100000) (hlen : σ.hp.length = 3)
    (h0 : norm c78l35m 3 σ = ⟨[.s (.ptr (bools pl :: .slice (mv.map ints) :: bools wn :: far)), .s (.int .i64 x), .any, .any, .any, .any, .s (.int .i64 mv.length), .loc 2 0, .any, .s (.int .i64 won), .any, .any, .s (.int .i64 b), .s (.int .i64 s), .s (.int .i64 (gD C s)), .any, .any, .any, .any, .any, .any, .any, .any, .any, .any, .any, .any, .any, .any, .any, .any, .any, .any, .any, .any, .any, .any, .any, .any, .any, .any, .any, .any, .any, .any, .any, .any, .any, .any, .any, .any, .any, .any, .any, .any, .any, .any, .any, .any, .any, .any, .any, .any, .any, .any, .any, .any, .any, .any, .any, .s (.int .i64 N), .s (.int .i64 s), .any, .any, .any, .any, .any, .any, .any, .any, .any, .any, .any, .any, .any, .any, .any, .any, .any, .any, .any, .any, .any, .any, .any, .any, .any, .any, .any, .any, .s (.int .i64 mv.length), .s (.int .i64 0), .any, .any, .any, .any, .any, .any, .any, .any, .any, .any, .any, .any, .any, .any, .any, .any, .any, .any, .any, .any, .any, .any, .any, .any, .any, .any, .any, .any, .any, .any, .any, .any, .any, .any, .any, .any, .any, .any, .any, .any, .any, .any, .any, .any, .any, .any, .any, .any, .any, .any, .any, .any, .any, .any, .any, .any, .any, .any, .any, .any, .any, .any, .any, .any, .any, .any, .any, .any, .any, .any, .any, .any, .any, .any, .any, .any, .any, .any, .any, .any, .any, .any, .any, .any, .any, .any, .any, .any, .any, .any, .any, .any, .any, .any, .any, .any, .any, .any, .any, .any, .any, .any, .any, .any, .any, .any], [.row (C.map (SV.int .i64)), .row (L.map (SV.int .i64)), .obj [.sl 0 0 N 1 true, .sl 1 0 N 1 true]]⟩)
    (hQ : ∀ fr, fr = [.s (.ptr (bools pl :: .slice (mv.map ints) :: bools wn :: far)), .s (.int .i64 x), .any, .any, .any, .any, .s (.int .i64 mv.length), .loc 2 0, .any, .s (.int .i64 won), .any, .any, .s (.int .i64 b), .s (.int .i64 s), .s (.int .i64 (gD C s)), .any, .any, .any, .any, .any, .any, .any, .any, .any, .any, .any, .any, .any, .any, .any, .any, .any, .any, .any, .any, .any, .any, .any, .any, .any, .any, .any, .any, .any, .any, .any, .any, .any, .any, .any, .any, .any, .any, .any, .any, .any, .any, .any, .any, .any, .any, .any, .any, .any, .any, .any, .any, .any, .any, .any, .s (.int .i64 N), .s (.int .i64 s), .any, .any, .any, .any, .any, .any, .any, .any, .any, .any, .any, .any, .any, .any, .any, .any, .any, .any, .any, .any, .any, .any, .any, .any, .any, .any, .any, .any, .s (.int .i64 mv.length), .s (.int .i64 mv.length), .s (.bool (decide (mv.length < mv.length))), .any, .any, .any, .any, .any, .any, .any, .any, .any, .any, .any, .any, .any, .any, .any, .any, .any, .any, .any, .any, .any, .any, .any, .any, .any, .any, .any, .any, .any, .any, .any, .any, .any, .any, .any, .any, .any, .any, .any, .any, .any, .any, .any, .any, .any, .any, .any, .any, .any, .any, .any, .any, .any, .any, .any, .any, .any, .any, .any, .any, .any, .any, .any, .any, .any, .any, .any, .any, .any, .any, .any, .any, .any, .any, .any, .any, .any, .any, .any, .any, .any, .any, .any, .any, .any, .any, .any, .any, .any, .any, .any, .any, .any, .any, .any, .any, .any, .any, .any, .any, .any, .any, .any, .any, .any] → Q (.exit 6) ⟨fr, [.row ((innC pl mv s C mv.length).map (SV.int .i64)), .row ((innL pl mv s C L mv.length).map (SV.int .i64)), .obj [.sl 0 0 N 1 true, .sl 1 0 N 1 true]]⟩) :
    awp Try.prog 0 (.loop c78l35m [] c78l35) σ Q := by
  have h2n : 2 ^ mv.length ≤ 2 ^ 11 := Nat.pow_le_pow_right (by decide) h11
  have h211 : (2 : Nat) ^ 11 = 2048 := by decide
  have h262 : (2 : Nat) ^ 62 = 4611686018427387904 := by decide
  refine loop_rule (σ' := σ) (fun n τ => ∃ i : Nat, n = mv.length - i ∧ i ≤ mv.length ∧
    τ = ⟨[.s (.ptr (bools pl :: .slice (mv.map ints) :: bools wn :: far)), .s (.int .i64 x), .any, .any, .any, .any, .s (.int .i64 mv.length), .loc 2 0, .any, .s (.int .i64 won), .any, .any, .s (.int .i64 b), .s (.int .i64 s), .s (.int .i64 (gD C s)), .any, .any, .any, .any, .any, .any, .any, .any, .any, .any, .any, .any, .any, .any, .any, .any, .any, .any, .any, .any, .any, .any, .any, .any, .any, .any, .any, .any, .any, .any, .any, .any, .any, .any, .any, .any, .any, .any, .any, .any, .any, .any, .any, .any, .any, .any, .any, .any, .any, .any, .any, .any, .any, .any, .any, .s (.int .i64 N), .s (.int .i64 s), .any, .any, .any, .any, .any, .any, .any, .any, .any, .any, .any, .any, .any, .any, .any, .any, .any, .any, .any, .any, .any, .any, .any, .any, .any, .any, .any, .any, .s (.int .i64 mv.length), .s (.int .i64 i), .any, .any, .any, .any, .any, .any, .any, .any, .any, .any, .any, .any, .any, .any, .any, .any, .any, .any, .any, .any, .any, .any, .any, .any, .any, .any, .any, .any, .any, .any, .any, .any, .any, .any, .any, .any, .any, .any, .any, .any, .any, .any, .any, .any, .any, .any, .any, .any, .any, .any, .any, .any, .any, .any, .any, .any, .any, .any, .any, .any, .any, .any, .any, .any, .any, .any, .any, .any, .any, .any, .any, .any, .any, .any, .any, .any, .any, .any, .any, .any, .any, .any, .any, .any, .any, .any, .any, .any, .any, .any, .any, .any, .any, .any, .any, .any, .any, .any, .any, .any, .any, .any, .any, .any, .any, .any], [.row ((innC pl mv s C i).map (SV.int .i64)), .row ((innL pl mv s C L i).map (SV.int .i64)), .obj [.sl 0 0 N 1 true, .sl 1 0 N 1 true]]⟩) mv.length rfl ?_ ?_
  · rw [hlen, h0]
    exact ⟨0, rfl, Nat.zero_le _, rfl⟩
  · rw [hlen]
    rintro I n τ ⟨i, rfl, hi, rfl⟩ hI
    have hsucc : innC pl mv s C (i + 1) = updC pl mv s (innC pl mv s C i) i := rfl
    have hsuccL : innL pl mv s C L (i + 1) = updL pl mv s (innC pl mv s C i) (innL pl mv s C L i) i := rfl
    have hlow := innC_low (pl := pl) (mv := mv) (s := s) (t := s) (C := C) (Nat.le_refl _) i
    have hbi := hb i hi
    have hil := innC_len (pl := pl) (mv := mv) (s := s) (C := C) i
    have hiL := innL_len (pl := pl) (mv := mv) (s := s) (C := C) (L := L) i
    generalize hD : innC pl mv s C i = D at *
    generalize hE : innL pl mv s C L i = E at *
    simp only [c78l35, c78r27, go_sem, ↓reduceIte, reduceCtorEq, Nat.reduceAdd, Nat.reduceSub, Nat.reduceLT, Nat.reduceLeDiff]
    refine ⟨fun hlt => ?_, fun hge => ?_⟩
    · have hlt' : i < mv.length := by omega
      obtain ⟨hm, hp, hw, hm2, hp2, hw2, hins⟩ := hv.at' hlt'
      have hl14 : (mv.getD i []).length ≤ 14 := by have := rise_len _ 0 (hv.ris _ (List.mem_of_getElem? hm)) (by have := hv.few; omega); have := hv.few; omega
      have fin : ∀ Y Z : List Int, innC pl mv s C (i + 1) = Y → innL pl mv s C L (i + 1) = Z → I ⟨[.s (.ptr (bools pl :: .slice (mv.map ints) :: bools wn :: far)), .s (.int .i64 x), .any, .any, .any, .any, .s (.int .i64 mv.length), .loc 2 0, .any, .s (.int .i64 won), .any, .any, .s (.int .i64 b), .s (.int .i64 s), .s (.int .i64 (gD C s)), .any, .any, .any, .any, .any, .any, .any, .any, .any, .any, .any, .any, .any, .any, .any, .any, .any, .any, .any, .any, .any, .any, .any, .any, .any, .any, .any, .any, .any, .any, .any, .any, .any, .any, .any, .any, .any, .any, .any, .any, .any, .any, .any, .any, .any, .any, .any, .any, .any, .any, .any, .any, .any, .any, .any, .s (.int .i64 N), .s (.int .i64 s), .any, .any, .any, .any, .any, .any, .any, .any, .any, .any, .any, .any, .any, .any, .any, .any, .any, .any, .any, .any, .any, .any, .any, .any, .any, .any, .any, .any, .s (.int .i64 mv.length), .s (.int .i64 (i + 1)), .any, .any, .any, .any, .any, .any, .any, .any, .any, .any, .any, .any, .any, .any, .any, .any, .any, .any, .any, .any, .any, .any, .any, .any, .any, .any, .any, .any, .any, .any, .any, .any, .any, .any, .any, .any, .any, .any, .any, .any, .any, .any, .any, .any, .any, .any, .any, .any, .any, .any, .any, .any, .any, .any, .any, .any, .any, .any, .any, .any, .any, .any, .any, .any, .any, .any, .any, .any, .any, .any, .any, .any, .any, .any, .any, .any, .any, .any, .any, .any, .any, .any, .any, .any, .any, .any, .any, .any, .any, .any, .any, .any, .any, .any, .any, .any, .any, .any, .any, .any, .any, .any, .any, .any, .any, .any], [.row (Y.map (SV.int .i64)), .row (Z.map (SV.int .i64)), .obj [.sl 0 0 N 1 true, .sl 1 0 N 1 true]]⟩ := fun Y Z hY hZ => by
        subst hY hZ
        exact hI (mv.length - (i + 1)) _ (by omega) ⟨i + 1, rfl, by omega, by simp⟩
      have q := k93 (P := pl.map .bool) (M := mv.map ints) (far := bools wn :: far) (i := i) (s := (s : Int)) (p := pl.getD i false) (l := mv.getD i []) (by omega) (fun y hy => by have := hins y hy; have := hv.few; omega) (by rw [List.getElem?_map, hm]; rfl) (by rw [List.getElem?_map, hp]; rfl)
      have hmd : costOf (pl.getD i false) (mv.getD i []) (s : Int) = moreV pl mv s i := rfl
      rw [hmd] at q
      have hmr := more_rng (pl := pl) (mv := mv) (s := s) (i := i) hl14
      have hlb := low_bit (a := s) (i := i) (by omega)
      rw [updC] at hsucc
      rw [updL] at hsuccL
      generalize moreV pl mv s i = mo at *
      simp only [c78r28, c78r29, bools, go_sem, ↓reduceIte, reduceCtorEq, Nat.reduceAdd, Nat.reduceSub, Nat.reduceLT, Nat.reduceLeDiff]
      refine callK_of rfl q (.inl rfl) ?_
      simp only [c78r30, go_sem, ↓reduceIte, reduceCtorEq, Nat.reduceAdd, Nat.reduceSub, Nat.reduceLT, Nat.reduceLeDiff]
      refine ⟨by omega, fun hb1 => ?_, fun hb1 => ⟨fun hc => ?_, fun hc => ?_⟩⟩
      · have htb : s.testBit i = true := by
          rw [hlb] at hb1
          cases h : s.testBit i with
          | true => rfl
          | false => rw [h] at hb1; simp at hb1
        rw [if_pos (.inl htb)] at hsucc hsuccL
        simp only [c78r34, c78l35m, go_sem, ↓reduceIte, reduceCtorEq, Nat.reduceAdd, Nat.reduceSub, Nat.reduceLT, Nat.reduceLeDiff]
        exact ⟨inR_i64 (by omega) (by omega), fin _ _ hsucc hsuccL⟩
      · rw [if_pos (.inr hc)] at hsucc hsuccL
        simp only [c78r34, c78l35m, go_sem, ↓reduceIte, reduceCtorEq, Nat.reduceAdd, Nat.reduceSub, Nat.reduceLT, Nat.reduceLeDiff]
        exact ⟨inR_i64 (by omega) (by omega), fin _ _ hsucc hsuccL⟩
      · have htb : s.testBit i = false := by
          rw [hlb] at hb1
          cases h : s.testBit i with
          | true => rw [h] at hb1; simp at hb1
          | false => rfl
        rw [if_neg (by rw [htb]; rintro (h | h); cases h; omega), hlow] at hsucc hsuccL
        have hpi : 2 ^ i < 2 ^ mv.length := Nat.pow_lt_pow_right (by decide) hlt'
        have hpn : inR .i64 ((2 ^ i : Nat) : Int) := by
          have hlt3 : 2 ^ i < 2048 := by omega
          generalize 2 ^ i = w at hlt3
          exact inR_i64 (by omega) (by omega)
        have hu : s ||| 2 ^ i < N := by rw [hN]; exact Nat.or_lt_two_pow (by omega) hpi
        have hor : bitOf .i64 (s : Int) ((2 ^ i : Nat) : Int) .or = ((s ||| 2 ^ i : Nat) : Int) := bit_or (by omega) (by omega)
        have hgu := gD_get (C := D) (s := s ||| 2 ^ i) (by omega)
        have hDu : s ||| 2 ^ i < D.length := by omega
        have hgb := hbi s
        rw [hlow] at hgb
        have hsp := splice_gD (F := D) (i := s ||| 2 ^ i) (n := gD C s + mo) hDu
        have hsp2 := splice_gD (F := E) (i := s ||| 2 ^ i) (n := (i : Int)) (by omega)
        simp only [c78r31, ldOK, ldOB, go_sem, ↓reduceIte, reduceCtorEq, Nat.reduceAdd, Nat.reduceSub, Nat.reduceLT, Nat.reduceLeDiff]
        rw [pow_int, hor]
        refine ⟨by omega, hpn, ?_⟩
        simp only [Nat.mul_one, Int.toNat_natCast, hgu, hDu, go_sem, ↓reduceIte, reduceCtorEq, Nat.reduceAdd, Nat.reduceSub, Nat.reduceLT, Nat.reduceLeDiff]
        refine ⟨hu, ?_⟩
        by_cases hu0 : gD D (s ||| 2 ^ i) < 0
        · rw [if_pos (.inl hu0)] at hsucc hsuccL
          simp only [c78r32, hu0, go_sem, ↓reduceIte, reduceCtorEq, Nat.reduceAdd, Nat.reduceSub, Nat.reduceLT, Nat.reduceLeDiff]
          simp only [c78r33, ldOK, ldOB, stRK, stRB, Nat.mul_one, Int.toNat_natCast, go_sem, ↓reduceIte, reduceCtorEq, Nat.reduceAdd, Nat.reduceSub, Nat.reduceLT, Nat.reduceLeDiff]
          rw [pow_int, hor]
          simp only [Int.toNat_natCast]
          refine ⟨by omega, hpn, by omega, hpn, inR_i64 (by omega) (by omega), by omega, by omega, by omega, by omega, by omega, by omega, ?_⟩
          rw [hsp, hsp2]
          simp only [c78r34, c78l35m, go_sem, ↓reduceIte, reduceCtorEq, Nat.reduceAdd, Nat.reduceSub, Nat.reduceLT, Nat.reduceLeDiff]
          exact ⟨inR_i64 (by omega) (by omega), fin _ _ hsucc hsuccL⟩
        · by_cases hu1 : gD C s + mo < gD D (s ||| 2 ^ i)
          · rw [if_pos (.inr hu1)] at hsucc hsuccL
            simp only [c78r32, hu0, hu1, go_sem, ↓reduceIte, reduceCtorEq, Nat.reduceAdd, Nat.reduceSub, Nat.reduceLT, Nat.reduceLeDiff]
            simp only [c78r33, ldOK, ldOB, stRK, stRB, Nat.mul_one, Int.toNat_natCast, go_sem, ↓reduceIte, reduceCtorEq, Nat.reduceAdd, Nat.reduceSub, Nat.reduceLT, Nat.reduceLeDiff]
            rw [pow_int, hor]
            simp only [Int.toNat_natCast]
            refine ⟨inR_i64 (by omega) (by omega), by omega, hpn, by omega, hpn, inR_i64 (by omega) (by omega), by omega, by omega, by omega, by omega, by omega, by omega, ?_⟩
            rw [hsp, hsp2]
            simp only [c78r34, c78l35m, go_sem, ↓reduceIte, reduceCtorEq, Nat.reduceAdd, Nat.reduceSub, Nat.reduceLT, Nat.reduceLeDiff]
            exact ⟨inR_i64 (by omega) (by omega), fin _ _ hsucc hsuccL⟩
          · rw [if_neg (by omega)] at hsucc hsuccL
            simp only [c78r32, hu0, hu1, c78r34, c78l35m, go_sem, ↓reduceIte, reduceCtorEq, Nat.reduceAdd, Nat.reduceSub, Nat.reduceLT, Nat.reduceLeDiff]
            exact ⟨inR_i64 (by omega) (by omega), inR_i64 (by omega) (by omega), fin _ _ hsucc hsuccL⟩
    · have hie : i = mv.length := by omega
      subst hie
      rw [← hD, ← hE]
      exact hQ _ rfl
end Go.Proofs.Ytglmjdpmpgphkaa.Sk

/- Contracts of functions: answers, as few as there can be. -/
namespace Go.Proofs.Ytglmjdpmpgphkaa.Sk
open Go Go.E Go.E.Sm
set_option maxRecDepth 10000

theorem app_pr {T : List (Int × Int)} {x : Int × Int} : flatE (T.map pr) ++ flatE [pr x] = flatE ((T ++ [x]).map pr) := by simp [flatE]
theorem flat_pr {T : List (Int × Int)} : (flatE (T.map pr)).length = T.length * 2 := by
  rw [flatE_length (sz := 2) (by intro y hy; obtain ⟨z, _, rfl⟩ := List.mem_map.1 hy; rfl), List.length_map]
theorem chunk_pr : ∀ (T : List (Int × Int)), chunk 2 T.length (flatE (T.map pr)) = T.map pr
  | [] => rfl
  | x :: T => by
    have e : flatE ((x :: T).map pr) = .int .i64 x.1 :: .int .i64 x.2 :: flatE (T.map pr) := rfl
    rw [e]
    simp only [List.length_cons, chunk, List.take_succ_cons, List.take_zero, List.drop_succ_cons, List.drop_zero, chunk_pr T]
    rfl
theorem sliceOf_pr {T : List (Int × Int)} : sliceOf 0 T.length 2 (flatE (T.map pr)) = some (prs T) := by
  unfold sliceOf
  rw [if_pos (by rw [flat_pr]; omega), elems, if_neg (by decide), List.drop_zero, chunk_pr]
  rfl

theorem one2 (a b : Int) : ∀ e ∈ [SV.agg [SV.int .i64 a, SV.int .i64 b]], e.cells.length = 2 := by
  intro e he
  rw [List.mem_singleton] at he
  subst he; rfl
theorem promo_sl {d sz b o l z : Nat} {c : Bool} {σ : AState} (h : fget σ.fr d = .sl b o l z c) : promote [(d, none, sz)] σ = σ := by simp [promote, promote1, h]

set_option maxHeartbeats 16000000 in
theorem k78 {pl wn : List Bool} {mv : List (List Int)} {far : List SV} {x : Nat} (hv : Valid pl mv wn) (h11 : mv.length ≤ 11) (hx : x < mv.length) : E.Fn Try.prog 78 [.ptr (bools pl :: .slice (mv.map ints) :: bools wn :: far), .int .i64 x] (match fewS pl mv wn x with | none => [.slice [], .bool false] | some T => [prs (srtP T), .bool true]) := by
  refine fn_of_row okf78 ?_
  have hw := wonN_lt (wn := wn) mv.length
  have h2n : 2 ^ mv.length ≤ 2 ^ 11 := Nat.pow_le_pow_right (by decide) h11
  have h211 : (2 : Nat) ^ 11 = 2048 := by decide
  generalize hrs : fewS pl mv wn x = rs
  simp only [FRow.start, f78, c78r0, c78r1, c78r2, bools, ldOK, ldOB, stRK, stRB, splice, go_sem, ↓reduceIte, reduceCtorEq, Nat.reduceAdd, Nat.reduceSub, Nat.reduceLT, Nat.reduceLeDiff]
  intro _
  rw [pow_int]
  refine ⟨by omega, inR_i64 (by omega) (by omega), by omega, by omega, by omega, by omega, inR_i64 (by omega) (by omega), by omega, by omega, by omega, ?_⟩
  have hN1 : 1 ≤ 2 ^ mv.length := Nat.one_le_two_pow
  have hrl := fun k => runC_len (pl := pl) (mv := mv) (C := startC wn mv.length) k
  have hrL := fun k => runL_len (pl := pl) (mv := mv) (C := startC wn mv.length) (L := List.replicate (2 ^ mv.length) 0) k
  have hsl := startC_len (wn := wn) (n := mv.length)
  have hrc := fun k => (show runC pl mv (startC wn mv.length) (k + 1) = stpC pl mv (runC pl mv (startC wn mv.length) k) k from rfl)
  have hrcL := fun k => (show runL pl mv (startC wn mv.length) (List.replicate (2 ^ mv.length) 0) (k + 1) = stpL pl mv (runC pl mv (startC wn mv.length) k) (runL pl mv (startC wn mv.length) (List.replicate (2 ^ mv.length) 0) k) k from rfl)
  have hbr := fun k => (show bestI pl mv (startC wn mv.length) x (k + 1) = if gD (runC pl mv (startC wn mv.length) k) k < 0 then bestI pl mv (startC wn mv.length) x k else if k.testBit x = true ∧ (bestI pl mv (startC wn mv.length) x k < 0 ∨ gD (runC pl mv (startC wn mv.length) k) k < gD (runC pl mv (startC wn mv.length) k) (bestI pl mv (startC wn mv.length) x k).toNat) then (k : Int) else bestI pl mv (startC wn mv.length) x k from rfl)
  have hbi := fun k => bestI_rng (pl := pl) (mv := mv) (C := startC wn mv.length) (x := x) k
  have hst : startC wn mv.length = (List.replicate (2 ^ mv.length) (-1)).set (wonN wn mv.length) 0 := rfl
  have hlm : ∀ i, i < mv.length → (mv.getD i []).length ≤ 14 := fun i hi => by have := rise_len _ 0 (hv.ris _ (List.mem_of_getElem? (hv.at' hi).hm)) (by have := hv.few; omega); have := hv.few; omega
  have hbnd := fun k => runC_bound (pl := pl) (wn := wn) hlm k
  have hcame := run_came (pl := pl) (wn := wn) (mv := mv) (L := List.replicate (2 ^ mv.length) 0) (by simp) (2 ^ mv.length) (Nat.le_refl _)
  unfold fewS at hrs
  have hR0 : startC wn mv.length = runC pl mv (startC wn mv.length) 0 := rfl
  have hL0 : List.replicate (2 ^ mv.length) 0 = runL pl mv (startC wn mv.length) (List.replicate (2 ^ mv.length) 0) 0 := rfl
  have hB0 : bestI pl mv (startC wn mv.length) x 0 = -1 := rfl
  have hwn : ∀ i, wonN wn (i + 1) = if wn.getD i false = true then wonN wn i ||| 2 ^ i else wonN wn i := fun i => rfl
  have hw0 : wonN wn 0 = 0 := rfl
  have hwl := fun i => wonN_lt (wn := wn) i
  generalize startC wn mv.length = C0 at *
  generalize hRL : runL pl mv C0 (List.replicate (2 ^ mv.length) 0) = RL at *
  generalize bestI pl mv C0 x = BI at *
  generalize hRC : runC pl mv C0 = RC at *
  generalize hwg : wonN wn = W at *
  generalize hNe : 2 ^ mv.length = N at *
  have hz : (List.replicate N [SV.int .i64 0]).flatten = (fillN N 0).map (SV.int .i64) := by rw [flat_rep1]; simp [fillN]
  have hz2 : (fillN N 0) = List.replicate N 0 := by simp [fillN]
  rw [Int.toNat_natCast, hz]
  simp only [c78r3, ldOK, ldOB, stRK, stRB, splice, go_sem, ↓reduceIte, reduceCtorEq, Nat.reduceAdd, Nat.reduceSub, Nat.reduceLT, Nat.reduceLeDiff]
  intro _
  refine loop_rule (fun n τ => ∃ k : Nat, n = N - k ∧ k ≤ N ∧
    τ = ⟨[.s (.ptr (bools pl :: .slice (mv.map ints) :: bools wn :: far)), .s (.int .i64 x), .any, .any, .any, .any, .s (.int .i64 mv.length), .loc 2 0, .any, .any, .any, .any, .any, .any, .any, .any, .any, .any, .any, .any, .any, .any, .any, .any, .any, .any, .any, .any, .any, .any, .any, .any, .any, .any, .any, .any, .any, .any, .s (.int .i64 N), .s (.int .i64 k), .any, .any, .any, .any, .any, .any, .any, .any, .any, .any, .any, .any, .any, .any, .any, .any, .any, .any, .any, .any, .any, .any, .any, .any, .any, .any, .any, .any, .any, .any, .any, .any, .any, .any, .any, .any, .any, .any, .any, .any, .any, .any, .any, .any, .any, .any, .any, .any, .any, .any, .any, .any, .any, .any, .any, .any, .any, .any, .any, .any, .any, .any, .any, .any, .any, .any, .any, .any, .any, .any, .any, .any, .any, .any, .any, .any, .any, .any, .any, .any, .any, .any, .any, .any, .any, .any, .any, .any, .any, .any, .any, .any, .any, .any, .any, .any, .any, .any, .any, .any, .any, .any, .any, .any, .any, .any, .any, .any, .any, .any, .any, .any, .any, .any, .any, .any, .any, .any, .any, .any, .any, .any, .any, .any, .any, .any, .any, .any, .any, .any, .any, .any, .any, .any, .any, .any, .any, .any, .any, .any, .any, .any, .any, .any, .any, .any, .any, .any, .any, .any, .any, .any, .any, .any, .any, .any, .any, .any, .any, .any, .any, .any, .any, .any, .any, .any, .any, .any], [.row ((fillN N k).map (SV.int .i64)), .row ((RL 0).map (SV.int .i64)), .obj [.sl 0 0 N 1 true, .sl 1 0 N 1 true]]⟩) N rfl ?_ ?_
  · simp only [c78l8m, bools, go_sem, ↓reduceIte, reduceCtorEq, Nat.reduceAdd, Nat.reduceSub, Nat.reduceLT, Nat.reduceLeDiff]
    exact ⟨0, rfl, Nat.zero_le _, by rw [← hL0, hz2]; rfl⟩
  · rintro I n τ ⟨k, rfl, hk, rfl⟩ hI
    have hfl := fillN_len hk
    simp only [c78l8, c78r4, go_sem, ↓reduceIte, reduceCtorEq, Nat.reduceAdd, Nat.reduceSub, Nat.reduceLT, Nat.reduceLeDiff]
    refine ⟨fun hlt => ?_, fun hge => ?_⟩
    · have hk' : k < N := by omega
      have hsp := splice_gD (F := fillN N k) (i := k) (n := -1) (by omega)
      rw [fillN_set hk'] at hsp
      simp only [c78r5, c78r6, ldOK, ldOB, stRK, stRB, Nat.mul_one, go_sem, ↓reduceIte, reduceCtorEq, Nat.reduceAdd, Nat.reduceSub, Nat.reduceLT, Nat.reduceLeDiff]
      refine ⟨hk', by omega, ?_⟩
      rw [hsp]
      simp only [c78r7, c78l8m, go_sem, ↓reduceIte, reduceCtorEq, Nat.reduceAdd, Nat.reduceSub, Nat.reduceLT, Nat.reduceLeDiff]
      exact ⟨inR_i64 (by omega) (by omega), hI (N - (k + 1)) _ (by omega) ⟨k + 1, rfl, by omega, by simp⟩⟩
    · have hke : k = N := by omega
      rw [hke] at *
      have hfe2 : fillN N N = List.replicate N (-1) := by simp [fillN]
      rw [hfe2]
      simp only [c78r9, c78r10, bools, ldOK, ldOB, go_sem, ↓reduceIte, reduceCtorEq, Nat.reduceAdd, Nat.reduceSub, Nat.reduceLT, Nat.reduceLeDiff]
      intro _
      refine loop_rule (fun n τ => ∃ i : Nat, n = mv.length - i ∧ i ≤ mv.length ∧
        τ = ⟨[.s (.ptr (bools pl :: .slice (mv.map ints) :: bools wn :: far)), .s (.int .i64 x), .any, .any, .any, .any, .s (.int .i64 mv.length), .loc 2 0, .any, .s (.int .i64 (W i : Nat)), .any, .any, .any, .any, .any, .any, .any, .any, .any, .any, .any, .any, .any, .any, .any, .any, .any, .any, .any, .any, .any, .any, .any, .any, .any, .any, .any, .any, .any, .any, .any, .any, .any, .any, .any, .any, .any, .any, .any, .any, .any, .s (.slice (wn.map .bool)), .s (.int .i64 mv.length), .s (.int .i64 i), .any, .any, .any, .any, .any, .any, .any, .any, .any, .any, .any, .any, .any, .any, .any, .any, .any, .any, .any, .any, .any, .any, .any, .any, .any, .any, .any, .any, .any, .any, .any, .any, .any, .any, .any, .any, .any, .any, .any, .any, .any, .any, .any, .any, .any, .any, .any, .any, .any, .any, .any, .any, .any, .any, .any, .any, .any, .any, .any, .any, .any, .any, .any, .any, .any, .any, .any, .any, .any, .any, .any, .any, .any, .any, .any, .any, .any, .any, .any, .any, .any, .any, .any, .any, .any, .any, .any, .any, .any, .any, .any, .any, .any, .any, .any, .any, .any, .any, .any, .any, .any, .any, .any, .any, .any, .any, .any, .any, .any, .any, .any, .any, .any, .any, .any, .any, .any, .any, .any, .any, .any, .any, .any, .any, .any, .any, .any, .any, .any, .any, .any, .any, .any, .any, .any, .any, .any, .any, .any, .any, .any, .any, .any, .any, .any, .any, .any, .any, .any, .any, .any, .any, .any, .any], [.row ((List.replicate N (-1)).map (SV.int .i64)), .row ((RL 0).map (SV.int .i64)), .obj [.sl 0 0 N 1 true, .sl 1 0 N 1 true]]⟩) mv.length rfl ?_ ?_
      · simp only [c78l16m, bools, hw0, go_sem, ↓reduceIte, reduceCtorEq, Nat.reduceAdd, Nat.reduceSub, Nat.reduceLT, Nat.reduceLeDiff]
        exact ⟨0, rfl, Nat.zero_le _, by rw [hw0]; simp [bools, hv.wn]⟩
      · rintro I2 n τ ⟨i, rfl, hi, rfl⟩ hI2
        simp only [c78l16, c78r11, go_sem, ↓reduceIte, reduceCtorEq, Nat.reduceAdd, Nat.reduceSub, Nat.reduceLT, Nat.reduceLeDiff]
        refine ⟨fun hlt => ?_, fun hge => ?_⟩
        · have hlt' : i < mv.length := by omega
          obtain ⟨hm, hp, hwi, hm2, hp2, hwi2, hins⟩ := hv.at' hlt'
          have hwi1 := hwl i
          have hpi : 2 ^ i ≤ 2 ^ 11 := Nat.pow_le_pow_right (by decide) (by omega)
          have hws := hwn i
          have fin : ∀ y : Nat, W (i + 1) = y → I2 ⟨[.s (.ptr (bools pl :: .slice (mv.map ints) :: bools wn :: far)), .s (.int .i64 x), .any, .any, .any, .any, .s (.int .i64 mv.length), .loc 2 0, .any, .s (.int .i64 (y : Nat)), .any, .any, .any, .any, .any, .any, .any, .any, .any, .any, .any, .any, .any, .any, .any, .any, .any, .any, .any, .any, .any, .any, .any, .any, .any, .any, .any, .any, .any, .any, .any, .any, .any, .any, .any, .any, .any, .any, .any, .any, .any, .s (.slice (wn.map .bool)), .s (.int .i64 mv.length), .s (.int .i64 (i + 1)), .any, .any, .any, .any, .any, .any, .any, .any, .any, .any, .any, .any, .any, .any, .any, .any, .any, .any, .any, .any, .any, .any, .any, .any, .any, .any, .any, .any, .any, .any, .any, .any, .any, .any, .any, .any, .any, .any, .any, .any, .any, .any, .any, .any, .any, .any, .any, .any, .any, .any, .any, .any, .any, .any, .any, .any, .any, .any, .any, .any, .any, .any, .any, .any, .any, .any, .any, .any, .any, .any, .any, .any, .any, .any, .any, .any, .any, .any, .any, .any, .any, .any, .any, .any, .any, .any, .any, .any, .any, .any, .any, .any, .any, .any, .any, .any, .any, .any, .any, .any, .any, .any, .any, .any, .any, .any, .any, .any, .any, .any, .any, .any, .any, .any, .any, .any, .any, .any, .any, .any, .any, .any, .any, .any, .any, .any, .any, .any, .any, .any, .any, .any, .any, .any, .any, .any, .any, .any, .any, .any, .any, .any, .any, .any, .any, .any, .any, .any, .any, .any, .any, .any, .any, .any], [.row ((List.replicate N (-1)).map (SV.int .i64)), .row ((RL 0).map (SV.int .i64)), .obj [.sl 0 0 N 1 true, .sl 1 0 N 1 true]]⟩ := fun y hy => by
            subst hy
            exact hI2 (mv.length - (i + 1)) _ (by omega) ⟨i + 1, rfl, by omega, by simp⟩
          generalize W i = w at *
          generalize wn.getD i false = b at *
          cases b with
          | true =>
            rw [if_pos rfl] at hws
            have hor : bitOf .i64 (w : Int) ((2 ^ i : Nat) : Int) .or = ((w ||| 2 ^ i : Nat) : Int) := bit_or (by omega) (by omega)
            simp only [c78r12, hwi, hwi2, c78r13, c78r14, go_sem, ↓reduceIte, reduceCtorEq, Nat.reduceAdd, Nat.reduceSub, Nat.reduceLT, Nat.reduceLeDiff]
            refine ⟨by omega, by rw [pow_int]; exact inR_i64 (by omega) (by omega), ?_⟩
            rw [pow_int, hor]
            simp only [c78r15, c78l16m, go_sem, ↓reduceIte, reduceCtorEq, Nat.reduceAdd, Nat.reduceSub, Nat.reduceLT, Nat.reduceLeDiff]
            exact ⟨inR_i64 (by omega) (by omega), fin _ hws⟩
          | false =>
            rw [if_neg (by simp)] at hws
            simp only [c78r12, hwi, hwi2, c78r13, c78r15, c78l16m, go_sem, ↓reduceIte, reduceCtorEq, Nat.reduceAdd, Nat.reduceSub, Nat.reduceLT, Nat.reduceLeDiff]
            exact ⟨inR_i64 (by omega) (by omega), fin _ hws⟩
        · have hie : i = mv.length := by omega
          subst hie
          have hsp := splice_gD (F := List.replicate N (-1)) (i := W mv.length) (n := 0) (by rw [List.length_replicate]; omega)
          rw [← hst, hR0] at hsp
          simp only [c78r17, ldOK, ldOB, stRK, stRB, Nat.mul_one, go_sem, ↓reduceIte, reduceCtorEq, Nat.reduceAdd, Nat.reduceSub, Nat.reduceLT, Nat.reduceLeDiff]
          refine ⟨by omega, by rw [List.length_replicate]; omega, ?_⟩
          rw [hsp]
          generalize W mv.length = won at *
          simp only [c78r18, c78r19, ldOK, ldOB, go_sem, ↓reduceIte, reduceCtorEq, Nat.reduceAdd, Nat.reduceSub, Nat.reduceLT, Nat.reduceLeDiff]
          intro _
          refine loop_rule (fun n τ => ∃ s : Nat, n = N - s ∧ s ≤ N ∧
            τ = ⟨[.s (.ptr (bools pl :: .slice (mv.map ints) :: bools wn :: far)), .s (.int .i64 x), .any, .any, .any, .any, .s (.int .i64 mv.length), .loc 2 0, .any, .s (.int .i64 won), .any, .any, .s (.int .i64 (BI s)), .any, .any, .any, .any, .any, .any, .any, .any, .any, .any, .any, .any, .any, .any, .any, .any, .any, .any, .any, .any, .any, .any, .any, .any, .any, .any, .any, .any, .any, .any, .any, .any, .any, .any, .any, .any, .any, .any, .any, .any, .any, .any, .any, .any, .any, .any, .any, .any, .any, .any, .any, .any, .any, .any, .any, .any, .any, .s (.int .i64 N), .s (.int .i64 s), .any, .any, .any, .any, .any, .any, .any, .any, .any, .any, .any, .any, .any, .any, .any, .any, .any, .any, .any, .any, .any, .any, .any, .any, .any, .any, .any, .any, .any, .any, .any, .any, .any, .any, .any, .any, .any, .any, .any, .any, .any, .any, .any, .any, .any, .any, .any, .any, .any, .any, .any, .any, .any, .any, .any, .any, .any, .any, .any, .any, .any, .any, .any, .any, .any, .any, .any, .any, .any, .any, .any, .any, .any, .any, .any, .any, .any, .any, .any, .any, .any, .any, .any, .any, .any, .any, .any, .any, .any, .any, .any, .any, .any, .any, .any, .any, .any, .any, .any, .any, .any, .any, .any, .any, .any, .any, .any, .any, .any, .any, .any, .any, .any, .any, .any, .any, .any, .any, .any, .any, .any, .any, .any, .any, .any, .any, .any, .any, .any, .any, .any, .any, .any, .any, .any, .any], [.row ((RC s).map (SV.int .i64)), .row ((RL s).map (SV.int .i64)), .obj [.sl 0 0 N 1 true, .sl 1 0 N 1 true]]⟩) N rfl ?_ ?_
          · simp only [c78l37m, go_sem, ↓reduceIte, reduceCtorEq, Nat.reduceAdd, Nat.reduceSub, Nat.reduceLT, Nat.reduceLeDiff]
            exact ⟨0, rfl, Nat.zero_le _, by rw [hB0]; simp⟩
          · rintro I3 n τ ⟨s, rfl, hs, rfl⟩ hI3
            have hlen := hrl s
            have hlenL := hrL s
            have hrcs := hrc s
            have hrcLs := hrcL s
            have hbrs := hbr s
            have hbds := hbnd s
            have hbis := hbi s
            simp only [c78l37, c78r20, go_sem, ↓reduceIte, reduceCtorEq, Nat.reduceAdd, Nat.reduceSub, Nat.reduceLT, Nat.reduceLeDiff]
            refine ⟨fun hlt => ?_, fun hge => ?_⟩
            · have hs' : s < N := by omega
              have hg := gD_get (C := RC s) (s := s) (by omega)
              have hsl : s < (RC s).length := by omega
              have fin3 : ∀ (C L : List Int) (b : Int), RC (s + 1) = C → RL (s + 1) = L → BI (s + 1) = b → I3 ⟨[.s (.ptr (bools pl :: .slice (mv.map ints) :: bools wn :: far)), .s (.int .i64 x), .any, .any, .any, .any, .s (.int .i64 mv.length), .loc 2 0, .any, .s (.int .i64 won), .any, .any, .s (.int .i64 b), .any, .any, .any, .any, .any, .any, .any, .any, .any, .any, .any, .any, .any, .any, .any, .any, .any, .any, .any, .any, .any, .any, .any, .any, .any, .any, .any, .any, .any, .any, .any, .any, .any, .any, .any, .any, .any, .any, .any, .any, .any, .any, .any, .any, .any, .any, .any, .any, .any, .any, .any, .any, .any, .any, .any, .any, .any, .s (.int .i64 N), .s (.int .i64 (s + 1)), .any, .any, .any, .any, .any, .any, .any, .any, .any, .any, .any, .any, .any, .any, .any, .any, .any, .any, .any, .any, .any, .any, .any, .any, .any, .any, .any, .any, .any, .any, .any, .any, .any, .any, .any, .any, .any, .any, .any, .any, .any, .any, .any, .any, .any, .any, .any, .any, .any, .any, .any, .any, .any, .any, .any, .any, .any, .any, .any, .any, .any, .any, .any, .any, .any, .any, .any, .any, .any, .any, .any, .any, .any, .any, .any, .any, .any, .any, .any, .any, .any, .any, .any, .any, .any, .any, .any, .any, .any, .any, .any, .any, .any, .any, .any, .any, .any, .any, .any, .any, .any, .any, .any, .any, .any, .any, .any, .any, .any, .any, .any, .any, .any, .any, .any, .any, .any, .any, .any, .any, .any, .any, .any, .any, .any, .any, .any, .any, .any, .any, .any, .any, .any, .any, .any, .any], [.row (C.map (SV.int .i64)), .row (L.map (SV.int .i64)), .obj [.sl 0 0 N 1 true, .sl 1 0 N 1 true]]⟩ := fun C L b h1 h2 h3 => by
                subst h1 h2 h3
                exact hI3 (N - (s + 1)) _ (by omega) ⟨s + 1, rfl, by omega, by simp⟩
              generalize hC : RC s = C at *
              generalize hL : RL s = L at *
              generalize hB : BI s = B at *
              have hlb := low_bit (a := s) (i := x) (by omega)
              have hLl : L.length = N := by rw [hlenL]; simp
              have hbd := innC_bound (pl := pl) (s := s) (C := C) (B := 14 * s) hlm
              simp only [c78r21, c78r22, ldOK, ldOB, Nat.mul_one, hg, hsl, go_sem, ↓reduceIte, reduceCtorEq, Nat.reduceAdd, Nat.reduceSub, Nat.reduceLT, Nat.reduceLeDiff]
              refine ⟨hs', ?_⟩
              by_cases hneg : gD C s < 0
              · rw [if_pos hneg] at hbrs
                rw [stpC, if_pos hneg] at hrcs
                rw [stpL, if_pos hneg] at hrcLs
                simp only [c78r23, hneg, c78r36, c78l37m, go_sem, ↓reduceIte, reduceCtorEq, Nat.reduceAdd, Nat.reduceSub, Nat.reduceLT, Nat.reduceLeDiff]
                exact ⟨inR_i64 (by omega) (by omega), fin3 _ _ _ hrcs hrcLs hbrs⟩
              · rw [if_neg hneg] at hbrs
                rw [stpC, if_neg hneg] at hrcs
                rw [stpL, if_neg hneg] at hrcLs
                have hbd := fun m hm t => hbd ⟨by omega, (hbds s).2⟩ (fun t => ⟨(hbds t).1, by have := (hbds t).2; omega⟩) m hm t
                have hbd : ∀ m, m ≤ mv.length → ∀ t, -1 ≤ gD (innC pl mv s C m) t ∧ gD (innC pl mv s C m) t ≤ 100000 := fun m hm t => ⟨(hbd m hm t).1, by have := (hbd m hm t).2; omega⟩
                cases htb : s.testBit x with
                | false =>
                  rw [htb] at hlb hbrs
                  rw [if_neg (by simp)] at hbrs
                  simp only [c78r23, hneg, c78r24, hlb, go_sem, ↓reduceIte, reduceCtorEq, Nat.reduceAdd, Nat.reduceSub, Nat.reduceLT, Nat.reduceLeDiff]
                  refine ⟨by omega, fun h => absurd h (by decide), fun _ => ?_⟩
                  simp only [c78r26, go_sem, ↓reduceIte, reduceCtorEq, Nat.reduceAdd, Nat.reduceSub, Nat.reduceLT, Nat.reduceLeDiff]
                  refine inner78 (won := won) (far := far) (x := x) (s := s) (N := N) (b := B) (C := C) (L := L) hv h11 hNe.symm hs' (by omega) (by omega) (by omega) hbd rfl ?_ ?_
                  · simp only [c78l35m, bools, go_sem, ↓reduceIte, reduceCtorEq, Nat.reduceAdd, Nat.reduceSub, Nat.reduceLT, Nat.reduceLeDiff]
                  · intro fr hfr
                    subst hfr
                    simp only [c78r36, c78l37m, go_sem, ↓reduceIte, reduceCtorEq, Nat.reduceAdd, Nat.reduceSub, Nat.reduceLT, Nat.reduceLeDiff]
                    exact ⟨inR_i64 (by omega) (by omega), fin3 _ _ _ hrcs hrcLs hbrs⟩
                | true =>
                  rw [htb] at hlb hbrs
                  simp only [true_and] at hbrs
                  by_cases hB0 : B < 0
                  · rw [if_pos (.inl hB0)] at hbrs
                    simp only [c78r23, hneg, c78r24, hlb, hB0, c78r25, go_sem, ↓reduceIte, reduceCtorEq, Nat.reduceAdd, Nat.reduceSub, Nat.reduceLT, Nat.reduceLeDiff]
                    refine ⟨by omega, ?_⟩
                    simp only [c78r26, go_sem, ↓reduceIte, reduceCtorEq, Nat.reduceAdd, Nat.reduceSub, Nat.reduceLT, Nat.reduceLeDiff]
                    refine inner78 (won := won) (far := far) (x := x) (s := s) (N := N) (b := (s : Int)) (C := C) (L := L) hv h11 hNe.symm hs' (by omega) (by omega) (by omega) hbd rfl ?_ ?_
                    · simp only [c78l35m, bools, go_sem, ↓reduceIte, reduceCtorEq, Nat.reduceAdd, Nat.reduceSub, Nat.reduceLT, Nat.reduceLeDiff]
                    · intro fr hfr
                      subst hfr
                      simp only [c78r36, c78l37m, go_sem, ↓reduceIte, reduceCtorEq, Nat.reduceAdd, Nat.reduceSub, Nat.reduceLT, Nat.reduceLeDiff]
                      exact ⟨inR_i64 (by omega) (by omega), fin3 _ _ _ hrcs hrcLs hbrs⟩
                  · have hBs : B.toNat < C.length := by omega
                    have hgB := gD_get (C := C) (s := B.toNat) hBs
                    by_cases hB1 : gD C s < gD C B.toNat
                    · rw [if_pos (.inr hB1)] at hbrs
                      simp only [c78r23, hneg, c78r24, ldOK, ldOB, hlb, hB0, Nat.mul_one, hgB, hBs, hB1, c78r25, go_sem, ↓reduceIte, reduceCtorEq, Nat.reduceAdd, Nat.reduceSub, Nat.reduceLT, Nat.reduceLeDiff]
                      refine ⟨by omega, by omega, by omega, ?_⟩
                      simp only [c78r26, go_sem, ↓reduceIte, reduceCtorEq, Nat.reduceAdd, Nat.reduceSub, Nat.reduceLT, Nat.reduceLeDiff]
                      refine inner78 (won := won) (far := far) (x := x) (s := s) (N := N) (b := (s : Int)) (C := C) (L := L) hv h11 hNe.symm hs' (by omega) (by omega) (by omega) hbd rfl ?_ ?_
                      · simp only [c78l35m, bools, go_sem, ↓reduceIte, reduceCtorEq, Nat.reduceAdd, Nat.reduceSub, Nat.reduceLT, Nat.reduceLeDiff]
                      · intro fr hfr
                        subst hfr
                        simp only [c78r36, c78l37m, go_sem, ↓reduceIte, reduceCtorEq, Nat.reduceAdd, Nat.reduceSub, Nat.reduceLT, Nat.reduceLeDiff]
                        exact ⟨inR_i64 (by omega) (by omega), fin3 _ _ _ hrcs hrcLs hbrs⟩
                    · rw [if_neg (by omega)] at hbrs
                      simp only [c78r23, hneg, c78r24, ldOK, ldOB, hlb, hB0, Nat.mul_one, hgB, hBs, hB1, go_sem, ↓reduceIte, reduceCtorEq, Nat.reduceAdd, Nat.reduceSub, Nat.reduceLT, Nat.reduceLeDiff]
                      refine ⟨by omega, by omega, by omega, ?_⟩
                      simp only [c78r26, go_sem, ↓reduceIte, reduceCtorEq, Nat.reduceAdd, Nat.reduceSub, Nat.reduceLT, Nat.reduceLeDiff]
                      refine inner78 (won := won) (far := far) (x := x) (s := s) (N := N) (b := B) (C := C) (L := L) hv h11 hNe.symm hs' (by omega) (by omega) (by omega) hbd rfl ?_ ?_
                      · simp only [c78l35m, bools, go_sem, ↓reduceIte, reduceCtorEq, Nat.reduceAdd, Nat.reduceSub, Nat.reduceLT, Nat.reduceLeDiff]
                      · intro fr hfr
                        subst hfr
                        simp only [c78r36, c78l37m, go_sem, ↓reduceIte, reduceCtorEq, Nat.reduceAdd, Nat.reduceSub, Nat.reduceLT, Nat.reduceLeDiff]
                        exact ⟨inR_i64 (by omega) (by omega), fin3 _ _ _ hrcs hrcLs hbrs⟩
            · have hse : N = s := by omega
              subst hse
              generalize hC : RC N = C at *
              generalize hL : RL N = L at *
              generalize hB : BI N = B at *
              have hLl : L.length = N := by rw [hlenL]; simp
              by_cases hneg : B < 0
              · rw [if_pos hneg] at hrs
                subst hrs
                simp only [c78r38, hneg, c78r39, go_sem, ↓reduceIte, reduceCtorEq, Nat.reduceAdd, Nat.reduceSub, Nat.reduceLT, Nat.reduceLeDiff]
              · rw [if_neg hneg] at hrs
                subst hrs
                obtain ⟨hb1, hb2, hb3⟩ := hbis
                obtain ⟨hb3, _⟩ := hb3 (by omega)
                obtain ⟨u0, rfl⟩ := Int.eq_ofNat_of_zero_le (show 0 ≤ B by omega)
                rw [Int.toNat_natCast] at *
                generalize hT : backF pl mv L won N u0 = T at *
                simp only [c78r38, hneg, c78r40, c78r41, go_sem, ↓reduceIte, reduceCtorEq, Nat.reduceAdd, Nat.reduceSub, Nat.reduceLT, Nat.reduceLeDiff]
                refine loop_rule (fun n τ => ∃ (u f : Nat) (acc : List (Int × Int)), n = u ∧ u < N ∧ u ≤ f ∧ 0 ≤ gD C u ∧ acc.length + 14 * u ≤ 14 * N ∧ acc ++ backF pl mv L won f u = T ∧
                  τ = ⟨[.s (.ptr (bools pl :: .slice (mv.map ints) :: bools wn :: far)), .any, .any, .any, .any, .any, .any, .loc 2 0, .any, .s (.int .i64 won), .any, .any, .any, .any, .any, .any, .any, .any, .sl 3 0 acc.length 2 false, .s (.int .i64 u), .any, .any, .any, .any, .any, .any, .any, .any, .any, .any, .any, .any, .any, .any, .any, .any, .any, .any, .any, .any, .any, .any, .any, .any, .any, .any, .any, .any, .any, .any, .any, .any, .any, .any, .any, .any, .any, .any, .any, .any, .any, .any, .any, .any, .any, .any, .any, .any, .any, .any, .any, .any, .any, .any, .any, .any, .any, .any, .any, .any, .any, .any, .any, .any, .any, .any, .any, .any, .any, .any, .any, .any, .any, .any, .any, .any, .any, .any, .any, .any, .any, .any, .any, .any, .any, .any, .any, .any, .any, .any, .any, .any, .any, .any, .any, .any, .any, .any, .any, .any, .any, .any, .any, .any, .any, .any, .any, .any, .any, .any, .any, .any, .any, .any, .any, .any, .any, .any, .any, .any, .any, .any, .any, .any, .any, .any, .any, .any, .any, .any, .any, .any, .any, .any, .any, .any, .any, .any, .any, .any, .any, .any, .any, .any, .any, .any, .any, .any, .any, .any, .any, .any, .any, .any, .any, .any, .any, .any, .any, .any, .any, .any, .any, .any, .any, .any, .any, .any, .any, .any, .any, .any, .any, .any, .any, .any, .any, .any, .any, .any, .any, .any, .any, .any, .any, .any, .any, .any], [.row (C.map (SV.int .i64)), .row (L.map (SV.int .i64)), .obj [.sl 0 0 N 1 true, .sl 1 0 N 1 true], .row (flatE (acc.map pr))]⟩) u0 (promo_one rfl) ?_ ?_
                · simp only [c78l52m, bools, go_sem, ↓reduceIte, reduceCtorEq, Nat.reduceAdd, Nat.reduceSub, Nat.reduceLT, Nat.reduceLeDiff]
                  exact ⟨u0, N, [], rfl, by omega, by omega, hb3, by simp; omega, by simpa using hT, rfl⟩
                · rintro I4 u τ ⟨_, f, acc, rfl, hu, huf, hgu, hal, hacc, rfl⟩ hI4
                  simp only [c78l52, c78r42, go_sem, ↓reduceIte, reduceCtorEq, Nat.reduceAdd, Nat.reduceSub, Nat.reduceLT, Nat.reduceLeDiff]
                  refine ⟨fun huw => ?_, fun huw => ?_⟩
                  · have huw : u = won := by omega
                    subst huw
                    rw [backF_won, List.append_nil] at hacc
                    subst hacc
                    simp only [c78r53, go_sem, ↓reduceIte, reduceCtorEq, Nat.reduceAdd, Nat.reduceSub, Nat.reduceLT, Nat.reduceLeDiff]
                    refine ⟨_, _, k94 (L := acc) rfl (by omega), ?_⟩
                    have hsl : (srtP acc).length = acc.length := List.length_mergeSort _
                    have hso := sliceOf_pr (T := srtP acc)
                    rw [hsl] at hso
                    simp only [c78r54, hso, go_sem, ↓reduceIte, reduceCtorEq, Nat.reduceAdd, Nat.reduceSub, Nat.reduceLT, Nat.reduceLeDiff]
                  · have huw : u ≠ won := by omega
                    rcases hcame u hu hgu with e | ⟨p, i, _, hi, hgi, hpb, hup, hp0, hm0, _⟩
                    · exact absurd e huw
                    · obtain ⟨hm, hp, hw, hm2, hp2, hw2, hins⟩ := hv.at' hi
                      have hl14 := hlm i hi
                      have hlt := or_gt hpb
                      rw [← hup] at hlt
                      have hu62 : p ||| 2 ^ i < 2 ^ 62 := by rw [← hup]; exact Nat.lt_of_lt_of_le hu (Nat.le_trans h2n (by decide))
                      have hoff := bit_off hpb hu62
                      have hxor := xor_off hpb
                      rw [← hup] at hoff hxor
                      have hgl := gD_get (C := L) (s := u) (by omega)
                      have hul : u < L.length := by omega
                      rw [hgi] at hgl
                      obtain ⟨f, rfl⟩ : ∃ f', f = f' + 1 := ⟨f - 1, by omega⟩
                      rw [backF, if_neg huw, hgi, Int.toNat_natCast, hxor] at hacc
                      have hpi : 2 ^ i ≤ 2 ^ 11 := Nat.pow_le_pow_right (by decide) (by omega)
                      have hrt := fun (k : Nat) (y : Int) (h : (mv.getD i [])[k]? = some y) => rowB_take (p := pl.getD i false) (i := i) (s := p) h
                      have hrll := rowB_le (p := pl.getD i false) (i := i) (s := p) (l := mv.getD i [])
                      generalize mv.getD i [] = l at *
                      generalize pl.getD i false = b at *
                      simp only [c78r43, ldOK, ldOB, Nat.mul_one, hgl, hul, c78r44, go_sem, ↓reduceIte, reduceCtorEq, Nat.reduceAdd, Nat.reduceSub, Nat.reduceLT, Nat.reduceLeDiff]
                      have hpn : inR .i64 ((2 ^ i : Nat) : Int) := by
                        have hlt3 : 2 ^ i ≤ 2048 := by omega
                        generalize 2 ^ i = w at hlt3
                        exact inR_i64 (by omega) (by omega)
                      refine ⟨hu, by omega, by rw [pow_int]; exact hpn, ?_⟩
                      rw [pow_int, hoff]
                      simp only [c78r45, hm, hm2, ints, ldOK, ldOB, bools, go_sem, ↓reduceIte, reduceCtorEq, Nat.reduceAdd, Nat.reduceSub, Nat.reduceLT, Nat.reduceLeDiff]
                      intro _
                      refine loop_rule (fun n τ => ∃ k : Nat, n = l.length - k ∧ k ≤ l.length ∧
                        τ = ⟨[.s (.ptr (bools pl :: .slice (mv.map ints) :: bools wn :: far)), .any, .any, .any, .any, .any, .any, .loc 2 0, .any, .s (.int .i64 won), .any, .any, .any, .any, .any, .any, .any, .any, .sl 3 0 (acc ++ rowB b i p (l.take k)).length 2 false, .s (.int .i64 p), .s (.int .i64 i), .any, .any, .any, .any, .any, .any, .any, .any, .any, .any, .any, .any, .any, .any, .any, .any, .any, .any, .any, .any, .any, .any, .any, .any, .any, .any, .any, .any, .any, .any, .any, .any, .any, .any, .any, .any, .any, .any, .any, .any, .any, .any, .any, .any, .any, .any, .any, .any, .any, .any, .any, .any, .any, .any, .any, .any, .any, .any, .any, .any, .any, .any, .any, .any, .any, .any, .any, .any, .any, .any, .any, .any, .any, .any, .any, .any, .any, .any, .any, .any, .any, .any, .any, .any, .any, .any, .any, .any, .any, .any, .any, .any, .any, .any, .any, .any, .any, .any, .any, .any, .any, .any, .any, .any, .any, .any, .any, .any, .any, .any, .any, .any, .any, .any, .any, .any, .any, .any, .any, .any, .any, .any, .any, .any, .any, .any, .any, .any, .any, .any, .any, .any, .any, .any, .any, .any, .any, .any, .any, .any, .any, .any, .any, .any, .any, .any, .any, .any, .any, .any, .any, .any, .any, .any, .any, .s (.slice (l.map (SV.int .i64))), .s (.int .i64 l.length), .s (.int .i64 k), .any, .any, .any, .any, .any, .any, .any, .any, .any, .any, .any, .any, .any, .any, .any, .any, .any, .any, .any, .any, .any, .any, .any, .any, .any, .any, .any, .any, .any], [.row (C.map (SV.int .i64)), .row (L.map (SV.int .i64)), .obj [.sl 0 0 N 1 true, .sl 1 0 N 1 true], .row (flatE ((acc ++ rowB b i p (l.take k)).map pr))]⟩) l.length (promo_sl rfl) ?_ ?_
                      · simp only [c78l51m, bools, go_sem, ↓reduceIte, reduceCtorEq, Nat.reduceAdd, Nat.reduceSub, Nat.reduceLT, Nat.reduceLeDiff]
                        exact ⟨0, rfl, Nat.zero_le _, by simp [rowB]⟩
                      · rintro I5 n τ ⟨k, rfl, hk, rfl⟩ hI5
                        simp only [c78l51, c78r46, go_sem, ↓reduceIte, reduceCtorEq, Nat.reduceAdd, Nat.reduceSub, Nat.reduceLT, Nat.reduceLeDiff]
                        refine ⟨fun hlt2 => ?_, fun hge2 => ?_⟩
                        · have hlt2' : k < l.length := by omega
                          have hy := getI_nat (W := l) (i := k) hlt2'
                          have hyi := hins _ (List.mem_of_getElem? hy)
                          have hrt2 := hrt k _ hy
                          have hrl2 := rowB_le (p := b) (i := i) (s := p) (l := l.take k)
                          have htl : (l.take k).length ≤ 14 := by rw [List.length_take]; omega
                          have hbn := b2i_nat (a := p) (x := getI l k) (by omega) hyi.1
                          have fin5 : ∀ A : List (Int × Int), acc ++ rowB b i p (l.take (k + 1)) = A → I5 ⟨[.s (.ptr (bools pl :: .slice (mv.map ints) :: bools wn :: far)), .any, .any, .any, .any, .any, .any, .loc 2 0, .any, .s (.int .i64 won), .any, .any, .any, .any, .any, .any, .any, .any, .sl 3 0 A.length 2 false, .s (.int .i64 p), .s (.int .i64 i), .any, .any, .any, .any, .any, .any, .any, .any, .any, .any, .any, .any, .any, .any, .any, .any, .any, .any, .any, .any, .any, .any, .any, .any, .any, .any, .any, .any, .any, .any, .any, .any, .any, .any, .any, .any, .any, .any, .any, .any, .any, .any, .any, .any, .any, .any, .any, .any, .any, .any, .any, .any, .any, .any, .any, .any, .any, .any, .any, .any, .any, .any, .any, .any, .any, .any, .any, .any, .any, .any, .any, .any, .any, .any, .any, .any, .any, .any, .any, .any, .any, .any, .any, .any, .any, .any, .any, .any, .any, .any, .any, .any, .any, .any, .any, .any, .any, .any, .any, .any, .any, .any, .any, .any, .any, .any, .any, .any, .any, .any, .any, .any, .any, .any, .any, .any, .any, .any, .any, .any, .any, .any, .any, .any, .any, .any, .any, .any, .any, .any, .any, .any, .any, .any, .any, .any, .any, .any, .any, .any, .any, .any, .any, .any, .any, .any, .any, .any, .any, .any, .any, .any, .any, .any, .any, .s (.slice (l.map (SV.int .i64))), .s (.int .i64 l.length), .s (.int .i64 (k + 1)), .any, .any, .any, .any, .any, .any, .any, .any, .any, .any, .any, .any, .any, .any, .any, .any, .any, .any, .any, .any, .any, .any, .any, .any, .any, .any, .any, .any, .any], [.row (C.map (SV.int .i64)), .row (L.map (SV.int .i64)), .obj [.sl 0 0 N 1 true, .sl 1 0 N 1 true], .row (flatE (A.map pr))]⟩ := fun A hA => by
                            subst hA
                            exact hI5 (l.length - (k + 1)) _ (by omega) ⟨k + 1, rfl, by omega, by simp⟩
                          rw [hrt2, ← List.append_assoc] at fin5
                          have hAl : (acc ++ rowB b i p (l.take k)).length ≤ 28672 + 14 := by rw [List.length_append]; omega
                          generalize acc ++ rowB b i p (l.take k) = A at *
                          generalize getI l k = y at *
                          cases b with
                          | true =>
                            rw [if_neg (by simp), List.append_nil] at fin5
                            simp only [c78r47, hy, hlt2', ldOK, ldOB, c78r48, hp, hp2, bools, c78r50, c78l51m, go_sem, ↓reduceIte, reduceCtorEq, Nat.reduceAdd, Nat.reduceSub, Nat.reduceLT, Nat.reduceLeDiff]
                            exact ⟨inR_i64 (by omega) (by omega), fin5 _ rfl⟩
                          | false =>
                            by_cases hz0 : b2i (p : Int) y = 0
                            · rw [if_pos ⟨rfl, hz0⟩] at fin5
                              have hz1 := hbn.symm.trans hz0
                              simp only [c78r47, hy, hlt2', ldOK, ldOB, c78r48, hp, hp2, bools, hz1, go_sem, ↓reduceIte, reduceCtorEq, Nat.reduceAdd, Nat.reduceSub, Nat.reduceLT, Nat.reduceLeDiff]
                              refine ⟨hyi.1, by omega, ?_⟩
                              simp only [c78r49, Nat.reduceBEq, Nat.reduceEqDiff, go_sem, ↓reduceIte, reduceCtorEq, Nat.reduceAdd, Nat.reduceSub, Nat.reduceLT, Nat.reduceLeDiff]
                              refine ⟨by decide, by decide, rfl, one2 i y, one2 i y, by rw [flat_pr], by omega, by omega, ?_⟩
                              have e2 : flatE (A.map pr) ++ flatE [SV.agg [SV.int .i64 i, SV.int .i64 y]] = flatE ((A ++ [((i : Int), y)]).map pr) := app_pr (x := ((i : Int), y))
                              rw [e2]
                              have e3 : A.length + 1 = (A ++ [((i : Int), y)]).length := by simp
                              rw [e3]
                              simp only [c78r50, c78l51m, go_sem, ↓reduceIte, reduceCtorEq, Nat.reduceAdd, Nat.reduceSub, Nat.reduceLT, Nat.reduceLeDiff]
                              exact ⟨inR_i64 (by omega) (by omega), fin5 _ rfl⟩
                            · rw [if_neg (by simp [hz0]), List.append_nil] at fin5
                              have hz1 : ¬ bitOf .i64 ((p : Int).fdiv (2 ^ y.toNat)) 1 .and = 0 := by rw [← hbn]; exact hz0
                              simp only [c78r47, hy, hlt2', ldOK, ldOB, c78r48, hp, hp2, bools, hz1, c78r50, c78l51m, go_sem, ↓reduceIte, reduceCtorEq, Nat.reduceAdd, Nat.reduceSub, Nat.reduceLT, Nat.reduceLeDiff]
                              exact ⟨hyi.1, by omega, inR_i64 (by omega) (by omega), fin5 _ rfl⟩
                        · have hke : k = l.length := by omega
                          subst hke
                          rw [List.take_length]
                          simp only [c78l52m, go_sem, ↓reduceIte, reduceCtorEq, Nat.reduceAdd, Nat.reduceSub, Nat.reduceLT, Nat.reduceLeDiff]
                          refine hI4 p _ (by omega) ⟨p, f, acc ++ rowB b i p l, rfl, by omega, by omega, hp0, ?_, ?_, rfl⟩
                          · rw [List.length_append]; omega
                          · rw [List.append_assoc]; exact hacc
end Go.Proofs.Ytglmjdpmpgphkaa.Sk

/- Contracts of functions: the answers that have to be taken away. -/
namespace Go.Proofs.Ytglmjdpmpgphkaa.Sk
open Go Go.E Go.E.Sm
set_option maxRecDepth 10000

def takS (pl : List Bool) (mv : List (List Int)) (wn : List Bool) (x : Int) : List SV :=
  if chkM pl mv wn ≠ 0 then [.slice [], .int .i64 (chkM pl mv wn)] else if inN mv.length x = false then [.slice [], .int .i64 2] else if 0 ≤ getI (distW pl mv wn) x then [.slice [], .int .i64 5] else
    match fewS pl mv wn x.toNat with | none => [.slice [], .int .i64 19] | some T => [prs (srtP T), .int .i64 0]

set_option maxHeartbeats 4000000 in
theorem k42 {pl wn : List Bool} {mv : List (List Int)} {x : Int} (h11 : chkM pl mv wn = 0 → mv.length ≤ 11) : E.Fn Try.prog 42 [mach pl mv wn, .int .i64 x] (takS pl mv wn x) := by
  refine fn_of_row okf42 ?_
  unfold takS
  simp only [FRow.start, f42, c42r0, c42r1, mach, bools, go_sem, ↓reduceIte, reduceCtorEq, Nat.reduceAdd, Nat.reduceSub, Nat.reduceLT, Nat.reduceLeDiff]
  refine ⟨by decide, by decide, rfl, one1, ?_⟩
  by_cases h : chkM pl mv wn = 0
  · have hv := valid_of h
    have h1 := hv.few
    have hdl := distW_len hv
    have hpl := pad_len (W := distW pl mv wn) (by omega)
    rw [if_neg (by simpa using h)]
    cases hx : inN mv.length x with
    | false =>
      refine callK_of rfl (k58p (ps := [x]) hv (by rw [inAll_one, hx])) (.inl rfl) ?_
      simp only [c42r2, two_ne, c42r3, go_sem, ↓reduceIte, reduceCtorEq, Nat.reduceAdd, Nat.reduceSub, Nat.reduceLT, Nat.reduceLeDiff]
    | true =>
      have hx' := hx
      simp only [inN, Bool.and_eq_true, decide_eq_true_eq] at hx'
      have hg := getI_get (W := pad (distW pl mv wn)) (x := x) hx'.1 (by omega)
      rw [getI_pad] at hg
      have h14 : x < 14 := by omega
      have hile : x.toNat ≤ (pad (distW pl mv wn)).length := by omega
      have hsel : (List.drop x.toNat (List.map (SV.int .i64) (pad (distW pl mv wn))))[0]? = some (.int .i64 (getI (distW pl mv wn) x)) := by
        rw [List.getElem?_drop, Nat.add_zero, List.getElem?_map, hg]; rfl
      refine callK_of rfl (k58 (ps := [x]) hv (by rw [inAll_one, hx])) (.inr rfl) ?_
      have q := k78 (pl := pl) (mv := mv) (wn := wn) (far := (pad (distW pl mv wn)).map (.int .i64)) (x := x.toNat) hv (h11 h) (by omega)
      rw [show ((x.toNat : Nat) : Int) = x by omega] at q
      rw [if_neg (by simp)]
      simp only [c42r2, boardV, c42r4, Nat.mul_one, go_sem, ↓reduceIte, reduceCtorEq, Nat.reduceAdd, Nat.reduceSub, Nat.reduceLT, Nat.reduceLeDiff]
      refine ⟨hx'.1, by omega, hile, ?_⟩
      simp only [hsel, go_sem, ↓reduceIte, reduceCtorEq, Nat.reduceAdd, Nat.reduceSub, Nat.reduceLT, Nat.reduceLeDiff]
      refine ⟨fun hn => ?_, fun hn => ?_⟩
      · rw [if_pos (by omega)]
        simp only [c42r5, go_sem, ↓reduceIte, reduceCtorEq, Nat.reduceAdd, Nat.reduceSub, Nat.reduceLT, Nat.reduceLeDiff]
      · rw [if_neg (by omega)]
        generalize fewS pl mv wn x.toNat = fs at *
        simp only [c42r6, go_sem, ↓reduceIte, reduceCtorEq, Nat.reduceAdd, Nat.reduceSub, Nat.reduceLT, Nat.reduceLeDiff]
        refine callK_of rfl q (.inr rfl) ?_
        cases fs with
        | none =>
          simp only [c42r7, c42r8, go_sem, ↓reduceIte, reduceCtorEq, Nat.reduceAdd, Nat.reduceSub, Nat.reduceLT, Nat.reduceLeDiff]
        | some T =>
          simp only
          simp only [c42r7, c42r9, go_sem, ↓reduceIte, reduceCtorEq, Nat.reduceAdd, Nat.reduceSub, Nat.reduceLT, Nat.reduceLeDiff]
  · rw [if_pos h]
    refine callK_of rfl (k58e (ps := [x]) h) (.inl rfl) ?_
    simp only [c42r2, h, c42r3, go_sem, ↓reduceIte, reduceCtorEq, Nat.reduceAdd, Nat.reduceSub, Nat.reduceLT, Nat.reduceLeDiff]
end Go.Proofs.Ytglmjdpmpgphkaa.Sk

/- Answers that are taken away: the program goes by the document. -/
namespace Go.Proofs.Ytglmjdpmpgphkaa.Sk
open Go Go.E
set_option linter.all false

theorem mem_ansP : ∀ (j : Nat) (ps : List Bool) (ls : List (List Int)) (ws : List Bool), ps.length = ls.length → ws.length = ls.length → ∀ (i : Nat) (k : Int),
    (i, k) ∈ ansP j ps ls ws ↔ ∃ m, i = j + m ∧ m < ls.length ∧ ps.getD m false = false ∧ ws.getD m false = false ∧ k ∈ ls.getD m []
  | j, p :: ps, l :: ls, w :: ws, h1, h2, i, k => by
    have ih := mem_ansP (j + 1) ps ls ws (by simpa using h1) (by simpa using h2) i k
    simp only [ansP, List.mem_append, ih]
    constructor
    · rintro (h | ⟨m, rfl, h3, h4, h5, h6⟩)
      · cases p
        · cases w
          · simp at h
            exact ⟨0, by omega, by simp, by simp, by simp, by simpa using h.1⟩
          · simp at h
        · simp at h
      · exact ⟨m + 1, by omega, by simp; omega, by simpa using h4, by simpa using h5, by simpa using h6⟩
    · rintro ⟨m, rfl, h3, h4, h5, h6⟩
      cases m with
      | zero =>
        left
        simp at h4 h5 h6
        subst h4 h5
        simp; exact h6
      | succ m => exact .inr ⟨m, by omega, by simp at h3; omega, by simpa using h4, by simpa using h5, by simpa using h6⟩
  | _, [], [], [], _, _, i, k => by simp [ansP]
  | _, [], _ :: _, _, h, _, _, _ => by simp at h
  | _, _ :: _, [], _, h, _, _, _ => by simp at h
  | _, _, [], _ :: _, _, h, _, _ => by simp at h
  | _, _ :: _, _ :: _, [], _, h, _, _ => by simp at h

def up (x : Nat × Int) : Int × Int := ((x.1 : Int), x.2)
def cutM (A : List (Nat × Int)) (R : List (Int × Int)) (l : List Int) (i : Nat) : List Int := l.filter fun k => !(decide ((i, k) ∈ A) && decide (((i : Int), k) ∈ R))

theorem run_spec : ∀ (A : List (Nat × Int)) (R : List (Int × Int)) (M : List (List Int)), R.Nodup → (∀ x ∈ A, x.1 < M.length) →
    (∀ R' M', runA A R M = some (R', M') → R' = R.filter (fun x => !A.any (fun y => decide (up y = x))) ∧ M'.length = M.length ∧ ∀ i, i < M.length → M'.getD i [] = cutM A R (M.getD i []) i) ∧
    (runA A R M = none ↔ ∃ x ∈ A, up x ∈ R ∧ cutM A R (M.getD x.1 []) x.1 = [])
  | [], R, M, hR, hA => by
    refine ⟨fun R' M' h => ?_, by simp [runA]⟩
    simp only [runA, Option.some.injEq, Prod.mk.injEq] at h
    obtain ⟨rfl, rfl⟩ := h
    refine ⟨?_, rfl, fun i _ => ?_⟩
    · simp only [List.any_nil, Bool.not_false]
      exact (List.filter_eq_self.2 (fun _ _ => rfl)).symm
    · unfold cutM
      exact (List.filter_eq_self.2 (fun _ _ => by simp)).symm
  | x :: A, R, M, hR, hA => by
    obtain ⟨i0, k0⟩ := x
    have hi0 : i0 < M.length := hA (i0, k0) (by simp)
    have hA' : ∀ x ∈ A, x.1 < M.length := fun x hx => hA x (List.mem_cons_of_mem _ hx)
    unfold runA
    simp only
    by_cases hx : ((i0 : Int), k0) ∈ R
    · rw [if_pos hx]
      have hme : ∀ y, y ∈ R.erase ((i0 : Int), k0) ↔ y ≠ ((i0 : Int), k0) ∧ y ∈ R := fun y => hR.mem_erase_iff
      have hcut : ∀ i, cutM A (R.erase ((i0 : Int), k0)) ((M.set i0 (cutL (M.getD i0 []) k0)).getD i []) i = cutM ((i0, k0) :: A) R (M.getD i []) i := by
        intro i
        by_cases hi : i = i0
        · subst hi
          have e : (M.set i (cutL (M.getD i []) k0)).getD i [] = cutL (M.getD i []) k0 := by
            rw [List.getD_eq_getElem?_getD, List.getElem?_set, if_pos rfl, if_pos hi0]; rfl
          rw [e]
          unfold cutM cutL keepF
          rw [List.filter_filter]
          refine List.filter_congr fun k _ => ?_
          by_cases hk : k = k0
          · subst hk; simp [hx]
          · have h1 : ((i, k) ∈ (i, k0) :: A) ↔ (i, k) ∈ A := by simp [hk]
            have h2 : (((i : Int), k) ∈ R.erase ((i : Int), k0)) ↔ ((i : Int), k) ∈ R := by rw [hme]; simp [hk]
            simp only [h1, h2]
            simp [hk]
        · have e : (M.set i0 (cutL (M.getD i0 []) k0)).getD i [] = M.getD i [] := by
            rw [List.getD_eq_getElem?_getD, List.getElem?_set, if_neg (fun h => hi h.symm), List.getD_eq_getElem?_getD]
          rw [e]
          unfold cutM
          refine List.filter_congr fun k _ => ?_
          have h1 : ((i, k) ∈ (i0, k0) :: A) ↔ (i, k) ∈ A := by simp [hi]
          have h2 : (((i : Int), k) ∈ R.erase ((i0 : Int), k0)) ↔ ((i : Int), k) ∈ R := by
            rw [hme]
            simp only [ne_eq, Prod.mk.injEq, not_and, and_iff_right_iff_imp]
            intro _ h; omega
          simp only [h1, h2]
      by_cases hl : cutL (M.getD i0 []) k0 = []
      · rw [if_pos hl]
        refine ⟨fun _ _ h => (by cases h), ⟨fun _ => ⟨(i0, k0), by simp, hx, ?_⟩, fun _ => rfl⟩⟩
        rw [← hcut i0]
        have e : (M.set i0 (cutL (M.getD i0 []) k0)).getD i0 [] = cutL (M.getD i0 []) k0 := by
          rw [List.getD_eq_getElem?_getD, List.getElem?_set, if_pos rfl, if_pos hi0]; rfl
        rw [e, hl]; rfl
      · rw [if_neg hl]
        obtain ⟨ih1, ih2⟩ := run_spec A (R.erase ((i0 : Int), k0)) (M.set i0 (cutL (M.getD i0 []) k0)) (hR.erase _) (by rw [List.length_set]; exact hA')
        refine ⟨fun R' M' h => ?_, ?_⟩
        · obtain ⟨g1, g2, g3⟩ := ih1 R' M' h
          rw [List.length_set] at g2 g3
          refine ⟨?_, g2, fun i hi => by rw [g3 i hi, hcut]⟩
          rw [g1, hR.erase_eq_filter, List.filter_filter]
          refine List.filter_congr fun y _ => ?_
          simp only [List.any_cons, up, Bool.not_or]
          by_cases e : y = ((i0 : Int), k0)
          · subst e; simp
          · have e2 : ¬ (((i0 : Int), k0) = y) := fun h => e h.symm
            simp [e, e2]
        · rw [ih2]
          constructor
          · rintro ⟨y, hy, h1, h2⟩
            refine ⟨y, List.mem_cons_of_mem _ hy, ((hme _).1 h1).2, ?_⟩
            rw [hcut] at h2; exact h2
          · rintro ⟨y, hy, h1, h2⟩
            by_cases e : up y = ((i0 : Int), k0)
            · have hy1 : y.1 = i0 := by have := congrArg Prod.fst e; simp [up] at this; omega
              rw [hy1, ← hcut i0] at h2
              have e2 : (M.set i0 (cutL (M.getD i0 []) k0)).getD i0 [] = cutL (M.getD i0 []) k0 := by
                rw [List.getD_eq_getElem?_getD, List.getElem?_set, if_pos rfl, if_pos hi0]; rfl
              obtain ⟨k, hk⟩ := List.exists_mem_of_ne_nil _ hl
              have h3 := h2
              rw [e2] at h3
              unfold cutM at h3
              rw [List.filter_eq_nil_iff] at h3
              have h4 : (i0, k) ∈ A ∧ ((i0 : Int), k) ∈ R.erase ((i0 : Int), k0) := by
                have h5 := h3 k hk
                rw [Bool.not_eq_true, Bool.not_eq_false', Bool.and_eq_true, decide_eq_true_eq, decide_eq_true_eq] at h5
                exact h5
              exact ⟨(i0, k), h4.1, h4.2, h2⟩
            · have hyA : y ∈ A := by
                rcases List.mem_cons.1 hy with rfl | h
                · exact absurd rfl e
                · exact h
              exact ⟨y, hyA, (hme _).2 ⟨e, h1⟩, by rw [hcut]; exact h2⟩
    · rw [if_neg hx]
      obtain ⟨ih1, ih2⟩ := run_spec A R M hR hA'
      have hcut : ∀ i, cutM A R (M.getD i []) i = cutM ((i0, k0) :: A) R (M.getD i []) i := by
        intro i
        unfold cutM
        refine List.filter_congr fun k _ => ?_
        by_cases e : (i, k) = (i0, k0)
        · simp only [Prod.mk.injEq] at e
          obtain ⟨rfl, rfl⟩ := e
          simp [hx]
        · have h1 : ((i, k) ∈ (i0, k0) :: A) ↔ (i, k) ∈ A := by simp only [List.mem_cons, e, false_or]
          simp only [h1]
      refine ⟨fun R' M' h => ?_, ?_⟩
      · obtain ⟨g1, g2, g3⟩ := ih1 R' M' h
        refine ⟨?_, g2, fun i hi => by rw [g3 i hi, hcut]⟩
        rw [g1]
        refine List.filter_congr fun y hy => ?_
        simp only [List.any_cons, up, Bool.not_or]
        have e2 : ¬ (((i0 : Int), k0) = y) := fun h => hx (h ▸ hy)
        simp [e2]
      · rw [ih2]
        constructor
        · rintro ⟨y, hy, h1, h2⟩
          exact ⟨y, List.mem_cons_of_mem _ hy, h1, by rw [← hcut]; exact h2⟩
        · rintro ⟨y, hy, h1, h2⟩
          rcases List.mem_cons.1 hy with rfl | hy
          · exact absurd h1 hx
          · exact ⟨y, hy, h1, by rw [hcut]; exact h2⟩
end Go.Proofs.Ytglmjdpmpgphkaa.Sk

/- Contracts of functions: the machine without some answers. -/
namespace Go.Proofs.Ytglmjdpmpgphkaa.Sk
open Go Go.E Go.E.Sm
set_option maxRecDepth 10000

/-! how a range over a function is reckoned -/
noncomputable def tailK (P : Program) (n0 : Nat) (t : ATail) (Q : AExit → AState → Prop) : AExit → AState → Prop
  | .normal, τ => awpT P n0 t τ Q
  | e, τ => Q e τ
noncomputable def rngO (P : Program) (id : Nat) (fr : List LV) (t : ATail) (Q : AExit → AState → Prop) : AExit → List ABlock → Prop
  | .normal, H => awpT P H.length t ⟨fr, H⟩ Q
  | .exit i, H => if i = id then awpT P H.length t ⟨fr, H⟩ Q else Q (.exit i) ⟨fr, H⟩
  | .ret, H => Q .ret ⟨fr, H⟩
noncomputable def rngS (P : Program) (id : Nat) (x : AX) (p : Nat) (ac body : ACode) (t : ATail) (Q : AExit → AState → Prop) : AExit → AState → Prop
  | .normal, τ => rangeLK P (fun xs => rngK P τ.hp.length τ.fr p ac body (rngO P id τ.fr t Q) xs τ.hp) (x.ev τ.fr)
  | e, τ => Q e τ
noncomputable def rngB (P : Program) (n : Nat) (fr : List LV) (p : Nat) (ac body : ACode) (Q : AExit → List ABlock → Prop) (vs : List SV) : AExit → AState → Prop
  | .normal, τ => rngK P n fr p ac body Q vs (killed n τ.hp)
  | e, τ => Q e (killed n τ.hp)
noncomputable def rngA (P : Program) (n : Nat) (fr : List LV) (p : Nat) (ac body : ACode) (Q : AExit → List ABlock → Prop) (vs : List SV) : AExit → AState → Prop := fun e σ => e = .normal ∧ awp P σ.hp.length body σ (rngB P n fr p ac body Q vs)
section
variable {P : Program} {n0 n id p i : Nat} {a ac body : ACode} {t : ATail} {x : AX} {fr : List LV} {H : List ABlock} {Q : AExit → AState → Prop} {Q2 : AExit → List ABlock → Prop} {σ : AState} {vs : List SV}
@[go_sem] theorem awpT_code : awpT P n0 (.code a) σ Q = awp P n0 a σ Q := rfl
@[go_sem] theorem awpT_seq : awpT P n0 (.seq a t) σ Q = awp P n0 a σ (tailK P n0 t Q) := by
  have h : (fun (e : AExit) (τ : AState) => match e with | .normal => awpT P n0 t τ Q | e => Q e τ) = tailK P n0 t Q := by funext e τ; cases e <;> rfl
  rw [← h]; rfl
@[go_sem] theorem tailK_n : tailK P n0 t Q .normal σ = awpT P n0 t σ Q := rfl
@[go_sem] theorem tailK_e : tailK P n0 t Q (.exit i) σ = Q (.exit i) σ := rfl
@[go_sem] theorem tailK_r : tailK P n0 t Q .ret σ = Q .ret σ := rfl
@[go_sem] theorem awpT_range : awpT P n0 (.rangeF a id x p ac body t) σ Q = awp P n0 a σ (rngS P id x p ac body t Q) := by
  have h : ∀ τ : AState, (fun (e : AExit) (H : List ABlock) => match e with | .normal => awpT P H.length t { fr := τ.fr, hp := H } Q | .exit i => if i = id then awpT P H.length t { fr := τ.fr, hp := H } Q else Q (.exit i) { fr := τ.fr, hp := H } | .ret => Q .ret { fr := τ.fr, hp := H }) = rngO P id τ.fr t Q := by
    intro τ; funext e H; cases e <;> rfl
  have h2 : (fun (e : AExit) (τ : AState) => match e with | .normal => rangeLK P (fun xs => rngK P τ.hp.length τ.fr p ac body (fun (e : AExit) (H : List ABlock) => match e with | .normal => awpT P H.length t { fr := τ.fr, hp := H } Q | .exit i => if i = id then awpT P H.length t { fr := τ.fr, hp := H } Q else Q (.exit i) { fr := τ.fr, hp := H } | .ret => Q .ret { fr := τ.fr, hp := H }) xs τ.hp) (x.ev τ.fr) | e => Q e τ) = rngS P id x p ac body t Q := by
    funext e τ
    cases e with
    | normal => simp only [rngS, h]
    | exit i => rfl
    | ret => rfl
  rw [← h2]; rfl
@[go_sem] theorem rngS_n : rngS P id x p ac body t Q .normal ⟨fr, H⟩ = rangeLK P (fun xs => rngK P H.length fr p ac body (rngO P id fr t Q) xs H) (x.ev fr) := rfl
@[go_sem] theorem rngB_n : rngB P n fr p ac body Q2 vs .normal σ = rngK P n fr p ac body Q2 vs (killed n σ.hp) := rfl
@[go_sem] theorem rngB_e : rngB P n fr p ac body Q2 vs (.exit i) σ = Q2 (.exit i) (killed n σ.hp) := rfl
@[go_sem] theorem rngB_r : rngB P n fr p ac body Q2 vs .ret σ = Q2 .ret (killed n σ.hp) := rfl
@[go_sem] theorem rngA_n : rngA P n fr p ac body Q2 vs .normal σ = awp P σ.hp.length body σ (rngB P n fr p ac body Q2 vs) := by simp [rngA]
theorem rngK_nil : rngK P n fr p ac body Q2 [] H = Q2 .normal H := rfl
theorem rngK_cons {v : SV} : rngK P n fr p ac body Q2 (v :: vs) H = awp P n ac ⟨fset fr p (.s v), H⟩ (rngA P n fr p ac body Q2 vs) := by
  have h : ∀ σ1 : AState, (fun (e2 : AExit) (σ2 : AState) => match e2 with | .normal => rngK P n fr p ac body Q2 vs (killed n σ2.hp) | e2 => Q2 e2 (killed n σ2.hp)) = rngB P n fr p ac body Q2 vs := by intro σ1; funext e σ2; cases e <;> rfl
  unfold rngA
  rw [← h ⟨fr, H⟩]; rfl
def rngC (n : Nat) (Q : AExit → List ABlock → Prop) (K : List ABlock → Prop) : AExit → AState → Prop
  | .normal, τ => K (killed n τ.hp)
  | e, τ => Q e (killed n τ.hp)
noncomputable def rngD (P : Program) (n : Nat) (body : ACode) (Q : AExit → List ABlock → Prop) (K : List ABlock → Prop) : AExit → AState → Prop := fun e σ => e = .normal ∧ awp P σ.hp.length body σ (rngC n Q K)
@[go_sem] theorem rngC_n {K : List ABlock → Prop} {σ : AState} : rngC n Q2 K .normal σ = K (killed n σ.hp) := rfl
@[go_sem] theorem rngC_e {K : List ABlock → Prop} {σ : AState} : rngC n Q2 K (.exit i) σ = Q2 (.exit i) (killed n σ.hp) := rfl
@[go_sem] theorem rngC_r {K : List ABlock → Prop} {σ : AState} : rngC n Q2 K .ret σ = Q2 .ret (killed n σ.hp) := rfl
@[go_sem] theorem rngD_n {K : List ABlock → Prop} {σ : AState} : rngD P n body Q2 K .normal σ = awp P σ.hp.length body σ (rngC n Q2 K) := by simp [rngD]
theorem rng_rule (J : List SV → List ABlock → Prop) (hnil : ∀ H, J [] H → Q2 .normal H)
    (hcons : ∀ v vs H (K : List ABlock → Prop), J (v :: vs) H → (∀ H', J vs H' → K H') → awp P n ac ⟨fset fr p (.s v), H⟩ (rngD P n body Q2 K)) : ∀ (vs : List SV) (H : List ABlock), J vs H → rngK P n fr p ac body Q2 vs H
  | [], H, h => hnil H h
  | v :: vs, H, h => by
    have := hcons v vs H (rngK P n fr p ac body Q2 vs) h (fun H' h' => rng_rule J hnil hcons vs H' h')
    have e : rngB P n fr p ac body Q2 vs = rngC n Q2 (rngK P n fr p ac body Q2 vs) := by funext e τ; cases e <;> rfl
    rw [rngK_cons]
    unfold rngA
    rw [e]
    exact this
@[go_sem] theorem rngO_n : rngO P id fr t Q .normal H = awpT P H.length t ⟨fr, H⟩ Q := rfl
@[go_sem] theorem rngO_r : rngO P id fr t Q .ret H = Q .ret ⟨fr, H⟩ := rfl
@[go_sem] theorem killed_def : killed n H = (H.take n).map (fgtB fun b => decide (n ≤ b)) := rfl
end

def lastP (T : List (Int × Int)) : Nat → Int × Int
  | 0 => (-1, -1)
  | i + 1 => T.getD i (0, 0)
theorem sortd_snoc : ∀ (T : List (Int × Int)) (l x : Int × Int), sortd l (T ++ [x]) = (sortd l T && lexlt (T.getLast?.getD l) x)
  | [], l, x => by simp [sortd]
  | y :: T, l, x => by
    simp only [List.cons_append, sortd, sortd_snoc T y x, Bool.and_assoc]
    congr 2
    cases T with
    | nil => rfl
    | cons z T => simp [List.getLast?_cons]
theorem sortd_take {T : List (Int × Int)} {i : Nat} (hi : i < T.length) : sortd (-1, -1) (T.take (i + 1)) = (sortd (-1, -1) (T.take i) && lexlt (lastP T i) (T.getD i (0, 0))) := by
  have h : T.take (i + 1) = T.take i ++ [T.getD i (0, 0)] := by
    rw [List.take_succ, List.getD_eq_getElem?_getD, List.getElem?_eq_getElem hi]; rfl
  rw [h, sortd_snoc]
  congr 2
  cases i with
  | zero => rfl
  | succ j =>
    rw [List.getLast?_eq_getElem?, List.length_take, List.getElem?_take, if_pos (by omega), show min (j + 1) T.length - 1 = j by omega, lastP, List.getD_eq_getElem?_getD, List.getElem?_eq_getElem (by omega)]; rfl
theorem sortd_pre : ∀ {T : List (Int × Int)} {l : Int × Int} (i : Nat), sortd l (T.take i) = false → sortd l T = false
  | [], l, i, h => by simpa using h
  | x :: T, l, 0, h => by simp [sortd] at h
  | x :: T, l, i + 1, h => by
    simp only [List.take_succ_cons, sortd, Bool.and_eq_false_iff] at h ⊢
    rcases h with h | h
    · exact .inl h
    · exact .inr (sortd_pre i h)
theorem cmp2_ge {x y : Int × Int} : (0 ≤ cmp2 x y) ↔ lexlt x y = false := by
  have := cmp2_neg (x := x) (y := y)
  cases h : lexlt x y with
  | true => simp only [h, iff_true] at this; simp; omega
  | false => simp only [h, Bool.false_eq_true, iff_false] at this; simp; omega

theorem fgtB_mapB {p : Nat → Bool} {R : List (Int × Int)} : fgtB p (mapB R) = mapB R := rfl
theorem k79 {pl wn : List Bool} {mv : List (List Int)} {T : List (Int × Int)} (hv : Valid pl mv wn) (hT : T.length ≤ 200) : E.Fn Try.prog 79 [boardV pl mv wn, prs T] (takenR pl mv wn T) := by
  refine fn_of_tail okt79 ?_
  unfold boardV
  generalize (pad (distW pl mv wn)).map (SV.int .i64) = far
  generalize hr : takenR pl mv wn T = rs
  simp only [t79, c79r0, c79r1, splice, c79r2, c79r3, prs, go_sem, ↓reduceIte, reduceCtorEq, Nat.reduceAdd, Nat.reduceSub, Nat.reduceLT, Nat.reduceLeDiff]
  intro _
  refine loop_rule (fun n τ => ∃ i : Nat, n = T.length - i ∧ i ≤ T.length ∧ sortd (-1, -1) (T.take i) = true ∧
    τ = ⟨[.s (.ptr (bools pl :: .slice (mv.map ints) :: bools wn :: far)), .any, .any, .any, .loc 0 0, .loc 1 0, .loc 3 0, .loc 4 0, .any, .any, .any, .any, .any, .any, .s (prs T), .s (.int .i64 T.length), .s (.int .i64 i), .any, .any, .any, .any, .any, .any, .any, .any, .any, .any, .any, .any, .any, .any, .any, .any, .any, .any, .any, .any, .any, .any, .any, .any, .any, .any, .any, .any, .any, .any, .any, .any, .any, .any, .any, .any, .any, .any, .any, .any, .any, .any, .any, .any, .any, .any, .any, .any, .any, .any, .any, .any, .any, .any, .any, .any, .any, .any, .any, .any, .any, .any, .any, .any, .any, .any, .any, .any, .any], [.obj [.full [], .full [], .full []], .obj [.s (.bool false)], mapB (T.take i), .obj [.mp 2], .obj [.s (.int .i64 (lastP T i).1), .s (.int .i64 (lastP T i).2)]]⟩) T.length rfl ?_ ?_
  · simp only [c79l11m, go_sem, ↓reduceIte, reduceCtorEq, Nat.reduceAdd, Nat.reduceSub, Nat.reduceLT, Nat.reduceLeDiff]
    exact ⟨0, rfl, Nat.zero_le _, rfl, rfl⟩
  · rintro I n τ ⟨i, rfl, hi, hso, rfl⟩ hI
    generalize hl : lastP T i = l at *
    simp only [c79l11, c79r4, go_sem, ↓reduceIte, reduceCtorEq, Nat.reduceAdd, Nat.reduceSub, Nat.reduceLT, Nat.reduceLeDiff]
    refine ⟨fun hlt => ?_, fun hge => ?_⟩
    · have hlt' : i < T.length := by omega
      have hx : T[i]? = some (T.getD i (0, 0)) := by rw [List.getD_eq_getElem?_getD, List.getElem?_eq_getElem hlt']; rfl
      have hst := sortd_take hlt'
      rw [hl] at hst
      have hlast : lastP T (i + 1) = T.getD i (0, 0) := rfl
      have htk : T.take (i + 1) = T.take i ++ [T.getD i (0, 0)] := by
        rw [List.take_succ, hx]; rfl
      generalize T.getD i (0, 0) = x at *
      simp only [c79r5, prs, hx, hlt', pr, splice, c79r6, go_sem, ↓reduceIte, reduceCtorEq, Nat.reduceAdd, Nat.reduceSub, Nat.reduceLT, Nat.reduceLeDiff]
      refine ⟨by decide, by decide, ?_⟩
      refine callK_of (by rfl) (k96 (x := l) (y := x)) (.inl rfl) ?_
      cases hlx : lexlt l x with
      | false =>
        have hc := cmp2_ge.2 hlx
        have hrs : rs = [zmach, .bool false] := by
          rw [← hr]
          unfold takenR
          rw [if_neg]
          rw [sortd_pre (i + 1) (by rw [hst, hlx, Bool.and_false])]; simp
        rw [hrs]
        simp only [hc, c79r7, splice, go_sem, ↓reduceIte, reduceCtorEq, Nat.reduceAdd, Nat.reduceSub, Nat.reduceLT, Nat.reduceLeDiff]
        rfl
      | true =>
        have hc : ¬ (0 ≤ cmp2 l x) := fun h => by have := cmp2_ge.1 h; rw [hlx] at this; cases this
        have hsx : sortd (-1, -1) (T.take (i + 1)) = true := by rw [hst, hso, hlx]; rfl
        have hxn : x ∉ T.take i := fun hm => by
          have := sortd_nodup hsx
          rw [htk, List.nodup_append] at this
          exact this.2.2 x hm x (by simp) rfl
        simp only [hc, c79r8, ldOK, ldOB, Nat.mul_one, Int.toNat_zero, Int.toNat_one, List.getElem?_cons_zero, List.getElem?_cons_succ, go_sem, ↓reduceIte, reduceCtorEq, Nat.reduceAdd, Nat.reduceSub, Nat.reduceLT, Nat.reduceLeDiff]
        refine ⟨by decide, ?_⟩
        refine ⟨by decide, by decide, ?_⟩
        refine mset_pr (R := T.take i) (x := x) rfl rfl hxn ?_
        rw [← htk]
        simp only [c79r9, ldOK, ldOB, splice, c79r10, c79l11m, fgtB_mapB, go_sem, ↓reduceIte, reduceCtorEq, Nat.reduceAdd, Nat.reduceSub, Nat.reduceLT, Nat.reduceLeDiff]
        exact ⟨inR_i64 (by omega) (by omega), hI (T.length - (i + 1)) _ (by omega) ⟨i + 1, rfl, by omega, hsx, by rw [hlast]; simp [prs]⟩⟩
    · have hie : i = T.length := by omega
      subst hie
      rw [List.take_length] at hso ⊢
      have hocm : ∀ y ∈ mv.map ints, y.cells.length = 1 := by
        intro y hy
        obtain ⟨x, _, rfl⟩ := List.mem_map.1 hy
        rfl
      have h1 := hv.few
      have h2 := hv.pos
      have hmne : mv.map ints ≠ [] := fun e => by have := congrArg List.length e; rw [List.length_map] at this; simp only [List.length_nil] at this; omega
      simp only [c79r12, bools, ldOK, ldOB, go_sem, ↓reduceIte, reduceCtorEq, Nat.reduceAdd, Nat.reduceSub, Nat.reduceLT, Nat.reduceLeDiff]
      refine ⟨_, _, k73 (xs := mv) (by omega), rfl, by decide, hocm, rfl, ?_⟩
      rw [if_neg hmne]
      have hfl : flatE (mv.map ints) = mv.map ints := flatE_one_each (fun _ => rfl) mv
      simp only [hfl, splice, c79r13, go_sem, ↓reduceIte, reduceCtorEq, Nat.reduceAdd, Nat.reduceSub, Nat.reduceLT, Nat.reduceLeDiff]
      refine callK_of rfl (k97 (x := bools pl :: .slice (mv.map ints) :: bools wn :: far)) (.inr rfl) ?_
      simp only [go_sem, ↓reduceIte, reduceCtorEq, Nat.reduceAdd, Nat.reduceSub, Nat.reduceLT, Nat.reduceLeDiff]
      refine ⟨by kernel_rfl, rfl, _, k104 (far := far) hv.pl hv.wn, ansFrom_flat _ _ _ _, ?_⟩
      have hrs : rs = takeRes pl wn (runA (ansP 0 pl mv wn) T mv) := by
        rw [← hr]
        unfold takenR
        rw [if_pos hso]
      rw [ansP_from]
      refine rng_rule (fun vs H => ∃ (A : List (Nat × Int)) (R : List (Int × Int)) (M : List (List Int)), vs = A.map (fun x => stepv x.1 x.2) ∧ M.length = mv.length ∧ (∀ x ∈ A, x.1 < mv.length) ∧ (∀ l ∈ M, l.length ≤ 14) ∧ R.length ≤ 200 ∧
        rs = takeRes pl wn (runA A R M) ∧
        H = [.obj [.full [], .full [], .full []], .obj [.s (.bool false)], mapB R, .obj [.mp 2], .obj [.s (.int .i64 l.1), .s (.int .i64 l.2)], .row (M.map ints),
          .obj [.s (bools pl), .sl 5 0 mv.length 1 false, .s (bools wn)]]) ?_ ?_ _ _ ?_
      · rintro H ⟨A, R, M, hA, hM, _, _, hRl, hrs2, rfl⟩
        have hA0 : A = [] := by cases A with | nil => rfl | cons => cases hA
        subst hA0
        simp only [runA, takeRes] at hrs2
        subst hrs2
        simp only [c79r21, ldOK, ldOB, go_sem, ↓reduceIte, reduceCtorEq, Nat.reduceAdd, Nat.reduceSub, Nat.reduceLT, Nat.reduceLeDiff]
        refine mlen_pr (R := R) rfl ?_
        have hso : sliceOf 0 mv.length 1 (M.map ints) = some (.slice (M.map ints)) := by
          unfold sliceOf
          rw [if_pos (by rw [List.length_map]; omega)]
          simp [elems]
          exact List.take_of_length_le (by rw [List.length_map]; omega)
        have hd : decide ((R.length : Int) = 0) = decide (R = []) := by
          cases R with
          | nil => rfl
          | cons => simp; omega
        rw [← hd]
        simp only [splice, hso, go_sem, ↓reduceIte, reduceCtorEq, Nat.reduceAdd, Nat.reduceSub, Nat.reduceLT, Nat.reduceLeDiff]
        rfl
      · rintro v vs H K ⟨A, R, M, hA, hM, hA1, hMl, hRl, hrs2, rfl⟩ hK
        cases A with
        | nil => cases hA
        | cons a A =>
          obtain ⟨i, k⟩ := a
          simp only [List.map_cons, List.cons.injEq] at hA
          obtain ⟨rfl, rfl⟩ := hA
          have hi := hA1 (i, k) (by simp)
          simp only at hi
          have hA2 : ∀ x ∈ A, x.1 < mv.length := fun x hx => hA1 x (List.mem_cons_of_mem _ hx)
          have hMi : M[i]? = some (M.getD i []) := by rw [List.getD_eq_getElem?_getD, List.getElem?_eq_getElem (by omega)]; rfl
          have hMi2 : i < M.length := by omega
          have hl14 := hMl _ (List.mem_of_getElem? hMi)
          simp only [c79r14, c79b20, c79r15, ldOK, ldOB, stepv, splice, go_sem, ↓reduceIte, reduceCtorEq, Nat.reduceAdd, Nat.reduceSub, Nat.reduceLT, Nat.reduceLeDiff]
          refine mget_pr (R := R) (x := ((i : Int), k)) rfl rfl ?_
          simp only [runA] at hrs2
          by_cases hm : ((i : Int), k) ∈ R
          · rw [if_pos hm] at hrs2 ⊢
            generalize M.getD i [] = m at *
            have hRe : (R.erase ((i : Int), k)).length ≤ 200 := Nat.le_trans (List.length_erase_le ..) hRl
            simp only [c79r16, ldOK, ldOB, hMi, hMi2, Nat.mul_one, ints, go_sem, ↓reduceIte, reduceCtorEq, Nat.reduceAdd, Nat.reduceSub, Nat.reduceLT, Nat.reduceLeDiff]
            refine ⟨fun h => absurd h (by decide), fun _ => ⟨hi, ?_⟩⟩
            refine ⟨_, _, k75 (xs := m) (by omega), rfl, by decide, one_cells, rfl, ?_⟩
            by_cases hl0 : m.map (SV.int .i64) = []
            · rw [if_pos hl0]
              have hl0' : m = [] := by simpa using hl0
              subst hl0'
              simp only [callFK, go_sem, ↓reduceIte, reduceCtorEq, Nat.reduceAdd, Nat.reduceSub, Nat.reduceLT, Nat.reduceLeDiff]
              have hcut : cutL [] k = [] := rfl
              rw [hcut, if_pos rfl] at hrs2
              simp only [takeRes] at hrs2
              subst hrs2
              have hMs : (M.set i [])[i]? = some [] := by rw [List.getElem?_set, if_pos rfl, if_pos (by omega)]
              have hMs2 : i < (M.set i []).length := by rw [List.length_set]; omega
              refine callK_of rfl (k74e (g := 98) (first := []) (caps := [.ptr [.int .i64 i, .int .i64 k]]) ⟨tbl_fn 98 rfl, rfl⟩) (.inl rfl) ?_
              have hsp : splice (M.map ints) i [SV.slice []] = (M.set i []).map ints := splice_rowG (e := ints) (x := []) (by omega)
              simp only [Nat.mul_one, Nat.zero_add, stRK, stRB, go_sem, ↓reduceIte, reduceCtorEq, Nat.reduceAdd, Nat.reduceSub, Nat.reduceLT, Nat.reduceLeDiff]
              refine ⟨by omega, by omega, ?_⟩
              rw [hsp]
              simp only [c79r17, ldOK, ldOB, go_sem, ↓reduceIte, reduceCtorEq, Nat.reduceAdd, Nat.reduceSub, Nat.reduceLT, Nat.reduceLeDiff]
              refine mdel_pr (R := R) (x := ((i : Int), k)) rfl rfl hm ?_
              simp only [c79r18, ldOK, ldOB, Nat.mul_one, hMs, hMs2, ints, go_sem, ↓reduceIte, reduceCtorEq, Nat.reduceAdd, Nat.reduceSub, Nat.reduceLT, Nat.reduceLeDiff]
              refine ⟨hi, fun _ => ⟨fun _ => ?_, fun h => absurd rfl h⟩⟩
              simp only [c79r19, splice, fgtB_mapB, go_sem, ↓reduceIte, reduceCtorEq, Nat.reduceAdd, Nat.reduceSub, Nat.reduceLT, Nat.reduceLeDiff]
              rfl
            · rw [if_neg hl0]
              have hk := k74 (g := 98) (first := []) (caps := [.ptr [.int .i64 i, .int .i64 k]]) (xs := m) (q := fun x => decide (x = k)) ⟨tbl_fn 98 rfl, rfl⟩ (fun x _ => k98) (by omega)
              have hvl : (cutL m k).length ≤ m.length := List.length_filter_le _ _
              have hcd : keepF (fun x => decide (x = k)) m = cutL m k := rfl
              rw [hcd] at hk
              generalize cutL m k = m2 at *
              have hro : rowOf 0 m2.length 1 ((m2 ++ List.replicate (m.length - m2.length) 0).map (SV.int .i64)) = some (m2.map (SV.int .i64)) := by
                unfold rowOf
                rw [if_pos (by simp)]
                simp [elems]
              have hfl1 : ((m2 ++ List.replicate (m.length - m2.length) 0).map (SV.int .i64)).all SV.flat1 = true := by
                rw [List.all_eq_true]
                intro y hy
                obtain ⟨z, _, rfl⟩ := List.mem_map.1 hy
                rfl
              have hsp : splice (M.map ints) i [SV.slice (m2.map (SV.int .i64))] = (M.set i m2).map ints := splice_rowG (e := ints) (x := m2) (by omega)
              have hMs : (M.set i m2)[i]? = some m2 := by rw [List.getElem?_set, if_pos rfl, if_pos (by omega)]
              have hMs2 : i < (M.set i m2).length := by rw [List.length_set]; omega
              simp only [flatE_ints, callFK, callFB, go_sem, ↓reduceIte, reduceCtorEq, Nat.reduceAdd, Nat.reduceSub, Nat.reduceLT, Nat.reduceLeDiff]
              refine ⟨_, _, _, _, _, _, rfl, hk, hro, hfl1, hi, ?_⟩
              simp only [Nat.mul_one, Nat.zero_add, stRK, stRB, go_sem, ↓reduceIte, reduceCtorEq, Nat.reduceAdd, Nat.reduceSub, Nat.reduceLT, Nat.reduceLeDiff]
              refine ⟨by omega, ?_⟩
              rw [hsp]
              simp only [c79r17, ldOK, ldOB, go_sem, ↓reduceIte, reduceCtorEq, Nat.reduceAdd, Nat.reduceSub, Nat.reduceLT, Nat.reduceLeDiff]
              refine mdel_pr (R := R) (x := ((i : Int), k)) rfl rfl hm ?_
              simp only [c79r18, ldOK, ldOB, Nat.mul_one, hMs, hMs2, ints, go_sem, ↓reduceIte, reduceCtorEq, Nat.reduceAdd, Nat.reduceSub, Nat.reduceLT, Nat.reduceLeDiff]
              refine ⟨hi, fun _ => ⟨fun h0 => ?_, fun h0 => ?_⟩⟩
              · have hm0 : m2 = [] := List.eq_nil_of_length_eq_zero (by omega)
                rw [if_pos hm0] at hrs2
                simp only [takeRes] at hrs2
                subst hrs2
                simp only [c79r19, splice, fgtB_mapB, go_sem, ↓reduceIte, reduceCtorEq, Nat.reduceAdd, Nat.reduceSub, Nat.reduceLT, Nat.reduceLeDiff]
                rfl
              · rw [if_neg (fun e => h0 (by rw [e]; rfl))] at hrs2
                simp only [fgtB_mapB, go_sem, ↓reduceIte, reduceCtorEq, Nat.reduceAdd, Nat.reduceSub, Nat.reduceLT, Nat.reduceLeDiff]
                refine hK _ ⟨A, R.erase ((i : Int), k), M.set i m2, rfl, by rw [List.length_set]; exact hM, hA2, fun x hx => ?_, hRe, hrs2, rfl⟩
                rcases List.mem_or_eq_of_mem_set hx with h | rfl
                · exact hMl x h
                · omega
          · rw [if_neg hm] at hrs2 ⊢
            simp only [fgtB_mapB, go_sem, ↓reduceIte, reduceCtorEq, Nat.reduceAdd, Nat.reduceSub, Nat.reduceLT, Nat.reduceLeDiff]
            exact hK _ ⟨A, R, M, rfl, hM, hA2, hMl, hRl, hrs2, rfl⟩
      · refine ⟨_, T, mv, rfl, rfl, fun x hx => ?_, fun l hl => ?_, hT, hrs, rfl⟩
        · have := ansP_lt _ _ _ _ x hx; omega
        · have := rise_len _ 0 (hv.ris l hl) (by omega); omega
end Go.Proofs.Ytglmjdpmpgphkaa.Sk

/- What the program returns without some answers, by what the document says. -/
namespace Go.Proofs.Ytglmjdpmpgphkaa.Sk
open Go Go.E
set_option linter.all false

theorem nodup_len {α : Type} [DecidableEq α] : ∀ {S L : List α}, S.Nodup → (∀ x ∈ S, x ∈ L) → S.length ≤ L.length
  | [], L, _, _ => Nat.zero_le _
  | x :: S, L, h, hs => by
    have hx := hs x (by simp)
    have h' := List.nodup_cons.1 h
    have := nodup_len (S := S) (L := L.erase x) h'.2 fun y hy => by
      have hne : y ≠ x := fun e => h'.1 (e ▸ hy)
      exact (List.mem_erase_of_ne hne).2 (hs y (List.mem_cons_of_mem _ hy))
    have hl := List.length_erase_of_mem hx
    have hp : 0 < L.length := List.length_pos_of_mem hx
    simp only [List.length_cons]; omega
theorem nodup_full {α : Type} [DecidableEq α] {S L : List α} (hS : S.Nodup) (hs : ∀ x ∈ S, x ∈ L) (hl : L.length ≤ S.length) : ∀ x ∈ L, x ∈ S := by
  intro x hx
  refine Decidable.byContradiction fun hn => ?_
  have := nodup_len (S := S) (L := L.erase x) hS fun y hy => (List.mem_erase_of_ne (fun e : y = x => hn (by rw [← e]; exact hy))).2 (hs y hy)
  have h1 := List.length_erase_of_mem hx
  have hp : 0 < L.length := List.length_pos_of_mem hx
  omega
theorem rise_nodup {below : Int} : ∀ (l : List Int) (lo : Int), rise lo below l = true → (∀ x ∈ l, lo ≤ x) ∧ l.Nodup
  | [], _, _ => ⟨by simp, List.nodup_nil⟩
  | x :: l, lo, h => by
    simp only [rise, Bool.and_eq_true, decide_eq_true_eq] at h
    obtain ⟨h1, h2⟩ := rise_nodup l _ h.2
    refine ⟨fun y hy => ?_, List.nodup_cons.2 ⟨fun hm => ?_, h2⟩⟩
    · rcases List.mem_cons.1 hy with rfl | hy
      · omega
      · have := h1 y hy; omega
    · have := h1 x hm; omega

theorem sortd_all {T : List (Int × Int)} : sortd (-1, -1) T = true ↔ ∀ j, j < T.length → lexlt (lastP T j) (T.getD j (0, 0)) = true := by
  have key : ∀ i, i ≤ T.length → (sortd (-1, -1) (T.take i) = true ↔ ∀ j, j < i → lexlt (lastP T j) (T.getD j (0, 0)) = true) := by
    intro i
    induction i with
    | zero => intro _; simp [sortd]
    | succ i ih =>
      intro hi
      rw [sortd_take (by omega), Bool.and_eq_true, ih (by omega)]
      constructor
      · rintro ⟨h1, h2⟩ j hj
        by_cases e : j = i
        · subst e; exact h2
        · exact h1 j (by omega)
      · intro h
        exact ⟨fun j hj => h j (by omega), h i (by omega)⟩
  have := key T.length (Nat.le_refl _)
  rwa [List.take_length] at this

theorem count_hit {T : List (Int × Int)} {a : Int} {L : Nat} (h0 : 0 < L) (h1 : L ≤ cntT T a) : ∃ j, j < T.length ∧ cntT (T.take (j + 1)) a = L ∧ (T.getD j (0, 0)).1 = a := by
  have key : ∀ i, i ≤ T.length → cntT (T.take i) a < L ∨ ∃ j, j < i ∧ cntT (T.take (j + 1)) a = L ∧ (T.getD j (0, 0)).1 = a := by
    intro i
    induction i with
    | zero => intro _; left; simpa [cntT] using h0
    | succ i ih =>
      intro hi
      rcases ih (by omega) with h | ⟨j, h2, h3⟩
      · have hx : T.take (i + 1) = T.take i ++ [T.getD i (0, 0)] := by
          rw [List.take_succ, List.getD_eq_getElem?_getD, List.getElem?_eq_getElem (by omega)]; rfl
        have hc : cntT (T.take (i + 1)) a = cntT (T.take i) a + (if (T.getD i (0, 0)).1 = a then 1 else 0) := by rw [hx, cntT_snoc]
        by_cases hl : cntT (T.take (i + 1)) a < L
        · exact .inl hl
        · right
          split at hc
          · rename_i he
            exact ⟨i, by omega, by omega, he⟩
          · omega
      · exact .inr ⟨j, by omega, h3⟩
  rcases key T.length (Nat.le_refl _) with h | ⟨j, h2, h3⟩
  · rw [List.take_length] at h; omega
  · exact ⟨j, h2, h3⟩

theorem tkAt_spec {pl wn : List Bool} {mv : List (List Int)} {T : List (Int × Int)} {j : Nat} : tkAt pl mv wn T j = true ↔
    (0 ≤ (T.getD j (0, 0)).1 ∧ (T.getD j (0, 0)).1 < mv.length ∧ pl.getD (T.getD j (0, 0)).1.toNat false = false ∧ wn.getD (T.getD j (0, 0)).1.toNat false = false ∧ (T.getD j (0, 0)).2 ∈ mv.getD (T.getD j (0, 0)).1.toNat [] ∧
      (j = 0 ∨ lexlt (T.getD (j - 1) (0, 0)) (T.getD j (0, 0)) = true) ∧ cntT (T.take (j + 1)) (T.getD j (0, 0)).1 ≠ (mv.getD (T.getD j (0, 0)).1.toNat []).length) := by
  unfold tkAt
  simp only [Bool.and_eq_true, Bool.or_eq_true, Bool.not_eq_true', decide_eq_true_eq, decide_eq_false_iff_not, and_assoc]
  have : ∀ (l : List Int) (x : Int), hasL l x = true ↔ x ∈ l := fun l x => by
    unfold hasL
    rw [List.any_eq_true]
    constructor
    · rintro ⟨y, hy, h⟩
      rw [decide_eq_true_eq] at h
      exact h ▸ hy
    · exact fun h => ⟨x, h, by simp⟩
  rw [this]

theorem cut_nil {A : List (Nat × Int)} {R : List (Int × Int)} {l : List Int} {i : Nat} : cutM A R l i = [] ↔ ∀ k ∈ l, (i, k) ∈ A ∧ ((i : Int), k) ∈ R := by
  unfold cutM
  rw [List.filter_eq_nil_iff]
  constructor
  · intro h k hk
    have h5 := h k hk
    rw [Bool.not_eq_true, Bool.not_eq_false', Bool.and_eq_true, decide_eq_true_eq, decide_eq_true_eq] at h5
    exact h5
  · intro h k hk
    rw [Bool.not_eq_true, Bool.not_eq_false', Bool.and_eq_true, decide_eq_true_eq, decide_eq_true_eq]
    exact h k hk

theorem tk_iff {pl wn : List Bool} {mv : List (List Int)} {T : List (Int × Int)} (hv : Valid pl mv wn) : tkB pl mv wn T = true ↔
    sortd (-1, -1) T = true ∧ (∀ x ∈ T, ∃ y ∈ ansP 0 pl mv wn, up y = x) ∧ ¬ ∃ x ∈ ansP 0 pl mv wn, up x ∈ T ∧ cutM (ansP 0 pl mv wn) T (mv.getD x.1 []) x.1 = [] := by
  have hA := fun i k => mem_ansP 0 pl mv wn hv.pl hv.wn i k
  have hmem : ∀ j, j < T.length → T.getD j (0, 0) ∈ T := fun j hj => by rw [List.getD_eq_getElem?_getD, List.getElem?_eq_getElem hj]; exact List.getElem_mem hj
  have hget : ∀ x ∈ T, ∃ j, j < T.length ∧ T.getD j (0, 0) = x := fun x hx => by
    obtain ⟨j, hj, e⟩ := List.getElem_of_mem hx
    exact ⟨j, hj, by rw [List.getD_eq_getElem?_getD, List.getElem?_eq_getElem hj, ← e]; rfl⟩
  have hnd : ∀ i, i < mv.length → (mv.getD i []).Nodup := fun i hi => (rise_nodup _ 0 (hv.ris _ (List.mem_of_getElem? (hv.at' hi).hm))).2
  unfold tkB
  rw [List.all_eq_true]
  constructor
  · intro h
    have h : ∀ j, j < T.length → _ := fun j hj => tkAt_spec.1 (h j (by simpa using hj))
    refine ⟨sortd_all.2 fun j hj => ?_, fun x hx => ?_, ?_⟩
    · obtain ⟨g1, g2, _, _, _, g3, _⟩ := h j hj
      cases j with
      | zero =>
        simp only [lastP, lexlt, Bool.or_eq_true, decide_eq_true_eq]
        left
        refine decide_eq_true ?_
        omega
      | succ j => exact g3.resolve_left (by omega)
    · obtain ⟨j, hj, rfl⟩ := hget x hx
      obtain ⟨g1, g2, g3, g4, g5, _⟩ := h j hj
      refine ⟨((T.getD j (0, 0)).1.toNat, (T.getD j (0, 0)).2), (hA _ _).2 ⟨(T.getD j (0, 0)).1.toNat, by omega, by omega, g3, g4, g5⟩, ?_⟩
      unfold up
      rw [show ((((T.getD j (0, 0)).1.toNat) : Nat) : Int) = (T.getD j (0, 0)).1 by omega]
    · rintro ⟨⟨i, k⟩, hy, hu, hc⟩
      rw [cut_nil] at hc
      obtain ⟨m, rfl, g1, g2, g3, g4⟩ := (hA i k).1 hy
      rw [Nat.zero_add] at *
      have hlen : (mv.getD m []).length ≤ cntT T m := by
        unfold cntT
        rw [List.countP_eq_length_filter]
        have hnd2 : ((mv.getD m []).map fun k => ((m : Int), k)).Nodup := by
          rw [List.Nodup, List.pairwise_map]
          exact (hnd m g1).imp (fun h e => h (by simpa using e))
        have := nodup_len hnd2 (L := T.filter fun x => decide (x.1 = (m : Int))) fun x hx => by
          obtain ⟨k', hk', rfl⟩ := List.mem_map.1 hx
          exact List.mem_filter.2 ⟨(hc k' hk').2, by simp⟩
        simpa using this
      obtain ⟨j, hj, h1, h2⟩ := count_hit (List.length_pos_of_mem g4) hlen
      obtain ⟨_, _, _, _, _, _, g7⟩ := h j hj
      rw [h2, Int.toNat_natCast] at g7
      exact g7 h1
  · rintro ⟨hs, ha, hb⟩ j hj
    have hj : j < T.length := by simpa using hj
    rw [tkAt_spec]
    obtain ⟨⟨i, k⟩, hy, hu⟩ := ha _ (hmem j hj)
    obtain ⟨m, rfl, g1, g2, g3, g4⟩ := (hA i k).1 hy
    rw [Nat.zero_add] at *
    have e1 : (T.getD j (0, 0)).1 = (m : Int) := by rw [← hu]; rfl
    have e2 : (T.getD j (0, 0)).2 = k := by rw [← hu]; rfl
    rw [e1, e2, Int.toNat_natCast]
    refine ⟨by omega, by omega, g2, g3, g4, ?_, fun hc => hb ⟨(m, k), hy, by rw [show up (m, k) = T.getD j (0, 0) from hu]; exact hmem j hj, ?_⟩⟩
    · have := sortd_all.1 hs j hj
      cases j with
      | zero => exact .inl rfl
      | succ j => exact .inr this
    · rw [cut_nil]
      intro k' hk'
      have hSn : (((T.take (j + 1)).filter fun x => decide (x.1 = (m : Int))).map (·.2)).Nodup := by
        have h1 : ((T.take (j + 1)).filter fun x => decide (x.1 = (m : Int))).Nodup := (List.Nodup.sublist (List.take_sublist _ _) (sortd_nodup hs)).filter _
        rw [List.Nodup, List.pairwise_map]
        refine List.Pairwise.imp_of_mem (fun {a b} ha hb hne => ?_) h1
        have ha1 := (List.mem_filter.1 ha).2
        have hb1 := (List.mem_filter.1 hb).2
        simp only [decide_eq_true_eq] at ha1 hb1
        intro e
        exact hne (Prod.ext (ha1.trans hb1.symm) e)
      have hfull := nodup_full hSn (L := mv.getD m []) (fun x hx => by
        obtain ⟨z, hz, rfl⟩ := List.mem_map.1 hx
        obtain ⟨hz1, hz2⟩ := List.mem_filter.1 hz
        simp only [decide_eq_true_eq] at hz2
        obtain ⟨⟨i2, k2⟩, hy2, hu2⟩ := ha z (List.mem_of_mem_take hz1)
        obtain ⟨m2, rfl, _, _, _, g5⟩ := (hA i2 k2).1 hy2
        rw [← hu2] at hz2 ⊢
        simp only [up, Nat.zero_add] at hz2 g5 ⊢
        have : m2 = m := by omega
        subst this
        exact g5) (by rw [List.length_map, ← hc, cntT, List.countP_eq_length_filter]; exact Nat.le_refl _)
      obtain ⟨z, hz, rfl⟩ := List.mem_map.1 (hfull k' hk')
      obtain ⟨hz1, hz2⟩ := List.mem_filter.1 hz
      simp only [decide_eq_true_eq] at hz2
      refine ⟨(hA _ _).2 ⟨m, by omega, g1, g2, g3, hk'⟩, ?_⟩
      rw [← hz2]
      exact List.mem_of_mem_take hz1

theorem taken_yes {pl wn : List Bool} {mv : List (List Int)} {T : List (Int × Int)} (hv : Valid pl mv wn) (h : tkB pl mv wn T = true) : takenR pl mv wn T = [mach pl (wtM mv T) wn, .bool true] := by
  obtain ⟨hs, ha, hb⟩ := (tk_iff hv).1 h
  obtain ⟨r1, r2⟩ := run_spec (ansP 0 pl mv wn) T mv (sortd_nodup hs) (fun x hx => by have := ansP_lt _ _ _ _ x hx; omega)
  unfold takenR
  rw [if_pos hs]
  cases hrun : runA (ansP 0 pl mv wn) T mv with
  | none => exact absurd (r2.1 hrun) hb
  | some p =>
    obtain ⟨R, M⟩ := p
    obtain ⟨g1, g2, g3⟩ := r1 R M hrun
    have hR : R = [] := by
      rw [g1, List.filter_eq_nil_iff]
      intro x hx
      obtain ⟨y, hy, e⟩ := ha x hx
      have : (ansP 0 pl mv wn).any (fun y => decide (up y = x)) = true := List.any_eq_true.2 ⟨y, hy, by simpa using e⟩
      simp only [this]; simp
    have hM : M = wtM mv T := by
      apply List.ext_getElem?
      intro i
      by_cases hi : i < mv.length
      · have h1 := g3 i hi
        rw [List.getD_eq_getElem?_getD, List.getElem?_eq_getElem (by omega)] at h1
        have h2 := wtM_at (T := T) hi
        rw [List.getD_eq_getElem?_getD, List.getElem?_eq_getElem (by rw [wtM_len]; exact hi)] at h2
        rw [List.getElem?_eq_getElem (by omega), List.getElem?_eq_getElem (by rw [wtM_len]; exact hi)]
        simp only [Option.getD_some] at h1 h2
        rw [h1, h2]
        unfold cutM wtV keepF
        congr 1
        refine List.filter_congr fun k hk => ?_
        congr 1
        rw [Bool.eq_iff_iff, Bool.and_eq_true, decide_eq_true_eq, decide_eq_true_eq]
        unfold goneB
        rw [List.any_eq_true]
        constructor
        · rintro ⟨_, h⟩
          exact ⟨_, h, by simp⟩
        · rintro ⟨x, hx, e⟩
          rw [decide_eq_true_eq] at e
          subst e
          obtain ⟨⟨i2, k2⟩, hy, e⟩ := ha _ hx
          simp only [up, Prod.mk.injEq] at e
          have : i2 = i := by omega
          subst this
          rw [e.2] at hy
          exact ⟨hy, hx⟩
      · rw [List.getElem?_eq_none (by omega), List.getElem?_eq_none (by rw [wtM_len]; omega)]
    subst hR
    subst hM
    rfl
theorem taken_no {pl wn : List Bool} {mv : List (List Int)} {T : List (Int × Int)} (hv : Valid pl mv wn) (h : tkB pl mv wn T = false) : ∃ p M w, takenR pl mv wn T = [mach p M w, .bool false] := by
  unfold takenR
  by_cases hs : sortd (-1, -1) T = true
  · rw [if_pos hs]
    obtain ⟨r1, r2⟩ := run_spec (ansP 0 pl mv wn) T mv (sortd_nodup hs) (fun x hx => by have := ansP_lt _ _ _ _ x hx; omega)
    cases hrun : runA (ansP 0 pl mv wn) T mv with
    | none => exact ⟨[], [], [], rfl⟩
    | some p =>
      obtain ⟨R, M⟩ := p
      refine ⟨pl, M, wn, ?_⟩
      have hR : R ≠ [] := fun e => by
        subst e
        have g1 := (r1 _ _ hrun).1
        have : tkB pl mv wn T = true := (tk_iff hv).2 ⟨hs, fun x hx => ?_, fun hb => by rw [r2.2 hb] at hrun; cases hrun⟩
        · rw [h] at this; cases this
        · have h2 := List.filter_eq_nil_iff.1 g1.symm x hx
          rw [Bool.not_eq_true, Bool.not_eq_false', List.any_eq_true] at h2
          obtain ⟨y, hy, e⟩ := h2
          exact ⟨y, hy, by simpa using e⟩
      simp only [takeRes]
      rw [decide_eq_false hR]
  · rw [if_neg hs]
    exact ⟨[], [], [], rfl⟩
end Go.Proofs.Ytglmjdpmpgphkaa.Sk

/- Contracts of functions: whether the player wins without some answers. -/
namespace Go.Proofs.Ytglmjdpmpgphkaa.Sk
open Go Go.E Go.E.Sm
set_option maxRecDepth 10000

theorem k44 {pl wn : List Bool} {mv : List (List Int)} {x : Int} {T : List (Int × Int)} (hT : T.length ≤ 200) : E.Fn Try.prog 44 [mach pl mv wn, .int .i64 x, prs T] [.int .i64 (ckT pl mv wn x T)] := by
  refine fn_of_row okf44 ?_
  unfold ckT
  simp only [FRow.start, f44, c44r0, c44r1, mach, bools, prs, go_sem, ↓reduceIte, reduceCtorEq, Nat.reduceAdd, Nat.reduceSub, Nat.reduceLT, Nat.reduceLeDiff]
  refine ⟨by decide, by decide, rfl, one1, ?_⟩
  by_cases h : chkM pl mv wn = 0
  · have hv := valid_of h
    have h1 := hv.few
    have h2 := hv.pos
    rw [if_neg (by simpa using h)]
    cases hx : inN mv.length x with
    | false =>
      rw [if_pos rfl]
      refine callK_of rfl (k58p hv (ps := [x]) (by rw [inAll_one, hx])) (.inl rfl) ?_
      simp only [c44r2, two_ne, c44r3, go_sem, ↓reduceIte, reduceCtorEq, Nat.reduceAdd, Nat.reduceSub, Nat.reduceLT, Nat.reduceLeDiff]
    | true =>
      rw [if_neg (by simp)]
      have hx' := hx
      simp only [inN, Bool.and_eq_true, decide_eq_true_eq] at hx'
      refine callK_of rfl (k58 hv (ps := [x]) (by rw [inAll_one, hx])) (.inr rfl) ?_
      have q := k79 (T := T) hv hT
      cases ht : tkB pl mv wn T with
      | false =>
        rw [if_pos rfl]
        obtain ⟨p2, M2, w2, e⟩ := taken_no hv ht
        rw [e] at q
        simp only [c44r2, c44r4, boardV, mach, bools, go_sem, ↓reduceIte, reduceCtorEq, Nat.reduceAdd, Nat.reduceSub, Nat.reduceLT, Nat.reduceLeDiff]
        refine callK_of rfl q (.inr rfl) ?_
        simp only [mach, bools, splice, c44r5, c44r6, go_sem, ↓reduceIte, reduceCtorEq, Nat.reduceAdd, Nat.reduceSub, Nat.reduceLT, Nat.reduceLeDiff]
      | true =>
        rw [if_neg (by simp)]
        rw [taken_yes hv ht] at q
        have hv2 := wtM_valid (T := T) hv
        have hw := wtM_len (mv := mv) (T := T)
        have hdl := distW_len hv2
        have q80 := k80 hv2.few hv2.pl hv2.wn hv2.ins
        generalize wtM mv T = M at *
        simp only [c44r2, c44r4, boardV, mach, bools, go_sem, ↓reduceIte, reduceCtorEq, Nat.reduceAdd, Nat.reduceSub, Nat.reduceLT, Nat.reduceLeDiff]
        refine callK_of rfl q (.inr rfl) ?_
        simp only [mach, bools, splice, c44r5, c44r7, go_sem, ↓reduceIte, reduceCtorEq, Nat.reduceAdd, Nat.reduceSub, Nat.reduceLT, Nat.reduceLeDiff]
        refine callK_of rfl q80 (.inr rfl) ?_
        have hpl := pad_len (W := distW pl M wn) (by omega)
        have hg := getI_get (W := pad (distW pl M wn)) (x := x) hx'.1 (by omega)
        rw [getI_pad] at hg
        generalize distW pl M wn = D at *
        have hile : x.toNat ≤ (pad D).length := by omega
        have hsel : (List.drop x.toNat (List.map (SV.int .i64) (pad D)))[0]? = some (.int .i64 (getI D x)) := by
          rw [List.getElem?_drop, Nat.add_zero, List.getElem?_map, hg]; rfl
        by_cases hd : getI D x < 0
        · rw [if_pos hd]
          simp only [bools, Nat.mul_one, go_sem, ↓reduceIte, reduceCtorEq, Nat.reduceAdd, Nat.reduceSub, Nat.reduceLT, Nat.reduceLeDiff]
          refine ⟨hx'.1, by omega, hile, ?_⟩
          simp only [hsel, hd, c44r8, go_sem, ↓reduceIte, reduceCtorEq, Nat.reduceAdd, Nat.reduceSub, Nat.reduceLT, Nat.reduceLeDiff]
        · rw [if_neg hd]
          simp only [bools, Nat.mul_one, go_sem, ↓reduceIte, reduceCtorEq, Nat.reduceAdd, Nat.reduceSub, Nat.reduceLT, Nat.reduceLeDiff]
          refine ⟨hx'.1, by omega, hile, ?_⟩
          simp only [hsel, hd, c44r9, go_sem, ↓reduceIte, reduceCtorEq, Nat.reduceAdd, Nat.reduceSub, Nat.reduceLT, Nat.reduceLeDiff]
  · rw [if_pos h]
    refine callK_of rfl (k58e h (ps := [x])) (.inl rfl) ?_
    simp only [c44r2, h, c44r3, go_sem, ↓reduceIte, reduceCtorEq, Nat.reduceAdd, Nat.reduceSub, Nat.reduceLT, Nat.reduceLeDiff]
end Go.Proofs.Ytglmjdpmpgphkaa.Sk

/- Contracts of functions: the greatest keep, and whether one proves. -/
namespace Go.Proofs.Ytglmjdpmpgphkaa.Sk
open Go Go.E Go.E.Sm
set_option maxRecDepth 10000

def keepL (pl : List Bool) (mv : List (List Int)) (wn : List Bool) : List Int := outP (fun i => decide (getI (distW pl mv wn) i < 0)) mv.length
theorem k53 {pl wn : List Bool} {mv : List (List Int)} (hv : Valid pl mv wn) : E.Fn Try.prog 53 [mach pl mv wn] [ints (keepL pl mv wn)] := by
  refine fn_of_row okf53 ?_
  have h1 := hv.few
  have hdl := distW_len hv
  simp only [FRow.start, f53, c53r0, c53r1, mach, bools, go_sem, ↓reduceIte, reduceCtorEq, Nat.reduceAdd, Nat.reduceSub, Nat.reduceLT, Nat.reduceLeDiff]
  refine callK_of rfl (k59 hv.pos hv.few hv.pl hv.wn hv.ins) (.inr rfl) ?_
  unfold keepL
  generalize hq : (fun i => decide (getI (distW pl mv wn) i < 0)) = q
  have hq' : ∀ x, q x = decide (getI (distW pl mv wn) x < 0) := fun x => by rw [← hq]
  simp only [c53r2, c53r3, ints, go_sem, ↓reduceIte, reduceCtorEq, Nat.reduceAdd, Nat.reduceSub, Nat.reduceLT, Nat.reduceLeDiff]
  refine loop_rule (fun n τ => ∃ i : Nat, n = mv.length - i ∧ i ≤ mv.length ∧
    τ = ⟨[.any, .any, .any, .s (.slice ((distW pl mv wn).map (.int .i64))), .sl 0 0 (outP q i).length 1 false, .s (.int .i64 i), .any, .any, .any, .any, .any, .any, .any, .any, .any, .any, .any, .any, .any, .any, .any, .any, .any, .any], [.row ((outP q i).map (SV.int .i64))]⟩) mv.length (promo_one rfl) ?_ ?_
  · simp only [c53l8m, go_sem, ↓reduceIte, reduceCtorEq, Nat.reduceAdd, Nat.reduceSub, Nat.reduceLT, Nat.reduceLeDiff]
    exact ⟨0, rfl, Nat.zero_le _, by simp [outP]⟩
  · rintro I n τ ⟨i, rfl, hi, rfl⟩ hI
    have hos := outP_succ q i
    have hol := outP_len q i
    rw [hq'] at hos
    generalize hO : outP q i = O at *
    simp only [c53l8, c53r4, hdl, go_sem, ↓reduceIte, reduceCtorEq, Nat.reduceAdd, Nat.reduceSub, Nat.reduceLT, Nat.reduceLeDiff]
    intro _
    refine ⟨fun hlt => ?_, fun hge => ?_⟩
    · have hg : (distW pl mv wn)[i]? = some (getI (distW pl mv wn) i) := by
        have := getI_get (W := distW pl mv wn) (x := i) (by omega) (by omega)
        rwa [Int.toNat_natCast] at this
      have hl2 : i < (distW pl mv wn).length := by omega
      simp only [c53r5, hg, hl2, go_sem, ↓reduceIte, reduceCtorEq, Nat.reduceAdd, Nat.reduceSub, Nat.reduceLT, Nat.reduceLeDiff]
      refine ⟨fun hneg => ?_, fun hneg => ?_⟩
      · rw [if_pos (by simpa using hneg)] at hos
        simp only [c53r6, go_sem, ↓reduceIte, reduceCtorEq, Nat.reduceAdd, Nat.reduceSub, Nat.reduceLT, Nat.reduceLeDiff]
        refine ⟨by decide, by decide, rfl, one1, one1, by omega, by omega, by omega, ?_⟩
        rw [app_map]
        simp only [c53r7, c53l8m, go_sem, ↓reduceIte, reduceCtorEq, Nat.reduceAdd, Nat.reduceSub, Nat.reduceLT, Nat.reduceLeDiff]
        exact ⟨inR_i64 (by omega) (by omega), hI (mv.length - (i + 1)) _ (by omega) ⟨i + 1, rfl, by omega, by rw [hos]; simp⟩⟩
      · rw [if_neg (by simpa using hneg)] at hos
        simp only [c53r7, c53l8m, go_sem, ↓reduceIte, reduceCtorEq, Nat.reduceAdd, Nat.reduceSub, Nat.reduceLT, Nat.reduceLeDiff]
        exact ⟨inR_i64 (by omega) (by omega), hI (mv.length - (i + 1)) _ (by omega) ⟨i + 1, rfl, by omega, by rw [hos]; simp⟩⟩
    · have hie : i = mv.length := by omega
      subst hie
      have hso : sliceOf 0 O.length 1 (O.map (SV.int .i64)) = some (.slice (O.map (SV.int .i64))) := sliceOf_all (by simp)
      simp only [c53r9, hso, hO, go_sem, ↓reduceIte, reduceCtorEq, Nat.reduceAdd, Nat.reduceSub, Nat.reduceLT, Nat.reduceLeDiff]

end Go.Proofs.Ytglmjdpmpgphkaa.Sk

/- Distances: who is found behind some rounds, and what makes them less. -/
namespace Go.Proofs.Ytglmjdpmpgphkaa.Sk
open Go Go.E

theorem getI_map_range {n i : Nat} {f : Nat → Int} (hi : i < n) : getI ((List.range n).map f) i = f i := by
  unfold getI
  rw [List.getD_eq_getElem?_getD, Int.toNat_natCast, List.getElem?_map, List.getElem?_range hi]; rfl

theorem round_sign {pl : List Bool} {mv : List (List Int)} {r : Int} {W : List Int} {i : Nat} (hr : 0 ≤ r) (hi : i < mv.length) :
    0 ≤ getI (roundW pl mv r W) i ↔ (0 ≤ getI W i ∨ wins1 (pl.getD i false) (mv.getD i []) (isIn W) = true) := by
  unfold roundW
  rw [getI_map_range hi]
  unfold nxt
  split
  · rename_i h
    exact ⟨fun _ => .inr h.2, fun _ => hr⟩
  · rename_i h
    constructor
    · exact .inl
    · rintro (h1 | h1)
      · exact h1
      · by_cases h2 : getI W i < 0
        · exact absurd ⟨h2, h1⟩ h
        · omega
theorem round_keep {pl : List Bool} {mv : List (List Int)} {r : Int} {W : List Int} {i : Nat} (hi : i < mv.length) (h : 0 ≤ getI W i) : getI (roundW pl mv r W) i = getI W i := by
  unfold roundW
  rw [getI_map_range hi, nxt, if_neg (by omega)]
theorem round_new {pl : List Bool} {mv : List (List Int)} {r : Int} {W : List Int} {i : Nat} (hi : i < mv.length) (h : getI W i < 0) (h2 : 0 ≤ getI (roundW pl mv r W) i) : getI (roundW pl mv r W) i = r := by
  unfold roundW at *
  rw [getI_map_range hi] at *
  unfold nxt at *
  split at h2
  · rename_i hc; rw [if_pos hc]
  · omega

theorem iter_keep {pl wn : List Bool} {mv : List (List Int)} {k i : Nat} (hi : i < mv.length) (h : 0 ≤ getI (iterW pl mv wn k) i) : ∀ j, getI (iterW pl mv wn (k + j)) i = getI (iterW pl mv wn k) i
  | 0 => rfl
  | j + 1 => by
    have ih := iter_keep hi h j
    rw [show k + (j + 1) = (k + j) + 1 by omega, iterW, round_keep hi (by rw [ih]; exact h), ih]

theorem iter_when {pl wn : List Bool} {mv : List (List Int)} {i : Nat} (hi : i < mv.length) (hwn : wn.length = mv.length) : ∀ (m : Nat) (v : Nat), getI (iterW pl mv wn m) i = v → v ≤ m ∧ getI (iterW pl mv wn v) i = v
  | 0, v, h => by
    have h0 := getI_rng (by omega) (iterW_rng (pl := pl) (mv := mv) (wn := wn) 0) i
    have : v = 0 := by omega
    subst this
    exact ⟨Nat.le_refl _, h⟩
  | m + 1, v, h => by
    by_cases hp : 0 ≤ getI (iterW pl mv wn m) i
    · have h1 := round_keep (pl := pl) (r := m + 1) hi hp
      rw [iterW, h1] at h
      obtain ⟨h2, h3⟩ := iter_when hi hwn m v h
      exact ⟨by omega, h3⟩
    · have h1 := round_new (pl := pl) (r := m + 1) (W := iterW pl mv wn m) hi (by omega) (by rw [iterW] at h; omega)
      have h2 := h
      rw [iterW, h1] at h2
      have : v = m + 1 := by omega
      subst this
      exact ⟨Nat.le_refl _, h⟩

theorem iter_grow {pl wn : List Bool} {mv : List (List Int)} (hwn : wn.length = mv.length) : ∀ k, (∀ j, j < k → iterW pl mv wn (j + 1) ≠ iterW pl mv wn j) → cntW (iterW pl mv wn 0) + k ≤ cntW (iterW pl mv wn k)
  | 0, _ => Nat.le_refl _
  | k + 1, h => by
    have ih := iter_grow hwn k fun j hj => h j (by omega)
    have := cnt_round (pl := pl) (mv := mv) (r := k + 1) (W := iterW pl mv wn k) (by omega) (iterW_len hwn k) (h k (by omega))
    have e : iterW pl mv wn (k + 1) = roundW pl mv (k + 1) (iterW pl mv wn k) := rfl
    rw [e]
    omega
theorem iter_all {pl wn : List Bool} {mv : List (List Int)} (hwn : wn.length = mv.length) {k : Nat} (hk : mv.length ≤ k) : iterW pl mv wn k = distW pl mv wn := by
  by_cases h : ∃ j, j ≤ mv.length ∧ iterW pl mv wn (j + 1) = iterW pl mv wn j
  · obtain ⟨j, hj, he⟩ := h
    have h1 := iterW_stable he (k - j)
    have h2 := iterW_stable he (mv.length - j)
    rw [show j + (k - j) = k by omega] at h1
    rw [show j + (mv.length - j) = mv.length by omega] at h2
    rw [h1, distW, h2]
  · exfalso
    have := iter_grow (pl := pl) hwn (mv.length + 1) fun j hj he => h ⟨j, by omega, he⟩
    have h2 := cnt_le (iterW pl mv wn (mv.length + 1))
    rw [iterW_len hwn] at h2
    omega

theorem isIn_iter {pl wn : List Bool} {mv : List (List Int)} {i : Nat} (hi : i < mv.length) (hwn : wn.length = mv.length) (k : Nat) :
    0 ≤ getI (iterW pl mv wn k) i ↔ (0 ≤ getI (distW pl mv wn) i ∧ getI (distW pl mv wn) i ≤ k) := by
  constructor
  · intro h
    have h1 := iter_keep hi h (mv.length)
    rw [iter_all hwn (by omega)] at h1
    have h2 := getI_rng (by omega) (iterW_rng (pl := pl) (mv := mv) (wn := wn) k) i
    omega
  · rintro ⟨h1, h2⟩
    obtain ⟨v, hv⟩ : ∃ v : Nat, getI (distW pl mv wn) i = v := ⟨(getI (distW pl mv wn) i).toNat, by omega⟩
    obtain ⟨h3, h4⟩ := iter_when hi hwn mv.length v hv
    have h5 := iter_keep (pl := pl) (wn := wn) hi (k := v) (by omega) (k - v)
    rw [show v + (k - v) = k by omega] at h5
    omega
theorem dist_zero {pl wn : List Bool} {mv : List (List Int)} {i : Nat} (hi : i < mv.length) (hwn : wn.length = mv.length) : getI (distW pl mv wn) i = 0 ↔ wn.getD i false = true := by
  have h1 := isIn_iter (pl := pl) hi hwn 0
  have h2 : getI (iterW pl mv wn 0) i = if wn.getD i false then 0 else -1 := by
    unfold iterW startW getI
    rw [List.getD_eq_getElem?_getD, Int.toNat_natCast, List.getElem?_map, List.getElem?_eq_getElem (by omega), List.getD_eq_getElem?_getD, List.getElem?_eq_getElem (by omega)]
    rfl
  rw [h2] at h1
  cases hw : wn.getD i false with
  | true => rw [hw] at h1; simp only [if_true] at h1; constructor; exact fun _ => rfl; intro _; have := h1.1 (by omega); omega
  | false =>
    rw [hw] at h1
    simp only [Bool.false_eq_true, if_false] at h1
    constructor
    · intro h; have := h1.2 (by omega); omega
    · intro h; cases h
theorem wins_mono {p : Bool} {l : List Int} {g g' : Int → Bool} (h : ∀ x ∈ l, g x = true → g' x = true) (hw : wins1 p l g = true) : wins1 p l g' = true := by
  unfold wins1 at *
  cases p with
  | true =>
    simp only [if_true, List.any_eq_true] at *
    obtain ⟨x, hx, hg⟩ := hw
    exact ⟨x, hx, h x hx hg⟩
  | false =>
    simp only [Bool.false_eq_true, if_false, Bool.and_eq_true, List.all_eq_true] at *
    exact ⟨hw.1, fun x hx => h x hx (hw.2 x hx)⟩

end Go.Proofs.Ytglmjdpmpgphkaa.Sk

/- Contracts of functions: the distances that laws ask for, lists with one more move, and nearer ones. -/
namespace Go.Proofs.Ytglmjdpmpgphkaa.Sk
open Go Go.E Go.E.Sm
set_option maxRecDepth 10000

theorem distW_rng' {pl wn : List Bool} {mv : List (List Int)} (k : Int) : -1 ≤ getI (distW pl mv wn) k ∧ getI (distW pl mv wn) k ≤ mv.length := getI_rng (by omega) (iterW_rng _) k

theorem k47 {pl wn : List Bool} {mv : List (List Int)} : E.Fn Try.prog 47 [mach pl mv wn] [.bool (!greatB pl mv wn && decide (chkM pl mv wn = 0))] := by
  refine fn_of_row okf47 ?_
  simp only [FRow.start, f47, c47r0, c47r1, mach, bools, go_sem, ↓reduceIte, reduceCtorEq, Nat.reduceAdd, Nat.reduceSub, Nat.reduceLT, Nat.reduceLeDiff]
  refine callK_of rfl (k16 (pl := pl) (mv := mv) (wn := wn)) (.inl rfl) ?_
  cases hg : greatB pl mv wn with
  | true => simp only [Bool.false_and, go_sem, ↓reduceIte, reduceCtorEq, Nat.reduceAdd, Nat.reduceSub, Nat.reduceLT, Nat.reduceLeDiff]
  | false =>
    simp only [go_sem, ↓reduceIte, reduceCtorEq, Nat.reduceAdd, Nat.reduceSub, Nat.reduceLT, Nat.reduceLeDiff]
    refine callK_of rfl (k21 (pl := pl) (mv := mv) (wn := wn)) (.inl rfl) ?_
    simp only [Bool.true_and, go_sem, ↓reduceIte, reduceCtorEq, Nat.reduceAdd, Nat.reduceSub, Nat.reduceLT, Nat.reduceLeDiff]

theorem hasL_mem' {l : List Int} {x : Int} (h : hasL l x = true) : x ∈ l := by
  unfold hasL at h
  rw [List.any_eq_true] at h
  obtain ⟨y, hy, he⟩ := h
  rw [decide_eq_true_eq] at he
  exact he ▸ hy
theorem hasL_of {l : List Int} {x : Int} (h : x ∈ l) : hasL l x = true := by
  unfold hasL
  rw [List.any_eq_true]
  exact ⟨x, h, by simp⟩
theorem Valid.moves {pl wn : List Bool} {mv : List (List Int)} (hv : Valid pl mv wn) (i : Nat) (l : List Int) (hl : rise 0 mv.length l = true) : Valid pl (mv.set i l) wn := by
  refine ⟨by rw [List.length_set]; exact hv.pos, by rw [List.length_set]; exact hv.few, by rw [List.length_set]; exact hv.pl, by rw [List.length_set]; exact hv.wn, fun m hm => ?_⟩
  rw [List.length_set]
  rcases List.mem_or_eq_of_mem_set hm with h | h
  · exact hv.ris m h
  · rw [h]; exact hl
theorem Valid.won {pl wn : List Bool} {mv : List (List Int)} (hv : Valid pl mv wn) (w : List Bool) (hw : w.length = wn.length) : Valid pl mv w := ⟨hv.pos, hv.few, hv.pl, by rw [hw]; exact hv.wn, hv.ris⟩
end Go.Proofs.Ytglmjdpmpgphkaa.Sk

/- Sets of positions: what is found at last is least. -/
namespace Go.Proofs.Ytglmjdpmpgphkaa.Sk
open Go Go.E
set_option linter.all false

def Dn (C C' : List Int) : Prop := ∀ t, 0 ≤ gD C t → 0 ≤ gD C' t ∧ gD C' t ≤ gD C t
theorem Dn.refl (C : List Int) : Dn C C := fun _ h => ⟨h, Int.le_refl _⟩
theorem Dn.trans {A B C : List Int} (h : Dn A B) (k : Dn B C) : Dn A C := fun t ht => ⟨(k t (h t ht).1).1, Int.le_trans (k t (h t ht).1).2 (h t ht).2⟩
theorem updC_dn {pl : List Bool} {mv : List (List Int)} {s i : Nat} {C : List Int} (hs : 0 ≤ gD C s) : Dn C (updC pl mv s C i) := by
  intro t ht
  unfold updC
  split
  · exact ⟨ht, Int.le_refl _⟩
  · rename_i hn
    have hm : 0 ≤ moreV pl mv s i := by
      refine Decidable.byContradiction fun h => hn (.inr (by omega))
    split
    · rename_i hc
      rw [gD_set]
      split
      · rename_i he
        rw [← he.1] at ht ⊢
        omega
      · exact ⟨ht, Int.le_refl _⟩
    · exact ⟨ht, Int.le_refl _⟩
theorem innC_dn {pl : List Bool} {mv : List (List Int)} {s : Nat} {C : List Int} (hs : 0 ≤ gD C s) : ∀ m, Dn C (innC pl mv s C m)
  | 0 => Dn.refl _
  | m + 1 => (innC_dn hs m).trans (updC_dn (by rw [innC_low (Nat.le_refl _)]; exact hs))
theorem stpC_dn {pl : List Bool} {mv : List (List Int)} {s : Nat} {C : List Int} : Dn C (stpC pl mv C s) := by
  unfold stpC
  split
  · exact Dn.refl _
  · exact innC_dn (by omega) _
theorem innC_relax {pl : List Bool} {mv : List (List Int)} {s i : Nat} {C : List Int} (hs : 0 ≤ gD C s) (hb : s.testBit i = false) (hm : 0 ≤ moreV pl mv s i) (hu : s ||| 2 ^ i < C.length) : ∀ m, i < m →
    0 ≤ gD (innC pl mv s C m) (s ||| 2 ^ i) ∧ gD (innC pl mv s C m) (s ||| 2 ^ i) ≤ gD C s + moreV pl mv s i
  | 0, h => by omega
  | m + 1, h => by
    have hlow := innC_low (pl := pl) (mv := mv) (s := s) (t := s) (C := C) (Nat.le_refl _) m
    have hlen := innC_len (pl := pl) (mv := mv) (s := s) (C := C) m
    rw [innC]
    by_cases e : i = m
    · subst e
      generalize innC pl mv s C i = D at *
      unfold updC
      rw [if_neg (by rw [hb]; rintro (h | h); cases h; omega)]
      split
      · rw [gD_set, if_pos ⟨rfl, by omega⟩, hlow]
        omega
      · rename_i hc
        rw [hlow] at hc
        omega
    · have ih := innC_relax hs hb hm hu m (by omega)
      have := updC_dn (pl := pl) (mv := mv) (s := s) (i := m) (C := innC pl mv s C m) (by rw [hlow]; exact hs) _ ih.1
      omega
theorem runC_relax {pl : List Bool} {mv : List (List Int)} {C0 : List Int} (hC : C0.length = 2 ^ mv.length) {s i : Nat} (hs : s < 2 ^ mv.length) (hi : i < mv.length) (hb : s.testBit i = false) (hm : 0 ≤ moreV pl mv s i) : ∀ k, s < k → 0 ≤ gD (runC pl mv C0 k) s →
    0 ≤ gD (runC pl mv C0 k) (s ||| 2 ^ i) ∧ gD (runC pl mv C0 k) (s ||| 2 ^ i) ≤ gD (runC pl mv C0 k) s + moreV pl mv s i
  | 0, h, _ => by omega
  | k + 1, h, h0 => by
    have hlow := runC_low (pl := pl) (mv := mv) (C := C0) (t := s) k (by omega)
    have hlen := runC_len (pl := pl) (mv := mv) (C := C0) k
    rw [hlow] at h0 ⊢
    by_cases e : s = k
    · subst e
      rw [runC, stpC, if_neg (by omega)]
      exact innC_relax h0 hb hm (by rw [hlen, hC]; exact Nat.or_lt_two_pow hs (Nat.pow_lt_pow_right (by decide) hi)) mv.length hi
    · have ih := runC_relax hC hs hi hb hm k (by omega) h0
      have := stpC_dn (pl := pl) (mv := mv) (s := k) (C := runC pl mv C0 k) _ ih.1
      rw [runC]
      omega
theorem best_eq {pl : List Bool} {mv : List (List Int)} {C : List Int} {x : Nat} : ∀ k, bestR pl mv C x k = if bestI pl mv C x k < 0 then -1 else gD (runC pl mv C k) (bestI pl mv C x k).toNat
  | 0 => by simp [bestR, bestI]
  | k + 1 => by
    have ih := best_eq (pl := pl) (mv := mv) (C := C) (x := x) k
    obtain ⟨h1, h2, h3⟩ := bestI_rng (pl := pl) (mv := mv) (C := C) (x := x) k
    have hl := fun t ht => runC_low (pl := pl) (mv := mv) (C := C) (t := t) k ht
    rw [bestR, bestI]
    by_cases hn : gD (runC pl mv C k) k < 0
    · rw [if_pos hn, if_pos hn, ih]
      by_cases hb : bestI pl mv C x k < 0
      · rw [if_pos hb, if_pos hb]
      · rw [if_neg hb, if_neg hb, hl _ (by omega)]
    · rw [if_neg hn, if_neg hn]
      have hc : (k.testBit x = true ∧ (bestR pl mv C x k < 0 ∨ gD (runC pl mv C k) k < bestR pl mv C x k)) ↔ (k.testBit x = true ∧ (bestI pl mv C x k < 0 ∨ gD (runC pl mv C k) k < gD (runC pl mv C k) (bestI pl mv C x k).toNat)) := by
        rw [ih]
        by_cases hb : bestI pl mv C x k < 0
        · rw [if_pos hb]; simp [hb]
        · rw [if_neg hb]
          have := (h3 (by omega)).1
          refine and_congr Iff.rfl ⟨fun h => h.elim (fun h => by omega) .inr, fun h => h.elim (fun h => by omega) .inr⟩
      by_cases hk : k.testBit x = true ∧ (bestI pl mv C x k < 0 ∨ gD (runC pl mv C k) k < gD (runC pl mv C k) (bestI pl mv C x k).toNat)
      · rw [if_pos (hc.2 hk), if_pos hk, if_neg (by omega), Int.toNat_natCast, hl _ (Nat.le_refl _)]
      · rw [if_neg (fun h => hk (hc.1 h)), if_neg hk, ih]
        by_cases hb : bestI pl mv C x k < 0
        · rw [if_pos hb, if_pos hb]
        · rw [if_neg hb, if_neg hb, hl _ (by omega)]
theorem best_le {pl : List Bool} {mv : List (List Int)} {C : List Int} {x : Nat} : ∀ k u, u < k → u.testBit x = true → 0 ≤ gD (runC pl mv C k) u → 0 ≤ bestI pl mv C x k ∧ gD (runC pl mv C k) (bestI pl mv C x k).toNat ≤ gD (runC pl mv C k) u
  | 0, u, h, _, _ => by omega
  | k + 1, u, h, hx, h0 => by
    obtain ⟨h1, h2, h3⟩ := bestI_rng (pl := pl) (mv := mv) (C := C) (x := x) k
    have hl := fun t ht => runC_low (pl := pl) (mv := mv) (C := C) (t := t) k ht
    rw [hl u (by omega)] at h0 ⊢
    rw [bestI]
    by_cases e : u = k
    · subst e
      rw [if_neg (by omega)]
      split
      · rw [Int.toNat_natCast, hl _ (Nat.le_refl _)]
        omega
      · rename_i hc
        have hc2 : ¬ (bestI pl mv C x u < 0 ∨ gD (runC pl mv C u) u < gD (runC pl mv C u) (bestI pl mv C x u).toNat) := fun h => hc ⟨hx, h⟩
        rw [hl _ (by omega)]
        omega
    · have ih := best_le (pl := pl) (mv := mv) (C := C) (x := x) k u (by omega) hx h0
      split
      · rw [hl _ (by omega)]; exact ih
      · split
        · rename_i hc
          rw [Int.toNat_natCast, hl _ (Nat.le_refl _)]
          refine ⟨by omega, ?_⟩
          rcases hc.2 with h | h
          · omega
          · omega
        · rw [hl _ (by omega)]; exact ih

def finC (pl : List Bool) (mv : List (List Int)) (wn : List Bool) : List Int := runC pl mv (startC wn mv.length) (2 ^ mv.length)
def finL (pl : List Bool) (mv : List (List Int)) (wn : List Bool) : List Int := runL pl mv (startC wn mv.length) (List.replicate (2 ^ mv.length) 0) (2 ^ mv.length)
def finB (pl : List Bool) (mv : List (List Int)) (wn : List Bool) (x : Nat) : Int := bestI pl mv (startC wn mv.length) x (2 ^ mv.length)

theorem few_eq {pl wn : List Bool} {mv : List (List Int)} {x : Nat} : fewV pl mv wn x = if finB pl mv wn x < 0 then -1 else gD (finC pl mv wn) (finB pl mv wn x).toNat := best_eq _
theorem fin_best {pl wn : List Bool} {mv : List (List Int)} {x u : Nat} (hu : u < 2 ^ mv.length) (hx : u.testBit x = true) (h0 : 0 ≤ gD (finC pl mv wn) u) : 0 ≤ finB pl mv wn x ∧ gD (finC pl mv wn) (finB pl mv wn x).toNat ≤ gD (finC pl mv wn) u := best_le _ u hu hx h0
theorem fin_relax {pl wn : List Bool} {mv : List (List Int)} {s i : Nat} (hs : s < 2 ^ mv.length) (hi : i < mv.length) (hb : s.testBit i = false) (hm : 0 ≤ moreV pl mv s i) (h0 : 0 ≤ gD (finC pl mv wn) s) :
    0 ≤ gD (finC pl mv wn) (s ||| 2 ^ i) ∧ gD (finC pl mv wn) (s ||| 2 ^ i) ≤ gD (finC pl mv wn) s + moreV pl mv s i := runC_relax startC_len hs hi hb hm _ hs h0
theorem fin_won {pl wn : List Bool} {mv : List (List Int)} : gD (finC pl mv wn) (wonN wn mv.length) = 0 := by
  have hw := wonN_lt (wn := wn) mv.length
  have h1 := runC_fin (pl := pl) (mv := mv) (C := startC wn mv.length) (t := wonN wn mv.length) (2 ^ mv.length - wonN wn mv.length)
  rw [show wonN wn mv.length + (2 ^ mv.length - wonN wn mv.length) = 2 ^ mv.length by omega, (runC_start _ (Nat.le_refl _)).1] at h1
  refine h1.trans ?_
  unfold startC
  rw [gD_set, if_pos ⟨rfl, by simpa using hw⟩]
theorem fin_came {pl wn : List Bool} {mv : List (List Int)} {u : Nat} (hu : u < 2 ^ mv.length) (h0 : 0 ≤ gD (finC pl mv wn) u) : Came pl mv (wonN wn mv.length) (finC pl mv wn) (finL pl mv wn) (2 ^ mv.length) u :=
  run_came (by simp) _ (Nat.le_refl _) u hu h0
theorem fin_ind {pl wn : List Bool} {mv : List (List Int)} {P : Nat → Prop} (h0 : P (wonN wn mv.length))
    (hs : ∀ p i, p < 2 ^ mv.length → p ||| 2 ^ i < 2 ^ mv.length → 0 ≤ gD (finC pl mv wn) p → i < mv.length → p.testBit i = false → 0 ≤ moreV pl mv p i → gD (finC pl mv wn) (p ||| 2 ^ i) = gD (finC pl mv wn) p + moreV pl mv p i → gD (finL pl mv wn) (p ||| 2 ^ i) = (i : Int) → p ||| 2 ^ i ≠ wonN wn mv.length → P p → P (p ||| 2 ^ i)) :
    ∀ u, u < 2 ^ mv.length → 0 ≤ gD (finC pl mv wn) u → P u := by
  intro u
  induction u using Nat.strongRecOn with
  | _ u ih =>
    intro hu hc
    by_cases e : u = wonN wn mv.length
    · rw [e]; exact h0
    · rcases fin_came hu hc with h | ⟨p, i, h1, h2, h3, h4, h5, h6, h7, h8⟩
      · exact absurd h e
      · have hlt := or_gt h4
        subst h5
        exact hs p i (by omega) hu h6 h2 h4 h7 h8 h3 e (ih p hlt (by omega) h6)
theorem wonN_bit {wn : List Bool} {j : Nat} : ∀ m, (wonN wn m).testBit j = (decide (j < m) && wn.getD j false)
  | 0 => by simp [wonN]
  | m + 1 => by
    have ih := wonN_bit (wn := wn) (j := j) m
    unfold wonN
    by_cases e : j = m
    · subst e
      rw [show decide (j < j + 1) = true from decide_eq_true (by omega)]
      have h2 : (wonN wn j).testBit j = false := by rw [ih]; simp
      cases hw : wn.getD j false with
      | true => rw [if_pos rfl, Nat.testBit_or, Nat.testBit_two_pow_self]; simp
      | false => rw [if_neg (by simp), h2]; simp
    · have h3 : decide (j < m + 1) = decide (j < m) := decide_eq_decide.2 (by omega)
      rw [h3, ← ih]
      split
      · rw [Nat.testBit_or, Nat.testBit_two_pow_of_ne (by omega), Bool.or_false]
      · rfl
theorem bit_one {p i j : Nat} : (p ||| 2 ^ i).testBit j = (p.testBit j || decide (i = j)) := by
  rw [Nat.testBit_or, Nat.testBit_two_pow]
theorem fin_has {pl wn : List Bool} {mv : List (List Int)} {u : Nat} (hu : u < 2 ^ mv.length) (h0 : 0 ≤ gD (finC pl mv wn) u) : ∀ j, j < mv.length → wn.getD j false = true → u.testBit j = true := by
  refine fin_ind (P := fun u => ∀ j, j < mv.length → wn.getD j false = true → u.testBit j = true) (fun j hj hw => ?_) (fun p i _ _ _ _ _ _ _ _ _ ih j hj hw => ?_) u hu h0
  · rw [wonN_bit, decide_eq_true hj, hw]; rfl
  · rw [bit_one, ih j hj hw]; rfl
end Go.Proofs.Ytglmjdpmpgphkaa.Sk

/- Distances: how one goes with those of its moves; that they prove as ranks, the keep as one, and what given ranks and keeps say of them. -/
namespace Go.Proofs.Ytglmjdpmpgphkaa.Sk
open Go Go.E
set_option linter.all false

theorem wins_congr {p : Bool} {l : List Int} {g g' : Int → Bool} (h : ∀ x ∈ l, g x = g' x) : wins1 p l g = wins1 p l g' := by
  rw [Bool.eq_iff_iff]
  exact ⟨wins_mono fun x hx hg => by rw [← h x hx]; exact hg, wins_mono fun x hx hg => by rw [h x hx]; exact hg⟩

theorem dist_step {pl wn : List Bool} {mv : List (List Int)} (hv : Valid pl mv wn) {i : Nat} (hi : i < mv.length) (r : Nat) :
    (0 ≤ getI (distW pl mv wn) i ∧ getI (distW pl mv wn) i ≤ r + 1) ↔ ((0 ≤ getI (distW pl mv wn) i ∧ getI (distW pl mv wn) i ≤ r) ∨ wins1 (pl.getD i false) (mv.getD i []) (lessB (distW pl mv wn) (r + 1)) = true) := by
  have h1 := isIn_iter (pl := pl) hi hv.wn (r + 1)
  have h2 := isIn_iter (pl := pl) hi hv.wn r
  have e : iterW pl mv wn (r + 1) = roundW pl mv (r + 1) (iterW pl mv wn r) := rfl
  rw [e, round_sign (by omega) hi, h2] at h1
  rw [show ((r + 1 : Nat) : Int) = (r : Int) + 1 by omega] at h1
  rw [← h1]
  refine or_congr Iff.rfl ?_
  rw [wins_congr (g' := lessB (distW pl mv wn) (r + 1)) fun x hx => ?_]
  have hx2 := (hv.at' hi).ins x hx
  have h3 := isIn_iter (pl := pl) (i := x.toNat) (by omega) hv.wn r
  rw [show ((x.toNat : Nat) : Int) = x by omega] at h3
  unfold isIn lessB
  rw [Bool.eq_iff_iff, Bool.and_eq_true, decide_eq_true_eq, decide_eq_true_eq, decide_eq_true_eq, h3]
  omega

theorem dist_pos {pl wn : List Bool} {mv : List (List Int)} (hv : Valid pl mv wn) {i : Nat} (hi : i < mv.length) (h : 0 < getI (distW pl mv wn) i) :
    wins1 (pl.getD i false) (mv.getD i []) (lessB (distW pl mv wn) (getI (distW pl mv wn) i)) = true := by
  obtain ⟨r, hr⟩ : ∃ r : Nat, getI (distW pl mv wn) i = r + 1 := ⟨(getI (distW pl mv wn) i - 1).toNat, by omega⟩
  rcases (dist_step hv hi r).1 (by omega) with h1 | h1
  · omega
  · rw [hr]; exact h1
theorem dist_neg {pl wn : List Bool} {mv : List (List Int)} (hv : Valid pl mv wn) {i : Nat} (hi : i < mv.length) (h : getI (distW pl mv wn) i < 0) :
    wins1 (pl.getD i false) (mv.getD i []) (isIn (distW pl mv wn)) = false := by
  rw [Bool.eq_false_iff]
  intro hw
  have := (dist_step hv hi mv.length).2 (.inr (wins_mono (fun x hx hg => ?_) hw))
  · omega
  · have := distW_rng' (pl := pl) (mv := mv) (wn := wn) x
    simp only [isIn, lessB, Bool.and_eq_true, decide_eq_true_eq] at *
    omega
theorem mem_outP {q : Int → Bool} {m : Nat} {x : Int} : x ∈ outP q m ↔ ((0 ≤ x ∧ x < m) ∧ q x = true) := by
  unfold outP
  rw [List.mem_filter, List.mem_map]
  refine and_congr ⟨?_, fun h => ⟨x.toNat, by simp; omega, by omega⟩⟩ Iff.rfl
  rintro ⟨j, hj, rfl⟩
  have : j < m := by simpa using hj
  omega
theorem has_outP {q : Int → Bool} {m : Nat} {x : Int} (h0 : 0 ≤ x) (h1 : x < m) : hasL (outP q m) x = q x := by
  rw [Bool.eq_iff_iff]
  exact ⟨fun h => (mem_outP.1 (hasL_mem' h)).2, fun h => hasL_of (mem_outP.2 ⟨⟨h0, h1⟩, h⟩)⟩
theorem has_keep {pl wn : List Bool} {mv : List (List Int)} {x : Int} (h0 : 0 ≤ x) (h1 : x < mv.length) : hasL (keepL pl mv wn) x = decide (getI (distW pl mv wn) x < 0) := has_outP h0 h1

end Go.Proofs.Ytglmjdpmpgphkaa.Sk

/- Contracts of functions: whether a keep, and ranks, prove, as the document has it. -/
namespace Go.Proofs.Ytglmjdpmpgphkaa.Sk
open Go Go.E Go.E.Sm
set_option maxRecDepth 10000

theorem count_any {p : Int → Bool} {l : List Int} : l.any p = true ↔ 0 < l.countP p := by
  rw [List.countP_pos_iff, List.any_eq_true]
theorem count_all {p : Int → Bool} {l : List Int} : l.all p = true ↔ l.countP p = l.length := by
  rw [List.countP_eq_length, List.all_eq_true]
theorem wins_count {b : Bool} {l : List Int} {p : Int → Bool} : wins1 b l p = true ↔ if b = true then 0 < l.countP p else 0 < l.length ∧ l.countP p = l.length := by
  unfold wins1
  cases b with
  | true => simp only [if_true]; exact count_any
  | false =>
    simp only [Bool.false_eq_true, if_false, Bool.and_eq_true, Bool.not_eq_true']
    rw [count_all]
    cases l <;> simp

end Go.Proofs.Ytglmjdpmpgphkaa.Sk

/- Sets of positions: what costs nothing is what the player wins. -/
namespace Go.Proofs.Ytglmjdpmpgphkaa.Sk
open Go Go.E
set_option linter.all false

theorem hasB_bit {a : Nat} {x : Int} (ha : a < 2 ^ 62) (hx : 0 ≤ x) : hasB (a : Int) x = a.testBit x.toNat := by
  obtain ⟨i, rfl⟩ := Int.eq_ofNat_of_zero_le hx
  exact hasB_nat ha
theorem cnt_count {s : Int} : ∀ (l : List Int), cnt s l = (l.countP (hasB s) : Nat)
  | [] => rfl
  | y :: l => by
    have := cnt_count (s := s) l
    simp only [cnt, List.map_cons, List.sum_cons, List.countP_cons] at *
    rw [this]
    unfold b2i
    split <;> simp <;> omega
theorem more_zero {pl : List Bool} {mv : List (List Int)} {s i : Nat} : moreV pl mv s i = 0 ↔ wins1 (pl.getD i false) (mv.getD i []) (hasB (s : Int)) = true := by
  rw [wins_count]
  unfold moreV costOf
  have h := cnt_count (s := (s : Int)) (mv.getD i [])
  have h2 := List.countP_le_length (p := hasB (s : Int)) (l := mv.getD i [])
  rw [h]
  generalize (mv.getD i []).countP (hasB (s : Int)) = c at *
  generalize (mv.getD i []).length = n at *
  cases pl.getD i false with
  | true =>
    simp only [if_true]
    split <;> omega
  | false =>
    simp only [Bool.false_eq_true, if_false]
    split <;> omega
theorem pow62 {n : Nat} (h : n ≤ 14) : 2 ^ n < 2 ^ 62 := Nat.pow_lt_pow_right (by decide) (by omega)

theorem free_won {pl wn : List Bool} {mv : List (List Int)} (hv : Valid pl mv wn) {u : Nat} (hu : u < 2 ^ mv.length) (h0 : gD (finC pl mv wn) u = 0) : ∀ j, j < mv.length → u.testBit j = true → 0 ≤ getI (distW pl mv wn) j := by
  have hp62 := pow62 hv.few
  refine fin_ind (P := fun u => gD (finC pl mv wn) u = 0 → ∀ j, j < mv.length → u.testBit j = true → 0 ≤ getI (distW pl mv wn) j) (fun _ j hj hb => ?_) (fun p i hp hpi hc hi hb hm he _ _ ih h0 j hj hbj => ?_) u hu (Int.le_of_eq h0.symm) h0
  · rw [wonN_bit, decide_eq_true hj, Bool.true_and] at hb
    have := (dist_zero (pl := pl) (mv := mv) hj hv.wn).2 hb
    omega
  · have ih := ih (by omega)
    by_cases e : i = j
    · subst e
      refine Decidable.byContradiction fun hn => ?_
      have h1 := dist_neg hv hi (by omega)
      have h2 := more_zero.1 (show moreV pl mv p i = 0 by omega)
      rw [wins_mono (fun x hx hg => ?_) h2] at h1
      · cases h1
      · have hx2 := (hv.at' hi).ins x hx
        rw [hasB_bit (by omega) hx2.1] at hg
        have := ih x.toNat (by omega) hg
        rw [show ((x.toNat : Nat) : Int) = x by omega] at this
        exact decide_eq_true this
    · rw [bit_one, decide_eq_false e, Bool.or_false] at hbj
      exact ih j hj hbj
theorem free_full {pl wn : List Bool} {mv : List (List Int)} : ∀ (d u : Nat), 2 ^ mv.length - u ≤ d → u < 2 ^ mv.length → gD (finC pl mv wn) u = 0 →
    ∃ v, v < 2 ^ mv.length ∧ gD (finC pl mv wn) v = 0 ∧ ∀ i, i < mv.length → v.testBit i = false → moreV pl mv v i ≠ 0
  | 0, u, hd, hu, _ => by omega
  | d + 1, u, hd, hu, h0 => by
    by_cases h : ∀ i, i < mv.length → u.testBit i = false → moreV pl mv u i ≠ 0
    · exact ⟨u, hu, h0, h⟩
    · simp only [Classical.not_forall] at h
      obtain ⟨i, hi, hb, hm⟩ := h
      have hm : moreV pl mv u i = 0 := Decidable.byContradiction hm
      have h1 := fin_relax hu hi hb (by omega) (show 0 ≤ gD (finC pl mv wn) u by omega)
      have hlt := or_gt hb
      exact free_full d (u ||| 2 ^ i) (by omega) (Nat.or_lt_two_pow hu (Nat.pow_lt_pow_right (by decide) hi)) (by omega)
theorem won_free {pl wn : List Bool} {mv : List (List Int)} (hv : Valid pl mv wn) : ∃ v, v < 2 ^ mv.length ∧ gD (finC pl mv wn) v = 0 ∧ ∀ i, i < mv.length → 0 ≤ getI (distW pl mv wn) i → v.testBit i = true := by
  have hp62 := pow62 hv.few
  obtain ⟨v, h1, h2, h3⟩ := free_full (pl := pl) (wn := wn) (mv := mv) _ _ (Nat.le_refl _) (wonN_lt mv.length) fin_won
  have hhas := fin_has h1 (show 0 ≤ gD (finC pl mv wn) v by omega)
  refine ⟨v, h1, h2, ?_⟩
  have key : ∀ (r i : Nat), i < mv.length → 0 ≤ getI (distW pl mv wn) i → getI (distW pl mv wn) i ≤ r → v.testBit i = true := by
    intro r
    induction r with
    | zero => intro i hi h0 hr; exact hhas i hi ((dist_zero (pl := pl) hi hv.wn).1 (by omega))
    | succ r ih =>
      intro i hi h0 hr
      by_cases hz : getI (distW pl mv wn) i = 0
      · exact hhas i hi ((dist_zero hi hv.wn).1 hz)
      · refine Decidable.byContradiction fun hn => ?_
        have hn : v.testBit i = false := by simpa using hn
        refine h3 i hi hn (more_zero.2 (wins_mono (fun x hx hg => ?_) (dist_pos hv hi (by omega))))
        have hx2 := (hv.at' hi).ins x hx
        simp only [lessB, Bool.and_eq_true, decide_eq_true_eq] at hg
        rw [hasB_bit (by omega) hx2.1]
        refine ih x.toNat (by omega) ?_ ?_
        · rw [show ((x.toNat : Nat) : Int) = x by omega]; exact hg.1
        · rw [show ((x.toNat : Nat) : Int) = x by omega]; omega
  intro i hi h0
  exact key (getI (distW pl mv wn) i).toNat i hi h0 (by omega)
theorem few_zero {pl wn : List Bool} {mv : List (List Int)} (hv : Valid pl mv wn) {x : Nat} (hx : x < mv.length) : fewV pl mv wn x = 0 ↔ 0 ≤ getI (distW pl mv wn) x := by
  rw [few_eq]
  have hr := bestI_rng (pl := pl) (mv := mv) (C := startC wn mv.length) (x := x) (2 ^ mv.length)
  have hr : -1 ≤ finB pl mv wn x ∧ finB pl mv wn x < (2 ^ mv.length : Nat) ∧ (0 ≤ finB pl mv wn x → 0 ≤ gD (finC pl mv wn) (finB pl mv wn x).toNat ∧ (finB pl mv wn x).toNat.testBit x = true) := hr
  constructor
  · intro h
    split at h
    · omega
    · exact free_won hv (u := (finB pl mv wn x).toNat) (by omega) h x hx (hr.2.2 (by omega)).2
  · intro h
    obtain ⟨v, h1, h2, h3⟩ := won_free hv
    have := fin_best h1 (h3 x hx h) (Int.le_of_eq h2.symm)
    have h4 := hr.2.2 this.1
    rw [if_neg (by omega)]
    omega
theorem few_neg {pl wn : List Bool} {mv : List (List Int)} {x : Nat} : fewV pl mv wn x < 0 ↔ finB pl mv wn x < 0 := by
  rw [few_eq]
  have hr := bestI_rng (pl := pl) (mv := mv) (C := startC wn mv.length) (x := x) (2 ^ mv.length)
  have hr : -1 ≤ finB pl mv wn x ∧ finB pl mv wn x < (2 ^ mv.length : Nat) ∧ (0 ≤ finB pl mv wn x → 0 ≤ gD (finC pl mv wn) (finB pl mv wn x).toNat ∧ (finB pl mv wn x).toNat.testBit x = true) := hr
  constructor
  · intro h
    split at h
    · assumption
    · have := (hr.2.2 (by omega)).1; omega
  · intro h
    rw [if_pos h]; decide
end Go.Proofs.Ytglmjdpmpgphkaa.Sk
