/- The lemmas that every reckoning takes, marked. -/
import Derived.Test.YtglmjdpmpgphkaaM10

set_option linter.all false

namespace Go.E.Sm
open Go
attribute [go_sem] List.replicate List.append_nil List.cons_append List.nil_append List.length_cons List.length_nil List.map_cons List.map_nil List.getElem?_cons_zero List.getElem?_cons_succ and_true true_and forall_const if_true if_false Int.toNat_natCast List.getElem?_map Option.map_some Option.bind_some Bool.not_true Bool.not_false List.take_nil List.length_map eq_self List.all_cons List.all_nil Bool.and_true Int.ofNat_lt Bool.and_self finK resK Int.natCast_nonneg implies_true List.take_zero Nat.zero_add List.drop_zero List.drop_succ_cons List.take_succ_cons List.set_cons_zero List.set_cons_succ decide_true decide_false Int.le_refl Nat.le_refl List.flatten_cons List.flatten_nil

theorem promo_one {d sz : Nat} {σ : AState} (h : fget σ.fr d = .full []) : promote [(d, none, sz)] σ = { fr := fset σ.fr d (.sl σ.hp.length 0 0 (sz + 1) false), hp := σ.hp ++ [.row []] } := by
  simp only [promote, promote1, h]
end Go.E.Sm

/- Contracts of functions: numbers between two, lists that rise, valid machines. -/
namespace Go.Proofs.Ytglmjdpmpgphkaa.Sk
open Go Go.E Go.E.Sm
set_option maxRecDepth 10000

theorem inR_i64 {n : Int} (h0 : -2 ^ 63 ≤ n) (h1 : n ≤ 2 ^ 63 - 1) : inR .i64 n := by
  by_cases h : 0 ≤ n
  · exact inR_small h h1
  · unfold inR IntKind.wrap
    have e : n % (2 ^ IntKind.i64.bits : Int) = n + 2 ^ 64 := by simp only [IntKind.bits]; omega
    simp only [e]
    have : (n + 2 ^ 64 ≥ (2 ^ (IntKind.i64.bits - 1) : Int)) := by simp only [IntKind.bits]; omega
    simp only [IntKind.bits] at this
    simp [IntKind.bits]
    intro hs
    have := hs rfl
    omega

theorem k84 {g : FuncId} {first caps : List SV} {xs : List Int} {p : Int → Bool} (hg : Ok1 g first caps) (hp : ∀ x ∈ xs, Asks g first caps (.int .i64 x) (p x)) : E.Fn Try.prog 84 [ints xs, .fn g first caps] [.bool (xs.any p)] := by
  refine fn_of_row okf84 ?_
  simp only [FRow.start, f84, c84r0, c84r1, go_sem, ↓reduceIte, reduceCtorEq, Nat.reduceAdd, Nat.reduceSub, Nat.reduceLT, Nat.reduceLeDiff]
  refine callK_of rfl (k92 hg hp) (.inl rfl) ?_
  simp only [go_sem, ↓reduceIte, reduceCtorEq, Nat.reduceAdd, Nat.reduceSub, Nat.reduceLT, Nat.reduceLeDiff]
  have := idx_ge p xs 0
  cases h : xs.any p <;> simp_all

theorem k85 {lo hi n : Int} : Asks 85 [] [.ptr [.int .i64 lo], .ptr [.int .i64 hi]] (.int .i64 n) (!(decide (lo ≤ n) && decide (n ≤ hi))) := by
  refine fn_of_row okf85 ?_
  simp only [FRow.start, f85, c85r0, c85r1, go_sem, ↓reduceIte, reduceCtorEq, Nat.reduceAdd, Nat.reduceSub, Nat.reduceLT, Nat.reduceLeDiff]
  refine ⟨fun h => ?_, fun h => ?_⟩
  · have : ¬ lo ≤ n := by omega
    simp [this]
  · have h1 : lo ≤ n := by omega
    by_cases h2 : n ≤ hi
    · have : ¬ hi < n := by omega
      simp [h1, h2, this]
    · have : hi < n := by omega
      simp [h1, h2, this]

def inAll (lo hi : Int) (l : List Int) : Bool := l.all fun n => decide (lo ≤ n) && decide (n ≤ hi)
theorem k60 {lo hi : Int} {l : List Int} : E.Fn Try.prog 60 [.int .i64 lo, .int .i64 hi, ints l] [.bool (inAll lo hi l)] := by
  refine fn_of_row okf60 ?_
  simp only [FRow.start, f60, c60r0, c60r1, go_sem, ↓reduceIte, reduceCtorEq, Nat.reduceAdd, Nat.reduceSub, Nat.reduceLT, Nat.reduceLeDiff]
  refine callK_of rfl (k84 ⟨tbl_fn 85 rfl, rfl⟩ fun x _ => k85) (.inl rfl) ?_
  simp only [go_sem, ↓reduceIte, reduceCtorEq, Nat.reduceAdd, Nat.reduceSub, Nat.reduceLT, Nat.reduceLeDiff]
  simp [inAll, List.all_eq_not_any_not]

def rise : Int → Int → List Int → Bool
  | _, _, [] => true
  | lo, below, x :: xs => decide (lo ≤ x) && decide (x < below) && rise (x + 1) below xs

theorem k63 {l : List Int} {below : Int} (h0 : 0 ≤ below) (h1 : below ≤ 2 ^ 62) : E.Fn Try.prog 63 [ints l, .int .i64 below] [.bool (rise 0 below l)] := by
  refine fn_of_row okf63 ?_
  simp only [FRow.start, f63, c63r0, c63r1, c63r2, ints, go_sem, ↓reduceIte, reduceCtorEq, Nat.reduceAdd, Nat.reduceSub, Nat.reduceLT, Nat.reduceLeDiff]
  intro hlen
  have hlen' : (l.length : Int) ≤ 2 ^ 63 - 1 := Int.le_trans (Int.ofNat_le.mpr hlen) maxLen_le
  refine loop_rule (fun n τ => ∃ (i : Nat) (lo : Int), n = l.length - i ∧ i ≤ l.length ∧ 0 ≤ lo ∧ lo ≤ 2 ^ 62 ∧ rise 0 below l = rise lo below (l.drop i) ∧
    τ = ⟨[.any, .s (.int .i64 below), .any, .any, .any, .s (.int .i64 lo), .any, .any, .s (.slice (l.map (.int .i64))), .s (.int .i64 l.length), .s (.int .i64 i), .any, .any, .any, .any, .any, .any, .any, .any, .any, .any, .any, .any, .any], []⟩) l.length rfl ?_ ?_
  · simp only [c63l9m, go_sem, ↓reduceIte, reduceCtorEq, Nat.reduceAdd, Nat.reduceSub, Nat.reduceLT, Nat.reduceLeDiff]
    exact ⟨0, 0, rfl, Nat.zero_le _, Int.le_refl _, by omega, rfl, rfl⟩
  · rintro I n τ ⟨i, lo, rfl, hi, hlo0, hlo1, hr, rfl⟩ hI
    simp only [c63l9, c63r3, c63r4, go_sem, ↓reduceIte, reduceCtorEq, Nat.reduceAdd, Nat.reduceSub, Nat.reduceLT, Nat.reduceLeDiff]
    refine ⟨fun hlt => ?_, fun hge => ?_⟩
    · have hx : l[i]? = some l[i] := List.getElem?_eq_getElem hlt
      have hdrop : l.drop i = l[i] :: l.drop (i + 1) := List.drop_eq_getElem_cons hlt
      rw [hdrop] at hr
      generalize l[i] = x at *
      simp only [c63r5, hx, go_sem, ↓reduceIte, reduceCtorEq, Nat.reduceAdd, Nat.reduceSub, Nat.reduceLT, Nat.reduceLeDiff]
      refine ⟨inR_i64 (by omega) (by omega), by decide, by decide, rfl, by simp [SV.cells], callK_of rfl (k60 (l := [x])) (.inl rfl) ?_⟩
      simp only [inAll, go_sem, ↓reduceIte, reduceCtorEq, Nat.reduceAdd, Nat.reduceSub, Nat.reduceLT, Nat.reduceLeDiff]
      simp only [rise] at hr
      by_cases hin : lo ≤ x ∧ x < below
      · have e1 : (decide (lo ≤ x) && decide (x ≤ below - 1)) = true := by simp; omega
        have e2 : (decide (lo ≤ x) && decide (x < below)) = true := by simp; omega
        rw [e2, Bool.true_and] at hr
        simp only [e1, c63r7, c63r8, c63l9m, go_sem, ↓reduceIte, reduceCtorEq, Nat.reduceAdd, Nat.reduceSub, Nat.reduceLT, Nat.reduceLeDiff]
        exact ⟨inR_i64 (by omega) (by omega), inR_i64 (by omega) (by omega), hI (l.length - (i + 1)) _ (by omega) ⟨i + 1, x + 1, rfl, by omega, by omega, by omega, hr, by simp⟩⟩
      · have e1 : (decide (lo ≤ x) && decide (x ≤ below - 1)) = false := by simp; omega
        have e2 : (decide (lo ≤ x) && decide (x < below)) = false := by simp; omega
        rw [e2, Bool.false_and] at hr
        simp only [e1, c63r6, hr, go_sem, ↓reduceIte, reduceCtorEq, Nat.reduceAdd, Nat.reduceSub, Nat.reduceLT, Nat.reduceLeDiff]
    · have hie : i = l.length := by omega
      subst hie
      rw [List.drop_length, rise] at hr
      simp only [c63r10, hr, go_sem, ↓reduceIte, reduceCtorEq, Nat.reduceAdd, Nat.reduceSub, Nat.reduceLT, Nat.reduceLeDiff]

theorem k62 {l : List Int} {below : Int} (h0 : 0 ≤ below) (h1 : below ≤ 2 ^ 62) : E.Fn Try.prog 62 [ints l, .ptr [.int .i64 below]] [.bool (!rise 0 below l)] := by
  refine fn_of_row okf62 ?_
  simp only [FRow.start, f62, c62r0, c62r1, go_sem, ↓reduceIte, reduceCtorEq, Nat.reduceAdd, Nat.reduceSub, Nat.reduceLT, Nat.reduceLeDiff]
  refine callK_of rfl (k63 h0 h1) (.inl rfl) ?_
  simp only [go_sem, ↓reduceIte, reduceCtorEq, Nat.reduceAdd, Nat.reduceSub, Nat.reduceLT, Nat.reduceLeDiff]

theorem k86 {α : Type} {e : α → SV} {g : FuncId} {first caps : List SV} {xs : List α} {p : α → Bool} (he : ∀ x, (e x).isAgg = false) (hc : ∀ x, (e x).cells = [e x]) (hg : Ok1 g first caps) (hp : ∀ x ∈ xs, Asks g first caps (e x) (p x)) : E.Fn Try.prog 86 [.slice (xs.map e), .fn g first caps] [.int .i64 (idx p xs 0)] := by
  refine fn_of_row okf86 ?_
  simp only [FRow.start, f86, c86r0, c86r1, go_sem, ↓reduceIte, reduceCtorEq, Nat.reduceAdd, Nat.reduceSub, Nat.reduceLT, Nat.reduceLeDiff]
  intro hlen
  have hlen' : (xs.length : Int) ≤ 2 ^ 63 - 1 := Int.le_trans (Int.ofNat_le.mpr hlen) maxLen_le
  refine loop_rule (fun n τ => ∃ i : Nat, n = xs.length - i ∧ i ≤ xs.length ∧ idx p xs 0 = idx p (xs.drop i) i ∧
    τ = ⟨[.s (.slice (xs.map e)), .s (.fn g first caps), .any, .any, .any, .any, .any, .s (.int .i64 xs.length), .s (.int .i64 i), .any, .any, .any, .any, .any, .any, .any, .any, .any, .any], []⟩) xs.length rfl ?_ ?_
  · simp only [c86l7m, go_sem, ↓reduceIte, reduceCtorEq, Nat.reduceAdd, Nat.reduceSub, Nat.reduceLT, Nat.reduceLeDiff]
    exact ⟨0, rfl, Nat.zero_le _, rfl, rfl⟩
  · rintro I n τ ⟨i, rfl, hi, hidx, rfl⟩ hI
    simp only [c86l7, c86r2, c86r3, go_sem, ↓reduceIte, reduceCtorEq, Nat.reduceAdd, Nat.reduceSub, Nat.reduceLT, Nat.reduceLeDiff]
    refine ⟨fun hlt => ?_, fun hge => ?_⟩
    · have hx : xs[i]? = some xs[i] := List.getElem?_eq_getElem hlt
      have hdrop : xs.drop i = xs[i] :: xs.drop (i + 1) := List.drop_eq_getElem_cons hlt
      simp only [c86r4, hx, he, hc, go_sem, ↓reduceIte, reduceCtorEq, Nat.reduceAdd, Nat.reduceSub, Nat.reduceLT, Nat.reduceLeDiff]
      refine ⟨hg.1, hg.2, callK_of (by simp only [go_sem, ↓reduceIte, reduceCtorEq, Nat.reduceAdd, Nat.reduceSub, Nat.reduceLT, Nat.reduceLeDiff]) (hp _ (List.getElem_mem hlt)) (.inl rfl) ?_⟩
      simp only [go_sem, ↓reduceIte, reduceCtorEq, Nat.reduceAdd, Nat.reduceSub, Nat.reduceLT, Nat.reduceLeDiff]
      rw [hdrop, idx] at hidx
      cases hpx : p xs[i] with
      | true =>
        simp only [hpx, if_true] at hidx
        simp only [c86r5, hpx, hidx, go_sem, ↓reduceIte, reduceCtorEq, Nat.reduceAdd, Nat.reduceSub, Nat.reduceLT, Nat.reduceLeDiff]
      | false =>
        simp only [hpx, Bool.false_eq_true, if_false] at hidx
        simp only [c86r6, hpx, c86l7m, go_sem, ↓reduceIte, reduceCtorEq, Nat.reduceAdd, Nat.reduceSub, Nat.reduceLT, Nat.reduceLeDiff]
        refine ⟨inR_small (n := ((i : Int) + 1)) (by omega) (by omega), hI (xs.length - (i + 1)) _ (by omega) ⟨i + 1, rfl, by omega, by rw [hidx]; simp, by simp⟩⟩
    · have hie : i = xs.length := by omega
      subst hie
      simp only [List.drop_length, idx] at hidx
      simp only [c86r8, hidx, go_sem, ↓reduceIte, reduceCtorEq, Nat.reduceAdd, Nat.reduceSub, Nat.reduceLT, Nat.reduceLeDiff]

theorem k61 {α : Type} {e : α → SV} {g : FuncId} {first caps : List SV} {xs : List α} {p : α → Bool} (he : ∀ x, (e x).isAgg = false) (hc : ∀ x, (e x).cells = [e x]) (hg : Ok1 g first caps) (hp : ∀ x ∈ xs, Asks g first caps (e x) (p x)) : E.Fn Try.prog 61 [.slice (xs.map e), .fn g first caps] [.bool (xs.any p)] := by
  refine fn_of_row okf61 ?_
  simp only [FRow.start, f61, c61r0, c61r1, go_sem, ↓reduceIte, reduceCtorEq, Nat.reduceAdd, Nat.reduceSub, Nat.reduceLT, Nat.reduceLeDiff]
  refine callK_of rfl (k86 he hc hg hp) (.inl rfl) ?_
  simp only [go_sem, ↓reduceIte, reduceCtorEq, Nat.reduceAdd, Nat.reduceSub, Nat.reduceLT, Nat.reduceLeDiff]
  have := idx_ge p xs 0
  cases h : xs.any p <;> simp_all

def chkM (pl : List Bool) (mv : List (List Int)) (wn : List Bool) : Int :=
  if mv.length < 1 ∨ 14 < mv.length then 6 else if pl.length ≠ mv.length ∨ wn.length ≠ mv.length then 15 else if mv.all (rise 0 mv.length) = true then 0 else 2

theorem k20 {pl wn : List Bool} {mv : List (List Int)} : E.Fn Try.prog 20 [mach pl mv wn] [.int .i64 (chkM pl mv wn)] := by
  refine fn_of_row okf20 ?_
  simp only [FRow.start, f20, c20r0, c20r1, mach, bools, splice, go_sem, ↓reduceIte, reduceCtorEq, Nat.reduceAdd, Nat.reduceSub, Nat.reduceLT, Nat.reduceLeDiff]
  intro hlen
  have hlen' : (mv.length : Int) ≤ 2 ^ 63 - 1 := Int.le_trans (Int.ofNat_le.mpr hlen) maxLen_le
  simp only [c20r2, go_sem, ↓reduceIte, reduceCtorEq, Nat.reduceAdd, Nat.reduceSub, Nat.reduceLT, Nat.reduceLeDiff]
  refine ⟨by decide, by decide, rfl, by simp [SV.cells], callK_of rfl (k60 (l := [(mv.length : Int)])) (.inl rfl) ?_⟩
  unfold chkM
  by_cases h1 : mv.length < 1 ∨ 14 < mv.length
  · have e1 : inAll 1 14 [(mv.length : Int)] = false := by simp [inAll]; omega
    simp only [e1, c20r3, h1, go_sem, ↓reduceIte, reduceCtorEq, Nat.reduceAdd, Nat.reduceSub, Nat.reduceLT, Nat.reduceLeDiff]
  · have e1 : inAll 1 14 [(mv.length : Int)] = true := by simp [inAll]; omega
    simp only [e1, c20r4, h1, Int.natCast_inj, go_sem, ↓reduceIte, reduceCtorEq, Nat.reduceAdd, Nat.reduceSub, Nat.reduceLT, Nat.reduceLeDiff]
    refine ⟨fun hp _ => ⟨fun hw => ?_, fun hw => ?_⟩, fun hp _ => ?_⟩
    · simp only [c20r6, go_sem, ↓reduceIte, reduceCtorEq, Nat.reduceAdd, Nat.reduceSub, Nat.reduceLT, Nat.reduceLeDiff]
      refine callK_of rfl (k61 (e := ints) (p := fun l => !rise 0 mv.length l) (fun _ => rfl) (fun _ => rfl) ⟨tbl_fn 62 rfl, rfl⟩ fun l _ => k62 (by omega) (by omega)) (.inl rfl) ?_
      simp only [go_sem, ↓reduceIte, reduceCtorEq, Nat.reduceAdd, Nat.reduceSub, Nat.reduceLT, Nat.reduceLeDiff]
      have h2 : ¬ (pl.length ≠ mv.length ∨ wn.length ≠ mv.length) := by omega
      cases ha : mv.all (rise 0 mv.length) with
      | true =>
        have e2 : (mv.any fun l => !rise 0 mv.length l) = false := by rw [List.all_eq_not_any_not] at ha; simpa using ha
        simp only [e2, c20r8, h2, go_sem, ↓reduceIte, reduceCtorEq, Nat.reduceAdd, Nat.reduceSub, Nat.reduceLT, Nat.reduceLeDiff]
      | false =>
        have e2 : (mv.any fun l => !rise 0 mv.length l) = true := by rw [List.all_eq_not_any_not] at ha; simpa using ha
        simp only [e2, c20r7, h2, Bool.false_eq_true, go_sem, ↓reduceIte, reduceCtorEq, Nat.reduceAdd, Nat.reduceSub, Nat.reduceLT, Nat.reduceLeDiff]
    · simp only [c20r5, hw, ne_eq, not_false_eq_true, or_true, go_sem, ↓reduceIte, reduceCtorEq, Nat.reduceAdd, Nat.reduceSub, Nat.reduceLT, Nat.reduceLeDiff]
    · simp only [c20r5, hp, ne_eq, not_false_eq_true, true_or, go_sem, ↓reduceIte, reduceCtorEq, Nat.reduceAdd, Nat.reduceSub, Nat.reduceLT, Nat.reduceLeDiff]

theorem k64 {l : List Int} {below : Int} : E.Fn Try.prog 64 [ints l, .int .i64 below] [.bool (rise 0 below l)] := by
  refine fn_of_row okf64 ?_
  simp only [FRow.start, f64, c64r0, c64r1, ints, go_sem, ↓reduceIte, reduceCtorEq, Nat.reduceAdd, Nat.reduceSub, Nat.reduceLT, Nat.reduceLeDiff]
  refine loop_rule (fun n τ => ∃ (i : Nat) (lo : Int), n = l.length - i ∧ i ≤ l.length ∧ (i = 0 → lo = 0) ∧ (∀ j, i = j + 1 → ∃ y, l[j]? = some y ∧ lo = y + 1 ∧ 0 ≤ y) ∧ rise 0 below l = rise lo below (l.drop i) ∧
    τ = ⟨[.s (.slice (l.map (.int .i64))), .s (.int .i64 below), .any, .any, .any, .s (.int .i64 i), .any, .any, .any, .any, .any, .any, .any, .any, .any, .any, .any, .any, .any, .any, .any, .any, .any, .any, .any, .any, .any, .any, .any, .any, .any, .any, .any, .any, .any, .any, .any, .any, .any, .any, .any], []⟩) l.length rfl ?_ ?_
  · simp only [c64l6m, go_sem, ↓reduceIte, reduceCtorEq, Nat.reduceAdd, Nat.reduceSub, Nat.reduceLT, Nat.reduceLeDiff]
    exact ⟨0, 0, rfl, Nat.zero_le _, fun _ => rfl, fun j h => by omega, rfl, rfl⟩
  · rintro I n τ ⟨i, lo, rfl, hi, hz, hs, hr, rfl⟩ hI
    simp only [c64l6, c64r2, go_sem, ↓reduceIte, reduceCtorEq, Nat.reduceAdd, Nat.reduceSub, Nat.reduceLT, Nat.reduceLeDiff]
    intro hlen
    have hlen' : (l.length : Int) ≤ 2 ^ 63 - 1 := Int.le_trans (Int.ofNat_le.mpr hlen) maxLen_le
    refine ⟨fun hlt => ?_, fun hge => ?_⟩
    · have hx : l[i]? = some l[i] := List.getElem?_eq_getElem hlt
      have hdrop : l.drop i = l[i] :: l.drop (i + 1) := List.drop_eq_getElem_cons hlt
      rw [hdrop] at hr
      generalize l[i] = x at *
      simp only [rise] at hr
      simp only [c64r3, hx, hlt, go_sem, ↓reduceIte, reduceCtorEq, Nat.reduceAdd, Nat.reduceSub, Nat.reduceLT, Nat.reduceLeDiff]
      have bad : ¬ (lo ≤ x ∧ x < below) → rise 0 below l = false := fun h => by
        rw [hr]
        have : (decide (lo ≤ x) && decide (x < below)) = false := by simp; omega
        rw [this, Bool.false_and]
      have good : 0 ≤ x → lo ≤ x → x < below → I ⟨[.s (.slice (l.map (.int .i64))), .s (.int .i64 below), .any, .any, .any, .s (.int .i64 (i + 1)), .any, .any, .any, .any, .any, .any, .any, .any, .any, .any, .any, .any, .any, .any, .any, .any, .any, .any, .any, .any, .any, .any, .any, .any, .any, .any, .any, .any, .any, .any, .any, .any, .any, .any, .any], []⟩ := fun h0 h1 h2 => by
        refine hI (l.length - (i + 1)) _ (by omega) ⟨i + 1, x + 1, rfl, by omega, fun h => by omega, fun j h => ⟨x, by rw [show j = i by omega]; exact hx, rfl, h0⟩, ?_, by simp⟩
        rw [hr]
        have : (decide (lo ≤ x) && decide (x < below)) = true := by simp; omega
        rw [this, Bool.true_and]
      refine ⟨fun h1 => ?_, fun h1 => ⟨fun h2 => ?_, fun h2 => ⟨fun h3 => ?_, fun h3 => ?_⟩⟩⟩
      · have hlo : 0 ≤ lo := by
          cases i with
          | zero => rw [hz rfl]; omega
          | succ j => obtain ⟨y, _, h4, h5⟩ := hs j rfl; omega
        simp only [c64r4, bad (by omega), go_sem, ↓reduceIte, reduceCtorEq, Nat.reduceAdd, Nat.reduceSub, Nat.reduceLT, Nat.reduceLeDiff]
      · simp only [c64r4, bad (by omega), go_sem, ↓reduceIte, reduceCtorEq, Nat.reduceAdd, Nat.reduceSub, Nat.reduceLT, Nat.reduceLeDiff]
      · obtain ⟨j, rfl⟩ : ∃ j, i = j + 1 := ⟨i - 1, by omega⟩
        obtain ⟨y, h4, h5, h6⟩ := hs j rfl
        have hj : (((j + 1 : Nat) : Int) - 1).toNat = j := by omega
        refine ⟨inR_i64 (by omega) (by omega), by omega, ?_⟩
        rw [hj, h4]
        simp only [go_sem, ↓reduceIte, reduceCtorEq, Nat.reduceAdd, Nat.reduceSub, Nat.reduceLT, Nat.reduceLeDiff]
        refine ⟨fun h7 => ?_, fun h7 => ?_⟩
        · simp only [c64r4, bad (by omega), go_sem, ↓reduceIte, reduceCtorEq, Nat.reduceAdd, Nat.reduceSub, Nat.reduceLT, Nat.reduceLeDiff]
        · simp only [c64r5, c64l6m, go_sem, ↓reduceIte, reduceCtorEq, Nat.reduceAdd, Nat.reduceSub, Nat.reduceLT, Nat.reduceLeDiff]
          exact ⟨inR_i64 (by omega) (by omega), good (by omega) (by omega) (by omega)⟩
      · have hi0 : i = 0 := by omega
        simp only [c64r5, c64l6m, go_sem, ↓reduceIte, reduceCtorEq, Nat.reduceAdd, Nat.reduceSub, Nat.reduceLT, Nat.reduceLeDiff]
        have := hz hi0
        exact ⟨inR_i64 (by omega) (by omega), good (by omega) (by omega) (by omega)⟩
    · have hie : i = l.length := by omega
      subst hie
      rw [List.drop_length, rise] at hr
      simp only [c64r7, hr, go_sem, ↓reduceIte, reduceCtorEq, Nat.reduceAdd, Nat.reduceSub, Nat.reduceLT, Nat.reduceLeDiff]

theorem k21 {pl wn : List Bool} {mv : List (List Int)} : E.Fn Try.prog 21 [mach pl mv wn] [.int .i64 (chkM pl mv wn)] := by
  refine fn_of_row okf21 ?_
  simp only [FRow.start, f21, c21r0, c21r1, mach, bools, splice, go_sem, ↓reduceIte, reduceCtorEq, Nat.reduceAdd, Nat.reduceSub, Nat.reduceLT, Nat.reduceLeDiff]
  intro hlen
  have hlen' : (mv.length : Int) ≤ 2 ^ 63 - 1 := Int.le_trans (Int.ofNat_le.mpr hlen) maxLen_le
  simp only [c21r2, go_sem, ↓reduceIte, reduceCtorEq, Nat.reduceAdd, Nat.reduceSub, Nat.reduceLT, Nat.reduceLeDiff]
  unfold chkM
  refine ⟨fun h1 => ?_, fun h1 => ⟨fun h2 => ?_, fun h2 => ?_⟩⟩
  · have h3 : mv.length < 1 ∨ 14 < mv.length := by omega
    simp only [c21r3, h3, go_sem, ↓reduceIte, reduceCtorEq, Nat.reduceAdd, Nat.reduceSub, Nat.reduceLT, Nat.reduceLeDiff]
  · have h3 : mv.length < 1 ∨ 14 < mv.length := by omega
    simp only [c21r3, h3, go_sem, ↓reduceIte, reduceCtorEq, Nat.reduceAdd, Nat.reduceSub, Nat.reduceLT, Nat.reduceLeDiff]
  · have h3 : ¬ (mv.length < 1 ∨ 14 < mv.length) := by omega
    simp only [c21r4, h3, Int.natCast_inj, go_sem, ↓reduceIte, reduceCtorEq, Nat.reduceAdd, Nat.reduceSub, Nat.reduceLT, Nat.reduceLeDiff]
    refine ⟨fun hp _ => ⟨fun hw => ?_, fun hw => ?_⟩, fun hp _ => ?_⟩
    · simp only [c21r6, go_sem, ↓reduceIte, reduceCtorEq, Nat.reduceAdd, Nat.reduceSub, Nat.reduceLT, Nat.reduceLeDiff]
      have h4 : ¬ (pl.length ≠ mv.length ∨ wn.length ≠ mv.length) := by omega
      rw [if_neg h4]
      refine loop_rule (fun n τ => ∃ (i : Nat), n = mv.length - i ∧ i ≤ mv.length ∧ mv.all (rise 0 mv.length) = (mv.drop i).all (rise 0 mv.length) ∧
        τ = ⟨[.any, .s (.ptr [.slice (pl.map .bool), .slice (mv.map ints), .slice (wn.map .bool)]), .any, .s (.int .i64 mv.length), .s (.int .i64 i), .any, .any, .any, .any, .any, .any, .any, .any, .any, .any, .any, .any, .any, .any, .any, .any, .any, .any, .any, .any, .any, .any, .any, .any, .any, .any, .any, .any, .any, .any, .any, .any, .any, .any], []⟩) mv.length rfl ?_ ?_
      · simp only [c21l11m, go_sem, ↓reduceIte, reduceCtorEq, Nat.reduceAdd, Nat.reduceSub, Nat.reduceLT, Nat.reduceLeDiff]
        exact ⟨0, rfl, Nat.zero_le _, rfl, rfl⟩
      · rintro I n τ ⟨i, rfl, hi, hr, rfl⟩ hI
        simp only [c21l11, c21r7, go_sem, ↓reduceIte, reduceCtorEq, Nat.reduceAdd, Nat.reduceSub, Nat.reduceLT, Nat.reduceLeDiff]
        refine ⟨fun hlt => ?_, fun hge => ?_⟩
        · have hx : mv[i]? = some mv[i] := List.getElem?_eq_getElem hlt
          have hdrop : mv.drop i = mv[i] :: mv.drop (i + 1) := List.drop_eq_getElem_cons hlt
          rw [hdrop, List.all_cons] at hr
          generalize mv[i] = l at *
          simp only [c21r8, hx, hlt, ints, go_sem, ↓reduceIte, reduceCtorEq, Nat.reduceAdd, Nat.reduceSub, Nat.reduceLT, Nat.reduceLeDiff]
          refine callK_of rfl k64 (.inl rfl) ?_
          cases hl : rise 0 mv.length l with
          | true =>
            rw [hl, Bool.true_and] at hr
            simp only [c21r10, c21l11m, go_sem, ↓reduceIte, reduceCtorEq, Nat.reduceAdd, Nat.reduceSub, Nat.reduceLT, Nat.reduceLeDiff]
            exact ⟨inR_i64 (by omega) (by omega), hI (mv.length - (i + 1)) _ (by omega) ⟨i + 1, rfl, by omega, hr, by simp⟩⟩
          | false =>
            rw [hl, Bool.false_and] at hr
            simp only [c21r9, hr, Bool.false_eq_true, go_sem, ↓reduceIte, reduceCtorEq, Nat.reduceAdd, Nat.reduceSub, Nat.reduceLT, Nat.reduceLeDiff]
        · have hie : i = mv.length := by omega
          subst hie
          rw [List.drop_length, List.all_nil] at hr
          simp only [c21r12, hr, go_sem, ↓reduceIte, reduceCtorEq, Nat.reduceAdd, Nat.reduceSub, Nat.reduceLT, Nat.reduceLeDiff]
    · simp only [c21r5, hw, ne_eq, not_false_eq_true, or_true, go_sem, ↓reduceIte, reduceCtorEq, Nat.reduceAdd, Nat.reduceSub, Nat.reduceLT, Nat.reduceLeDiff]
    · simp only [c21r5, hp, ne_eq, not_false_eq_true, true_or, go_sem, ↓reduceIte, reduceCtorEq, Nat.reduceAdd, Nat.reduceSub, Nat.reduceLT, Nat.reduceLeDiff]

def greatB (pl : List Bool) (mv : List (List Int)) (wn : List Bool) : Bool :=
  decide (20 < mv.length) || decide (20 < pl.length) || decide (20 < wn.length) || mv.any fun l => decide (20 < l.length)

theorem k16 {pl wn : List Bool} {mv : List (List Int)} : E.Fn Try.prog 16 [mach pl mv wn] [.bool (greatB pl mv wn)] := by
  refine fn_of_row okf16 ?_
  simp only [FRow.start, f16, c16r0, c16r1, mach, bools, splice, go_sem, ↓reduceIte, reduceCtorEq, Nat.reduceAdd, Nat.reduceSub, Nat.reduceLT, Nat.reduceLeDiff]
  refine ⟨fun h1 _ => ?_, fun h1 => ⟨fun h2 _ => ?_, fun h2 hl => ⟨fun h3 => ?_, fun h3 => ?_⟩⟩⟩
  · have : greatB pl mv wn = true := by simp [greatB]; omega
    simp only [c16r2, this, go_sem, ↓reduceIte, reduceCtorEq, Nat.reduceAdd, Nat.reduceSub, Nat.reduceLT, Nat.reduceLeDiff]
  · have : greatB pl mv wn = true := by simp [greatB]; omega
    simp only [c16r2, this, go_sem, ↓reduceIte, reduceCtorEq, Nat.reduceAdd, Nat.reduceSub, Nat.reduceLT, Nat.reduceLeDiff]
  · have : greatB pl mv wn = true := by simp [greatB]; omega
    simp only [c16r2, this, go_sem, ↓reduceIte, reduceCtorEq, Nat.reduceAdd, Nat.reduceSub, Nat.reduceLT, Nat.reduceLeDiff]
  · have hlen' : (mv.length : Int) ≤ 2 ^ 63 - 1 := Int.le_trans (Int.ofNat_le.mpr hl.1.1) maxLen_le
    have hg : greatB pl mv wn = mv.any fun l => decide (20 < l.length) := by
      have e1 : decide (20 < mv.length) = false := by simp; omega
      have e2 : decide (20 < pl.length) = false := by simp; omega
      have e3 : decide (20 < wn.length) = false := by simp; omega
      simp only [greatB, e1, e2, e3, Bool.false_or]
    rw [hg]
    simp only [c16r3, c16r4, go_sem, ↓reduceIte, reduceCtorEq, Nat.reduceAdd, Nat.reduceSub, Nat.reduceLT, Nat.reduceLeDiff]
    refine loop_rule (fun n τ => ∃ (i : Nat) (a : Int), n = mv.length - i ∧ i ≤ mv.length ∧ (mv.any fun l => decide (20 < l.length)) = (decide (20 < a) || (mv.drop i).any fun l => decide (20 < l.length)) ∧
      τ = ⟨[.any, .s (.ptr [.slice (pl.map .bool), .slice (mv.map ints), .slice (wn.map .bool)]), .any, .s (.int .i64 a), .s (.int .i64 i), .any, .any, .any, .any, .any, .any, .any, .any, .any, .any, .any, .any, .any, .any, .any, .any, .any, .any, .any, .any, .any, .any, .any, .any, .any, .any, .any, .any, .any, .any, .any, .any, .any], []⟩) mv.length rfl ?_ ?_
    · simp only [c16l8m, go_sem, ↓reduceIte, reduceCtorEq, Nat.reduceAdd, Nat.reduceSub, Nat.reduceLT, Nat.reduceLeDiff]
      exact ⟨0, 0, rfl, Nat.zero_le _, by simp, rfl⟩
    · rintro I n τ ⟨i, a, rfl, hi, hr, rfl⟩ hI
      simp only [c16l8, c16r5, go_sem, ↓reduceIte, reduceCtorEq, Nat.reduceAdd, Nat.reduceSub, Nat.reduceLT, Nat.reduceLeDiff]
      intro _
      refine ⟨fun hlt => ?_, fun hge => ?_⟩
      · have hx : mv[i]? = some mv[i] := List.getElem?_eq_getElem hlt
        have hdrop : mv.drop i = mv[i] :: mv.drop (i + 1) := List.drop_eq_getElem_cons hlt
        rw [hdrop, List.any_cons] at hr
        generalize mv[i] = l at *
        simp only [c16r6, hx, hlt, ints, go_sem, ↓reduceIte, reduceCtorEq, Nat.reduceAdd, Nat.reduceSub, Nat.reduceLT, Nat.reduceLeDiff]
        refine ⟨by simp, fun hll => ?_⟩
        have hll' : (l.length : Int) ≤ 2 ^ 63 - 1 := Int.le_trans (Int.ofNat_le.mpr hll) maxLen_le
        simp only [c16r7, c16l8m, maxL, go_sem, ↓reduceIte, reduceCtorEq, Nat.reduceAdd, Nat.reduceSub, Nat.reduceLT, Nat.reduceLeDiff]
        refine ⟨inR_i64 (by omega) (by omega), hI (mv.length - (i + 1)) _ (by omega) ⟨i + 1, _, rfl, by omega, ?_, by simp [maxL]; rfl⟩⟩
        rw [hr, ← Bool.or_assoc]
        congr 1
        split <;> (rw [Bool.eq_iff_iff]; simp only [Bool.or_eq_true, decide_eq_true_eq]; omega)
      · have hie : i = mv.length := by omega
        subst hie
        rw [List.drop_length, List.any_nil, Bool.or_false] at hr
        simp only [c16r9, hr, go_sem, ↓reduceIte, reduceCtorEq, Nat.reduceAdd, Nat.reduceSub, Nat.reduceLT, Nat.reduceLeDiff]

end Go.Proofs.Ytglmjdpmpgphkaa.Sk

/- Contracts of functions: the distances of a valid machine. -/
namespace Go.Proofs.Ytglmjdpmpgphkaa.Sk
open Go Go.E Go.E.Sm
set_option maxRecDepth 10000

def getI (W : List Int) (k : Int) : Int := W.getD k.toNat (-1)
def isIn (W : List Int) (k : Int) : Bool := decide (0 ≤ getI W k)
def wins1 (p : Bool) (l : List Int) (good : Int → Bool) : Bool := if p then l.any good else !l.isEmpty && l.all good
def ptrI (W : List Int) : SV := .ptr (W.map (.int .i64))

def inside (n : Nat) (l : List Int) : Prop := ∀ x ∈ l, 0 ≤ x ∧ x < n

theorem getI_get {W : List Int} {x : Int} (h0 : 0 ≤ x) (h1 : x < W.length) : W[x.toNat]? = some (getI W x) := by
  unfold getI
  rw [List.getD_eq_getElem?_getD, List.getElem?_eq_getElem (by omega), Option.getD_some]

theorem k99 {W : List Int} {k : Int} (hW : W.length = 14) (h0 : 0 ≤ k) (h1 : k < 14) : Asks 99 [] [ptrI W] (.int .i64 k) (isIn W k) := by
  refine fn_of_row okf99 ?_
  have hx : W[k.toNat]? = some (getI W k) := by
    unfold getI
    rw [List.getD_eq_getElem?_getD, List.getElem?_eq_getElem (by omega), Option.getD_some]
  simp only [FRow.start, f99, c99r0, c99r1, ptrI, go_sem, ↓reduceIte, reduceCtorEq, Nat.reduceAdd, Nat.reduceSub, Nat.reduceLT, Nat.reduceLeDiff]
  refine ⟨h0, by omega, by omega, ?_⟩
  simp only [List.getElem?_drop, Nat.mul_one, Nat.add_zero, hx, isIn, go_sem, ↓reduceIte, reduceCtorEq, Nat.reduceAdd, Nat.reduceSub, Nat.reduceLT, Nat.reduceLeDiff]

theorem k87 {g : FuncId} {first caps : List SV} {p : Int → Bool} {k : Int} (hg : Ok1 g first caps) (hp : Asks g first caps (.int .i64 k) (p k)) : Asks 87 [] [.ptr [.fn g first caps]] (.int .i64 k) (!p k) := by
  refine fn_of_row okf87 ?_
  simp only [FRow.start, f87, c87r0, c87r1, go_sem, ↓reduceIte, reduceCtorEq, Nat.reduceAdd, Nat.reduceSub, Nat.reduceLT, Nat.reduceLeDiff]
  refine ⟨hg.1, hg.2, callK_of (by simp only [go_sem, ↓reduceIte, reduceCtorEq, Nat.reduceAdd, Nat.reduceSub, Nat.reduceLT, Nat.reduceLeDiff]) hp (.inl rfl) ?_⟩
  simp only [go_sem, ↓reduceIte, reduceCtorEq, Nat.reduceAdd, Nat.reduceSub, Nat.reduceLT, Nat.reduceLeDiff]

theorem k66 {g : FuncId} {first caps : List SV} {p : Int → Bool} {pl : List Bool} {mv : List (List Int)} {rest : List SV} {i : Nat} (hg : Ok1 g first caps) (hi : i < mv.length) (hpl : pl.length = mv.length)
    (hp : ∀ x ∈ mv.getD i [], Asks g first caps (.int .i64 x) (p x)) : E.Fn Try.prog 66 [.ptr (bools pl :: .slice (mv.map ints) :: rest), .int .i64 i, .fn g first caps] [.bool (wins1 (pl.getD i false) (mv.getD i []) p)] := by
  refine fn_of_row okf66 ?_
  have hx : mv[i]? = some (mv.getD i []) := by rw [List.getD_eq_getElem?_getD, List.getElem?_eq_getElem hi, Option.getD_some]
  have hy : pl[i]? = some (pl.getD i false) := by rw [List.getD_eq_getElem?_getD, List.getElem?_eq_getElem (by omega), Option.getD_some]
  have hi2 : i < pl.length := by omega
  generalize mv.getD i [] = l at *
  generalize pl.getD i false = b at *
  cases b with
  | true =>
    simp only [FRow.start, f66, c66r0, c66r1, c66r2, bools, hy, hi, hi2, c66r3, hx, ints, go_sem, ↓reduceIte, reduceCtorEq, Nat.reduceAdd, Nat.reduceSub, Nat.reduceLT, Nat.reduceLeDiff]
    refine callK_of rfl (k84 hg hp) (.inl rfl) ?_
    simp only [wins1, go_sem, ↓reduceIte, reduceCtorEq, Nat.reduceAdd, Nat.reduceSub, Nat.reduceLT, Nat.reduceLeDiff]
  | false =>
    simp only [FRow.start, f66, c66r0, c66r1, c66r2, bools, hy, hi, hi2, c66r4, hx, ints, go_sem, ↓reduceIte, reduceCtorEq, Nat.reduceAdd, Nat.reduceSub, Nat.reduceLT, Nat.reduceLeDiff]
    refine ⟨fun h0 => ?_, fun h0 => ?_⟩
    · refine callK_of rfl (k84 (p := fun x => !p x) ⟨tbl_fn 87 rfl, rfl⟩ fun x hx => k87 hg (hp x hx)) (.inl rfl) ?_
      have hne : l.isEmpty = false := by cases l with | nil => simp at h0 | cons => rfl
      simp only [wins1, hne, Bool.false_eq_true, List.all_eq_not_any_not, Bool.true_and, go_sem, ↓reduceIte, reduceCtorEq, Nat.reduceAdd, Nat.reduceSub, Nat.reduceLT, Nat.reduceLeDiff]
    · have hne : l.isEmpty = true := by cases l with | nil => rfl | cons x xs => (exfalso; apply h0; simp)
      simp only [wins1, hne, Bool.false_eq_true, Bool.false_and, go_sem, ↓reduceIte, reduceCtorEq, Nat.reduceAdd, Nat.reduceSub, Nat.reduceLT, Nat.reduceLeDiff]

def startW (wn : List Bool) : List Int := wn.map fun b => if b then 0 else -1
def pad (W : List Int) : List Int := W ++ List.replicate (14 - W.length) (-1)
def nxt (pl : List Bool) (mv : List (List Int)) (r : Int) (W : List Int) (i : Nat) : Int := if getI W i < 0 ∧ wins1 (pl.getD i false) (mv.getD i []) (isIn W) = true then r else getI W i
def roundW (pl : List Bool) (mv : List (List Int)) (r : Int) (W : List Int) : List Int := (List.range mv.length).map (nxt pl mv r W)
def iterW (pl : List Bool) (mv : List (List Int)) (wn : List Bool) : Nat → List Int
  | 0 => startW wn
  | k + 1 => roundW pl mv (k + 1) (iterW pl mv wn k)
def distW (pl : List Bool) (mv : List (List Int)) (wn : List Bool) : List Int := iterW pl mv wn mv.length
def cntW (W : List Int) : Nat := W.countP fun x => decide (0 ≤ x)
def brd (pl : List Bool) (mv : List (List Int)) (wn : List Bool) (F : List Int) : List LV := .s (.slice (pl.map .bool)) :: .s (.slice (mv.map ints)) :: .s (.slice (wn.map .bool)) :: (F.map (.int .i64)).map .s

theorem splice_set {α : Type} {l : List α} {i : Nat} {v : α} (h : i < l.length) : splice l i [v] = l.set i v := by
  unfold splice
  rw [List.set_eq_take_append_cons_drop, if_pos h]
  simp
theorem splice_all {α : Type} {zs ys : List α} (h : ys.length = zs.length) : splice zs 0 ys = ys := by
  unfold splice
  simp [h]
theorem splice_brd {a b c : LV} {F : List Int} {i : Nat} {n : Int} (hi : i < F.length) : splice (a :: b :: c :: (F.map (SV.int .i64)).map LV.s) (3 + i * 1) [.s (.int .i64 n)] = a :: b :: c :: ((F.set i n).map (SV.int .i64)).map LV.s := by
  rw [splice_set (by simp; omega), Nat.mul_one, show 3 + i = i + 1 + 1 + 1 by omega]
  simp only [List.set_cons_succ, List.map_set]
theorem pre_set {α : Type} {A : List α} {z v : α} {m i : Nat} (h : A.length = i) : (A ++ List.replicate (m + 1) z).set i v = (A ++ [v]) ++ List.replicate m z := by
  subst h
  simp [List.replicate_succ]
theorem pad_len {W : List Int} (h : W.length ≤ 14) : (pad W).length = 14 := by simp [pad]; omega
theorem pad_inj {A B : List Int} (h : pad A = pad B) (hl : A.length = B.length) : A = B := by
  unfold pad at h
  exact (List.append_inj h hl).1
theorem pad_set {W : List Int} {i : Nat} {v : Int} (h : i < W.length) : (pad W).set i v = pad (W.set i v) := by
  unfold pad
  rw [List.set_append_left _ _ h, List.length_set]
theorem getI_pad (W : List Int) (k : Int) : getI (pad W) k = getI W k := by
  unfold getI pad
  rw [List.getD_eq_getElem?_getD, List.getD_eq_getElem?_getD, List.getElem?_append]
  split
  · rfl
  · rename_i h
    have h1 : W[k.toNat]? = Option.none := List.getElem?_eq_none (by omega)
    rw [h1, List.getElem?_replicate]
    split <;> rfl
theorem isIn_pad (W : List Int) : isIn (pad W) = isIn W := by funext k; simp [isIn, getI_pad]
theorem tags_int : ∀ {n : Nat} {F : List Int}, F.length = n → (F.map (SV.int .i64)).map SV.tag = List.replicate n (.int .i64)
  | 0, F, h => by rw [List.length_eq_zero_iff.1 h]; rfl
  | n + 1, x :: F, h => by rw [List.map_cons, List.map_cons, tags_int (n := n) (by simpa using h)]; rfl
  | n + 1, [], h => by simp at h
theorem map_int_inj {F G : List Int} (h : F.map (SV.int .i64) = G.map (SV.int .i64)) : F = G := by
  refine List.map_inj_right (f := SV.int .i64) (fun x y h => by simpa using h) |>.1 h

theorem roundW_len (pl : List Bool) (mv : List (List Int)) (r : Int) (W : List Int) : (roundW pl mv r W).length = mv.length := by simp [roundW]
theorem iterW_len {pl wn : List Bool} {mv : List (List Int)} (hwn : wn.length = mv.length) : ∀ k, (iterW pl mv wn k).length = mv.length
  | 0 => by simp [iterW, startW, hwn]
  | k + 1 => roundW_len _ _ _ _

theorem roundW_get {pl : List Bool} {mv : List (List Int)} {r : Int} {W : List Int} {i : Nat} (hi : i < mv.length) : (roundW pl mv r W)[i]? = some (nxt pl mv r W i) := by
  simp [roundW, hi]

theorem roundW_stable {pl : List Bool} {mv : List (List Int)} {r r' : Int} {W : List Int} (h0 : 0 ≤ r) (h : roundW pl mv r W = W) : roundW pl mv r' W = W := by
  rw [← h]
  conv => rhs; rw [← h]
  rw [h]
  unfold roundW
  refine List.map_congr_left fun i hi => ?_
  have hi : i < mv.length := by simpa using hi
  have h1 := roundW_get (pl := pl) (r := r) (W := W) hi
  rw [h] at h1
  have h2 : getI W i = nxt pl mv r W i := by
    unfold getI
    rw [List.getD_eq_getElem?_getD, Int.toNat_natCast, h1]; rfl
  by_cases hc : getI W i < 0 ∧ wins1 (pl.getD i false) (mv.getD i []) (isIn W) = true
  · exfalso
    unfold nxt at h2
    rw [if_pos hc] at h2
    omega
  · unfold nxt
    rw [if_neg hc, if_neg hc]

theorem iterW_stable {pl wn : List Bool} {mv : List (List Int)} {k : Nat} (h : iterW pl mv wn (k + 1) = iterW pl mv wn k) : ∀ j, iterW pl mv wn (k + j) = iterW pl mv wn k
  | 0 => rfl
  | j + 1 => by
    rw [show k + (j + 1) = (k + j) + 1 by omega, iterW, iterW_stable h j]
    exact roundW_stable (r := k + 1) (by omega) h

theorem cnt_ne {f : Nat → Int} {r : Int} (hr : 0 ≤ r) : ∀ (n : Nat) (g : Nat → Int), (∀ i, i < n → g i = f i ∨ (f i < 0 ∧ g i = r)) →
    cntW ((List.range n).map f) ≤ cntW ((List.range n).map g) ∧ ((List.range n).map g ≠ (List.range n).map f → cntW ((List.range n).map f) < cntW ((List.range n).map g))
  | 0, g, h => by simp
  | n + 1, g, h => by
    have ih := cnt_ne hr n g fun i hi => h i (by omega)
    have hn := h n (by omega)
    simp only [cntW, List.range_succ, List.map_append, List.countP_append, List.map_cons, List.map_nil, List.countP_cons, List.countP_nil] at ih ⊢
    rcases hn with hn | ⟨hn, hg⟩
    · rw [hn]
      refine ⟨by omega, fun hne => ?_⟩
      have := ih.2 fun e => hne (by rw [e])
      omega
    · have e1 : decide (0 ≤ f n) = false := by simp; omega
      have e2 : decide (0 ≤ g n) = true := by simp; omega
      rw [e1, e2]
      simp only [Bool.false_eq_true, if_false, if_true]
      exact ⟨by omega, fun _ => by omega⟩

theorem list_range {W : List Int} {n : Nat} (h : W.length = n) : W = (List.range n).map fun i : Nat => getI W i := by
  apply List.ext_getElem?
  intro i
  by_cases hi : i < n
  · rw [List.getElem?_map, List.getElem?_range hi, Option.map_some]
    unfold getI
    rw [List.getD_eq_getElem?_getD, Int.toNat_natCast, List.getElem?_eq_getElem (by omega)]; rfl
  · rw [List.getElem?_eq_none (by omega), List.getElem?_eq_none (by simp; omega)]

theorem cnt_round {pl : List Bool} {mv : List (List Int)} {r : Int} {W : List Int} (hr : 0 ≤ r) (hW : W.length = mv.length) (hne : roundW pl mv r W ≠ W) : cntW W < cntW (roundW pl mv r W) := by
  have h := cnt_ne (f := fun i : Nat => getI W i) hr mv.length (nxt pl mv r W) fun i hi => by
    unfold nxt
    split
    · rename_i h; exact .inr ⟨h.1, rfl⟩
    · exact .inl rfl
  rw [← list_range hW] at h
  exact h.2 hne

theorem cnt_le (W : List Int) : cntW W ≤ W.length := List.countP_le_length

theorem iterW_done {pl wn : List Bool} {mv : List (List Int)} {k : Nat} (hwn : wn.length = mv.length) (hk : k ≤ cntW (iterW pl mv wn k)) (h : iterW pl mv wn (k + 1) = iterW pl mv wn k) : distW pl mv wn = iterW pl mv wn k := by
  have h1 := cnt_le (iterW pl mv wn k)
  rw [iterW_len hwn] at h1
  unfold distW
  rw [show mv.length = k + (mv.length - k) by omega]
  exact iterW_stable h _
theorem iterW_more {pl wn : List Bool} {mv : List (List Int)} {k : Nat} (hwn : wn.length = mv.length) (hk : k ≤ cntW (iterW pl mv wn k)) (h : iterW pl mv wn (k + 1) ≠ iterW pl mv wn k) : k + 1 ≤ cntW (iterW pl mv wn (k + 1)) ∧ k + 1 ≤ mv.length := by
  have h1 := cnt_round (pl := pl) (mv := mv) (r := k + 1) (W := iterW pl mv wn k) (by omega) (iterW_len hwn k) h
  have h2 := cnt_le (iterW pl mv wn (k + 1))
  rw [iterW_len hwn] at h2
  rw [iterW] at h2 ⊢
  exact ⟨by omega, by omega⟩
theorem iterW_rng {pl wn : List Bool} {mv : List (List Int)} : ∀ (k : Nat), ∀ x ∈ iterW pl mv wn k, -1 ≤ x ∧ x ≤ k
  | 0, x, hx => by
    simp only [iterW, startW, List.mem_map] at hx
    obtain ⟨b, _, rfl⟩ := hx
    split <;> omega
  | k + 1, x, hx => by
    simp only [iterW, roundW, List.mem_map] at hx
    obtain ⟨i, _, rfl⟩ := hx
    have ih := iterW_rng (pl := pl) (mv := mv) (wn := wn) k
    unfold nxt
    split
    · omega
    · unfold getI
      rw [List.getD_eq_getElem?_getD]
      cases h : (iterW pl mv wn k)[((i : Nat) : Int).toNat]? with
      | none => simp only [Option.getD_none]; omega
      | some y => have := ih y (List.mem_of_getElem? h); simp only [Option.getD_some]; omega
theorem getI_rng {W : List Int} {B : Int} (hB : -1 ≤ B) (h : ∀ x ∈ W, -1 ≤ x ∧ x ≤ B) (k : Int) : -1 ≤ getI W k ∧ getI W k ≤ B := by
  unfold getI
  rw [List.getD_eq_getElem?_getD]
  cases e : W[k.toNat]? with
  | none => simp only [Option.getD_none]; omega
  | some y => have := h y (List.mem_of_getElem? e); simp only [Option.getD_some]; omega

def midW (pl : List Bool) (mv : List (List Int)) (r : Int) (W : List Int) (i : Nat) : List Int := (List.range mv.length).map fun j => if j < i then nxt pl mv r W j else getI W j
theorem midW_len {pl : List Bool} {mv : List (List Int)} {r : Int} {W : List Int} {i : Nat} : (midW pl mv r W i).length = mv.length := by simp [midW]
theorem midW_0 {pl : List Bool} {mv : List (List Int)} {r : Int} {W : List Int} (h : W.length = mv.length) : midW pl mv r W 0 = W := by
  unfold midW
  simp only [Nat.not_lt_zero, if_false]
  exact (list_range h).symm
theorem midW_n {pl : List Bool} {mv : List (List Int)} {r : Int} {W : List Int} : midW pl mv r W mv.length = roundW pl mv r W := by
  unfold midW roundW
  refine List.map_congr_left fun i hi => ?_
  rw [if_pos (by simpa using hi)]
theorem midW_succ {pl : List Bool} {mv : List (List Int)} {r : Int} {W : List Int} {i : Nat} : (midW pl mv r W i).set i (nxt pl mv r W i) = midW pl mv r W (i + 1) := by
  apply List.ext_getElem?
  intro j
  by_cases hj : j < mv.length
  · rw [List.getElem?_set]
    unfold midW
    rw [List.getElem?_map, List.getElem?_map, List.getElem?_range hj]
    simp only [Option.map_some, List.length_map, List.length_range]
    by_cases e : i = j
    · subst e; simp [hj]
    · rw [if_neg e]
      congr 1
      by_cases h : j < i
      · rw [if_pos h, if_pos (by omega)]
      · rw [if_neg h, if_neg (by omega)]
  · rw [List.getElem?_eq_none (by rw [List.length_set, midW_len]; omega), List.getElem?_eq_none (by rw [midW_len]; omega)]
theorem midW_same {pl : List Bool} {mv : List (List Int)} {r : Int} {W : List Int} {i : Nat} (hi : i < mv.length) (h : nxt pl mv r W i = getI W i) : midW pl mv r W i = midW pl mv r W (i + 1) := by
  rw [← midW_succ, h]
  have hl : i < (midW pl mv r W i).length := by rw [midW_len]; exact hi
  have e : (midW pl mv r W i)[i] = getI W i := by simp [midW]
  rw [← e]
  exact (List.set_getElem_self hl).symm

theorem k80 {pl wn : List Bool} {mv : List (List Int)} (hn : mv.length ≤ 14) (hpl : pl.length = mv.length) (hwn : wn.length = mv.length) (hmv : ∀ l ∈ mv, inside mv.length l) :
    E.Fn Try.prog 80 [mach pl mv wn] [.ptr (bools pl :: .slice (mv.map ints) :: bools wn :: (pad (distW pl mv wn)).map (.int .i64))] := by
  refine fn_of_row okf80 ?_
  simp only [FRow.start, f80, c80r0, c80r1, c80r2, mach, splice, go_sem, ↓reduceIte, reduceCtorEq, Nat.reduceAdd, Nat.reduceSub, Nat.reduceLT, Nat.reduceLeDiff]
  refine loop_rule (fun n τ => ∃ (i : Nat), n = 14 - i ∧ i ≤ 14 ∧
    τ = ⟨[.any, .any, .any, .loc 0 0, .any, .any, .any, .any, .any, .any, .any, .any, .any, .any, .s (.int .i64 i), .any, .any, .any, .any, .any, .any, .any, .any, .any, .any, .any, .any, .any, .any, .any, .any, .any, .any, .any, .any, .any, .any, .any, .any, .any, .any, .any, .any, .any, .any, .any, .any, .any, .any, .any, .any, .any, .any, .any, .any, .any, .any, .any, .any, .any, .any, .any, .any, .any, .any, .any, .any, .any, .any, .any, .any, .any, .any, .any, .any, .any, .any, .any, .any, .any, .any], [.obj (brd pl mv wn (List.replicate i (-1) ++ List.replicate (14 - i) 0))]⟩) 14 rfl ?_ ?_
  · simp only [c80l7m, go_sem, ↓reduceIte, reduceCtorEq, Nat.reduceAdd, Nat.reduceSub, Nat.reduceLT, Nat.reduceLeDiff]
    exact ⟨0, rfl, by omega, by simp [brd, bools]⟩
  · rintro I n τ ⟨i, rfl, hi, rfl⟩ hI
    simp only [c80l7, c80r3, c80r4, c80r5, brd, go_sem, ↓reduceIte, reduceCtorEq, Nat.reduceAdd, Nat.reduceSub, Nat.reduceLT, Nat.reduceLeDiff]
    refine ⟨fun hlt => ?_, fun hge => ?_⟩
    · have hlt' : i < 14 := by omega
      refine ⟨hlt', by simp; omega, ?_⟩
      rw [splice_brd (by simp; omega)]
      simp only [c80r6, c80l7m, go_sem, ↓reduceIte, reduceCtorEq, Nat.reduceAdd, Nat.reduceSub, Nat.reduceLT, Nat.reduceLeDiff]
      refine ⟨inR_i64 (by omega) (by omega), hI (14 - (i + 1)) _ (by omega) ⟨i + 1, rfl, by omega, ?_⟩⟩
      rw [show 14 - i = (14 - (i + 1)) + 1 by omega, pre_set (by simp), ← List.replicate_succ']
      simp [brd]
    · have hie : i = 14 := by omega
      subst hie
      generalize hF : (List.replicate 14 (-1) ++ List.replicate (14 - 14) 0 : List Int) = F
      have hF' : F = pad (List.take 0 (startW wn)) := by rw [← hF]; rfl
      have hFl : F.length = 14 := by rw [hF']; rfl
      clear hF
      simp only [c80r8, go_sem, ↓reduceIte, reduceCtorEq, Nat.reduceAdd, Nat.reduceSub, Nat.reduceLT, Nat.reduceLeDiff]
      intro hwl
      have hswl : (startW wn).length = mv.length := by simp [startW, hwn]
      refine loop_rule (fun n τ => ∃ (i : Nat), n = wn.length - i ∧ i ≤ wn.length ∧
        τ = ⟨[.any, .any, .any, .loc 0 0, .any, .any, .any, .any, .any, .any, .any, .any, .any, .any, .any, .any, .any, .any, .any, .any, .any, .any, .any, .any, .any, .any, .any, .s (.slice (wn.map .bool)), .s (.int .i64 wn.length), .s (.int .i64 i), .any, .any, .any, .any, .any, .any, .any, .any, .any, .any, .any, .any, .any, .any, .any, .any, .any, .any, .any, .any, .any, .any, .any, .any, .any, .any, .any, .any, .any, .any, .any, .any, .any, .any, .any, .any, .any, .any, .any, .any, .any, .any, .any, .any, .any, .any, .any, .any, .any, .any, .any], [.obj (brd pl mv wn (pad ((startW wn).take i)))]⟩) wn.length rfl ?_ ?_
      · simp only [c80l14m, go_sem, ↓reduceIte, reduceCtorEq, Nat.reduceAdd, Nat.reduceSub, Nat.reduceLT, Nat.reduceLeDiff]
        exact ⟨0, rfl, by omega, by rw [hF']; rfl⟩
      · rintro I n τ ⟨i, rfl, hi, rfl⟩ hI
        generalize hF : pad ((startW wn).take i) = F
        simp only [c80l14, c80r9, brd, go_sem, ↓reduceIte, reduceCtorEq, Nat.reduceAdd, Nat.reduceSub, Nat.reduceLT, Nat.reduceLeDiff]
        refine ⟨fun hlt => ?_, fun hge => ?_⟩
        · have hx : wn[i]? = some wn[i] := List.getElem?_eq_getElem hlt
          have hs : (startW wn)[i]? = some (if wn[i] then 0 else -1) := by simp [startW, hx]
          generalize wn[i] = b at *
          have hF1 : F = pad ((startW wn).take i) := hF.symm
          have hFl : F.length = 14 := by rw [hF1]; exact pad_len (by simp; omega)
          have hset : ∀ v, (startW wn)[i]? = some v → F.set i v = pad ((startW wn).take (i + 1)) := fun v hv => by
            rw [hF1]
            unfold pad
            have hl : ((startW wn).take i).length = i := by simp; omega
            have hl2 : ((startW wn).take (i + 1)).length = i + 1 := by simp; omega
            rw [hl, hl2, show 14 - i = (14 - (i + 1)) + 1 by omega, pre_set hl, List.take_succ, hv]
            rfl
          cases b with
          | true =>
            simp only [c80r10, hx, c80r11, c80r12, go_sem, ↓reduceIte, reduceCtorEq, Nat.reduceAdd, Nat.reduceSub, Nat.reduceLT, Nat.reduceLeDiff]
            refine ⟨by omega, by omega, ?_⟩
            rw [splice_brd (by omega), hset 0 hs]
            simp only [c80r13, c80l14m, go_sem, ↓reduceIte, reduceCtorEq, Nat.reduceAdd, Nat.reduceSub, Nat.reduceLT, Nat.reduceLeDiff]
            exact ⟨inR_i64 (by omega) (by omega), hI (wn.length - (i + 1)) _ (by omega) ⟨i + 1, rfl, by omega, by simp [brd]⟩⟩
          | false =>
            simp only [c80r10, hx, c80r11, go_sem, ↓reduceIte, reduceCtorEq, Nat.reduceAdd, Nat.reduceSub, Nat.reduceLT, Nat.reduceLeDiff]
            have h9 := hset (-1) hs
            have h10 : F.set i (-1) = F := by
              have : F[i]? = some (-1) := by
                rw [hF1]; unfold pad
                rw [List.getElem?_append_right (by simp; omega), List.getElem?_replicate, if_pos (by simp; omega)]
              obtain ⟨h11, h12⟩ := List.getElem?_eq_some_iff.1 this
              rw [← h12]
              exact List.set_getElem_self h11
            rw [h10] at h9
            simp only [c80r13, c80l14m, go_sem, ↓reduceIte, reduceCtorEq, Nat.reduceAdd, Nat.reduceSub, Nat.reduceLT, Nat.reduceLeDiff]
            exact ⟨inR_i64 (by omega) (by omega), hI (wn.length - (i + 1)) _ (by omega) ⟨i + 1, rfl, by omega, by rw [h9]; simp [brd]⟩⟩
        · have hie : i = wn.length := by omega
          subst hie
          have hF1 : F = pad (iterW pl mv wn 0) := by rw [← hF, hwn, ← hswl, List.take_length]; rfl
          simp only [c80r15, go_sem, ↓reduceIte, reduceCtorEq, Nat.reduceAdd, Nat.reduceSub, Nat.reduceLT, Nat.reduceLeDiff]
          clear hF hI hge
          have hswn : (startW wn).length = mv.length := hswl
          rw [hF1]
          refine loop_rule (fun n τ => ∃ (k : Nat), n = mv.length - k ∧ k ≤ cntW (iterW pl mv wn k) ∧
            τ = ⟨[.any, .any, .any, .loc 0 0, .any, .any, .any, .s (.int .i64 ((k : Nat) + 1)), .any, .any, .any, .any, .any, .any, .any, .any, .any, .any, .any, .any, .any, .any, .any, .any, .any, .any, .any, .any, .any, .any, .any, .any, .any, .any, .any, .any, .any, .any, .any, .any, .any, .any, .any, .any, .any, .any, .any, .any, .any, .any, .any, .any, .any, .any, .any, .any, .any, .any, .any, .any, .any, .any, .any, .any, .any, .any, .any, .any, .any, .any, .any, .any, .any, .any, .any, .any, .any, .any, .any, .any, .any], [.obj (brd pl mv wn (pad (iterW pl mv wn k)))]⟩) mv.length rfl ?_ ?_
          · simp only [c80l28m, go_sem, ↓reduceIte, reduceCtorEq, Nat.reduceAdd, Nat.reduceSub, Nat.reduceLT, Nat.reduceLeDiff]
            exact ⟨0, rfl, Nat.zero_le _, by simp [brd]⟩
          · rintro I n τ ⟨k, rfl, hk, rfl⟩ hI
            have hWl := iterW_len (pl := pl) hwn k
            have hkn : k ≤ mv.length := by have := cnt_le (iterW pl mv wn k); omega
            have hstep : iterW pl mv wn (k + 1) = roundW pl mv (k + 1) (iterW pl mv wn k) := rfl
            have hdone := iterW_done (pl := pl) hwn hk
            have hmore := iterW_more (pl := pl) hwn hk
            generalize iterW pl mv wn k = W at *
            have hpl14 := pad_len (W := W) (by omega)
            simp only [c80l28, c80r16, brd, go_sem, ↓reduceIte, reduceCtorEq, Nat.reduceAdd, Nat.reduceSub, Nat.reduceLT, Nat.reduceLeDiff]
            refine ⟨by omega, by simp; omega, ?_⟩
            rw [List.take_of_length_le (by simp; omega), splice_all (by simp; omega)]
            simp only [c80r17, c80r18, go_sem, ↓reduceIte, reduceCtorEq, Nat.reduceAdd, Nat.reduceSub, Nat.reduceLT, Nat.reduceLeDiff]
            intro hml
            have hml' : (mv.length : Int) ≤ 2 ^ 63 - 1 := Int.le_trans (Int.ofNat_le.mpr hml) maxLen_le
            refine loop_rule (fun n τ => ∃ (i : Nat), n = mv.length - i ∧ i ≤ mv.length ∧
              τ = ⟨[.any, .any, .any, .loc 0 0, .any, .any, .any, .s (.int .i64 ((k : Nat) + 1)), .loc 1 0, .fn 99 [] [.loc 1 0], .any, .any, .any, .any, .any, .any, .any, .any, .any, .any, .any, .any, .any, .any, .any, .any, .any, .any, .any, .any, .any, .any, .any, .any, .any, .any, .any, .any, .any, .any, .any, .any, .any, .any, .any, .any, .any, .any, .any, .any, .any, .any, .any, .s (.int .i64 mv.length), .s (.int .i64 i), .any, .any, .any, .any, .any, .any, .any, .any, .any, .any, .any, .any, .any, .any, .any, .any, .any, .any, .any, .any, .any, .any, .any, .any, .any, .any], [.obj (brd pl mv wn (pad (midW pl mv (k + 1) W i))), .obj (((pad W).map (SV.int .i64)).map LV.s)]⟩) mv.length rfl ?_ ?_
            · simp only [c80l24m, go_sem, ↓reduceIte, reduceCtorEq, Nat.reduceAdd, Nat.reduceSub, Nat.reduceLT, Nat.reduceLeDiff]
              exact ⟨0, rfl, Nat.zero_le _, by rw [midW_0 hWl]; simp [brd]⟩
            · rintro I2 n τ ⟨i, rfl, hi, rfl⟩ hI2
              have hmid := midW_len (pl := pl) (mv := mv) (r := (k : Int) + 1) (W := W) (i := i)
              have hmn := midW_n (pl := pl) (mv := mv) (r := (k : Int) + 1) (W := W)
              have hms := midW_succ (pl := pl) (mv := mv) (r := (k : Int) + 1) (W := W) (i := i)
              have hsame := fun h1 h2 => midW_same (pl := pl) (mv := mv) (r := (k : Int) + 1) (W := W) (i := i) h1 h2
              simp only [c80l24, c80r19, brd, go_sem, ↓reduceIte, reduceCtorEq, Nat.reduceAdd, Nat.reduceSub, Nat.reduceLT, Nat.reduceLeDiff]
              refine ⟨fun hlt => ?_, fun hge => ?_⟩
              · have hlp := hmv (mv.getD i []) (by rw [List.getD_eq_getElem?_getD, List.getElem?_eq_getElem hlt]; simp)
                have hg : (pad W)[i]? = some (getI W i) := by
                  have := getI_get (W := pad W) (x := i) (by omega) (by omega)
                  rwa [getI_pad, Int.toNat_natCast] at this
                generalize hM : midW pl mv (↑k + 1) W i = M at *
                have hpm := pad_len (W := M) (by omega)
                have hbl : i < (pad W).length := by omega
                have hnx : nxt pl mv (↑k + 1) W i = if getI W i < 0 ∧ wins1 (pl.getD i false) (mv.getD i []) (isIn W) = true then ((k : Int) + 1) else getI W i := rfl
                have hkeep : nxt pl mv (↑k + 1) W i = getI W i → I2 ⟨[.any, .any, .any, .loc 0 0, .any, .any, .any, .s (.int .i64 ((k : Nat) + 1)), .loc 1 0, .fn 99 [] [.loc 1 0], .any, .any, .any, .any, .any, .any, .any, .any, .any, .any, .any, .any, .any, .any, .any, .any, .any, .any, .any, .any, .any, .any, .any, .any, .any, .any, .any, .any, .any, .any, .any, .any, .any, .any, .any, .any, .any, .any, .any, .any, .any, .any, .any, .s (.int .i64 mv.length), .s (.int .i64 (i + 1)), .any, .any, .any, .any, .any, .any, .any, .any, .any, .any, .any, .any, .any, .any, .any, .any, .any, .any, .any, .any, .any, .any, .any, .any, .any, .any], [.obj (brd pl mv wn (pad M)), .obj (((pad W).map (SV.int .i64)).map LV.s)]⟩ := fun he =>
                  hI2 (mv.length - (i + 1)) _ (by omega) ⟨i + 1, rfl, by omega, by rw [hsame hlt he]; simp⟩
                simp only [c80r20, c80r21, hg, Nat.mul_one, go_sem, ↓reduceIte, reduceCtorEq, Nat.reduceAdd, Nat.reduceSub, Nat.reduceLT, Nat.reduceLeDiff]
                refine ⟨by omega, fun hneg => ?_, fun hneg => ?_⟩
                · refine callK_of (by simp only [bools, ptrI, go_sem, ↓reduceIte, reduceCtorEq, Nat.reduceAdd, Nat.reduceSub, Nat.reduceLT, Nat.reduceLeDiff]) (k66 (g := 99) (first := []) (caps := [ptrI (pad W)]) (p := isIn (pad W)) (rest := .slice (wn.map .bool) :: (pad M).map (SV.int .i64)) ⟨tbl_fn 99 rfl, rfl⟩ hlt hpl fun x hx => k99 hpl14 (hlp x hx).1 (by have := (hlp x hx).2; omega)) (.inl rfl) ?_
                  rw [isIn_pad]
                  cases hw : wins1 (pl.getD i false) (mv.getD i []) (isIn W) with
                  | true =>
                    rw [if_pos ⟨hneg, hw⟩] at hnx
                    rw [hnx] at hms
                    simp only [c80r22, go_sem, ↓reduceIte, reduceCtorEq, Nat.reduceAdd, Nat.reduceSub, Nat.reduceLT, Nat.reduceLeDiff]
                    refine ⟨by omega, by omega, ?_⟩
                    have hsp := splice_brd (a := .s (.slice (pl.map .bool))) (b := .s (.slice (mv.map ints))) (c := .s (.slice (wn.map .bool))) (F := pad M) (i := i) (n := ↑k + 1) (by omega)
                    rw [Nat.mul_one] at hsp
                    simp only [hsp, Nat.mul_one, c80r23, c80l24m, go_sem, ↓reduceIte, reduceCtorEq, Nat.reduceAdd, Nat.reduceSub, Nat.reduceLT, Nat.reduceLeDiff]
                    refine ⟨inR_i64 (by omega) (by omega), hI2 (mv.length - (i + 1)) _ (by omega) ⟨i + 1, rfl, by omega, ?_⟩⟩
                    rw [pad_set (by omega), hms]
                    simp [brd]
                  | false =>
                    rw [if_neg (fun h => by have h := h.2; rw [hw] at h; cases h)] at hnx
                    simp only [c80r23, c80l24m, go_sem, ↓reduceIte, reduceCtorEq, Nat.reduceAdd, Nat.reduceSub, Nat.reduceLT, Nat.reduceLeDiff]
                    exact ⟨inR_i64 (by omega) (by omega), hkeep hnx⟩
                · rw [if_neg (fun h => hneg h.1)] at hnx
                  simp only [c80r23, c80l24m, go_sem, ↓reduceIte, reduceCtorEq, Nat.reduceAdd, Nat.reduceSub, Nat.reduceLT, Nat.reduceLeDiff]
                  exact ⟨inR_i64 (by omega) (by omega), hkeep hnx⟩
              · have hie : i = mv.length := by omega
                subst hie
                rw [hmn, ← hstep]
                have hl2 := iterW_len (pl := pl) hwn (k + 1)
                have hpl2 := pad_len (W := iterW pl mv wn (k + 1)) (by omega)
                simp only [c80r25, go_sem, ↓reduceIte, reduceCtorEq, Nat.reduceAdd, Nat.reduceSub, Nat.reduceLT, Nat.reduceLeDiff]
                refine ⟨by omega, by omega, ?_⟩
                rw [List.take_of_length_le (by simp; omega), List.take_of_length_le (by simp; omega)]
                simp only [go_sem, ↓reduceIte, reduceCtorEq, Nat.reduceAdd, Nat.reduceSub, Nat.reduceLT, Nat.reduceLeDiff]
                refine ⟨⟨tags_int hpl2, tags_int hpl14⟩, fun he => ?_, fun hne => ?_⟩
                · have he' := pad_inj (map_int_inj (by simpa only [SV.agg.injEq] using he)) (by omega)
                  rw [hdone he', he']
                  simp only [c80r26, bools, go_sem, ↓reduceIte, reduceCtorEq, Nat.reduceAdd, Nat.reduceSub, Nat.reduceLT, Nat.reduceLeDiff]
                · obtain ⟨h1, h2⟩ := hmore fun e => hne (by rw [e])
                  simp only [c80r27, c80l28m, go_sem, ↓reduceIte, reduceCtorEq, Nat.reduceAdd, Nat.reduceSub, Nat.reduceLT, Nat.reduceLeDiff]
                  exact ⟨inR_i64 (by omega) (by omega), hI (mv.length - (k + 1)) _ (by omega) ⟨k + 1, rfl, h1, by simp [brd]⟩⟩
end Go.Proofs.Ytglmjdpmpgphkaa.Sk

/- Contracts of functions: the distances, as the document has them. -/
namespace Go.Proofs.Ytglmjdpmpgphkaa.Sk
open Go Go.E Go.E.Sm
set_option maxRecDepth 10000

def leastF (W : List Int) (a x : Int) : Int := if getI W x < 0 then a else if a < 0 ∨ getI W x < a then getI W x else a
def mostF (W : List Int) (a x : Int) : Int := if getI W x < 0 then a else if a < getI W x then getI W x else a
def openF (W : List Int) (a : Bool) (x : Int) : Bool := if getI W x < 0 then true else a
def leastL (W l : List Int) : Int := l.foldl (leastF W) (-1)
def mostL (W l : List Int) : Int := l.foldl (mostF W) (-1)
def openL (W l : List Int) : Bool := l.foldl (openF W) false
def nextV (p : Bool) (l W : List Int) : Int := if leastL W l < 0 ∨ (p = false ∧ openL W l = true) then -1 else if p then leastL W l + 1 else mostL W l + 1

theorem fold_succ {α : Type} (f : α → Int → α) (a : α) {l : List Int} {j : Nat} {x : Int} (h : l[j]? = some x) : (l.take (j + 1)).foldl f a = f ((l.take j).foldl f a) x := by
  rw [List.take_succ, h, List.foldl_append]; rfl

theorem least_rng {W : List Int} {B : Int} (hB : 0 ≤ B) (hb : ∀ x : Int, getI W x ≤ B) : ∀ (l : List Int) (a : Int), -1 ≤ a → a ≤ B → -1 ≤ l.foldl (leastF W) a ∧ l.foldl (leastF W) a ≤ B
  | [], a, h0, h1 => ⟨h0, h1⟩
  | x :: l, a, h0, h1 => by
    have := hb x
    rw [List.foldl_cons]
    refine least_rng hB hb l _ ?_ ?_ <;> (unfold leastF; split <;> (try split) <;> omega)
theorem most_rng {W : List Int} {B : Int} (hB : 0 ≤ B) (hb : ∀ x : Int, getI W x ≤ B) : ∀ (l : List Int) (a : Int), -1 ≤ a → a ≤ B → -1 ≤ l.foldl (mostF W) a ∧ l.foldl (mostF W) a ≤ B
  | [], a, h0, h1 => ⟨h0, h1⟩
  | x :: l, a, h0, h1 => by
    have := hb x
    rw [List.foldl_cons]
    refine most_rng hB hb l _ ?_ ?_ <;> (unfold mostF; split <;> (try split) <;> omega)

theorem least_sign {W : List Int} : ∀ (l : List Int) (a : Int), -1 ≤ a → (0 ≤ l.foldl (leastF W) a ↔ (0 ≤ a ∨ l.any (isIn W) = true))
  | [], a, h0 => by simp
  | x :: l, a, h0 => by
    rw [List.foldl_cons, least_sign l _ (by unfold leastF; split <;> (try split) <;> omega), List.any_cons, Bool.or_eq_true]
    unfold leastF isIn
    simp only [decide_eq_true_eq]
    by_cases h1 : getI W x < 0
    · rw [if_pos h1]
      constructor
      · rintro (h | h)
        · exact .inl h
        · exact .inr (.inr h)
      · rintro (h | h | h)
        · exact .inl h
        · omega
        · exact .inr h
    · rw [if_neg h1]
      constructor
      · intro _; exact .inr (.inl (by omega))
      · intro _; left; split <;> omega
theorem most_sign {W : List Int} : ∀ (l : List Int) (a : Int), -1 ≤ a → (0 ≤ l.foldl (mostF W) a ↔ (0 ≤ a ∨ l.any (isIn W) = true))
  | [], a, h0 => by simp
  | x :: l, a, h0 => by
    rw [List.foldl_cons, most_sign l _ (by unfold mostF; split <;> (try split) <;> omega), List.any_cons, Bool.or_eq_true]
    unfold mostF isIn
    simp only [decide_eq_true_eq]
    by_cases h1 : getI W x < 0
    · rw [if_pos h1]
      constructor
      · rintro (h | h)
        · exact .inl h
        · exact .inr (.inr h)
      · rintro (h | h | h)
        · exact .inl h
        · omega
        · exact .inr h
    · rw [if_neg h1]
      constructor
      · intro _; exact .inr (.inl (by omega))
      · intro _; left; split <;> omega
theorem open_sign {W : List Int} : ∀ (l : List Int) (a : Bool), l.foldl (openF W) a = (a || !l.all (isIn W))
  | [], a => by simp
  | x :: l, a => by
    rw [List.foldl_cons, open_sign l, List.all_cons]
    unfold openF isIn
    by_cases h1 : getI W x < 0
    · have : decide (0 ≤ getI W x) = false := by simp; omega
      rw [if_pos h1, this]; simp
    · have : decide (0 ≤ getI W x) = true := by simp; omega
      rw [if_neg h1, this]; simp

theorem any_of_all {l : List Int} {p : Int → Bool} (h : l.all p = true) (hn : l.isEmpty = false) : l.any p = true := by
  cases l with
  | nil => cases hn
  | cons x l => simp only [List.all_cons, Bool.and_eq_true] at h; simp [h.1]

theorem nextV_sign {p : Bool} {l W : List Int} : 0 ≤ nextV p l W ↔ wins1 p l (isIn W) = true := by
  have h1 := least_sign (W := W) l (-1) (by omega)
  have h2 := most_sign (W := W) l (-1) (by omega)
  have h3 := open_sign (W := W) l false
  have e : ¬ ((0 : Int) ≤ -1) := by omega
  simp only [e, false_or, Bool.false_or] at h1 h2 h3
  unfold nextV leastL mostL openL wins1
  cases p with
  | true =>
    simp only [if_true, reduceCtorEq, false_and, or_false]
    rw [← h1]
    split <;> omega
  | false =>
    simp only [Bool.false_eq_true, if_false, true_and, Bool.and_eq_true, Bool.not_eq_true']
    rw [h3]
    simp only [Bool.not_eq_true']
    split
    · rename_i h
      constructor
      · intro h; omega
      · rintro ⟨k1, k2⟩
        rcases h with h | h
        · have := h1.2 (any_of_all k2 k1); omega
        · rw [k2] at h; cases h
    · rename_i h
      constructor
      · intro h4
        refine ⟨?_, ?_⟩
        · cases l with
          | nil => exfalso; apply h; left; simp
          | cons => rfl
        · by_cases h5 : l.all (isIn W) = true
          · exact h5
          · exfalso; apply h; right; simpa using h5
      · rintro ⟨k1, k2⟩
        have := h2.2 (any_of_all k2 k1); omega

theorem k83 {pl wn : List Bool} {mv : List (List Int)} {W : List Int} {i : Nat} (hi : i < mv.length) (hpl : pl.length = mv.length) (hW : W.length = mv.length) (hin : inside mv.length (mv.getD i [])) (hb : ∀ x : Int, getI W x ≤ 2 ^ 60) :
    E.Fn Try.prog 83 [mach pl mv wn, .int .i64 i, ints W] [.int .i64 (nextV (pl.getD i false) (mv.getD i []) W)] := by
  refine fn_of_row okf83 ?_
  have hx : mv[i]? = some (mv.getD i []) := by rw [List.getD_eq_getElem?_getD, List.getElem?_eq_getElem hi, Option.getD_some]
  have hy : pl[i]? = some (pl.getD i false) := by rw [List.getD_eq_getElem?_getD, List.getElem?_eq_getElem (by omega), Option.getD_some]
  have hi2 : i < pl.length := by omega
  generalize mv.getD i [] = l at *
  generalize pl.getD i false = b at *
  simp only [FRow.start, f83, c83r0, c83r1, c83r2, c83r3, mach, bools, ints, hx, hi, go_sem, ↓reduceIte, reduceCtorEq, Nat.reduceAdd, Nat.reduceSub, Nat.reduceLT, Nat.reduceLeDiff]
  refine loop_rule (fun n τ => ∃ j : Nat, n = l.length - j ∧ j ≤ l.length ∧
    τ = ⟨[.any, .s (.int .i64 i), .s (.slice (W.map (.int .i64))), .s (.ptr [.slice (pl.map .bool), .slice (mv.map ints), .slice (wn.map .bool)]), .any, .any, .any, .s (.slice (l.map (.int .i64))), .s (.int .i64 (leastL W (l.take j))), .s (.int .i64 (mostL W (l.take j))), .s (.bool (openL W (l.take j))), .s (.int .i64 j), .any, .any, .any, .any, .any, .any, .any, .any, .any, .any, .any, .any, .any, .any, .any, .any, .any, .any, .any, .any, .any, .any, .any, .any, .any, .any, .any, .any, .any, .any, .any, .any, .any, .any, .any, .any, .any, .any, .any, .any, .any, .any, .any, .any, .any, .any, .any, .any, .any, .any, .any, .any, .any, .any], []⟩) l.length rfl ?_ ?_
  · simp only [c83l12m, go_sem, ↓reduceIte, reduceCtorEq, Nat.reduceAdd, Nat.reduceSub, Nat.reduceLT, Nat.reduceLeDiff]
    exact ⟨0, rfl, Nat.zero_le _, rfl⟩
  · rintro I n τ ⟨j, rfl, hj, rfl⟩ hI
    simp only [c83l12, c83r4, go_sem, ↓reduceIte, reduceCtorEq, Nat.reduceAdd, Nat.reduceSub, Nat.reduceLT, Nat.reduceLeDiff]
    intro hlen
    have hlen' : (l.length : Int) ≤ 2 ^ 63 - 1 := Int.le_trans (Int.ofNat_le.mpr hlen) maxLen_le
    refine ⟨fun hlt => ?_, fun hge => ?_⟩
    · have hz : l[j]? = some l[j] := List.getElem?_eq_getElem hlt
      have hzi := hin _ (List.getElem_mem hlt)
      have h1 : leastL W (l.take (j + 1)) = leastF W (leastL W (l.take j)) _ := fold_succ (leastF W) (-1) hz
      have h2 : mostL W (l.take (j + 1)) = mostF W (mostL W (l.take j)) _ := fold_succ (mostF W) (-1) hz
      have h3 : openL W (l.take (j + 1)) = openF W (openL W (l.take j)) _ := fold_succ (openF W) false hz
      generalize l[j] = x at *
      have hg := getI_get (W := W) hzi.1 (by omega)
      have hl := least_rng (by omega) hb (l.take j) (-1) (by omega) (by omega)
      have hm := most_rng (by omega) hb (l.take j) (-1) (by omega) (by omega)
      have hx0 : x.toNat < W.length := by omega
      have goOn : ∀ a m o, leastL W (l.take (j + 1)) = a → mostL W (l.take (j + 1)) = m → openL W (l.take (j + 1)) = o → I ⟨[.any, .s (.int .i64 i), .s (.slice (W.map (.int .i64))), .s (.ptr [.slice (pl.map .bool), .slice (mv.map ints), .slice (wn.map .bool)]), .any, .any, .any, .s (.slice (l.map (.int .i64))), .s (.int .i64 a), .s (.int .i64 m), .s (.bool o), .s (.int .i64 (j + 1)), .any, .any, .any, .any, .any, .any, .any, .any, .any, .any, .any, .any, .any, .any, .any, .any, .any, .any, .any, .any, .any, .any, .any, .any, .any, .any, .any, .any, .any, .any, .any, .any, .any, .any, .any, .any, .any, .any, .any, .any, .any, .any, .any, .any, .any, .any, .any, .any, .any, .any, .any, .any, .any, .any], []⟩ := fun a m o e1 e2 e3 =>
        hI (l.length - (j + 1)) _ (by omega) ⟨j + 1, rfl, by omega, by rw [e1, e2, e3]; simp⟩
      have hl' : -1 ≤ leastL W (l.take j) ∧ leastL W (l.take j) ≤ 2 ^ 60 := hl
      have hm' : -1 ≤ mostL W (l.take j) ∧ mostL W (l.take j) ≤ 2 ^ 60 := hm
      generalize leastL W (l.take j) = a at *
      generalize mostL W (l.take j) = m at *
      generalize openL W (l.take j) = o at *
      simp only [c83r5, hz, hlt, hg, hx0, go_sem, ↓reduceIte, reduceCtorEq, Nat.reduceAdd, Nat.reduceSub, Nat.reduceLT, Nat.reduceLeDiff]
      refine ⟨hzi.1, ?_⟩
      have hmx : ∀ a', leastL W (l.take (j + 1)) = a' → ¬ getI W x < 0 → openL W (l.take (j + 1)) = o →
          I ⟨[.any, .s (.int .i64 i), .s (.slice (W.map (.int .i64))), .s (.ptr [.slice (pl.map .bool), .slice (mv.map ints), .slice (wn.map .bool)]), .any, .any, .any, .s (.slice (l.map (.int .i64))), .s (.int .i64 a'), .s (.int .i64 (if m < getI W x then getI W x else m)), .s (.bool o), .s (.int .i64 (j + 1)), .any, .any, .any, .any, .any, .any, .any, .any, .any, .any, .any, .any, .any, .any, .any, .any, .any, .any, .any, .any, .any, .any, .any, .any, .any, .any, .any, .any, .any, .any, .any, .any, .any, .any, .any, .any, .any, .any, .any, .any, .any, .any, .any, .any, .any, .any, .any, .any, .any, .any, .any, .any, .any, .any], []⟩ := fun a' e1 hn e3 =>
        goOn _ _ _ e1 (by rw [h2, mostF, if_neg hn]) e3
      simp only [c83r6, go_sem, ↓reduceIte, reduceCtorEq, Nat.reduceAdd, Nat.reduceSub, Nat.reduceLT, Nat.reduceLeDiff]
      refine ⟨fun hn => ?_, fun hn => ?_⟩
      · simp only [c83r7, c83r11, c83l12m, go_sem, ↓reduceIte, reduceCtorEq, Nat.reduceAdd, Nat.reduceSub, Nat.reduceLT, Nat.reduceLeDiff]
        exact ⟨inR_i64 (by omega) (by omega), goOn _ _ _ (by rw [h1, leastF, if_pos hn]) (by rw [h2, mostF, if_pos hn]) (by rw [h3, openF, if_pos hn])⟩
      · rw [leastF, if_neg hn] at h1
        rw [openF, if_neg hn] at h3
        simp only [c83r8, go_sem, ↓reduceIte, reduceCtorEq, Nat.reduceAdd, Nat.reduceSub, Nat.reduceLT, Nat.reduceLeDiff]
        refine ⟨fun ha => ?_, fun ha => ⟨fun hb2 => ?_, fun hb2 => ?_⟩⟩
        · rw [if_pos (.inl ha)] at h1
          simp only [c83r9, c83r10, maxL, c83r11, c83l12m, go_sem, ↓reduceIte, reduceCtorEq, Nat.reduceAdd, Nat.reduceSub, Nat.reduceLT, Nat.reduceLeDiff]
          exact ⟨by simp, inR_i64 (by omega) (by omega), hmx _ h1 hn h3⟩
        · rw [if_pos (.inr hb2)] at h1
          simp only [c83r9, c83r10, maxL, c83r11, c83l12m, go_sem, ↓reduceIte, reduceCtorEq, Nat.reduceAdd, Nat.reduceSub, Nat.reduceLT, Nat.reduceLeDiff]
          exact ⟨by simp, inR_i64 (by omega) (by omega), hmx _ h1 hn h3⟩
        · rw [if_neg (by omega)] at h1
          simp only [c83r10, maxL, c83r11, c83l12m, go_sem, ↓reduceIte, reduceCtorEq, Nat.reduceAdd, Nat.reduceSub, Nat.reduceLT, Nat.reduceLeDiff]
          exact ⟨by simp, inR_i64 (by omega) (by omega), hmx _ h1 hn h3⟩
    · have hie : j = l.length := by omega
      subst hie
      have hl' : -1 ≤ leastL W l ∧ leastL W l ≤ 2 ^ 60 := least_rng (by omega) hb l (-1) (by omega) (by omega)
      have hm' : -1 ≤ mostL W l ∧ mostL W l ≤ 2 ^ 60 := most_rng (by omega) hb l (-1) (by omega) (by omega)
      rw [List.take_length, nextV]
      generalize leastL W l = a at *
      generalize mostL W l = m at *
      generalize openL W l = o at *
      cases b with
      | true =>
        simp only [c83r13, hy, hi2, go_sem, ↓reduceIte, reduceCtorEq, Nat.reduceAdd, Nat.reduceSub, Nat.reduceLT, Nat.reduceLeDiff]
        refine ⟨fun ha => ?_, fun ha => ?_⟩
        · simp only [c83r14, ha, true_or, go_sem, ↓reduceIte, reduceCtorEq, Nat.reduceAdd, Nat.reduceSub, Nat.reduceLT, Nat.reduceLeDiff]
        · simp only [c83r15, hy, hi2, c83r16, ha, false_and, or_false, go_sem, ↓reduceIte, reduceCtorEq, Nat.reduceAdd, Nat.reduceSub, Nat.reduceLT, Nat.reduceLeDiff]
          exact inR_i64 (by omega) (by omega)
      | false =>
        simp only [c83r13, hy, hi2, go_sem, ↓reduceIte, reduceCtorEq, Nat.reduceAdd, Nat.reduceSub, Nat.reduceLT, Nat.reduceLeDiff]
        refine ⟨fun ha => ?_, fun ha => ?_⟩
        · simp only [c83r14, ha, true_or, go_sem, ↓reduceIte, reduceCtorEq, Nat.reduceAdd, Nat.reduceSub, Nat.reduceLT, Nat.reduceLeDiff]
        · cases o with
          | true =>
            simp only [c83r14, or_true, go_sem, ↓reduceIte, reduceCtorEq, Nat.reduceAdd, Nat.reduceSub, Nat.reduceLT, Nat.reduceLeDiff]
          | false =>
            simp only [c83r15, hy, hi2, c83r17, ha, Bool.false_eq_true, or_false, go_sem, ↓reduceIte, reduceCtorEq, Nat.reduceAdd, Nat.reduceSub, Nat.reduceLT, Nat.reduceLeDiff]
            exact inR_i64 (by omega) (by omega)

theorem flat_rep1 {α : Type} (x : α) : ∀ n : Nat, (List.replicate n [x]).flatten = List.replicate n x
  | 0 => rfl
  | n + 1 => by rw [List.replicate_succ, List.flatten_cons, flat_rep1 x n]; rfl
theorem splice_row {F : List Int} {i : Nat} {n : Int} (hi : i < F.length) : splice (F.map (SV.int .i64)) i [.int .i64 n] = (F.set i n).map (SV.int .i64) := by
  rw [splice_set (by simpa using hi), List.map_set]

theorem flatE_ints : ∀ (W : List Int), flatE (W.map (SV.int .i64)) = W.map (SV.int .i64)
  | [] => rfl
  | x :: W => by
    have ih := flatE_ints W
    simp only [flatE, List.map_cons, List.flatten_cons, SV.cells] at ih ⊢
    rw [ih]; rfl
theorem one_cells {W : List Int} : ∀ y ∈ W.map (SV.int .i64), y.cells.length = 1 := by
  intro y hy
  obtain ⟨x, _, rfl⟩ := List.mem_map.1 hy
  rfl

theorem k59 {pl wn : List Bool} {mv : List (List Int)} (h0 : 1 ≤ mv.length) (hn : mv.length ≤ 14) (hpl : pl.length = mv.length) (hwn : wn.length = mv.length) (hmv : ∀ l ∈ mv, inside mv.length l) :
    E.Fn Try.prog 59 [mach pl mv wn] [ints (distW pl mv wn)] := by
  refine fn_of_row okf59 ?_
  have hswl : (startW wn).length = mv.length := by simp [startW, hwn]
  simp only [FRow.start, f59, c59r0, c59r1, c59r2, c59r3, mach, bools, flat_rep1, go_sem, ↓reduceIte, reduceCtorEq, Nat.reduceAdd, Nat.reduceSub, Nat.reduceLT, Nat.reduceLeDiff]
  intro hml
  refine ⟨by omega, by omega, ?_⟩
  refine loop_rule (fun n τ => ∃ (i : Nat), n = mv.length - i ∧ i ≤ mv.length ∧
    τ = ⟨[.any, .s (.ptr [.slice (pl.map .bool), .slice (mv.map ints), .slice (wn.map .bool)]), .any, .s (.int .i64 mv.length), .sl 0 0 mv.length 1 true, .s (.int .i64 i), .any, .any, .any, .any, .any, .any, .any, .any, .any, .any, .any, .any, .any, .any, .any, .any, .any, .any, .any, .any, .any, .any, .any, .any, .any, .any, .any, .any, .any, .any, .any, .any, .any, .any, .any, .any, .any, .any, .any, .any, .any, .any, .any, .any, .any, .any, .any, .any, .any, .any, .any, .any, .any, .any], [.row (((startW wn).take i ++ List.replicate (mv.length - i) 0).map (SV.int .i64))]⟩) mv.length rfl ?_ ?_
  · simp only [c59l9m, go_sem, ↓reduceIte, reduceCtorEq, Nat.reduceAdd, Nat.reduceSub, Nat.reduceLT, Nat.reduceLeDiff]
    exact ⟨0, rfl, Nat.zero_le _, by simp⟩
  · rintro I n τ ⟨i, rfl, hi, rfl⟩ hI
    generalize hF : (startW wn).take i ++ List.replicate (mv.length - i) 0 = F
    simp only [c59l9, c59r4, go_sem, ↓reduceIte, reduceCtorEq, Nat.reduceAdd, Nat.reduceSub, Nat.reduceLT, Nat.reduceLeDiff]
    refine ⟨fun hlt => ?_, fun hge => ?_⟩
    · have hlt' : i < mv.length := by omega
      have hx : wn[i]? = some wn[i] := List.getElem?_eq_getElem (by omega)
      have hi2 : i < wn.length := by omega
      have hs : (startW wn)[i]? = some (if wn[i] then 0 else -1) := by simp [startW, hx]
      have hFl : F.length = mv.length := by rw [← hF]; simp; omega
      have hset : ∀ u v, (startW wn)[i]? = some v → (F.set i u).set i v = (startW wn).take (i + 1) ++ List.replicate (mv.length - (i + 1)) 0 := fun u v hv => by
        rw [List.set_set, ← hF, show mv.length - i = (mv.length - (i + 1)) + 1 by omega, pre_set (by simp; omega), List.take_succ, hv]
        rfl
      have hset1 : ∀ v, (startW wn)[i]? = some v → F.set i v = (startW wn).take (i + 1) ++ List.replicate (mv.length - (i + 1)) 0 := fun v hv => by
        rw [← hset v v hv, List.set_set]
      generalize wn[i] = b at *
      simp only [c59r5, Nat.mul_one, go_sem, ↓reduceIte, reduceCtorEq, Nat.reduceAdd, Nat.reduceSub, Nat.reduceLT, Nat.reduceLeDiff]
      refine ⟨by omega, by omega, ?_⟩
      rw [splice_row (by omega)]
      cases b with
      | true =>
        simp only [c59r6, hx, hi2, c59r7, Nat.mul_one, go_sem, ↓reduceIte, reduceCtorEq, Nat.reduceAdd, Nat.reduceSub, Nat.reduceLT, Nat.reduceLeDiff]
        refine ⟨by omega, by simp; omega, ?_⟩
        rw [splice_row (by simp; omega), hset _ 0 (by simpa using hs)]
        simp only [c59r8, c59l9m, go_sem, ↓reduceIte, reduceCtorEq, Nat.reduceAdd, Nat.reduceSub, Nat.reduceLT, Nat.reduceLeDiff]
        exact ⟨inR_i64 (by omega) (by omega), hI (mv.length - (i + 1)) _ (by omega) ⟨i + 1, rfl, by omega, by simp⟩⟩
      | false =>
        simp only [c59r6, hx, hi2, go_sem, ↓reduceIte, reduceCtorEq, Nat.reduceAdd, Nat.reduceSub, Nat.reduceLT, Nat.reduceLeDiff]
        rw [hset1 (-1) (by simpa using hs)]
        simp only [c59r8, c59l9m, go_sem, ↓reduceIte, reduceCtorEq, Nat.reduceAdd, Nat.reduceSub, Nat.reduceLT, Nat.reduceLeDiff]
        exact ⟨inR_i64 (by omega) (by omega), hI (mv.length - (i + 1)) _ (by omega) ⟨i + 1, rfl, by omega, by simp⟩⟩
    · have hie : i = mv.length := by omega
      subst hie
      have hF1 : F = iterW pl mv wn 0 := by rw [← hF, ← hswl, List.take_length]; simp [iterW]
      clear hF hI hge
      rw [hF1]
      simp only [c59r10, go_sem, ↓reduceIte, reduceCtorEq, Nat.reduceAdd, Nat.reduceSub, Nat.reduceLT, Nat.reduceLeDiff]
      refine loop_rule (fun n τ => ∃ (k : Nat), n = mv.length - k ∧ k ≤ mv.length ∧
        τ = ⟨[.any, .s (.ptr [.slice (pl.map .bool), .slice (mv.map ints), .slice (wn.map .bool)]), .any, .s (.int .i64 mv.length), .sl 0 0 mv.length 1 true, .any, .s (.int .i64 ((k : Nat) + 1)), .any, .any, .any, .any, .any, .any, .any, .any, .any, .any, .any, .any, .any, .any, .any, .any, .any, .any, .any, .any, .any, .any, .any, .any, .any, .any, .any, .any, .any, .any, .any, .any, .any, .any, .any, .any, .any, .any, .any, .any, .any, .any, .any, .any, .any, .any, .any, .any, .any, .any, .any, .any, .any], [.row ((iterW pl mv wn k).map (SV.int .i64))]⟩) mv.length rfl ?_ ?_
      · simp only [c59l20m, go_sem, ↓reduceIte, reduceCtorEq, Nat.reduceAdd, Nat.reduceSub, Nat.reduceLT, Nat.reduceLeDiff]
        exact ⟨0, rfl, Nat.zero_le _, by simp⟩
      · rintro I n τ ⟨k, rfl, hk, rfl⟩ hI
        have hWl := iterW_len (pl := pl) hwn k
        have hrng := iterW_rng (pl := pl) (mv := mv) (wn := wn) k
        have hstep : iterW pl mv wn (k + 1) = roundW pl mv (k + 1) (iterW pl mv wn k) := rfl
        generalize hW : iterW pl mv wn k = W at *
        have hgr := getI_rng (by omega) hrng
        simp only [c59l20, c59r11, go_sem, ↓reduceIte, reduceCtorEq, Nat.reduceAdd, Nat.reduceSub, Nat.reduceLT, Nat.reduceLeDiff]
        refine ⟨fun hle => ?_, fun hgt => ?_⟩
        · have hro : rowOf 0 mv.length 1 (W.map (SV.int .i64)) = some (W.map (SV.int .i64)) := rowOf_all (by simp; omega)
          have hne : W.map (SV.int .i64) ≠ [] := fun e => by have := congrArg List.length e; rw [List.length_map] at this; simp only [List.length_nil] at this; omega
          have hmid0 := midW_0 (pl := pl) (mv := mv) (r := (k : Int) + 1) hWl
          simp only [c59r12, hro, go_sem, ↓reduceIte, reduceCtorEq, Nat.reduceAdd, Nat.reduceSub, Nat.reduceLT, Nat.reduceLeDiff]
          refine ⟨by decide, by decide, rfl, by simp, ⟨by simp, one_cells, by simp only [List.length_nil, List.length_map]; omega, by simp only [List.length_nil, List.length_map]; omega, by decide⟩, fun e => absurd e hne, fun _ => ?_⟩
          simp only [flatE_ints, c59r13, go_sem, ↓reduceIte, reduceCtorEq, Nat.reduceAdd, Nat.reduceSub, Nat.reduceLT, Nat.reduceLeDiff]
          refine loop_rule (fun n τ => ∃ (i : Nat), n = mv.length - i ∧ i ≤ mv.length ∧
            τ = ⟨[.any, .s (.ptr [.slice (pl.map .bool), .slice (mv.map ints), .slice (wn.map .bool)]), .any, .s (.int .i64 mv.length), .sl 0 0 mv.length 1 true, .any, .s (.int .i64 ((k : Nat) + 1)), .sl 1 0 W.length 1 false, .s (.int .i64 i), .any, .any, .any, .any, .any, .any, .any, .any, .any, .any, .any, .any, .any, .any, .any, .any, .any, .any, .any, .any, .any, .any, .any, .any, .any, .any, .any, .any, .any, .any, .any, .any, .any, .any, .any, .any, .any, .any, .any, .any, .any, .any, .any, .any, .any, .any, .any, .any, .any, .any, .any], [.row ((midW pl mv (k + 1) W i).map (SV.int .i64)), .row (W.map (SV.int .i64))]⟩) mv.length rfl ?_ ?_
          · simp only [c59l18m, go_sem, ↓reduceIte, reduceCtorEq, Nat.reduceAdd, Nat.reduceSub, Nat.reduceLT, Nat.reduceLeDiff]
            exact ⟨0, rfl, Nat.zero_le _, by rw [hmid0]; simp⟩
          · rintro I2 n τ ⟨i, rfl, hi, rfl⟩ hI2
            have hmid := midW_len (pl := pl) (mv := mv) (r := (k : Int) + 1) (W := W) (i := i)
            have hmn := midW_n (pl := pl) (mv := mv) (r := (k : Int) + 1) (W := W)
            have hms := midW_succ (pl := pl) (mv := mv) (r := (k : Int) + 1) (W := W) (i := i)
            have hsame := fun h1 h2 => midW_same (pl := pl) (mv := mv) (r := (k : Int) + 1) (W := W) (i := i) h1 h2
            simp only [c59l18, c59r14, go_sem, ↓reduceIte, reduceCtorEq, Nat.reduceAdd, Nat.reduceSub, Nat.reduceLT, Nat.reduceLeDiff]
            refine ⟨fun hlt => ?_, fun hge => ?_⟩
            · have hlt : i < mv.length := by omega
              have hlp := hmv (mv.getD i []) (by rw [List.getD_eq_getElem?_getD, List.getElem?_eq_getElem hlt]; simp)
              have hg : W[i]? = some (getI W i) := by
                have := getI_get (W := W) (x := i) (by omega) (by omega)
                rwa [Int.toNat_natCast] at this
              have hnx : nxt pl mv (↑k + 1) W i = if getI W i < 0 ∧ wins1 (pl.getD i false) (mv.getD i []) (isIn W) = true then ((k : Int) + 1) else getI W i := rfl
              generalize hM : midW pl mv (↑k + 1) W i = M at *
              have hkeep : nxt pl mv (↑k + 1) W i = getI W i → I2 ⟨[.any, .s (.ptr [.slice (pl.map .bool), .slice (mv.map ints), .slice (wn.map .bool)]), .any, .s (.int .i64 mv.length), .sl 0 0 mv.length 1 true, .any, .s (.int .i64 ((k : Nat) + 1)), .sl 1 0 W.length 1 false, .s (.int .i64 (i + 1)), .any, .any, .any, .any, .any, .any, .any, .any, .any, .any, .any, .any, .any, .any, .any, .any, .any, .any, .any, .any, .any, .any, .any, .any, .any, .any, .any, .any, .any, .any, .any, .any, .any, .any, .any, .any, .any, .any, .any, .any, .any, .any, .any, .any, .any, .any, .any, .any, .any, .any, .any], [.row (M.map (SV.int .i64)), .row (W.map (SV.int .i64))]⟩ := fun he =>
                hI2 (mv.length - (i + 1)) _ (by omega) ⟨i + 1, rfl, by omega, by rw [hsame hlt he]; simp⟩
              have hso : sliceOf 0 W.length 1 (W.map (SV.int .i64)) = some (.slice (W.map (SV.int .i64))) := sliceOf_all (by simp)
              have hsg := nextV_sign (p := pl.getD i false) (l := mv.getD i []) (W := W)
              simp only [c59r15, hg, Nat.mul_one, Nat.zero_add, go_sem, ↓reduceIte, reduceCtorEq, Nat.reduceAdd, Nat.reduceSub, Nat.reduceLT, Nat.reduceLeDiff]
              refine ⟨by omega, fun hneg => ?_, fun hneg => ?_⟩
              · refine callK_of (by simp only [hso, mach, bools, ints, go_sem, ↓reduceIte, reduceCtorEq, Nat.reduceAdd, Nat.reduceSub, Nat.reduceLT, Nat.reduceLeDiff]) (k83 (pl := pl) (wn := wn) hlt hpl hWl hlp fun x => by have := (hgr x).2; omega) (.inl rfl) ?_
                cases hw : wins1 (pl.getD i false) (mv.getD i []) (isIn W) with
                | true =>
                  rw [if_pos ⟨hneg, hw⟩] at hnx
                  rw [hnx] at hms
                  have hge : decide (0 ≤ nextV (pl.getD i false) (mv.getD i []) W) = true := by simpa using hsg.2 hw
                  simp only [hge, c59r16, Nat.mul_one, Nat.zero_add, go_sem, ↓reduceIte, reduceCtorEq, Nat.reduceAdd, Nat.reduceSub, Nat.reduceLT, Nat.reduceLeDiff]
                  refine ⟨by omega, by omega, ?_⟩
                  rw [splice_row (by omega), hms]
                  simp only [c59r17, c59l18m, go_sem, ↓reduceIte, reduceCtorEq, Nat.reduceAdd, Nat.reduceSub, Nat.reduceLT, Nat.reduceLeDiff]
                  exact ⟨inR_i64 (by omega) (by omega), hI2 (mv.length - (i + 1)) _ (by omega) ⟨i + 1, rfl, by omega, by simp⟩⟩
                | false =>
                  rw [if_neg (fun h => by have h := h.2; rw [hw] at h; cases h)] at hnx
                  have hge : decide (0 ≤ nextV (pl.getD i false) (mv.getD i []) W) = false := by
                    rw [decide_eq_false_iff_not]
                    intro h
                    have := hsg.1 h
                    rw [hw] at this; cases this
                  simp only [hge, c59r17, c59l18m, go_sem, ↓reduceIte, reduceCtorEq, Nat.reduceAdd, Nat.reduceSub, Nat.reduceLT, Nat.reduceLeDiff]
                  exact ⟨inR_i64 (by omega) (by omega), hkeep hnx⟩
              · rw [if_neg (fun h => hneg h.1)] at hnx
                simp only [c59r17, c59l18m, go_sem, ↓reduceIte, reduceCtorEq, Nat.reduceAdd, Nat.reduceSub, Nat.reduceLT, Nat.reduceLeDiff]
                exact ⟨inR_i64 (by omega) (by omega), hkeep hnx⟩
            · have hie : i = mv.length := by omega
              subst hie
              rw [hmn, ← hstep]
              simp only [c59r19, c59l20m, go_sem, ↓reduceIte, reduceCtorEq, Nat.reduceAdd, Nat.reduceSub, Nat.reduceLT, Nat.reduceLeDiff]
              exact ⟨inR_i64 (by omega) (by omega), hI (mv.length - (k + 1)) _ (by omega) ⟨k + 1, rfl, by omega, by simp⟩⟩
        · have hkn : k = mv.length := by omega
          subst hkn
          have hd : distW pl mv wn = W := hW
          have hso : sliceOf 0 mv.length 1 (W.map (SV.int .i64)) = some (.slice (W.map (SV.int .i64))) := sliceOf_all (by simp; omega)
          rw [hd]
          simp only [c59r21, hso, ints, go_sem, ↓reduceIte, reduceCtorEq, Nat.reduceAdd, Nat.reduceSub, Nat.reduceLT, Nat.reduceLeDiff]
end Go.Proofs.Ytglmjdpmpgphkaa.Sk

/- Contracts of functions: a board that is opened; the distances, of both. -/
namespace Go.Proofs.Ytglmjdpmpgphkaa.Sk
open Go Go.E Go.E.Sm
set_option maxRecDepth 10000

theorem rise_mem : ∀ (lo below : Int) (l : List Int), rise lo below l = true → ∀ x ∈ l, lo ≤ x ∧ x < below
  | _, _, [], _ => by simp
  | lo, below, y :: l, h => by
    simp only [rise, Bool.and_eq_true, decide_eq_true_eq] at h
    intro x hx
    rcases List.mem_cons.1 hx with rfl | hx
    · exact h.1
    · have := rise_mem _ _ l h.2 x hx
      omega

structure Valid (pl : List Bool) (mv : List (List Int)) (wn : List Bool) : Prop where
  pos : 1 ≤ mv.length
  few : mv.length ≤ 14
  pl : pl.length = mv.length
  wn : wn.length = mv.length
  ris : ∀ l ∈ mv, rise 0 mv.length l = true

theorem Valid.ins {pl wn : List Bool} {mv : List (List Int)} (h : Valid pl mv wn) : ∀ l ∈ mv, inside mv.length l := fun l hl => rise_mem _ _ l (h.ris l hl)

theorem valid_of {pl wn : List Bool} {mv : List (List Int)} (h : chkM pl mv wn = 0) : Valid pl mv wn := by
  unfold chkM at h
  split at h
  · omega
  · split at h
    · omega
    · split at h
      · rename_i h1 h2 h3
        rw [List.all_eq_true] at h3
        exact ⟨by omega, by omega, by omega, by omega, h3⟩
      · omega
theorem of_valid {pl wn : List Bool} {mv : List (List Int)} (h : Valid pl mv wn) : chkM pl mv wn = 0 := by
  have := h.pos
  have := h.few
  have := h.pl
  have := h.wn
  unfold chkM
  rw [if_neg (by omega), if_neg (by omega), if_pos (List.all_eq_true.2 h.ris)]
def boardV (pl : List Bool) (mv : List (List Int)) (wn : List Bool) : SV := .ptr (bools pl :: .slice (mv.map ints) :: bools wn :: (pad (distW pl mv wn)).map (.int .i64))

theorem k58e {pl wn : List Bool} {mv : List (List Int)} {ps : List Int} (h : chkM pl mv wn ≠ 0) : E.Fn Try.prog 58 [mach pl mv wn, ints ps] [.nilp, .int .i64 (chkM pl mv wn)] := by
  refine fn_of_row okf58 ?_
  simp only [FRow.start, f58, c58r0, c58r1, mach, bools, go_sem, ↓reduceIte, reduceCtorEq, Nat.reduceAdd, Nat.reduceSub, Nat.reduceLT, Nat.reduceLeDiff]
  refine callK_of rfl (k20 (pl := pl) (mv := mv) (wn := wn)) (.inl rfl) ?_
  simp only [c58r2, h, c58r3, go_sem, ↓reduceIte, reduceCtorEq, Nat.reduceAdd, Nat.reduceSub, Nat.reduceLT, Nat.reduceLeDiff]
theorem k58p {pl wn : List Bool} {mv : List (List Int)} {ps : List Int} (h : Valid pl mv wn) (hp : inAll 0 ((mv.length : Int) - 1) ps = false) : E.Fn Try.prog 58 [mach pl mv wn, ints ps] [.nilp, .int .i64 2] := by
  refine fn_of_row okf58 ?_
  have h0 := of_valid h
  have h1 := h.few
  simp only [FRow.start, f58, c58r0, c58r1, mach, bools, go_sem, ↓reduceIte, reduceCtorEq, Nat.reduceAdd, Nat.reduceSub, Nat.reduceLT, Nat.reduceLeDiff]
  refine callK_of rfl (k20 (pl := pl) (mv := mv) (wn := wn)) (.inl rfl) ?_
  simp only [c58r2, h0, c58r4, go_sem, ↓reduceIte, reduceCtorEq, Nat.reduceAdd, Nat.reduceSub, Nat.reduceLT, Nat.reduceLeDiff]
  refine ⟨inR_i64 (by omega) (by omega), callK_of rfl (k60 (l := ps)) (.inl rfl) ?_⟩
  simp only [hp, go_sem, ↓reduceIte, reduceCtorEq, Nat.reduceAdd, Nat.reduceSub, Nat.reduceLT, Nat.reduceLeDiff]
  intro _
  simp only [c58r5, go_sem, ↓reduceIte, reduceCtorEq, Nat.reduceAdd, Nat.reduceSub, Nat.reduceLT, Nat.reduceLeDiff]
theorem k58 {pl wn : List Bool} {mv : List (List Int)} {ps : List Int} (h : Valid pl mv wn) (hp : inAll 0 ((mv.length : Int) - 1) ps = true) : E.Fn Try.prog 58 [mach pl mv wn, ints ps] [boardV pl mv wn, .int .i64 0] := by
  refine fn_of_row okf58 ?_
  have h0 := of_valid h
  have h1 := h.few
  simp only [FRow.start, f58, c58r0, c58r1, mach, bools, go_sem, ↓reduceIte, reduceCtorEq, Nat.reduceAdd, Nat.reduceSub, Nat.reduceLT, Nat.reduceLeDiff]
  refine callK_of rfl (k20 (pl := pl) (mv := mv) (wn := wn)) (.inl rfl) ?_
  simp only [c58r2, h0, c58r4, go_sem, ↓reduceIte, reduceCtorEq, Nat.reduceAdd, Nat.reduceSub, Nat.reduceLT, Nat.reduceLeDiff]
  refine ⟨inR_i64 (by omega) (by omega), callK_of rfl (k60 (l := ps)) (.inl rfl) ?_⟩
  simp only [hp, go_sem, ↓reduceIte, reduceCtorEq, Nat.reduceAdd, Nat.reduceSub, Nat.reduceLT, Nat.reduceLeDiff]
  intro _
  simp only [c58r6, go_sem, ↓reduceIte, reduceCtorEq, Nat.reduceAdd, Nat.reduceSub, Nat.reduceLT, Nat.reduceLeDiff]
  refine callK_of rfl (k80 h.few h.pl h.wn h.ins) (.inr rfl) ?_
  simp only [boardV, bools, go_sem, ↓reduceIte, reduceCtorEq, Nat.reduceAdd, Nat.reduceSub, Nat.reduceLT, Nat.reduceLeDiff]

theorem distW_len {pl wn : List Bool} {mv : List (List Int)} (h : Valid pl mv wn) : (distW pl mv wn).length = mv.length := iterW_len h.wn _

end Go.Proofs.Ytglmjdpmpgphkaa.Sk

/- Sets of positions, by bits, and how few answers are taken away for them. -/
namespace Go.Proofs.Ytglmjdpmpgphkaa.Sk
open Go Go.E
set_option linter.all false

theorem wrap64 {n : Nat} (h : n < 2 ^ 62) : IntKind.wrap .i64 (n : Int) = (n : Int) := by
  have e : (2 : Nat) ^ 62 = 4611686018427387904 := by decide
  exact inR_i64 (by omega) (by omega)
theorem ofInt_nat {a : Nat} (h : a < 2 ^ 62) : (BitVec.ofInt 64 (a : Int)).toNat = a := by
  have e : (2 : Nat) ^ 62 < 2 ^ 64 := by decide
  rw [BitVec.ofInt_natCast, BitVec.toNat_ofNat, Nat.mod_eq_of_lt (Nat.lt_trans h e)]
theorem bit_or {a b : Nat} (ha : a < 2 ^ 62) (hb : b < 2 ^ 62) : bitOf .i64 (a : Int) (b : Int) .or = ((a ||| b : Nat) : Int) := by
  unfold bitOf
  simp only
  rw [show IntKind.bits .i64 = 64 from rfl, BitVec.toNat_or, ofInt_nat ha, ofInt_nat hb]
  exact wrap64 (Nat.or_lt_two_pow ha hb)
theorem bit_and {a b : Nat} (ha : a < 2 ^ 62) (hb : b < 2 ^ 62) : bitOf .i64 (a : Int) (b : Int) .and = ((a &&& b : Nat) : Int) := by
  unfold bitOf
  simp only
  rw [show IntKind.bits .i64 = 64 from rfl, BitVec.toNat_and, ofInt_nat ha, ofInt_nat hb]
  exact wrap64 (Nat.lt_of_le_of_lt Nat.and_le_left ha)
theorem shr_nat {a i : Nat} : (a : Int).fdiv (2 ^ i) = ((a / 2 ^ i : Nat) : Int) := by
  rw [show (2 : Int) ^ i = ((2 ^ i : Nat) : Int) by simp]
  exact (Int.ofNat_fdiv a (2 ^ i)).symm
theorem low_bit {a i : Nat} (ha : a < 2 ^ 62) : bitOf .i64 ((a : Int).fdiv (2 ^ i)) 1 .and = if a.testBit i then 1 else 0 := by
  have h1 : a / 2 ^ i < 2 ^ 62 := Nat.lt_of_le_of_lt (Nat.div_le_self _ _) ha
  rw [shr_nat, show (1 : Int) = ((1 : Nat) : Int) from rfl, bit_and h1 (by decide), Nat.and_one_is_mod]
  have h2 : a.testBit i = decide (a / 2 ^ i % 2 = 1) := by rw [Nat.testBit_eq_decide_div_mod_eq]
  rw [h2]
  have := Nat.mod_lt (a / 2 ^ i) (show 0 < 2 by decide)
  by_cases h : a / 2 ^ i % 2 = 1
  · rw [decide_eq_true h, h]; rfl
  · rw [decide_eq_false h, show a / 2 ^ i % 2 = 0 by omega]; rfl
theorem hasB_nat {a i : Nat} (ha : a < 2 ^ 62) : hasB (a : Int) (i : Int) = a.testBit i := by
  unfold hasB
  rw [Int.toNat_natCast, low_bit ha]
  cases a.testBit i <;> simp
theorem b2i_nat {a : Nat} {x : Int} (ha : a < 2 ^ 62) (hx : 0 ≤ x) : b2i (a : Int) x = bitOf .i64 ((a : Int).fdiv (2 ^ x.toNat)) 1 .and := by
  obtain ⟨i, rfl⟩ := Int.eq_ofNat_of_zero_le hx
  unfold b2i
  rw [hasB_nat ha, Int.toNat_natCast, low_bit ha]

def moreV (pl : List Bool) (mv : List (List Int)) (s i : Nat) : Int := costOf (pl.getD i false) (mv.getD i []) (s : Int)
def gD (C : List Int) (s : Nat) : Int := C.getD s 0
def updC (pl : List Bool) (mv : List (List Int)) (s : Nat) (C : List Int) (i : Nat) : List Int :=
  if s.testBit i = true ∨ moreV pl mv s i < 0 then C else if gD C (s ||| 2 ^ i) < 0 ∨ gD C s + moreV pl mv s i < gD C (s ||| 2 ^ i) then C.set (s ||| 2 ^ i) (gD C s + moreV pl mv s i) else C
def innC (pl : List Bool) (mv : List (List Int)) (s : Nat) (C : List Int) : Nat → List Int
  | 0 => C
  | m + 1 => updC pl mv s (innC pl mv s C m) m
def stpC (pl : List Bool) (mv : List (List Int)) (C : List Int) (s : Nat) : List Int := if gD C s < 0 then C else innC pl mv s C mv.length
def runC (pl : List Bool) (mv : List (List Int)) (C : List Int) : Nat → List Int
  | 0 => C
  | k + 1 => stpC pl mv (runC pl mv C k) k
def wonN (wn : List Bool) : Nat → Nat
  | 0 => 0
  | m + 1 => if wn.getD m false = true then wonN wn m ||| 2 ^ m else wonN wn m
def startC (wn : List Bool) (n : Nat) : List Int := (List.replicate (2 ^ n) (-1)).set (wonN wn n) 0
def bestR (pl : List Bool) (mv : List (List Int)) (C : List Int) (x : Nat) : Nat → Int
  | 0 => -1
  | k + 1 => if gD (runC pl mv C k) k < 0 then bestR pl mv C x k else if k.testBit x = true ∧ (bestR pl mv C x k < 0 ∨ gD (runC pl mv C k) k < bestR pl mv C x k) then gD (runC pl mv C k) k else bestR pl mv C x k
def fewV (pl : List Bool) (mv : List (List Int)) (wn : List Bool) (x : Nat) : Int := bestR pl mv (startC wn mv.length) x (2 ^ mv.length)

theorem wonN_lt {wn : List Bool} : ∀ m, wonN wn m < 2 ^ m
  | 0 => by simp [wonN]
  | m + 1 => by
    have := wonN_lt (wn := wn) m
    have h2 : 2 ^ m < 2 ^ (m + 1) := Nat.pow_lt_pow_right (by decide) (by omega)
    unfold wonN
    split
    · exact Nat.or_lt_two_pow (by omega) h2
    · omega
theorem updC_len {pl : List Bool} {mv : List (List Int)} {s i : Nat} {C : List Int} : (updC pl mv s C i).length = C.length := by
  unfold updC
  split
  · rfl
  · split <;> simp
theorem innC_len {pl : List Bool} {mv : List (List Int)} {s : Nat} {C : List Int} : ∀ m, (innC pl mv s C m).length = C.length
  | 0 => rfl
  | m + 1 => by rw [innC, updC_len, innC_len m]
theorem runC_len {pl : List Bool} {mv : List (List Int)} {C : List Int} : ∀ k, (runC pl mv C k).length = C.length
  | 0 => rfl
  | k + 1 => by
    rw [runC, stpC]
    split
    · exact runC_len k
    · rw [innC_len, runC_len k]
theorem startC_len {wn : List Bool} {n : Nat} : (startC wn n).length = 2 ^ n := by simp [startC]
theorem or_gt {s i : Nat} (h : s.testBit i = false) : s < s ||| 2 ^ i := by
  refine Nat.lt_of_le_of_ne Nat.left_le_or fun e => ?_
  have : (s ||| 2 ^ i).testBit i = true := by rw [Nat.testBit_or, Nat.testBit_two_pow_self]; simp
  rw [← e, h] at this; cases this
theorem updC_low {pl : List Bool} {mv : List (List Int)} {s i t : Nat} {C : List Int} (h : t ≤ s) : gD (updC pl mv s C i) t = gD C t := by
  unfold updC
  split
  · rfl
  · rename_i hn
    split
    · have := or_gt (s := s) (i := i) (by cases hb : s.testBit i with | true => exact absurd (.inl hb) hn | false => rfl)
      unfold gD
      rw [List.getD_eq_getElem?_getD, List.getElem?_set, if_neg (by omega), List.getD_eq_getElem?_getD]
    · rfl
theorem innC_low {pl : List Bool} {mv : List (List Int)} {s t : Nat} {C : List Int} (h : t ≤ s) : ∀ m, gD (innC pl mv s C m) t = gD C t
  | 0 => rfl
  | m + 1 => by rw [innC, updC_low h, innC_low h m]
theorem stpC_low {pl : List Bool} {mv : List (List Int)} {s t : Nat} {C : List Int} (h : t ≤ s) : gD (stpC pl mv C s) t = gD C t := by
  unfold stpC
  split
  · rfl
  · exact innC_low h _
theorem runC_low {pl : List Bool} {mv : List (List Int)} {C : List Int} {t : Nat} : ∀ (k : Nat), t ≤ k → gD (runC pl mv C (k + 1)) t = gD (runC pl mv C k) t := fun k h => stpC_low h
theorem runC_fin {pl : List Bool} {mv : List (List Int)} {C : List Int} {t : Nat} : ∀ (d : Nat), gD (runC pl mv C (t + d)) t = gD (runC pl mv C t) t
  | 0 => rfl
  | d + 1 => by rw [← Nat.add_assoc, runC_low _ (by omega), runC_fin d]
theorem runC_start {pl wn : List Bool} {mv : List (List Int)} : ∀ k, k ≤ wonN wn mv.length → runC pl mv (startC wn mv.length) k = startC wn mv.length ∧ ∀ x, bestR pl mv (startC wn mv.length) x k = -1
  | 0, _ => ⟨rfl, fun _ => rfl⟩
  | k + 1, h => by
    obtain ⟨h1, h2⟩ := runC_start (pl := pl) (wn := wn) (mv := mv) k (by omega)
    have hlt := wonN_lt (wn := wn) mv.length
    have hk : gD (startC wn mv.length) k = -1 := by
      unfold gD startC
      rw [List.getD_eq_getElem?_getD, List.getElem?_set, if_neg (by omega), List.getElem?_replicate, if_pos (by omega)]; rfl
    refine ⟨?_, fun x => ?_⟩
    · rw [runC, h1, stpC, if_pos (by rw [hk]; decide)]
    · rw [bestR, h1, if_pos (by rw [hk]; decide), h2]

theorem more_rng {pl : List Bool} {mv : List (List Int)} {s i : Nat} (hl : (mv.getD i []).length ≤ 14) : -1 ≤ moreV pl mv s i ∧ moreV pl mv s i ≤ 14 := by
  unfold moreV costOf
  have := cnt_rng (s : Int) (mv.getD i [])
  split
  · omega
  · split <;> omega
theorem gD_set {C : List Int} {u t : Nat} {v : Int} : gD (C.set u v) t = if u = t ∧ t < C.length then v else gD C t := by
  unfold gD
  rw [List.getD_eq_getElem?_getD, List.getElem?_set, List.getD_eq_getElem?_getD]
  by_cases e : u = t
  · subst e
    by_cases h : u < C.length
    · rw [if_pos rfl, if_pos h, if_pos ⟨rfl, h⟩]; rfl
    · rw [if_pos rfl, if_neg h, if_neg (fun h2 => h h2.2), List.getElem?_eq_none (by omega)]
  · rw [if_neg e, if_neg (fun h => e h.1)]
theorem updC_bound {pl : List Bool} {mv : List (List Int)} {s i : Nat} {C : List Int} {B : Int} (hl : (mv.getD i []).length ≤ 14) (hc : 0 ≤ gD C s ∧ gD C s ≤ B) (h : ∀ t, -1 ≤ gD C t ∧ gD C t ≤ B + 14) : ∀ t, -1 ≤ gD (updC pl mv s C i) t ∧ gD (updC pl mv s C i) t ≤ B + 14 := by
  intro t
  unfold updC
  split
  · exact h t
  · rename_i hn
    split
    · rw [gD_set]
      have := more_rng (pl := pl) (s := s) hl
      have hm : ¬ moreV pl mv s i < 0 := fun h => hn (.inr h)
      split
      · omega
      · exact h t
    · exact h t
theorem innC_bound {pl : List Bool} {mv : List (List Int)} {s : Nat} {C : List Int} {B : Int} (hl : ∀ i, i < mv.length → (mv.getD i []).length ≤ 14) (hc : 0 ≤ gD C s ∧ gD C s ≤ B) (h : ∀ t, -1 ≤ gD C t ∧ gD C t ≤ B + 14) :
    ∀ m, m ≤ mv.length → ∀ t, -1 ≤ gD (innC pl mv s C m) t ∧ gD (innC pl mv s C m) t ≤ B + 14
  | 0, _ => h
  | m + 1, hm => updC_bound (hl m (by omega)) (by rw [innC_low (Nat.le_refl _)]; exact hc) (innC_bound hl hc h m (by omega))
theorem runC_bound {pl wn : List Bool} {mv : List (List Int)} (hl : ∀ i, i < mv.length → (mv.getD i []).length ≤ 14) : ∀ (k : Nat) (t : Nat), -1 ≤ gD (runC pl mv (startC wn mv.length) k) t ∧ gD (runC pl mv (startC wn mv.length) k) t ≤ 14 * k
  | 0, t => by
    unfold runC startC
    rw [gD_set]
    split
    · omega
    · unfold gD
      rw [List.getD_eq_getElem?_getD, List.getElem?_replicate]
      split <;> simp
  | k + 1, t => by
    have ih := runC_bound (pl := pl) (wn := wn) hl k
    rw [runC, stpC]
    split
    · have := ih t; omega
    · rename_i hn
      have := innC_bound (pl := pl) (s := k) (C := runC pl mv (startC wn mv.length) k) (B := 14 * k) hl ⟨by omega, (ih k).2⟩ (fun t => ⟨(ih t).1, by have := (ih t).2; omega⟩) mv.length (Nat.le_refl _) t
      omega
end Go.Proofs.Ytglmjdpmpgphkaa.Sk

/- Sets of positions: which position was added last, and the way back. -/
namespace Go.Proofs.Ytglmjdpmpgphkaa.Sk
open Go Go.E
set_option linter.all false

def updL (pl : List Bool) (mv : List (List Int)) (s : Nat) (C L : List Int) (i : Nat) : List Int :=
  if s.testBit i = true ∨ moreV pl mv s i < 0 then L else if gD C (s ||| 2 ^ i) < 0 ∨ gD C s + moreV pl mv s i < gD C (s ||| 2 ^ i) then L.set (s ||| 2 ^ i) (i : Int) else L
def innL (pl : List Bool) (mv : List (List Int)) (s : Nat) (C L : List Int) : Nat → List Int
  | 0 => L
  | m + 1 => updL pl mv s (innC pl mv s C m) (innL pl mv s C L m) m
def stpL (pl : List Bool) (mv : List (List Int)) (C L : List Int) (s : Nat) : List Int := if gD C s < 0 then L else innL pl mv s C L mv.length
def runL (pl : List Bool) (mv : List (List Int)) (C L : List Int) : Nat → List Int
  | 0 => L
  | k + 1 => stpL pl mv (runC pl mv C k) (runL pl mv C L k) k
def bestI (pl : List Bool) (mv : List (List Int)) (C : List Int) (x : Nat) : Nat → Int
  | 0 => -1
  | k + 1 => if gD (runC pl mv C k) k < 0 then bestI pl mv C x k else if k.testBit x = true ∧ (bestI pl mv C x k < 0 ∨ gD (runC pl mv C k) k < gD (runC pl mv C k) (bestI pl mv C x k).toNat) then (k : Int) else bestI pl mv C x k

theorem updL_len {pl : List Bool} {mv : List (List Int)} {s i : Nat} {C L : List Int} : (updL pl mv s C L i).length = L.length := by
  unfold updL
  split
  · rfl
  · split <;> simp
theorem innL_len {pl : List Bool} {mv : List (List Int)} {s : Nat} {C L : List Int} : ∀ m, (innL pl mv s C L m).length = L.length
  | 0 => rfl
  | m + 1 => by rw [innL, updL_len, innL_len m]
theorem runL_len {pl : List Bool} {mv : List (List Int)} {C L : List Int} : ∀ k, (runL pl mv C L k).length = L.length
  | 0 => rfl
  | k + 1 => by
    rw [runL, stpL]
    split
    · exact runL_len k
    · rw [innL_len, runL_len k]

def Came (pl : List Bool) (mv : List (List Int)) (won : Nat) (C L : List Int) (k u : Nat) : Prop :=
  u = won ∨ ∃ (p i : Nat), p < k ∧ i < mv.length ∧ gD L u = (i : Int) ∧ p.testBit i = false ∧ u = p ||| 2 ^ i ∧ 0 ≤ gD C p ∧ 0 ≤ moreV pl mv p i ∧ gD C u = gD C p + moreV pl mv p i

theorem inn_came {pl : List Bool} {mv : List (List Int)} {won s : Nat} {C L : List Int} (hlen : L.length = C.length) (hs : 0 ≤ gD C s) (hbig : ∀ i, i < mv.length → s ||| 2 ^ i < C.length) (h : ∀ u, u < C.length → 0 ≤ gD C u → Came pl mv won C L s u) :
    ∀ m, m ≤ mv.length → ∀ u, u < C.length → 0 ≤ gD (innC pl mv s C m) u → Came pl mv won (innC pl mv s C m) (innL pl mv s C L m) (s + 1) u
  | 0, _, u, hul, hu => by
    rcases h u hul hu with e | ⟨p, i, h1, h2⟩
    · exact .inl e
    · exact .inr ⟨p, i, by omega, h2⟩
  | m + 1, hm, u, hul, hu => by
    have ih := inn_came (pl := pl) (mv := mv) (won := won) hlen hs hbig h m (by omega)
    have hlow := fun t (ht : t ≤ s) => innC_low (pl := pl) (mv := mv) (s := s) (C := C) ht m
    have hb := hbig m (by omega)
    have hl1 := innC_len (pl := pl) (mv := mv) (s := s) (C := C) m
    have hl2 := innL_len (pl := pl) (mv := mv) (s := s) (C := C) (L := L) m
    rw [innC] at hu ⊢
    rw [innL]
    have hlow2 := fun t (ht : t ≤ s) => updC_low (pl := pl) (mv := mv) (s := s) (i := m) (C := innC pl mv s C m) ht
    generalize innC pl mv s C m = C' at *
    generalize innL pl mv s C L m = L' at *
    have keep : ∀ (C'' L'' : List Int), (∀ t, t ≤ s → gD C'' t = gD C' t) → gD C'' u = gD C' u → gD L'' u = gD L' u → Came pl mv won C' L' (s + 1) u → Came pl mv won C'' L'' (s + 1) u := by
      rintro C'' L'' h1 h2 h3 (e | ⟨p, i, g1, g2, g3, g4, g5, g6, g7, g8⟩)
      · exact .inl e
      · exact .inr ⟨p, i, g1, g2, by rw [h3]; exact g3, g4, g5, by rw [h1 p (by omega)]; exact g6, g7, by rw [h2, h1 p (by omega)]; exact g8⟩
    by_cases h1 : s.testBit m = true ∨ moreV pl mv s m < 0
    · have e1 : updC pl mv s C' m = C' := if_pos h1
      have e2 : updL pl mv s C' L' m = L' := if_pos h1
      rw [e1] at hu ⊢
      rw [e2]
      exact ih u hul hu
    · by_cases h2 : gD C' (s ||| 2 ^ m) < 0 ∨ gD C' s + moreV pl mv s m < gD C' (s ||| 2 ^ m)
      · have e1 : updC pl mv s C' m = C'.set (s ||| 2 ^ m) (gD C' s + moreV pl mv s m) := by unfold updC; rw [if_neg h1, if_pos h2]
        have e2 : updL pl mv s C' L' m = L'.set (s ||| 2 ^ m) (m : Int) := by unfold updL; rw [if_neg h1, if_pos h2]
        rw [e1] at hu hlow2 ⊢
        rw [e2]
        by_cases e : s ||| 2 ^ m = u
        · subst e
          right
          refine ⟨s, m, by omega, by omega, ?_, ?_, rfl, ?_, ?_, ?_⟩
          · rw [gD_set, if_pos ⟨rfl, by omega⟩]
          · cases hb : s.testBit m with
            | true => exact absurd (.inl hb) h1
            | false => rfl
          · rw [hlow2 s (Nat.le_refl _), hlow s (Nat.le_refl _)]; exact hs
          · have : ¬ moreV pl mv s m < 0 := fun h => h1 (.inr h)
            omega
          · rw [gD_set, if_pos ⟨rfl, by omega⟩, hlow2 s (Nat.le_refl _)]
        · have hu' : gD (C'.set (s ||| 2 ^ m) (gD C' s + moreV pl mv s m)) u = gD C' u := by rw [gD_set, if_neg (fun h => e h.1)]
          refine keep _ _ hlow2 hu' (by rw [gD_set, if_neg (fun h => e h.1)]) (ih u hul ?_)
          rw [← hu']; exact hu
      · have e1 : updC pl mv s C' m = C' := by unfold updC; rw [if_neg h1, if_neg h2]
        have e2 : updL pl mv s C' L' m = L' := by unfold updL; rw [if_neg h1, if_neg h2]
        rw [e1] at hu ⊢
        rw [e2]
        exact ih u hul hu

theorem run_came {pl wn : List Bool} {mv : List (List Int)} {L : List Int} (hL : L.length = 2 ^ mv.length) : ∀ k, k ≤ 2 ^ mv.length → ∀ u, u < 2 ^ mv.length → 0 ≤ gD (runC pl mv (startC wn mv.length) k) u →
    Came pl mv (wonN wn mv.length) (runC pl mv (startC wn mv.length) k) (runL pl mv (startC wn mv.length) L k) k u
  | 0, _, u, hul, hu => by
    left
    unfold runC startC at hu
    rw [gD_set] at hu
    split at hu
    · rename_i h; exact h.1.symm
    · unfold gD at hu
      rw [List.getD_eq_getElem?_getD, List.getElem?_replicate] at hu
      rw [if_pos hul] at hu
      simp at hu
  | k + 1, hk, u, hul, hu => by
    have ih := run_came (pl := pl) (wn := wn) hL k (by omega)
    have hCl := runC_len (pl := pl) (mv := mv) (C := startC wn mv.length) k
    have hLl := runL_len (pl := pl) (mv := mv) (C := startC wn mv.length) (L := L) k
    rw [startC_len] at hCl
    rw [runC, stpC] at hu ⊢
    rw [runL, stpL]
    generalize runC pl mv (startC wn mv.length) k = C at *
    generalize runL pl mv (startC wn mv.length) L k = L' at *
    by_cases hn : gD C k < 0
    · rw [if_pos hn] at hu ⊢
      rw [if_pos hn]
      rcases ih u hul hu with e | ⟨p, i, h1, h2⟩
      · exact .inl e
      · exact .inr ⟨p, i, by omega, h2⟩
    · rw [if_neg hn] at hu ⊢
      rw [if_neg hn]
      exact inn_came (by omega) (by omega) (fun i hi => by rw [hCl]; exact Nat.or_lt_two_pow (by omega) (Nat.pow_lt_pow_right (by decide) hi)) (fun u h => ih u (by omega)) mv.length (Nat.le_refl _) u (by omega) hu
end Go.Proofs.Ytglmjdpmpgphkaa.Sk
