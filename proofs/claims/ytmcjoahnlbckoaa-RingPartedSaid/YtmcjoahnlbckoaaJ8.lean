/- Contracts of ring's small functions: searching, pairs, clashes that two keys have. -/
import Derived.Test.YtmcjoahnlbckoaaJ7
import Derived.Shelf.SortM.Plain
import Derived.Shelf.SortM.SortNone
import Derived.Test.YtmcjoahnlbckoaaProg

set_option linter.all false

namespace Go.Proofs.Ytmcjoahnlbckoaa.Sk
open Go Go.E Go.E.Sm
set_option maxRecDepth 10000
@[go_sem] theorem agg_int {k : IntKind} {n : Int} : (SV.int k n).isAgg = false := rfl
@[go_sem] theorem agg_bool {b : Bool} : (SV.bool b).isAgg = false := rfl
@[go_sem] theorem agg_slice {l : List SV} : (SV.slice l).isAgg = false := rfl
@[go_sem] theorem agg_ptr {l : List SV} : (SV.ptr l).isAgg = false := rfl
@[go_sem] theorem agg_map {l m : List SV} : (SV.map l m).isAgg = false := rfl
@[go_sem] theorem agg_fn {f : FuncId} {l m : List SV} : (SV.fn f l m).isAgg = false := rfl
@[go_sem] theorem agg_agg {l : List SV} : (SV.agg l).isAgg = true := rfl
def ints (l : List Int) : SV := .slice (l.map (.int .i64))
@[go_sem] theorem agg_ints {l : List Int} : (ints l).isAgg = false := rfl
theorem inR_small {n : Int} (h0 : 0 <= n) (h1 : n <= 2 ^ 63 - 1) : inR .i64 n := by
 unfold inR IntKind.wrap
 have e : n % (2 ^ IntKind.i64.bits : Int) = n := Int.emod_eq_of_lt h0 (by simp only [IntKind.bits]; omega)
 simp only [e]
 have : ¬ (n ≥ (2 ^ (IntKind.i64.bits - 1) : Int)) := by simp only [IntKind.bits]; omega
 simp [this]
theorem maxLen_le : (maxLen : Int) <= 2 ^ 63 - 1 := Int.le_refl _
def idx {α : Type} (p : α -> Bool) : List α -> Int -> Int
 | [], _ => -1
 | x :: xs, i => if p x then i else idx p xs (i + 1)
theorem idx_ge {α : Type} (p : α -> Bool) : ∀ (xs : List α) (i : Nat), (0 <= idx p xs i) ↔ xs.any p = true
 | [], i => by simp [idx]
 | x :: xs, i => by
  simp only [idx, List.any_cons, Bool.or_eq_true]
  by_cases h : p x = true
  ·simp [h]
  ·have := idx_ge p xs (i + 1)
   rw [show ((i + 1 : Nat) : Int) = (i : Int) + 1 from rfl] at this
   simp [h, this]
def Asks (g : FuncId) (first caps : List SV) (x : SV) (b : Bool) : Prop := E.Fn Try.prog g (first ++ [x] ++ caps) [.bool b]
def Ok1 (g : FuncId) (first caps : List SV) : Prop := okFn Try.prog g = true /\ ((first.map LV.s).all LV.isOne && (caps.map LV.s).all LV.isOne) = true
theorem k108 {g : FuncId} {first caps : List SV} {xs : List Int} {p : Int -> Bool} (hg : Ok1 g first caps) (hp : ∀ x ∈ xs, Asks g first caps (.int .i64 x) (p x)) : E.Fn Try.prog 108 [ints xs, .fn g first caps] [.int .i64 (idx p xs 0)] := by
 refine fn_of_row okf108 ?_
 simp only [FRow.start, f108, c108r0, c108r1, ints, go_sem, Nat.reduceAdd, Nat.reduceSub]
 intro hlen
 have hlen' : (xs.length : Int) <= 2 ^ 63 - 1 := Int.le_trans (Int.ofNat_le.mpr hlen) maxLen_le
 refine loop_rule (fun n τ => ∃ i : Nat, n = xs.length - i /\ i <= xs.length /\ idx p xs 0 = idx p (xs.drop i) i /\
  τ = ⟨[.s (.slice (xs.map (.int .i64))), .s (.fn g first caps), .any, .any, .any, .any, .any, .s (.int .i64 xs.length), .s (.int .i64 i), .any, .any, .any, .any, .any, .any, .any, .any, .any, .any], []⟩) xs.length rfl ?_ ?_
 ·simp only [c108l7m, go_sem]
  exact ⟨0, rfl, Nat.zero_le _, rfl, rfl⟩
 ·rintro I n τ ⟨i, rfl, hi, hidx, rfl⟩ hI
  simp only [c108l7, c108r2, c108r3, go_sem, ↓reduceIte]
  refine ⟨fun hlt => ?_, fun hge => ?_⟩
  ·have hx : xs[i]? = some xs[i] := List.getElem?_eq_getElem hlt
   have hdrop : xs.drop i = xs[i] :: xs.drop (i + 1) := List.drop_eq_getElem_cons hlt
   simp only [c108r4, hx, go_sem]
   refine ⟨hg.1, hg.2, callK_of (by simp only [go_sem]) (hp _ (List.getElem_mem hlt)) (.inl rfl) ?_⟩
   simp only [go_sem]
   rw [hdrop, idx] at hidx
   cases hpx : p xs[i] with
   | true =>
    simp only [hpx, if_true] at hidx
    simp only [c108r5, hidx, go_sem]
   | false =>
    simp only [hpx, Bool.false_eq_true, if_false] at hidx
    simp only [c108r6, c108l7m, go_sem]
    refine ⟨inR_small (n := ((i : Int) + 1)) (by omega) (by omega), hI (xs.length - (i + 1)) _ (by omega) ⟨i + 1, rfl, by omega, by rw [hidx]; simp, by simp⟩⟩
  ·have hie : i = xs.length := by omega
   subst hie
   simp only [List.drop_length, idx] at hidx
   simp only [c108r8, hidx, go_sem]
theorem k89 {g : FuncId} {first caps : List SV} {xs : List Int} {p : Int -> Bool} (hg : Ok1 g first caps) (hp : ∀ x ∈ xs, Asks g first caps (.int .i64 x) (p x)) : E.Fn Try.prog 89 [ints xs, .fn g first caps] [.bool (xs.any p)] := by
 refine fn_of_row okf89 ?_
 simp only [FRow.start, f89, c89r0, c89r1, go_sem, Nat.reduceAdd, Nat.reduceSub]
 refine callK_of (by simp only [go_sem]) (k108 hg hp) (.inl rfl) ?_
 simp only [go_sem]
 have h : decide (0 <= idx p xs 0) = xs.any p := by
  have := idx_ge p xs 0
  simp only [Int.cast_ofNat_Int] at this
  rw [Bool.eq_iff_iff]
  simpa using this
 rw [h]
theorem k90 {lo hi x : Int} : E.Fn Try.prog 90 [.int .i64 x, .ptr [.int .i64 lo], .ptr [.int .i64 hi]] [.bool (decide (x < lo) || decide (hi < x))] := by
 refine fn_of_row okf90 ?_
 simp only [FRow.start, f90, c90r0, c90r1, go_sem, Nat.reduceAdd, Nat.reduceSub]
 by_cases h1 : x < lo
 ·simp only [h1, decide_true, true_implies, not_true, false_implies, go_sem]
  simp
 ·simp only [h1, decide_false, true_implies, not_false_eq_true, false_implies, go_sem]
  simp
def withinB (lo hi : Int) (l : List Int) : Bool := !(l.any fun x => decide (x < lo) || decide (hi < x))
theorem k58 {lo hi : Int} {l : List Int} : E.Fn Try.prog 58 [.int .i64 lo, .int .i64 hi, ints l] [.bool (withinB lo hi l)] := by
 refine fn_of_row okf58 ?_
 simp only [FRow.start, f58, c58r0, c58r1, SV.cells, go_sem, Nat.reduceAdd, Nat.reduceSub]
 have h := k89 (g := 90) (first := []) (caps := [.ptr [.int .i64 lo], .ptr [.int .i64 hi]]) (xs := l) (p := fun x => decide (x < lo) || decide (hi < x)) ⟨by kernel_rfl, by rfl⟩ fun x _ => k90
 refine callK_of (by simp only [go_sem]) h (.inl rfl) ?_
 simp only [go_sem]
 rfl
def pO (a b : Int) : Int × Int := (min a b, max a b)
def pr (p : Int × Int) : SV := .agg [.int .i64 p.1, .int .i64 p.2]
theorem pr_inj {p q : Int × Int} (h : pr p = pr q) : p = q := by
 simp only [pr, SV.agg.injEq, List.cons.injEq, SV.int.injEq, true_and, and_true] at h
 exact Prod.ext h.1 h.2
theorem k97 {a b : Int} : E.Fn Try.prog 97 [.int .i64 a, .int .i64 b] [pr (pO a b)] := by
 refine fn_of_row okf97 ?_
 simp only [FRow.start, f97, c97r0, c97r1, ne_eq, not_false_eq_true, List.cons_ne_nil, splice, List.drop_zero, maxL, minL, List.foldl_cons, List.foldl_nil, pr, pO, go_sem, ↓reduceIte, Nat.reduceAdd, Nat.reduceSub, Nat.reduceLeDiff]
 have h1 : (if b < a then b else a) = min a b := by omega
 have h2 : (if b > a then b else a) = max a b := by omega
 rw [h1, h2]
end Go.Proofs.Ytmcjoahnlbckoaa.Sk

/- Contracts of functions: whether two keys clash, the keys that clash with one, a list's values. -/
namespace Go.Proofs.Ytmcjoahnlbckoaa.Sk
open Go Go.E Go.E.Sm
set_option maxRecDepth 10000
def mapBlk : Option ABlock -> Option SV
 | some (.map ks vs) => some (.map ks vs)
 | some (.frzm ks vs) => some (.map ks vs)
 | _ => none
@[go_sem] theorem frzV_mp {H : List ABlock} {n b : Nat} : frzV H (n + 1) (.mp b) = mapBlk H[b]? := by
 simp only [frzV]
 cases H[b]? with
 | none => rfl
 | some B => cases B <;> rfl
@[go_sem] theorem mapBlk_map {ks vs : List SV} : mapBlk (some (.map ks vs)) = some (.map ks vs) := rfl
def cm (cl : List (Int × Int)) : SV := .map (cl.map pr) (cl.map fun _ => .int .i64 1)
@[go_sem] theorem agg_cm {cl : List (Int × Int)} : (cm cl).isAgg = false := rfl
theorem mFind_pr {p : Int × Int} : ∀ {cl : List (Int × Int)}, (p ∉ cl -> mFind (pr p) (cl.map pr) = none) /\ (p ∈ cl -> ∃ i, mFind (pr p) (cl.map pr) = some i /\ cl[i]? = some p)
 | [] => by simp [mFind]
 | q :: cl => by
  obtain ⟨h1, h2⟩ := mFind_pr (p := p) (cl := cl)
  simp only [List.map_cons, mFind]
  by_cases h : p = q
  ·subst h
   simp
  ·have hne : ¬ pr p = pr q := fun e => h (pr_inj e)
   rw [if_neg hne]
   refine ⟨fun hn => ?_, fun hm => ?_⟩
   ·rw [h1 (fun hm => hn (by simp [hm]))]; rfl
   ·obtain ⟨i, h3, h4⟩ := h2 (by simpa [h] using hm)
    exact ⟨i + 1, by rw [h3]; rfl, by simpa using h4⟩
theorem keyOk_pr {p : Int × Int} {cl : List (Int × Int)} : keyOk [.int .i64, .int .i64] (pr p) (cl.map pr) := by
 refine ⟨⟨rfl, rfl⟩, fun x hx => ?_⟩
 obtain ⟨q, _, rfl⟩ := List.mem_map.1 hx
 exact ⟨rfl, rfl⟩
theorem nodup_pr {cl : List (Int × Int)} (h : cl.Nodup) : (cl.map pr).Nodup := by
 rw [List.nodup_iff_pairwise_ne] at h ⊢
 rw [List.pairwise_map]
 exact h.imp fun hne e => hne (pr_inj e)
theorem mgetI_set {H : List ABlock} {k : AK} {p : Int × Int} {cl : List (Int × Int)} (h1 : p ∈ cl -> k (.tup [.int .i64 1, .bool true]) H none True) (h2 : p ∉ cl -> k (.tup [.int .i64 0, .bool false]) H none True) :
  mgetI H true (.int .i64 0) (cl.map fun _ => .int .i64 1) k (mFind (pr p) (cl.map pr)) := by
 by_cases hm : p ∈ cl
 ·obtain ⟨i, h3, h4⟩ := mFind_pr.2 hm
  rw [h3]
  simp only [mgetI, List.getElem?_map, h4, Option.map_some, exO, mgetV, bsplit]
  exact h1 hm
 ·rw [mFind_pr.1 hm]
  simp only [mgetI, mgetV, bsplit]
  exact h2 hm
theorem k71 {cl : List (Int × Int)} (hcl : cl.Nodup) {a b : Int} : E.Fn Try.prog 71 [cm cl, .int .i64 a, .int .i64 b] [.bool (decide (pO a b ∈ cl))] := by
 refine fn_of_row okf71 ?_
 simp only [FRow.start, f71, c71r0, c71r1, c71r2, cm, go_sem, Nat.reduceAdd, Nat.reduceSub]
 refine callK_of (by simp only [go_sem]) (k97 (a := a) (b := b)) (.inl rfl) ?_
 simp only [pr, go_sem]
 refine ⟨keyOk_pr, nodup_pr hcl, mgetI_set (p := pO a b) (fun h => ?_) (fun h => ?_)⟩
 ·simp only [h, go_sem]
 ·simp only [h, go_sem]
def bdC (K Q : SV) (cl : List (Int × Int)) : List SV := [K, Q, cm cl]
def nearF (cl : List (Int × Int)) (key : Int) : Nat -> Nat -> List SV
 | 0, _ => []
 | m + 1, i => if (i : Int) ≠ key /\ pO i key ∈ cl then .int .i64 i :: nearF cl key m (i + 1) else nearF cl key m (i + 1)
theorem nearF_flat {cl : List (Int × Int)} {key : Int} : ∀ (m i : Nat), ∀ v ∈ nearF cl key m i, v.flat = true
 | 0, _ => by simp [nearF]
 | m + 1, i => by
  simp only [nearF]
  split
  ·intro v hv
   rcases List.mem_cons.1 hv with rfl | hv
   ·rfl
   ·exact nearF_flat m (i + 1) v hv
  ·exact nearF_flat m (i + 1)
theorem k113 {ks : List SV} {Q : SV} {cl : List (Int × Int)} (hcl : cl.Nodup) {key : Int} : E.Yields Try.prog 113 [.ptr [.ptr (bdC (.slice ks) Q cl)], .ptr [.int .i64 key]] (nearF cl key ks.length 0) := by
 refine yields_of_row (nt := 33) Try.func113 rfl (by kernel_rfl) (by kernel_rfl) (by kernel_rfl) (by kernel_rfl) (nearF_flat _ _) (ac := f113.code) fun l => ?_
 simp only [f113, c113r0, bdC, go_sem, Nat.reduceAdd, Nat.reduceSub, Nat.reduceLeDiff]
 intro hlen
 have hlen' : (ks.length : Int) <= 2 ^ 63 - 1 := Int.le_trans (Int.ofNat_le.mpr hlen) maxLen_le
 refine ywp_loop (fun n fr rest => ∃ i : Nat, n = ks.length - i /\ i <= ks.length /\ rest = some (nearF cl key (ks.length - i) i) /\
  fr = [.yl l, .s (.ptr [.ptr (bdC (.slice ks) Q cl)]), .s (.ptr [.int .i64 key]), .any, .any, .any, .any, .any, .any, .any, .s (.int .i64 ks.length), .s (.int .i64 i), .any, .any, .any, .any, .any, .any, .any, .any, .any, .any, .any, .any, .any, .any, .any, .any, .any, .any, .any, .any, .any]) ks.length ?_ ?_
 ·simp only [c113l5m, go_sem]
  exact ⟨0, rfl, Nat.zero_le _, rfl, rfl⟩
 ·rintro I n fr rest ⟨i, rfl, hi, rfl, rfl⟩ hI
  simp only [c113l5, c113r1, go_sem, ↓reduceIte]
  refine ⟨fun hlt => ?_, fun hge => ?_⟩
  ·obtain ⟨m, hm⟩ : ∃ m, ks.length - i = m + 1 := ⟨ks.length - i - 1, by omega⟩
   have hm' : ks.length - (i + 1) = m := by omega
   have fin : I [.yl l, .s (.ptr [.ptr (bdC (.slice ks) Q cl)]), .s (.ptr [.int .i64 key]), .any, .any, .any, .any, .any, .any, .any, .s (.int .i64 ks.length), .s (.int .i64 (i + 1)), .any, .any, .any, .any, .any, .any, .any, .any, .any, .any, .any, .any, .any, .any, .any, .any, .any, .any, .any, .any, .any] (some (nearF cl key m (i + 1))) :=
    hI (ks.length - (i + 1)) _ _ (by omega) ⟨i + 1, rfl, by omega, by rw [hm'], rfl⟩
   have hin : inR .i64 ((i : Int) + 1) := inR_small (by omega) (by omega)
   rw [hm, nearF]
   by_cases h1 : (i : Int) = key
   ·rw [if_neg (fun h => h.1 h1)]
    simp only [c113r2, c113r3, h1, decide_true, Bool.not_true, bdC, c113r4, c113l5m, true_implies, go_sem]
    rw [h1] at hin fin
    exact ⟨hin, fin⟩
   ·have hR := k71 hcl (a := (i : Int)) (b := key)
    by_cases h2 : pO i key ∈ cl
    ·rw [if_pos ⟨h1, h2⟩]
     rw [decide_eq_true h2] at hR
     simp only [c113r2, c113r3, h1, decide_false, bdC, true_implies, go_sem, Nat.reduceAdd, Nat.reduceLeDiff]
     refine callK_of (by simp only [go_sem]) hR (.inl rfl) ?_
     simp only [c113r4, c113l5m, go_sem]
     exact ⟨⟨hin, fin⟩, .inr rfl⟩
    ·rw [if_neg (fun h => h2 h.2)]
     rw [decide_eq_false h2] at hR
     simp only [c113r2, c113r3, h1, decide_false, bdC, true_implies, go_sem, Nat.reduceAdd, Nat.reduceLeDiff]
     refine callK_of (by simp only [go_sem]) hR (.inl rfl) ?_
     simp only [c113r4, c113l5m, go_sem]
     exact ⟨hin, fin⟩
  ·have hie : i = ks.length := by omega
   subst hie
   simp only [finY, go_sem, reduceCtorEq]
   left
   simp [nearF]
theorem k105 {d key : SV} (hd : d.isAgg = false) (hk : key.isAgg = false) : E.Fn Try.prog 105 [d, key] [.fn 113 [] [.ptr [d], .ptr [key]]] := by
 have h1 : d.cells = [d] := by cases d <;> first | rfl | cases hd
 have h2 : key.cells = [key] := by cases key <;> first | rfl | cases hk
 refine fn_of_row okf105 ?_
 simp only [FRow.start, f105, c105r0, c105r1, h1, h2, go_sem, Nat.reduceAdd, Nat.reduceSub]
theorem k93 {xs : List Int} : E.Yields Try.prog 93 [.ptr [ints xs]] (xs.map (.int .i64)) := by
 refine yields_of_row (nt := 16) Try.func93 rfl (by kernel_rfl) (by kernel_rfl) (by kernel_rfl) (by kernel_rfl) (fun v hv => by obtain ⟨x, _, rfl⟩ := List.mem_map.1 hv; rfl) (ac := f93.code) fun l => ?_
 simp only [f93, c93r0, ints, go_sem, Nat.reduceAdd, Nat.reduceSub]
 intro hlen
 have hlen' : (xs.length : Int) <= 2 ^ 63 - 1 := Int.le_trans (Int.ofNat_le.mpr hlen) maxLen_le
 refine ywp_loop (fun n fr rest => ∃ i : Nat, n = xs.length - i /\ i <= xs.length /\ rest = some ((xs.drop i).map (.int .i64)) /\
  fr = [.yl l, .any, .any, .any, .any, .s (ints xs), .s (.int .i64 xs.length), .s (.int .i64 i), .any, .any, .any, .any, .any, .any, .any, .any]) xs.length ?_ ?_
 ·simp only [c93l5m, go_sem]
  exact ⟨0, rfl, Nat.zero_le _, rfl, rfl⟩
 ·rintro I n fr rest ⟨i, rfl, hi, rfl, rfl⟩ hI
  simp only [c93l5, c93r1, go_sem, ↓reduceIte]
  refine ⟨fun hlt => ?_, fun hge => ?_⟩
  ·have hx : xs[i]? = some xs[i] := List.getElem?_eq_getElem hlt
   rw [List.drop_eq_getElem_cons hlt]
   simp only [c93r2, c93r3, hx, ints, c93r4, c93l5m, go_sem]
   exact ⟨⟨inR_small (by omega) (by omega), hI (xs.length - (i + 1)) _ _ (by omega) ⟨i + 1, rfl, by omega, rfl, rfl⟩⟩, .inr rfl⟩
  ·have hie : i = xs.length := by omega
   subst hie
   simp only [finY, go_sem, reduceCtorEq]
   left
   simp
theorem k60 {xs : List Int} : E.Fn Try.prog 60 [ints xs] [.fn 93 [] [.ptr [ints xs]]] := by
 refine fn_of_row okf60 ?_
 simp only [FRow.start, f60, c60r0, c60r1, ints, SV.cells, go_sem, Nat.reduceSub]
end Go.Proofs.Ytmcjoahnlbckoaa.Sk

/- Contracts of functions: clashes with one more, clashes of keys that hang together. -/
namespace Go.Proofs.Ytmcjoahnlbckoaa.Sk
open Go Go.E Go.E.Sm
set_option maxRecDepth 10000
def insL (q : Int × Int) (ys : List (Int × Int)) : List (Int × Int) := if q ∈ ys then ys else ys ++ [q]
theorem insL_nodup {q : Int × Int} {ys : List (Int × Int)} (h : ys.Nodup) : (insL q ys).Nodup := by
 unfold insL
 split
 ·exact h
 ·rename_i hq
  rw [List.nodup_append]
  refine ⟨h, by simp, fun a ha b hb e => ?_⟩
  rw [List.mem_singleton] at hb
  subst e; subst hb; exact hq ha
theorem mem_insL {q x : Int × Int} {ys : List (Int × Int)} : x ∈ insL q ys ↔ x = q \/ x ∈ ys := by
 unfold insL
 split
 ·rename_i h
  constructor
  ·exact .inr
  ·rintro (rfl | h')
   ·exact h
   ·exact h'
 ·simp [or_comm]
theorem mPut_pr {q : Int × Int} {ys : List (Int × Int)} : mPut (pr q) (.int .i64 1) (ys.map pr) (ys.map fun _ => .int .i64 1) (mFind (pr q) (ys.map pr)) = .map ((insL q ys).map pr) ((insL q ys).map fun _ => .int .i64 1) := by
 unfold insL
 by_cases h : q ∈ ys
 ·obtain ⟨i, h1, h2⟩ := mFind_pr.2 h
  rw [h1, if_pos h]
  simp only [mPut]
  congr 1
  apply List.ext_getElem?
  intro j
  rw [List.getElem?_set]
  split
  ·rename_i e
   subst e
   simp [(List.getElem?_eq_some_iff.1 h2).1]
  ·rfl
 ·rw [mFind_pr.1 h, if_neg h]
  simp [mPut]
theorem mCut_pr {q : Int × Int} : ∀ {ys : List (Int × Int)}, mCut (ys.map pr) (ys.map fun _ => .int .i64 1) (mFind (pr q) (ys.map pr)) = .map ((ys.erase q).map pr) ((ys.erase q).map fun _ => .int .i64 1)
 | [] => rfl
 | x :: ys => by
  have ih := mCut_pr (q := q) (ys := ys)
  by_cases h : q = x
  ·subst h
   simp [mFind, mCut]
  ·have hne : ¬ pr q = pr x := fun e => h (pr_inj e)
   simp only [List.map_cons, mFind, if_neg hne]
   rw [List.erase_cons_tail (by simpa using fun e => h e.symm)]
   cases hm : mFind (pr q) (ys.map pr) with
   | none =>
    rw [hm] at ih
    simp only [mCut, Option.map_none] at ih ⊢
    simp only [List.map_cons]
    injection ih with i1 i2
    rw [<- i1, <- i2]
   | some i =>
    rw [hm] at ih
    simp only [mCut, Option.map_some] at ih ⊢
    simp only [List.map_cons, List.eraseIdx_cons_succ]
    injection ih with i1 i2
    rw [<- i1, <- i2]
def pe (p : Int × Int) : SV × SV := (pr p, .int .i64 1)
theorem zip_pe (cl : List (Int × Int)) : (cl.map pr).zip (cl.map fun _ => SV.int .i64 1) = cl.map pe := by
 induction cl with
 | nil => rfl
 | cons x cl ih => simp [pe, ih]
theorem pe_split {lf : List (Int × Int)} {l1 l2 : List (SV × SV)} {e : SV × SV} (h : lf.map pe = l1 ++ e :: l2) : ∃ a q b, lf = a ++ q :: b /\ e = pe q /\ l1 ++ l2 = (a ++ b).map pe := by
 obtain ⟨a, b', rfl, rfl, h2⟩ := List.map_eq_append_iff.1 h
 obtain ⟨q, b, rfl, rfl, rfl⟩ := List.map_eq_cons_iff.1 h2
 exact ⟨a, q, b, rfl, rfl, by simp⟩
theorem cm_perm {M : Mem} {ys out : List (Int × Int)} {x : Value} (h : VRel M (cm ys) x) (h1 : ys.Nodup) (h2 : out.Nodup) (hm : ∀ p, p ∈ ys ↔ p ∈ out) : VRel M (cm out) x := by
 refine vrel_map_perm h (by simp) (by simp) ?_
 rw [zip_pe, zip_pe]
 exact ((List.perm_ext_iff_of_nodup h1 h2).2 hm).map _
theorem k103 {cl out : List (Int × Int)} {p : Int × Int} (ho : out.Nodup) (hm : ∀ x, x ∈ out ↔ x = p \/ x ∈ cl) : E.Fn Try.prog 103 [cm cl, pr p] [cm out] := by
 refine fn_same (R := fun rs => ∃ ys, rs = [cm ys] /\ ys.Nodup /\ ∀ x, x ∈ ys ↔ x = p \/ x ∈ cl) (fnR_of_row okf103 ?_) ?_
 rotate_left
 ·rintro rs ⟨ys, rfl, h1, h2⟩ M xs ⟨y, ys', rfl, h3, h4⟩
  exact ⟨y, ys', rfl, cm_perm h3 h1 ho fun q => by rw [h2, hm], h4⟩
 simp only [FRow.start, f103, c103r0, c103r1, c103r2, cm, pr, SV.cells, go_sem, Nat.reduceAdd, Nat.reduceSub]
 have hk0 : keyOk [.int .i64, .int .i64] (pr p) [] := ⟨⟨rfl, rfl⟩, by simp⟩
 have hp0 : mPut (.agg [.int .i64 p.1, .int .i64 p.2]) (.int .i64 1) [] [] (mFind (.agg [.int .i64 p.1, .int .i64 p.2]) []) = .map ([p].map pr) ([p].map fun _ => .int .i64 1) := mPut_pr (q := p) (ys := [])
 refine ⟨hk0, ?_⟩
 rw [hp0]
 simp only [go_sem]
 rw [zip_pe]
 refine loop_rule (fun n τ => ∃ (ys lf : List (Int × Int)) (last : Option (SV × SV)), n = lf.length /\ ys.Nodup /\ (∀ x, (x ∈ ys \/ x ∈ lf) ↔ (x = p \/ x ∈ cl)) /\
  τ = ⟨[.any, .any, .any, .any, .any, .mp 0, .any, .any, .any, .any, .any, .loc 1 0, .any, .any, .any, .any, .any, .any, .any], [.map (ys.map pr) (ys.map fun _ => .int .i64 1), .mit (lf.map pe) last]⟩) cl.length rfl ?_ ?_
 ·simp only [c103l6m, go_sem, ↓reduceIte, reduceCtorEq, Nat.reduceAdd, Nat.reduceLeDiff]
  exact ⟨[p], cl, none, rfl, by simp, fun x => by simp, rfl⟩
 ·rintro I n τ ⟨ys, lf, last, rfl, hnd, hmem, rfl⟩ hI
  simp only [c103l6, c103r3, go_sem, ↓reduceIte, Nat.reduceAdd]
  refine ⟨fun hn => ?_, fun l1 e l2 he => ?_⟩
  ·have hlf : lf = [] := by simpa using hn
   subst hlf
   simp only [c103r7, go_sem]
   exact ⟨ys, rfl, hnd, fun x => by simpa using hmem x⟩
  ·obtain ⟨a, q, b, rfl, rfl, h2⟩ := pe_split he
   rw [h2]
   simp only [c103r4, c103r5, pe, pr, SV.cells, splice, go_sem, Nat.reduceAdd]
   refine ⟨keyOk_pr (p := q), ?_⟩
   have hp1 : mPut (.agg [.int .i64 q.1, .int .i64 q.2]) (.int .i64 1) (ys.map pr) (ys.map fun _ => .int .i64 1) (mFind (.agg [.int .i64 q.1, .int .i64 q.2]) (ys.map pr)) = _ := mPut_pr (q := q) (ys := ys)
   rw [hp1]
   simp only [c103l6m, go_sem, ↓reduceIte, reduceCtorEq, Nat.reduceLeDiff]
   refine hI (a ++ b).length _ (by simp) ⟨insL q ys, a ++ b, some (pe q), rfl, insL_nodup hnd, fun x => ?_, rfl⟩
   have := hmem x
   simp only [List.mem_append, List.mem_cons] at this
   simp only [mem_insL, List.mem_append]
   rw [<- this]
   constructor
   ·rintro ((h | h) | (h | h)) <;> simp [h]
   ·rintro (h | (h | (h | h))) <;> simp [h]
end Go.Proofs.Ytmcjoahnlbckoaa.Sk

/- Contract of a function: clashes if the second one of two keys hangs with the first one. -/
namespace Go.Proofs.Ytmcjoahnlbckoaa.Sk
open Go Go.E Go.E.Sm
set_option maxRecDepth 10000
def tch (s : Int) (p : Int × Int) : Prop := s = p.1 \/ s = p.2
def qj (f s : Int) (p : Int × Int) : Int × Int := if s = p.1 then pO f p.2 else pO f p.1
def jn (f s : Int) (cl : List (Int × Int)) (x : Int × Int) : Prop := (x ∈ cl /\ ¬ tch s x) \/ ∃ p ∈ cl, tch s p /\ x = qj f s p
theorem qj_not {f s : Int} (hfs : f ≠ s) {p : Int × Int} (hp : p.1 ≠ p.2) (ht : tch s p) : ¬ tch s (qj f s p) := by
 unfold qj tch pO at *
 split
 ·rename_i h
  simp only
  rintro (h1 | h1) <;> omega
 ·rename_i h
  simp only
  rintro (h1 | h1) <;> omega
def jw (f s : Int) (cl lf : List (Int × Int)) (x : Int × Int) : Prop := (x ∈ cl /\ ¬ tch s x) \/ (x ∈ lf /\ tch s x) \/ ∃ p ∈ cl, p ∉ lf /\ tch s p /\ x = qj f s p
theorem jw_step {f s : Int} {cl a b ys : List (Int × Int)} {p : Int × Int} (hfs : f ≠ s) (hne : ∀ p ∈ cl, p.1 ≠ p.2) (hsub : ∀ x ∈ a ++ p :: b, x ∈ cl) (hlf : (a ++ p :: b).Nodup) (hys : ys.Nodup)
  (h : ∀ x, x ∈ ys ↔ jw f s cl (a ++ p :: b) x) (ht : tch s p) : ∀ x, x ∈ (insL (qj f s p) ys).erase p ↔ jw f s cl (a ++ b) x := by
 intro x
 have hpc : p ∈ cl := hsub p (by simp)
 have hq := qj_not hfs (hne p hpc) ht
 have hpn : p ∉ a ++ b := by
  rw [List.nodup_append, List.nodup_cons] at hlf
  obtain ⟨_, ⟨h1, _⟩, h2⟩ := hlf
  intro hm
  rcases List.mem_append.1 hm with hm | hm
  ·exact h2 p hm p (by simp) rfl
  ·exact h1 hm
 rw [(insL_nodup hys).mem_erase_iff, mem_insL, h x]
 unfold jw
 constructor
 ·rintro ⟨hxp, rfl | ⟨h1, h2⟩ | ⟨h1, h2⟩ | ⟨p', h1, h2, h3, h4⟩⟩
  ·exact .inr (.inr ⟨p, hpc, hpn, ht, rfl⟩)
  ·exact .inl ⟨h1, h2⟩
  ·refine .inr (.inl ⟨?_, h2⟩)
   simp only [List.mem_append, List.mem_cons] at h1 ⊢
   rcases h1 with h1 | h1 | h1
   ·exact .inl h1
   ·exact absurd h1 hxp
   ·exact .inr h1
  ·refine .inr (.inr ⟨p', h1, fun hm => h2 ?_, h3, h4⟩)
   simp only [List.mem_append, List.mem_cons] at hm ⊢
   rcases hm with hm | hm <;> simp [hm]
 ·rintro (⟨h1, h2⟩ | ⟨h1, h2⟩ | ⟨p', h1, h2, h3, h4⟩)
  ·exact ⟨fun e => h2 (e ▸ ht), .inr (.inl ⟨h1, h2⟩)⟩
  ·refine ⟨fun e => hpn (e ▸ h1), .inr (.inr (.inl ⟨?_, h2⟩))⟩
   simp only [List.mem_append, List.mem_cons] at h1 ⊢
   rcases h1 with h1 | h1 <;> simp [h1]
  ·have hx : ¬ tch s x := by rw [h4]; exact qj_not hfs (hne p' h1) h3
   refine ⟨fun e => hx (e ▸ ht), ?_⟩
   by_cases hpp : p' = p
   ·subst hpp; exact .inl h4
   ·refine .inr (.inr (.inr ⟨p', h1, fun hm => h2 ?_, h3, h4⟩))
    simp only [List.mem_append, List.mem_cons] at hm ⊢
    rcases hm with hm | hm | hm
    ·exact .inl hm
    ·exact absurd hm hpp
    ·exact .inr hm
theorem jw_pass {f s : Int} {cl a b ys : List (Int × Int)} {p : Int × Int} (h : ∀ x, x ∈ ys ↔ jw f s cl (a ++ p :: b) x) (ht : ¬ tch s p) : ∀ x, x ∈ ys ↔ jw f s cl (a ++ b) x := by
 intro x
 rw [h x]
 unfold jw
 constructor
 ·rintro (h1 | ⟨h1, h2⟩ | ⟨p', h1, h2, h3, h4⟩)
  ·exact .inl h1
  ·refine .inr (.inl ⟨?_, h2⟩)
   simp only [List.mem_append, List.mem_cons] at h1 ⊢
   rcases h1 with h1 | h1 | h1
   ·exact .inl h1
   ·exact absurd (h1 ▸ h2) ht
   ·exact .inr h1
  ·refine .inr (.inr ⟨p', h1, fun hm => h2 ?_, h3, h4⟩)
   simp only [List.mem_append, List.mem_cons] at hm ⊢
   rcases hm with hm | hm <;> simp [hm]
 ·rintro (h1 | ⟨h1, h2⟩ | ⟨p', h1, h2, h3, h4⟩)
  ·exact .inl h1
  ·refine .inr (.inl ⟨?_, h2⟩)
   simp only [List.mem_append, List.mem_cons] at h1 ⊢
   rcases h1 with h1 | h1 <;> simp [h1]
  ·refine .inr (.inr ⟨p', h1, fun hm => h2 ?_, h3, h4⟩)
   simp only [List.mem_append, List.mem_cons] at hm ⊢
   rcases hm with hm | hm | hm
   ·exact .inl hm
   ·exact absurd (hm ▸ h3) ht
   ·exact .inr hm
theorem k86 {cl out : List (Int × Int)} {f s : Int} (hcl : cl.Nodup) (hne : ∀ p ∈ cl, p.1 ≠ p.2) (hfs : f ≠ s) (ho : out.Nodup) (hm : ∀ x, x ∈ out ↔ jn f s cl x) : E.Fn Try.prog 86 [cm cl, .int .i64 f, .int .i64 s] [cm out] := by
 refine fn_same (R := fun rs => ∃ ys, rs = [cm ys] /\ ys.Nodup /\ ∀ x, x ∈ ys ↔ jn f s cl x) (fnR_of_row okf86 ?_) ?_
 rotate_left
 ·rintro rs ⟨ys, rfl, h1, h2⟩ M xs ⟨y, ys', rfl, h3, h4⟩
  exact ⟨y, ys', rfl, cm_perm h3 h1 ho fun q => by rw [h2, hm], h4⟩
 simp only [FRow.start, f86, c86r0, c86r1, c86r2, cm, go_sem, Nat.reduceAdd, Nat.reduceSub]
 rw [zip_pe]
 refine loop_rule (fun n τ => ∃ (ys lf : List (Int × Int)) (last : Option (SV × SV)), n = lf.length /\ ys.Nodup /\ (∀ x, (x ∈ ys \/ x ∈ lf) ↔ x ∈ cl) /\
  τ = ⟨[.s (cm cl), .s (.int .i64 f), .s (.int .i64 s), .any, .any, .any, .any, .mp 0, .any, .any, .any, .any, .loc 1 0, .any, .any, .any, .any, .any, .any, .any, .any, .any, .any, .any, .any, .any, .any, .any, .any, .any, .any, .any, .any, .any, .any, .any, .any, .any, .any, .any, .any, .any, .any, .any, .any, .any, .any], [.map (ys.map pr) (ys.map fun _ => .int .i64 1), .mit (lf.map pe) last]⟩) cl.length rfl ?_ ?_
 ·simp only [c86l6m, go_sem, ↓reduceIte, reduceCtorEq, Nat.reduceAdd, Nat.reduceLeDiff]
  exact ⟨[], cl, none, rfl, by simp, fun x => by simp, rfl⟩
 ·rintro I n τ ⟨ys, lf, last, rfl, hnd, hmem, rfl⟩ hI
  simp only [c86l6, c86r3, go_sem, ↓reduceIte, Nat.reduceAdd]
  refine ⟨fun hn => ?_, fun l1 e l2 he => ?_⟩
  ·have hlf : lf = [] := by simpa using hn
   subst hlf
   have hyc : ∀ x, x ∈ ys ↔ x ∈ cl := fun x => by simpa using hmem x
   simp only [c86r7, cm, go_sem, Nat.reduceAdd]
   rw [zip_pe]
   refine loop_rule (fun n τ => ∃ (ys lf : List (Int × Int)) (last2 : Option (SV × SV)), n = lf.length /\ ys.Nodup /\ lf.Nodup /\ (∀ x ∈ lf, x ∈ cl) /\ (∀ x, x ∈ ys ↔ jw f s cl lf x) /\
    τ = ⟨[.any, .s (.int .i64 f), .s (.int .i64 s), .any, .any, .any, .any, .mp 0, .any, .any, .any, .any, .any, .any, .any, .any, .any, .any, .any, .any, .loc 2 0, .any, .any, .any, .any, .any, .any, .any, .any, .any, .any, .any, .any, .any, .any, .any, .any, .any, .any, .any, .any, .any, .any, .any, .any, .any, .any], [.map (ys.map pr) (ys.map fun _ => .int .i64 1), .mit [] last, .mit (lf.map pe) last2]⟩) cl.length rfl ?_ ?_
   ·simp only [c86l16m, go_sem, ↓reduceIte, reduceCtorEq, Nat.reduceAdd, Nat.reduceLeDiff]
    refine ⟨ys, cl, none, rfl, hnd, hcl, fun x h => h, fun x => ?_, rfl⟩
    rw [hyc]
    unfold jw
    constructor
    ·intro h
     by_cases ht : tch s x
     ·exact .inr (.inl ⟨h, ht⟩)
     ·exact .inl ⟨h, ht⟩
    ·rintro (h | h | ⟨p, h1, h2, _⟩)
     ·exact h.1
     ·exact h.1
     ·exact absurd h1 h2
   ·rintro I2 n τ ⟨ys, lf, last2, rfl, hnd, hlf, hsub, hmem, rfl⟩ hI2
    simp only [c86l16, c86r8, go_sem, ↓reduceIte, Nat.reduceAdd]
    refine ⟨fun hn => ?_, fun l1 e l2 he => ?_⟩
    ·have hlf : lf = [] := by simpa using hn
     subst hlf
     simp only [c86r17, go_sem]
     refine ⟨ys, rfl, hnd, fun x => ?_⟩
     rw [hmem]
     unfold jw jn
     simp
    ·obtain ⟨a, q, b, rfl, rfl, h2⟩ := pe_split he
     rw [h2]
     have hback : ∀ ys' : List (Int × Int), ys'.Nodup -> (∀ x, x ∈ ys' ↔ jw f s cl (a ++ b) x) -> I2 ⟨[.any, .s (.int .i64 f), .s (.int .i64 s), .any, .any, .any, .any, .mp 0, .any, .any, .any, .any, .any, .any, .any, .any, .any, .any, .any, .any, .loc 2 0, .any, .any, .any, .any, .any, .any, .any, .any, .any, .any, .any, .any, .any, .any, .any, .any, .any, .any, .any, .any, .any, .any, .any, .any, .any, .any], [.map (ys'.map pr) (ys'.map fun _ => .int .i64 1), .mit [] last, .mit ((a ++ b).map pe) (some (pe q))]⟩ := fun ys' h1 h3 =>
      hI2 (a ++ b).length _ (by simp) ⟨ys', a ++ b, some (pe q), rfl, h1, (List.Sublist.append_left (List.sublist_cons_self q b) a).nodup hlf, fun x hx => hsub x (by
       simp only [List.mem_append, List.mem_cons] at hx ⊢
       rcases hx with hx | hx <;> simp [hx]), h3, rfl⟩
     simp only [c86r9, c86r10, c86r11, pe, pr, SV.cells, splice, go_sem, Nat.reduceAdd]
     have hput : ∀ q' : Int × Int, mPut (.agg [.int .i64 q'.1, .int .i64 q'.2]) (.int .i64 1) (ys.map pr) (ys.map fun _ => .int .i64 1) (mFind (.agg [.int .i64 q'.1, .int .i64 q'.2]) (ys.map pr)) = .map ((insL q' ys).map pr) ((insL q' ys).map fun _ => .int .i64 1) := fun q' => mPut_pr (q := q') (ys := ys)
     have hcut : ∀ zs : List (Int × Int), mCut (zs.map pr) (zs.map fun _ => .int .i64 1) (mFind (.agg [.int .i64 q.1, .int .i64 q.2]) (zs.map pr)) = .map ((zs.erase q).map pr) ((zs.erase q).map fun _ => .int .i64 1) := fun zs => mCut_pr (q := q) (ys := zs)
     refine ⟨fun h1 => ?_, fun h1 => ?_⟩
     ·have ht : tch s q := .inl h1
      have hj : pO f q.2 = qj f s q := by rw [qj, if_pos h1]
      simp only [c86r12, go_sem]
      refine callK_of (by simp only [go_sem]) (k97 (a := f) (b := q.2)) (.inl rfl) ?_
      rw [hj]
      simp only [pr, go_sem, Nat.reduceAdd]
      refine ⟨keyOk_pr (p := qj f s q), ?_⟩
      rw [hput]
      simp only [c86r15, go_sem, Nat.reduceAdd]
      refine ⟨keyOk_pr (p := q), ?_⟩
      rw [hcut]
      simp only [c86l16m, go_sem, ↓reduceIte, reduceCtorEq, Nat.reduceLeDiff]
      exact hback _ ((insL_nodup hnd).erase _) (jw_step hfs hne hsub hlf hnd hmem ht)
     ·simp only [c86r13, go_sem, ↓reduceIte, Nat.reduceAdd]
      refine ⟨fun h3 => ?_, fun h3 => ?_⟩
      ·have ht : tch s q := .inr h3
       have hj : pO f q.1 = qj f s q := by rw [qj, if_neg h1]
       simp only [c86r14, go_sem]
       refine callK_of (by simp only [go_sem]) (k97 (a := f) (b := q.1)) (.inl rfl) ?_
       rw [hj]
       simp only [pr, go_sem, Nat.reduceAdd]
       refine ⟨keyOk_pr (p := qj f s q), ?_⟩
       rw [hput]
       simp only [c86r15, go_sem, Nat.reduceAdd]
       refine ⟨keyOk_pr (p := q), ?_⟩
       rw [hcut]
       simp only [c86l16m, go_sem, ↓reduceIte, reduceCtorEq, Nat.reduceLeDiff]
       exact hback _ ((insL_nodup hnd).erase _) (jw_step hfs hne hsub hlf hnd hmem ht)
      ·have ht : ¬ tch s q := fun h => h.elim h1 h3
       simp only [c86l16m, go_sem, ↓reduceIte, reduceCtorEq, Nat.reduceLeDiff]
       exact hback ys hnd (jw_pass hmem ht)
  ·obtain ⟨a, q, b, rfl, rfl, h2⟩ := pe_split he
   rw [h2]
   simp only [c86r4, c86r5, pe, pr, SV.cells, splice, go_sem, Nat.reduceAdd]
   refine ⟨keyOk_pr (p := q), ?_⟩
   have hp1 : mPut (.agg [.int .i64 q.1, .int .i64 q.2]) (.int .i64 1) (ys.map pr) (ys.map fun _ => .int .i64 1) (mFind (.agg [.int .i64 q.1, .int .i64 q.2]) (ys.map pr)) = _ := mPut_pr (q := q) (ys := ys)
   rw [hp1]
   simp only [c86l6m, go_sem, ↓reduceIte, reduceCtorEq, Nat.reduceLeDiff]
   refine hI (a ++ b).length _ (by simp) ⟨insL q ys, a ++ b, some (pe q), rfl, insL_nodup hnd, fun x => ?_, rfl⟩
   have := hmem x
   simp only [List.mem_append, List.mem_cons] at this
   simp only [mem_insL, List.mem_append]
   rw [<- this]
   constructor
   ·rintro ((h | h) | (h | h)) <;> simp [h]
   ·rintro (h | (h | (h | h))) <;> simp [h]
end Go.Proofs.Ytmcjoahnlbckoaa.Sk

/- Contracts of functions: comparing, valid books. -/
namespace Go.Proofs.Ytmcjoahnlbckoaa.Sk
open Go Go.E Go.E.Sm
set_option maxRecDepth 10000
def kS (l : List (Int × Int)) : SV := .slice (l.map pr)
def bk (K Q : List (Int × Int)) : SV := .agg [kS K, kS Q]
theorem k95 {g : FuncId} {first caps : List SV} {xs : List (Int × Int)} {p : Int × Int -> Bool} (hg : Ok1 g first caps) (hp : ∀ x ∈ xs, Asks g first caps (pr x) (p x)) : E.Fn Try.prog 95 [kS xs, .fn g first caps] [.int .i64 (idx p xs 0)] := by
 refine fn_of_row okf95 ?_
 simp only [FRow.start, f95, c95r0, c95r1, kS, go_sem, Nat.reduceAdd, Nat.reduceSub]
 intro hlen
 have hlen' : (xs.length : Int) <= 2 ^ 63 - 1 := Int.le_trans (Int.ofNat_le.mpr hlen) maxLen_le
 refine loop_rule (fun n τ => ∃ i : Nat, n = xs.length - i /\ i <= xs.length /\ idx p xs 0 = idx p (xs.drop i) i /\
  τ = ⟨[.s (kS xs), .s (.fn g first caps), .any, .any, .any, .any, .any, .s (.int .i64 xs.length), .s (.int .i64 i), .any, .any, .any, .any, .any, .any, .any, .any, .any, .any], []⟩) xs.length rfl ?_ ?_
 ·simp only [c95l7m, go_sem]
  exact ⟨0, rfl, Nat.zero_le _, rfl, rfl⟩
 ·rintro I n τ ⟨i, rfl, hi, hidx, rfl⟩ hI
  simp only [c95l7, c95r2, c95r3, go_sem, ↓reduceIte]
  refine ⟨fun hlt => ?_, fun hge => ?_⟩
  ·have hx : xs[i]? = some xs[i] := List.getElem?_eq_getElem hlt
   have hdrop : xs.drop i = xs[i] :: xs.drop (i + 1) := List.drop_eq_getElem_cons hlt
   have hpi := hp _ (List.getElem_mem hlt)
   simp only [pr] at hpi
   simp only [c95r4, hx, kS, pr, SV.cells, go_sem, Nat.reduceAdd]
   refine ⟨hg.1, hg.2, callK_of (by simp only [go_sem]) hpi (.inl rfl) ?_⟩
   simp only [go_sem]
   rw [hdrop, idx] at hidx
   cases hpx : p xs[i] with
   | true =>
    simp only [hpx, if_true] at hidx
    simp only [c95r5, hidx, go_sem]
   | false =>
    simp only [hpx, Bool.false_eq_true, if_false] at hidx
    simp only [c95r6, c95l7m, go_sem]
    refine ⟨inR_small (n := ((i : Int) + 1)) (by omega) (by omega), hI (xs.length - (i + 1)) _ (by omega) ⟨i + 1, rfl, by omega, by rw [hidx]; simp, by simp [kS]⟩⟩
  ·have hie : i = xs.length := by omega
   subst hie
   simp only [List.drop_length, idx] at hidx
   simp only [c95r8, hidx, go_sem]
theorem k67 {g : FuncId} {first caps : List SV} {xs : List (Int × Int)} {p : Int × Int -> Bool} (hg : Ok1 g first caps) (hp : ∀ x ∈ xs, Asks g first caps (pr x) (p x)) : E.Fn Try.prog 67 [kS xs, .fn g first caps] [.bool (xs.any p)] := by
 refine fn_of_row okf67 ?_
 simp only [FRow.start, f67, c67r0, c67r1, go_sem, Nat.reduceAdd, Nat.reduceSub]
 refine callK_of (by simp only [go_sem]) (k95 hg hp) (.inl rfl) ?_
 simp only [go_sem]
 have h : decide (0 <= idx p xs 0) = xs.any p := by
  have := idx_ge p xs 0
  simp only [Int.cast_ofNat_Int] at this
  rw [Bool.eq_iff_iff]
  simpa using this
 rw [h]
def oddB (k : Int × Int) : Bool := decide (k.1 < 0) || (decide (k.2 < k.1) || decide (1000 < k.2))
theorem k66 {k : Int × Int} : E.Fn Try.prog 66 [pr k] [.bool (oddB k)] := by
 refine fn_of_row okf66 ?_
 simp only [FRow.start, f66, c66r0, c66r1, pr, SV.cells, go_sem, Nat.reduceAdd, Nat.reduceSub, Nat.reduceLeDiff]
 unfold oddB
 by_cases h1 : k.1 < 0
 ·simp only [h1, decide_true, true_implies, not_true, false_implies, go_sem]
  simp
 ·simp only [h1, decide_false, true_implies, not_false_eq_true, false_implies, go_sem]
  by_cases h2 : k.2 < k.1
  ·simp only [h2, decide_true, true_implies, not_true, false_implies, go_sem]
   simp
  ·simp only [h2, decide_false, true_implies, not_false_eq_true, false_implies, go_sem]
   simp
theorem k112 {x : Int} : E.Fn Try.prog 112 [.int .i64 x] [.bool false] := by
 refine fn_of_row okf112 ?_
 simp only [FRow.start, f112, c112r0, c112r1, go_sem, Nat.reduceSub]
def cmpI (x y : Int) : Int := if x < y then -1 else if y < x then 1 else 0
theorem k96 {x y : Int} : E.Fn Try.prog 96 [.int .i64 x, .int .i64 y] [.int .i64 (cmpI x y)] := by
 refine fn_of_row okf96 ?_
 simp only [FRow.start, f96, c96r0, c96r1, go_sem, Nat.reduceAdd, Nat.reduceSub]
 refine callK_of (by simp only [go_sem]) (k112 (x := x)) (.inl rfl) ?_
 simp only [c96r2, go_sem]
 refine callK_of (by simp only [go_sem]) (k112 (x := y)) (.inl rfl) ?_
 simp only [c96r3, c96r7, c96r9, go_sem]
 unfold cmpI
 refine ⟨fun h => ?_, fun h => ?_⟩
 ·rw [if_pos h]
  simp only [c96r10, go_sem]
 ·rw [if_neg h]
  simp only [c96r11, go_sem]
  refine ⟨fun h2 => ?_, fun h2 => ?_⟩
  ·rw [if_pos h2]
   simp only [c96r12, go_sem]
  ·rw [if_neg h2]
   simp only [c96r13, go_sem]
def cmpL : List Int -> List Int -> Int
 | [], [] => 0
 | [], _ :: _ => -1
 | _ :: _, [] => 1
 | x :: xs, y :: ys => if cmpI x y = 0 then cmpL xs ys else cmpI x y
theorem k68 {xs ys : List Int} : E.Fn Try.prog 68 [ints xs, ints ys] [.int .i64 (cmpL xs ys)] := by
 refine fn_of_row okf68 ?_
 simp only [FRow.start, f68, c68r0, c68r1, ints, go_sem, Nat.reduceAdd, Nat.reduceSub]
 intro hlen
 have hlen' : (xs.length : Int) <= 2 ^ 63 - 1 := Int.le_trans (Int.ofNat_le.mpr hlen) maxLen_le
 refine loop_rule (fun n τ => ∃ i : Nat, n = xs.length - i /\ i <= xs.length /\ i <= ys.length /\ cmpL xs ys = cmpL (xs.drop i) (ys.drop i) /\
  τ = ⟨[.s (ints xs), .s (ints ys), .any, .any, .any, .any, .any, .any, .any, .s (ints xs), .s (.int .i64 xs.length), .s (.int .i64 i), .any, .any, .any, .any, .any, .any, .any, .any, .any, .any, .any, .any, .any, .any, .any, .any, .any, .any, .any, .any, .any, .any, .any, .any], []⟩) xs.length rfl ?_ ?_
 ·simp only [c68l11m, go_sem]
  exact ⟨0, rfl, Nat.zero_le _, Nat.zero_le _, rfl, rfl⟩
 ·rintro I n τ ⟨i, rfl, hi, hiy, hc, rfl⟩ hI
  simp only [c68l11, c68r2, go_sem, ↓reduceIte]
  refine ⟨fun hlt => ?_, fun hge => ?_⟩
  ·have hx : xs[i]? = some xs[i] := List.getElem?_eq_getElem hlt
   rw [List.drop_eq_getElem_cons hlt] at hc
   simp only [c68r3, c68r4, hx, ints, go_sem]
   intro _
   refine ⟨fun h2 => ?_, fun h2 => ?_⟩
   ·have : i = ys.length := by omega
    subst this
    rw [List.drop_length, cmpL] at hc
    simp only [c68r5, hc, go_sem]
   ·have hy : i < ys.length := by omega
    have hy' : ys[i]? = some ys[i] := List.getElem?_eq_getElem hy
    rw [List.drop_eq_getElem_cons hy, cmpL] at hc
    simp only [c68r6, c68r7, hy', go_sem]
    refine callK_of (by simp only [go_sem]) (k96 (x := xs[i]) (y := ys[i])) (.inl rfl) ?_
    simp only [c68r8, go_sem]
    refine ⟨fun h3 => ?_, fun h3 => ?_⟩
    ·rw [if_pos h3] at hc
     simp only [c68r10, c68l11m, go_sem]
     refine ⟨inR_small (by omega) (by omega), hI (xs.length - (i + 1)) _ (by omega) ⟨i + 1, rfl, by omega, by omega, hc, rfl⟩⟩
    ·rw [if_neg h3] at hc
     simp only [c68r9, hc, go_sem]
  ·have hie : i = xs.length := by omega
   subst hie
   rw [List.drop_length] at hc
   simp only [c68r12, ints, go_sem]
   intro _
   refine ⟨fun h2 => ?_, fun h2 => ?_⟩
   ·rw [List.drop_eq_getElem_cons (by omega), cmpL] at hc
    simp only [c68r13, hc, go_sem]
   ·rw [List.drop_eq_nil_of_le (by omega), cmpL] at hc
    simp only [c68r14, hc, go_sem]
end Go.Proofs.Ytmcjoahnlbckoaa.Sk

/- Contracts of functions: valid books. -/
namespace Go.Proofs.Ytmcjoahnlbckoaa.Sk
open Go Go.E Go.E.Sm
set_option maxRecDepth 10000
def ckQ (m : Int) : Int × Int -> List (Int × Int) -> Int
 | _, [] => 0
 | last, q :: Q => if withinB 0 m [q.1, q.2] = true then (if q.2 <= q.1 then 2 else if 0 <= cmpL [last.1, last.2] [q.1, q.2] then 2 else ckQ m q Q) else 2
def ckB (K Q : List (Int × Int)) : Int :=
 if withinB 1 8 [(K.length : Int)] = true then (if 12 < Q.length then 6 else if K.any oddB = true then 3 else ckQ (K.length - 1) (-1, -1) Q) else 6
theorem within_one {lo hi n : Int} (h : withinB lo hi [n] = true) : lo <= n /\ n <= hi := by
 simp only [withinB, List.any_cons, List.any_nil, Bool.or_false, Bool.not_eq_true', Bool.or_eq_false_iff, decide_eq_false_iff_not, Int.not_lt] at h
 exact h
set_option maxHeartbeats 1000000 in
theorem k23 {K Q : List (Int × Int)} : E.Fn Try.prog 23 [bk K Q] [.int .i64 (ckB K Q)] := by
 refine fn_of_row okf23 ?_
 generalize hrs : ckB K Q = rs
 unfold ckB at hrs
 simp only [FRow.start, f23, c23r0, c23r1, c23r2, c23r3, bk, kS, SV.cells, go_sem, Nat.reduceAdd, Nat.reduceSub, Nat.reduceLeDiff]
 intro hlen
 have hlen' : (K.length : Int) <= 2 ^ 63 - 1 := Int.le_trans (Int.ofNat_le.mpr hlen) maxLen_le
 refine ⟨by decide, by decide, rfl, by intro e he; rw [List.mem_singleton] at he; subst he; rfl, ?_⟩
 refine callK_of (by simp only [ints, go_sem]) (k58 (lo := 1) (hi := 8) (l := [(K.length : Int)])) (.inl rfl) ?_
 cases hw : withinB 1 8 [(K.length : Int)] with
 | false =>
  rw [hw, if_neg (by simp)] at hrs
  simp only [c23r4, hrs, go_sem]
 | true =>
  rw [hw, if_pos rfl] at hrs
  simp only [go_sem, Nat.reduceAdd, Nat.reduceLeDiff]
  intro hlq
  have hlq' : (Q.length : Int) <= 2 ^ 63 - 1 := Int.le_trans (Int.ofNat_le.mpr hlq) maxLen_le
  refine ⟨fun h1 => ?_, fun h1 => ?_⟩
  ·rw [if_pos (by omega)] at hrs
   simp only [c23r4, hrs, go_sem]
  ·rw [if_neg (by omega)] at hrs
   simp only [c23r5, go_sem, Nat.reduceAdd, Nat.reduceLeDiff]
   refine callK_of (by simp only [kS, go_sem]) (k67 (g := 66) (first := []) (caps := []) (xs := K) (p := oddB) ⟨by kernel_rfl, by rfl⟩ fun x _ => k66) (.inl rfl) ?_
   cases ho : K.any oddB with
   | true =>
    rw [ho, if_pos rfl] at hrs
    simp only [c23r6, hrs, go_sem]
   | false =>
    rw [ho, if_neg (by simp)] at hrs
    simp only [c23r7, c23r8, splice, SV.cells, go_sem, ↓reduceIte, Nat.reduceAdd, Nat.reduceLeDiff]
    intro hq0
    refine loop_rule (fun n τ => ∃ (i : Nat) (last : Int × Int), n = Q.length - i /\ i <= Q.length /\ ckQ (K.length - 1) last (Q.drop i) = rs /\
     τ = ⟨[.any, .any, .any, .s (.int .i64 K.length), .any, .loc 0 0, .any, .any, .any, .any, .any, .any, .any, .any, .any, .any, .any, .any, .any, .any, .any, .any, .any, .any, .any, .any, .any, .any, .any, .s (kS Q), .s (.int .i64 Q.length), .s (.int .i64 i), .any, .any, .any, .any, .any, .any, .any, .any, .any, .any, .any, .any, .any, .any, .any, .any, .any, .any, .any, .any, .any, .any, .any], [.obj [.s (.int .i64 last.1), .s (.int .i64 last.2)]]⟩) Q.length rfl ?_ ?_
    ·simp only [c23l15m, go_sem, ↓reduceIte, reduceCtorEq, Nat.reduceLeDiff]
     exact ⟨0, (-1, -1), rfl, Nat.zero_le _, hrs, rfl⟩
    ·rintro I n τ ⟨i, last, rfl, hi, hc, rfl⟩ hI
     simp only [c23l15, c23r9, go_sem, ↓reduceIte]
     refine ⟨fun hlt => ?_, fun hge => ?_⟩
     ·have hx : Q[i]? = some Q[i] := List.getElem?_eq_getElem hlt
      rw [List.drop_eq_getElem_cons hlt, ckQ] at hc
      generalize hq : Q[i] = q at hx hc
      simp only [c23r10, c23r11, hx, kS, pr, SV.cells, splice, go_sem, Nat.reduceAdd, Nat.reduceSub, Nat.reduceLT, Nat.reduceLeDiff]
      have hn := within_one hw
      refine ⟨inR_small (by omega) (by omega), by decide, ?_⟩
      refine callK_of (by simp only [ints, Nat.zero_mul, sliceOf, elems, go_sem, ↓reduceIte, Nat.reduceAdd]) (k58 (lo := 0) (hi := (K.length : Int) - 1) (l := [q.1, q.2])) (.inl rfl) ?_
      cases hw2 : withinB 0 ((K.length : Int) - 1) [q.1, q.2] with
      | false =>
       rw [hw2, if_neg (by simp)] at hc
       simp only [c23r12, hc, go_sem, Nat.reduceAdd]
      | true =>
       rw [hw2, if_pos rfl] at hc
       simp only [go_sem]
       refine ⟨by decide, rfl, by decide, by decide, rfl, ?_⟩
       simp only [go_sem, ↓reduceIte, reduceCtorEq, Nat.reduceAdd, Nat.reduceSub, Nat.reduceLT, Nat.reduceLeDiff]
       refine ⟨fun h2 => ?_, fun h2 => ?_⟩
       ·rw [if_pos h2] at hc
        simp only [c23r12, hc, go_sem]
       ·rw [if_neg h2] at hc
        refine ⟨by decide, by decide, ?_⟩
        refine callK_of (by simp only [ints, Nat.zero_mul, sliceOf, elems, go_sem, ↓reduceIte, Nat.reduceAdd]) (k68 (xs := [last.1, last.2]) (ys := [q.1, q.2])) (.inl rfl) ?_
        simp only [go_sem, Nat.reduceAdd]
        refine ⟨fun h3 => ?_, fun h3 => ?_⟩
        ·rw [if_pos h3] at hc
         simp only [c23r12, hc, go_sem]
        ·rw [if_neg h3] at hc
         simp only [c23r13, c23r14, c23l15m, splice, go_sem, ↓reduceIte, reduceCtorEq, Nat.reduceAdd, Nat.reduceLeDiff]
         exact ⟨inR_small (by omega) (by omega), hI (Q.length - (i + 1)) _ (by omega) ⟨i + 1, q, rfl, by omega, hc, rfl⟩⟩
     ·have hie : i = Q.length := by omega
      subst hie
      rw [List.drop_length, ckQ] at hc
      simp only [c23r16, hc, go_sem]
end Go.Proofs.Ytmcjoahnlbckoaa.Sk

/- Contracts of functions: the board of a book. -/
namespace Go.Proofs.Ytmcjoahnlbckoaa.Sk
open Go Go.E Go.E.Sm
set_option maxRecDepth 10000
def over (x y : Int × Int) : Prop := x.1 <= y.2 /\ y.1 <= x.2
instance (x y : Int × Int) : Decidable (over x y) := by unfold over; infer_instance
def innF (y : Int × Int) (k : Nat) : List (Int × Int) -> Nat -> List (Int × Int) -> List (Int × Int)
 | [], _, ys => ys
 | x :: xs, i, ys => innF y k xs (i + 1) (if over x y then insL ((i : Int), (k : Int)) ys else ys)
def outF (K : List (Int × Int)) : List (Int × Int) -> Nat -> List (Int × Int) -> List (Int × Int)
 | [], _, ys => ys
 | y :: rest, k, ys => outF K rest (k + 1) (innF y k (K.take k) 0 ys)
def quaF : List (Int × Int) -> List (Int × Int) -> List (Int × Int)
 | [], ys => ys
 | q :: Q, ys => quaF Q (insL q ys)
def clsh (K Q : List (Int × Int)) : List (Int × Int) := quaF Q (outF K K 0 [])
def bd (K Q : List (Int × Int)) : SV := .ptr (bdC (kS K) (kS Q) (clsh K Q))
theorem keyOk_pr' {a b : Int} {cl : List (Int × Int)} : keyOk [.int .i64, .int .i64] (.agg [.int .i64 a, .int .i64 b]) (cl.map pr) := keyOk_pr (p := (a, b))
theorem mPut_pr' {a b : Int} {ys : List (Int × Int)} : mPut (.agg [.int .i64 a, .int .i64 b]) (.int .i64 1) (ys.map pr) (ys.map fun _ => .int .i64 1) (mFind (.agg [.int .i64 a, .int .i64 b]) (ys.map pr)) = .map ((insL (a, b) ys).map pr) ((insL (a, b) ys).map fun _ => .int .i64 1) := mPut_pr (q := (a, b))
set_option maxHeartbeats 4000000 in
theorem k88 {K Q : List (Int × Int)} : E.Fn Try.prog 88 [bk K Q] [bd K Q] := by
 refine fn_of_row okf88 ?_
 simp only [FRow.start, f88, c88r0, c88r1, c88r2, bk, SV.cells, kS, go_sem, ↓reduceIte, Nat.reduceAdd, Nat.reduceSub, Nat.reduceLeDiff]
 intro hlen
 have hlen' : (K.length : Int) <= 2 ^ 63 - 1 := Int.le_trans (Int.ofNat_le.mpr hlen) maxLen_le
 refine loop_rule (fun n τ => ∃ (k : Nat) (ys : List (Int × Int)), n = K.length - k /\ k <= K.length /\ outF K (K.drop k) k ys = outF K K 0 [] /\
  τ = ⟨[.any, .any, .any, .loc 1 0, .any, .any, .any, .any, .any, .any, .any, .any, .any, .any, .any, .any, .any, .any, .s (.slice (K.map pr)), .s (.int .i64 K.length), .s (.int .i64 k), .any, .any, .any, .any, .any, .any, .any, .any, .any, .any, .any, .any, .any, .any, .any, .any, .any, .any, .any, .any, .any, .any, .any, .any, .any, .any, .any, .any, .any, .any, .any, .any, .any, .any, .any, .any, .any, .any, .any, .any, .any, .any, .any, .any, .any, .any, .any, .any, .any, .any, .any, .any, .any, .any, .any, .any, .any, .any, .any], [.map (ys.map pr) (ys.map fun _ => .int .i64 1), .obj [.s (.slice (K.map pr)), .s (.slice (Q.map pr)), .mp 0]]⟩) K.length rfl ?_ ?_
 ·simp only [c88l13m, go_sem, ↓reduceIte, reduceCtorEq, Nat.reduceAdd, Nat.reduceLeDiff]
  exact ⟨0, [], rfl, Nat.zero_le _, rfl, rfl⟩
 ·rintro I n τ ⟨k, ys, rfl, hk, ho, rfl⟩ hI
  simp only [c88l13, c88r3, go_sem, ↓reduceIte, Nat.reduceAdd]
  refine ⟨fun hlt => ?_, fun hge => ?_⟩
  ·have hx : K[k]? = some K[k] := List.getElem?_eq_getElem hlt
   rw [List.drop_eq_getElem_cons hlt, outF] at ho
   generalize hy : K[k] = y at hx ho
   simp only [c88r4, c88r5, hx, pr, SV.cells, splice, go_sem, ↓reduceIte, Nat.reduceAdd]
   rw [Nat.sub_zero, <- List.map_take]
   refine ⟨Nat.zero_le _, hk, fun _ => ?_⟩
   have hXl : (K.take k).length = k := by rw [List.length_take]; omega
   generalize K.take k = X at ho hXl
   refine loop_rule (fun n τ => ∃ (i : Nat) (zs : List (Int × Int)), n = X.length - i /\ i <= X.length /\ innF y k (X.drop i) i zs = innF y k X 0 ys /\
    τ = ⟨[.any, .any, .any, .loc 1 0, .s (.int .i64 k), .loc 2 0, .any, .any, .any, .any, .any, .any, .any, .any, .any, .any, .any, .any, .s (.slice (K.map pr)), .s (.int .i64 K.length), .s (.int .i64 k), .any, .any, .any, .any, .any, .any, .any, .any, .any, .any, .s (.slice (X.map pr)), .s (.int .i64 X.length), .s (.int .i64 i), .any, .any, .any, .any, .any, .any, .any, .any, .any, .any, .any, .any, .any, .any, .any, .any, .any, .any, .any, .any, .any, .any, .any, .any, .any, .any, .any, .any, .any, .any, .any, .any, .any, .any, .any, .any, .any, .any, .any, .any, .any, .any, .any, .any, .any, .any],
     [.map (zs.map pr) (zs.map fun _ => .int .i64 1), .obj [.s (.slice (K.map pr)), .s (.slice (Q.map pr)), .mp 0], .obj [.s (.int .i64 y.1), .s (.int .i64 y.2)]]⟩) X.length rfl ?_ ?_
   ·simp only [c88l11m, go_sem, ↓reduceIte, reduceCtorEq, Nat.reduceAdd, Nat.reduceLeDiff]
    exact ⟨0, ys, rfl, Nat.zero_le _, rfl, rfl⟩
   ·rintro I2 n τ ⟨i, zs, rfl, hi, hinn, rfl⟩ hI2
    simp only [c88l11, c88r6, go_sem, ↓reduceIte, Nat.reduceAdd]
    refine ⟨fun hlt2 => ?_, fun hge2 => ?_⟩
    ·have hx2 : X[i]? = some X[i] := List.getElem?_eq_getElem hlt2
     rw [List.drop_eq_getElem_cons hlt2, innF] at hinn
     generalize hz : X[i] = x at hx2 hinn
     have hback : ∀ zs', innF y k (X.drop (i + 1)) (i + 1) zs' = innF y k X 0 ys -> I2 ⟨[.any, .any, .any, .loc 1 0, .s (.int .i64 k), .loc 2 0, .any, .any, .any, .any, .any, .any, .any, .any, .any, .any, .any, .any, .s (.slice (K.map pr)), .s (.int .i64 K.length), .s (.int .i64 k), .any, .any, .any, .any, .any, .any, .any, .any, .any, .any, .s (.slice (X.map pr)), .s (.int .i64 X.length), .s (.int .i64 ((i : Int) + 1)), .any, .any, .any, .any, .any, .any, .any, .any, .any, .any, .any, .any, .any, .any, .any, .any, .any, .any, .any, .any, .any, .any, .any, .any, .any, .any, .any, .any, .any, .any, .any, .any, .any, .any, .any, .any, .any, .any, .any, .any, .any, .any, .any, .any, .any, .any],
       [.map (zs'.map pr) (zs'.map fun _ => .int .i64 1), .obj [.s (.slice (K.map pr)), .s (.slice (Q.map pr)), .mp 0], .obj [.s (.int .i64 y.1), .s (.int .i64 y.2)]]⟩ := fun zs' h =>
      hI2 (X.length - (i + 1)) _ (by omega) ⟨i + 1, zs', rfl, by omega, h, rfl⟩
     have hin : inR .i64 ((i : Int) + 1) := inR_small (by omega) (by omega)
     simp only [c88r7, c88r8, hx2, pr, SV.cells, splice, go_sem, Nat.reduceAdd]
     refine ⟨fun h1 => ?_, fun h1 => ?_⟩
     ·refine ⟨fun h2 => ?_, fun h2 => ?_⟩
      ·rw [if_pos ⟨h1, h2⟩] at hinn
       simp only [c88r9, go_sem, ↓reduceIte, Nat.reduceAdd, Nat.reduceLeDiff]
       refine ⟨keyOk_pr', ?_⟩
       rw [mPut_pr']
       simp only [c88r10, c88l11m, go_sem, ↓reduceIte, reduceCtorEq, Nat.reduceLeDiff]
       exact ⟨hin, hback _ hinn⟩
      ·rw [if_neg (fun h => h2 h.2)] at hinn
       simp only [c88r10, c88l11m, go_sem, ↓reduceIte, reduceCtorEq, Nat.reduceLeDiff]
       exact ⟨hin, hback _ hinn⟩
     ·rw [if_neg (fun h => h1 h.1)] at hinn
      simp only [c88r10, c88l11m, go_sem, ↓reduceIte, reduceCtorEq, Nat.reduceLeDiff]
      exact ⟨hin, hback _ hinn⟩
    ·have hie : i = X.length := by omega
     subst hie
     rw [List.drop_length, innF] at hinn
     subst hinn
     simp only [c88r12, c88l13m, go_sem, ↓reduceIte, reduceCtorEq, Nat.reduceLeDiff]
     refine ⟨inR_small (by omega) (by omega), hI (K.length - (k + 1)) _ (by omega) ⟨k + 1, _, rfl, by omega, ho, rfl⟩⟩
  ·have hke : k = K.length := by omega
   subst hke
   rw [List.drop_length, outF] at ho
   subst ho
   simp only [c88r14, go_sem]
   intro hlq
   have hlq' : (Q.length : Int) <= 2 ^ 63 - 1 := Int.le_trans (Int.ofNat_le.mpr hlq) maxLen_le
   refine loop_rule (fun n τ => ∃ (j : Nat) (ys : List (Int × Int)), n = Q.length - j /\ j <= Q.length /\ quaF (Q.drop j) ys = clsh K Q /\
    τ = ⟨[.any, .any, .any, .loc 1 0, .any, .any, .any, .any, .any, .any, .any, .any, .any, .any, .any, .any, .any, .any, .any, .any, .any, .any, .any, .any, .any, .any, .any, .any, .any, .any, .any, .any, .any, .any, .any, .any, .any, .any, .any, .any, .any, .any, .any, .any, .any, .any, .any, .any, .any, .any, .any, .any, .any, .any, .any, .any, .any, .any, .any, .any, .any, .any, .any, .s (.slice (Q.map pr)), .s (.int .i64 Q.length), .s (.int .i64 j), .any, .any, .any, .any, .any, .any, .any, .any, .any, .any, .any, .any, .any, .any], [.map (ys.map pr) (ys.map fun _ => .int .i64 1), .obj [.s (.slice (K.map pr)), .s (.slice (Q.map pr)), .mp 0]]⟩) Q.length rfl ?_ ?_
   ·simp only [c88l19m, go_sem, ↓reduceIte, reduceCtorEq, Nat.reduceAdd, Nat.reduceLeDiff]
    exact ⟨0, _, rfl, Nat.zero_le _, rfl, rfl⟩
   ·rintro I2 n τ ⟨j, ys, rfl, hj, hq, rfl⟩ hI2
    simp only [c88l19, c88r15, go_sem, ↓reduceIte, Nat.reduceAdd]
    refine ⟨fun hlt2 => ?_, fun hge2 => ?_⟩
    ·have hx2 : Q[j]? = some Q[j] := List.getElem?_eq_getElem hlt2
     rw [List.drop_eq_getElem_cons hlt2, quaF] at hq
     generalize hz : Q[j] = q at hx2 hq
     simp only [c88r16, c88r17, hx2, pr, SV.cells, splice, Int.reduceToNat, Nat.reduceMul, Int.reduceLT, Int.cast_ofNat_Int, go_sem, ↓reduceIte, Nat.reduceAdd, Nat.reduceLeDiff]
     refine ⟨by decide, keyOk_pr', ?_⟩
     rw [mPut_pr']
     simp only [c88r18, c88l19m, go_sem, ↓reduceIte, reduceCtorEq, Nat.reduceLeDiff]
     exact ⟨inR_small (by omega) (by omega), hI2 (Q.length - (j + 1)) _ (by omega) ⟨j + 1, _, rfl, by omega, hq, rfl⟩⟩
    ·have hie : j = Q.length := by omega
     subst hie
     rw [List.drop_length, quaF] at hq
     subst hq
     simp only [c88r20, bd, bdC, kS, cm, go_sem]
end Go.Proofs.Ytmcjoahnlbckoaa.Sk

/- Contracts of functions: boards of valid books, pairs. -/
namespace Go.Proofs.Ytmcjoahnlbckoaa.Sk
open Go Go.E Go.E.Sm
set_option maxRecDepth 10000
theorem innF_nodup {y : Int × Int} {k : Nat} : ∀ {xs : List (Int × Int)} {i : Nat} {ys : List (Int × Int)}, ys.Nodup -> (innF y k xs i ys).Nodup
 | [], _, _, h => h
 | x :: xs, i, ys, h => by
  rw [innF]
  refine innF_nodup ?_
  split
  ·exact insL_nodup h
  ·exact h
theorem outF_nodup {K : List (Int × Int)} : ∀ {rest : List (Int × Int)} {k : Nat} {ys : List (Int × Int)}, ys.Nodup -> (outF K rest k ys).Nodup
 | [], _, _, h => h
 | y :: rest, k, ys, h => by rw [outF]; exact outF_nodup (innF_nodup h)
theorem quaF_nodup : ∀ {Q ys : List (Int × Int)}, ys.Nodup -> (quaF Q ys).Nodup
 | [], _, h => h
 | q :: Q, ys, h => by rw [quaF]; exact quaF_nodup (insL_nodup h)
theorem clsh_nodup {K Q : List (Int × Int)} : (clsh K Q).Nodup := quaF_nodup (outF_nodup List.nodup_nil)
theorem ckB_zero {K Q : List (Int × Int)} (h : ckB K Q = 0) : 1 <= K.length /\ K.length <= 8 /\ Q.length <= 12 /\ K.any oddB = false /\ ckQ (K.length - 1) (-1, -1) Q = 0 := by
 unfold ckB at h
 split at h
 ·rename_i hw
  have := within_one hw
  split at h
  ·cases h
  ·split at h
   ·cases h
   ·rename_i h1 h2
    exact ⟨by omega, by omega, by omega, by simpa using h2, h⟩
 ·cases h
theorem k57 {K Q : List (Int × Int)} : E.Fn Try.prog 57 [bk K Q] (if ckB K Q = 0 then [bd K Q, .int .i64 0] else [.nilp, .int .i64 (ckB K Q)]) := by
 refine fn_of_row okf57 ?_
 generalize hrs : (if ckB K Q = 0 then [bd K Q, .int .i64 0] else [.nilp, .int .i64 (ckB K Q)]) = rs
 simp only [FRow.start, f57, c57r0, c57r1, bk, SV.cells, go_sem, Nat.reduceAdd, Nat.reduceSub]
 refine callK_of (by simp only [bk, go_sem]) (k23 (K := K) (Q := Q)) (.inl rfl) ?_
 simp only [c57r2, go_sem]
 refine ⟨fun h => ?_, fun h => ?_⟩
 ·rw [if_pos h] at hrs
  simp only [c57r4, go_sem, Nat.reduceAdd]
  refine callK_of (by simp only [bk, go_sem]) (k88 (K := K) (Q := Q)) (.inr (by simp only [bk, go_sem])) ?_
  simp only [hrs, go_sem]
 ·rw [if_neg h] at hrs
  simp only [c57r3, hrs, go_sem]
def ckP (K Q : List (Int × Int)) (one two : Int) : Int :=
 if ckB K Q = 0 then (if withinB 0 (K.length - 1) [one, two] = true then (if one = two then 2 else 0) else 2) else ckB K Q
theorem k70 {K Q : List (Int × Int)} {one two : Int} : E.Fn Try.prog 70 [bk K Q, .int .i64 one, .int .i64 two] (if ckP K Q one two = 0 then [bd K Q, .int .i64 0] else [.nilp, .int .i64 (ckP K Q one two)]) := by
 refine fn_of_row okf70 ?_
 have hb := k57 (K := K) (Q := Q)
 unfold ckP
 simp only [FRow.start, f70, c70r0, c70r1, bk, SV.cells, go_sem, Nat.reduceAdd, Nat.reduceSub]
 by_cases h0 : ckB K Q = 0
 ·rw [if_pos h0] at hb
  rw [if_pos h0]
  obtain ⟨hk1, hk8, _⟩ := ckB_zero h0
  refine callK_of (by simp only [bk, go_sem]) hb (.inr (by simp only [bk, go_sem])) ?_
  simp only [LV.ofResults, c70r2, c70r4, kS, go_sem, Nat.reduceAdd, Nat.reduceLeDiff]
  refine ⟨inR_small (by omega) (by omega), by decide, by decide, rfl, by intro e he; simp only [List.mem_cons, List.not_mem_nil, or_false] at he; rcases he with rfl | rfl <;> rfl, ?_⟩
  refine callK_of (by simp only [ints, go_sem]) (k58 (lo := 0) (hi := (K.length : Int) - 1) (l := [one, two])) (.inl rfl) ?_
  cases hw : withinB 0 ((K.length : Int) - 1) [one, two] with
  | false =>
   simp only [c70r5, Bool.false_eq_true, go_sem, ↓reduceIte]
   intros
   trivial
  | true =>
   simp only [go_sem, ↓reduceIte]
   intro _
   refine ⟨fun h => ?_, fun h => ?_⟩
   ·rw [if_pos h]
    simp only [c70r5, go_sem]
    rw [if_neg (by decide)]
   ·rw [if_neg h]
    simp only [c70r6, go_sem, ↓reduceIte]
 ·rw [if_neg h0] at hb
  rw [if_neg h0, if_neg h0]
  refine callK_of (by simp only [bk, go_sem]) hb (.inr (by simp only [bk, go_sem])) ?_
  simp only [LV.ofResults, c70r2, h0, c70r3, go_sem]
def pairE (K Q : List (Int × Int)) (one two : Int) : Int := if ckP K Q one two = 0 then (if pO one two ∈ clsh K Q then 23 else 0) else ckP K Q one two
theorem k25 {K Q : List (Int × Int)} {one two : Int} : E.Fn Try.prog 25 [bk K Q, .int .i64 one, .int .i64 two] [.int .i64 (pairE K Q one two)] := by
 refine fn_of_row okf25 ?_
 have hb := k70 (K := K) (Q := Q) (one := one) (two := two)
 unfold pairE
 simp only [FRow.start, f25, c25r0, c25r1, bk, SV.cells, go_sem, Nat.reduceAdd, Nat.reduceSub]
 by_cases h0 : ckP K Q one two = 0
 ·rw [if_pos h0] at hb
  rw [if_pos h0]
  refine callK_of (by simp only [bk, go_sem]) hb (.inr (by simp only [bk, go_sem])) ?_
  simp only [LV.ofResults, c25r2, c25r4, bd, bdC, go_sem, Nat.reduceAdd, Nat.reduceLeDiff]
  refine callK_of (by simp only [go_sem]) (k71 (clsh_nodup (K := K) (Q := Q)) (a := one) (b := two)) (.inl rfl) ?_
  by_cases h1 : pO one two ∈ clsh K Q
  ·simp only [h1, decide_true, c25r5, go_sem, ↓reduceIte]
  ·simp only [h1, decide_false, c25r6, go_sem, ↓reduceIte]
 ·rw [if_neg h0] at hb
  rw [if_neg h0]
  refine callK_of (by simp only [bk, go_sem]) hb (.inr (by simp only [bk, go_sem])) ?_
  simp only [LV.ofResults, c25r2, h0, c25r3, go_sem]
end Go.Proofs.Ytmcjoahnlbckoaa.Sk

/- The functions of the sort of ints are the ones that the library's contract was proved of. -/
namespace Go.Proofs.Ytmcjoahnlbckoaa.Sk
open Go Go.Shelf
def sortI_ren : Go.Shelf.Ren := ⟨fun | 5 => 92 | 8 => 111 | 7 => 110 | 19 => 124 | 20 => 125 | 10 => 115 | 11 => 116 | 12 => 117 | 13 => 118 | 14 => 119 | 15 => 120 | 16 => 121 | 17 => 122 | 18 => 123 | 30 => 126 | 31 => 127 | 32 => 128 | 33 => 129 | 34 => 130 | 35 => 112 | 40 => 131 | n => n, fun | 23 => 26 | 25 => 3 | 3 => 3 | 32 => 133 | 22 => 26 | 0 => 0 | 44 => 143 | 46 => 145 | 4 => 4 | 36 => 137 | 35 => 136 | 41 => 118 | 5 => 5 | 9 => 9 | 53 => 146 | 57 => 150 | 63 => 152 | 64 => 153 | n => n, fun | n => n⟩
theorem sortI : Go.Proofs.SlLaysM.n5 Try.prog sortI_ren := {
 mixed := by kernel_rfl
 f5 := ⟨Try.f92.name, by decide, Try.func92.trans (congrArg some (by kernel_rfl))⟩
 f7 := ⟨Try.f110.name, by decide, Try.func110.trans (congrArg some (by kernel_rfl))⟩
 f8 := Try.func111.trans (congrArg some (by kernel_rfl))
 f10 := ⟨Try.f115.name, by decide, Try.func115.trans (congrArg some (by kernel_rfl))⟩
 f11 := ⟨Try.f116.name, by decide, Try.func116.trans (congrArg some (by kernel_rfl))⟩
 f12 := ⟨Try.f117.name, by decide, Try.func117.trans (congrArg some (by kernel_rfl))⟩
 f13 := ⟨Try.f118.name, by decide, Try.func118.trans (congrArg some (by kernel_rfl))⟩
 f14 := ⟨Try.f119.name, by decide, Try.func119.trans (congrArg some (by kernel_rfl))⟩
 f15 := ⟨Try.f120.name, by decide, Try.func120.trans (congrArg some (by kernel_rfl))⟩
 f16 := ⟨Try.f121.name, by decide, Try.func121.trans (congrArg some (by kernel_rfl))⟩
 f17 := ⟨Try.f122.name, by decide, Try.func122.trans (congrArg some (by kernel_rfl))⟩
 f18 := ⟨Try.f123.name, by decide, Try.func123.trans (congrArg some (by kernel_rfl))⟩
 f19 := Try.func124.trans (congrArg some (by kernel_rfl))
 f20 := Try.func125.trans (congrArg some (by kernel_rfl))
 f30 := ⟨Try.f126.name, by decide, Try.func126.trans (congrArg some (by kernel_rfl))⟩
 f31 := Try.func127.trans (congrArg some (by kernel_rfl))
 f32 := Try.func128.trans (congrArg some (by kernel_rfl))
 f33 := ⟨Try.f129.name, by decide, Try.func129.trans (congrArg some (by kernel_rfl))⟩
 f34 := ⟨Try.f130.name, by decide, Try.func130.trans (congrArg some (by kernel_rfl))⟩
 f35 := ⟨Try.f112.name, by decide, Try.func112.trans (congrArg some (by kernel_rfl))⟩
 f40 := ⟨Try.f131.name, by decide, Try.func131.trans (congrArg some (by kernel_rfl))⟩
 t0 := Try.underlying0
 a0 := Try.isAgg0
 z0 := Try.sizeOf0
 v0 := Try.zeroValue0
 t3 := Try.underlying3
 a3 := Try.isAgg3
 z3 := Try.sizeOf3
 v3 := Try.zeroValue3
 t4 := Try.underlying4
 a4 := Try.isAgg4
 z4 := Try.sizeOf4
 v4 := Try.zeroValue4
 t5 := Try.underlying5
 a5 := Try.isAgg5
 z5 := Try.sizeOf5
 v5 := Try.zeroValue5
 t9 := Try.underlying9
 a9 := Try.isAgg9
 z9 := Try.sizeOf9
 v9 := Try.zeroValue9
 t22 := Try.underlying26
 a22 := Try.isAgg26
 z22 := Try.sizeOf26
 v22 := Try.zeroValue26
 t23 := Try.underlying26
 a23 := Try.isAgg26
 z23 := Try.sizeOf26
 v23 := Try.zeroValue26
 t25 := Try.underlying3
 a25 := Try.isAgg3
 z25 := Try.sizeOf3
 v25 := Try.zeroValue3
 t32 := Try.underlying133
 a32 := Try.isAgg133
 z32 := Try.sizeOf133
 v32 := Try.zeroValue133
 t35 := Try.underlying136
 a35 := Try.isAgg136
 z35 := Try.sizeOf136
 v35 := Try.zeroValue136
 t36 := Try.underlying137
 a36 := Try.isAgg137
 z36 := Try.sizeOf137
 v36 := Try.zeroValue137
 t41 := Try.underlying118
 a41 := Try.isAgg118
 z41 := Try.sizeOf118
 v41 := Try.zeroValue118
 t44 := Try.underlying143
 a44 := Try.isAgg143
 z44 := Try.sizeOf143
 v44 := Try.zeroValue143
 t46 := Try.underlying145
 a46 := Try.isAgg145
 z46 := Try.sizeOf145
 v46 := Try.zeroValue145
 t53 := Try.underlying146
 a53 := Try.isAgg146
 z53 := Try.sizeOf146
 v53 := Try.zeroValue146
 t57 := Try.underlying150
 a57 := Try.isAgg150
 z57 := Try.sizeOf150
 v57 := Try.zeroValue150
 t63 := Try.underlying152
 a63 := Try.isAgg152
 z63 := Try.sizeOf152
 v63 := Try.zeroValue152
 t64 := Try.underlying153
 a64 := Try.isAgg153
 z64 := Try.sizeOf153
 v64 := Try.zeroValue153
}
end Go.Proofs.Ytmcjoahnlbckoaa.Sk

/- slices.Sort at ints: an own row of numbers is sorted. -/
namespace Go.Proofs.Ytmcjoahnlbckoaa.Sk
open Go Go.E Go.E.Sm Go.Sort Go.Shelf
set_option maxRecDepth 10000
theorem mapBlock_setRow {w : World} {blk : Nat} {f : Array Value -> Array Value} {c : Array Value} {T : TypeId} {fr : Nat × Nat} (h : w.heap[blk]? = some (.cells c T fr)) : mapBlock w blk f = w.setRow blk (f c) := by
 unfold mapBlock World.setRow
 congr 1
 apply Array.ext_getElem?
 intro i
 rw [Array.getElem?_modify, Array.getElem?_modify]
 by_cases e : blk = i
 ·subst e; rw [if_pos rfl, if_pos rfl, h]; rfl
 ·rw [if_neg e, if_neg e]
theorem grow_touch (w : World) (os : Array Obj) : E.Touch [] w (grow w os) :=
 ⟨rfl, rfl, rfl, Nat.le_refl _, by simp [grow], fun b hb _ => by simp only [grow]; rw [Array.getElem?_append_left hb]⟩
theorem putCells_take1 (sh : Nat) (d : List Int) (c : Array Value) (h : sh + d.length <= c.size) : ((putCells (Value.int .i64) sh d.toArray c).toList.drop sh).take d.length = d.map (Value.int .i64) := by
 apply List.ext_getElem?
 intro j
 rw [List.getElem?_take]
 split
 ·rename_i hj
  rw [List.getElem?_drop, Array.getElem?_toList]
  unfold putCells
  rw [Array.getElem?_mapIdx, Array.getElem?_eq_getElem (by omega)]
  simp only [Option.map_some, List.size_toArray]
  rw [if_pos (by omega), Nat.add_sub_cancel_left, List.getElem?_map, List.getElem?_eq_getElem hj, getElem!_pos d.toArray j (by simpa using hj)]
  rfl
 ·rename_i hj
  rw [List.getElem?_eq_none (by simpa using Nat.le_of_not_lt hj)]
theorem crel_ints {M : Mem} : ∀ (L : List Int) (us : List Value), CRelC M (L.map (SV.int .i64)) (ones us) ↔ us = L.map (Value.int .i64)
 | [], us => by
  cases us with
  | nil => simp [CRelC, ones]
  | cons u us => simp [CRelC, ones]
 | x :: L, us => by
  cases us with
  | nil => simp [CRelC, ones]
  | cons u us =>
   have ih := crel_ints (M := M) L us
   constructor
   ·intro h
    simp only [List.map_cons, CRelC, ones_cons, List.cons.injEq, CRel] at h
    obtain ⟨a, as1, ⟨rfl, rfl⟩, h1, h2⟩ := h
    simp only [List.cons.injEq, and_true] at h1
    rw [List.map_cons, h1, ih.1 h2]
   ·intro h
    simp only [List.map_cons, List.cons.injEq] at h
    simp only [List.map_cons, CRelC, ones_cons]
    exact ⟨_, _, rfl, by simp only [CRel]; rw [h.1], ih.2 h.2⟩
def srtI (L : List Int) : List Int := L.mergeSort fun x y => decide (x <= y)
theorem k92 {H : List ABlock} {b : Nat} {L : List Int} {clip : Bool} (hB : H[b]? = some (.row (L.map (.int .i64)))) (hLs : L.length < 4611686018427387904) :
  CSem Try.prog 92 [.sl b 0 L.length 1 clip] H (.tup []) (H.set b (.row ((srtI L).map (.int .i64)))) := by
 intro M ρ w vs hS hF
 obtain ⟨v0, ys, rfl, h0, hys⟩ := hF
 simp only [FRel] at hys
 subst hys
 have g0 := h0.one rfl (by simp)
 simp only [LRel] at g0
 obtain ⟨r, ad, cap, hr, hg, e0, hlc, hcm, _, _, hcap⟩ := g0
 simp only [List.cons.injEq, and_true] at e0
 subst e0
 obtain ⟨r', hr1, hr2⟩ := hS.spot hB
 rw [hr] at hr1; cases hr1
 have hbl := (List.getElem?_eq_some_iff.1 hB).1
 have hI := MInv.start hS
 by_cases hL : L = []
 ·subst hL
  have hset : H.set b (.row ((srtI []).map (.int .i64))) = H := by
   have : srtI [] = [] := by simp [srtI]
   rw [this]
   apply List.ext_getElem?
   intro j
   rw [List.getElem?_set]
   by_cases e : b = j
   ·subst e; rw [if_pos rfl, if_pos hbl, hB]
   ·rw [if_neg e]
  rw [hset]
  refine (AnyM.slices_Sort_int_none sortI ad cap w).mono fun e w' ⟨he, hw⟩ => ?_
  subst hw
  exact ⟨_, M, ρ, he, hI, lval_tup (vs := []) (xs := []) rfl⟩
 ·cases r with
  | gone => exact absurd rfl hg
  | empty =>
   simp only [BRel] at hr2
   exact absurd (by simpa using hr2) hL
  | here cb sh n =>
   simp only [BRel] at hr2
   obtain ⟨c, T, hc1, hc2, hc3, hc4, hc5⟩ := hr2
   have hlp := List.length_pos_iff.2 hL
   rcases hcap with hc0 | ⟨cb', sh', n', e1, e2, e3⟩
   ·omega
   cases e1
   subst e2
   simp only [Nat.add_zero] at e3 ⊢
   rw [List.length_map] at hc3 hc4
   have hcells := (crel_ints L _).1 hc4
   have hHold : Sort.Holds (Value.int .i64) w cb sh L.toArray := by
    intro j hj
    have hj2 : j < L.length := by simpa using hj
    refine ⟨?_, by simp [World.frozen?, hc1]⟩
    have h5 := congrArg (·[j]?) hcells
    simp only [List.getElem?_take, if_pos hj2, List.getElem?_drop, Array.getElem?_toList, List.getElem?_map, List.getElem?_eq_getElem hj2, Option.map_some] at h5
    rw [heap_cell? hc1, h5, getElem!_pos L.toArray j hj]; rfl
   have hblk := hS.lt b cb sh n hr
   have hcon := AnyM.slices_Sort_int sortI cb sh cap L w hHold hblk hLs
   change Calls Try.prog 92 _ _ _ at hcon
   refine hcon.mono fun e w' ⟨he, m, os, hw⟩ => ?_
   have e2 : (L.mergeSort fun x y => decide (x <= y)) = srtI L := rfl
   rw [e2] at hw
   have hsl : (srtI L).length = L.length := List.length_mergeSort _
   have hA : (Sort.ahead w m).heap[cb]? = some (.cells c T (0, 0)) := hc1
   have hI1 := hI.world (w' := Sort.ahead w m) rfl rfl rfl rfl (Nat.le_add_right _ _)
   have hI2 := hI1.write (B' := .row ((srtI L).map (.int .i64))) (c' := putCells (Value.int .i64) sh (srtI L).toArray c) hB hr hA hc5 (by
    simp only [BRel]
    refine ⟨_, T, setRow_heap _ cb c _ T _ hA, by simpa [putCells] using hc2, by rw [List.length_map, hsl]; exact hc3, ?_, hc5⟩
    rw [crel_ints, List.length_map]
    exact putCells_take1 _ _ _ (by omega))
   have hw2 : w' = grow ((Sort.ahead w m).setRow cb (putCells (Value.int .i64) sh (srtI L).toArray c)) os := by
    rw [hw]
    unfold putRow
    rw [mapBlock_setRow hA]
   have ht := grow_touch ((Sort.ahead w m).setRow cb (putCells (Value.int .i64) sh (srtI L).toArray c)) os
   subst hw2
   refine ⟨_, M, ρ, he, hI2.grow (Mem.le_refl _) ht (Newer.refl _ _ _) ?_, lval_tup (vs := []) (xs := []) rfl⟩
   exact E.Holds.grow ⟨hI2.rel.cells, hI2.rel.maps⟩ ht
end Go.Proofs.Ytmcjoahnlbckoaa.Sk

/- Contracts of functions: a list's values gathered, and sorted. -/
namespace Go.Proofs.Ytmcjoahnlbckoaa.Sk
open Go Go.E Go.E.Sm
set_option maxRecDepth 10000
theorem flatE_ints : ∀ (l : List Int), flatE (l.map (SV.int .i64)) = l.map (SV.int .i64)
 | [] => rfl
 | x :: l => by
  have := flatE_ints l
  simp only [flatE, List.map_cons, List.flatten_cons, SV.cells] at this ⊢
  rw [this]; rfl
theorem one_int {x : Int} : ∀ y ∈ [SV.int .i64 x], y.cells.length = 1 := by
 intro y hy
 rw [List.mem_singleton] at hy
 subst hy; rfl
theorem k109 {xs : List Int} (hxs : xs.length <= 1000) (hne : xs ≠ []) {g : FuncId} {caps : List SV} (hok : okFn Try.prog g = true) (hc : (caps.map LV.s).all LV.isOne = true) (hy : E.Yields Try.prog g caps (xs.map (.int .i64))) :
  E.FnNew Try.prog 109 1 [.full [], .s (.fn g [] caps)] (xs.map (.int .i64)) := by
 refine new_of_brow okt109 ?_
 simp only [BRow.start, t109, c109r0, c109r1, go_sem, Nat.reduceAdd, Nat.reduceSub]
 refine promo_rule (σ' := ⟨[.full [], .s (.fn g [] caps), .loc 0 0, .any, .full [], .any, .s (.fn g [] caps), .any, .any, .any, .any, .any, .any], [.obj [.sl 1 0 0 1 false], .row []]⟩) rfl ?_
 refine range_rule (fun vs H => ∃ ys zs : List Int, xs = ys ++ zs /\ vs = zs.map (.int .i64) /\ H = [.obj [.sl 1 0 ys.length 1 false], .row (ys.map (.int .i64))]) rfl hok hc hy (fun v hv => by obtain ⟨x, _, rfl⟩ := List.mem_map.1 hv; rfl) (by decide) ⟨[], xs, rfl, rfl, rfl⟩ rfl ?_ ?_
 ·rintro H ⟨ys, zs, rfl, h1, rfl⟩
  have hz : zs = [] := by simpa using h1.symm
  subst hz
  rw [List.append_nil] at hne ⊢
  simp only [c109r5, finN, newOf, go_sem, ↓reduceIte, reduceCtorEq, Nat.reduceAdd, Nat.reduceSub, Nat.reduceLeDiff]
  refine .inr ⟨_, rfl, by simpa using hne, by rw [flatE_ints, List.length_map, Nat.mul_one], by simp, ?_⟩
  rw [flatE_ints, Nat.mul_one, List.take_of_length_le (by simp)]
 ·rintro v vs H I ⟨ys, zs, rfl, h1, rfl⟩ hI
  cases zs with
  | nil => simp at h1
  | cons z zs =>
   simp only [List.map_cons, List.cons.injEq] at h1
   obtain ⟨rfl, rfl⟩ := h1
   simp only [List.length_append, List.length_cons] at hxs
   simp only [c109b4a, c109r2, c109b4, c109r3, Nat.reduceBEq, Bool.false_eq_true, splice, go_sem, ↓reduceIte, Nat.reduceAdd, Nat.reduceSub, Nat.reduceLeDiff]
   refine ⟨by decide, by decide, rfl, one_int, one_int, by omega, by omega, by omega, hI _ ⟨ys ++ [z], zs, by simp, rfl, ?_⟩⟩
   rw [List.length_append, List.map_append]
   rfl
theorem ints_one {xs : List Int} : ∀ x ∈ xs.map (SV.int .i64), x.cells.length = 1 := by
 intro x hx
 obtain ⟨y, _, rfl⟩ := List.mem_map.1 hx
 rfl
theorem map_ne {xs : List Int} (h : xs ≠ []) : ¬ xs.map (SV.int .i64) = [] := by simpa using h
theorem k91 {xs : List Int} (hxs : xs.length <= 1000) (hne : xs ≠ []) {g : FuncId} {caps : List SV} (hok : okFn Try.prog g = true) (hc : (caps.map LV.s).all LV.isOne = true) (hy : E.Yields Try.prog g caps (xs.map (.int .i64))) :
  E.FnNew Try.prog 91 1 [.s (.fn g [] caps)] (xs.map (.int .i64)) := by
 refine new_of_row okf91 ?_
 simp only [FRow.start, f91, c91r0, c91r1, go_sem, Nat.reduceSub]
 refine ⟨_, _, k109 hxs hne hok hc hy, .inl ⟨rfl, rfl⟩, by decide, ints_one, rfl, ?_⟩
 rw [if_neg (map_ne hne)]
 simp only [finN, newOf, flatE_ints, go_sem, reduceCtorEq]
 refine .inr ⟨_, rfl, map_ne hne, by omega, by simp, ?_⟩
 rw [Nat.mul_one, List.take_of_length_le (by simp)]
theorem k59 {xs : List Int} (hxs : xs.length <= 1000) (hne : xs ≠ []) {g : FuncId} {caps : List SV} (hok : okFn Try.prog g = true) (hc : (caps.map LV.s).all LV.isOne = true) (hy : E.Yields Try.prog g caps (xs.map (.int .i64))) :
  E.FnNew Try.prog 59 1 [.s (.fn g [] caps)] ((srtI xs).map (.int .i64)) := by
 have hsl : (srtI xs).length = xs.length := List.length_mergeSort _
 have hsn : srtI xs ≠ [] := fun e => by rw [e] at hsl; exact hne (List.length_eq_zero_iff.1 hsl.symm)
 refine new_of_row okf59 ?_
 simp only [FRow.start, f59, c59r0, c59r1, go_sem, Nat.reduceSub]
 refine ⟨_, _, k91 hxs hne hok hc hy, .inl ⟨rfl, rfl⟩, by decide, ints_one, rfl, ?_⟩
 rw [if_neg (map_ne hne)]
 simp only [c59r2, flatE_ints, go_sem]
 refine ⟨_, _, k92 rfl (by omega), ?_⟩
 simp only [c59r3, finN, newOf, flatE_ints, go_sem, reduceCtorEq]
 refine .inr ⟨_, rfl, hsl, map_ne hsn, by omega, by simp [hsl], ?_⟩
 rw [Nat.mul_one, List.take_of_length_le (by simp [hsl])]
end Go.Proofs.Ytmcjoahnlbckoaa.Sk

/- Contract of a function: numbers alike, one behind the other, made one. -/
namespace Go.Proofs.Ytmcjoahnlbckoaa.Sk
open Go Go.E Go.E.Sm
set_option maxRecDepth 10000
def cpt : List Int -> List Int
 | [] => []
 | [x] => [x]
 | x :: y :: l => if x = y then cpt (y :: l) else x :: cpt (y :: l)
theorem cpt_snoc {x y : Int} : ∀ (l : List Int), cpt (l ++ [y] ++ [x]) = if y = x then cpt (l ++ [y]) else cpt (l ++ [y]) ++ [x]
 | [] => by
  by_cases h : y = x
  ·subst h; simp [cpt]
  ·simp [cpt, h]
 | [a] => by
  have h0 := cpt_snoc (x := x) (y := y) []
  simp only [List.nil_append, List.cons_append, cpt] at h0 ⊢
  by_cases h1 : a = y <;> by_cases h2 : y = x <;> simp [h1, h2]
 | a :: b :: l => by
  have h0 := cpt_snoc (x := x) (y := y) (b :: l)
  simp only [List.cons_append, cpt] at h0 ⊢
  rw [h0]
  by_cases h1 : a = b <;> by_cases h2 : y = x <;> simp [h1, h2]
theorem cpt_len : ∀ (l : List Int), (cpt l).length <= l.length
 | [] => Nat.le_refl _
 | [x] => Nat.le_refl _
 | x :: y :: l => by
  have := cpt_len (y :: l)
  rw [cpt]
  split
  ·simp only [List.length_cons] at *; omega
  ·simp only [List.length_cons] at *; omega
theorem cpt_take {L : List Int} {i : Nat} (h0 : 0 < i) (hi : i < L.length) : cpt (L.take (i + 1)) = if L[i - 1]'(by omega) = L[i] then cpt (L.take i) else cpt (L.take i) ++ [L[i]] := by
 have e1 : L.take (i + 1) = L.take i ++ [L[i]] := by rw [List.take_succ, List.getElem?_eq_getElem hi]; rfl
 have e2 : L.take i = L.take (i - 1) ++ [L[i - 1]'(by omega)] := by
  have : i = (i - 1) + 1 := by omega
  conv => lhs; rw [this]
  rw [List.take_succ, List.getElem?_eq_getElem (by omega)]; rfl
 rw [e1, e2, cpt_snoc]
theorem k61 {L : List Int} (hL : L.length <= 1000) : ∃ clip, CSem Try.prog 61 [.sl 0 0 L.length 1 false] [.row (L.map (.int .i64))] (.sl 0 0 (cpt L).length 1 clip) [.row ((cpt L ++ List.replicate (L.length - (cpt L).length) 0).map (.int .i64))] := by
 refine ⟨false, ?_⟩
 refine csem_of_row okf61 ?_
 generalize hr : (LV.sl 0 0 (cpt L).length 1 false) = r
 generalize hH : ([.row ((cpt L ++ List.replicate (L.length - (cpt L).length) 0).map (.int .i64))] : List ABlock) = H'
 simp only [FRow.start, f61, c61r0, c61r1, go_sem, Nat.reduceSub]
 intro hlen
 refine ⟨fun h2 => ?_, fun h2 => ?_⟩
 ·have hc : cpt L = L := by
   match L, h2 with
   | [], _ => rfl
   | [x], _ => rfl
   | x :: y :: l, h => simp at h; omega
  simp only [c61r2, finC, go_sem, ↓reduceIte, reduceCtorEq, Nat.reduceLeDiff]
  rw [<- hr, <- hH, hc]
  simp
 ·simp only [c61r3, go_sem]
  refine loop_rule (fun n τ => ∃ k : Nat, n = L.length - k /\ 1 <= k /\ k <= L.length /\ cpt (L.take k) = L.take k /\
   τ = ⟨[.sl 0 0 L.length 1 false, .any, .any, .s (.int .i64 k), .any, .any, .any, .any, .any, .any, .any, .any, .any, .any, .any, .any, .any, .any, .any, .any, .any, .any, .any, .any, .any, .any, .any, .any, .any, .any, .any, .any, .any, .any, .any, .any, .any, .any, .any, .any, .any, .any, .any, .any, .any, .any, .any, .any, .any, .any, .any, .any, .any, .any, .any, .any, .any, .any, .any, .any, .any], [.row (L.map (.int .i64))]⟩) (L.length - 1) rfl ?_ ?_
  ·simp only [c61l17m, go_sem, ↓reduceIte, reduceCtorEq, Nat.reduceLeDiff]
   refine ⟨1, rfl, by omega, by omega, ?_, rfl⟩
   match L, h2 with
   | [], h => simp at h
   | x :: l, _ => rfl
  ·rintro I n τ ⟨k, rfl, hk1, hk, hc, rfl⟩ hI
   simp only [c61l17, c61r4, go_sem, ↓reduceIte]
   intro _
   refine ⟨fun hlt => ?_, fun hge => ?_⟩
   ·have hx : L[k]? = some L[k] := List.getElem?_eq_getElem hlt
    have hx1 : L[k - 1]? = some (L[k - 1]'(by omega)) := List.getElem?_eq_getElem (by omega)
    have hk' : ((k : Int) - 1) = ((k - 1 : Nat) : Int) := by omega
    have ht := cpt_take (L := L) (i := k) (by omega) hlt
    have hin : inR .i64 ((k : Int) + 1) := inR_small (by omega) (by omega)
    generalize hvx : L[k] = x at hx ht
    generalize hvy : L[k - 1]'(by omega) = y at hx1 ht
    simp only [c61r5, hk', hx, hx1, Nat.mul_one, go_sem]
    refine ⟨hlt, inR_small (by omega) (by omega), by omega, ?_⟩
    refine ⟨fun he => ?_, fun he => ?_⟩
    ·rw [if_pos he.symm, hc] at ht
     simp only [c61r6, c61r7, Nat.mul_one, go_sem, ↓reduceIte]
     refine ⟨hk, ?_⟩
     refine loop_rule (fun n τ => ∃ (K j : Nat) (R : List Int), n = L.length - k - j /\ 1 <= j /\ k + j <= L.length /\ k <= K /\ K <= k + j - 1 /\ R.length = L.length /\ R.take K = cpt (L.take (k + j)) /\ (∀ i, k + j - 1 <= i -> R[i]? = L[i]?) /\
      τ = ⟨[.sl 0 0 L.length 1 false, .any, .any, .s (.int .i64 K), .sl 0 k (L.length - k) 1 false, .s (.int .i64 j), .any, .any, .any, .any, .any, .any, .any, .any, .any, .any, .any, .any, .any, .any, .any, .any, .any, .any, .any, .any, .any, .any, .any, .any, .any, .any, .any, .any, .any, .any, .any, .any, .any, .any, .any, .any, .any, .any, .any, .any, .any, .any, .any, .any, .any, .any, .any, .any, .any, .any, .any, .any, .any, .any, .any], [.row (R.map (.int .i64))]⟩) (L.length - k - 1) rfl ?_ ?_
     ·simp only [c61l13m, go_sem, ↓reduceIte, reduceCtorEq, Nat.reduceLeDiff]
      exact ⟨k, 1, L, rfl, Nat.le_refl _, by omega, Nat.le_refl _, by omega, rfl, ht.symm, fun _ _ => rfl, rfl⟩
     ·rintro I2 n τ ⟨K, j, R, rfl, hj1, hj, hkK, hK, hRl, hRt, hRd, rfl⟩ hI2
      have hinK : inR .i64 ((K : Int) + 1) := inR_small (by omega) (by omega)
      have hinj : inR .i64 ((j : Int) + 1) := inR_small (by omega) (by omega)
      simp only [c61l13, c61r8, go_sem, ↓reduceIte]
      intro _
      refine ⟨fun hlt2 => ?_, fun hge2 => ?_⟩
      ·have hlt3 : k + j < L.length := by omega
       have hx2 : R[k + j]? = some L[k + j] := by rw [hRd _ (by omega)]; exact List.getElem?_eq_getElem hlt3
       have hx3 : R[k + (j - 1)]? = some (L[k + j - 1]'(by omega)) := by rw [hRd _ (by omega), show k + (j - 1) = k + j - 1 by omega]; exact List.getElem?_eq_getElem (by omega)
       have hj' : ((j : Int) - 1) = ((j - 1 : Nat) : Int) := by omega
       have ht2 := cpt_take (L := L) (i := k + j) (by omega) hlt3
       generalize hv2 : L[k + j] = x2 at hx2 ht2
       generalize hv3 : L[k + j - 1]'(by omega) = y2 at hx3 ht2
       simp only [c61r9, hj', hx2, hx3, Nat.mul_one, go_sem]
       refine ⟨by omega, inR_small (by omega) (by omega), by omega, ?_⟩
       refine ⟨fun he2 => ?_, fun he2 => ?_⟩
       ·rw [if_pos he2.symm] at ht2
        simp only [c61r12, c61l13m, go_sem, ↓reduceIte, reduceCtorEq, Nat.reduceLeDiff]
        exact ⟨hinj, hI2 (L.length - k - (j + 1)) _ (by omega) ⟨K, j + 1, R, rfl, by omega, by omega, hkK, by omega, hRl, by rw [hRt, <- ht2]; rfl, fun i hi => hRd i (by omega), rfl⟩⟩
       ·rw [if_neg (fun e => he2 e.symm)] at ht2
        simp only [c61r10, hx2, Nat.mul_one, splice, SV.cells, c61r11, c61r12, c61l13m, go_sem, ↓reduceIte, reduceCtorEq, Nat.reduceLeDiff]
        refine ⟨by omega, by omega, by omega, hinK, hinj, ?_⟩
        have htl : (R.take K).length = K := by rw [List.length_take]; omega
        refine hI2 (L.length - k - (j + 1)) _ (by omega) ⟨K + 1, j + 1, R.take K ++ [x2] ++ R.drop (K + 1), rfl, by omega, by omega, by omega, by omega, ?_, ?_, fun i hi => ?_, ?_⟩
        ·simp only [List.length_append, List.length_drop, List.length_singleton, htl]; omega
        ·rw [List.take_append_of_le_length (by simp [htl]), List.take_of_length_le (by simp [htl]), hRt, <- ht2]; rfl
        ·rw [List.getElem?_append_right (by simp only [List.length_append, List.length_singleton, htl]; omega), List.getElem?_drop]
         simp only [List.length_append, List.length_singleton, htl]
         rw [show K + 1 + (i - (K + 1)) = i by omega]
         exact hRd i (by omega)
        ·simp [List.map_take, List.map_drop]
      ·have hje : k + j = L.length := by omega
       rw [hje, List.take_length] at hRt
       have hKl : (cpt L).length = K := by rw [<- hRt, List.length_take]; omega
       simp only [c61r14, c61r15, finC, go_sem, ↓reduceIte, reduceCtorEq, Nat.reduceLeDiff]
       refine ⟨by omega, by omega, Nat.zero_le _, by omega, ?_, ?_⟩
       ·rw [<- hr, hKl]; simp
       ·rw [<- hH, hKl, <- hRt]
        unfold splice
        rw [Nat.mul_one, List.flatten_replicate_singleton, List.drop_of_length_le (by simp; omega)]
        simp
    ·rw [if_neg (fun e => he e.symm), hc] at ht
     simp only [c61r16, c61l17m, go_sem, ↓reduceIte, reduceCtorEq, Nat.reduceLeDiff]
     refine ⟨hin, hI (L.length - (k + 1)) _ (by omega) ⟨k + 1, rfl, by omega, by omega, ?_, rfl⟩⟩
     rw [ht]
     rw [List.take_succ, List.getElem?_eq_getElem hlt, hvx]; rfl
   ·have hke : k = L.length := by omega
    subst hke
    rw [List.take_length] at hc
    simp only [c61r18, finC, go_sem, ↓reduceIte, reduceCtorEq, Nat.reduceLeDiff]
    rw [<- hr, <- hH, hc]
    simp
end Go.Proofs.Ytmcjoahnlbckoaa.Sk
