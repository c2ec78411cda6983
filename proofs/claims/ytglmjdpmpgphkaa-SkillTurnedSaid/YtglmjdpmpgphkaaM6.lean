/- The iterator over answers. -/
import Derived.Test.YtglmjdpmpgphkaaM5

set_option linter.all false

namespace Go.Proofs.Ytglmjdpmpgphkaa.Sk
open Go Go.E Go.E.Sm

set_option maxRecDepth 10000
def bools (l : List Bool) : SV := .slice (l.map .bool)
/-- The cells of a board. -/
def bd (pl : List Bool) (mv : List (List Int)) (wn : List Bool) (far : List SV) : List SV := bools pl :: .slice (mv.map ints) :: bools wn :: far
def mach (pl : List Bool) (mv : List (List Int)) (wn : List Bool) : SV := .agg [bools pl, .slice (mv.map ints), bools wn]

def stepv (i : Nat) (k : Int) : SV := .agg [.int .i64 i, .int .i64 k]
def ansAt (i : Nat) (p w : Bool) (l : List Int) : List SV := if p then [] else if w then [] else l.map (stepv i)
def ansFrom : Nat → List Bool → List (List Int) → List Bool → List SV
  | i, p :: ps, l :: ls, w :: ws => ansAt i p w l ++ ansFrom (i + 1) ps ls ws
  | _, _, _, _ => []

theorem ansFrom_flat : ∀ (i : Nat) (ps : List Bool) (ls : List (List Int)) (ws : List Bool), ∀ v ∈ ansFrom i ps ls ws, v.flat = true
  | i, p :: ps, l :: ls, w :: ws => by
    intro v hv
    simp only [ansFrom, List.mem_append] at hv
    rcases hv with hv | hv
    · unfold ansAt at hv
      split at hv
      · cases hv
      · split at hv
        · cases hv
        · obtain ⟨k, _, rfl⟩ := List.mem_map.1 hv
          rfl
    · exact ansFrom_flat _ _ _ _ v hv
  | _, [], _, _ => by intro v hv; simp [ansFrom] at hv
  | _, _ :: _, [], _ => by intro v hv; simp [ansFrom] at hv
  | _, _ :: _, _ :: _, [] => by intro v hv; simp [ansFrom] at hv

theorem k104 {pl wn : List Bool} {mv : List (List Int)} {far : List SV} (hpl : pl.length = mv.length) (hwn : wn.length = mv.length) :
    E.Yields Try.prog 104 [.ptr [.ptr (bd pl mv wn far)]] (ansFrom 0 pl mv wn) := by
  refine yields_of_row (nt := 54) Try.func104 rfl (by kernel_rfl) (by kernel_rfl) (by kernel_rfl) (by kernel_rfl) (ansFrom_flat _ _ _ _) (ac := f104.code) fun l => ?_
  simp only [f104, c104r0, bd, go_sem, List.replicate, List.append_nil, List.cons_append, List.nil_append, List.length_cons, List.length_nil, List.map_cons, List.map_nil, List.getElem?_cons_zero, List.getElem?_cons_succ, Nat.reduceAdd, Nat.reduceSub, Nat.reduceLT, Nat.reduceLeDiff, and_true, true_and, forall_const, if_true, if_false, ↓reduceIte, Int.toNat_natCast, List.getElem?_map, Option.map_some, Option.bind_some, Bool.not_true, Bool.not_false, reduceCtorEq, List.take_nil, List.length_map, eq_self, List.all_cons, List.all_nil, Bool.and_true, Int.ofNat_lt, Bool.and_self, finK, resK, Int.natCast_nonneg, implies_true, List.take_zero, Nat.zero_add, List.drop_zero, List.drop_succ_cons, List.take_succ_cons, List.set_cons_zero, List.set_cons_succ, decide_true, decide_false, Int.le_refl, Nat.le_refl, List.flatten_cons, List.flatten_nil]
  intro hlen
  have hlen' : (mv.length : Int) ≤ 2 ^ 63 - 1 := Int.le_trans (Int.ofNat_le.mpr hlen) maxLen_le
  refine ywp_loop (fun n fr rest => ∃ i : Nat, n = mv.length - i ∧ i ≤ mv.length ∧ rest = some (ansFrom i (pl.drop i) (mv.drop i) (wn.drop i)) ∧
    fr = [.yl l, .s (.ptr [.ptr (bd pl mv wn far)]), .any, .any, .any, .any, .any, .any, .any, .any, .any, .s (.slice (mv.map ints)), .s (.int .i64 mv.length), .s (.int .i64 i), .any, .any, .any, .any, .any, .any, .any, .any, .any, .any, .any, .any, .any, .any, .any, .any, .any, .any, .any, .any, .any, .any, .any, .any, .any, .any, .any, .any, .any, .any, .any, .any, .any, .any, .any, .any, .any, .any, .any, .any]) mv.length ?_ ?_
  · simp only [c104l10m, go_sem, List.replicate, List.append_nil, List.cons_append, List.nil_append, List.length_cons, List.length_nil, List.map_cons, List.map_nil, List.getElem?_cons_zero, List.getElem?_cons_succ, Nat.reduceAdd, Nat.reduceSub, Nat.reduceLT, Nat.reduceLeDiff, and_true, true_and, forall_const, if_true, if_false, ↓reduceIte, Int.toNat_natCast, List.getElem?_map, Option.map_some, Option.bind_some, Bool.not_true, Bool.not_false, reduceCtorEq, List.take_nil, List.length_map, eq_self, List.all_cons, List.all_nil, Bool.and_true, Int.ofNat_lt, Bool.and_self, finK, resK, Int.natCast_nonneg, implies_true, List.take_zero, Nat.zero_add, List.drop_zero, List.drop_succ_cons, List.take_succ_cons, List.set_cons_zero, List.set_cons_succ, decide_true, decide_false, Int.le_refl, Nat.le_refl, List.flatten_cons, List.flatten_nil]
    exact ⟨0, rfl, Nat.zero_le _, rfl, rfl⟩
  · rintro I n fr rest ⟨i, rfl, hi, rfl, rfl⟩ hI
    simp only [c104l10, c104r1, go_sem, List.replicate, List.append_nil, List.cons_append, List.nil_append, List.length_cons, List.length_nil, List.map_cons, List.map_nil, List.getElem?_cons_zero, List.getElem?_cons_succ, Nat.reduceAdd, Nat.reduceSub, Nat.reduceLT, Nat.reduceLeDiff, and_true, true_and, forall_const, if_true, if_false, ↓reduceIte, Int.toNat_natCast, List.getElem?_map, Option.map_some, Option.bind_some, Bool.not_true, Bool.not_false, reduceCtorEq, List.take_nil, List.length_map, eq_self, List.all_cons, List.all_nil, Bool.and_true, Int.ofNat_lt, Bool.and_self, finK, resK, Int.natCast_nonneg, implies_true, List.take_zero, Nat.zero_add, List.drop_zero, List.drop_succ_cons, List.take_succ_cons, List.set_cons_zero, List.set_cons_succ, decide_true, decide_false, Int.le_refl, Nat.le_refl, List.flatten_cons, List.flatten_nil]
    refine ⟨fun hlt => ?_, fun hge => ?_⟩
    · have hx : mv[i]? = some mv[i] := List.getElem?_eq_getElem hlt
      have hp : pl[i]? = some pl[i] := List.getElem?_eq_getElem (by omega)
      have hw : wn[i]? = some wn[i] := List.getElem?_eq_getElem (by omega)
      have hdrop : mv.drop i = mv[i] :: mv.drop (i + 1) := List.drop_eq_getElem_cons hlt
      have hdp : pl.drop i = pl[i] :: pl.drop (i + 1) := List.drop_eq_getElem_cons (by omega)
      have hdw : wn.drop i = wn[i] :: wn.drop (i + 1) := List.drop_eq_getElem_cons (by omega)
      rw [hdrop, hdp, hdw, ansFrom]
      generalize mv[i] = m at *
      generalize pl[i] = p at *
      generalize wn[i] = w at *
      simp only [c104r2, c104r3, hx, ints, go_sem, List.replicate, List.append_nil, List.cons_append, List.nil_append, List.length_cons, List.length_nil, List.map_cons, List.map_nil, List.getElem?_cons_zero, List.getElem?_cons_succ, Nat.reduceAdd, Nat.reduceSub, Nat.reduceLT, Nat.reduceLeDiff, and_true, true_and, forall_const, if_true, if_false, ↓reduceIte, Int.toNat_natCast, List.getElem?_map, Option.map_some, Option.bind_some, Bool.not_true, Bool.not_false, reduceCtorEq, List.take_nil, List.length_map, eq_self, List.all_cons, List.all_nil, Bool.and_true, Int.ofNat_lt, Bool.and_self, finK, resK, Int.natCast_nonneg, implies_true, List.take_zero, Nat.zero_add, List.drop_zero, List.drop_succ_cons, List.take_succ_cons, List.set_cons_zero, List.set_cons_succ, decide_true, decide_false, Int.le_refl, Nat.le_refl, List.flatten_cons, List.flatten_nil]
      intro hml
      have hml' : (m.length : Int) ≤ 2 ^ 63 - 1 := Int.le_trans (Int.ofNat_le.mpr hml) maxLen_le
      refine ywp_loop (fun n fr rest => ∃ j : Nat, n = m.length - j ∧ j ≤ m.length ∧ rest = some (ansAt i p w (m.drop j) ++ ansFrom (i + 1) (List.drop (i + 1) pl) (List.drop (i + 1) mv) (List.drop (i + 1) wn)) ∧
        fr = [.yl l, .s (.ptr [.ptr (bd pl mv wn far)]), .any, .s (.int .i64 i), .any, .any, .any, .any, .any, .any, .any, .s (.slice (mv.map ints)), .s (.int .i64 mv.length), .s (.int .i64 i), .any, .any, .any, .any, .s (.slice (m.map (.int .i64))), .s (.int .i64 m.length), .s (.int .i64 j), .any, .any, .any, .any, .any, .any, .any, .any, .any, .any, .any, .any, .any, .any, .any, .any, .any, .any, .any, .any, .any, .any, .any, .any, .any, .any, .any, .any, .any, .any, .any, .any, .any]) m.length ?_ ?_
      · simp only [c104l8m, go_sem, List.replicate, List.append_nil, List.cons_append, List.nil_append, List.length_cons, List.length_nil, List.map_cons, List.map_nil, List.getElem?_cons_zero, List.getElem?_cons_succ, Nat.reduceAdd, Nat.reduceSub, Nat.reduceLT, Nat.reduceLeDiff, and_true, true_and, forall_const, if_true, if_false, ↓reduceIte, Int.toNat_natCast, List.getElem?_map, Option.map_some, Option.bind_some, Bool.not_true, Bool.not_false, reduceCtorEq, List.take_nil, List.length_map, eq_self, List.all_cons, List.all_nil, Bool.and_true, Int.ofNat_lt, Bool.and_self, finK, resK, Int.natCast_nonneg, implies_true, List.take_zero, Nat.zero_add, List.drop_zero, List.drop_succ_cons, List.take_succ_cons, List.set_cons_zero, List.set_cons_succ, decide_true, decide_false, Int.le_refl, Nat.le_refl, List.flatten_cons, List.flatten_nil]
        exact ⟨0, rfl, Nat.zero_le _, rfl, rfl⟩
      · rintro I2 n fr rest ⟨j, rfl, hj, rfl, rfl⟩ hI2
        simp only [c104l8, c104r4, go_sem, List.replicate, List.append_nil, List.cons_append, List.nil_append, List.length_cons, List.length_nil, List.map_cons, List.map_nil, List.getElem?_cons_zero, List.getElem?_cons_succ, Nat.reduceAdd, Nat.reduceSub, Nat.reduceLT, Nat.reduceLeDiff, and_true, true_and, forall_const, if_true, if_false, ↓reduceIte, Int.toNat_natCast, List.getElem?_map, Option.map_some, Option.bind_some, Bool.not_true, Bool.not_false, reduceCtorEq, List.take_nil, List.length_map, eq_self, List.all_cons, List.all_nil, Bool.and_true, Int.ofNat_lt, Bool.and_self, finK, resK, Int.natCast_nonneg, implies_true, List.take_zero, Nat.zero_add, List.drop_zero, List.drop_succ_cons, List.take_succ_cons, List.set_cons_zero, List.set_cons_succ, decide_true, decide_false, Int.le_refl, Nat.le_refl, List.flatten_cons, List.flatten_nil]
        refine ⟨fun hlt2 => ?_, fun hge2 => ?_⟩
        · have hy : m[j]? = some m[j] := List.getElem?_eq_getElem hlt2
          have hdm : m.drop j = m[j] :: m.drop (j + 1) := List.drop_eq_getElem_cons hlt2
          rw [hdm]
          generalize m[j] = k at *
          cases p with
          | true =>
            simp only [c104r5, c104r6, hy, hp, bd, bools, c104r7, c104l8m, go_sem, List.replicate, List.append_nil, List.cons_append, List.nil_append, List.length_cons, List.length_nil, List.map_cons, List.map_nil, List.getElem?_cons_zero, List.getElem?_cons_succ, Nat.reduceAdd, Nat.reduceSub, Nat.reduceLT, Nat.reduceLeDiff, and_true, true_and, forall_const, if_true, if_false, ↓reduceIte, Int.toNat_natCast, List.getElem?_map, Option.map_some, Option.bind_some, Bool.not_true, Bool.not_false, reduceCtorEq, List.take_nil, List.length_map, eq_self, List.all_cons, List.all_nil, Bool.and_true, Int.ofNat_lt, Bool.and_self, finK, resK, Int.natCast_nonneg, implies_true, List.take_zero, Nat.zero_add, List.drop_zero, List.drop_succ_cons, List.take_succ_cons, List.set_cons_zero, List.set_cons_succ, decide_true, decide_false, Int.le_refl, Nat.le_refl, List.flatten_cons, List.flatten_nil]
            exact ⟨inR_small (by omega) (by omega), hI2 (m.length - (j + 1)) _ _ (by omega) ⟨j + 1, rfl, by omega, by simp [ansAt], rfl⟩⟩
          | false => cases w with
            | true =>
              simp only [c104r5, c104r6, hy, hp, hw, bd, bools, c104r7, c104l8m, go_sem, List.replicate, List.append_nil, List.cons_append, List.nil_append, List.length_cons, List.length_nil, List.map_cons, List.map_nil, List.getElem?_cons_zero, List.getElem?_cons_succ, Nat.reduceAdd, Nat.reduceSub, Nat.reduceLT, Nat.reduceLeDiff, and_true, true_and, forall_const, if_true, if_false, ↓reduceIte, Int.toNat_natCast, List.getElem?_map, Option.map_some, Option.bind_some, Bool.not_true, Bool.not_false, reduceCtorEq, List.take_nil, List.length_map, eq_self, List.all_cons, List.all_nil, Bool.and_true, Int.ofNat_lt, Bool.and_self, finK, resK, Int.natCast_nonneg, implies_true, List.take_zero, Nat.zero_add, List.drop_zero, List.drop_succ_cons, List.take_succ_cons, List.set_cons_zero, List.set_cons_succ, decide_true, decide_false, Int.le_refl, Nat.le_refl, List.flatten_cons, List.flatten_nil]
              exact ⟨inR_small (by omega) (by omega), hI2 (m.length - (j + 1)) _ _ (by omega) ⟨j + 1, rfl, by omega, by simp [ansAt], rfl⟩⟩
            | false =>
              simp only [c104r5, c104r6, hy, hp, hw, bd, bools, c104r7, c104l8m, ansAt, Bool.false_eq_true, stepv, go_sem, List.replicate, List.append_nil, List.cons_append, List.nil_append, List.length_cons, List.length_nil, List.map_cons, List.map_nil, List.getElem?_cons_zero, List.getElem?_cons_succ, Nat.reduceAdd, Nat.reduceSub, Nat.reduceLT, Nat.reduceLeDiff, and_true, true_and, forall_const, if_true, if_false, ↓reduceIte, Int.toNat_natCast, List.getElem?_map, Option.map_some, Option.bind_some, Bool.not_true, Bool.not_false, reduceCtorEq, List.take_nil, List.length_map, eq_self, List.all_cons, List.all_nil, Bool.and_true, Int.ofNat_lt, Bool.and_self, finK, resK, Int.natCast_nonneg, implies_true, List.take_zero, Nat.zero_add, List.drop_zero, List.drop_succ_cons, List.take_succ_cons, List.set_cons_zero, List.set_cons_succ, decide_true, decide_false, Int.le_refl, Nat.le_refl, List.flatten_cons, List.flatten_nil]
              exact ⟨⟨inR_small (by omega) (by omega), hI2 (m.length - (j + 1)) _ _ (by omega) ⟨j + 1, rfl, by omega, by simp [ansAt], rfl⟩⟩, .inr rfl⟩
        · have hje : j = m.length := by omega
          subst hje
          have he : ansAt i p w ([] : List Int) = [] := by unfold ansAt; cases p <;> cases w <;> rfl
          rw [List.drop_length, he, List.nil_append]
          simp only [c104r9, c104l10m, go_sem, List.replicate, List.append_nil, List.cons_append, List.nil_append, List.length_cons, List.length_nil, List.map_cons, List.map_nil, List.getElem?_cons_zero, List.getElem?_cons_succ, Nat.reduceAdd, Nat.reduceSub, Nat.reduceLT, Nat.reduceLeDiff, and_true, true_and, forall_const, if_true, if_false, ↓reduceIte, Int.toNat_natCast, List.getElem?_map, Option.map_some, Option.bind_some, Bool.not_true, Bool.not_false, reduceCtorEq, List.take_nil, List.length_map, eq_self, List.all_cons, List.all_nil, Bool.and_true, Int.ofNat_lt, Bool.and_self, finK, resK, Int.natCast_nonneg, implies_true, List.take_zero, Nat.zero_add, List.drop_zero, List.drop_succ_cons, List.take_succ_cons, List.set_cons_zero, List.set_cons_succ, decide_true, decide_false, Int.le_refl, Nat.le_refl, List.flatten_cons, List.flatten_nil]
          exact ⟨inR_small (by omega) (by omega), hI (mv.length - (i + 1)) _ _ (by omega) ⟨i + 1, rfl, by omega, rfl, rfl⟩⟩
    · have hie : i = mv.length := by omega
      subst hie
      simp only [finY, go_sem, List.replicate, List.append_nil, List.cons_append, List.nil_append, List.length_cons, List.length_nil, List.map_cons, List.map_nil, List.getElem?_cons_zero, List.getElem?_cons_succ, Nat.reduceAdd, Nat.reduceSub, Nat.reduceLT, Nat.reduceLeDiff, and_true, true_and, forall_const, if_true, if_false, ↓reduceIte, Int.toNat_natCast, List.getElem?_map, Option.map_some, Option.bind_some, Bool.not_true, Bool.not_false, reduceCtorEq, List.take_nil, List.length_map, eq_self, List.all_cons, List.all_nil, Bool.and_true, Int.ofNat_lt, Bool.and_self, finK, resK, Int.natCast_nonneg, implies_true, List.take_zero, Nat.zero_add, List.drop_zero, List.drop_succ_cons, List.take_succ_cons, List.set_cons_zero, List.set_cons_succ, decide_true, decide_false, Int.le_refl, Nat.le_refl, List.flatten_cons, List.flatten_nil]
      left
      simp [ansFrom]
end Go.Proofs.Ytglmjdpmpgphkaa.Sk

/- Known answers of functions, and an iterator, by a table. -/
namespace Go.Proofs.Ytglmjdpmpgphkaa.Sk
open Go Go.E

mutual
def sveq : SV → SV → Bool
  | .bool a, .bool b => a == b
  | .int k n, .int k' n' => decide (k = k') && decide (n = n')
  | .str a, .str b => decide (a.data = b.data)
  | .agg a, .agg b => svseq a b
  | .slice a, .slice b => svseq a b
  | .ptr a, .ptr b => svseq a b
  | .nilp, .nilp => true
  | .fn f a b, .fn f' a' b' => decide (f = f') && svseq a a' && svseq b b'
  | .map a b, .map a' b' => svseq a a' && svseq b b'
  | .nili, .nili => true
  | _, _ => false
def svseq : List SV → List SV → Bool
  | [], [] => true
  | x :: xs, y :: ys => sveq x y && svseq xs ys
  | _, _ => false
end

mutual
theorem sveq_eq : ∀ {a b : SV}, sveq a b = true → a = b
  | .bool _, b, h => by cases b <;> simp_all [sveq]
  | .int _ _, b, h => by cases b <;> simp_all [sveq]
  | .str x, b, h => by
    cases b <;> simp only [sveq, Bool.false_eq_true, decide_eq_true_eq] at h
    rename_i y; cases x; cases y; simp_all
  | .agg _, b, h => by cases b <;> simp only [sveq, Bool.false_eq_true] at h; rw [svseq_eq h]
  | .slice _, b, h => by cases b <;> simp only [sveq, Bool.false_eq_true] at h; rw [svseq_eq h]
  | .ptr _, b, h => by cases b <;> simp only [sveq, Bool.false_eq_true] at h; rw [svseq_eq h]
  | .nilp, b, h => by cases b <;> simp_all [sveq]
  | .fn _ _ _, b, h => by
    cases b <;> simp only [sveq, Bool.false_eq_true, Bool.and_eq_true, decide_eq_true_eq] at h
    rw [h.1.1, svseq_eq h.1.2, svseq_eq h.2]
  | .map _ _, b, h => by
    cases b <;> simp only [sveq, Bool.false_eq_true, Bool.and_eq_true] at h
    rw [svseq_eq h.1, svseq_eq h.2]
  | .nili, b, h => by cases b <;> simp_all [sveq]
theorem svseq_eq : ∀ {a b : List SV}, svseq a b = true → a = b
  | [], b, h => by cases b <;> simp_all [svseq]
  | x :: xs, b, h => by
    cases b <;> simp only [svseq, Bool.false_eq_true, Bool.and_eq_true] at h
    rw [sveq_eq h.1, svseq_eq h.2]
end

structure Fact where
  f : FuncId
  args : List SV
  rs : List SV

def tabFind : List Fact → FuncId → List SV → Option (List SV)
  | [], _, _ => none
  | e :: l, f, args => if e.f = f then if svseq e.args args = true then some e.rs else tabFind l f args else tabFind l f args
theorem tabFind_ok {P : Program} : ∀ {l : List Fact}, (∀ e ∈ l, E.Fn P e.f e.args e.rs) → ∀ {f : FuncId} {args rs : List SV}, tabFind l f args = some rs → E.Fn P f args rs
  | [], _, _, _, _, h => by cases h
  | e :: l, hl, f, args, rs, h => by
    have ih := tabFind_ok (l := l) (fun x hx => hl x (by simp [hx])) (f := f) (args := args) (rs := rs)
    unfold tabFind at h
    split at h
    · rename_i hf
      split at h
      · rename_i ha
        cases h
        rw [← hf, ← svseq_eq ha]
        exact hl e (by simp)
      · exact ih h
    · exact ih h

def ansTab (pl : List Bool) (mv : List (List Int)) (wn : List Bool) : FuncId → List SV → Option (List SV)
  | 104, [.ptr [.ptr (a :: b :: c :: _)]] => if (sveq a (bools pl) && sveq b (.slice (mv.map ints)) && sveq c (bools wn) && decide (pl.length = mv.length) && decide (wn.length = mv.length)) = true then some (ansFrom 0 pl mv wn) else none
  | _, _ => none
theorem ansTab_ok {pl wn : List Bool} {mv : List (List Int)} {g : FuncId} {caps xs : List SV} (h : ansTab pl mv wn g caps = some xs) : E.Yields Try.prog g caps xs := by
  unfold ansTab at h
  split at h
  · split at h
    · rename_i hc
      cases h
      simp only [Bool.and_eq_true, decide_eq_true_eq] at hc
      rw [sveq_eq hc.1.1.1.1, sveq_eq hc.1.1.1.2, sveq_eq hc.1.1.2]
      exact k104 hc.1.2 hc.2
    · cases h
  · cases h
end Go.Proofs.Ytglmjdpmpgphkaa.Sk

/- A copy of no elements. -/
namespace Go.Proofs.Ytglmjdpmpgphkaa.Sk
open Go Go.E Go.E.Sm
set_option maxRecDepth 10000
theorem k75nil : E.FnNew Try.prog 75 1 [.slice []] [] := by
  refine new_of_row okf75 ?_
  simp only [FRow.start, f75, c75r0, c75r1, c75r2, c75r3, go_sem, List.replicate, List.append_nil, List.cons_append, List.nil_append, List.length_cons, List.length_nil, List.map_cons, List.map_nil, List.getElem?_cons_zero, List.getElem?_cons_succ, Nat.reduceAdd, Nat.reduceSub, Nat.reduceLT, Nat.reduceLeDiff, and_true, true_and, forall_const, if_true, if_false, ↓reduceIte, Int.toNat_natCast, List.getElem?_map, Option.map_some, Option.bind_some, Bool.not_true, Bool.not_false, reduceCtorEq, List.take_nil, List.length_map, eq_self, List.all_cons, List.all_nil, Bool.and_true, Int.ofNat_lt, Bool.and_self, finK, resK, Int.natCast_nonneg, implies_true, List.take_zero, Nat.zero_add, List.drop_zero, List.drop_succ_cons, List.take_succ_cons, List.set_cons_zero, List.set_cons_succ, decide_true, decide_false, Int.le_refl, Nat.le_refl, List.flatten_cons, List.flatten_nil]
  simp [finN, newOf, fget, fitsE]
end Go.Proofs.Ytglmjdpmpgphkaa.Sk

/- Facts about the examples: valid machines. -/
namespace Go.Proofs.Ytglmjdpmpgphkaa.Sk
open Go Go.E

def newW : FuncId → Nat → List SV → Option (List SV)
  | 75, 1, [.slice []] => some []
  | _, _, _ => none
theorem newW_ok {f : FuncId} {sz : Nat} {args xs : List SV} (h : newW f sz args = some xs) : E.FnNew Try.prog f sz args xs := by
  unfold newW at h
  split at h
  · cases h; exact k75nil
  · cases h
def tabN (N Y : FuncId → List SV → Option (List SV)) : Tab := exAll Try.prog tbl tbl2 N Y newW 1000 12
def none2 (_ : FuncId) (_ : List SV) : Option (List SV) := none
theorem tab_fn {N Y : FuncId → List SV → Option (List SV)} (hN : ∀ f args rs, N f args = some rs → E.Fn Try.prog f args rs) (hY : ∀ g caps xs, Y g caps = some xs → E.Yields Try.prog g caps xs) {f : FuncId} {args rs : List SV} (h : (tabN N Y).fn f args = some rs) : E.Fn Try.prog f args rs :=
  (exAll_ok tbl_ok tbl2_ok tbl_fn hN hY (fun _ _ _ _ h => newW_ok h) 1000 12).fn f args rs h
/-- A function that is in no table of these, reckoned. -/
theorem fn_run {N Y : FuncId → List SV → Option (List SV)} (hN : ∀ f args rs, N f args = some rs → E.Fn Try.prog f args rs) (hY : ∀ g caps xs, Y g caps = some xs → E.Yields Try.prog g caps xs) {f : FuncId} {r : FRow} {args rs : List SV} (hr : r.Ok Try.prog f)
    (h : (match runX Try.prog (tabN N Y) 1000 r (args.map .s) [] with | some τ => resX τ.hp τ.fr r.res | none => none) = some rs) : E.Fn Try.prog f args rs := by
  split at h
  · rename_i τ hrun
    exact fn_of_row hr (runX_sound (H := []) (exAll_ok tbl_ok tbl2_ok tbl_fn hN hY (fun _ _ _ _ h => newW_ok h) 1000 12) hrun (resX_sound h rfl) (resX_sound h rfl))
  · cases h
theorem tab_none {f : FuncId} {args rs : List SV} (h : (tabN none2 none2).fn f args = some rs) : E.Fn Try.prog f args rs :=
  tab_fn (fun _ _ _ h => by cases h) (fun _ _ _ h => by cases h) h

def pl0 : List Bool := [true, false, false, true, true, true]
def wn0 : List Bool := [false, false, false, false, false, true]
def exM : SV := mach pl0 [[1, 2], [3, 4], [0, 5], [5], [4, 5], []] wn0
def exN : SV := mach pl0 [[1, 2], [3, 4], [0, 5], [5], [4], []] wn0
def exB1 : SV := mach pl0 [[1], [3, 4], [0, 5], [5], [5], []] wn0
def exB2 : SV := mach pl0 [[2], [3, 4], [0, 5], [5], [5], []] wn0
def exT1 : SV := mach pl0 [[1, 2], [3], [0, 5], [5], [4], []] wn0
def exT2 : SV := mach pl0 [[1, 2], [4], [0, 5], [5], [4], []] wn0
def boardOf (m : SV) (d : List Int) : SV := .ptr (m.cells ++ (d ++ List.replicate (14 - d.length) (-1)).map (.int .i64))
def ok0 : List SV := [.int .i64 0]

theorem c20M : E.Fn Try.prog 20 [exM] ok0 := tab_none (by kernel_rfl)
theorem c20N : E.Fn Try.prog 20 [exN] ok0 := tab_none (by kernel_rfl)
theorem c20B1 : E.Fn Try.prog 20 [exB1] ok0 := tab_none (by kernel_rfl)
theorem c20B2 : E.Fn Try.prog 20 [exB2] ok0 := tab_none (by kernel_rfl)
end Go.Proofs.Ytglmjdpmpgphkaa.Sk
