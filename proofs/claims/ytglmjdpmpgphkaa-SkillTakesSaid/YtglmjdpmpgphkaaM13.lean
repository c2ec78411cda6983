/- Sets of positions: what is found at last is least. -/
import Derived.Test.YtglmjdpmpgphkaaM12

set_option linter.all false

namespace Go.Proofs.Ytglmjdpmpgphkaa.Sk
open Go Go.E
set_option linter.all false

def Dn (C C' : List Int) : Prop := ∀ t, 0 ≤ gD C t → 0 ≤ gD C' t ∧ gD C' t ≤ gD C t
theorem Dn.refl (C : List Int) : Dn C C := fun _ h => ⟨h, Int.le_refl _⟩
theorem Dn.trans {A B C : List Int} (h : Dn A B) (k : Dn B C) : Dn A C := fun t ht => ⟨(k t (h t ht).1).1, Int.le_trans (k t (h t ht).1).2 (h t ht).2⟩
theorem updC_dn {pl : List Bool} {mv : List (List Int)} {s i : Nat} {C : List Int} (hs : 0 ≤ gD C s) : Dn C (updC pl mv s C i) := by
  intro t ht
  unfold updC
  split
  · exact ⟨ht, Int.le_refl _⟩
  · rename_i hn
    have hm : 0 ≤ moreV pl mv s i := by
      refine Decidable.byContradiction fun h => hn (.inr (by omega))
    split
    · rename_i hc
      rw [gD_set]
      split
      · rename_i he
        rw [← he.1] at ht ⊢
        omega
      · exact ⟨ht, Int.le_refl _⟩
    · exact ⟨ht, Int.le_refl _⟩
theorem innC_dn {pl : List Bool} {mv : List (List Int)} {s : Nat} {C : List Int} (hs : 0 ≤ gD C s) : ∀ m, Dn C (innC pl mv s C m)
  | 0 => Dn.refl _
  | m + 1 => (innC_dn hs m).trans (updC_dn (by rw [innC_low (Nat.le_refl _)]; exact hs))
theorem stpC_dn {pl : List Bool} {mv : List (List Int)} {s : Nat} {C : List Int} : Dn C (stpC pl mv C s) := by
  unfold stpC
  split
  · exact Dn.refl _
  · exact innC_dn (by omega) _
theorem innC_relax {pl : List Bool} {mv : List (List Int)} {s i : Nat} {C : List Int} (hs : 0 ≤ gD C s) (hb : s.testBit i = false) (hm : 0 ≤ moreV pl mv s i) (hu : s ||| 2 ^ i < C.length) : ∀ m, i < m →
    0 ≤ gD (innC pl mv s C m) (s ||| 2 ^ i) ∧ gD (innC pl mv s C m) (s ||| 2 ^ i) ≤ gD C s + moreV pl mv s i
  | 0, h => by omega
  | m + 1, h => by
    have hlow := innC_low (pl := pl) (mv := mv) (s := s) (t := s) (C := C) (Nat.le_refl _) m
    have hlen := innC_len (pl := pl) (mv := mv) (s := s) (C := C) m
    rw [innC]
    by_cases e : i = m
    · subst e
      generalize innC pl mv s C i = D at *
      unfold updC
      rw [if_neg (by rw [hb]; rintro (h | h); cases h; omega)]
      split
      · rw [gD_set, if_pos ⟨rfl, by omega⟩, hlow]
        omega
      · rename_i hc
        rw [hlow] at hc
        omega
    · have ih := innC_relax hs hb hm hu m (by omega)
      have := updC_dn (pl := pl) (mv := mv) (s := s) (i := m) (C := innC pl mv s C m) (by rw [hlow]; exact hs) _ ih.1
      omega
theorem runC_relax {pl : List Bool} {mv : List (List Int)} {C0 : List Int} (hC : C0.length = 2 ^ mv.length) {s i : Nat} (hs : s < 2 ^ mv.length) (hi : i < mv.length) (hb : s.testBit i = false) (hm : 0 ≤ moreV pl mv s i) : ∀ k, s < k → 0 ≤ gD (runC pl mv C0 k) s →
    0 ≤ gD (runC pl mv C0 k) (s ||| 2 ^ i) ∧ gD (runC pl mv C0 k) (s ||| 2 ^ i) ≤ gD (runC pl mv C0 k) s + moreV pl mv s i
  | 0, h, _ => by omega
  | k + 1, h, h0 => by
    have hlow := runC_low (pl := pl) (mv := mv) (C := C0) (t := s) k (by omega)
    have hlen := runC_len (pl := pl) (mv := mv) (C := C0) k
    rw [hlow] at h0 ⊢
    by_cases e : s = k
    · subst e
      rw [runC, stpC, if_neg (by omega)]
      exact innC_relax h0 hb hm (by rw [hlen, hC]; exact Nat.or_lt_two_pow hs (Nat.pow_lt_pow_right (by decide) hi)) mv.length hi
    · have ih := runC_relax hC hs hi hb hm k (by omega) h0
      have := stpC_dn (pl := pl) (mv := mv) (s := k) (C := runC pl mv C0 k) _ ih.1
      rw [runC]
      omega
theorem best_eq {pl : List Bool} {mv : List (List Int)} {C : List Int} {x : Nat} : ∀ k, bestR pl mv C x k = if bestI pl mv C x k < 0 then -1 else gD (runC pl mv C k) (bestI pl mv C x k).toNat
  | 0 => by simp [bestR, bestI]
  | k + 1 => by
    have ih := best_eq (pl := pl) (mv := mv) (C := C) (x := x) k
    obtain ⟨h1, h2, h3⟩ := bestI_rng (pl := pl) (mv := mv) (C := C) (x := x) k
    have hl := fun t ht => runC_low (pl := pl) (mv := mv) (C := C) (t := t) k ht
    rw [bestR, bestI]
    by_cases hn : gD (runC pl mv C k) k < 0
    · rw [if_pos hn, if_pos hn, ih]
      by_cases hb : bestI pl mv C x k < 0
      · rw [if_pos hb, if_pos hb]
      · rw [if_neg hb, if_neg hb, hl _ (by omega)]
    · rw [if_neg hn, if_neg hn]
      have hc : (k.testBit x = true ∧ (bestR pl mv C x k < 0 ∨ gD (runC pl mv C k) k < bestR pl mv C x k)) ↔ (k.testBit x = true ∧ (bestI pl mv C x k < 0 ∨ gD (runC pl mv C k) k < gD (runC pl mv C k) (bestI pl mv C x k).toNat)) := by
        rw [ih]
        by_cases hb : bestI pl mv C x k < 0
        · rw [if_pos hb]; simp [hb]
        · rw [if_neg hb]
          have := (h3 (by omega)).1
          refine and_congr Iff.rfl ⟨fun h => h.elim (fun h => by omega) .inr, fun h => h.elim (fun h => by omega) .inr⟩
      by_cases hk : k.testBit x = true ∧ (bestI pl mv C x k < 0 ∨ gD (runC pl mv C k) k < gD (runC pl mv C k) (bestI pl mv C x k).toNat)
      · rw [if_pos (hc.2 hk), if_pos hk, if_neg (by omega), Int.toNat_natCast, hl _ (Nat.le_refl _)]
      · rw [if_neg (fun h => hk (hc.1 h)), if_neg hk, ih]
        by_cases hb : bestI pl mv C x k < 0
        · rw [if_pos hb, if_pos hb]
        · rw [if_neg hb, if_neg hb, hl _ (by omega)]
theorem best_le {pl : List Bool} {mv : List (List Int)} {C : List Int} {x : Nat} : ∀ k u, u < k → u.testBit x = true → 0 ≤ gD (runC pl mv C k) u → 0 ≤ bestI pl mv C x k ∧ gD (runC pl mv C k) (bestI pl mv C x k).toNat ≤ gD (runC pl mv C k) u
  | 0, u, h, _, _ => by omega
  | k + 1, u, h, hx, h0 => by
    obtain ⟨h1, h2, h3⟩ := bestI_rng (pl := pl) (mv := mv) (C := C) (x := x) k
    have hl := fun t ht => runC_low (pl := pl) (mv := mv) (C := C) (t := t) k ht
    rw [hl u (by omega)] at h0 ⊢
    rw [bestI]
    by_cases e : u = k
    · subst e
      rw [if_neg (by omega)]
      split
      · rw [Int.toNat_natCast, hl _ (Nat.le_refl _)]
        omega
      · rename_i hc
        have hc2 : ¬ (bestI pl mv C x u < 0 ∨ gD (runC pl mv C u) u < gD (runC pl mv C u) (bestI pl mv C x u).toNat) := fun h => hc ⟨hx, h⟩
        rw [hl _ (by omega)]
        omega
    · have ih := best_le (pl := pl) (mv := mv) (C := C) (x := x) k u (by omega) hx h0
      split
      · rw [hl _ (by omega)]; exact ih
      · split
        · rename_i hc
          rw [Int.toNat_natCast, hl _ (Nat.le_refl _)]
          refine ⟨by omega, ?_⟩
          rcases hc.2 with h | h
          · omega
          · omega
        · rw [hl _ (by omega)]; exact ih

def finC (pl : List Bool) (mv : List (List Int)) (wn : List Bool) : List Int := runC pl mv (startC wn mv.length) (2 ^ mv.length)
def finL (pl : List Bool) (mv : List (List Int)) (wn : List Bool) : List Int := runL pl mv (startC wn mv.length) (List.replicate (2 ^ mv.length) 0) (2 ^ mv.length)
def finB (pl : List Bool) (mv : List (List Int)) (wn : List Bool) (x : Nat) : Int := bestI pl mv (startC wn mv.length) x (2 ^ mv.length)

theorem few_eq {pl wn : List Bool} {mv : List (List Int)} {x : Nat} : fewV pl mv wn x = if finB pl mv wn x < 0 then -1 else gD (finC pl mv wn) (finB pl mv wn x).toNat := best_eq _
theorem fin_best {pl wn : List Bool} {mv : List (List Int)} {x u : Nat} (hu : u < 2 ^ mv.length) (hx : u.testBit x = true) (h0 : 0 ≤ gD (finC pl mv wn) u) : 0 ≤ finB pl mv wn x ∧ gD (finC pl mv wn) (finB pl mv wn x).toNat ≤ gD (finC pl mv wn) u := best_le _ u hu hx h0
theorem fin_relax {pl wn : List Bool} {mv : List (List Int)} {s i : Nat} (hs : s < 2 ^ mv.length) (hi : i < mv.length) (hb : s.testBit i = false) (hm : 0 ≤ moreV pl mv s i) (h0 : 0 ≤ gD (finC pl mv wn) s) :
    0 ≤ gD (finC pl mv wn) (s ||| 2 ^ i) ∧ gD (finC pl mv wn) (s ||| 2 ^ i) ≤ gD (finC pl mv wn) s + moreV pl mv s i := runC_relax startC_len hs hi hb hm _ hs h0
theorem fin_won {pl wn : List Bool} {mv : List (List Int)} : gD (finC pl mv wn) (wonN wn mv.length) = 0 := by
  have hw := wonN_lt (wn := wn) mv.length
  have h1 := runC_fin (pl := pl) (mv := mv) (C := startC wn mv.length) (t := wonN wn mv.length) (2 ^ mv.length - wonN wn mv.length)
  rw [show wonN wn mv.length + (2 ^ mv.length - wonN wn mv.length) = 2 ^ mv.length by omega, (runC_start _ (Nat.le_refl _)).1] at h1
  refine h1.trans ?_
  unfold startC
  rw [gD_set, if_pos ⟨rfl, by simpa using hw⟩]
theorem fin_came {pl wn : List Bool} {mv : List (List Int)} {u : Nat} (hu : u < 2 ^ mv.length) (h0 : 0 ≤ gD (finC pl mv wn) u) : Came pl mv (wonN wn mv.length) (finC pl mv wn) (finL pl mv wn) (2 ^ mv.length) u :=
  run_came (by simp) _ (Nat.le_refl _) u hu h0
theorem fin_ind {pl wn : List Bool} {mv : List (List Int)} {P : Nat → Prop} (h0 : P (wonN wn mv.length))
    (hs : ∀ p i, p < 2 ^ mv.length → p ||| 2 ^ i < 2 ^ mv.length → 0 ≤ gD (finC pl mv wn) p → i < mv.length → p.testBit i = false → 0 ≤ moreV pl mv p i → gD (finC pl mv wn) (p ||| 2 ^ i) = gD (finC pl mv wn) p + moreV pl mv p i → gD (finL pl mv wn) (p ||| 2 ^ i) = (i : Int) → p ||| 2 ^ i ≠ wonN wn mv.length → P p → P (p ||| 2 ^ i)) :
    ∀ u, u < 2 ^ mv.length → 0 ≤ gD (finC pl mv wn) u → P u := by
  intro u
  induction u using Nat.strongRecOn with
  | _ u ih =>
    intro hu hc
    by_cases e : u = wonN wn mv.length
    · rw [e]; exact h0
    · rcases fin_came hu hc with h | ⟨p, i, h1, h2, h3, h4, h5, h6, h7, h8⟩
      · exact absurd h e
      · have hlt := or_gt h4
        subst h5
        exact hs p i (by omega) hu h6 h2 h4 h7 h8 h3 e (ih p hlt (by omega) h6)
theorem wonN_bit {wn : List Bool} {j : Nat} : ∀ m, (wonN wn m).testBit j = (decide (j < m) && wn.getD j false)
  | 0 => by simp [wonN]
  | m + 1 => by
    have ih := wonN_bit (wn := wn) (j := j) m
    unfold wonN
    by_cases e : j = m
    · subst e
      rw [show decide (j < j + 1) = true from decide_eq_true (by omega)]
      have h2 : (wonN wn j).testBit j = false := by rw [ih]; simp
      cases hw : wn.getD j false with
      | true => rw [if_pos rfl, Nat.testBit_or, Nat.testBit_two_pow_self]; simp
      | false => rw [if_neg (by simp), h2]; simp
    · have h3 : decide (j < m + 1) = decide (j < m) := decide_eq_decide.2 (by omega)
      rw [h3, ← ih]
      split
      · rw [Nat.testBit_or, Nat.testBit_two_pow_of_ne (by omega), Bool.or_false]
      · rfl
theorem bit_one {p i j : Nat} : (p ||| 2 ^ i).testBit j = (p.testBit j || decide (i = j)) := by
  rw [Nat.testBit_or, Nat.testBit_two_pow]
theorem fin_has {pl wn : List Bool} {mv : List (List Int)} {u : Nat} (hu : u < 2 ^ mv.length) (h0 : 0 ≤ gD (finC pl mv wn) u) : ∀ j, j < mv.length → wn.getD j false = true → u.testBit j = true := by
  refine fin_ind (P := fun u => ∀ j, j < mv.length → wn.getD j false = true → u.testBit j = true) (fun j hj hw => ?_) (fun p i _ _ _ _ _ _ _ _ _ ih j hj hw => ?_) u hu h0
  · rw [wonN_bit, decide_eq_true hj, hw]; rfl
  · rw [bit_one, ih j hj hw]; rfl
end Go.Proofs.Ytglmjdpmpgphkaa.Sk

/- Contracts of functions: the greatest keep, and whether one proves. -/
namespace Go.Proofs.Ytglmjdpmpgphkaa.Sk
open Go Go.E Go.E.Sm
set_option maxRecDepth 10000

end Go.Proofs.Ytglmjdpmpgphkaa.Sk

/- Distances: who is found behind some rounds, and what makes them less. -/
namespace Go.Proofs.Ytglmjdpmpgphkaa.Sk
open Go Go.E

theorem getI_map_range {n i : Nat} {f : Nat → Int} (hi : i < n) : getI ((List.range n).map f) i = f i := by
  unfold getI
  rw [List.getD_eq_getElem?_getD, Int.toNat_natCast, List.getElem?_map, List.getElem?_range hi]; rfl

theorem round_sign {pl : List Bool} {mv : List (List Int)} {r : Int} {W : List Int} {i : Nat} (hr : 0 ≤ r) (hi : i < mv.length) :
    0 ≤ getI (roundW pl mv r W) i ↔ (0 ≤ getI W i ∨ wins1 (pl.getD i false) (mv.getD i []) (isIn W) = true) := by
  unfold roundW
  rw [getI_map_range hi]
  unfold nxt
  split
  · rename_i h
    exact ⟨fun _ => .inr h.2, fun _ => hr⟩
  · rename_i h
    constructor
    · exact .inl
    · rintro (h1 | h1)
      · exact h1
      · by_cases h2 : getI W i < 0
        · exact absurd ⟨h2, h1⟩ h
        · omega
theorem round_keep {pl : List Bool} {mv : List (List Int)} {r : Int} {W : List Int} {i : Nat} (hi : i < mv.length) (h : 0 ≤ getI W i) : getI (roundW pl mv r W) i = getI W i := by
  unfold roundW
  rw [getI_map_range hi, nxt, if_neg (by omega)]
theorem round_new {pl : List Bool} {mv : List (List Int)} {r : Int} {W : List Int} {i : Nat} (hi : i < mv.length) (h : getI W i < 0) (h2 : 0 ≤ getI (roundW pl mv r W) i) : getI (roundW pl mv r W) i = r := by
  unfold roundW at *
  rw [getI_map_range hi] at *
  unfold nxt at *
  split at h2
  · rename_i hc; rw [if_pos hc]
  · omega

theorem iter_keep {pl wn : List Bool} {mv : List (List Int)} {k i : Nat} (hi : i < mv.length) (h : 0 ≤ getI (iterW pl mv wn k) i) : ∀ j, getI (iterW pl mv wn (k + j)) i = getI (iterW pl mv wn k) i
  | 0 => rfl
  | j + 1 => by
    have ih := iter_keep hi h j
    rw [show k + (j + 1) = (k + j) + 1 by omega, iterW, round_keep hi (by rw [ih]; exact h), ih]

theorem iter_when {pl wn : List Bool} {mv : List (List Int)} {i : Nat} (hi : i < mv.length) (hwn : wn.length = mv.length) : ∀ (m : Nat) (v : Nat), getI (iterW pl mv wn m) i = v → v ≤ m ∧ getI (iterW pl mv wn v) i = v
  | 0, v, h => by
    have h0 := getI_rng (by omega) (iterW_rng (pl := pl) (mv := mv) (wn := wn) 0) i
    have : v = 0 := by omega
    subst this
    exact ⟨Nat.le_refl _, h⟩
  | m + 1, v, h => by
    by_cases hp : 0 ≤ getI (iterW pl mv wn m) i
    · have h1 := round_keep (pl := pl) (r := m + 1) hi hp
      rw [iterW, h1] at h
      obtain ⟨h2, h3⟩ := iter_when hi hwn m v h
      exact ⟨by omega, h3⟩
    · have h1 := round_new (pl := pl) (r := m + 1) (W := iterW pl mv wn m) hi (by omega) (by rw [iterW] at h; omega)
      have h2 := h
      rw [iterW, h1] at h2
      have : v = m + 1 := by omega
      subst this
      exact ⟨Nat.le_refl _, h⟩

theorem iter_grow {pl wn : List Bool} {mv : List (List Int)} (hwn : wn.length = mv.length) : ∀ k, (∀ j, j < k → iterW pl mv wn (j + 1) ≠ iterW pl mv wn j) → cntW (iterW pl mv wn 0) + k ≤ cntW (iterW pl mv wn k)
  | 0, _ => Nat.le_refl _
  | k + 1, h => by
    have ih := iter_grow hwn k fun j hj => h j (by omega)
    have := cnt_round (pl := pl) (mv := mv) (r := k + 1) (W := iterW pl mv wn k) (by omega) (iterW_len hwn k) (h k (by omega))
    have e : iterW pl mv wn (k + 1) = roundW pl mv (k + 1) (iterW pl mv wn k) := rfl
    rw [e]
    omega
theorem iter_all {pl wn : List Bool} {mv : List (List Int)} (hwn : wn.length = mv.length) {k : Nat} (hk : mv.length ≤ k) : iterW pl mv wn k = distW pl mv wn := by
  by_cases h : ∃ j, j ≤ mv.length ∧ iterW pl mv wn (j + 1) = iterW pl mv wn j
  · obtain ⟨j, hj, he⟩ := h
    have h1 := iterW_stable he (k - j)
    have h2 := iterW_stable he (mv.length - j)
    rw [show j + (k - j) = k by omega] at h1
    rw [show j + (mv.length - j) = mv.length by omega] at h2
    rw [h1, distW, h2]
  · exfalso
    have := iter_grow (pl := pl) hwn (mv.length + 1) fun j hj he => h ⟨j, by omega, he⟩
    have h2 := cnt_le (iterW pl mv wn (mv.length + 1))
    rw [iterW_len hwn] at h2
    omega

theorem isIn_iter {pl wn : List Bool} {mv : List (List Int)} {i : Nat} (hi : i < mv.length) (hwn : wn.length = mv.length) (k : Nat) :
    0 ≤ getI (iterW pl mv wn k) i ↔ (0 ≤ getI (distW pl mv wn) i ∧ getI (distW pl mv wn) i ≤ k) := by
  constructor
  · intro h
    have h1 := iter_keep hi h (mv.length)
    rw [iter_all hwn (by omega)] at h1
    have h2 := getI_rng (by omega) (iterW_rng (pl := pl) (mv := mv) (wn := wn) k) i
    omega
  · rintro ⟨h1, h2⟩
    obtain ⟨v, hv⟩ : ∃ v : Nat, getI (distW pl mv wn) i = v := ⟨(getI (distW pl mv wn) i).toNat, by omega⟩
    obtain ⟨h3, h4⟩ := iter_when hi hwn mv.length v hv
    have h5 := iter_keep (pl := pl) (wn := wn) hi (k := v) (by omega) (k - v)
    rw [show v + (k - v) = k by omega] at h5
    omega
theorem dist_zero {pl wn : List Bool} {mv : List (List Int)} {i : Nat} (hi : i < mv.length) (hwn : wn.length = mv.length) : getI (distW pl mv wn) i = 0 ↔ wn.getD i false = true := by
  have h1 := isIn_iter (pl := pl) hi hwn 0
  have h2 : getI (iterW pl mv wn 0) i = if wn.getD i false then 0 else -1 := by
    unfold iterW startW getI
    rw [List.getD_eq_getElem?_getD, Int.toNat_natCast, List.getElem?_map, List.getElem?_eq_getElem (by omega), List.getD_eq_getElem?_getD, List.getElem?_eq_getElem (by omega)]
    rfl
  rw [h2] at h1
  cases hw : wn.getD i false with
  | true => rw [hw] at h1; simp only [if_true] at h1; constructor; exact fun _ => rfl; intro _; have := h1.1 (by omega); omega
  | false =>
    rw [hw] at h1
    simp only [Bool.false_eq_true, if_false] at h1
    constructor
    · intro h; have := h1.2 (by omega); omega
    · intro h; cases h
theorem wins_mono {p : Bool} {l : List Int} {g g' : Int → Bool} (h : ∀ x ∈ l, g x = true → g' x = true) (hw : wins1 p l g = true) : wins1 p l g' = true := by
  unfold wins1 at *
  cases p with
  | true =>
    simp only [if_true, List.any_eq_true] at *
    obtain ⟨x, hx, hg⟩ := hw
    exact ⟨x, hx, h x hx hg⟩
  | false =>
    simp only [Bool.false_eq_true, if_false, Bool.and_eq_true, List.all_eq_true] at *
    exact ⟨hw.1, fun x hx => h x hx (hw.2 x hx)⟩

end Go.Proofs.Ytglmjdpmpgphkaa.Sk

/- Contracts of functions: the distances that laws ask for, lists with one more move, and nearer ones. -/
namespace Go.Proofs.Ytglmjdpmpgphkaa.Sk
open Go Go.E Go.E.Sm
set_option maxRecDepth 10000

theorem distW_rng' {pl wn : List Bool} {mv : List (List Int)} (k : Int) : -1 ≤ getI (distW pl mv wn) k ∧ getI (distW pl mv wn) k ≤ mv.length := getI_rng (by omega) (iterW_rng _) k

theorem Valid.moves {pl wn : List Bool} {mv : List (List Int)} (hv : Valid pl mv wn) (i : Nat) (l : List Int) (hl : rise 0 mv.length l = true) : Valid pl (mv.set i l) wn := by
  refine ⟨by rw [List.length_set]; exact hv.pos, by rw [List.length_set]; exact hv.few, by rw [List.length_set]; exact hv.pl, by rw [List.length_set]; exact hv.wn, fun m hm => ?_⟩
  rw [List.length_set]
  rcases List.mem_or_eq_of_mem_set hm with h | h
  · exact hv.ris m h
  · rw [h]; exact hl
theorem Valid.won {pl wn : List Bool} {mv : List (List Int)} (hv : Valid pl mv wn) (w : List Bool) (hw : w.length = wn.length) : Valid pl mv w := ⟨hv.pos, hv.few, hv.pl, by rw [hw]; exact hv.wn, hv.ris⟩
end Go.Proofs.Ytglmjdpmpgphkaa.Sk

/- Distances: how one goes with those of its moves; that they prove as ranks, the keep as one, and what given ranks and keeps say of them. -/
namespace Go.Proofs.Ytglmjdpmpgphkaa.Sk
open Go Go.E
set_option linter.all false

theorem wins_congr {p : Bool} {l : List Int} {g g' : Int → Bool} (h : ∀ x ∈ l, g x = g' x) : wins1 p l g = wins1 p l g' := by
  rw [Bool.eq_iff_iff]
  exact ⟨wins_mono fun x hx hg => by rw [← h x hx]; exact hg, wins_mono fun x hx hg => by rw [h x hx]; exact hg⟩

theorem dist_step {pl wn : List Bool} {mv : List (List Int)} (hv : Valid pl mv wn) {i : Nat} (hi : i < mv.length) (r : Nat) :
    (0 ≤ getI (distW pl mv wn) i ∧ getI (distW pl mv wn) i ≤ r + 1) ↔ ((0 ≤ getI (distW pl mv wn) i ∧ getI (distW pl mv wn) i ≤ r) ∨ wins1 (pl.getD i false) (mv.getD i []) (lessB (distW pl mv wn) (r + 1)) = true) := by
  have h1 := isIn_iter (pl := pl) hi hv.wn (r + 1)
  have h2 := isIn_iter (pl := pl) hi hv.wn r
  have e : iterW pl mv wn (r + 1) = roundW pl mv (r + 1) (iterW pl mv wn r) := rfl
  rw [e, round_sign (by omega) hi, h2] at h1
  rw [show ((r + 1 : Nat) : Int) = (r : Int) + 1 by omega] at h1
  rw [← h1]
  refine or_congr Iff.rfl ?_
  rw [wins_congr (g' := lessB (distW pl mv wn) (r + 1)) fun x hx => ?_]
  have hx2 := (hv.at' hi).ins x hx
  have h3 := isIn_iter (pl := pl) (i := x.toNat) (by omega) hv.wn r
  rw [show ((x.toNat : Nat) : Int) = x by omega] at h3
  unfold isIn lessB
  rw [Bool.eq_iff_iff, Bool.and_eq_true, decide_eq_true_eq, decide_eq_true_eq, decide_eq_true_eq, h3]
  omega

theorem dist_pos {pl wn : List Bool} {mv : List (List Int)} (hv : Valid pl mv wn) {i : Nat} (hi : i < mv.length) (h : 0 < getI (distW pl mv wn) i) :
    wins1 (pl.getD i false) (mv.getD i []) (lessB (distW pl mv wn) (getI (distW pl mv wn) i)) = true := by
  obtain ⟨r, hr⟩ : ∃ r : Nat, getI (distW pl mv wn) i = r + 1 := ⟨(getI (distW pl mv wn) i - 1).toNat, by omega⟩
  rcases (dist_step hv hi r).1 (by omega) with h1 | h1
  · omega
  · rw [hr]; exact h1
theorem dist_neg {pl wn : List Bool} {mv : List (List Int)} (hv : Valid pl mv wn) {i : Nat} (hi : i < mv.length) (h : getI (distW pl mv wn) i < 0) :
    wins1 (pl.getD i false) (mv.getD i []) (isIn (distW pl mv wn)) = false := by
  rw [Bool.eq_false_iff]
  intro hw
  have := (dist_step hv hi mv.length).2 (.inr (wins_mono (fun x hx hg => ?_) hw))
  · omega
  · have := distW_rng' (pl := pl) (mv := mv) (wn := wn) x
    simp only [isIn, lessB, Bool.and_eq_true, decide_eq_true_eq] at *
    omega
end Go.Proofs.Ytglmjdpmpgphkaa.Sk

/- Contracts of functions: whether a keep, and ranks, prove, as the document has it. -/
namespace Go.Proofs.Ytglmjdpmpgphkaa.Sk
open Go Go.E Go.E.Sm
set_option maxRecDepth 10000

theorem count_any {p : Int → Bool} {l : List Int} : l.any p = true ↔ 0 < l.countP p := by
  rw [List.countP_pos_iff, List.any_eq_true]
theorem count_all {p : Int → Bool} {l : List Int} : l.all p = true ↔ l.countP p = l.length := by
  rw [List.countP_eq_length, List.all_eq_true]
theorem wins_count {b : Bool} {l : List Int} {p : Int → Bool} : wins1 b l p = true ↔ if b = true then 0 < l.countP p else 0 < l.length ∧ l.countP p = l.length := by
  unfold wins1
  cases b with
  | true => simp only [if_true]; exact count_any
  | false =>
    simp only [Bool.false_eq_true, if_false, Bool.and_eq_true, Bool.not_eq_true']
    rw [count_all]
    cases l <;> simp

end Go.Proofs.Ytglmjdpmpgphkaa.Sk

/- Sets of positions: what costs nothing is what the player wins. -/
namespace Go.Proofs.Ytglmjdpmpgphkaa.Sk
open Go Go.E
set_option linter.all false

theorem hasB_bit {a : Nat} {x : Int} (ha : a < 2 ^ 62) (hx : 0 ≤ x) : hasB (a : Int) x = a.testBit x.toNat := by
  obtain ⟨i, rfl⟩ := Int.eq_ofNat_of_zero_le hx
  exact hasB_nat ha
theorem cnt_count {s : Int} : ∀ (l : List Int), cnt s l = (l.countP (hasB s) : Nat)
  | [] => rfl
  | y :: l => by
    have := cnt_count (s := s) l
    simp only [cnt, List.map_cons, List.sum_cons, List.countP_cons] at *
    rw [this]
    unfold b2i
    split <;> simp <;> omega
theorem more_zero {pl : List Bool} {mv : List (List Int)} {s i : Nat} : moreV pl mv s i = 0 ↔ wins1 (pl.getD i false) (mv.getD i []) (hasB (s : Int)) = true := by
  rw [wins_count]
  unfold moreV costOf
  have h := cnt_count (s := (s : Int)) (mv.getD i [])
  have h2 := List.countP_le_length (p := hasB (s : Int)) (l := mv.getD i [])
  rw [h]
  generalize (mv.getD i []).countP (hasB (s : Int)) = c at *
  generalize (mv.getD i []).length = n at *
  cases pl.getD i false with
  | true =>
    simp only [if_true]
    split <;> omega
  | false =>
    simp only [Bool.false_eq_true, if_false]
    split <;> omega
theorem pow62 {n : Nat} (h : n ≤ 14) : 2 ^ n < 2 ^ 62 := Nat.pow_lt_pow_right (by decide) (by omega)

theorem free_won {pl wn : List Bool} {mv : List (List Int)} (hv : Valid pl mv wn) {u : Nat} (hu : u < 2 ^ mv.length) (h0 : gD (finC pl mv wn) u = 0) : ∀ j, j < mv.length → u.testBit j = true → 0 ≤ getI (distW pl mv wn) j := by
  have hp62 := pow62 hv.few
  refine fin_ind (P := fun u => gD (finC pl mv wn) u = 0 → ∀ j, j < mv.length → u.testBit j = true → 0 ≤ getI (distW pl mv wn) j) (fun _ j hj hb => ?_) (fun p i hp hpi hc hi hb hm he _ _ ih h0 j hj hbj => ?_) u hu (Int.le_of_eq h0.symm) h0
  · rw [wonN_bit, decide_eq_true hj, Bool.true_and] at hb
    have := (dist_zero (pl := pl) (mv := mv) hj hv.wn).2 hb
    omega
  · have ih := ih (by omega)
    by_cases e : i = j
    · subst e
      refine Decidable.byContradiction fun hn => ?_
      have h1 := dist_neg hv hi (by omega)
      have h2 := more_zero.1 (show moreV pl mv p i = 0 by omega)
      rw [wins_mono (fun x hx hg => ?_) h2] at h1
      · cases h1
      · have hx2 := (hv.at' hi).ins x hx
        rw [hasB_bit (by omega) hx2.1] at hg
        have := ih x.toNat (by omega) hg
        rw [show ((x.toNat : Nat) : Int) = x by omega] at this
        exact decide_eq_true this
    · rw [bit_one, decide_eq_false e, Bool.or_false] at hbj
      exact ih j hj hbj
theorem free_full {pl wn : List Bool} {mv : List (List Int)} : ∀ (d u : Nat), 2 ^ mv.length - u ≤ d → u < 2 ^ mv.length → gD (finC pl mv wn) u = 0 →
    ∃ v, v < 2 ^ mv.length ∧ gD (finC pl mv wn) v = 0 ∧ ∀ i, i < mv.length → v.testBit i = false → moreV pl mv v i ≠ 0
  | 0, u, hd, hu, _ => by omega
  | d + 1, u, hd, hu, h0 => by
    by_cases h : ∀ i, i < mv.length → u.testBit i = false → moreV pl mv u i ≠ 0
    · exact ⟨u, hu, h0, h⟩
    · simp only [Classical.not_forall] at h
      obtain ⟨i, hi, hb, hm⟩ := h
      have hm : moreV pl mv u i = 0 := Decidable.byContradiction hm
      have h1 := fin_relax hu hi hb (by omega) (show 0 ≤ gD (finC pl mv wn) u by omega)
      have hlt := or_gt hb
      exact free_full d (u ||| 2 ^ i) (by omega) (Nat.or_lt_two_pow hu (Nat.pow_lt_pow_right (by decide) hi)) (by omega)
theorem won_free {pl wn : List Bool} {mv : List (List Int)} (hv : Valid pl mv wn) : ∃ v, v < 2 ^ mv.length ∧ gD (finC pl mv wn) v = 0 ∧ ∀ i, i < mv.length → 0 ≤ getI (distW pl mv wn) i → v.testBit i = true := by
  have hp62 := pow62 hv.few
  obtain ⟨v, h1, h2, h3⟩ := free_full (pl := pl) (wn := wn) (mv := mv) _ _ (Nat.le_refl _) (wonN_lt mv.length) fin_won
  have hhas := fin_has h1 (show 0 ≤ gD (finC pl mv wn) v by omega)
  refine ⟨v, h1, h2, ?_⟩
  have key : ∀ (r i : Nat), i < mv.length → 0 ≤ getI (distW pl mv wn) i → getI (distW pl mv wn) i ≤ r → v.testBit i = true := by
    intro r
    induction r with
    | zero => intro i hi h0 hr; exact hhas i hi ((dist_zero (pl := pl) hi hv.wn).1 (by omega))
    | succ r ih =>
      intro i hi h0 hr
      by_cases hz : getI (distW pl mv wn) i = 0
      · exact hhas i hi ((dist_zero hi hv.wn).1 hz)
      · refine Decidable.byContradiction fun hn => ?_
        have hn : v.testBit i = false := by simpa using hn
        refine h3 i hi hn (more_zero.2 (wins_mono (fun x hx hg => ?_) (dist_pos hv hi (by omega))))
        have hx2 := (hv.at' hi).ins x hx
        simp only [lessB, Bool.and_eq_true, decide_eq_true_eq] at hg
        rw [hasB_bit (by omega) hx2.1]
        refine ih x.toNat (by omega) ?_ ?_
        · rw [show ((x.toNat : Nat) : Int) = x by omega]; exact hg.1
        · rw [show ((x.toNat : Nat) : Int) = x by omega]; omega
  intro i hi h0
  exact key (getI (distW pl mv wn) i).toNat i hi h0 (by omega)
theorem few_zero {pl wn : List Bool} {mv : List (List Int)} (hv : Valid pl mv wn) {x : Nat} (hx : x < mv.length) : fewV pl mv wn x = 0 ↔ 0 ≤ getI (distW pl mv wn) x := by
  rw [few_eq]
  have hr := bestI_rng (pl := pl) (mv := mv) (C := startC wn mv.length) (x := x) (2 ^ mv.length)
  have hr : -1 ≤ finB pl mv wn x ∧ finB pl mv wn x < (2 ^ mv.length : Nat) ∧ (0 ≤ finB pl mv wn x → 0 ≤ gD (finC pl mv wn) (finB pl mv wn x).toNat ∧ (finB pl mv wn x).toNat.testBit x = true) := hr
  constructor
  · intro h
    split at h
    · omega
    · exact free_won hv (u := (finB pl mv wn x).toNat) (by omega) h x hx (hr.2.2 (by omega)).2
  · intro h
    obtain ⟨v, h1, h2, h3⟩ := won_free hv
    have := fin_best h1 (h3 x hx h) (Int.le_of_eq h2.symm)
    have h4 := hr.2.2 this.1
    rw [if_neg (by omega)]
    omega
theorem few_neg {pl wn : List Bool} {mv : List (List Int)} {x : Nat} : fewV pl mv wn x < 0 ↔ finB pl mv wn x < 0 := by
  rw [few_eq]
  have hr := bestI_rng (pl := pl) (mv := mv) (C := startC wn mv.length) (x := x) (2 ^ mv.length)
  have hr : -1 ≤ finB pl mv wn x ∧ finB pl mv wn x < (2 ^ mv.length : Nat) ∧ (0 ≤ finB pl mv wn x → 0 ≤ gD (finC pl mv wn) (finB pl mv wn x).toNat ∧ (finB pl mv wn x).toNat.testBit x = true) := hr
  constructor
  · intro h
    split at h
    · assumption
    · have := (hr.2.2 (by omega)).1; omega
  · intro h
    rw [if_pos h]; decide
end Go.Proofs.Ytglmjdpmpgphkaa.Sk

/- The answers that the program takes away are as many as it costs, and they may be taken away. -/
namespace Go.Proofs.Ytglmjdpmpgphkaa.Sk
open Go Go.E
set_option linter.all false

theorem filt_cnt {s : Int} : ∀ (l : List Int), ((l.filter fun k => decide (b2i s k = 0)).length : Int) + cnt s l = l.length
  | [] => by simp [cnt]
  | y :: l => by
    have ih := filt_cnt (s := s) l
    simp only [cnt, List.map_cons, List.sum_cons, List.length_cons] at *
    have hb : b2i s y = 0 ∨ b2i s y = 1 := by unfold b2i; split <;> simp
    rcases hb with h | h
    · rw [List.filter_cons_of_pos (by simp [h]), h]
      simp only [List.length_cons]; omega
    · rw [List.filter_cons_of_neg (by simp [h]), h]
      omega
theorem mem_row {p : Bool} {i s : Nat} {l : List Int} {y : Int × Int} : y ∈ rowB p i s l ↔ p = false ∧ y.1 = i ∧ y.2 ∈ l ∧ b2i (s : Int) y.2 = 0 := by
  obtain ⟨a, k⟩ := y
  unfold rowB
  cases p with
  | true => simp
  | false =>
    simp only [Bool.false_eq_true, if_false, List.mem_map, List.mem_filter, decide_eq_true_eq, Prod.mk.injEq, true_and]
    constructor
    · rintro ⟨k', ⟨h1, h2⟩, rfl, rfl⟩; exact ⟨rfl, h1, h2⟩
    · rintro ⟨rfl, h1, h2⟩; exact ⟨k, ⟨h1, h2⟩, rfl, rfl⟩
theorem row_len {pl : List Bool} {mv : List (List Int)} {s i : Nat} (hm : 0 ≤ moreV pl mv s i) : ((rowB (pl.getD i false) i s (mv.getD i [])).length : Int) = moreV pl mv s i ∧ (pl.getD i false = false → (rowB (pl.getD i false) i s (mv.getD i [])).length < (mv.getD i []).length) := by
  have h := filt_cnt (s := (s : Int)) (mv.getD i [])
  have hr := cnt_rng (s : Int) (mv.getD i [])
  unfold moreV costOf at hm ⊢
  unfold rowB
  by_cases hc : cnt (s : Int) (mv.getD i []) = 0
  · rw [if_pos hc] at hm; omega
  · rw [if_neg hc] at hm ⊢
    cases pl.getD i false with
    | true => simp
    | false =>
      simp only [Bool.false_eq_true, if_false, List.length_map] at *
      omega
theorem row_nodup {p : Bool} {i s : Nat} {l : List Int} (h : l.Nodup) : (rowB p i s l).Nodup := by
  unfold rowB
  split
  · exact List.nodup_nil
  · unfold List.Nodup at *
    rw [List.pairwise_map]
    exact (h.filter _).imp fun hne he => hne (by have := congrArg Prod.snd he; exact this)
theorem cntT_app {A B : List (Int × Int)} {a : Int} : cntT (A ++ B) a = cntT A a + cntT B a := List.countP_append ..
theorem cntT_zero {A : List (Int × Int)} {a : Int} (h : ∀ y ∈ A, y.1 ≠ a) : cntT A a = 0 := by
  unfold cntT
  rw [List.countP_eq_zero]
  intro y hy
  simpa using h y hy
theorem cntT_full {A : List (Int × Int)} {a : Int} (h : ∀ y ∈ A, y.1 = a) : cntT A a = A.length := by
  unfold cntT
  rw [List.countP_eq_length]
  intro y hy
  simpa using h y hy

structure Bk (pl : List Bool) (mv : List (List Int)) (wn : List Bool) (u : Nat) (B : List (Int × Int)) : Prop where
  len : (B.length : Int) = gD (finC pl mv wn) u
  mem : ∀ y ∈ B, ∃ i : Nat, i < mv.length ∧ y.1 = i ∧ pl.getD i false = false ∧ wn.getD i false = false ∧ y.2 ∈ mv.getD i [] ∧ u.testBit i = true
  nodup : B.Nodup
  few : ∀ i : Nat, cntT B i ≠ 0 → cntT B i < (mv.getD i []).length

theorem back_step {pl : List Bool} {mv : List (List Int)} {L : List Int} {won f p i : Nat} (hb : p.testBit i = false) (hL : gD L (p ||| 2 ^ i) = (i : Int)) (hne : p ||| 2 ^ i ≠ won) :
    backF pl mv L won (f + 1) (p ||| 2 ^ i) = rowB (pl.getD i false) i p (mv.getD i []) ++ backF pl mv L won f p := by
  rw [backF, if_neg hne, hL, Int.toNat_natCast, xor_off hb]
theorem back_ok {pl wn : List Bool} {mv : List (List Int)} (hv : Valid pl mv wn) {u : Nat} (hu : u < 2 ^ mv.length) (h0 : 0 ≤ gD (finC pl mv wn) u) : ∀ f, u ≤ f → Bk pl mv wn u (backF pl mv (finL pl mv wn) (wonN wn mv.length) f u) := by
  refine fin_ind (P := fun u => ∀ f, u ≤ f → Bk pl mv wn u (backF pl mv (finL pl mv wn) (wonN wn mv.length) f u)) (fun f hf => ?_) (fun p i hp hpi hc hi hb hm he hL hne ih f hf => ?_) u hu h0
  · rw [backF_won]
    exact ⟨by rw [fin_won]; rfl, by simp, List.nodup_nil, fun i h => by simp [cntT] at h⟩
  · have hlt := or_gt hb
    obtain ⟨f, rfl⟩ : ∃ f', f = f' + 1 := ⟨f - 1, by omega⟩
    rw [back_step hb hL hne]
    obtain ⟨i1, i2, i3, i4⟩ := ih f (by omega)
    obtain ⟨r1, r2⟩ := row_len hm
    have hwi : wn.getD i false = false := by
      cases hw : wn.getD i false with
      | false => rfl
      | true => have := fin_has hp hc i hi hw; rw [hb] at this; cases this
    have hsep : ∀ y ∈ backF pl mv (finL pl mv wn) (wonN wn mv.length) f p, y.1 ≠ (i : Int) := by
      intro y hy e
      obtain ⟨j, _, h2, _, _, _, h6⟩ := i2 y hy
      have : j = i := by omega
      rw [this, hb] at h6; cases h6
    have hrow : ∀ y ∈ rowB (pl.getD i false) i p (mv.getD i []), y.1 = (i : Int) := fun y hy => (mem_row.1 hy).2.1
    refine ⟨?_, ?_, ?_, ?_⟩
    · rw [List.length_append, he]; omega
    · intro y hy
      rcases List.mem_append.1 hy with hy | hy
      · obtain ⟨h1, h2, h3, h4⟩ := mem_row.1 hy
        exact ⟨i, hi, h2, h1, hwi, h3, by rw [bit_one]; simp⟩
      · obtain ⟨j, h1, h2, h3, h4, h5, h6⟩ := i2 y hy
        exact ⟨j, h1, h2, h3, h4, h5, by rw [bit_one, h6]; rfl⟩
    · rw [List.nodup_append]
      refine ⟨row_nodup ((rise_nodup _ _ (hv.ris _ (List.mem_of_getElem? (hv.at' hi).hm))).2), i3, fun a ha b hb2 e => ?_⟩
      subst e
      exact hsep a hb2 (hrow a ha)
    · intro j hj
      rw [cntT_app] at hj ⊢
      by_cases e : i = j
      · subst e
        rw [cntT_zero hsep, cntT_full hrow] at hj ⊢
        have hpl : pl.getD i false = false := by
          cases hp2 : pl.getD i false with
          | false => rfl
          | true => rw [hp2] at hj; simp [rowB] at hj
        have := r2 hpl
        omega
      · have hz : cntT (rowB (pl.getD i false) i p (mv.getD i [])) (j : Int) = 0 := cntT_zero fun y hy h => by have := hrow y hy; omega
        rw [hz] at hj ⊢
        have := i4 j (by omega)
        omega
theorem mem_wtV {mv : List (List Int)} {T : List (Int × Int)} {i : Nat} {k : Int} : k ∈ wtV mv T i ↔ k ∈ mv.getD i [] ∧ ((i : Int), k) ∉ T := by
  unfold wtV keepF goneB
  rw [List.mem_filter]
  simp only [Bool.not_eq_true', List.any_eq_false, decide_eq_true_eq]
  exact and_congr Iff.rfl ⟨fun h hm => h _ hm rfl, fun h x hx e => h (e ▸ hx)⟩
theorem wins_iff {p : Bool} {l : List Int} {g : Int → Bool} : wins1 p l g = true ↔ (p = true ∧ ∃ k ∈ l, g k = true) ∨ (p = false ∧ l ≠ [] ∧ ∀ k ∈ l, g k = true) := by
  unfold wins1
  cases p with
  | true => simp
  | false => simp [List.isEmpty_iff]
theorem more_some {pl : List Bool} {mv : List (List Int)} {s i : Nat} (hm : 0 ≤ moreV pl mv s i) : ∃ k ∈ mv.getD i [], hasB (s : Int) k = true := by
  unfold moreV costOf at hm
  have h := cnt_count (s := (s : Int)) (mv.getD i [])
  have hp : 0 < (mv.getD i []).countP (hasB (s : Int)) := by
    refine Nat.pos_of_ne_zero fun e => ?_
    rw [e] at h
    rw [if_pos (by simpa using h)] at hm
    omega
  exact List.countP_pos_iff.1 hp
theorem b2i_zero {s k : Int} : b2i s k = 0 ↔ hasB s k = false := by
  unfold b2i
  cases hasB s k <;> simp
theorem wins_of_row {pl : List Bool} {mv : List (List Int)} {T : List (Int × Int)} {i p : Nat} {g : Int → Bool} (hm : 0 ≤ moreV pl mv p i)
    (hT : ∀ k, ((i : Int), k) ∈ T ↔ pl.getD i false = false ∧ k ∈ mv.getD i [] ∧ b2i (p : Int) k = 0) (hg : ∀ k ∈ mv.getD i [], hasB (p : Int) k = true → g k = true) : wins1 (pl.getD i false) (wtV mv T i) g = true := by
  obtain ⟨k, hk, hb⟩ := more_some hm
  have hkw : k ∈ wtV mv T i := mem_wtV.2 ⟨hk, fun h => by have := b2i_zero.1 ((hT k).1 h).2.2; rw [hb] at this; cases this⟩
  rw [wins_iff]
  cases hp : pl.getD i false with
  | true => exact .inl ⟨rfl, k, hkw, hg k hk hb⟩
  | false =>
    refine .inr ⟨rfl, List.ne_nil_of_mem hkw, fun y hy => ?_⟩
    obtain ⟨h1, h2⟩ := mem_wtV.1 hy
    refine hg y h1 ?_
    cases hby : hasB (p : Int) y with
    | true => rfl
    | false => exact absurd ((hT y).2 ⟨hp, h1, b2i_zero.2 hby⟩) h2
theorem back_win {pl wn : List Bool} {mv : List (List Int)} (hv : Valid pl mv wn) {T : List (Int × Int)} {u : Nat} (hu : u < 2 ^ mv.length) (h0 : 0 ≤ gD (finC pl mv wn) u) : ∀ f, u ≤ f → (∀ a : Nat, a < mv.length → u.testBit a = true → ∀ k, ((a : Int), k) ∈ T ↔ ((a : Int), k) ∈ backF pl mv (finL pl mv wn) (wonN wn mv.length) f u) →
    ∀ a : Nat, a < mv.length → u.testBit a = true → 0 ≤ getI (distW pl (wtM mv T) wn) a := by
  have hv' := wtM_valid (T := T) hv
  have hl' := wtM_len (mv := mv) (T := T)
  have hp62 := pow62 hv.few
  refine fin_ind (P := fun u => ∀ f, u ≤ f → (∀ a : Nat, a < mv.length → u.testBit a = true → ∀ k, ((a : Int), k) ∈ T ↔ ((a : Int), k) ∈ backF pl mv (finL pl mv wn) (wonN wn mv.length) f u) → ∀ a : Nat, a < mv.length → u.testBit a = true → 0 ≤ getI (distW pl (wtM mv T) wn) a)
    (fun f hf hT a ha hb => ?_) (fun p i hp hpi hc hi hb hm he hL hne ih f hf hT a ha hba => ?_) u hu h0
  · rw [wonN_bit, decide_eq_true ha, Bool.true_and] at hb
    have := (dist_zero (pl := pl) (mv := wtM mv T) (by rw [hl']; exact ha) hv'.wn).2 hb
    omega
  · have hlt := or_gt hb
    obtain ⟨f, rfl⟩ : ∃ f', f = f' + 1 := ⟨f - 1, by omega⟩
    rw [back_step hb hL hne] at hT
    have hbk := back_ok hv hp hc f (by omega)
    have hsep : ∀ k, ((i : Int), k) ∉ backF pl mv (finL pl mv wn) (wonN wn mv.length) f p := by
      intro k hy
      obtain ⟨j, _, h2, _, _, _, h6⟩ := hbk.mem _ hy
      have : j = i := by simp at h2; omega
      rw [this, hb] at h6; cases h6
    have ih := ih f (by omega) fun a ha hb2 k => by
      rw [hT a ha (by rw [bit_one, hb2]; rfl) k, List.mem_append]
      constructor
      · rintro (h | h)
        · have h2 : (a : Int) = i := (mem_row.1 h).2.1
          have h3 : a = i := by omega
          rw [h3, hb] at hb2; cases hb2
        · exact h
      · exact .inr
    by_cases e : i = a
    · subst e
      refine Decidable.byContradiction fun hn => ?_
      have hTi : ∀ k, ((i : Int), k) ∈ T ↔ ((i : Int), k) ∈ rowB (pl.getD i false) i p (mv.getD i []) := by
        intro k
        rw [hT i hi (by rw [bit_one]; simp) k, List.mem_append]
        exact ⟨fun h => h.elim id fun h => absurd h (hsep k), .inl⟩
      have h1 := dist_neg hv' (i := i) (by rw [hl']; exact hi) (by omega)
      rw [wtM_at hi, wins_of_row hm (fun k => ?_) (fun k hk hb3 => ?_)] at h1
      · cases h1
      · rw [hTi k, mem_row]
        exact ⟨fun h => ⟨h.1, h.2.2⟩, fun h => ⟨h.1, rfl, h.2⟩⟩
      · have hk2 := (hv.at' hi).ins k hk
        rw [hasB_bit (by omega) hk2.1] at hb3
        have := ih k.toNat (by omega) hb3
        rw [show ((k.toNat : Nat) : Int) = k by omega] at this
        exact decide_eq_true this
    · rw [bit_one, decide_eq_false e, Bool.or_false] at hba
      exact ih a ha hba
end Go.Proofs.Ytglmjdpmpgphkaa.Sk

/- The answers that the program takes away, sorted: they may be taken away, and the player wins without them. -/
namespace Go.Proofs.Ytglmjdpmpgphkaa.Sk
open Go Go.E Go.Sort Go.Shelf
set_option linter.all false

theorem srt_perm (L : List (Int × Int)) : (srtP L).Perm L := List.mergeSort_perm ..
theorem srt_sorted (L : List (Int × Int)) : (srtP L).Pairwise fun a b => lexlt b a = false := by
  have h := List.pairwise_mergeSort (le := fun x y : Int × Int => !(ltOf cmp2) y x) (fun a b c h1 h2 => ?_) (fun a b => ?_) L
  · refine h.imp fun {a b} hab => ?_
    rw [← lt_cmp2]
    simpa using hab
  · simp only [lt_cmp2, lexlt, Bool.not_eq_true', Bool.or_eq_false_iff, Bool.and_eq_false_iff, decide_eq_false_iff_not] at *
    omega
  · simp only [lt_cmp2, lexlt, Bool.or_eq_true, Bool.not_eq_true', Bool.or_eq_false_iff, Bool.and_eq_false_iff, decide_eq_false_iff_not]
    omega
theorem lex_total {a b : Int × Int} (h : lexlt b a = false) (hne : a ≠ b) : lexlt a b = true := by
  obtain ⟨a1, a2⟩ := a
  obtain ⟨b1, b2⟩ := b
  simp only [lexlt, Bool.or_eq_false_iff, Bool.and_eq_false_iff, decide_eq_false_iff_not, Bool.or_eq_true, Bool.and_eq_true, decide_eq_true_eq] at *
  have : ¬ (a1 = b1 ∧ a2 = b2) := fun h => hne (by rw [h.1, h.2])
  omega
theorem tk_of {pl wn : List Bool} {mv : List (List Int)} {T : List (Int × Int)} (hs : T.Pairwise fun a b => lexlt b a = false) (hn : T.Nodup)
    (hm : ∀ y ∈ T, ∃ i : Nat, i < mv.length ∧ y.1 = i ∧ pl.getD i false = false ∧ wn.getD i false = false ∧ y.2 ∈ mv.getD i []) (hf : ∀ i : Nat, cntT T i ≠ 0 → cntT T i < (mv.getD i []).length) : tkB pl mv wn T = true := by
  unfold tkB
  rw [List.all_eq_true]
  intro j hj
  have hj : j < T.length := by simpa using hj
  have hg : ∀ k (hk : k < T.length), T.getD k (0, 0) = T[k] := fun k hk => by rw [List.getD_eq_getElem?_getD, List.getElem?_eq_getElem hk]; rfl
  rw [tkAt_spec]
  have hmem : T.getD j (0, 0) ∈ T := by rw [hg j hj]; exact List.getElem_mem hj
  obtain ⟨i, h1, h2, h3, h4, h5⟩ := hm _ hmem
  have hle : cntT (T.take (j + 1)) (i : Int) ≤ cntT T (i : Int) := (List.take_sublist _ _).countP_le
  have hpos : cntT T (i : Int) ≠ 0 := by
    unfold cntT
    rw [Ne, List.countP_eq_zero]
    intro h
    exact absurd h2 (by simpa using h _ hmem)
  have hlt := hf i hpos
  rw [h2, Int.toNat_natCast]
  refine ⟨by omega, by omega, h3, h4, h5, ?_, by omega⟩
  by_cases e : j = 0
  · exact .inl e
  · right
    rw [hg j hj, hg (j - 1) (by omega)]
    have hs2 := List.pairwise_iff_getElem.1 hs (j - 1) j (by omega) hj (by omega)
    have hn2 := List.pairwise_iff_getElem.1 hn (j - 1) j (by omega) hj (by omega)
    exact lex_total hs2 hn2

def allA (n : Nat) : List (Int × Int) := (List.range n).flatMap fun i : Nat => (List.range n).map fun k : Nat => ((i : Int), (k : Int))
theorem allA_len {n : Nat} : (allA n).length = n * n := by
  unfold allA
  have : ∀ (l : List Nat), (l.flatMap fun i : Nat => (List.range n).map fun k : Nat => ((i : Int), (k : Int))).length = l.length * n := by
    intro l
    induction l with
    | nil => simp
    | cons x l ih => rw [List.flatMap_cons, List.length_append, ih, List.length_map, List.length_range, List.length_cons, Nat.succ_mul]; omega
  rw [this, List.length_range]
theorem ans_few {mv : List (List Int)} {T : List (Int × Int)} (hn : T.Nodup) (hin : ∀ y ∈ T, 0 ≤ y.1 ∧ y.1 < mv.length ∧ 0 ≤ y.2 ∧ y.2 < mv.length) : T.length ≤ mv.length * mv.length := by
  rw [← allA_len]
  refine nodup_len hn fun y hy => ?_
  obtain ⟨h1, h2, h3, h4⟩ := hin y hy
  unfold allA
  rw [List.mem_flatMap]
  refine ⟨y.1.toNat, by rw [List.mem_range]; omega, ?_⟩
  rw [List.mem_map]
  exact ⟨y.2.toNat, by rw [List.mem_range]; omega, by obtain ⟨a, b⟩ := y; simp at *; omega⟩

theorem fin_rng {pl wn : List Bool} {mv : List (List Int)} {x : Nat} : -1 ≤ finB pl mv wn x ∧ finB pl mv wn x < (2 ^ mv.length : Nat) ∧ (0 ≤ finB pl mv wn x → 0 ≤ gD (finC pl mv wn) (finB pl mv wn x).toNat ∧ (finB pl mv wn x).toNat.testBit x = true) :=
  bestI_rng (pl := pl) (mv := mv) (C := startC wn mv.length) (x := x) (2 ^ mv.length)

theorem few_ok {pl wn : List Bool} {mv : List (List Int)} (hv : Valid pl mv wn) (h11 : mv.length ≤ 11) {x : Nat} (hx : x < mv.length) : (fewS pl mv wn x = none ∧ fewV pl mv wn x < 0) ∨
    ∃ B, fewS pl mv wn x = some B ∧ 0 ≤ fewV pl mv wn x ∧ ((srtP B).length : Int) = fewV pl mv wn x ∧ tkB pl mv wn (srtP B) = true ∧ 0 ≤ getI (distW pl (wtM mv (srtP B)) wn) x ∧ (srtP B).length ≤ 121 ∧ ∀ y ∈ srtP B, ∃ i : Nat, i < mv.length ∧ y.1 = i ∧ pl.getD i false = false ∧ wn.getD i false = false ∧ y.2 ∈ mv.getD i [] := by
  have hd : fewS pl mv wn x = if finB pl mv wn x < 0 then none else some (backF pl mv (finL pl mv wn) (wonN wn mv.length) (2 ^ mv.length) (finB pl mv wn x).toNat) := rfl
  obtain ⟨r1, r2, r3⟩ := fin_rng (pl := pl) (wn := wn) (mv := mv) (x := x)
  by_cases h : finB pl mv wn x < 0
  · left
    rw [hd, if_pos h]
    exact ⟨rfl, few_neg.2 h⟩
  · right
    obtain ⟨r3, r4⟩ := r3 (by omega)
    have hu : (finB pl mv wn x).toNat < 2 ^ mv.length := by omega
    have hbk := back_ok hv hu r3 (2 ^ mv.length) (by omega)
    have hpm := srt_perm (backF pl mv (finL pl mv wn) (wonN wn mv.length) (2 ^ mv.length) (finB pl mv wn x).toNat)
    have hfew : fewV pl mv wn x = gD (finC pl mv wn) (finB pl mv wn x).toNat := by rw [few_eq, if_neg h]
    have hwin := back_win hv (T := srtP (backF pl mv (finL pl mv wn) (wonN wn mv.length) (2 ^ mv.length) (finB pl mv wn x).toNat)) hu r3 (2 ^ mv.length) (by omega) (fun a _ _ k => hpm.mem_iff) x hx r4
    have hmm : ∀ y ∈ srtP (backF pl mv (finL pl mv wn) (wonN wn mv.length) (2 ^ mv.length) (finB pl mv wn x).toNat), ∃ i : Nat, i < mv.length ∧ y.1 = i ∧ pl.getD i false = false ∧ wn.getD i false = false ∧ y.2 ∈ mv.getD i [] := fun y hy => by
      obtain ⟨i, h1, h2, h3, h4, h5, _⟩ := hbk.mem y (hpm.mem_iff.1 hy)
      exact ⟨i, h1, h2, h3, h4, h5⟩
    have hnd := hpm.nodup_iff.2 hbk.nodup
    refine ⟨_, by rw [hd, if_neg h], by rw [hfew]; exact r3, by rw [hpm.length_eq, hfew]; exact hbk.len, tk_of (srt_sorted _) hnd hmm (fun i hi => ?_), hwin, ?_, hmm⟩
    · have e : cntT (srtP (backF pl mv (finL pl mv wn) (wonN wn mv.length) (2 ^ mv.length) (finB pl mv wn x).toNat)) (i : Int) = cntT (backF pl mv (finL pl mv wn) (wonN wn mv.length) (2 ^ mv.length) (finB pl mv wn x).toNat) (i : Int) := hpm.countP_eq _
      rw [e] at hi ⊢
      exact hbk.few i hi
    · refine Nat.le_trans (ans_few (mv := mv) hnd fun y hy => ?_) (Nat.le_trans (Nat.mul_le_mul h11 h11) (by decide))
      obtain ⟨i, h1, h2, h3, h4, h5⟩ := hmm y hy
      have := (hv.at' h1).ins y.2 h5
      omega
end Go.Proofs.Ytglmjdpmpgphkaa.Sk
