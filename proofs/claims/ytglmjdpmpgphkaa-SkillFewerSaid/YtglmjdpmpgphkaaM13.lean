/- The answers that the program takes away are as many as it costs, and they may be taken away. -/
import Derived.Test.YtglmjdpmpgphkaaM12

set_option linter.all false

namespace Go.Proofs.Ytglmjdpmpgphkaa.Sk
open Go Go.E
set_option linter.all false

theorem filt_cnt {s : Int} : ∀ (l : List Int), ((l.filter fun k => decide (b2i s k = 0)).length : Int) + cnt s l = l.length
  | [] => by simp [cnt]
  | y :: l => by
    have ih := filt_cnt (s := s) l
    simp only [cnt, List.map_cons, List.sum_cons, List.length_cons] at *
    have hb : b2i s y = 0 ∨ b2i s y = 1 := by unfold b2i; split <;> simp
    rcases hb with h | h
    · rw [List.filter_cons_of_pos (by simp [h]), h]
      simp only [List.length_cons]; omega
    · rw [List.filter_cons_of_neg (by simp [h]), h]
      omega
theorem mem_row {p : Bool} {i s : Nat} {l : List Int} {y : Int × Int} : y ∈ rowB p i s l ↔ p = false ∧ y.1 = i ∧ y.2 ∈ l ∧ b2i (s : Int) y.2 = 0 := by
  obtain ⟨a, k⟩ := y
  unfold rowB
  cases p with
  | true => simp
  | false =>
    simp only [Bool.false_eq_true, if_false, List.mem_map, List.mem_filter, decide_eq_true_eq, Prod.mk.injEq, true_and]
    constructor
    · rintro ⟨k', ⟨h1, h2⟩, rfl, rfl⟩; exact ⟨rfl, h1, h2⟩
    · rintro ⟨rfl, h1, h2⟩; exact ⟨k, ⟨h1, h2⟩, rfl, rfl⟩
theorem row_len {pl : List Bool} {mv : List (List Int)} {s i : Nat} (hm : 0 ≤ moreV pl mv s i) : ((rowB (pl.getD i false) i s (mv.getD i [])).length : Int) = moreV pl mv s i ∧ (pl.getD i false = false → (rowB (pl.getD i false) i s (mv.getD i [])).length < (mv.getD i []).length) := by
  have h := filt_cnt (s := (s : Int)) (mv.getD i [])
  have hr := cnt_rng (s : Int) (mv.getD i [])
  unfold moreV costOf at hm ⊢
  unfold rowB
  by_cases hc : cnt (s : Int) (mv.getD i []) = 0
  · rw [if_pos hc] at hm; omega
  · rw [if_neg hc] at hm ⊢
    cases pl.getD i false with
    | true => simp
    | false =>
      simp only [Bool.false_eq_true, if_false, List.length_map] at *
      omega
theorem row_nodup {p : Bool} {i s : Nat} {l : List Int} (h : l.Nodup) : (rowB p i s l).Nodup := by
  unfold rowB
  split
  · exact List.nodup_nil
  · unfold List.Nodup at *
    rw [List.pairwise_map]
    exact (h.filter _).imp fun hne he => hne (by have := congrArg Prod.snd he; exact this)
theorem cntT_app {A B : List (Int × Int)} {a : Int} : cntT (A ++ B) a = cntT A a + cntT B a := List.countP_append ..
theorem cntT_zero {A : List (Int × Int)} {a : Int} (h : ∀ y ∈ A, y.1 ≠ a) : cntT A a = 0 := by
  unfold cntT
  rw [List.countP_eq_zero]
  intro y hy
  simpa using h y hy
theorem cntT_full {A : List (Int × Int)} {a : Int} (h : ∀ y ∈ A, y.1 = a) : cntT A a = A.length := by
  unfold cntT
  rw [List.countP_eq_length]
  intro y hy
  simpa using h y hy

structure Bk (pl : List Bool) (mv : List (List Int)) (wn : List Bool) (u : Nat) (B : List (Int × Int)) : Prop where
  len : (B.length : Int) = gD (finC pl mv wn) u
  mem : ∀ y ∈ B, ∃ i : Nat, i < mv.length ∧ y.1 = i ∧ pl.getD i false = false ∧ wn.getD i false = false ∧ y.2 ∈ mv.getD i [] ∧ u.testBit i = true
  nodup : B.Nodup
  few : ∀ i : Nat, cntT B i ≠ 0 → cntT B i < (mv.getD i []).length

theorem back_step {pl : List Bool} {mv : List (List Int)} {L : List Int} {won f p i : Nat} (hb : p.testBit i = false) (hL : gD L (p ||| 2 ^ i) = (i : Int)) (hne : p ||| 2 ^ i ≠ won) :
    backF pl mv L won (f + 1) (p ||| 2 ^ i) = rowB (pl.getD i false) i p (mv.getD i []) ++ backF pl mv L won f p := by
  rw [backF, if_neg hne, hL, Int.toNat_natCast, xor_off hb]
theorem back_ok {pl wn : List Bool} {mv : List (List Int)} (hv : Valid pl mv wn) {u : Nat} (hu : u < 2 ^ mv.length) (h0 : 0 ≤ gD (finC pl mv wn) u) : ∀ f, u ≤ f → Bk pl mv wn u (backF pl mv (finL pl mv wn) (wonN wn mv.length) f u) := by
  refine fin_ind (P := fun u => ∀ f, u ≤ f → Bk pl mv wn u (backF pl mv (finL pl mv wn) (wonN wn mv.length) f u)) (fun f hf => ?_) (fun p i hp hpi hc hi hb hm he hL hne ih f hf => ?_) u hu h0
  · rw [backF_won]
    exact ⟨by rw [fin_won]; rfl, by simp, List.nodup_nil, fun i h => by simp [cntT] at h⟩
  · have hlt := or_gt hb
    obtain ⟨f, rfl⟩ : ∃ f', f = f' + 1 := ⟨f - 1, by omega⟩
    rw [back_step hb hL hne]
    obtain ⟨i1, i2, i3, i4⟩ := ih f (by omega)
    obtain ⟨r1, r2⟩ := row_len hm
    have hwi : wn.getD i false = false := by
      cases hw : wn.getD i false with
      | false => rfl
      | true => have := fin_has hp hc i hi hw; rw [hb] at this; cases this
    have hsep : ∀ y ∈ backF pl mv (finL pl mv wn) (wonN wn mv.length) f p, y.1 ≠ (i : Int) := by
      intro y hy e
      obtain ⟨j, _, h2, _, _, _, h6⟩ := i2 y hy
      have : j = i := by omega
      rw [this, hb] at h6; cases h6
    have hrow : ∀ y ∈ rowB (pl.getD i false) i p (mv.getD i []), y.1 = (i : Int) := fun y hy => (mem_row.1 hy).2.1
    refine ⟨?_, ?_, ?_, ?_⟩
    · rw [List.length_append, he]; omega
    · intro y hy
      rcases List.mem_append.1 hy with hy | hy
      · obtain ⟨h1, h2, h3, h4⟩ := mem_row.1 hy
        exact ⟨i, hi, h2, h1, hwi, h3, by rw [bit_one]; simp⟩
      · obtain ⟨j, h1, h2, h3, h4, h5, h6⟩ := i2 y hy
        exact ⟨j, h1, h2, h3, h4, h5, by rw [bit_one, h6]; rfl⟩
    · rw [List.nodup_append]
      refine ⟨row_nodup ((rise_nodup _ _ (hv.ris _ (List.mem_of_getElem? (hv.at' hi).hm))).2), i3, fun a ha b hb2 e => ?_⟩
      subst e
      exact hsep a hb2 (hrow a ha)
    · intro j hj
      rw [cntT_app] at hj ⊢
      by_cases e : i = j
      · subst e
        rw [cntT_zero hsep, cntT_full hrow] at hj ⊢
        have hpl : pl.getD i false = false := by
          cases hp2 : pl.getD i false with
          | false => rfl
          | true => rw [hp2] at hj; simp [rowB] at hj
        have := r2 hpl
        omega
      · have hz : cntT (rowB (pl.getD i false) i p (mv.getD i [])) (j : Int) = 0 := cntT_zero fun y hy h => by have := hrow y hy; omega
        rw [hz] at hj ⊢
        have := i4 j (by omega)
        omega
theorem mem_wtV {mv : List (List Int)} {T : List (Int × Int)} {i : Nat} {k : Int} : k ∈ wtV mv T i ↔ k ∈ mv.getD i [] ∧ ((i : Int), k) ∉ T := by
  unfold wtV keepF goneB
  rw [List.mem_filter]
  simp only [Bool.not_eq_true', List.any_eq_false, decide_eq_true_eq]
  exact and_congr Iff.rfl ⟨fun h hm => h _ hm rfl, fun h x hx e => h (e ▸ hx)⟩
theorem wins_iff {p : Bool} {l : List Int} {g : Int → Bool} : wins1 p l g = true ↔ (p = true ∧ ∃ k ∈ l, g k = true) ∨ (p = false ∧ l ≠ [] ∧ ∀ k ∈ l, g k = true) := by
  unfold wins1
  cases p with
  | true => simp
  | false => simp [List.isEmpty_iff]
theorem more_some {pl : List Bool} {mv : List (List Int)} {s i : Nat} (hm : 0 ≤ moreV pl mv s i) : ∃ k ∈ mv.getD i [], hasB (s : Int) k = true := by
  unfold moreV costOf at hm
  have h := cnt_count (s := (s : Int)) (mv.getD i [])
  have hp : 0 < (mv.getD i []).countP (hasB (s : Int)) := by
    refine Nat.pos_of_ne_zero fun e => ?_
    rw [e] at h
    rw [if_pos (by simpa using h)] at hm
    omega
  exact List.countP_pos_iff.1 hp
theorem b2i_zero {s k : Int} : b2i s k = 0 ↔ hasB s k = false := by
  unfold b2i
  cases hasB s k <;> simp
theorem wins_of_row {pl : List Bool} {mv : List (List Int)} {T : List (Int × Int)} {i p : Nat} {g : Int → Bool} (hm : 0 ≤ moreV pl mv p i)
    (hT : ∀ k, ((i : Int), k) ∈ T ↔ pl.getD i false = false ∧ k ∈ mv.getD i [] ∧ b2i (p : Int) k = 0) (hg : ∀ k ∈ mv.getD i [], hasB (p : Int) k = true → g k = true) : wins1 (pl.getD i false) (wtV mv T i) g = true := by
  obtain ⟨k, hk, hb⟩ := more_some hm
  have hkw : k ∈ wtV mv T i := mem_wtV.2 ⟨hk, fun h => by have := b2i_zero.1 ((hT k).1 h).2.2; rw [hb] at this; cases this⟩
  rw [wins_iff]
  cases hp : pl.getD i false with
  | true => exact .inl ⟨rfl, k, hkw, hg k hk hb⟩
  | false =>
    refine .inr ⟨rfl, List.ne_nil_of_mem hkw, fun y hy => ?_⟩
    obtain ⟨h1, h2⟩ := mem_wtV.1 hy
    refine hg y h1 ?_
    cases hby : hasB (p : Int) y with
    | true => rfl
    | false => exact absurd ((hT y).2 ⟨hp, h1, b2i_zero.2 hby⟩) h2
theorem back_win {pl wn : List Bool} {mv : List (List Int)} (hv : Valid pl mv wn) {T : List (Int × Int)} {u : Nat} (hu : u < 2 ^ mv.length) (h0 : 0 ≤ gD (finC pl mv wn) u) : ∀ f, u ≤ f → (∀ a : Nat, a < mv.length → u.testBit a = true → ∀ k, ((a : Int), k) ∈ T ↔ ((a : Int), k) ∈ backF pl mv (finL pl mv wn) (wonN wn mv.length) f u) →
    ∀ a : Nat, a < mv.length → u.testBit a = true → 0 ≤ getI (distW pl (wtM mv T) wn) a := by
  have hv' := wtM_valid (T := T) hv
  have hl' := wtM_len (mv := mv) (T := T)
  have hp62 := pow62 hv.few
  refine fin_ind (P := fun u => ∀ f, u ≤ f → (∀ a : Nat, a < mv.length → u.testBit a = true → ∀ k, ((a : Int), k) ∈ T ↔ ((a : Int), k) ∈ backF pl mv (finL pl mv wn) (wonN wn mv.length) f u) → ∀ a : Nat, a < mv.length → u.testBit a = true → 0 ≤ getI (distW pl (wtM mv T) wn) a)
    (fun f hf hT a ha hb => ?_) (fun p i hp hpi hc hi hb hm he hL hne ih f hf hT a ha hba => ?_) u hu h0
  · rw [wonN_bit, decide_eq_true ha, Bool.true_and] at hb
    have := (dist_zero (pl := pl) (mv := wtM mv T) (by rw [hl']; exact ha) hv'.wn).2 hb
    omega
  · have hlt := or_gt hb
    obtain ⟨f, rfl⟩ : ∃ f', f = f' + 1 := ⟨f - 1, by omega⟩
    rw [back_step hb hL hne] at hT
    have hbk := back_ok hv hp hc f (by omega)
    have hsep : ∀ k, ((i : Int), k) ∉ backF pl mv (finL pl mv wn) (wonN wn mv.length) f p := by
      intro k hy
      obtain ⟨j, _, h2, _, _, _, h6⟩ := hbk.mem _ hy
      have : j = i := by simp at h2; omega
      rw [this, hb] at h6; cases h6
    have ih := ih f (by omega) fun a ha hb2 k => by
      rw [hT a ha (by rw [bit_one, hb2]; rfl) k, List.mem_append]
      constructor
      · rintro (h | h)
        · have h2 : (a : Int) = i := (mem_row.1 h).2.1
          have h3 : a = i := by omega
          rw [h3, hb] at hb2; cases hb2
        · exact h
      · exact .inr
    by_cases e : i = a
    · subst e
      refine Decidable.byContradiction fun hn => ?_
      have hTi : ∀ k, ((i : Int), k) ∈ T ↔ ((i : Int), k) ∈ rowB (pl.getD i false) i p (mv.getD i []) := by
        intro k
        rw [hT i hi (by rw [bit_one]; simp) k, List.mem_append]
        exact ⟨fun h => h.elim id fun h => absurd h (hsep k), .inl⟩
      have h1 := dist_neg hv' (i := i) (by rw [hl']; exact hi) (by omega)
      rw [wtM_at hi, wins_of_row hm (fun k => ?_) (fun k hk hb3 => ?_)] at h1
      · cases h1
      · rw [hTi k, mem_row]
        exact ⟨fun h => ⟨h.1, h.2.2⟩, fun h => ⟨h.1, rfl, h.2⟩⟩
      · have hk2 := (hv.at' hi).ins k hk
        rw [hasB_bit (by omega) hk2.1] at hb3
        have := ih k.toNat (by omega) hb3
        rw [show ((k.toNat : Nat) : Int) = k by omega] at this
        exact decide_eq_true this
    · rw [bit_one, decide_eq_false e, Bool.or_false] at hba
      exact ih a ha hba
end Go.Proofs.Ytglmjdpmpgphkaa.Sk

/- The answers that the program takes away, sorted: they may be taken away, and the player wins without them. -/
namespace Go.Proofs.Ytglmjdpmpgphkaa.Sk
open Go Go.E Go.Sort Go.Shelf
set_option linter.all false

theorem srt_perm (L : List (Int × Int)) : (srtP L).Perm L := List.mergeSort_perm ..
theorem srt_sorted (L : List (Int × Int)) : (srtP L).Pairwise fun a b => lexlt b a = false := by
  have h := List.pairwise_mergeSort (le := fun x y : Int × Int => !(ltOf cmp2) y x) (fun a b c h1 h2 => ?_) (fun a b => ?_) L
  · refine h.imp fun {a b} hab => ?_
    rw [← lt_cmp2]
    simpa using hab
  · simp only [lt_cmp2, lexlt, Bool.not_eq_true', Bool.or_eq_false_iff, Bool.and_eq_false_iff, decide_eq_false_iff_not] at *
    omega
  · simp only [lt_cmp2, lexlt, Bool.or_eq_true, Bool.not_eq_true', Bool.or_eq_false_iff, Bool.and_eq_false_iff, decide_eq_false_iff_not]
    omega
theorem lex_total {a b : Int × Int} (h : lexlt b a = false) (hne : a ≠ b) : lexlt a b = true := by
  obtain ⟨a1, a2⟩ := a
  obtain ⟨b1, b2⟩ := b
  simp only [lexlt, Bool.or_eq_false_iff, Bool.and_eq_false_iff, decide_eq_false_iff_not, Bool.or_eq_true, Bool.and_eq_true, decide_eq_true_eq] at *
  have : ¬ (a1 = b1 ∧ a2 = b2) := fun h => hne (by rw [h.1, h.2])
  omega
theorem tk_of {pl wn : List Bool} {mv : List (List Int)} {T : List (Int × Int)} (hs : T.Pairwise fun a b => lexlt b a = false) (hn : T.Nodup)
    (hm : ∀ y ∈ T, ∃ i : Nat, i < mv.length ∧ y.1 = i ∧ pl.getD i false = false ∧ wn.getD i false = false ∧ y.2 ∈ mv.getD i []) (hf : ∀ i : Nat, cntT T i ≠ 0 → cntT T i < (mv.getD i []).length) : tkB pl mv wn T = true := by
  unfold tkB
  rw [List.all_eq_true]
  intro j hj
  have hj : j < T.length := by simpa using hj
  have hg : ∀ k (hk : k < T.length), T.getD k (0, 0) = T[k] := fun k hk => by rw [List.getD_eq_getElem?_getD, List.getElem?_eq_getElem hk]; rfl
  rw [tkAt_spec]
  have hmem : T.getD j (0, 0) ∈ T := by rw [hg j hj]; exact List.getElem_mem hj
  obtain ⟨i, h1, h2, h3, h4, h5⟩ := hm _ hmem
  have hle : cntT (T.take (j + 1)) (i : Int) ≤ cntT T (i : Int) := (List.take_sublist _ _).countP_le
  have hpos : cntT T (i : Int) ≠ 0 := by
    unfold cntT
    rw [Ne, List.countP_eq_zero]
    intro h
    exact absurd h2 (by simpa using h _ hmem)
  have hlt := hf i hpos
  rw [h2, Int.toNat_natCast]
  refine ⟨by omega, by omega, h3, h4, h5, ?_, by omega⟩
  by_cases e : j = 0
  · exact .inl e
  · right
    rw [hg j hj, hg (j - 1) (by omega)]
    have hs2 := List.pairwise_iff_getElem.1 hs (j - 1) j (by omega) hj (by omega)
    have hn2 := List.pairwise_iff_getElem.1 hn (j - 1) j (by omega) hj (by omega)
    exact lex_total hs2 hn2

def allA (n : Nat) : List (Int × Int) := (List.range n).flatMap fun i : Nat => (List.range n).map fun k : Nat => ((i : Int), (k : Int))
theorem allA_len {n : Nat} : (allA n).length = n * n := by
  unfold allA
  have : ∀ (l : List Nat), (l.flatMap fun i : Nat => (List.range n).map fun k : Nat => ((i : Int), (k : Int))).length = l.length * n := by
    intro l
    induction l with
    | nil => simp
    | cons x l ih => rw [List.flatMap_cons, List.length_append, ih, List.length_map, List.length_range, List.length_cons, Nat.succ_mul]; omega
  rw [this, List.length_range]
theorem ans_few {mv : List (List Int)} {T : List (Int × Int)} (hn : T.Nodup) (hin : ∀ y ∈ T, 0 ≤ y.1 ∧ y.1 < mv.length ∧ 0 ≤ y.2 ∧ y.2 < mv.length) : T.length ≤ mv.length * mv.length := by
  rw [← allA_len]
  refine nodup_len hn fun y hy => ?_
  obtain ⟨h1, h2, h3, h4⟩ := hin y hy
  unfold allA
  rw [List.mem_flatMap]
  refine ⟨y.1.toNat, by rw [List.mem_range]; omega, ?_⟩
  rw [List.mem_map]
  exact ⟨y.2.toNat, by rw [List.mem_range]; omega, by obtain ⟨a, b⟩ := y; simp at *; omega⟩

theorem fin_rng {pl wn : List Bool} {mv : List (List Int)} {x : Nat} : -1 ≤ finB pl mv wn x ∧ finB pl mv wn x < (2 ^ mv.length : Nat) ∧ (0 ≤ finB pl mv wn x → 0 ≤ gD (finC pl mv wn) (finB pl mv wn x).toNat ∧ (finB pl mv wn x).toNat.testBit x = true) :=
  bestI_rng (pl := pl) (mv := mv) (C := startC wn mv.length) (x := x) (2 ^ mv.length)

theorem few_ok {pl wn : List Bool} {mv : List (List Int)} (hv : Valid pl mv wn) (h11 : mv.length ≤ 11) {x : Nat} (hx : x < mv.length) : (fewS pl mv wn x = none ∧ fewV pl mv wn x < 0) ∨
    ∃ B, fewS pl mv wn x = some B ∧ 0 ≤ fewV pl mv wn x ∧ ((srtP B).length : Int) = fewV pl mv wn x ∧ tkB pl mv wn (srtP B) = true ∧ 0 ≤ getI (distW pl (wtM mv (srtP B)) wn) x ∧ (srtP B).length ≤ 121 ∧ ∀ y ∈ srtP B, ∃ i : Nat, i < mv.length ∧ y.1 = i ∧ pl.getD i false = false ∧ wn.getD i false = false ∧ y.2 ∈ mv.getD i [] := by
  have hd : fewS pl mv wn x = if finB pl mv wn x < 0 then none else some (backF pl mv (finL pl mv wn) (wonN wn mv.length) (2 ^ mv.length) (finB pl mv wn x).toNat) := rfl
  obtain ⟨r1, r2, r3⟩ := fin_rng (pl := pl) (wn := wn) (mv := mv) (x := x)
  by_cases h : finB pl mv wn x < 0
  · left
    rw [hd, if_pos h]
    exact ⟨rfl, few_neg.2 h⟩
  · right
    obtain ⟨r3, r4⟩ := r3 (by omega)
    have hu : (finB pl mv wn x).toNat < 2 ^ mv.length := by omega
    have hbk := back_ok hv hu r3 (2 ^ mv.length) (by omega)
    have hpm := srt_perm (backF pl mv (finL pl mv wn) (wonN wn mv.length) (2 ^ mv.length) (finB pl mv wn x).toNat)
    have hfew : fewV pl mv wn x = gD (finC pl mv wn) (finB pl mv wn x).toNat := by rw [few_eq, if_neg h]
    have hwin := back_win hv (T := srtP (backF pl mv (finL pl mv wn) (wonN wn mv.length) (2 ^ mv.length) (finB pl mv wn x).toNat)) hu r3 (2 ^ mv.length) (by omega) (fun a _ _ k => hpm.mem_iff) x hx r4
    have hmm : ∀ y ∈ srtP (backF pl mv (finL pl mv wn) (wonN wn mv.length) (2 ^ mv.length) (finB pl mv wn x).toNat), ∃ i : Nat, i < mv.length ∧ y.1 = i ∧ pl.getD i false = false ∧ wn.getD i false = false ∧ y.2 ∈ mv.getD i [] := fun y hy => by
      obtain ⟨i, h1, h2, h3, h4, h5, _⟩ := hbk.mem y (hpm.mem_iff.1 hy)
      exact ⟨i, h1, h2, h3, h4, h5⟩
    have hnd := hpm.nodup_iff.2 hbk.nodup
    refine ⟨_, by rw [hd, if_neg h], by rw [hfew]; exact r3, by rw [hpm.length_eq, hfew]; exact hbk.len, tk_of (srt_sorted _) hnd hmm (fun i hi => ?_), hwin, ?_, hmm⟩
    · have e : cntT (srtP (backF pl mv (finL pl mv wn) (wonN wn mv.length) (2 ^ mv.length) (finB pl mv wn x).toNat)) (i : Int) = cntT (backF pl mv (finL pl mv wn) (wonN wn mv.length) (2 ^ mv.length) (finB pl mv wn x).toNat) (i : Int) := hpm.countP_eq _
      rw [e] at hi ⊢
      exact hbk.few i hi
    · refine Nat.le_trans (ans_few (mv := mv) hnd fun y hy => ?_) (Nat.le_trans (Nat.mul_le_mul h11 h11) (by decide))
      obtain ⟨i, h1, h2, h3, h4, h5⟩ := hmm y hy
      have := (hv.at' h1).ins y.2 h5
      omega
end Go.Proofs.Ytglmjdpmpgphkaa.Sk

/- No answers without which the player wins are fewer than those that the program takes away. -/
namespace Go.Proofs.Ytglmjdpmpgphkaa.Sk
open Go Go.E
set_option linter.all false

def cntIn (T : List (Int × Int)) (u : Nat) : Nat := T.countP fun y => u.testBit y.1.toNat
theorem cntIn_le {T : List (Int × Int)} {u : Nat} : cntIn T u ≤ T.length := List.countP_le_length
theorem cntIn_or {u i : Nat} (hb : u.testBit i = false) : ∀ {T : List (Int × Int)}, (∀ y ∈ T, 0 ≤ y.1) → cntIn T (u ||| 2 ^ i) = cntIn T u + cntT T (i : Int)
  | [], _ => rfl
  | y :: T, h => by
    have ih := cntIn_or hb (T := T) fun z hz => h z (List.mem_cons_of_mem _ hz)
    have h0 := h y (List.mem_cons_self ..)
    unfold cntIn cntT at *
    have hb1 : (u ||| 2 ^ i).testBit y.1.toNat = (u.testBit y.1.toNat || decide (i = y.1.toNat)) := bit_one
    simp only [List.countP_cons]
    rw [ih, hb1]
    by_cases e : y.1 = (i : Int)
    · have e2 : y.1.toNat = i := by omega
      rw [e2, hb, decide_eq_true e]
      simp
      omega
    · have e2 : ¬ (i = y.1.toNat) := by omega
      rw [decide_eq_false e2, decide_eq_false e, Bool.or_false]
      simp
      omega
theorem more_le {pl : List Bool} {mv : List (List Int)} {T : List (Int × Int)} {v i : Nat} (hn : (mv.getD i []).Nodup) (hw : wins1 (pl.getD i false) (wtV mv T i) (hasB (v : Int)) = true) :
    0 ≤ moreV pl mv v i ∧ moreV pl mv v i ≤ (cntT T (i : Int) : Nat) := by
  have hex : ∃ k ∈ mv.getD i [], hasB (v : Int) k = true := by
    rcases wins_iff.1 hw with ⟨_, k, hk, hb⟩ | ⟨_, hne, hall⟩
    · exact ⟨k, (mem_wtV.1 hk).1, hb⟩
    · obtain ⟨k, hk⟩ := List.exists_mem_of_ne_nil _ hne
      exact ⟨k, (mem_wtV.1 hk).1, hall k hk⟩
  have hc : cnt (v : Int) (mv.getD i []) ≠ 0 := by
    have := cnt_count (s := (v : Int)) (mv.getD i [])
    have hp := List.countP_pos_iff.2 hex
    omega
  have hr := cnt_rng (v : Int) (mv.getD i [])
  have hf := filt_cnt (s := (v : Int)) (mv.getD i [])
  unfold moreV costOf
  rw [if_neg hc]
  rcases wins_iff.1 hw with ⟨hp, _⟩ | ⟨hp, _, hall⟩
  · rw [hp, if_pos rfl]; omega
  · rw [hp, if_neg (by simp)]
    refine ⟨by omega, ?_⟩
    have hle : (((mv.getD i []).filter fun k => decide (b2i (v : Int) k = 0)).map fun k => ((i : Int), k)).length ≤ (T.filter fun y => decide (y.1 = (i : Int))).length := by
      refine nodup_len ?_ fun y hy => ?_
      · unfold List.Nodup at *
        rw [List.pairwise_map]
        exact (hn.filter _).imp fun hne he => hne (by have := congrArg Prod.snd he; exact this)
      · obtain ⟨k, hk, rfl⟩ := List.mem_map.1 hy
        rw [List.mem_filter, decide_eq_true_eq] at hk
        rw [List.mem_filter]
        refine ⟨Decidable.byContradiction fun hnm => ?_, by simp⟩
        have := hall k (mem_wtV.2 ⟨hk.1, hnm⟩)
        rw [b2i_zero.1 hk.2] at this; cases this
    rw [List.length_map] at hle
    unfold cntT
    rw [List.countP_eq_length_filter]
    omega

theorem grown {pl wn : List Bool} {mv : List (List Int)} (hv : Valid pl mv wn) {T : List (Int × Int)} (hT : ∀ y ∈ T, 0 ≤ y.1) : ∀ (d u : Nat), 2 ^ mv.length - u ≤ d → u < 2 ^ mv.length → 0 ≤ gD (finC pl mv wn) u → gD (finC pl mv wn) u ≤ (cntIn T u : Nat) →
    ∃ v, v < 2 ^ mv.length ∧ 0 ≤ gD (finC pl mv wn) v ∧ gD (finC pl mv wn) v ≤ (cntIn T v : Nat) ∧ ∀ i, i < mv.length → v.testBit i = false → wins1 (pl.getD i false) (wtV mv T i) (hasB (v : Int)) = false
  | 0, u, hd, hu, _, _ => by omega
  | d + 1, u, hd, hu, h0, h1 => by
    by_cases h : ∀ i, i < mv.length → u.testBit i = false → wins1 (pl.getD i false) (wtV mv T i) (hasB (u : Int)) = false
    · exact ⟨u, hu, h0, h1, h⟩
    · simp only [Classical.not_forall] at h
      obtain ⟨i, hi, hb, hm⟩ := h
      have hw : wins1 (pl.getD i false) (wtV mv T i) (hasB (u : Int)) = true := by simpa using hm
      obtain ⟨m1, m2⟩ := more_le ((rise_nodup _ _ (hv.ris _ (List.mem_of_getElem? (hv.at' hi).hm))).2) hw
      have h2 := fin_relax hu hi hb m1 h0
      have hlt := or_gt hb
      have hci := cntIn_or hb hT
      exact grown hv hT d (u ||| 2 ^ i) (by omega) (Nat.or_lt_two_pow hu (Nat.pow_lt_pow_right (by decide) hi)) h2.1 (by omega)

theorem few_least {pl wn : List Bool} {mv : List (List Int)} (hv : Valid pl mv wn) {T : List (Int × Int)} (hT : ∀ y ∈ T, 0 ≤ y.1) {x : Nat} (hx : x < mv.length) (hd : 0 ≤ getI (distW pl (wtM mv T) wn) x) :
    0 ≤ fewV pl mv wn x ∧ fewV pl mv wn x ≤ T.length := by
  have hp62 := pow62 hv.few
  have hv' := wtM_valid (T := T) hv
  have hl' := wtM_len (mv := mv) (T := T)
  have hw0 := fin_won (pl := pl) (wn := wn) (mv := mv)
  obtain ⟨v, h1, h2, h3, h4⟩ := grown hv hT _ (wonN wn mv.length) (Nat.le_refl _) (wonN_lt mv.length) (Int.le_of_eq hw0.symm) (by rw [hw0]; omega)
  have hhas := fin_has h1 h2
  have key : ∀ (r i : Nat), i < mv.length → 0 ≤ getI (distW pl (wtM mv T) wn) i → getI (distW pl (wtM mv T) wn) i ≤ r → v.testBit i = true := by
    intro r
    induction r with
    | zero => intro i hi h0 hr; exact hhas i hi ((dist_zero (i := i) (pl := pl) (mv := wtM mv T) (wn := wn) (by omega) hv'.wn).1 (by omega))
    | succ r ih =>
      intro i hi h0 hr
      by_cases hz : getI (distW pl (wtM mv T) wn) i = 0
      · exact hhas i hi ((dist_zero (i := i) (pl := pl) (mv := wtM mv T) (wn := wn) (by omega) hv'.wn).1 hz)
      · refine Decidable.byContradiction fun hn => ?_
        have hn : v.testBit i = false := by simpa using hn
        have h5 := dist_pos hv' (i := i) (by omega) (by omega)
        rw [wtM_at hi] at h5
        have h6 := h4 i hi hn
        rw [wins_mono (fun y hy hg => ?_) h5] at h6
        · cases h6
        · have hy2 := (hv.at' hi).ins y (mem_wtV.1 hy).1
          simp only [lessB, Bool.and_eq_true, decide_eq_true_eq] at hg
          rw [hasB_bit (by omega) hy2.1]
          refine ih y.toNat (by omega) ?_ ?_
          · rw [show ((y.toNat : Nat) : Int) = y by omega]; exact hg.1
          · rw [show ((y.toNat : Nat) : Int) = y by omega]; omega
  have hb := fin_best h1 (key (getI (distW pl (wtM mv T) wn) x).toNat x hx hd (by omega)) h2
  have hl := cntIn_le (T := T) (u := v)
  obtain ⟨r1, r2, r3⟩ := fin_rng (pl := pl) (wn := wn) (mv := mv) (x := x)
  have r4 := r3 hb.1
  rw [few_eq, if_neg (by omega)]
  omega

theorem keep_won {pl wn : List Bool} {mv : List (List Int)} (hv : Valid pl mv wn) {T : List (Int × Int)} (hm : ∀ y ∈ T, ∃ i : Nat, y.1 = i ∧ pl.getD i false = false) (hs : ∀ i, i < mv.length → mv.getD i [] ≠ [] → ∃ k ∈ mv.getD i [], ((i : Int), k) ∉ T) :
    ∀ (r i : Nat), i < mv.length → 0 ≤ getI (distW pl mv wn) i → getI (distW pl mv wn) i ≤ r → 0 ≤ getI (distW pl (wtM mv T) wn) i := by
  have hv' := wtM_valid (T := T) hv
  have hl' := wtM_len (mv := mv) (T := T)
  intro r
  induction r with
  | zero =>
    intro i hi h0 hr
    have := (dist_zero (i := i) (pl := pl) (mv := wtM mv T) (wn := wn) (by omega) hv'.wn).2 ((dist_zero (i := i) (pl := pl) (mv := mv) (wn := wn) hi hv.wn).1 (by omega))
    omega
  | succ r ih =>
    intro i hi h0 hr
    by_cases hz : getI (distW pl mv wn) i = 0
    · have := (dist_zero (i := i) (pl := pl) (mv := wtM mv T) (wn := wn) (by omega) hv'.wn).2 ((dist_zero (i := i) (pl := pl) (mv := mv) (wn := wn) hi hv.wn).1 hz)
      omega
    · refine Decidable.byContradiction fun hn => ?_
      have h1 := dist_neg hv' (i := i) (by omega) (by omega)
      rw [wtM_at hi] at h1
      have h2 := dist_pos hv hi (by omega)
      have good : ∀ y ∈ mv.getD i [], lessB (distW pl mv wn) (getI (distW pl mv wn) i) y = true → isIn (distW pl (wtM mv T) wn) y = true := fun y hy hg => by
        have hy2 := (hv.at' hi).ins y hy
        simp only [lessB, Bool.and_eq_true, decide_eq_true_eq] at hg
        have := ih y.toNat (by omega) (by rw [show ((y.toNat : Nat) : Int) = y by omega]; exact hg.1) (by rw [show ((y.toNat : Nat) : Int) = y by omega]; omega)
        rw [show ((y.toNat : Nat) : Int) = y by omega] at this
        exact decide_eq_true this
      have h3 : wins1 (pl.getD i false) (wtV mv T i) (isIn (distW pl (wtM mv T) wn)) = true := by
        rw [wins_iff] at h2 ⊢
        rcases h2 with ⟨hp, k, hk, hg⟩ | ⟨hp, hne, hall⟩
        · refine .inl ⟨hp, k, mem_wtV.2 ⟨hk, fun hT => ?_⟩, good k hk hg⟩
          obtain ⟨j, hj, hpj⟩ := hm _ hT
          have : j = i := by simp at hj; omega
          rw [this, hp] at hpj; cases hpj
        · obtain ⟨k, hk, hkT⟩ := hs i hi hne
          exact .inr ⟨hp, List.ne_nil_of_mem (mem_wtV.2 ⟨hk, hkT⟩), fun y hy => good y (mem_wtV.1 hy).1 (hall y (mem_wtV.1 hy).1)⟩
      rw [h1] at h3; cases h3
theorem less_won {pl wn : List Bool} {mv : List (List Int)} (hv : Valid pl mv wn) {T T' : List (Int × Int)} {a : Nat} (hsame : ∀ i : Nat, i ≠ a → ∀ k, ((i : Int), k) ∈ T ↔ ((i : Int), k) ∈ T') (ha : 0 ≤ getI (distW pl (wtM mv T') wn) a) :
    ∀ (r i : Nat), i < mv.length → 0 ≤ getI (distW pl (wtM mv T) wn) i → getI (distW pl (wtM mv T) wn) i ≤ r → 0 ≤ getI (distW pl (wtM mv T') wn) i := by
  have hv1 := wtM_valid (T := T) hv
  have hl1 := wtM_len (mv := mv) (T := T)
  have hv2 := wtM_valid (T := T') hv
  have hl2 := wtM_len (mv := mv) (T := T')
  intro r
  induction r with
  | zero =>
    intro i hi h0 hr
    have := (dist_zero (i := i) (pl := pl) (mv := wtM mv T') (wn := wn) (by omega) hv2.wn).2 ((dist_zero (i := i) (pl := pl) (mv := wtM mv T) (wn := wn) (by omega) hv1.wn).1 (by omega))
    omega
  | succ r ih =>
    intro i hi h0 hr
    by_cases hz : getI (distW pl (wtM mv T) wn) i = 0
    · have := (dist_zero (i := i) (pl := pl) (mv := wtM mv T') (wn := wn) (by omega) hv2.wn).2 ((dist_zero (i := i) (pl := pl) (mv := wtM mv T) (wn := wn) (by omega) hv1.wn).1 hz)
      omega
    · by_cases hia : i = a
      · subst hia; exact ha
      · refine Decidable.byContradiction fun hn => ?_
        have h1 := dist_neg hv2 (i := i) (by omega) (by omega)
        have h2 := dist_pos hv1 (i := i) (by omega) (by omega)
        rw [wtM_at hi] at h1 h2
        have he : wtV mv T i = wtV mv T' i := by
          unfold wtV keepF
          refine List.filter_congr fun k _ => ?_
          have : goneB T i k = goneB T' i k := by
            rw [Bool.eq_iff_iff]
            unfold goneB
            simp only [List.any_eq_true, decide_eq_true_eq, exists_eq_right]
            exact hsame i hia k
          rw [this]
        rw [he] at h2
        rw [wins_mono (fun y hy hg => ?_) h2] at h1
        · cases h1
        · have hy2 := (hv.at' hi).ins y (mem_wtV.1 hy).1
          simp only [lessB, Bool.and_eq_true, decide_eq_true_eq] at hg
          have := ih y.toNat (by omega) (by rw [show ((y.toNat : Nat) : Int) = y by omega]; exact hg.1) (by rw [show ((y.toNat : Nat) : Int) = y by omega]; omega)
          rw [show ((y.toNat : Nat) : Int) = y by omega] at this
          exact decide_eq_true this
end Go.Proofs.Ytglmjdpmpgphkaa.Sk

/- With one of the answers that are taken away left the player does not win; they are answers from positions of the keep. -/
namespace Go.Proofs.Ytglmjdpmpgphkaa.Sk
open Go Go.E
set_option linter.all false

theorem few_bk {pl wn : List Bool} {mv : List (List Int)} (hv : Valid pl mv wn) {x : Nat} {B : List (Int × Int)} (h : fewS pl mv wn x = some B) : ∃ u, Bk pl mv wn u B := by
  have hd : fewS pl mv wn x = if finB pl mv wn x < 0 then none else some (backF pl mv (finL pl mv wn) (wonN wn mv.length) (2 ^ mv.length) (finB pl mv wn x).toNat) := rfl
  obtain ⟨r1, r2, r3⟩ := fin_rng (pl := pl) (wn := wn) (mv := mv) (x := x)
  rw [hd] at h
  split at h
  · cases h
  · cases h
    exact ⟨_, back_ok hv (by omega) (r3 (by omega)).1 _ (by omega)⟩
theorem cntT_sub {A B : List (Int × Int)} {a : Int} (h : A.Sublist B) : cntT A a ≤ cntT B a := h.countP_le
theorem tk_sub {pl wn : List Bool} {mv : List (List Int)} {u : Nat} {B T : List (Int × Int)} (hb : Bk pl mv wn u B) (hs : T.Sublist (srtP B)) : tkB pl mv wn T = true ∧
    (∀ y ∈ T, ∃ i : Nat, i < mv.length ∧ y.1 = i ∧ pl.getD i false = false ∧ wn.getD i false = false ∧ y.2 ∈ mv.getD i []) ∧ ∀ i : Nat, cntT T i ≠ 0 → cntT T i < (mv.getD i []).length := by
  have hp := srt_perm B
  have hm : ∀ y ∈ T, ∃ i : Nat, i < mv.length ∧ y.1 = i ∧ pl.getD i false = false ∧ wn.getD i false = false ∧ y.2 ∈ mv.getD i [] := fun y hy => by
    obtain ⟨i, h1, h2, h3, h4, h5, _⟩ := hb.mem y (hp.mem_iff.1 (hs.subset hy))
    exact ⟨i, h1, h2, h3, h4, h5⟩
  have hf : ∀ i : Nat, cntT T i ≠ 0 → cntT T i < (mv.getD i []).length := fun i hi => by
    have h1 := cntT_sub (a := (i : Int)) hs
    have h2 : cntT (srtP B) (i : Int) = cntT B (i : Int) := hp.countP_eq _
    have := hb.few i (by omega)
    omega
  exact ⟨tk_of ((srt_sorted B).sublist hs) ((hp.nodup_iff.2 hb.nodup).sublist hs) hm hf, hm, hf⟩
theorem some_left {mv : List (List Int)} {T : List (Int × Int)} {i : Nat} (hn : (mv.getD i []).Nodup) (hf : cntT T i ≠ 0 → cntT T i < (mv.getD i []).length) (hne : mv.getD i [] ≠ []) : ∃ k ∈ mv.getD i [], ((i : Int), k) ∉ T := by
  refine Decidable.byContradiction fun hno => ?_
  have hall : ∀ k ∈ mv.getD i [], ((i : Int), k) ∈ T := fun k hk => Decidable.byContradiction fun h => hno ⟨k, hk, h⟩
  have hle : ((mv.getD i []).map fun k => ((i : Int), k)).length ≤ (T.filter fun y => decide (y.1 = (i : Int))).length := by
    refine nodup_len ?_ fun y hy => ?_
    · unfold List.Nodup at *
      rw [List.pairwise_map]
      exact hn.imp fun hne he => hne (by have := congrArg Prod.snd he; exact this)
    · obtain ⟨k, hk, rfl⟩ := List.mem_map.1 hy
      rw [List.mem_filter]
      exact ⟨hall k hk, by simp⟩
  rw [List.length_map, ← List.countP_eq_length_filter] at hle
  have hc : (mv.getD i []).length ≤ cntT T i := hle
  have hp : 0 < (mv.getD i []).length := List.length_pos_iff.2 hne
  have := hf (by omega)
  omega
def cutAt (T : List (Int × Int)) (j : Nat) : List (Int × Int) := T.take j ++ T.drop (j + 1)
theorem cut_mem {T : List (Int × Int)} {j : Nat} (hj : j < T.length) {y : Int × Int} (hy : y ≠ T.getD j (0, 0)) : y ∈ T ↔ y ∈ cutAt T j := by
  have e : T = T.take j ++ (T.getD j (0, 0) :: T.drop (j + 1)) := by
    rw [List.getD_eq_getElem?_getD, List.getElem?_eq_getElem hj, Option.getD_some, ← List.drop_eq_getElem_cons hj, List.take_append_drop]
  unfold cutAt
  generalize T.getD j (0, 0) = z at *
  rw [List.mem_append]
  constructor
  · intro h
    rw [e] at h
    rcases List.mem_append.1 h with h | h
    · exact .inl h
    · rcases List.mem_cons.1 h with h | h
      · exact absurd h hy
      · exact .inr h
  · intro h
    rw [e]
    rcases h with h | h
    · exact List.mem_append.2 (.inl h)
    · exact List.mem_append.2 (.inr (List.mem_cons_of_mem _ h))
theorem cut_len {T : List (Int × Int)} {j : Nat} (hj : j < T.length) : (cutAt T j).length = T.length - 1 := by
  unfold cutAt
  rw [List.length_append, List.length_take, List.length_drop]
  omega
theorem cut_sub {T : List (Int × Int)} {j : Nat} : (cutAt T j).Sublist T := by
  unfold cutAt
  have h := (List.Sublist.refl (T.take j)).append (show (T.drop (j + 1)).Sublist (T.drop j) from by
    rw [← List.drop_drop]
    exact List.drop_sublist _ _)
  rwa [List.take_append_drop] at h
theorem few_cut {pl wn : List Bool} {mv : List (List Int)} (hv : Valid pl mv wn) (h11 : mv.length ≤ 11) {x : Nat} (hx : x < mv.length) {B : List (Int × Int)} (h : fewS pl mv wn x = some B) {j : Nat} (hj : j < (srtP B).length) :
    tkB pl mv wn (cutAt (srtP B) j) = true ∧ getI (distW pl (wtM mv (cutAt (srtP B) j)) wn) x < 0 ∧ hasL (keepL pl mv wn) ((srtP B).getD j (0, 0)).1 = true := by
  obtain ⟨u, hb⟩ := few_bk hv h
  obtain ⟨s1, s2, s3⟩ := tk_sub hb (cut_sub (T := srtP B) (j := j))
  have hlen := cut_len hj
  rcases few_ok hv h11 hx with ⟨g, _⟩ | ⟨B', g1, g2, g3, g4, g5, g6, g7⟩
  · rw [h] at g; cases g
  · rw [h] at g1; cases g1
    have hno : getI (distW pl (wtM mv (cutAt (srtP B) j)) wn) x < 0 := by
      refine Decidable.byContradiction fun hn => ?_
      have := few_least hv (T := cutAt (srtP B) j) (fun y hy => by obtain ⟨i, _, h2, _⟩ := s2 y hy; omega) hx (by omega)
      omega
    refine ⟨s1, hno, ?_⟩
    have hmem : (srtP B).getD j (0, 0) ∈ srtP B := by
      rw [List.getD_eq_getElem?_getD, List.getElem?_eq_getElem hj]; exact List.getElem_mem hj
    obtain ⟨a, h1, h2, h3, h4, h5⟩ := g7 _ hmem
    rw [has_keep (by omega) (by omega), decide_eq_true_eq, h2]
    refine Decidable.byContradiction fun hn => ?_
    have hd0 : 0 ≤ getI (distW pl mv wn) a := by omega
    have w1 := keep_won hv (T := cutAt (srtP B) j) (fun y hy => by obtain ⟨i, _, k2, k3, _⟩ := s2 y hy; exact ⟨i, k2, k3⟩)
      (fun i hi hne => some_left ((rise_nodup _ _ (hv.ris _ (List.mem_of_getElem? (hv.at' hi).hm))).2) (s3 i) hne) (getI (distW pl mv wn) a).toNat a h1 hd0 (by omega)
    have w2 := less_won hv (T := srtP B) (T' := cutAt (srtP B) j) (a := a) (fun i hi k => cut_mem hj (fun e => hi (by rw [← e] at h2; simp at h2; omega))) w1 (getI (distW pl (wtM mv (srtP B)) wn) x).toNat x hx g5 (by omega)
    omega
end Go.Proofs.Ytglmjdpmpgphkaa.Sk
