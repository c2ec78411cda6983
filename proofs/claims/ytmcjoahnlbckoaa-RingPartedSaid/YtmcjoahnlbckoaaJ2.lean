/- What a step does to a state: blocks written, blocks laid, references forgotten. -/
import Derived.Test.YtmcjoahnlbckoaaJ1
import Derived.Deep.AppendSrc
import Derived.Great.BuildSlice
import Derived.DeepKeys
import Derived.Laws.Cover3

set_option linter.all false

namespace Go.E
open Go
theorem Env.le_set {ρ : Env} {i : Nat} {r : Spot} (h : ρ[i]? = some .gone) : Env.le ρ (ρ.set i r) := fun j s hs hj => by
 rw [List.getElem?_set]
 split
 ·rename_i e; subst e; rw [h] at hj; cases hj; exact absurd rfl hs
 ·exact hj
def Env.but (b : Nat) (ρ ρ' : Env) : Prop := ∀ j, j ≠ b -> ρ'[j]? = ρ[j]?
theorem Env.but_set (ρ : Env) (b : Nat) (r : Spot) : Env.but b ρ (ρ.set b r) := fun j hj => by
 rw [List.getElem?_set, if_neg (fun e => hj e.symm)]
mutual
theorem LRel.fgt {M : Mem} {ρ ρ' : Env} {p : Nat -> Bool} (h : ∀ j, p j = false -> ρ'[j]? = ρ[j]?) : ∀ (v : LV) (us : List Value), LRel M ρ v us -> LRel M ρ' (fgt p v) us
 | .s v, us, k => by simpa only [Go.E.fgt, LRel] using k
 | .any, us, k => by simpa only [Go.E.fgt, LRel] using k
 | .loc b off, us, k => by
  simp only [Go.E.fgt]
  cases hp : p b with
  | true => simp only [if_true, LRel]; exact LRel.oneCells _ _ k
  | false => simp only [LRel] at k ⊢; rw [if_neg (by simp)]; simp only [LRel]; rw [h b hp]; exact k
 | .sl b off len sz clip, us, k => by
  simp only [Go.E.fgt]
  cases hp : p b with
  | true => simp only [if_true, LRel]; exact LRel.oneCells _ _ k
  | false => simp only [LRel] at k ⊢; rw [if_neg (by simp)]; simp only [LRel]; rw [h b hp]; exact k
 | .full xs, us, k => by simpa only [Go.E.fgt, LRel] using k
 | .agg cs, us, k => by simp only [Go.E.fgt, LRel] at *; exact LRelC.fgt h cs _ k
 | .fn f first caps, us, k => by
  simp only [Go.E.fgt, LRel] at *
  obtain ⟨fs, cs, e, h1, h2⟩ := k
  exact ⟨fs, cs, e, LRelC.fgt h first _ h1, LRelC.fgt h caps _ h2⟩
 | .tup vs, us, k => by simp only [LRel] at k
 | .yl l, us, k => by simpa only [Go.E.fgt, LRel] using k
 | .mp b, us, k => by
  simp only [Go.E.fgt]
  cases hp : p b with
  | true => simp only [if_true, LRel]; exact LRel.oneCells _ _ k
  | false => simp only [LRel] at k ⊢; rw [if_neg (by simp)]; simp only [LRel]; rw [h b hp]; exact k
theorem LRelC.fgt {M : Mem} {ρ ρ' : Env} {p : Nat -> Bool} (h : ∀ j, p j = false -> ρ'[j]? = ρ[j]?) : ∀ (cs : List LV) (uss : List (List Value)), LRelC M ρ cs uss -> LRelC M ρ' (fgtL p cs) uss
 | [], _, k => by simpa [Go.E.fgtL, LRelC] using k
 | c :: cs, uss, k => by
  simp only [fgtL, LRelC] at *
  obtain ⟨u, us, e, hc, hr⟩ := k
  exact ⟨u, us, e, LRel.fgt h c u hc, LRelC.fgt h cs us hr⟩
end
theorem fgt_isAgg (p : Nat -> Bool) (v : LV) (hn : fgt p v ≠ .any) : (fgt p v).isAgg = v.isAgg := by
 cases v <;> simp only [fgt] at * <;> try rfl
 all_goals (split at hn <;> first | exact absurd rfl hn | (rename_i hp; simp [hp, LV.isAgg]))
theorem LVal.fgt {M : Mem} {ρ ρ' : Env} {p : Nat -> Bool} (h : ∀ j, p j = false -> ρ'[j]? = ρ[j]?) {v : LV} {x : Value} (k : LVal M ρ v x) : LVal M ρ' (fgt p v) x := by
 rcases k with rfl | ⟨vs, xs, rfl, e, hv⟩ | ⟨us, hc, e⟩
 ·exact .inl rfl
 ·exact .inr (.inl ⟨vs, xs, rfl, e, hv⟩)
 ·by_cases hn : Go.E.fgt p v = .any
  ·exact .inl hn
  ·exact .inr (.inr ⟨us, hc.fgt h, by rw [fgt_isAgg p v hn]; exact e⟩)
theorem fgtL_length (p : Nat -> Bool) : ∀ (cs : List LV), (fgtL p cs).length = cs.length
 | [] => rfl
 | c :: cs => by simp [fgtL, fgtL_length p cs]
theorem fgtL_eq_map (p : Nat -> Bool) : ∀ (cs : List LV), fgtL p cs = cs.map (fgt p)
 | [] => rfl
 | c :: cs => by simp [fgtL, fgtL_eq_map p cs]
theorem BRel.keep {M : Mem} {ρ : Env} {w w' : World} {B : ABlock} {r : Spot} (h : BRel M ρ w B r) (hb : ∀ cb sh n, r = .here cb sh n -> w'.heap[cb]? = w.heap[cb]?) : BRel M ρ w' B r := by
 cases B <;> cases r <;> simp only [BRel] at * <;> try exact h
 case obj.here cs cb sh n => rw [hb cb sh n rfl]; exact h
 case row.here cs cb sh n => rw [hb cb sh n rfl]; exact h
 case map.here ks vs cb sh n => rw [hb cb sh n rfl]; exact h
 case mit.here l x cb sh n => rw [hb cb sh n rfl]; exact h
theorem BRel.mono {M M' : Mem} {ρ ρ' : Env} {w : World} {B : ABlock} {r : Spot} (h : BRel M ρ w B r) (hM : M.le M') (hρ : Env.le ρ ρ')
  (hn : ∀ cb sh n, r = .here cb sh n -> (∀ o, M.cell cb o = none -> M'.cell cb o = none) /\ (M.map cb = none -> M'.map cb = none)) : BRel M' ρ' w B r := by
 cases B <;> cases r <;> simp only [BRel] at * <;> try exact h
 case obj.here cs cb sh n =>
  obtain ⟨c, T, h1, h2, h3, h4, h5, h6⟩ := h
  exact ⟨c, T, h1, h2, h3, h4, h5.mono hM hρ, fun o => (hn cb sh n rfl).1 o (h6 o)⟩
 case row.here cs cb sh n =>
  obtain ⟨c, T, h1, h2, h3, h5, h6⟩ := h
  exact ⟨c, T, h1, h2, h3, h5.mono hM, fun o => (hn cb sh n rfl).1 o (h6 o)⟩
 case frz.here cs cb sh n =>
  obtain ⟨us, h1, h2⟩ := h
  exact ⟨us, h1.mono hM, h2.mono hM⟩
 case map.here ks vs cb sh n =>
  obtain ⟨es, clock, kus, vus, h1, h2, h3, h4, h5, h6⟩ := h
  exact ⟨es, clock, kus, vus, h1, h2.mono hM, h3.mono hM, h4, h5, (hn cb sh n rfl).2 h6.1, h6.2⟩
 case frzm.here ks vs cb sh n =>
  obtain ⟨kus, vus, es, h2, h3, h4, h5, h6⟩ := h
  exact ⟨kus, vus, es, h2.mono hM, h3.mono hM, h4, hM.2 _ _ h5, h6⟩
 case mit.here l x cb sh n => exact ⟨h.1, h.2.mono hM⟩
theorem BRel.fgt {M : Mem} {ρ ρ' : Env} {w : World} {B : ABlock} {r : Spot} {p : Nat -> Bool} (h : BRel M ρ w B r) (hρ : ∀ j, p j = false -> ρ'[j]? = ρ[j]?) : BRel M ρ' w (fgtB p B) r := by
 cases B <;> cases r <;> simp only [fgtB, BRel] at * <;> try exact h
 case obj.here cs cb sh n =>
  obtain ⟨c, T, h1, h2, h3, h4, h5, h6⟩ := h
  exact ⟨c, T, h1, h2, by rw [fgtL_length]; exact h3, h4, h5.fgt hρ, h6⟩
theorem fgtB_isObj {p : Nat -> Bool} {B : ABlock} : (∀ cs, B ≠ .obj cs) -> fgtB p B = B := by
 intro h; cases B <;> first | rfl | exact absurd rfl (h _)
theorem MInv.startA {A : Nat -> Obj -> Prop} {n0 : Nat} {M : Mem} {ρ : Env} {H : List ABlock} {w : World} (h : SRel M ρ H w) (hA : ∀ k o, A k o -> w.heap[k]? = some o /\ o.isOther = true /\ ¬ ρ.has k) (hn : n0 <= ρ.length) : MInv A n0 M ρ w M ρ H w :=
 ⟨h, M.le_refl, hn, Nat.le_refl _, fun _ _ _ _ h => h, fun _ _ h => h, Touch.refl _ _, Newer.refl _ _ _, fun i _ sh n _ hr => .inl ⟨i, sh, n, hr⟩, hA⟩
theorem MInv.start {M : Mem} {ρ : Env} {H : List ABlock} {w : World} (h : SRel M ρ H w) : MInv NoA ρ.length M ρ w M ρ H w := MInv.startA h (fun _ _ h => h.elim) (Nat.le_refl _)
theorem has_set {ρ : Env} {b : Nat} {r : Spot} {k : Nat} (h : Env.has (ρ.set b r) k) : ρ.has k \/ ∃ sh n, r = .here k sh n := by
 obtain ⟨i, sh, n, hi⟩ := h
 rw [List.getElem?_set] at hi
 split at hi
 ·split at hi
  ·cases hi; exact .inr ⟨sh, n, rfl⟩
  ·cases hi
 ·exact .inl ⟨i, sh, n, hi⟩
theorem SRel.cell_lt {M : Mem} {ρ : Env} {H : List ABlock} {w : World} (h : SRel M ρ H w) {b o : Nat} {v : Value} (hc : M.cell b o = some v) : b < w.heap.size := by
 have := h.cells b o v hc
 unfold World.cell? at this
 rcases hb : w.heap[b]? with _ | ob
 ·simp [hb] at this
 ·exact (Array.getElem?_eq_some_iff.1 hb).1
theorem SRel.map_lt {M : Mem} {ρ : Env} {H : List ABlock} {w : World} (h : SRel M ρ H w) {b : Nat} {es : Ents} (hc : M.map b = some es) : b < w.heap.size := by
 have hb := h.maps b es hc
 exact (Array.getElem?_eq_some_iff.1 hb).1
theorem cell?_eq {w w' : World} {b o : Nat} (h : w'.heap[b]? = w.heap[b]?) : w'.cell? ⟨b, o, none⟩ = w.cell? ⟨b, o, none⟩ := by
 simp [World.cell?, h]
theorem SRel.turn {M : Mem} {ρ : Env} {H : List ABlock} {w w' : World} (h : SRel M ρ H w) {b cb sh n : Nat} {B : ABlock} (hb : b < H.length)
  (hother : ∀ k, k ≠ cb -> k < w.heap.size -> w'.heap[k]? = w.heap[k]?) (hfree : (∀ o, M.cell cb o = none) /\ M.map cb = none)
  (hsz : w.heap.size <= w'.heap.size) (hlt : cb < w'.heap.size) (hcb : ∀ j cb' sh' n', j ≠ b -> ρ[j]? = some (.here cb' sh' n') -> cb' ≠ cb)
  (hB : BRel M (ρ.set b (.here cb sh n)) w' B (.here cb sh n)) (hg : ∀ j B', j ≠ b -> H[j]? = some B' -> BRel M (ρ.set b (.here cb sh n)) w B' (ρ[j]?.getD .gone)) :
  SRel M (ρ.set b (.here cb sh n)) (H.set b B) w' := by
 have hl := h.len
 refine ⟨by simp [hl], ?_, ?_, ?_, ?_, ?_⟩
 ·intro i B' r hB' hr
  rw [List.getElem?_set] at hB' hr
  by_cases e : b = i
  ·subst e
   rw [if_pos rfl, if_pos hb] at hB'
   rw [if_pos rfl, if_pos (by omega)] at hr
   cases hB'; cases hr
   exact hB
  ·rw [if_neg e] at hB' hr
   have hk := hg i B' (fun h => e h.symm) hB'
   rw [hr] at hk
   refine BRel.keep hk fun cb' sh' n' hr' => ?_
   subst hr'
   exact hother cb' (hcb i cb' sh' n' (fun h => e h.symm) hr) (h.lt i cb' sh' n' hr)
 ·intro i j c1 s1 n1 c2 s2 n2 hij h1 h2
  rw [List.getElem?_set] at h1 h2
  by_cases e1 : b = i
  ·subst e1
   rw [if_pos rfl, if_pos (by omega)] at h1
   rw [if_neg hij] at h2
   cases h1
   exact fun e => hcb j c2 s2 n2 (fun h => hij h.symm) h2 e.symm
  ·rw [if_neg e1] at h1
   by_cases e2 : b = j
   ·subst e2
    rw [if_pos rfl, if_pos (by omega)] at h2
    cases h2
    exact hcb i c1 s1 n1 (fun h => e1 h.symm) h1
   ·rw [if_neg e2] at h2
    exact h.inj i j c1 s1 n1 c2 s2 n2 hij h1 h2
 ·intro i c1 s1 n1 h1
  rw [List.getElem?_set] at h1
  by_cases e1 : b = i
  ·subst e1
   rw [if_pos rfl, if_pos (by omega)] at h1
   cases h1
   exact hlt
  ·rw [if_neg e1] at h1
   exact Nat.lt_of_lt_of_le (h.lt i c1 s1 n1 h1) hsz
 ·intro b' o v hv
  have hne : b' ≠ cb := fun e => by subst e; rw [hfree.1 o] at hv; cases hv
  rw [cell?_eq (hother b' hne (h.cell_lt hv))]
  exact h.cells b' o v hv
 ·intro b' es hv
  have hne : b' ≠ cb := fun e => by subst e; rw [hfree.2] at hv; cases hv
  rw [hother b' hne (h.map_lt hv)]; exact h.maps b' es hv
theorem SRel.spot {M : Mem} {ρ : Env} {H : List ABlock} {w : World} (h : SRel M ρ H w) {b : Nat} {B : ABlock} (hB : H[b]? = some B) : ∃ r, ρ[b]? = some r /\ BRel M ρ w B r := by
 have hb := (List.getElem?_eq_some_iff.1 hB).1
 have hl := h.len
 refine ⟨ρ[b], List.getElem?_eq_getElem (by omega), ?_⟩
 exact h.blk b B _ hB (List.getElem?_eq_getElem (by omega))
theorem SRel.free {M : Mem} {ρ : Env} {H : List ABlock} {w : World} (h : SRel M ρ H w) {cb : Nat} {c : Array Value} {T : TypeId} (hc : w.heap[cb]? = some (.cells c T (0, 0))) (hn : ∀ o, M.cell cb o = none) :
  (∀ o, M.cell cb o = none) /\ M.map cb = none := by
 refine ⟨hn, ?_⟩
 cases hm : M.map cb with
 | none => rfl
 | some es =>
  have h1 := h.maps cb es hm
  rw [hc] at h1; cases h1
theorem SRel.write {M : Mem} {ρ : Env} {H : List ABlock} {w : World} (h : SRel M ρ H w) {b cb sh n : Nat} {B B' : ABlock} {c c' : Array Value} {T : TypeId} (hB : H[b]? = some B) (hr : ρ[b]? = some (.here cb sh n))
  (hc : w.heap[cb]? = some (.cells c T (0, 0))) (hn : ∀ o, M.cell cb o = none) (hB' : BRel M ρ (w.setRow cb c') B' (.here cb sh n)) :
  SRel M ρ (H.set b B') (w.setRow cb c') := by
 have hb := (List.getElem?_eq_some_iff.1 hB).1
 have hρ : ρ.set b (.here cb sh n) = ρ := by
  apply List.ext_getElem?
  intro j
  rw [List.getElem?_set]
  split
  ·rename_i e; subst e; rw [hr]; simp [h.len, hb]
  ·rfl
 have hk := SRel.turn (w' := w.setRow cb c') h (b := b) (cb := cb) (sh := sh) (n := n) (B := B') hb (fun k hk _ => setRow_other w cb k c' hk) (h.free hc hn) (by simp [World.setRow]) (by simpa [World.setRow] using h.lt b cb sh n hr)
  (fun j cb' sh' n' hj hj' => h.inj j b cb' sh' n' cb sh n hj hj' hr) (by rw [hρ]; exact hB') (fun j B'' hj hBj => by
   obtain ⟨r, h1, h2⟩ := h.spot hBj
   rw [hρ, h1]; exact h2)
 rw [hρ] at hk
 exact hk
theorem SRel.lay {M : Mem} {ρ : Env} {H : List ABlock} {w w' : World} (h : SRel M ρ H w) {id sh n : Nat} {B : ABlock} (hg : H[id]? = some .gone)
  (hother : ∀ k, k < w.heap.size -> w'.heap[k]? = w.heap[k]?) {cb : Nat} (hcb : w.heap.size <= cb) (hlt : cb < w'.heap.size) (hsz : w.heap.size <= w'.heap.size)
  (hB : BRel M (ρ.set id (.here cb sh n)) w' B (.here cb sh n)) :
  SRel M (ρ.set id (.here cb sh n)) (H.set id B) w' /\ Env.le ρ (ρ.set id (.here cb sh n)) := by
 have hb := (List.getElem?_eq_some_iff.1 hg).1
 obtain ⟨r, hr, hBr⟩ := h.spot hg
 have hr' : r = .gone := by cases r <;> simp only [BRel] at hBr; rfl
 subst hr'
 have hle : Env.le ρ (ρ.set id (.here cb sh n)) := Env.le_set hr
 have hnc : ∀ o, M.cell cb o = none := fun o => by
  cases hm : M.cell cb o with
  | none => rfl
  | some v => have := h.cell_lt hm; omega
 have hnm : M.map cb = none := by
  cases hm : M.map cb with
  | none => rfl
  | some v => have := h.map_lt hm; omega
 refine ⟨SRel.turn h hb (fun k _ hk => hother k hk) ⟨hnc, hnm⟩ hsz hlt (fun j cb' sh' n' hj hj' => ?_) hB (fun j B' hj hBj => ?_), hle⟩
 ·have := h.lt j cb' sh' n' hj'; omega
 ·obtain ⟨r', h1, h2⟩ := h.spot hBj
  rw [h1]
  exact BRel.mono h2 M.le_refl hle (fun _ _ _ _ => ⟨fun _ k => k, fun k => k⟩)
theorem SRel.move {M : Mem} {ρ : Env} {H : List ABlock} {w w' : World} (h : SRel M ρ H w) {b cb sh n : Nat} {B : ABlock} (hb : b < H.length)
  (hother : ∀ k, k ≠ cb -> k < w.heap.size -> w'.heap[k]? = w.heap[k]?) (hfree : (∀ o, M.cell cb o = none) /\ M.map cb = none) (hlt : cb < w'.heap.size) (hsz : w.heap.size <= w'.heap.size)
  (hcb : ∀ j cb' sh' n', j ≠ b -> ρ[j]? = some (.here cb' sh' n') -> cb' ≠ cb)
  (hB : BRel M (ρ.set b (.here cb sh n)) w' B (.here cb sh n)) (hBo : ∀ cs, B ≠ .obj cs) :
  SRel M (ρ.set b (.here cb sh n)) ((H.set b B).map (fgtB (· == b))) w' := by
 have hρ : ∀ j, (j == b) = false -> (ρ.set b (.here cb sh n))[j]? = ρ[j]? := fun j hj => Env.but_set ρ b _ j (by simpa using hj)
 have hmap : (H.set b B).map (fgtB (· == b)) = (H.map (fgtB (· == b))).set b B := by
  rw [List.map_set, fgtB_isObj hBo]
 rw [hmap]
 have h2 : SRel M ρ H w := h
 have hl := h.len
 refine ⟨by simp [hl], ?_, ?_, ?_, ?_, ?_⟩
 ·intro i B' r hB' hr
  rw [List.getElem?_set] at hB' hr
  by_cases e : b = i
  ·subst e
   rw [if_pos rfl, if_pos (by simpa using hb)] at hB'
   rw [if_pos rfl, if_pos (by omega)] at hr
   cases hB'; cases hr
   exact hB
  ·rw [if_neg e] at hB' hr
   rw [List.getElem?_map] at hB'
   cases hBi : H[i]? with
   | none => rw [hBi] at hB'; cases hB'
   | some Bi =>
    rw [hBi] at hB'; cases hB'
    have hk := (h.blk i Bi r hBi hr).fgt (p := (· == b)) hρ
    refine BRel.keep hk fun cb' sh' n' hr' => ?_
    subst hr'
    exact hother cb' (hcb i cb' sh' n' (fun h => e h.symm) hr) (h.lt i cb' sh' n' hr)
 ·intro i j c1 s1 n1 c2 s2 n2 hij h1 h2
  rw [List.getElem?_set] at h1 h2
  by_cases e1 : b = i
  ·subst e1
   rw [if_pos rfl, if_pos (by omega)] at h1
   rw [if_neg hij] at h2
   cases h1
   exact fun e => hcb j c2 s2 n2 (fun h => hij h.symm) h2 e.symm
  ·rw [if_neg e1] at h1
   by_cases e2 : b = j
   ·subst e2
    rw [if_pos rfl, if_pos (by omega)] at h2
    cases h2
    exact hcb i c1 s1 n1 (fun h => e1 h.symm) h1
   ·rw [if_neg e2] at h2
    exact h.inj i j c1 s1 n1 c2 s2 n2 hij h1 h2
 ·intro i c1 s1 n1 h1
  rw [List.getElem?_set] at h1
  by_cases e1 : b = i
  ·subst e1
   rw [if_pos rfl, if_pos (by omega)] at h1
   cases h1
   exact hlt
  ·rw [if_neg e1] at h1
   exact Nat.lt_of_lt_of_le (h.lt i c1 s1 n1 h1) hsz
 ·intro b' o v hv
  have hne : b' ≠ cb := fun e => by subst e; rw [hfree.1 o] at hv; cases hv
  rw [cell?_eq (hother b' hne (h.cell_lt hv))]
  exact h.cells b' o v hv
 ·intro b' es hv
  have hne : b' ≠ cb := fun e => by subst e; rw [hfree.2] at hv; cases hv
  rw [hother b' hne (h.map_lt hv)]; exact h.maps b' es hv
end Go.E

/- Each operation of the value semantics is borne out by the model: operands, and those that lay and write nothing. -/
namespace Go.E
open Go
theorem okConst1_rel {M : Mem} {ρ : Env} {v : LV} {x : Value} (h : okConst1 v x = true) (ht : v.isTup = false) : LRel M ρ v [x] /\ v.isAgg = false := by
 unfold okConst1 at h
 split at h
 ·have e := eq_of_beq h; subst e; exact ⟨by simp only [LRel, CRel], rfl⟩
 ·simp only [Bool.and_eq_true, beq_iff_eq] at h
  obtain ⟨rfl, rfl⟩ := h; exact ⟨by simp only [LRel, CRel], rfl⟩
 ·have e := of_decide_eq_true h; subst e; exact ⟨by simp only [LRel, CRel], rfl⟩
 ·exact ⟨by simp only [LRel, CRel], rfl⟩
 ·exact ⟨by simp only [LRel, CRel], rfl⟩
 ·exact ⟨by simp only [LRel, CRel]; exact ⟨none, rfl, .inl ⟨rfl, by simp, by simp⟩⟩, rfl⟩
 ·refine ⟨?_, rfl⟩
  simp only [LRel]
  exact ⟨none, 0, rfl, by simp only [CRel]; exact ⟨none, 0, 0, rfl, rfl, Nat.le_refl _, by simp [maxLen], .inl (by simp)⟩⟩
 ·exact ⟨by simp only [LRel, CRel]; exact ⟨none, 0, 0, rfl, rfl, Nat.le_refl _, by simp [maxLen], .inl (by simp)⟩, rfl⟩
 ·refine ⟨?_, rfl⟩
  simp only [LRel]
  intro u hu
  simp only [List.mem_singleton] at hu
  subst hu; exact h
 ·rename_i vs
  have e : vs = #[] := by simpa using h
  cases ht
 ·cases h
theorem okConstL_rel {M : Mem} {ρ : Env} : ∀ (cs : List LV) (vs : List Value), okConstL cs vs = true -> LRelC M ρ cs (ones vs)
 | [], [], _ => by simp [LRelC]
 | [], _ :: _, h => by simp [okConstL] at h
 | _ :: _, [], h => by simp [okConstL] at h
 | c :: cs, v :: vs, h => by
  simp only [okConstL, Bool.and_eq_true, Bool.not_eq_true'] at h
  simp only [ones_cons, LRelC]
  exact ⟨[v], ones vs, rfl, (okConst1_rel h.1.1 h.1.2).1, okConstL_rel cs vs h.2⟩
theorem okConst_rel {M : Mem} {ρ : Env} (v : LV) (x : Value) (h : okConst v x = true) : LVal M ρ v x := by
 unfold okConst at h
 split at h
 ·rename_i cs vs
  have := okConstL_rel (M := M) (ρ := ρ) cs vs.toList h
  simpa using lval_agg this
 ·cases ht : v.isTup with
  | false =>
   obtain ⟨h1, h2⟩ := okConst1_rel (M := M) (ρ := ρ) h ht
   exact lval_of_one h1 h2
  | true =>
   cases v with
   | tup vs =>
    cases vs with
    | cons => simp [okConst1] at h
    | nil =>
     cases x <;> simp [okConst1] at h
     subst h
     exact lval_tup (xs := []) rfl
   | _ => cases ht
theorem FRel.fget {M : Mem} {ρ : Env} : ∀ {fr : List LV} {xs : List Value} (n : Nat), FRel M ρ fr xs -> LVal M ρ (fget fr n) (xs.getD n undef)
 | [], _, _, _ => lval_any
 | v :: vs, xs, 0, h => by obtain ⟨y, ys, rfl, h1, _⟩ := h; simpa [Go.E.fget] using h1
 | v :: vs, xs, n + 1, h => by obtain ⟨y, ys, rfl, _, h2⟩ := h; simpa [Go.E.fget] using h2.fget n
theorem FRel.fset {M : Mem} {ρ : Env} : ∀ {fr : List LV} {xs : List Value} (n : Nat) {v : LV} {x : Value}, FRel M ρ fr xs -> LVal M ρ v x -> FRel M ρ (fset fr n v) (xs.set n x)
 | [], xs, n, v, x, h, _ => by simp [FRel] at h; subst h; simp [Go.E.fset, FRel]
 | d :: vs, xs, 0, v, x, h, k => by obtain ⟨y, ys, rfl, _, h2⟩ := h; exact ⟨x, ys, rfl, k, h2⟩
 | d :: vs, xs, n + 1, v, x, h, k => by obtain ⟨y, ys, rfl, h1, h2⟩ := h; exact ⟨y, ys.set n x, rfl, h1, h2.fset n k⟩
theorem okX_rel {M : Mem} {ρ : Env} {fr : List LV} {a : Act} (hf : FRel M ρ fr a.tmps.toList) {x : AX} {y : Operand} (h : okX x y = true) : LVal M ρ (x.ev fr) (a.eval y) := by
 unfold okX at h
 split at h
 next n m =>
  have e : n = m := by simpa using h
  subst e
  have hk := hf.fget n
  simpa [AX.ev, Act.eval, Array.getD_eq_getD_getElem?, List.getD_eq_getElem?_getD] using hk
 next f g =>
  have e : f = g := by simpa using h
  subst e
  rw [AX.ev, lval_s]
  exact vrel_of_one (by simp only [CRel]; exact ⟨[], [], rfl, by simp [CRelC], by simp [CRelC]⟩) rfl
 next => exact lval_any
 next => exact okConst_rel _ _ h
 next => cases h
theorem okXs_rel {M : Mem} {ρ : Env} {fr : List LV} {a : Act} (hf : FRel M ρ fr a.tmps.toList) : ∀ {xs : List AX} {ys : List Operand}, okXs xs ys = true -> FRel M ρ (xs.map (·.ev fr)) (ys.map a.eval)
 | [], [], _ => rfl
 | [], _ :: _, h => by simp [okXs] at h
 | _ :: _, [], h => by simp [okXs] at h
 | x :: xs, y :: ys, h => by
  simp only [okXs, Bool.and_eq_true] at h
  exact ⟨_, _, rfl, okX_rel hf h.1, okXs_rel hf h.2⟩
def killV : Option Nat -> LV -> LV
 | none, v => v
 | some b, v => fgt (· == b) v
def killH : Option Nat -> List ABlock -> List ABlock
 | none, H => H
 | some b, H => H.map (fgtB (· == b))
def Nxt (A : Nat -> Obj -> Prop) (n0 : Nat) (M0 : Mem) (ρ0 : Env) (w0 : World) (M : Mem) (ρ : Env) (id : Nat) (v : LV) (H' : List ABlock) (kl : Option Nat) (x : Value) (w' : World) : Prop :=
 ∃ M' ρ', MInv A n0 M0 ρ0 w0 M' ρ' (killH kl H') w' /\ (∀ (j : Nat), j ≠ id -> ρ[j]? = some Spot.gone -> ρ'[j]? = some Spot.gone) /\ (∀ u y, LVal M ρ u y -> LVal M' ρ' (killV kl u) y) /\ LVal M' ρ' v x
section
variable {P : Program} {A : Nat -> Obj -> Prop} {dfs : List Deferred} {n0 : Nat} {M0 : Mem} {ρ0 : Env} {w0 : World} {M : Mem} {ρ : Env} {H : List ABlock} {w : World} {o : Oper} {a : Act} {K : Act -> World -> Prop} {Q : Exit -> Act -> World -> Prop}
theorem nxt_same {id : Nat} (hI : MInv A n0 M0 ρ0 w0 M ρ H w) {v : LV} {x : Value} (h : LVal M ρ v x) : Nxt A n0 M0 ρ0 w0 M ρ id v H none x w := ⟨M, ρ, hI, fun _ _ h => h, fun _ _ k => k, h⟩
theorem wp_value {x : Value} {w' : World} (h : (execOp a.eval o).run P w = .ok (.value x) w') (hk : K (a.put o.dst x) w') : o.wp P a w K Q := by
 unfold Oper.wp; rw [h]; exact hk
theorem wp_skip' {w' : World} (h : (execOp a.eval o).run P w = .ok .skip w') (hk : K (a.put o.dst undef) w') : o.wp P a w K Q := by
 unfold Oper.wp; rw [h]; exact hk
theorem aggTy_run {t : TypeId} {b : Bool} (h : aggTy P t = some b) (w : World) : (isAgg t).run P w = .ok b w := by
 unfold aggTy at h
 cases hu : P.underlying t with
 | none => rw [hu] at h; cases h
 | some d => rw [hu] at h; cases d <;> simp at h <;> subst h <;> simp [isAgg, run_underlying hu]
theorem szTy_run {t : TypeId} {n : Nat} (h : szTy P t = some n) (w : World) : (sizeOf t).run P w = .ok n w := by
 unfold szTy at h
 cases hu : P.info? t with
 | none => rw [hu] at h; cases h
 | some d => rw [hu] at h; simp at h; subst h; simp [sizeOf, typeInfo, hu]
theorem run_loadVar_agg {t : TypeId} {b o : Nat} {us : List Value} (ha : aggTy P t = some true) (hs : szTy P t = some us.length) (w : World) (h : ∀ j v, us[j]? = some v -> w.cell? ⟨b, o + j, none⟩ = some v) :
  (loadVar t ⟨b, o, none⟩).run P w = .ok (.agg us.toArray) w := by
 have hc := run_loadCells_list (P := P) w ⟨b, o, none⟩ us (fun j v hv => by rw [Addr.add_lit]; exact h j v hv)
 simp [loadVar, aggTy_run ha, szTy_run hs, hc]
theorem run_loadVar_one {t : TypeId} {b o : Nat} {u : Value} (ha : aggTy P t = some false) (w : World) (h : w.cell? ⟨b, o, none⟩ = some u) :
  (loadVar t ⟨b, o, none⟩).run P w = .ok u w := by
 simp [loadVar, aggTy_run ha, h]
end
end Go.E

/- Each operation of the value semantics is borne out by the model: those that lay and write nothing. -/
namespace Go.E
open Go
section inversion
variable {P : Program} {o : Op}
theorem inv_mov {x : AX} (h : okOp P (.mov x) o = true) : ∃ y, (o = .move y \/ o = .assign y) /\ okX x y = true := by
 cases o <;> first | exact ⟨_, .inl rfl, h⟩ | exact ⟨_, .inr rfl, h⟩ | exact Bool.noConfusion (show false = true from h)
theorem inv_pick {c a b : AX} (h : okOp P (.pick c a b) o = true) : ∃ c' a' b', o = .pick c' a' b' /\ okX c c' = true /\ okX a a' = true /\ okX b b' = true := by
 cases o <;> first | exact Bool.noConfusion (show false = true from h) | (simp only [okOp, Bool.and_eq_true] at h; exact ⟨_, _, _, rfl, h.1.1, h.1.2, h.2⟩)
theorem inv_load {n : Nat} {g : Bool} {x : AX} (h : okOp P (.load n g x) o = true) : ∃ t y, o = .load t y /\ okX x y = true /\ aggTy P t = some g /\ szTy P t = some n /\ (g = true \/ n = 1) := by
 cases o <;> first | exact Bool.noConfusion (show false = true from h) | (simp only [okOp, Bool.and_eq_true, beq_iff_eq, Bool.or_eq_true] at h; exact ⟨_, _, rfl, h.1.1.1, h.1.1.2, h.1.2, h.2⟩)
theorem inv_nilck {x : AX} (h : okOp P (.nilck x) o = true) : ∃ y, o = .nilCheck y /\ okX x y = true := by
 cases o <;> first | exact Bool.noConfusion (show false = true from h) | exact ⟨_, rfl, h⟩
theorem inv_boxS {x : AX} (h : okOp P (.boxS x) o = true) : ∃ t y, o = .box t y /\ okX x y = true := by
 cases o <;> first | exact Bool.noConfusion (show false = true from h) | exact ⟨_, _, rfl, h⟩
theorem inv_not {x : AX} (h : okOp P (.not x) o = true) : ∃ t y, o = .unOp .not t y /\ okX x y = true := by
 cases o <;> try exact Bool.noConfusion (show false = true from h)
 rename_i u t y
 cases u <;> first | exact Bool.noConfusion (show false = true from h) | exact ⟨_, _, rfl, h⟩
theorem inv_neg {x : AX} (h : okOp P (.neg x) o = true) : ∃ t y, o = .unOp .neg t y /\ okX x y = true := by
 cases o <;> try exact Bool.noConfusion (show false = true from h)
 rename_i u t y
 cases u <;> first | exact Bool.noConfusion (show false = true from h) | exact ⟨_, _, rfl, h⟩
theorem inv_conv {k : IntKind} {x : AX} (h : okOp P (.conv k x) o = true) : ∃ s d y d', o = .convert s d y /\ okX x y = true /\ P.underlying s = some d' /\ P.underlying d = some (.int k) := by
 cases o <;> first | exact Bool.noConfusion (show false = true from h) | skip
 rename_i s d y
 simp only [okOp, Bool.and_eq_true, Option.isSome_iff_exists] at h
 obtain ⟨⟨h1, d', h2⟩, h3⟩ := h
 split at h3
 ·rename_i k' hk; have e := of_decide_eq_true h3; subst e; exact ⟨s, d, y, d', rfl, h1, h2, hk⟩
 ·cases h3
theorem inv_fieldAddr {off : Nat} {x : AX} (h : okOp P (.fieldAddr off x) o = true) : ∃ t y i n ft, o = .fieldAddr t y i /\ okX x y = true /\ fieldOf P t i = some (off, n, ft) /\ n ≠ 0 := by
 cases o <;> first | exact Bool.noConfusion (show false = true from h) | skip
 rename_i t y i
 simp only [okOp, Bool.and_eq_true] at h
 obtain ⟨h1, h2⟩ := h
 split at h2
 ·rename_i o' n ft hk
  simp only [Bool.and_eq_true, beq_iff_eq, bne_iff_ne] at h2
  obtain ⟨rfl, h3⟩ := h2
  exact ⟨t, y, i, n, ft, rfl, h1, hk, h3⟩
 ·cases h2
theorem inv_field {off n : Nat} {g : Bool} {x : AX} (h : okOp P (.field off n g x) o = true) : ∃ t y i ft, o = .field t y i /\ okX x y = true /\ fieldOf P t i = some (off, n, ft) /\ aggTy P ft = some g := by
 cases o <;> first | exact Bool.noConfusion (show false = true from h) | skip
 rename_i t y i
 simp only [okOp, Bool.and_eq_true] at h
 obtain ⟨h1, h2⟩ := h
 split at h2
 ·rename_i o' m ft hk
  simp only [Bool.and_eq_true, beq_iff_eq] at h2
  obtain ⟨⟨rfl, rfl⟩, h3⟩ := h2
  exact ⟨t, y, i, ft, rfl, h1, hk, h3⟩
 ·cases h2
theorem inv_idxA {sz : Nat} {x i : AX} (h : okOp P (.idxA sz x i) o = true) : ∃ t y j, o = .indexAddr t y j /\ okX x y = true /\ okX i j = true /\ slSz P t = some sz := by
 cases o <;> first | exact Bool.noConfusion (show false = true from h) | (simp only [okOp, Bool.and_eq_true, beq_iff_eq] at h; exact ⟨_, _, _, rfl, h.1.1, h.1.2, h.2⟩)
theorem inv_idxArrA {n sz : Nat} {x i : AX} (h : okOp P (.idxArrA n sz x i) o = true) : ∃ t y j, o = .indexAddr t y j /\ okX x y = true /\ okX i j = true /\ arrSz P t = some (n, sz) := by
 cases o <;> first | exact Bool.noConfusion (show false = true from h) | (simp only [okOp, Bool.and_eq_true, beq_iff_eq] at h; exact ⟨_, _, _, rfl, h.1.1, h.1.2, h.2⟩)
theorem inv_idx {n sz : Nat} {g : Bool} {x i : AX} (h : okOp P (.idx n sz g x i) o = true) : ∃ t y j e ie, o = .index t y j /\ okX x y = true /\ okX i j = true /\ P.underlying t = some (.array n e) /\ P.info? e = some ie /\ ie.size = sz /\ aggTy P e = some g := by
 cases o <;> first | exact Bool.noConfusion (show false = true from h) | skip
 rename_i t y j
 simp only [okOp, Bool.and_eq_true, beq_iff_eq] at h
 obtain ⟨⟨⟨h1, h2⟩, h3⟩, h4⟩ := h
 split at h4
 ·rename_i m e hu
  simp only [arrSz, hu] at h3
  cases hi : P.info? e with
  | none => rw [hi] at h3; cases h3
  | some ie => rw [hi] at h3; simp at h3; obtain ⟨rfl, rfl⟩ := h3; exact ⟨t, y, j, e, ie, rfl, h1, h2, hu, hi, rfl, by simpa using h4⟩
 ·cases h4
theorem inv_ext {x : AX} {j : Nat} (h : okOp P (.ext x j) o = true) : ∃ y, o = .extract y j /\ okX x y = true := by
 cases o <;> first | exact Bool.noConfusion (show false = true from h) | (simp only [okOp, Bool.and_eq_true, beq_iff_eq] at h; obtain ⟨h1, rfl⟩ := h; exact ⟨_, rfl, h1⟩)
theorem inv_mkfn {f : FuncId} {first caps : List AX} (h : okOp P (.mkfn f first caps) o = true) : ∃ fs cs, o = .makeFunc (.func f) fs cs /\ okXs first fs.toList = true /\ okXs caps cs.toList = true := by
 cases o <;> try exact Bool.noConfusion (show false = true from h)
 rename_i g fs cs
 cases g <;> first | exact Bool.noConfusion (show false = true from h) | (simp only [okOp, Bool.and_eq_true, beq_iff_eq] at h; obtain ⟨⟨rfl, h1⟩, h2⟩ := h; exact ⟨_, _, rfl, h1, h2⟩)
theorem inv_arith {op : BinOp} {x y : AX} (h : okOp P (.arith op x y) o = true) : ∃ t x' y' u, o = .binOp op t x' y' u /\ okX x x' = true /\ okX y y' = true := by
 cases o <;> first | exact Bool.noConfusion (show false = true from h) | (simp only [okOp, Bool.and_eq_true, decide_eq_true_eq] at h; obtain ⟨⟨⟨rfl, h1⟩, h2⟩, _⟩ := h; exact ⟨_, _, _, _, rfl, h1, h2⟩)
theorem inv_cmp {op : BinOp} {x y : AX} (h : okOp P (.cmp op x y) o = true) : ∃ t x' y' u, o = .binOp op t x' y' u /\ okX x x' = true /\ okX y y' = true := by
 cases o <;> first | exact Bool.noConfusion (show false = true from h) | (simp only [okOp, Bool.and_eq_true, decide_eq_true_eq] at h; obtain ⟨⟨⟨rfl, h1⟩, h2⟩, _⟩ := h; exact ⟨_, _, _, _, rfl, h1, h2⟩)
theorem inv_bits {op : BinOp} {x y : AX} (h : okOp P (.bits op x y) o = true) : ∃ t x' y' u, o = .binOp op t x' y' u /\ okX x x' = true /\ okX y y' = true /\ (op = .and \/ op = .or \/ op = .xor \/ op = .andNot) := by
 cases o <;> first | exact Bool.noConfusion (show false = true from h) | (simp only [okOp, Bool.and_eq_true, decide_eq_true_eq] at h; obtain ⟨⟨⟨rfl, h1⟩, h2⟩, h3⟩ := h; exact ⟨_, _, _, _, rfl, h1, h2, by cases op <;> simp at h3 ⊢⟩)
theorem inv_div {op : BinOp} {x y : AX} (h : okOp P (.div op x y) o = true) : ∃ t x' y' u, o = .binOp op t x' y' u /\ okX x x' = true /\ okX y y' = true := by
 cases o <;> first | exact Bool.noConfusion (show false = true from h) | (simp only [okOp, Bool.and_eq_true, decide_eq_true_eq] at h; obtain ⟨⟨⟨rfl, h1⟩, h2⟩, _⟩ := h; exact ⟨_, _, _, _, rfl, h1, h2⟩)
theorem inv_shift {op : BinOp} {x y : AX} (h : okOp P (.shift op x y) o = true) : ∃ t x' y' u, o = .binOp op t x' y' u /\ okX x x' = true /\ okX y y' = true := by
 cases o <;> first | exact Bool.noConfusion (show false = true from h) | (simp only [okOp, Bool.and_eq_true, decide_eq_true_eq] at h; obtain ⟨⟨⟨rfl, h1⟩, h2⟩, _⟩ := h; exact ⟨_, _, _, _, rfl, h1, h2⟩)
end inversion
section
variable {P : Program} {A : Nat -> Obj -> Prop} {dfs : List Deferred} {M0 : Mem} {ρ0 : Env} {w0 : World} {M : Mem} {ρ : Env} {H : List ABlock} {w : World} {o : Oper} {a : Act} {K : Act -> World -> Prop} {Q : Exit -> Act -> World -> Prop} {fr : List LV} {k : AK} {n0 id : Nat}
theorem lrel_int {v : LV} {x : Value} {K : IntKind} {n : Int} (hv : v = .s (.int K n)) (h : LVal M ρ v x) : x = .int K n := by
 subst hv; rw [lval_s] at h; have := h.one rfl; simpa [CRel] using this
theorem lrel_bool {v : LV} {x : Value} {b : Bool} (hv : v = .s (.bool b)) (h : LVal M ρ v x) : x = .bool b := by
 subst hv; rw [lval_s] at h; have := h.one rfl; simpa [CRel] using this
theorem lval_int {K : IntKind} {n : Int} : LVal M ρ (.s (.int K n)) (.int K n) := by rw [lval_s]; exact vrel_of_one (by simp [CRel]) rfl
theorem lval_bool {b : Bool} : LVal M ρ (.s (.bool b)) (.bool b) := by rw [lval_s]; exact vrel_of_one (by simp [CRel]) rfl
theorem snd_mov (hI : MInv A n0 M0 ρ0 w0 M ρ H w) (hf : FRel M ρ fr a.tmps.toList) {x : AX} (hok : okOp P (.mov x) o.op = true) (h : aop P n0 id fr H (.mov x) k)
  (hK : ∀ v H' kl f x w', k v H' kl f -> f -> Nxt A n0 M0 ρ0 w0 M ρ id v H' kl x w' -> K (a.put o.dst x) w') : o.wp P a w K Q := by
 obtain ⟨y, hy, hx⟩ := inv_mov hok
 refine wp_value (x := a.eval y) (w' := w) ?_ (hK _ _ _ _ _ _ h trivial (nxt_same hI (okX_rel hf hx)))
 rcases hy with hy | hy <;> simp [execOp, hy]
theorem snd_pick (hI : MInv A n0 M0 ρ0 w0 M ρ H w) (hf : FRel M ρ fr a.tmps.toList) {c x y : AX} (hok : okOp P (.pick c x y) o.op = true) (h : aop P n0 id fr H (.pick c x y) k)
  (hK : ∀ v H' kl f x w', k v H' kl f -> f -> Nxt A n0 M0 ρ0 w0 M ρ id v H' kl x w' -> K (a.put o.dst x) w') : o.wp P a w K Q := by
 obtain ⟨c', x', y', ho, hc, hx, hy⟩ := inv_pick hok
 simp only [aop] at h
 have hcr := okX_rel hf hc
 generalize hcv : c.ev fr = cv at h hcr
 unfold pickK at h
 split at h
 next t =>
  have hb := lrel_bool rfl hcr
  cases t with
  | true =>
   refine wp_value (x := a.eval x') (w' := w) ?_ (hK _ _ _ _ _ _ h trivial (nxt_same hI (okX_rel hf hx)))
   simp [execOp, ho, hb, asBool]
  | false =>
   refine wp_value (x := a.eval y') (w' := w) ?_ (hK _ _ _ _ _ _ h trivial (nxt_same hI (okX_rel hf hy)))
   simp [execOp, ho, hb, asBool]
 next => cases h
theorem snd_not (hI : MInv A n0 M0 ρ0 w0 M ρ H w) (hf : FRel M ρ fr a.tmps.toList) {x : AX} (hok : okOp P (.not x) o.op = true) (h : aop P n0 id fr H (.not x) k)
  (hK : ∀ v H' kl f x w', k v H' kl f -> f -> Nxt A n0 M0 ρ0 w0 M ρ id v H' kl x w' -> K (a.put o.dst x) w') : o.wp P a w K Q := by
 obtain ⟨t, y, ho, hx⟩ := inv_not hok
 simp only [aop] at h
 have hr := okX_rel hf hx
 generalize x.ev fr = v at h hr
 unfold notK at h
 split at h
 next b =>
  have hb := lrel_bool rfl hr
  refine wp_value (x := .bool (!b)) (w' := w) ?_ (hK _ _ _ _ _ _ h trivial (nxt_same hI lval_bool))
  simp [execOp, ho, hb, Op.unary]
 next => cases h
theorem snd_neg (hI : MInv A n0 M0 ρ0 w0 M ρ H w) (hf : FRel M ρ fr a.tmps.toList) {x : AX} (hok : okOp P (.neg x) o.op = true) (h : aop P n0 id fr H (.neg x) k)
  (hK : ∀ v H' kl f x w', k v H' kl f -> f -> Nxt A n0 M0 ρ0 w0 M ρ id v H' kl x w' -> K (a.put o.dst x) w') : o.wp P a w K Q := by
 obtain ⟨t, y, ho, hx⟩ := inv_neg hok
 simp only [aop] at h
 have hr := okX_rel hf hx
 generalize x.ev fr = v at h hr
 unfold negK at h
 split at h
 next K n =>
  obtain ⟨h1, h2⟩ := h
  have hb := lrel_int rfl hr
  refine wp_value (x := .int K (-n)) (w' := w) ?_ (hK _ _ _ _ _ _ h2 trivial (nxt_same hI lval_int))
  unfold inR at h1
  simp only [Int.zero_sub] at h1
  simp [execOp, ho, hb, Op.unary, Op.intArith, h1]
 next => cases h
theorem snd_conv (hI : MInv A n0 M0 ρ0 w0 M ρ H w) (hf : FRel M ρ fr a.tmps.toList) {kd : IntKind} {x : AX} (hok : okOp P (.conv kd x) o.op = true) (h : aop P n0 id fr H (.conv kd x) k)
  (hK : ∀ v H' kl f x w', k v H' kl f -> f -> Nxt A n0 M0 ρ0 w0 M ρ id v H' kl x w' -> K (a.put o.dst x) w') : o.wp P a w K Q := by
 obtain ⟨s, d, y, d', ho, hx, hs, hd⟩ := inv_conv hok
 simp only [aop] at h
 have hr := okX_rel hf hx
 generalize x.ev fr = v at h hr
 unfold convK at h
 split at h
 next K n =>
  obtain ⟨h1, h2⟩ := h
  have hb := lrel_int rfl hr
  refine wp_value (x := .int kd n) (w' := w) ?_ (hK _ _ _ _ _ _ h2 trivial (nxt_same hI lval_int))
  unfold inR at h1
  simp [execOp, ho, hb, convert, run_underlying hs, run_underlying hd, Conv.intToInt, h1]
 next => cases h
theorem eqGuard_int {op : BinOp} {t : TypeId} {x y : Operand} {K K' : IntKind} {a b : Int} (w : World) : (eqGuard op t x y (.int K a) (.int K' b)).run P w = .ok () w := by
 unfold eqGuard
 split <;> simp
theorem snd_arith (hI : MInv A n0 M0 ρ0 w0 M ρ H w) (hf : FRel M ρ fr a.tmps.toList) {op : BinOp} {x y : AX} (hok : okOp P (.arith op x y) o.op = true) (h : aop P n0 id fr H (.arith op x y) k)
  (hK : ∀ v H' kl f x w', k v H' kl f -> f -> Nxt A n0 M0 ρ0 w0 M ρ id v H' kl x w' -> K (a.put o.dst x) w') : o.wp P a w K Q := by
 obtain ⟨t, x', y', u, ho, hx, hy⟩ := inv_arith hok
 simp only [aop] at h
 have hr := okX_rel hf hx
 have hr' := okX_rel hf hy
 generalize x.ev fr = v at h hr
 generalize y.ev fr = v' at h hr'
 unfold arithK at h
 split at h
 next K m K' n =>
  obtain ⟨rfl, h⟩ := h
  have hb := lrel_int rfl hr
  have hb' := lrel_int rfl hr'
  cases op <;> simp only [arithI] at h
  case add =>
   refine wp_value (x := .int K (m + n)) (w' := w) ?_ (hK _ _ _ _ _ _ h.2 trivial (nxt_same hI lval_int))
   have h1 := h.1; unfold inR at h1
   simp [execOp, ho, hb, hb', eqGuard_int, binOp, Op.intArith, h1]
  case sub =>
   refine wp_value (x := .int K (m - n)) (w' := w) ?_ (hK _ _ _ _ _ _ h.2 trivial (nxt_same hI lval_int))
   have h1 := h.1; unfold inR at h1
   simp [execOp, ho, hb, hb', eqGuard_int, binOp, Op.intArith, h1]
  case mul =>
   refine wp_value (x := .int K (m * n)) (w' := w) ?_ (hK _ _ _ _ _ _ h.2 trivial (nxt_same hI lval_int))
   have h1 := h.1; unfold inR at h1
   simp [execOp, ho, hb, hb', eqGuard_int, binOp, Op.intArith, h1]
 next => cases h
theorem snd_cmp (hI : MInv A n0 M0 ρ0 w0 M ρ H w) (hf : FRel M ρ fr a.tmps.toList) {op : BinOp} {x y : AX} (hok : okOp P (.cmp op x y) o.op = true) (h : aop P n0 id fr H (.cmp op x y) k)
  (hK : ∀ v H' kl f x w', k v H' kl f -> f -> Nxt A n0 M0 ρ0 w0 M ρ id v H' kl x w' -> K (a.put o.dst x) w') : o.wp P a w K Q := by
 obtain ⟨t, x', y', u, ho, hx, hy⟩ := inv_cmp hok
 simp only [aop] at h
 have hr := okX_rel hf hx
 have hr' := okX_rel hf hy
 generalize x.ev fr = v at h hr
 generalize y.ev fr = v' at h hr'
 unfold cmpK at h
 split at h
 next K m K' n =>
  obtain ⟨rfl, h⟩ := h
  have hb := lrel_int rfl hr
  have hb' := lrel_int rfl hr'
  cases op <;> simp only [cmpI] at h
  case eql =>
   refine wp_value (x := .bool (decide (m = n))) (w' := w) ?_ (hK _ _ _ _ _ _ h trivial (nxt_same hI lval_bool))
   have hbe : (m == n) = decide (m = n) := by rw [Bool.eq_iff_iff]; simp
   simp [execOp, ho, hb, hb', eqGuard_int, binOp, Op.intCmp, hbe]
  case neq =>
   refine wp_value (x := .bool (!decide (m = n))) (w' := w) ?_ (hK _ _ _ _ _ _ h trivial (nxt_same hI lval_bool))
   have hbe : (m == n) = decide (m = n) := by rw [Bool.eq_iff_iff]; simp
   simp [execOp, ho, hb, hb', eqGuard_int, binOp, Op.intCmp, bne, hbe]
  all_goals
   refine wp_value (x := .bool _) (w' := w) ?_ (hK _ _ _ _ _ _ h trivial (nxt_same hI lval_bool))
   simp [execOp, ho, hb, hb', eqGuard_int, binOp, Op.intCmp]
 next => cases h
theorem snd_div (hI : MInv A n0 M0 ρ0 w0 M ρ H w) (hf : FRel M ρ fr a.tmps.toList) {op : BinOp} {x y : AX} (hok : okOp P (.div op x y) o.op = true) (h : aop P n0 id fr H (.div op x y) k)
  (hK : ∀ v H' kl f x w', k v H' kl f -> f -> Nxt A n0 M0 ρ0 w0 M ρ id v H' kl x w' -> K (a.put o.dst x) w') : o.wp P a w K Q := by
 obtain ⟨t, x', y', u, ho, hx, hy⟩ := inv_div hok
 simp only [aop] at h
 have hr := okX_rel hf hx
 have hr' := okX_rel hf hy
 generalize x.ev fr = v at h hr
 generalize y.ev fr = v' at h hr'
 unfold divK at h
 split at h
 next K m K' n =>
  obtain ⟨rfl, h0, h⟩ := h
  have hb := lrel_int rfl hr
  have hb' := lrel_int rfl hr'
  cases op <;> simp only [divI] at h
  case quo =>
   refine wp_value (x := .int K (m.tdiv n)) (w' := w) ?_ (hK _ _ _ _ _ _ h.2 trivial (nxt_same hI lval_int))
   have h1 := h.1; unfold inR at h1
   simp [execOp, ho, hb, hb', eqGuard_int, binOp, Op.intDiv, h0, h1]
  case rem =>
   refine wp_value (x := .int K (m.tmod n)) (w' := w) ?_ (hK _ _ _ _ _ _ h trivial (nxt_same hI lval_int))
   simp [execOp, ho, hb, hb', eqGuard_int, binOp, Op.intDiv, h0]
 next => cases h
theorem snd_bits (hI : MInv A n0 M0 ρ0 w0 M ρ H w) (hf : FRel M ρ fr a.tmps.toList) {op : BinOp} {x y : AX} (hok : okOp P (.bits op x y) o.op = true) (h : aop P n0 id fr H (.bits op x y) k)
  (hK : ∀ v H' kl f x w', k v H' kl f -> f -> Nxt A n0 M0 ρ0 w0 M ρ id v H' kl x w' -> K (a.put o.dst x) w') : o.wp P a w K Q := by
 obtain ⟨t, x', y', u, ho, hx, hy, hop⟩ := inv_bits hok
 simp only [aop] at h
 have hr := okX_rel hf hx
 have hr' := okX_rel hf hy
 generalize x.ev fr = v at h hr
 generalize y.ev fr = v' at h hr'
 unfold bitsK at h
 split at h
 next K m K' n =>
  obtain ⟨rfl, h⟩ := h
  have hb := lrel_int rfl hr
  have hb' := lrel_int rfl hr'
  refine wp_value (x := .int K (bitOf K m n op)) (w' := w) ?_ (hK _ _ _ _ _ _ h trivial (nxt_same hI lval_int))
  rcases hop with rfl | rfl | rfl | rfl <;> simp [execOp, ho, hb, hb', eqGuard_int, binOp, Op.intBits, bitOf]
 next => cases h
theorem snd_shift (hI : MInv A n0 M0 ρ0 w0 M ρ H w) (hf : FRel M ρ fr a.tmps.toList) {op : BinOp} {x y : AX} (hok : okOp P (.shift op x y) o.op = true) (h : aop P n0 id fr H (.shift op x y) k)
  (hK : ∀ v H' kl f x w', k v H' kl f -> f -> Nxt A n0 M0 ρ0 w0 M ρ id v H' kl x w' -> K (a.put o.dst x) w') : o.wp P a w K Q := by
 obtain ⟨t, x', y', u, ho, hx, hy⟩ := inv_shift hok
 simp only [aop] at h
 have hr := okX_rel hf hx
 have hr' := okX_rel hf hy
 generalize x.ev fr = v at h hr
 generalize y.ev fr = v' at h hr'
 unfold shiftK at h
 split at h
 next K m K' n =>
  obtain ⟨h0, hlt, h⟩ := h
  have hb := lrel_int rfl hr
  have hb' := lrel_int rfl hr'
  have hn : ¬ n < 0 := by omega
  have hmin : min n.toNat K.bits = n.toNat := by omega
  cases op <;> simp only [shiftI] at h
  case shl =>
   refine wp_value (x := .int K (m * 2 ^ n.toNat)) (w' := w) ?_ (hK _ _ _ _ _ _ h.2 trivial (nxt_same hI lval_int))
   have h1 := h.1; unfold inR at h1
   simp [execOp, ho, hb, hb', eqGuard_int, binOp, Op.shift, hn, hmin, h1]
  case shr =>
   refine wp_value (x := .int K (m.fdiv (2 ^ n.toNat))) (w' := w) ?_ (hK _ _ _ _ _ _ h trivial (nxt_same hI lval_int))
   simp [execOp, ho, hb, hb', eqGuard_int, binOp, Op.shift, hn, hmin]
 next => cases h
theorem snd_nilck (hI : MInv A n0 M0 ρ0 w0 M ρ H w) (hf : FRel M ρ fr a.tmps.toList) {x : AX} (hok : okOp P (.nilck x) o.op = true) (h : aop P n0 id fr H (.nilck x) k)
  (hK : ∀ v H' kl f x w', k v H' kl f -> f -> Nxt A n0 M0 ρ0 w0 M ρ id v H' kl x w' -> K (a.put o.dst x) w') : o.wp P a w K Q := by
 obtain ⟨y, ho, hx⟩ := inv_nilck hok
 simp only [aop] at h
 have hr := okX_rel hf hx
 generalize x.ev fr = v at h hr
 unfold nilckK at h
 split at h
 next cs =>
  have hr1 := hr
  rw [lval_s] at hr1
  have h1 := hr1.one rfl
  simp only [CRel] at h1
  obtain ⟨b, of, ws, e, _⟩ := h1
  refine wp_value (x := a.eval y) (w' := w) ?_ (hK _ _ _ _ _ _ h trivial (nxt_same hI hr))
  simp at e
  simp [execOp, ho, e]
 next b off =>
  have h1 := hr.one rfl (by simp)
  simp only [LRel] at h1
  obtain ⟨cb, sh, n, _, e⟩ := h1
  refine wp_value (x := a.eval y) (w' := w) ?_ (hK _ _ _ _ _ _ h trivial (nxt_same hI hr))
  simp at e
  simp [execOp, ho, e]
 next => cases h
theorem snd_ext (hI : MInv A n0 M0 ρ0 w0 M ρ H w) (hf : FRel M ρ fr a.tmps.toList) {x : AX} {j : Nat} (hok : okOp P (.ext x j) o.op = true) (h : aop P n0 id fr H (.ext x j) k)
  (hK : ∀ v H' kl f x w', k v H' kl f -> f -> Nxt A n0 M0 ρ0 w0 M ρ id v H' kl x w' -> K (a.put o.dst x) w') : o.wp P a w K Q := by
 obtain ⟨y, ho, hx⟩ := inv_ext hok
 simp only [aop] at h
 have hr := okX_rel hf hx
 generalize x.ev fr = v at h hr
 unfold extK at h
 split at h
 next vs =>
  obtain ⟨xs, e, hv⟩ := hr.tup
  unfold exO at h
  split at h
  next v hj =>
   have hget : ∀ {vs : List SV} {xs : List Value}, VRelL M vs xs -> ∀ {j : Nat} {v : SV}, vs[j]? = some v -> ∃ x, xs[j]? = some x /\ VRel M v x := by
    intro vs
    induction vs with
    | nil => intro xs _ j v hj; simp at hj
    | cons c cs ih =>
     intro xs h j v hj
     obtain ⟨y, ys, rfl, h1, h2⟩ := h
     cases j with
     | zero => simp at hj; subst hj; exact ⟨y, by simp, h1⟩
     | succ j => simp at hj; obtain ⟨z, h3, h4⟩ := ih h2 hj; exact ⟨z, by simpa using h3, h4⟩
   obtain ⟨z, hz, hzr⟩ := hget hv hj
   refine wp_value (x := z) (w' := w) ?_ (hK _ _ _ _ _ _ h trivial (nxt_same hI (lval_s.2 hzr)))
   simp [execOp, ho, e, Instr.extract, hz]
  next => cases h
 next => cases h
theorem isOne_rel {v : LV} {x : Value} (h : LVal M ρ v x) (ho : v.isOne = true) : LRel M ρ v [x] :=
 h.one (by cases v <;> simp_all [LV.isOne, LV.isAgg]) (by rintro rfl; simp [LV.isOne] at ho) (by cases v <;> simp_all [LV.isOne, LV.isTup])
theorem frel_lrelC : ∀ {vs : List LV} {xs : List Value}, FRel M ρ vs xs -> vs.all LV.isOne = true -> LRelC M ρ vs (ones xs)
 | [], xs, h, _ => by simp [FRel] at h; subst h; simp [LRelC]
 | v :: vs, xs, h, hn => by
  obtain ⟨y, ys, rfl, h1, h2⟩ := h
  simp only [List.all_cons, Bool.and_eq_true] at hn
  simp only [ones_cons, LRelC]
  exact ⟨[y], ones ys, rfl, isOne_rel h1 hn.1, frel_lrelC h2 hn.2⟩
end
end Go.E

/- Each operation of the value semantics is borne out by the model: those that read memory. -/
namespace Go.E
open Go
section
variable {P : Program} {A : Nat -> Obj -> Prop} {dfs : List Deferred} {M0 : Mem} {ρ0 : Env} {w0 : World} {M : Mem} {ρ : Env} {H : List ABlock} {w : World} {o : Oper} {a : Act} {K : Act -> World -> Prop} {Q : Exit -> Act -> World -> Prop} {fr : List LV} {k : AK} {n0 id : Nat}
theorem SRel.at_cells (h : SRel M ρ H w) {b o : Nat} {us : List Value} (k : M.At b o us) : ∀ j v, us[j]? = some v -> w.cell? ⟨b, o + j, none⟩ = some v := fun j v hj => h.cells b _ v (k j v hj)
theorem heap_cell? {c : Array Value} {T : TypeId} {f : Nat × Nat} {b : Nat} (h : w.heap[b]? = some (.cells c T f)) (j : Nat) : w.cell? ⟨b, j, none⟩ = c[j]? := by simp [World.cell?, h]
theorem At_take {b o n : Nat} {us : List Value} (h : M.At b o us) : M.At b o (us.take n) := fun j v hj => by
 rw [List.getElem?_take] at hj; split at hj
 ·exact h j v hj
 ·cases hj
theorem At_drop {b o n : Nat} {us : List Value} (h : M.At b o us) : M.At b (o + n) (us.drop n) := fun j v hj => by
 rw [List.getElem?_drop] at hj; have := h _ _ hj; rwa [<- Nat.add_assoc] at this
theorem load_part {t : TypeId} {g : Bool} {n cb of : Nat} {cs : List SV} {us : List Value} (hI : MInv A n0 M0 ρ0 w0 M ρ H w) (ha : aggTy P t = some g) (hs : szTy P t = some n) (hg : g = true \/ n = 1) (hc : CRelC M cs (ones us))
  (hw : ∀ j v, us[j]? = some v -> w.cell? ⟨cb, of + j, none⟩ = some v) {off : Nat} (h : partS H cs off n k g) {Kx : Value -> World -> Prop} (hK : ∀ v H' kl f x w', k v H' kl f -> f -> Nxt A n0 M0 ρ0 w0 M ρ id v H' kl x w' -> Kx x w') :
  ∃ x, (loadVar t ⟨cb, of + off, none⟩).run P w = .ok x w /\ Kx x w := by
 have hlen : us.length = cs.length := by have := hc.length; simpa using this
 cases g with
 | true =>
  simp only [partS] at h
  have hl : ((us.drop off).take n).length = n := by rw [List.length_take, List.length_drop]; omega
  refine ⟨.agg ((us.drop off).take n).toArray, ?_, hK _ _ _ _ _ _ h.2 trivial (nxt_same hI ?_)⟩
  ·refine run_loadVar_agg ha (by rw [hl]; exact hs) w fun j v hj => ?_
   rw [List.getElem?_take] at hj
   split at hj
   ·rw [List.getElem?_drop] at hj
    have := hw _ v hj
    rw [<- Nat.add_assoc] at this
    exact this
   ·cases hj
  ·rw [lval_s]
   exact ⟨(us.drop off).take n, by simp only [CRel, ones_take, ones_drop]; exact (hc.drop off).take n, rfl⟩
 | false =>
  simp only [partS] at h
  unfold exO at h
  split at h
  next c hj =>
   obtain ⟨u, hu, hcu⟩ := hc.get hj
   simp only [ones_get?, Option.map_eq_some_iff] at hu
   obtain ⟨x, hx, rfl⟩ := hu
   exact ⟨x, run_loadVar_one ha w (hw _ _ hx), hK _ _ _ _ _ _ h.2 trivial (nxt_same hI (lval_s.2 (vrel_of_one hcu h.1)))⟩
  next => cases h
theorem load_partL {t : TypeId} {g : Bool} {n cb : Nat} {cs : List LV} {us : List Value} (hI : MInv A n0 M0 ρ0 w0 M ρ H w) (ha : aggTy P t = some g) (hs : szTy P t = some n) (hc : LRelC M ρ cs (ones us))
  (hw : ∀ j v, us[j]? = some v -> w.cell? ⟨cb, j, none⟩ = some v) {off : Nat} (h : partL H cs off n k g) {Kx : Value -> World -> Prop} (hK : ∀ v H' kl f x w', k v H' kl f -> f -> Nxt A n0 M0 ρ0 w0 M ρ id v H' kl x w' -> Kx x w') :
  ∃ x, (loadVar t ⟨cb, off, none⟩).run P w = .ok x w /\ Kx x w := by
 have hlen : us.length = cs.length := by have := hc.length; simpa using this
 cases g with
 | true =>
  simp only [partL] at h
  have hl : ((us.drop off).take n).length = n := by rw [List.length_take, List.length_drop]; omega
  refine ⟨.agg ((us.drop off).take n).toArray, ?_, hK _ _ _ _ _ _ h.2 trivial (nxt_same hI ?_)⟩
  ·refine run_loadVar_agg ha (by rw [hl]; exact hs) w fun j v hj => ?_
   rw [List.getElem?_take] at hj
   split at hj
   ·rw [List.getElem?_drop] at hj
    exact hw _ v hj
   ·cases hj
  ·exact lval_agg (by simp only [ones_take, ones_drop]; exact (hc.drop off).take n)
 | false =>
  simp only [partL] at h
  unfold exO at h
  split at h
  next c hj =>
   obtain ⟨u, hu, hcu⟩ := hc.get hj
   simp only [ones_get?, Option.map_eq_some_iff] at hu
   obtain ⟨x, hx, rfl⟩ := hu
   exact ⟨x, run_loadVar_one ha w (hw _ _ hx), hK _ _ _ _ _ _ h.2 trivial (nxt_same hI (lval_of_one hcu h.1))⟩
  next => cases h
theorem take_drop_get {us : List Value} {sh m : Nat} (j : Nat) (v : Value) (hj : ((us.drop sh).take m)[j]? = some v) : us[sh + j]? = some v := by
 rw [List.getElem?_take] at hj
 split at hj
 ·rw [List.getElem?_drop] at hj; exact hj
 ·cases hj
theorem snd_load (hI : MInv A n0 M0 ρ0 w0 M ρ H w) (hf : FRel M ρ fr a.tmps.toList) {n : Nat} {g : Bool} {x : AX} (hok : okOp P (.load n g x) o.op = true) (h : aop P n0 id fr H (.load n g x) k)
  (hK : ∀ v H' kl f x w', k v H' kl f -> f -> Nxt A n0 M0 ρ0 w0 M ρ id v H' kl x w' -> K (a.put o.dst x) w') : o.wp P a w K Q := by
 obtain ⟨t, y, ho, hx, ha, hs, hg⟩ := inv_load hok
 simp only [aop] at h
 have hr := okX_rel hf hx
 generalize x.ev fr = v at h hr
 have fin : ∀ ad : Addr, a.eval y = .pointer (some ad) -> (∃ x, (loadVar t ad).run P w = .ok x w /\ K (a.put o.dst x) w) -> o.wp P a w K Q := by
  rintro ad e ⟨x, hx, hk⟩
  refine wp_value (x := x) (w' := w) ?_ hk
  simp [execOp, ho, Instr.loadAt, e, Instr.sureAddr, hx]
 unfold ldK at h
 split at h
 next cs =>
  rw [lval_s] at hr
  have h1 := hr.one rfl
  simp only [CRel] at h1
  obtain ⟨b, of, ws, e, hc, hat⟩ := h1
  simp at e
  refine fin _ e ?_
  have := load_part (P := P) (t := t) (off := 0) hI ha hs hg hc (hI.rel.at_cells hat) h (Kx := fun x w' => K (a.put o.dst x) w') hK
  simpa using this
 next b off =>
  have h1 := hr.one rfl (by simp)
  simp only [LRel] at h1
  obtain ⟨cb, sh, m, hρ, e⟩ := h1
  simp at e
  refine fin _ e ?_
  unfold ldB at h
  split at h
  next cs hb =>
   obtain ⟨r, h2, h3⟩ := hI.rel.spot hb
   rw [hρ] at h2; cases h2
   simp only [BRel] at h3
   obtain ⟨c, T, h4, h5, h6, h7, h8, h9⟩ := h3
   subst h7
   have := load_partL (P := P) (t := t) (cb := cb) hI ha hs h8 (fun j v hj => by rw [heap_cell? h4]; simpa using hj) h (Kx := fun x w' => K (a.put o.dst x) w') hK
   simpa using this
  next cs hb =>
   obtain ⟨r, h2, h3⟩ := hI.rel.spot hb
   rw [hρ] at h2; cases h2
   simp only [BRel] at h3
   obtain ⟨c, T, h4, h5, h6, h8, h9⟩ := h3
   exact load_part (P := P) (t := t) hI ha hs hg h8 (fun j v hj => by rw [heap_cell? h4]; simpa using take_drop_get j v hj) h (Kx := fun x w' => K (a.put o.dst x) w') hK
  next cs hb =>
   obtain ⟨r, h2, h3⟩ := hI.rel.spot hb
   rw [hρ] at h2; cases h2
   simp only [BRel] at h3
   obtain ⟨us, h8, h9⟩ := h3
   exact load_part (P := P) (t := t) hI ha hs hg h8 (hI.rel.at_cells h9) h (Kx := fun x w' => K (a.put o.dst x) w') hK
  next => cases h
 next => cases h
theorem fieldOf_inv {t : TypeId} {i off n : Nat} {ft : TypeId} (h : fieldOf P t i = some (off, n, ft)) : ∃ fs f, P.underlying t = some (.struct fs) /\ fs[i]? = some f /\ f.offset = off /\ f.type = ft /\ szTy P ft = some n := by
 unfold fieldOf at h
 split at h
 next fs hu =>
  cases hf : fs[i]? with
  | none => rw [hf] at h; cases h
  | some f =>
   rw [hf] at h
   simp only [Option.bind_some, Option.map_eq_some_iff] at h
   obtain ⟨m, h1, h2⟩ := h
   cases h2
   exact ⟨fs, f, hu, hf, rfl, rfl, h1⟩
 next => cases h
theorem snd_fieldAddr (hI : MInv A n0 M0 ρ0 w0 M ρ H w) (hf : FRel M ρ fr a.tmps.toList) {off : Nat} {x : AX} (hok : okOp P (.fieldAddr off x) o.op = true) (h : aop P n0 id fr H (.fieldAddr off x) k)
  (hK : ∀ v H' kl f x w', k v H' kl f -> f -> Nxt A n0 M0 ρ0 w0 M ρ id v H' kl x w' -> K (a.put o.dst x) w') : o.wp P a w K Q := by
 obtain ⟨t, y, i, n, ft, ho, hx, hfo, hn⟩ := inv_fieldAddr hok
 obtain ⟨fs, f, hu, hfi, rfl, rfl, hsz⟩ := fieldOf_inv hfo
 simp only [aop] at h
 have hr := okX_rel hf hx
 generalize x.ev fr = v at h hr
 have run : ∀ b of, a.eval y = .pointer (some ⟨b, of, none⟩) -> (execOp a.eval o).run P w = .ok (.value (.pointer (some ⟨b, of + f.offset, none⟩))) w := by
  intro b of e
  simp [execOp, ho, Instr.fieldAt, run_underlying hu, hfi, e, Instr.sureAddr, fieldPlace, szTy_run hsz, hn, Addr.add_lit]
 unfold fieldAddrK at h
 split at h
 next cs =>
  rw [lval_s] at hr
  have h1 := hr.one rfl
  simp only [CRel] at h1
  obtain ⟨b, of, ws, e, hc, hat⟩ := h1
  simp at e
  refine wp_value (run b of e) (hK _ _ _ _ _ _ h.2 trivial (nxt_same hI ?_))
  rw [lval_s]
  exact vrel_of_one (by simp only [CRel]; exact ⟨b, of + f.offset, ws.drop f.offset, rfl, by rw [ones_drop]; exact hc.drop _, At_drop hat⟩) rfl
 next b off =>
  have h1 := hr.one rfl (by simp)
  simp only [LRel] at h1
  obtain ⟨cb, sh, m, hρ, e⟩ := h1
  simp at e
  refine wp_value (run cb _ e) (hK _ _ _ _ _ _ h trivial (nxt_same hI ?_))
  exact lval_of_one (by simp only [LRel]; exact ⟨cb, sh, m, hρ, by simp [Nat.add_assoc]⟩) rfl
 next => cases h
theorem run_part {t : TypeId} {g : Bool} {n off : Nat} {v : LV} {x : Value} (hI : MInv A n0 M0 ρ0 w0 M ρ H w) (ha : aggTy P t = some g) (hs : szTy P t = some n) (hr : LVal M ρ v x) (h : partK H off n g k v)
  {Kx : Value -> World -> Prop} (hK : ∀ v H' kl f x w', k v H' kl f -> f -> Nxt A n0 M0 ρ0 w0 M ρ id v H' kl x w' -> Kx x w') : ∃ cs z, x = .agg cs /\ (part t cs off).run P w = .ok z w /\ Kx z w := by
 unfold partK at h
 split at h
 next cs =>
  rw [lval_s] at hr
  obtain ⟨us, rfl, hc⟩ := hr.agg
  have hlen : us.length = cs.length := by have := hc.length; simpa using this
  refine ⟨us.toArray, ?_⟩
  cases g with
  | true =>
   simp only [partS] at h
   refine ⟨.agg ((us.drop off).take n).toArray, rfl, ?_, hK _ _ _ _ _ _ h.2 trivial (nxt_same hI ?_)⟩
   ·simp [part, aggTy_run ha, szTy_run hs, List.extract_eq_take_drop]
   ·rw [lval_s]; exact ⟨(us.drop off).take n, by simp only [CRel, ones_take, ones_drop]; exact (hc.drop off).take n, rfl⟩
  | false =>
   simp only [partS] at h
   unfold exO at h
   split at h
   next c hj =>
    obtain ⟨u, hu, hcu⟩ := hc.get hj
    simp only [ones_get?, Option.map_eq_some_iff] at hu
    obtain ⟨z, hz, rfl⟩ := hu
    exact ⟨z, rfl, by simp [part, aggTy_run ha, hz], hK _ _ _ _ _ _ h.2 trivial (nxt_same hI (lval_s.2 (vrel_of_one hcu h.1)))⟩
   next => cases h
 next cs =>
  obtain ⟨us, rfl, hc⟩ := hr.agg
  have hlen : us.length = cs.length := by have := hc.length; simpa using this
  refine ⟨us.toArray, ?_⟩
  cases g with
  | true =>
   simp only [partL] at h
   refine ⟨.agg ((us.drop off).take n).toArray, rfl, ?_, hK _ _ _ _ _ _ h.2 trivial (nxt_same hI ?_)⟩
   ·simp [part, aggTy_run ha, szTy_run hs, List.extract_eq_take_drop]
   ·exact lval_agg (by simp only [ones_take, ones_drop]; exact (hc.drop off).take n)
  | false =>
   simp only [partL] at h
   unfold exO at h
   split at h
   next c hj =>
    obtain ⟨u, hu, hcu⟩ := hc.get hj
    simp only [ones_get?, Option.map_eq_some_iff] at hu
    obtain ⟨z, hz, rfl⟩ := hu
    exact ⟨z, rfl, by simp [part, aggTy_run ha, hz], hK _ _ _ _ _ _ h.2 trivial (nxt_same hI (lval_of_one hcu h.1))⟩
   next => cases h
 next => cases h
theorem snd_field (hI : MInv A n0 M0 ρ0 w0 M ρ H w) (hf : FRel M ρ fr a.tmps.toList) {off n : Nat} {g : Bool} {x : AX} (hok : okOp P (.field off n g x) o.op = true) (h : aop P n0 id fr H (.field off n g x) k)
  (hK : ∀ v H' kl f x w', k v H' kl f -> f -> Nxt A n0 M0 ρ0 w0 M ρ id v H' kl x w' -> K (a.put o.dst x) w') : o.wp P a w K Q := by
 obtain ⟨t, y, i, ft, ho, hx, hfo, ha⟩ := inv_field hok
 obtain ⟨fs, f, hu, hfi, rfl, rfl, hsz⟩ := fieldOf_inv hfo
 simp only [aop] at h
 obtain ⟨cs, z, e, hrun, hk⟩ := run_part (P := P) hI ha hsz (okX_rel hf hx) h (Kx := fun x w' => K (a.put o.dst x) w') hK
 refine wp_value (x := z) (w' := w) ?_ hk
 simp [execOp, ho, Instr.field, run_underlying hu, hfi, e, asAgg, hrun]
theorem snd_idx (hI : MInv A n0 M0 ρ0 w0 M ρ H w) (hf : FRel M ρ fr a.tmps.toList) {n sz : Nat} {g : Bool} {x i : AX} (hok : okOp P (.idx n sz g x i) o.op = true) (h : aop P n0 id fr H (.idx n sz g x i) k)
  (hK : ∀ v H' kl f x w', k v H' kl f -> f -> Nxt A n0 M0 ρ0 w0 M ρ id v H' kl x w' -> K (a.put o.dst x) w') : o.wp P a w K Q := by
 obtain ⟨t, y, j, e, ie, ho, hx, hi, hu, hie, hsz, ha⟩ := inv_idx hok
 simp only [aop] at h
 have hr := okX_rel hf hi
 generalize i.ev fr = v at h hr
 unfold idxK at h
 split at h
 next K' m =>
  have hb := lrel_int rfl hr
  obtain ⟨h0, h1, h2⟩ := h
  have hs : szTy P e = some sz := by simp [szTy, hie, hsz]
  obtain ⟨cs, z, ex, hrun, hk⟩ := run_part (P := P) hI ha hs (okX_rel hf hx) h2 (Kx := fun x w' => K (a.put o.dst x) w') hK
  refine wp_value (x := z) (w' := w) ?_ hk
  have hnn : ¬ m < 0 := by omega
  simp [execOp, ho, Instr.index, hb, asIntOf, run_underlying hu, ex, h0, h1, szTy_run hs, hrun]
 next => cases h
theorem slSz_inv {t : TypeId} {sz : Nat} (h : slSz P t = some sz) : ∃ e, P.underlying t = some (.slice e) /\ szTy P e = some sz := by
 unfold slSz at h
 split at h
 next e hu => exact ⟨e, hu, h⟩
 next => cases h
theorem arrSz_inv {t : TypeId} {n sz : Nat} (h : arrSz P t = some (n, sz)) : ∃ e, P.underlying t = some (.array n e) /\ szTy P e = some sz := by
 unfold arrSz at h
 split at h
 next m e hu =>
  cases hi : P.info? e with
  | none => rw [hi] at h; cases h
  | some i => rw [hi] at h; simp at h; obtain ⟨rfl, rfl⟩ := h; exact ⟨e, hu, by simp [szTy, hi]⟩
 next => cases h
theorem crel_cells {e : SV} {u : List Value} (h : CRel M e u) : CRelC M e.cells (ones u) := by
 cases e
 case agg cs => simpa only [SV.cells, CRel] using h
 all_goals
  obtain ⟨x, rfl, _⟩ := h.one rfl
  simp only [SV.cells, ones_cons, ones_nil]
  exact crelC_cons h crelC_nil
theorem flatten_at {uss : List (List Value)} {sz : Nat} (hs : ∀ u ∈ uss, u.length = sz) : ∀ {i : Nat} {u : List Value}, uss[i]? = some u -> ∀ j v, u[j]? = some v -> uss.flatten[i * sz + j]? = some v := by
 induction uss with
 | nil => intro i u h; simp at h
 | cons c cs ih =>
  intro i u h j v hj
  have hc := hs c (by simp)
  cases i with
  | zero =>
   simp at h; subst h
   rw [List.flatten_cons, Nat.zero_mul, Nat.zero_add, List.getElem?_append_left (List.getElem?_eq_some_iff.1 hj).1]
   exact hj
  | succ i =>
   simp at h
   have := ih (fun u hu => hs u (by simp [hu])) h j v hj
   rw [List.flatten_cons, List.getElem?_append_right (by rw [hc, Nat.succ_mul]; omega), hc]
   rw [show (i + 1) * sz + j - sz = i * sz + j by rw [Nat.succ_mul]; omega]
   exact this
theorem slice_elem {xs : List SV} {x : Value} (h : CRel M (.slice xs) [x]) {i : Nat} {e : SV} (he : xs[i]? = some e) :
  ∃ b of cap sz us, x = .slice (some ⟨b, of, none⟩) xs.length cap /\ us.length = sz /\ CRelC M e.cells (ones us) /\ M.At b (of + i * sz) us := by
 simp only [CRel] at h
 obtain ⟨ad, len, cap, ex, hl, _, _, hx⟩ := h
 rcases hx with rfl | ⟨b, of, sz, uss, ha, hc, hs, hat⟩
 ·simp at he
 ·obtain ⟨u, hu, hcu⟩ := hc.get he
  have ex' : x = .slice ad len cap := by simpa using ex
  refine ⟨b, of, cap, sz, u, by rw [ex', ha, hl], hs u (List.mem_of_getElem? hu), crel_cells hcu, fun j v hj => ?_⟩
  have := hat _ v (flatten_at hs hu j v hj)
  rwa [<- Nat.add_assoc] at this
theorem snd_idxA (hI : MInv A n0 M0 ρ0 w0 M ρ H w) (hf : FRel M ρ fr a.tmps.toList) {sz : Nat} {x i : AX} (hok : okOp P (.idxA sz x i) o.op = true) (h : aop P n0 id fr H (.idxA sz x i) k)
  (hK : ∀ v H' kl f x w', k v H' kl f -> f -> Nxt A n0 M0 ρ0 w0 M ρ id v H' kl x w' -> K (a.put o.dst x) w') : o.wp P a w K Q := by
 obtain ⟨t, y, j, ho, hx, hi, hsl⟩ := inv_idxA hok
 obtain ⟨e, hu, hsz⟩ := slSz_inv hsl
 simp only [aop] at h
 have hr := okX_rel hf hi
 have hr' := okX_rel hf hx
 generalize i.ev fr = v at h hr
 generalize x.ev fr = v' at h hr'
 unfold idxAK at h
 split at h
 next K' m =>
  have hb := lrel_int rfl hr
  obtain ⟨h0, h⟩ := h
  have run : ∀ b of len cap, a.eval y = .slice (some ⟨b, of, none⟩) len cap -> m < len -> (execOp a.eval o).run P w = .ok (.value (.pointer (some ⟨b, of + m.toNat * sz, none⟩))) w := by
   intro b of len cap ey hm
   simp [execOp, ho, Instr.indexAt, hb, asIntOf, run_underlying hu, ey, h0, hm, szTy_run hsz, Addr.add_lit]
  have stab : ∀ xs : List SV, CRel M (.slice xs) [a.eval y] -> exO xs[m.toNat]? (fun e => e.cells.length = sz /\ k (.s (.ptr e.cells)) H none True) -> o.wp P a w K Q := by
   intro xs hc hx
   unfold exO at hx
   split at hx
   next e he =>
    obtain ⟨b, of, cap, sz', us, ey, hl, hce, hat⟩ := slice_elem hc he
    have hlen : us.length = e.cells.length := by have := hce.length; simpa using this
    have hs : sz' = sz := by rw [<- hl, hlen, hx.1]
    subst hs
    have hm : m < xs.length := by have := (List.getElem?_eq_some_iff.1 he).1; omega
    refine wp_value (run b of _ cap ey hm) (hK _ _ _ _ _ _ hx.2 trivial (nxt_same hI ?_))
    rw [lval_s]
    exact vrel_of_one (by simp only [CRel]; exact ⟨b, of + m.toNat * sz', us, rfl, hce, hat⟩) rfl
   next => cases hx
  unfold idxAI at h
  split at h
  next xs => rw [lval_s] at hr'; exact stab xs (hr'.one rfl) h
  next xs =>
   have h1 := hr'.one rfl (by simp)
   simp only [LRel] at h1
   obtain ⟨_, _, _, h2⟩ := h1
   exact stab xs h2 h
  next b off len sz' c =>
   obtain ⟨rfl, hm, h⟩ := h
   have h1 := hr'.one rfl (by simp)
   simp only [LRel] at h1
   obtain ⟨r, ad, cap, hρ, hg, ey, hlc, hcm, hpos, hclip, hcap⟩ := h1
   rcases hcap with hcap | ⟨cb, sh, n, rfl, rfl, hfit⟩
   ·omega
   ·refine wp_value (run cb (sh + off) len cap (by simpa using ey) hm) (hK _ _ _ _ _ _ h trivial (nxt_same hI ?_))
    exact lval_of_one (by simp only [LRel]; exact ⟨cb, sh, n, hρ, by simp [Nat.add_assoc]⟩) rfl
  next => cases h
 next => cases h
theorem snd_idxArrA (hI : MInv A n0 M0 ρ0 w0 M ρ H w) (hf : FRel M ρ fr a.tmps.toList) {n sz : Nat} {x i : AX} (hok : okOp P (.idxArrA n sz x i) o.op = true) (h : aop P n0 id fr H (.idxArrA n sz x i) k)
  (hK : ∀ v H' kl f x w', k v H' kl f -> f -> Nxt A n0 M0 ρ0 w0 M ρ id v H' kl x w' -> K (a.put o.dst x) w') : o.wp P a w K Q := by
 obtain ⟨t, y, j, ho, hx, hi, hsl⟩ := inv_idxArrA hok
 obtain ⟨e, hu, hsz⟩ := arrSz_inv hsl
 simp only [aop] at h
 have hr := okX_rel hf hi
 have hr' := okX_rel hf hx
 generalize i.ev fr = v at h hr
 generalize x.ev fr = v' at h hr'
 unfold idxArrAK at h
 split at h
 next K' m =>
  have hb := lrel_int rfl hr
  obtain ⟨h0, hm, h⟩ := h
  have run : ∀ b of, a.eval y = .pointer (some ⟨b, of, none⟩) -> (execOp a.eval o).run P w = .ok (.value (.pointer (some ⟨b, of + m.toNat * sz, none⟩))) w := by
   intro b of ey
   simp [execOp, ho, Instr.indexAt, hb, asIntOf, run_underlying hu, ey, Instr.sureAddr, h0, hm, szTy_run hsz, Addr.add_lit]
  unfold idxArrAI at h
  split at h
  next cs =>
   rw [lval_s] at hr'
   have h1 := hr'.one rfl
   simp only [CRel] at h1
   obtain ⟨b, of, ws, ey, hc, hat⟩ := h1
   refine wp_value (run b of (by simpa using ey)) (hK _ _ _ _ _ _ h.2 trivial (nxt_same hI ?_))
   rw [lval_s]
   exact vrel_of_one (by simp only [CRel]; exact ⟨b, of + m.toNat * sz, ws.drop (m.toNat * sz), rfl, by rw [ones_drop]; exact hc.drop _, At_drop hat⟩) rfl
  next b off =>
   have h1 := hr'.one rfl (by simp)
   simp only [LRel] at h1
   obtain ⟨cb, sh, m', hρ, ey⟩ := h1
   refine wp_value (run cb (sh + off) (by simpa using ey)) (hK _ _ _ _ _ _ h trivial (nxt_same hI ?_))
   exact lval_of_one (by simp only [LRel]; exact ⟨cb, sh, m', hρ, by simp [Nat.add_assoc]⟩) rfl
  next => cases h
 next => cases h
end
end Go.E

/- What a local value reads as. -/
namespace Go.E
open Go
noncomputable def Mem.up (M : Mem) (ρ : Env) (w : World) : Mem :=
  open Classical in
  { cell := fun b o => match M.cell b o with
      | some v => some v
      | none => if ρ.has b then w.cell? ⟨b, o, none⟩ else none
    map := fun b => match M.map b with
      | some es => some es
      | none => if ρ.has b then (match w.heap[b]? with | some (.map ms clock) => some (ms, clock) | _ => none) else none }
theorem Mem.le_up (M : Mem) (ρ : Env) (w : World) : M.le (M.up ρ w) :=
 ⟨fun b o v h => by simp only [Mem.up, h], fun b es h => by simp only [Mem.up, h]⟩
theorem Mem.up_cell {M : Mem} {ρ : Env} {w : World} {b o : Nat} {v : Value} (h : (M.up ρ w).cell b o = some v) : M.cell b o = some v \/ (ρ.has b /\ w.cell? ⟨b, o, none⟩ = some v) := by
 simp only [Mem.up] at h
 split at h
 ·exact .inl (by simp_all)
 ·split at h
  ·exact .inr ⟨by assumption, h⟩
  ·cases h
theorem Mem.up_map {M : Mem} {ρ : Env} {w : World} {b : Nat} {es : Ents} (h : (M.up ρ w).map b = some es) :
  M.map b = some es \/ (ρ.has b /\ w.heap[b]? = some (.map es.1 es.2)) := by
 simp only [Mem.up] at h
 split at h
 ·exact .inl (by simp_all)
 ·split at h
  ·split at h
   ·rename_i ms clock hm; cases h; exact .inr ⟨by assumption, hm⟩
   ·cases h
  ·cases h
theorem Mem.up_own {M : Mem} {ρ : Env} {w : World} {b o : Nat} {v : Value} (hb : ρ.has b) (hn : M.cell b o = none) (hc : w.cell? ⟨b, o, none⟩ = some v) : (M.up ρ w).cell b o = some v := by
 simp only [Mem.up, hn, if_pos hb, hc]
theorem SRel.holds {M : Mem} {ρ : Env} {H : List ABlock} {w : World} (h : SRel M ρ H w) : Holds M w := ⟨h.cells, h.maps⟩
theorem SRel.holds_up {M : Mem} {ρ : Env} {H : List ABlock} {w : World} (h : SRel M ρ H w) : Holds (M.up ρ w) w :=
  ⟨fun b o v hv => by rcases Mem.up_cell hv with hv | ⟨_, hv⟩; exact h.cells b o v hv; exact hv,
   fun b es hv => by rcases Mem.up_map hv with hv | ⟨_, hv⟩; exact h.maps b es hv; exact hv⟩
def BStab (M M' : Mem) (ρ : Env) : ABlock -> Spot -> Prop
 | .obj cs, .here cb sh _ => ∃ us, LRelC M ρ cs (ones us) /\ M'.At cb sh us
 | .row cs, .here cb sh _ => ∃ us, CRelC M cs (ones us) /\ M'.At cb sh us
 | .frz cs, .here cb sh _ => ∃ us, CRelC M cs (ones us) /\ M'.At cb sh us
 | .row cs, .empty => cs = []
 | .frz cs, .empty => cs = []
 | .map ks vs, .here cb _ _ => ∃ kus vus es, CRelC M ks kus /\ CRelC M vs vus /\ ks.length = vs.length /\ M'.map cb = some es /\ ents es = List.zip (List.zipWith SV.mk ks kus) (List.zipWith SV.mk vs vus) /\ wfm es
 | .frzm ks vs, .here cb _ _ => ∃ kus vus es, CRelC M ks kus /\ CRelC M vs vus /\ ks.length = vs.length /\ M'.map cb = some es /\ ents es = List.zip (List.zipWith SV.mk ks kus) (List.zipWith SV.mk vs vus) /\ wfm es
 | .mit _ _, _ => True
 | .gone, _ => True
 | _, _ => False
theorem SRel.stab {M : Mem} {ρ : Env} {H : List ABlock} {w : World} (h : SRel M ρ H w) {i : Nat} {B : ABlock} {r : Spot} (hB : H[i]? = some B) (hr : ρ[i]? = some r) : BStab M (M.up ρ w) ρ B r := by
 have hb := h.blk i B r hB hr
 have hhas : ∀ cb sh n, r = .here cb sh n -> ρ.has cb := fun cb sh n e => ⟨i, sh, n, by rw [hr, e]⟩
 cases B <;> cases r <;> simp only [BRel, BStab] at * <;> try exact hb
 case obj.here cs cb sh n =>
  obtain ⟨c, T, h1, h2, h3, h4, h5, h6⟩ := hb
  subst h4
  exact ⟨c.toList, h5, fun j v hj => Mem.up_own (hhas cb 0 n rfl) (h6 _) (by rw [heap_cell? h1]; simpa using hj)⟩
 case row.here cs cb sh n =>
  obtain ⟨c, T, h1, h2, h3, h5, h6⟩ := hb
  exact ⟨_, h5, fun j v hj => Mem.up_own (hhas cb sh n rfl) (h6 _) (by rw [heap_cell? h1]; simpa using take_drop_get j v hj)⟩
 case frz.here cs cb sh n =>
  obtain ⟨us, h1, h2⟩ := hb
  exact ⟨us, h1, h2.mono (Mem.le_up M ρ w)⟩
 case map.here ks vs cb sh n =>
  obtain ⟨es, clock, kus, vus, h1, h2, h3, h4, h5, h6⟩ := hb
  refine ⟨kus, vus, (es, clock), h2, h3, h4, ?_, h5, h6.2⟩
  simp only [Mem.up, h6.1, if_pos (hhas cb sh n rfl), h1]
 case frzm.here ks vs cb sh n =>
  obtain ⟨kus, vus, es, h1, h2, h3, h4, h5⟩ := hb
  exact ⟨kus, vus, es, h1, h2, h3, (Mem.le_up M ρ w).2 _ _ h4, h5⟩
theorem elems_rel {M : Mem} {sz : Nat} (hsz : 0 < sz) : ∀ {len : Nat} {cs : List SV} {us : List Value}, CRelC M cs (ones us) -> len * sz <= cs.length ->
  ∃ uss, CRelC M (elems sz len cs) uss /\ (∀ u ∈ uss, u.length = sz) /\ uss.flatten = us.take (len * sz) := by
 intro len cs us hc hl
 unfold elems
 split
 ·rename_i e
  subst e
  refine ⟨ones (us.take len), by rw [ones_take]; exact hc.take len, fun u hu => ?_, by rw [Nat.mul_one, ones_flatten]⟩
  simp only [ones, List.mem_map] at hu
  obtain ⟨x, _, rfl⟩ := hu
  rfl
 ·induction len generalizing cs us with
  | zero => exact ⟨[], by simp [chunk, CRelC], fun u hu => by simp at hu, by simp⟩
  | succ n ih =>
   rw [Nat.succ_mul] at hl
   have hus : us.length = cs.length := by have := hc.length; simpa using this
   obtain ⟨uss, h1, h2, h3⟩ := ih (cs := cs.drop sz) (us := us.drop sz) (by rw [ones_drop]; exact hc.drop sz) (by rw [List.length_drop]; omega)
   refine ⟨us.take sz :: uss, ?_, ?_, ?_⟩
   ·simp only [chunk]
    exact crelC_cons (by simp only [CRel, ones_take]; exact hc.take sz) h1
   ·intro u hu
    rcases List.mem_cons.1 hu with rfl | hu
    ·rw [List.length_take]; omega
    ·exact h2 u hu
   ·rw [List.flatten_cons, h3, Nat.succ_mul, Nat.add_comm (n * sz) sz, List.take_add]
theorem frzAll_rel {M M' : Mem} {ρ : Env} {g : LV -> Option SV} (hg : ∀ v us sv, LRel M ρ v us -> g v = some sv -> CRel M' sv us) : ∀ {cs : List LV} {uss : List (List Value)} {ss : List SV}, LRelC M ρ cs uss -> frzAll g cs = some ss -> CRelC M' ss uss
 | [], uss, ss, h, hs => by simp [LRelC] at h; simp [frzAll] at hs; subst h; subst hs; exact crelC_nil
 | c :: cs, uss, ss, h, hs => by
  simp only [LRelC] at h
  obtain ⟨u, us, rfl, h1, h2⟩ := h
  simp only [frzAll] at hs
  split at hs
  ·rename_i a ha
   split at hs
   ·rename_i as has
    cases hs
    exact crelC_cons (hg c u a h1 ha) (frzAll_rel hg h2 has)
   ·cases hs
  ·cases hs
theorem frzV_rel {M M' : Mem} {ρ : Env} {H : List ABlock} (hle : M.le M') (hB : ∀ (i : Nat) (B : ABlock) (r : Spot), H[i]? = some B -> ρ[i]? = some r -> BStab M M' ρ B r) :
  ∀ (n : Nat) (v : LV) (us : List Value) (sv : SV), LRel M ρ v us -> frzV H n v = some sv -> CRel M' sv us := by
 intro n
 induction n with
 | zero => intro v us sv _ h; simp [frzV] at h
 | succ n ih =>
  intro v us sv hr h
  have all : ∀ {cs : List LV} {uss : List (List Value)} {ss : List SV}, LRelC M ρ cs uss -> frzAll (frzV H n) cs = some ss -> CRelC M' ss uss := fun h1 h2 => frzAll_rel ih h1 h2
  -- the cells of a block
  have blk : ∀ (b : Nat) (r : Spot) (cs : List SV), ρ[b]? = some r -> (match H[b]? with | some (.obj cs) => frzAll (frzV H n) cs | some (.row cs) | some (.frz cs) => some cs | _ => none) = some cs ->
    (r = .empty /\ cs = []) \/ ∃ cb sh m ws, r = .here cb sh m /\ CRelC M' cs (ones ws) /\ M'.At cb sh ws := by
   intro b r cs hρ hc
   cases hb : H[b]? with
   | none => rw [hb] at hc; cases hc
   | some B =>
    rw [hb] at hc
    have hst := hB b B r hb hρ
    cases B <;> cases r <;> simp only [BStab] at hst hc <;> first | (exact hst.elim) | (cases hc; done) | skip
    case obj.here cs' cb sh m => obtain ⟨ws, h1, h2⟩ := hst; exact .inr ⟨cb, sh, m, ws, rfl, all h1 hc, h2⟩
    case row.empty cs' => cases hc; exact .inl ⟨rfl, hst⟩
    case row.here cs' cb sh m => cases hc; obtain ⟨ws, h1, h2⟩ := hst; exact .inr ⟨cb, sh, m, ws, rfl, h1.mono hle, h2⟩
    case frz.empty cs' => cases hc; exact .inl ⟨rfl, hst⟩
    case frz.here cs' cb sh m => cases hc; obtain ⟨ws, h1, h2⟩ := hst; exact .inr ⟨cb, sh, m, ws, rfl, h1.mono hle, h2⟩
  cases v with
  | s v => simp only [frzV] at h; cases h; simp only [LRel] at hr; exact hr.mono hle
  | any => simp [frzV] at h
  | tup vs => simp [frzV] at h
  | full xs => simp only [frzV] at h; cases h; simp only [LRel] at hr; obtain ⟨_, _, _, h1⟩ := hr; exact h1.mono hle
  | agg cs =>
   simp only [frzV, Option.map_eq_some_iff] at h
   obtain ⟨ss, h1, rfl⟩ := h
   simp only [LRel] at hr
   simp only [CRel]
   exact all hr h1
  | fn f first caps =>
   simp only [frzV] at h
   split at h
   ·rename_i a b ha hb
    cases h
    simp only [LRel] at hr
    obtain ⟨fs, cs, e, h1, h2⟩ := hr
    simp only [CRel]
    exact ⟨fs, cs, e, all h1 ha, all h2 hb⟩
   ·cases h
  | loc b off =>
   simp only [LRel] at hr
   obtain ⟨cb, sh, m, hρ, e⟩ := hr
   have hx : ∃ cs, (match H[b]? with | some (.obj cs) => frzAll (frzV H n) cs | some (.row cs) | some (.frz cs) => some cs | _ => none) = some cs /\ off <= cs.length /\ sv = .ptr (cs.drop off) := by
    simp only [frzV] at h
    cases hb : H[b]? with
    | none => rw [hb] at h; cases h
    | some B =>
     rw [hb] at h
     cases B <;> simp only at h ⊢ <;> try (cases h; done)
     case obj cs =>
      split at h
      ·rename_i cs' hcs
       split at h
       ·cases h; exact ⟨cs', hcs, by assumption, rfl⟩
       ·cases h
      ·cases h
     all_goals
      split at h
      ·cases h; exact ⟨_, rfl, by assumption, rfl⟩
      ·cases h
   obtain ⟨cs, hc, hoff, rfl⟩ := hx
   rcases blk b _ cs hρ hc with ⟨e', _⟩ | ⟨cb', sh', m', ws, e', h1, h2⟩
   ·cases e'
   ·cases e'
    simp only [CRel]
    exact ⟨cb, sh + off, ws.drop off, e, by rw [ones_drop]; exact h1.drop off, At_drop h2⟩
  | sl b off len sz clip =>
   simp only [LRel] at hr
   obtain ⟨r, ad, cap, hρ, hg, e, hlc, hcm, hpos, _, hcap⟩ := hr
   have hx : ∃ cs, (match H[b]? with | some (.obj cs) => frzAll (frzV H n) cs | some (.row cs) | some (.frz cs) => some cs | _ => none) = some cs /\ off + len * sz <= cs.length /\ sv = .slice (elems sz len (cs.drop off)) := by
    simp only [frzV] at h
    cases hb : H[b]? with
    | none => rw [hb] at h; cases h
    | some B =>
     rw [hb] at h
     cases B <;> simp only at h ⊢ <;> try (cases h; done)
     case obj cs =>
      split at h
      ·rename_i cs' hcs
       split at h
       ·cases h; exact ⟨cs', hcs, by assumption, rfl⟩
       ·cases h
      ·cases h
     all_goals
      split at h
      ·cases h; exact ⟨_, rfl, by assumption, rfl⟩
      ·cases h
   obtain ⟨cs, hc, hoff, rfl⟩ := hx
   have hlenE : ∀ (cs : List SV), len * sz <= cs.length -> (elems sz len cs).length = len := by
    intro cs hl
    have : ∀ (n : Nat) (cs : List SV), (chunk sz n cs).length = n := by intro n; induction n with
     | zero => intro cs; rfl
     | succ n ih => intro cs; simp [chunk, ih]
    unfold elems; split
    ·rename_i e; subst e; rw [List.length_take]; omega
    ·exact this _ _
   have hdl : len * sz <= (cs.drop off).length := by rw [List.length_drop]; omega
   simp only [CRel]
   refine ⟨ad, len, cap, e, (hlenE _ hdl).symm, hlc, hcm, ?_⟩
   rcases hcap with h0 | ⟨cb, sh, m, rfl, rfl, hfit⟩
   ·left
    have : len = 0 := by omega
    subst this
    exact List.eq_nil_of_length_eq_zero (hlenE _ hdl)
   ·right
    rcases blk b _ cs hρ hc with ⟨e', _⟩ | ⟨cb', sh', m', ws, e', h1, h2⟩
    ·cases e'
    ·cases e'
     obtain ⟨uss, h3, h4, h5⟩ := elems_rel hpos (len := len) (cs := cs.drop off) (us := ws.drop off) (by rw [ones_drop]; exact h1.drop off) hdl
     exact ⟨cb, sh + off, sz, uss, rfl, h3, h4, by rw [h5]; exact At_take (At_drop h2)⟩
  | yl l => simp [frzV] at h
  | mp b =>
   simp only [LRel] at hr
   obtain ⟨cb, sh, m, hρ, e⟩ := hr
   simp only [frzV] at h
   cases hb : H[b]? with
   | none => rw [hb] at h; cases h
   | some B =>
    rw [hb] at h
    have hst := hB b B _ hb hρ
    cases B <;> simp only at h <;> try (cases h; done)
    all_goals
     cases h
     simp only [BStab] at hst
     obtain ⟨kus, vus, es, h1, h2, h3, h4, h5, h6⟩ := hst
     simp only [CRel]
     exact ⟨some cb, e, .inr ⟨cb, _, kus, vus, rfl, h4, h1.mono hle, h2.mono hle, List.Perm.of_eq h5, h3, h6⟩⟩
theorem frz_isAgg {H : List ABlock} {n : Nat} {v : LV} {sv : SV} (h : frzV H n v = some sv) : sv.isAgg = v.isAgg /\ v ≠ .any := by
 cases n with
 | zero => simp [frzV] at h
 | succ n =>
  cases v <;> simp only [frzV] at h <;> try (cases h; done)
  case s v => cases h; exact ⟨rfl, by simp⟩
  case full xs => cases h; exact ⟨rfl, by simp⟩
  case agg cs =>
   simp only [Option.map_eq_some_iff] at h
   obtain ⟨ss, _, rfl⟩ := h
   exact ⟨rfl, by simp⟩
  all_goals
   refine ⟨?_, by simp⟩
   split at h <;> (try split at h) <;> (try split at h) <;> (try (cases h; done)) <;> (cases h; rfl)
theorem frz_val {M M' : Mem} {ρ : Env} {H : List ABlock} (hle : M.le M') (hB : ∀ (i : Nat) (B : ABlock) (r : Spot), H[i]? = some B -> ρ[i]? = some r -> BStab M M' ρ B r) {n : Nat} {v : LV} {x : Value} {sv : SV} (hr : LVal M ρ v x) (h : frzV H n v = some sv) : VRel M' sv x := by
 obtain ⟨h1, h2⟩ := frz_isAgg h
 rcases hr with e | ⟨vs, xs, rfl, _⟩ | ⟨us, hu, rfl⟩
 ·exact absurd e h2
 ·cases n <;> simp [frzV] at h
 ·exact ⟨us, frzV_rel hle hB n v us sv hu h, by rw [SV.mk, h1]⟩
theorem frz_nil_val {M : Mem} {ρ : Env} {n : Nat} {v : LV} {x : Value} {sv : SV} (hr : LVal M ρ v x) (h : frzV [] n v = some sv) : VRel M sv x :=
 frz_val M.le_refl (fun i B r h => by simp at h) hr h
theorem frz_up_val {M : Mem} {ρ : Env} {H : List ABlock} {w : World} (hS : SRel M ρ H w) {n : Nat} {v : LV} {x : Value} {sv : SV} (hr : LVal M ρ v x) (h : frzV H n v = some sv) : VRel (M.up ρ w) sv x :=
 frz_val (Mem.le_up M ρ w) (fun _ _ _ hB hρ => hS.stab hB hρ) hr h
theorem frzAll_val {M M' : Mem} {ρ : Env} {H : List ABlock} (hle : M.le M') (hB : ∀ (i : Nat) (B : ABlock) (r : Spot), H[i]? = some B -> ρ[i]? = some r -> BStab M M' ρ B r) {n : Nat} : ∀ {vs : List LV} {xs : List Value} {ss : List SV}, FRel M ρ vs xs -> frzAll (frzV H n) vs = some ss -> VRelL M' ss xs
 | [], xs, ss, h, hs => by simp [FRel] at h; simp [frzAll] at hs; subst h; subst hs; rfl
 | c :: cs, xs, ss, h, hs => by
  obtain ⟨y, ys, rfl, h1, h2⟩ := h
  simp only [frzAll] at hs
  split at hs
  ·rename_i a ha
   split at hs
   ·rename_i as has
    cases hs
    exact ⟨y, ys, rfl, frz_val hle hB h1 ha, frzAll_val hle hB h2 has⟩
   ·cases hs
  ·cases hs
end Go.E

/- How a walk's state goes on: blocks laid, written, moved; memory that stays grows. -/
namespace Go.E
open Go
theorem SRel.world {M : Mem} {ρ : Env} {H : List ABlock} {w w' : World} (h : SRel M ρ H w) (hh : w'.heap = w.heap) : SRel M ρ H w' := by
 refine ⟨h.len, fun i B r hB hr => BRel.keep (h.blk i B r hB hr) fun cb sh n _ => by rw [hh], h.inj, fun i cb sh n hr => by rw [hh]; exact h.lt i cb sh n hr, fun b o v hv => ?_, fun b es hv => ?_⟩
 ·rw [cell?_eq (w := w) (by rw [hh])]; exact h.cells b o v hv
 ·rw [hh]; exact h.maps b es hv
theorem Touch.trans {ρ : Env} {w w' w'' : World} (h : Touch ρ w w') (k : Touch ρ w' w'') : Touch ρ w w'' :=
 ⟨k.os.trans h.os, k.tape.trans h.tape, k.output.trans h.output, Nat.le_trans h.drawn k.drawn, Nat.le_trans h.size k.size, fun b hb hn => (k.block b (Nat.lt_of_lt_of_le hb h.size) hn).trans (h.block b hb hn)⟩
theorem Env.nil_has (b : Nat) : ¬ Env.has [] b := fun ⟨i, sh, n, h⟩ => by simp at h
theorem Touch.of_nil {ρ : Env} {w w' : World} (h : Touch [] w w') : Touch ρ w w' :=
 ⟨h.os, h.tape, h.output, h.drawn, h.size, fun b hb _ => h.block b hb (Env.nil_has b)⟩
theorem SRel.grow {M M' : Mem} {ρ : Env} {H : List ABlock} {w w' : World} (h : SRel M ρ H w) (hle : M.le M') (ht : Touch [] w w') (hn : Newer [] w M M') (hh : Holds M' w') : SRel M' ρ H w' := by
 refine ⟨h.len, fun i B r hB hr => ?_, h.inj, fun i cb sh n hr => Nat.lt_of_lt_of_le (h.lt i cb sh n hr) ht.size, hh.1, hh.2⟩
 refine BRel.keep (BRel.mono (h.blk i B r hB hr) hle (Env.le_refl _) fun cb sh n e => ?_) fun cb sh n e => ?_
 ·subst e
  have hlt := h.lt i cb sh n hr
  refine ⟨fun o hno => ?_, fun hno => ?_⟩
  ·cases hc : M'.cell cb o with
   | none => rfl
   | some v =>
    rcases hn.1 cb o v hc with h1 | h1 | h1
    ·rw [hno] at h1; cases h1
    ·omega
    ·exact absurd h1 (Env.nil_has _)
  ·cases hc : M'.map cb with
   | none => rfl
   | some v =>
    rcases hn.2 cb v hc with h1 | h1 | h1
    ·rw [hno] at h1; cases h1
    ·omega
    ·exact absurd h1 (Env.nil_has _)
 ·subst e
  exact ht.block cb (h.lt i cb sh n hr) (Env.nil_has _)
section
variable {A : Nat -> Obj -> Prop} {dfs : List Deferred} {n0 : Nat} {M0 : Mem} {ρ0 : Env} {w0 : World} {M : Mem} {ρ : Env} {H : List ABlock} {w : World}
theorem MInv.world {w' : World} (h : MInv A n0 M0 ρ0 w0 M ρ H w) (hh : w'.heap = w.heap) (ho : w'.os = w.os) (ht : w'.tape = w.tape) (hp : w'.output = w.output) (hd : w.drawn <= w'.drawn) : MInv A n0 M0 ρ0 w0 M ρ H w' :=
  { h with
    rel := h.rel.world hh
    touch := h.touch.trans ⟨ho, ht, hp, hd, by rw [hh]; exact Nat.le_refl _, fun b _ _ => by rw [hh]⟩
    alien := fun k o ho => by rw [hh]; exact h.alien k o ho }
theorem MInv.has_old (h : MInv A n0 M0 ρ0 w0 M ρ H w) {k : Nat} (hk : ρ.has k) : ρ0.has k \/ w0.heap.size <= k := by
 obtain ⟨i, sh, n, hi⟩ := hk
 by_cases hlt : i < n0
 ·left
  have hl := h.nle
  have hg : ρ0[i]? = some ρ0[i] := List.getElem?_eq_getElem (by omega)
  by_cases hgone : ρ0[i] = .gone
  ·rw [hgone] at hg; have := h.gon i (by omega) hg; rw [hi] at this; cases this
  ·have := h.env i _ hlt hgone hg; rw [hi] at this; exact ⟨i, sh, n, by rw [hg, <- this]⟩
 ·exact h.fresh i k sh n (by omega) hi
theorem MInv.grow {M' : Mem} {w' : World} (h : MInv A n0 M0 ρ0 w0 M ρ H w) (hle : M.le M') (ht : Touch [] w w') (hn : Newer [] w M M') (hh : Holds M' w') : MInv A n0 M0 ρ0 w0 M' ρ H w' :=
  { rel := h.rel.grow hle ht hn hh
    mem := Mem.le_trans h.mem hle
    nle := h.nle
    len := h.len
    env := h.env
    gon := h.gon
    touch := h.touch.trans ht.of_nil
    newer := ⟨fun b o v hv => by
        rcases hn.1 b o v hv with h1 | h1 | h1
        · exact h.newer.1 b o v h1
        · exact .inr (.inl (Nat.le_trans h.touch.size h1))
        · exact absurd h1 (Env.nil_has _),
      fun b es hv => by
        rcases hn.2 b es hv with h1 | h1 | h1
        · exact h.newer.2 b es h1
        · exact .inr (.inl (Nat.le_trans h.touch.size h1))
        · exact absurd h1 (Env.nil_has _)⟩
    fresh := h.fresh
    alien := fun k o ho => by
      obtain ⟨h1, h2, h3⟩ := h.alien k o ho
      exact ⟨by rw [ht.block k (Array.getElem?_eq_some_iff.1 h1).1 (Env.nil_has _)]; exact h1, h2, h3⟩ }
theorem MInv.lay {M' : Mem} {w' : World} (h : MInv A n0 M0 ρ0 w0 M ρ H w) {id cb sh n : Nat} {B : ABlock} (hid : ρ0.length <= id) (hg : H[id]? = some .gone) (hle : M.le M') (ht : Touch [] w w') (hn : Newer [] w M M') (hh : Holds M' w')
    (hcb : w.heap.size <= cb) (hlt : cb < w'.heap.size) (hfree : (∀ o, M'.cell cb o = none) /\ M'.map cb = none) (hB : BRel M' (ρ.set id (.here cb sh n)) w' B (.here cb sh n)) :
    MInv A n0 M0 ρ0 w0 M' (ρ.set id (.here cb sh n)) (H.set id B) w' /\ Env.le ρ (ρ.set id (.here cb sh n)) := by
  have h' := h.grow hle ht hn hh
  have hb := (List.getElem?_eq_some_iff.1 hg).1
  obtain ⟨r, hr, hBr⟩ := h.rel.spot hg
  have hr' : r = .gone := by cases r <;> simp only [BRel] at hBr; rfl
  subst hr'
  have hle' : Env.le ρ (ρ.set id (.here cb sh n)) := Env.le_set hr
  refine ⟨{ rel := ?_, mem := h'.mem, nle := h.nle, len := by simpa using h.len, env := fun i r hi hne hr => ?_, gon := fun i hi hr => ?_, touch := h'.touch, newer := h'.newer, fresh := fun i cb' sh' n' hi hr => ?_, alien := fun k o ho => ⟨(h'.alien k o ho).1, (h.alien k o ho).2.1, fun hk => by
    rcases has_set hk with hk | ⟨_, _, e⟩
    · exact (h.alien k o ho).2.2 hk
    · cases e; have := (Array.getElem?_eq_some_iff.1 (h.alien _ o ho).1).1; omega⟩ }, hle'⟩
  · refine SRel.turn h'.rel hb (fun _ _ _ => rfl) hfree (Nat.le_refl _) hlt (fun j cb' sh' n' hj hj' => ?_) hB (fun j B' hj hBj => ?_)
    · have := h.rel.lt j cb' sh' n' hj'; omega
    · obtain ⟨r', h1, h2⟩ := h'.rel.spot hBj
      rw [h1]
      exact BRel.mono h2 (Mem.le_refl _) hle' (fun _ _ _ _ => ⟨fun _ k => k, fun k => k⟩)
  · have := h.nle
    rw [List.getElem?_set, if_neg (by omega)]; exact h.env i r hi hne hr
  · rw [List.getElem?_set, if_neg (by omega)]; exact h.gon i hi hr
  · rw [List.getElem?_set] at hr
    split at hr
    · split at hr
      · cases hr; exact .inr (Nat.le_trans h.touch.size hcb)
      · cases hr
    · exact h.fresh i cb' sh' n' hi hr
theorem MInv.write (h : MInv A n0 M0 ρ0 w0 M ρ H w) {b cb sh n : Nat} {B B' : ABlock} {c c' : Array Value} {T : TypeId} (hB : H[b]? = some B) (hr : ρ[b]? = some (.here cb sh n))
    (hc : w.heap[cb]? = some (.cells c T (0, 0))) (hn : ∀ o, M.cell cb o = none) (hB' : BRel M ρ (w.setRow cb c') B' (.here cb sh n)) : MInv A n0 M0 ρ0 w0 M ρ (H.set b B') (w.setRow cb c') :=
  { h with
    rel := h.rel.write hB hr hc hn hB'
    touch := by
      refine ⟨h.touch.os, h.touch.tape, h.touch.output, h.touch.drawn, by rw [setRow_size]; exact h.touch.size, fun k hk hno => ?_⟩
      rw [setRow_other w cb k c' (fun e => ?_)]
      · exact h.touch.block k hk hno
      · subst e
        rcases h.has_old ⟨b, sh, n, hr⟩ with h1 | h1
        · exact hno h1
        · omega
    alien := fun k o ho => by
      obtain ⟨h1, h2, h3⟩ := h.alien k o ho
      exact ⟨by rw [setRow_other w cb k c' (fun e => h3 (e ▸ ⟨b, sh, n, hr⟩))]; exact h1, h2, h3⟩ }
theorem MInv.move {w' : World} (h : MInv A n0 M0 ρ0 w0 M ρ H w) {b cb sh n : Nat} {B : ABlock} (hb0 : n0 <= b) (hng : ρ[b]? ≠ some .gone) (hb : b < H.length)
  (ht : Touch [] w w') (hh : Holds M w') (hcb : w.heap.size <= cb) (hlt : cb < w'.heap.size)
  (hB : BRel M (ρ.set b (.here cb sh n)) w' B (.here cb sh n)) (hBo : ∀ cs, B ≠ .obj cs) :
  MInv A n0 M0 ρ0 w0 M (ρ.set b (.here cb sh n)) (killH (some b) (H.set b B)) w' := by
 have h' := h.grow (Mem.le_refl M) ht (Newer.refl _ _ _) hh
 have hnc : ∀ o, M.cell cb o = none := fun o => by
  cases hm : M.cell cb o with
  | none => rfl
  | some v => have := h.rel.cell_lt hm; omega
 have hnm : M.map cb = none := by
  cases hm : M.map cb with
  | none => rfl
  | some v => have := h.rel.map_lt hm; omega
 refine { rel := ?_, mem := h'.mem, nle := h.nle, len := by simpa using h.len, env := fun i r hi hne hr => ?_, gon := fun i hi hr => ?_, touch := h'.touch, newer := h'.newer, fresh := fun i cb' sh' n' hi hr => ?_, alien := fun k o ho => ⟨(h'.alien k o ho).1, (h.alien k o ho).2.1, fun hk => by
  rcases has_set hk with hk | ⟨_, _, e⟩
  ·exact (h.alien k o ho).2.2 hk
  ·cases e; have := (Array.getElem?_eq_some_iff.1 (h.alien _ o ho).1).1; omega⟩ }
 ·refine SRel.move h'.rel hb (fun _ _ _ => rfl) ⟨hnc, hnm⟩ hlt (Nat.le_refl _) (fun j cb' sh' n' hj hj' => ?_) hB hBo
  have := h.rel.lt j cb' sh' n' hj'; omega
 ·have := h.nle
  rw [List.getElem?_set, if_neg (by omega)]; exact h.env i r hi hne hr
 ·rw [List.getElem?_set, if_neg (by rintro rfl; exact hng (h.gon _ hi hr))]; exact h.gon i hi hr
 ·rw [List.getElem?_set] at hr
  split at hr
  ·split at hr
   ·cases hr; exact .inr (Nat.le_trans h.touch.size hcb)
   ·cases hr
  ·exact h.fresh i cb' sh' n' hi hr
theorem MInv.trans {M' : Mem} {ρ' : Env} {H' : List ABlock} {w' : World} (h : MInv A n0 M0 ρ0 w0 M ρ H w) {A' : Nat -> Obj -> Prop} {n1 : Nat} (k : MInv A' n1 M ρ w M' ρ' H' w') (hnn : n0 <= n1) : MInv A n0 M0 ρ0 w0 M' ρ' H' w' :=
  { rel := k.rel
    mem := Mem.le_trans h.mem k.mem
    nle := h.nle
    len := Nat.le_trans h.len k.len
    env := fun i r hi hne hr => k.env i r (Nat.lt_of_lt_of_le hi hnn) hne (h.env i r hi hne hr)
    gon := fun i hi hr => k.gon i (Nat.lt_of_lt_of_le hi h.len) (h.gon i hi hr)
    touch := ⟨k.touch.os.trans h.touch.os, k.touch.tape.trans h.touch.tape, k.touch.output.trans h.touch.output, Nat.le_trans h.touch.drawn k.touch.drawn, Nat.le_trans h.touch.size k.touch.size, fun b hb hno => by
      rw [k.touch.block b (Nat.lt_of_lt_of_le hb h.touch.size) (fun hh => by rcases h.has_old hh with h1 | h1; exact hno h1; omega)]
      exact h.touch.block b hb hno⟩
    newer := ⟨fun b o v hv => by
        rcases k.newer.1 b o v hv with h1 | h1 | h1
        · exact h.newer.1 b o v h1
        · exact .inr (.inl (Nat.le_trans h.touch.size h1))
        · rcases h.has_old h1 with h2 | h2
          · exact .inr (.inr h2)
          · exact .inr (.inl h2),
      fun b es hv => by
        rcases k.newer.2 b es hv with h1 | h1 | h1
        · exact h.newer.2 b es h1
        · exact .inr (.inl (Nat.le_trans h.touch.size h1))
        · rcases h.has_old h1 with h2 | h2
          · exact .inr (.inr h2)
          · exact .inr (.inl h2)⟩
    fresh := fun i cb sh n hi hr => by
      have hkl := k.nle
      by_cases hlt : i < n1
      · have hg : ρ[i]? = some ρ[i] := List.getElem?_eq_getElem (by omega)
        by_cases hgone : ρ[i] = .gone
        · rw [hgone] at hg; have := k.gon i (by omega) hg; rw [hr] at this; cases this
        · have := k.env i _ hlt hgone hg; rw [hr] at this; exact h.fresh i cb sh n hi (by rw [hg, <- this])
      · rcases k.fresh i cb sh n (by omega) hr with h1 | h1
        · exact h.has_old h1
        · exact .inr (Nat.le_trans h.touch.size h1)
    alien := fun j o ho => by
      obtain ⟨h1, h2, h3⟩ := h.alien j o ho
      have hj := (Array.getElem?_eq_some_iff.1 h1).1
      refine ⟨by rw [k.touch.block j hj h3]; exact h1, h2, fun hk => ?_⟩
      rcases k.has_old hk with h4 | h4
      · exact h3 h4
      · omega }
theorem MInv.le (h : MInv A n0 M0 ρ0 w0 M ρ H w) (hn : ρ0.length <= n0) : Env.le ρ0 ρ := fun i r hne hr => h.env i r (Nat.lt_of_lt_of_le (List.getElem?_eq_some_iff.1 hr).1 hn) hne hr
def Mem.lay (M : Mem) (cb : Nat) (us : List Value) : Mem := { cell := fun b o => if b = cb then us[o]? else M.cell b o, map := M.map }
theorem touch_alloc (w : World) (o : Obj) : Touch [] w (w.alloc o) :=
 ⟨rfl, rfl, rfl, Nat.le_refl _, by simp, fun k hk _ => by show (w.heap.push o)[k]? = w.heap[k]?; rw [Array.getElem?_push, if_neg (by omega)]⟩
theorem alloc_at (w : World) (o : Obj) : (w.alloc o).heap[w.heap.size]? = some o := by show (w.heap.push o)[w.heap.size]? = some o; simp
theorem Holds.grow {M : Mem} {w w' : World} (h : Holds M w) (ht : Touch [] w w') : Holds M w' := by
 have lt : ∀ b o v, w.cell? ⟨b, o, none⟩ = some v -> b < w.heap.size := fun b o v hv => World.block_lt_of_cell? w _ hv
 refine ⟨fun b o v hv => ?_, fun b es hv => ?_⟩
 ·have h1 := h.1 b o v hv
  rw [cell?_eq (ht.block b (lt b o v h1) (Env.nil_has b))]; exact h1
 ·have h1 := h.2 b es hv
  rw [ht.block b (Array.getElem?_eq_some_iff.1 h1).1 (Env.nil_has b)]; exact h1
theorem Mem.lay_spec {M : Mem} {w : World} (hh : Holds M w) (c : Array Value) (T : TypeId) :
  M.le (M.lay w.heap.size c.toList) /\ Newer [] w M (M.lay w.heap.size c.toList) /\ Holds (M.lay w.heap.size c.toList) (w.alloc (.cells c T)) /\ (M.lay w.heap.size c.toList).At w.heap.size 0 c.toList := by
 have hne : ∀ b o v, M.cell b o = some v -> b ≠ w.heap.size := fun b o v hv => Nat.ne_of_lt (World.block_lt_of_cell? w _ (hh.1 b o v hv))
 refine ⟨⟨fun b o v hv => by simp only [Mem.lay, if_neg (hne b o v hv)]; exact hv, fun _ _ h => h⟩, ⟨fun b o v hv => ?_, fun _ _ h => .inl h⟩, ⟨fun b o v hv => ?_, (hh.grow (touch_alloc w _)).2⟩, fun j v hv => by simpa [Mem.lay] using hv⟩
 ·simp only [Mem.lay] at hv
  split at hv
  ·rename_i e; subst e; exact .inr (.inl (Nat.le_refl _))
  ·exact .inl hv
 ·simp only [Mem.lay] at hv
  split at hv
  ·rename_i e; subst e; rw [World.cell?_alloc_new]; simpa using hv
  ·exact (hh.grow (touch_alloc w _)).1 b o v hv
end
end Go.E

/- Each operation of the value semantics is borne out by the model: boxes, closures, literals, lengths. -/
namespace Go.E
open Go
section inversion
variable {P : Program} {o : Op}
theorem inv_build {zero : List LV} {parts : List (Nat × Nat × AX)} (h : okOp P (.build zero parts) o = true) : ∃ t ps z it, o = .build t ps /\ P.info? t = some it /\ it.zero = some z /\ okConstL zero z.cells.toList = true /\
    ((∃ fs, P.underlying t = some (.struct fs) /\ okParts P (fun i => (fieldOf P t i).map fun p => (p.1, p.2.1)) parts ps.toList = true /\ ∀ f ∈ fs.toList, (szTy P f.type).isSome = true) \/
     (∃ n e ie, P.underlying t = some (.array n e) /\ P.info? e = some ie /\ okParts P (fun i => some (i * ie.size, ie.size)) parts ps.toList = true)) := by
  cases o <;> first | exact Bool.noConfusion (show false = true from h) | skip
  rename_i t ps
  simp only [okOp, Bool.and_eq_true] at h
  obtain ⟨⟨h1, h2⟩, h3⟩ := h
  unfold okZero at h1
  split at h1
  next z hz =>
    cases hi : P.info? t with
    | none => rw [hi] at hz; cases hz
    | some it =>
      rw [hi] at hz
      refine ⟨t, ps, z, it, rfl, hi, hz, h1, ?_⟩
      split at h2
      next fs hu =>
        rw [hu] at h3
        exact .inl ⟨fs, hu, h2, by rw [List.all_eq_true] at h3; exact h3⟩
      next n e hu =>
        rw [hu] at h3
        simp only [szTy] at h2 h3
        cases he : P.info? e with
        | none => rw [he] at h3; cases h3
        | some ie =>
          rw [he] at h2
          exact .inr ⟨n, e, ie, hu, he, h2⟩
      next => cases h2
  next => cases h1
theorem inv_buildSl {sz n : Nat} {zero : SV} {parts : List (Nat × AX)} (h : okOp P (.buildSl sz n zero parts) o = true) : ∃ t ps e ie z, o = .buildSlice t n ps /\ P.underlying t = some (.slice e) /\ P.info? e = some ie /\ ie.size = sz /\ 0 < sz /\ ie.zero = some z /\ okParts2 parts ps.toList = true := by
 cases o <;> first | exact Bool.noConfusion (show false = true from h) | skip
 rename_i t m ps
 simp only [okOp, Bool.and_eq_true, beq_iff_eq, decide_eq_true_eq] at h
 obtain ⟨⟨⟨⟨rfl, h1⟩, h2⟩, h3⟩, h4⟩ := h
 split at h4
 next e hu =>
  simp only [slSz, hu] at h1
  cases hi : P.info? e with
  | none => rw [hi] at h1; cases h1
  | some ie =>
   rw [hi] at h1
   unfold okZero at h4
   split at h4
   next z hz => rw [hi] at hz; exact ⟨t, ps, e, ie, z, rfl, hu, hi, by simpa using h1, h2, hz, h3⟩
   next => cases h4
 next => cases h4
theorem okXs_one {x : AX} {ys : List Operand} (h : okXs [x] ys = true) : ∃ y, ys = [y] /\ okX x y = true := by
 match ys, h with
 | [y], h => exact ⟨y, rfl, by simpa [okXs] using h⟩
 | [], h => simp [okXs] at h
 | _ :: _ :: _, h => simp [okXs] at h
theorem okXs_two {x x' : AX} {ys : List Operand} (h : okXs [x, x'] ys = true) : ∃ y y', ys = [y, y'] /\ okX x y = true /\ okX x' y' = true := by
 match ys, h with
 | [y, y'], h => exact ⟨y, y', rfl, by simpa [okXs] using h⟩
 | [_], h => simp [okXs] at h
 | [], h => simp [okXs] at h
 | _ :: _ :: _ :: _, h => simp [okXs] at h
theorem inv_len {st : Bool} {x : AX} (h : okOp P (.len st x) o = true) : ∃ xs ts y t d, o = .call { callee := .builtin .len, args := xs, argTypes := ts } /\ xs.toList = [y] /\ okX x y = true /\ ts[0]? = some t /\ P.underlying t = some d /\ ((st = false /\ ∃ e, d = .slice e) \/ (st = true /\ d = .string)) := by
 cases o <;> first | exact Bool.noConfusion (show false = true from h) | skip
 rename_i c
 obtain ⟨callee, xs, ts⟩ := c
 cases callee <;> first | exact Bool.noConfusion (show false = true from h) | skip
 rename_i b
 cases b <;> first | exact Bool.noConfusion (show false = true from h) | skip
 simp only [okOp, Bool.and_eq_true] at h
 obtain ⟨h1, h2⟩ := h
 obtain ⟨y, hy, hx⟩ := okXs_one h1
 split at h2
 next t ht =>
  split at h2
  next e hu => exact ⟨xs, ts, y, t, _, rfl, hy, hx, ht, hu, .inl ⟨by simpa using h2, e, rfl⟩⟩
  next hu => exact ⟨xs, ts, y, t, _, rfl, hy, hx, ht, hu, .inr ⟨h2, rfl⟩⟩
  next => cases h2
 next => cases h2
theorem inv_lenArr {n : Nat} (h : okOp P (.lenArr n) o = true) : ∃ xs ts y t d, o = .call { callee := .builtin .len, args := xs, argTypes := ts } /\ xs = #[y] /\ ts[0]? = some t /\ P.underlying t = some d /\ ((∃ e, d = .array n e) \/ ∃ a e, d = .pointer a /\ P.underlying a = some (.array n e)) := by
  cases o <;> first | exact Bool.noConfusion (show false = true from h) | skip
  rename_i c
  obtain ⟨callee, xs, ts⟩ := c
  cases callee <;> first | exact Bool.noConfusion (show false = true from h) | skip
  rename_i b
  cases b <;> first | exact Bool.noConfusion (show false = true from h) | skip
  simp only [okOp, Bool.and_eq_true, decide_eq_true_eq] at h
  obtain ⟨h1, h2⟩ := h
  obtain ⟨y, hy⟩ := Array.size_eq_one_iff.1 h1
  split at h2
  next t ht =>
    split at h2
    next m e hu => have e' : n = m := by simpa using h2
                   subst e'; exact ⟨xs, ts, y, t, _, rfl, hy, ht, hu, .inl ⟨e, rfl⟩⟩
    next a hu =>
      split at h2
      next m e hu' => have e' : n = m := by simpa using h2
                      subst e'; exact ⟨xs, ts, y, t, _, rfl, hy, ht, hu, .inr ⟨a, e, rfl, hu'⟩⟩
      next => cases h2
    next => cases h2
  next => cases h2
end inversion
section
variable {P : Program} {A : Nat -> Obj -> Prop} {dfs : List Deferred} {M0 : Mem} {ρ0 : Env} {w0 : World} {M : Mem} {ρ : Env} {H : List ABlock} {w : World} {o : Oper} {a : Act} {K : Act -> World -> Prop} {Q : Exit -> Act -> World -> Prop} {fr : List LV} {k : AK} {n0 id : Nat}
theorem snd_boxS (hI : MInv A n0 M0 ρ0 w0 M ρ H w) (hf : FRel M ρ fr a.tmps.toList) {x : AX} (hok : okOp P (.boxS x) o.op = true) (h : aop P n0 id fr H (.boxS x) k)
  (hK : ∀ v H' kl f x w', k v H' kl f -> f -> Nxt A n0 M0 ρ0 w0 M ρ id v H' kl x w' -> K (a.put o.dst x) w') : o.wp P a w K Q := by
 obtain ⟨t, y, ho, hx⟩ := inv_boxS hok
 simp only [aop] at h
 have hr := okX_rel hf hx
 generalize x.ev fr = v at h hr
 unfold exO at h
 split at h
 next sv hs =>
  have hv := frz_nil_val hr hs
  obtain ⟨h1, h2, h3, h4⟩ := Mem.lay_spec hI.rel.holds (a.eval y).cells t
  refine wp_value (x := .pointer (some ⟨w.heap.size, 0, none⟩)) (w' := w.alloc (.cells (a.eval y).cells t)) ?_ (hK _ _ _ _ _ _ h trivial ⟨_, ρ, hI.grow h1 (touch_alloc w _) h2 h3, fun _ _ h => h, fun u z hz => hz.mono h1 (Env.le_refl _), ?_⟩)
  ·simp [execOp, ho, Instr.box, newVar, newRow]
  ·rw [lval_s]
   exact vrel_of_one (by simp only [CRel]; exact ⟨w.heap.size, 0, (a.eval y).cells.toList, rfl, (crel_cells hv.cells).mono h1, h4⟩) rfl
 next => cases h
theorem snd_mkfn (hI : MInv A n0 M0 ρ0 w0 M ρ H w) (hf : FRel M ρ fr a.tmps.toList) {f : FuncId} {first caps : List AX} (hok : okOp P (.mkfn f first caps) o.op = true) (h : aop P n0 id fr H (.mkfn f first caps) k)
  (hK : ∀ v H' kl f x w', k v H' kl f -> f -> Nxt A n0 M0 ρ0 w0 M ρ id v H' kl x w' -> K (a.put o.dst x) w') : o.wp P a w K Q := by
 obtain ⟨fs, cs, ho, h1, h2⟩ := inv_mkfn hok
 simp only [aop, Bool.and_eq_true] at h
 obtain ⟨⟨h3, h4⟩, h⟩ := h
 refine wp_value (x := .func (.func f) (fs.map a.eval) (cs.map a.eval)) (w' := w) ?_ (hK _ _ _ _ _ _ h trivial (nxt_same hI (lval_of_one ?_ rfl)))
 ·simp [execOp, ho, Instr.makeFunc]
 ·simp only [LRel]
  exact ⟨fs.toList.map a.eval, cs.toList.map a.eval, by simp [<- Array.toList_map], frel_lrelC (okXs_rel hf h1) h3, frel_lrelC (okXs_rel hf h2) h4⟩
theorem LV.cells_rel {v : LV} {x : Value} {cs : List LV} (h : LVal M ρ v x) (hc : v.cells = some cs) : LRelC M ρ cs (ones x.cells.toList) := by
 cases v with
 | s v =>
  simp only [LV.cells, Option.some.injEq] at hc
  subst hc
  rw [lval_s] at h
  exact lrelC_map_s.2 (crel_cells h.cells)
 | agg cs' =>
  simp only [LV.cells, Option.some.injEq] at hc
  subst hc
  obtain ⟨us, rfl, hu⟩ := h.agg
  simpa [Value.cells] using hu
 | any => simp [LV.cells] at hc
 | tup => simp [LV.cells] at hc
 | _ =>
  simp only [LV.cells, Option.some.injEq] at hc
  subst hc
  have h1 := h.one rfl (by simp)
  obtain ⟨y, e, hy⟩ := h1.one rfl (by simp)
  cases e
  rw [hy]
  simp only [ones_cons, ones_nil, LRelC]
  exact ⟨_, _, rfl, h1, rfl⟩
theorem foldl_splice (cs : List Value) (off : Nat) (z : Array Value) (hfit : off + cs.length <= z.size) :
  ((cs.zipIdx 0).foldl (fun cs (x : Value × Nat) => cs.setIfInBounds (off + x.2) x.1) z).toList = z.toList.take off ++ cs ++ z.toList.drop (off + cs.length) := by
 obtain ⟨h1, h2⟩ := Great.foldl_set off cs 0 z
 apply List.ext_getElem?
 intro j
 rw [Array.getElem?_toList, h2 j]
 rw [List.append_assoc]
 have hlt : (List.take off z.toList).length = off := by simp; omega
 by_cases hj : j < off
 ·rw [if_neg (by omega), List.getElem?_append_left (by omega)]
  simp [hj]
 ·rw [List.getElem?_append_right (by omega), hlt]
  by_cases hj2 : j < off + cs.length
  ·rw [if_pos (by omega), List.getElem?_append_left (by omega)]; simp
  ·rw [if_neg (by omega), List.getElem?_append_right (by omega), List.getElem?_drop]
   simp only [Array.getElem?_toList]
   congr 1; omega
theorem fills_rel {place : Nat -> Option (Nat × Nat)} {place' : Nat -> Option (Nat × Nat)} (hp : ∀ i p, place i = some p -> place' i = some p) (hf : FRel M ρ fr a.tmps.toList) :
  ∀ {parts : List (Nat × Nat × AX)} {ps : List (Nat × Operand)} {z : List LV} {zs : Array Value} {cs : List LV}, okParts P place parts ps = true -> LRelC M ρ z (ones zs.toList) ->
   fills z (parts.map fun p => (p.1, p.2.1, p.2.2.ev fr)) = some cs -> ∃ r, Instr.fill place' zs (ps.map fun p => (p.1, a.eval p.2)) = some r /\ LRelC M ρ cs (ones r.toList)
 | [], [], z, zs, cs, _, hz, h => by simp only [List.map_nil, fills, Option.some.injEq] at h; subst h; exact ⟨zs, rfl, hz⟩
 | [], _ :: _, _, _, _, h, _, _ => by simp [okParts] at h
 | _ :: _, [], _, _, _, h, _, _ => by simp [okParts] at h
 | (off, n, x) :: parts, (i, y) :: ps, z, zs, cs, hok, hz, h => by
  simp only [okParts, Bool.and_eq_true, beq_iff_eq] at hok
  obtain ⟨⟨h1, h2⟩, h3⟩ := hok
  simp only [List.map_cons, fills] at h
  split at h
  next ds hd =>
   split at h
   next hfit =>
    have hr := LV.cells_rel (okX_rel hf h2) hd
    have hlen : (a.eval y).cells.size = ds.length := by have := hr.length; simpa using this
    have hzl : zs.size = z.length := by have := hz.length; simpa using this
    obtain ⟨r, hr1, hr2⟩ := fills_rel hp hf (parts := parts) (ps := ps) (zs := ((a.eval y).cells.toList.zipIdx 0).foldl (fun cs (x : Value × Nat) => cs.setIfInBounds (off + x.2) x.1) zs) h3 (by
     rw [foldl_splice _ _ _ (by simp only [Array.length_toList]; omega)]
     simp only [ones_append, ones_take, ones_drop]
     have e : (a.eval y).cells.toList.length = n := by simp only [Array.length_toList]; omega
     rw [e]
     exact ((hz.take off).append hr).append (hz.drop (off + n))) h
    refine ⟨r, ?_, hr2⟩
    simp only [List.map_cons]
    unfold Instr.fill
    simp only [hp _ _ h1]
    rw [if_neg (by simp; omega)]
    rw [<- hr1]
    congr 1
    rw [<- Array.foldl_toList, Array.toList_zipIdx]
   next => cases h
  next => cases h
theorem places_of {fs : List Field} (h : ∀ f ∈ fs, (szTy P f.type).isSome = true) : ∃ places, fs.mapM (fun f => (P.info? f.type).map fun i => (f.offset, i.size)) = some places /\
  ∀ i : Nat, places[i]? = (fs[i]?).bind fun (f : Field) => (szTy P f.type).map fun n => (f.offset, n) := by
 induction fs with
 | nil => exact ⟨[], by simp, by simp⟩
 | cons f fs ih =>
  obtain ⟨ps, h1, h2⟩ := ih fun g hg => h g (by simp [hg])
  have hf := h f (by simp)
  unfold szTy at hf
  cases hi : P.info? f.type with
  | none => rw [hi] at hf; cases hf
  | some it =>
   refine ⟨(f.offset, it.size) :: ps, by simp [hi, h1], fun i => ?_⟩
   cases i with
   | zero => simp [szTy, hi]
   | succ i => simpa using h2 i
theorem snd_build (hI : MInv A n0 M0 ρ0 w0 M ρ H w) (hf : FRel M ρ fr a.tmps.toList) {zero : List LV} {parts : List (Nat × Nat × AX)} (hok : okOp P (.build zero parts) o.op = true) (h : aop P n0 id fr H (.build zero parts) k)
  (hK : ∀ v H' kl f x w', k v H' kl f -> f -> Nxt A n0 M0 ρ0 w0 M ρ id v H' kl x w' -> K (a.put o.dst x) w') : o.wp P a w K Q := by
 obtain ⟨t, ps, z, it, ho, hi, hz, hzc, hps⟩ := inv_build hok
 simp only [aop] at h
 unfold exO at h
 split at h
 next cs hcs =>
  have fin : ∀ r : Array Value, P.built t (ps.map fun p => (p.1, a.eval p.2)).toList = some r -> LRelC M ρ cs (ones r.toList) -> o.wp P a w K Q := by
   intro r hb hr
   refine wp_value (x := .agg r) (w' := w) ?_ (hK _ _ _ _ _ _ h trivial (nxt_same hI (by simpa using lval_agg hr)))
   have hrun := run_build (P := P) w t (ps.map fun p => (p.1, a.eval p.2)) r hb
   simp [execOp, ho, hrun]
  have hz0 := okConstL_rel (M := M) (ρ := ρ) _ _ hzc
  rcases hps with ⟨fs, hu, hpp, hsz⟩ | ⟨n, e, ie, hu, hie, hpp⟩
  ·obtain ⟨places, hp1, hp2⟩ := places_of hsz
   obtain ⟨r, hr1, hr2⟩ := fills_rel (place' := fun i => places.toArray[i]?) (fun i p hp => by
    simp only [fieldOf, hu] at hp
    simp only [List.getElem?_toArray, hp2]
    cases hfi : fs[i]? with
    | none => rw [hfi] at hp; cases hp
    | some f =>
     rw [hfi] at hp
     simp only [Array.getElem?_toList, hfi, Option.bind_some]
     simp only [Option.bind_some, Option.map_map, Option.map_eq_some_iff, Function.comp] at hp
     obtain ⟨n, hn, rfl⟩ := hp
     rw [hn]; rfl) hf hpp hz0 hcs
   refine fin r ?_ hr2
   unfold Program.built
   rw [hi, hu]
   simp only [hz, hp1, Array.toList_map]
   exact hr1
  ·obtain ⟨r, hr1, hr2⟩ := fills_rel (place' := fun i => some (i * ie.size, ie.size)) (fun i p hp => hp) hf hpp hz0 hcs
   refine fin r ?_ hr2
   unfold Program.built
   rw [hi, hu]
   simp only [hz, hie, Array.toList_map]
   exact hr1
 next => cases h
end
end Go.E

/- Each operation of the value semantics is borne out by the model: slice literals, lengths, slice expressions. -/
namespace Go.E
open Go
theorem VRelL.cells {M : Mem} : ∀ {xs : List SV} {vs : List Value}, VRelL M xs vs -> CRelC M xs (vs.map fun v => v.cells.toList)
 | [], vs, h => by simp [VRelL] at h; subst h; simp [CRelC]
 | x :: xs, vs, h => by
  obtain ⟨y, ys, rfl, h1, h2⟩ := h
  exact crelC_cons h1.cells h2.cells
theorem swap_range {α : Type} : ∀ (l : List (Nat × α)) (s : Nat), l.map (·.1) = List.range' s l.length -> l = ((l.map (·.2)).zipIdx s).map fun x => (x.2, x.1)
 | [], _, _ => rfl
 | (i, v) :: l, s, h => by
  simp only [List.map_cons, List.length_cons, List.range'_succ, List.cons.injEq] at h
  simp only [List.map_cons, List.zipIdx_cons, List.cons.injEq, Prod.mk.injEq, and_true]
  exact ⟨h.1, swap_range l (s + 1) h.2⟩
theorem okParts2_spec : ∀ {parts : List (Nat × AX)} {ps : List (Nat × Operand)}, okParts2 parts ps = true -> ps.map (·.1) = parts.map (·.1) /\ okXs (parts.map (·.2)) (ps.map (·.2)) = true
 | [], [], _ => ⟨rfl, rfl⟩
 | [], _ :: _, h => by simp [okParts2] at h
 | _ :: _, [], h => by simp [okParts2] at h
 | (i, x) :: parts, (j, y) :: ps, h => by
  simp only [okParts2, Bool.and_eq_true, beq_iff_eq] at h
  obtain ⟨⟨rfl, h1⟩, h2⟩ := h
  obtain ⟨h3, h4⟩ := okParts2_spec h2
  exact ⟨by simp [h3], by simp [okXs, h1, h4]⟩
section
variable {P : Program} {A : Nat -> Obj -> Prop} {dfs : List Deferred} {M0 : Mem} {ρ0 : Env} {w0 : World} {M : Mem} {ρ : Env} {H : List ABlock} {w : World} {o : Oper} {a : Act} {K : Act -> World -> Prop} {Q : Exit -> Act -> World -> Prop} {fr : List LV} {k : AK} {n0 id : Nat}
theorem frzAll_length {g : LV -> Option SV} : ∀ {vs : List LV} {xs : List SV}, frzAll g vs = some xs -> xs.length = vs.length
 | [], xs, h => by simp [frzAll] at h; subst h; rfl
 | v :: vs, xs, h => by
  simp only [frzAll] at h
  split at h
  ·split at h
   ·rename_i as has; cases h; simp [frzAll_length has]
   ·cases h
  ·cases h
theorem lenL {sz : Nat} {xs : List SV} {uss : List (List Value)} (h : CRelC M xs uss) (hs : ∀ e ∈ xs, e.cells.length = sz) : ∀ u ∈ uss, u.length = sz := by
 intro u hu
 obtain ⟨i, hi⟩ := List.getElem?_of_mem hu
 obtain ⟨c, hc, hcu⟩ := h.get' hi
 have := (crel_cells hcu).length
 rw [ones_length] at this
 rw [this]; exact hs c (List.mem_of_getElem? hc)
theorem flatten_len {uss : List (List Value)} {sz : Nat} (hs : ∀ u ∈ uss, u.length = sz) : uss.flatten.length = uss.length * sz := by
 induction uss with
 | nil => simp
 | cons u us ih => rw [List.flatten_cons, List.length_append, hs u (by simp), ih (fun u hu => hs u (by simp [hu])), List.length_cons, Nat.succ_mul, Nat.add_comm]
theorem snd_buildSl (hI : MInv A n0 M0 ρ0 w0 M ρ H w) (hf : FRel M ρ fr a.tmps.toList) {sz n : Nat} {zero : SV} {parts : List (Nat × AX)} (hok : okOp P (.buildSl sz n zero parts) o.op = true) (h : aop P n0 id fr H (.buildSl sz n zero parts) k)
    (hK : ∀ v H' kl f x w', k v H' kl f -> f -> Nxt A n0 M0 ρ0 w0 M ρ id v H' kl x w' -> K (a.put o.dst x) w') : o.wp P a w K Q := by
  obtain ⟨t, ps, e, ie, z, ho, hu, hie, hsz, hpos, hz, hps⟩ := inv_buildSl hok
  subst hsz
  simp only [aop] at h
  obtain ⟨hn20, hn24, h⟩ := h
  unfold exO at h
  split at h
  next xs hxs =>
    obtain ⟨hidx, hel, _, h⟩ := h
    obtain ⟨hp1, hp2⟩ := okParts2_spec hps
    have hv := frzAll_val (H := []) (M.le_refl) (fun i B r h => by simp at h) (okXs_rel hf hp2) (by rw [List.map_map]; exact hxs)
    have hc := hv.cells
    have hsl := lenL hc hel
    have hxl : xs.length = n := by
      have h1 := frzAll_length hxs
      have h2 : parts.length = n := by have := congrArg List.length hidx; simpa using this
      rw [h1, List.length_map, h2]
    have hpl : ps.toList.length = n := by
      have h1 := congrArg List.length hp1
      have h2 : parts.length = n := by have := congrArg List.length hidx; simpa using this
      simpa [h2] using h1
    -- the values
    let vs : List Value := ps.toList.map fun p => a.eval p.2
    have hvs : (ps.map fun p => (p.1, a.eval p.2)).toList = (vs.zipIdx 0).map fun x => (x.2, x.1) := by
      have := swap_range (ps.toList.map fun p => (p.1, a.eval p.2)) 0 (by
        simp only [List.map_map, List.length_map, hpl]
        rw [show ((fun x : Nat × Value => x.1) ∘ fun p : Nat × Operand => (p.1, a.eval p.2)) = (fun p => p.1) from rfl, hp1, hidx, List.range_eq_range'])
      rw [Array.toList_map, this]
      simp only [List.map_map]
      rfl
    have hcell : ∀ v ∈ vs, v.cells.size = ie.size := by
      intro v hv
      have := hsl v.cells.toList (by
        simp only [vs, List.mem_map] at hv ⊢
        obtain ⟨p, hp, rfl⟩ := hv
        exact ⟨_, ⟨_, ⟨p, hp, rfl⟩, rfl⟩, rfl⟩)
      simpa using this
    have hrun : (Instr.buildSlice t n (ps.map fun p => (p.1, a.eval p.2))).run P w = .ok (.slice (some ⟨w.heap.size, 0, none⟩) n n) (w.alloc (.cells (vs.flatMap fun v => v.cells.toList).toArray e)) := by
      by_cases hn0 : n = 0
      · subst hn0
        have hvn : vs = [] := List.eq_nil_of_length_eq_zero (by simp only [vs, List.length_map]; exact hpl)
        have hpn : (ps.map fun p => (p.1, a.eval p.2)).toList = [] := by rw [hvs, hvn]; rfl
        have hpn' : (ps.map fun p => (p.1, a.eval p.2)) = #[] := by simpa using hpn
        rw [hpn', hvn]
        simp [Instr.buildSlice, run_underlying hu, sizeOf, typeInfo, hie, Instr.fill, newRow, Array.range_zero']
      · refine run_buildSlice w t e n _ _ ie z hu hie hz (by omega) (by
          have : 0 < n * ie.size := Nat.mul_pos (by omega) hpos
          omega) ?_
        rw [hvs]
        exact Great.fill_whole hpos vs _ hcell (by simp [vs, hpl])
    obtain ⟨h1, h2, h3, h4⟩ := Mem.lay_spec hI.rel.holds (vs.flatMap fun v => v.cells.toList).toArray e
    refine wp_value (x := .slice (some ⟨w.heap.size, 0, none⟩) n n) (w' := w.alloc (.cells (vs.flatMap fun v => v.cells.toList).toArray e)) ?_ (hK _ _ _ _ _ _ h trivial ⟨_, ρ, hI.grow h1 (touch_alloc w _) h2 h3, fun _ _ h => h, fun u y hy => hy.mono h1 (Env.le_refl _), ?_⟩)
    · simp [execOp, ho, hrun]
    · refine lval_of_one ?_ rfl
      simp only [LRel, CRel]
      refine ⟨some ⟨w.heap.size, 0, none⟩, n, rfl, some ⟨w.heap.size, 0, none⟩, n, n, rfl, hxl.symm, Nat.le_refl _, by have : (2:Nat) ^ 20 <= maxLen := by decide
                                                                                                                       omega, .inr ⟨w.heap.size, 0, ie.size, _, rfl, hc.mono h1, hsl, ?_⟩⟩
      have e1 : (List.map (fun v : Value => v.cells.toList) (List.map a.eval (List.map (fun x => x.2) ps.toList))).flatten = vs.flatMap fun v => v.cells.toList := by
        simp only [vs, List.flatMap_def, List.map_map]
        rfl
      rw [e1]
      exact h4
  next => cases h
theorem snd_len (hI : MInv A n0 M0 ρ0 w0 M ρ H w) (hf : FRel M ρ fr a.tmps.toList) {st : Bool} {x : AX} (hok : okOp P (.len st x) o.op = true) (h : aop P n0 id fr H (.len st x) k)
  (hK : ∀ v H' kl f x w', k v H' kl f -> f -> Nxt A n0 M0 ρ0 w0 M ρ id v H' kl x w' -> K (a.put o.dst x) w') : o.wp P a w K Q := by
 obtain ⟨xs, ts, y, t, d, ho, hxs, hx, ht, hu, hd⟩ := inv_len hok
 simp only [aop] at h
 have hr := okX_rel hf hx
 have hxs' : xs = #[y] := by simpa using congrArg List.toArray hxs
 have run : ∀ ad len cap, a.eval y = .slice ad len cap -> (∃ e, d = .slice e) -> (execOp a.eval o).run P w = .ok (.value (.int .i64 len)) w := by
  rintro ad len cap e ⟨el, rfl⟩
  simp [execOp, ho, resolve, invoke, builtin, Builtin.len_, hxs', e, ht, run_underlying hu, goInt]
 have sl : ∀ ys : List SV, CRel M (.slice ys) [a.eval y] -> (∃ e, d = .slice e) -> k (.s (.int .i64 ys.length)) H none (ys.length <= maxLen) -> o.wp P a w K Q := by
  intro ys hc hd hk
  simp only [CRel] at hc
  obtain ⟨ad, len, cap, e, rfl, hlc, hcm, _⟩ := hc
  have e' : a.eval y = .slice ad ys.length cap := by simpa using e
  exact wp_value (run _ _ _ e' hd) (hK _ _ _ _ _ _ hk (by omega) (nxt_same hI lval_int))
 generalize x.ev fr = v at h hr
 unfold lenK at h
 split at h
 next ys =>
  rcases hd with ⟨_, hd⟩ | ⟨e, _⟩
  ·rw [lval_s] at hr; exact sl ys (hr.one rfl) hd h
  ·cases e
 next ys =>
  rcases hd with ⟨_, hd⟩ | ⟨e, _⟩
  ·have h1 := hr.one rfl (by simp)
   simp only [LRel] at h1
   obtain ⟨_, _, _, h2⟩ := h1
   exact sl ys h2 hd h
  ·cases e
 next b off len sz c =>
  rcases hd with ⟨_, hd⟩ | ⟨e, _⟩
  ·have h1 := hr.one rfl (by simp)
   simp only [LRel] at h1
   obtain ⟨r, ad, cap, hρ, hg, e, hlc, hcm, _⟩ := h1
   have e' : a.eval y = .slice ad len cap := by simpa using e
   exact wp_value (run _ _ _ e' hd) (hK _ _ _ _ _ _ h (by omega) (nxt_same hI lval_int))
  ·cases e
 next s =>
  rcases hd with ⟨e, _⟩ | ⟨_, rfl⟩
  ·cases e
  ·rw [lval_s] at hr
   have h1 := hr.one rfl
   simp only [CRel] at h1
   have e' : a.eval y = .string s := by simpa using h1
   exact wp_value (x := .int .i64 s.size) (w' := w) (by simp [execOp, ho, resolve, invoke, builtin, Builtin.len_, hxs', e', ht, run_underlying hu, goInt]) (hK _ _ _ _ _ _ h trivial (nxt_same hI lval_int))
 next => cases h
theorem snd_lenArr (hI : MInv A n0 M0 ρ0 w0 M ρ H w) (hf : FRel M ρ fr a.tmps.toList) {n : Nat} (hok : okOp P (.lenArr n) o.op = true) (h : aop P n0 id fr H (.lenArr n) k)
  (hK : ∀ v H' kl f x w', k v H' kl f -> f -> Nxt A n0 M0 ρ0 w0 M ρ id v H' kl x w' -> K (a.put o.dst x) w') : o.wp P a w K Q := by
 obtain ⟨xs, ts, y, t, d, ho, hxs, ht, hu, hd⟩ := inv_lenArr hok
 simp only [aop] at h
 refine wp_value (x := .int .i64 n) (w' := w) ?_ (hK _ _ _ _ _ _ h trivial (nxt_same hI lval_int))
 rcases hd with ⟨e, rfl⟩ | ⟨b, e, rfl, hu'⟩
 ·simp [execOp, ho, resolve, invoke, builtin, Builtin.len_, hxs, ht, run_underlying hu, goInt]
 ·simp [execOp, ho, resolve, invoke, builtin, Builtin.len_, hxs, ht, run_underlying hu, run_underlying hu', goInt]
def ORel (M : Mem) (ρ : Env) : Option LV -> Option Value -> Prop
 | none, x => x = none
 | some v, x => ∃ y, x = some y /\ LVal M ρ v y
theorem okXo_rel (hf : FRel M ρ fr a.tmps.toList) : ∀ {x : Option AX} {y : Option Operand}, okXo x y = true -> ORel M ρ (optEv fr x) (y.map a.eval)
 | none, none, _ => rfl
 | none, some _, h => by simp [okXo] at h
 | some _, none, h => by simp [okXo] at h
 | some x, some y, h => ⟨_, rfl, okX_rel hf h⟩
theorem bound_run {v : Option LV} {x : Option Value} {d l : Nat} (hr : ORel M ρ v x) (hb : boundOf d v = some l) : (v = none /\ x = none /\ l = d) \/ ∃ K, v.isSome = true /\ x = some (.int K l) := by
 unfold boundOf at hb
 split at hb
 ·simp only [ORel] at hr; cases hb; exact .inl ⟨rfl, hr, rfl⟩
 ·rename_i K n
  simp only [ORel] at hr
  obtain ⟨y, rfl, hy⟩ := hr
  split at hb
  ·cases hb
   rename_i h0
   refine .inr ⟨K, rfl, ?_⟩
   rw [lrel_int rfl hy, Int.toNat_of_nonneg h0]
  ·cases hb
 ·cases hb
theorem bounds_run {b : Bool} {len cap l h m : Nat} {lo hi mx : Option LV} {xlo xhi xmx : Option Value} (hlo : ORel M ρ lo xlo) (hhi : ORel M ρ hi xhi) (hmx : ORel M ρ mx xmx)
  (h1 : boundOf 0 lo = some l) (h2 : boundOf len hi = some h) (h3 : boundOf cap mx = some m) (hs : mx.isSome = true -> hi.isSome = true) (hl : l <= h) (hm : h <= m) (hc : m <= cap) :
  (Instr.sliceBounds b len cap xlo xhi xmx).run P w = .ok (l, h, m) w := by
 rcases bound_run hmx h3 with ⟨rfl, rfl, rfl⟩ | ⟨K3, hm1, rfl⟩
 ·rcases bound_run hhi h2 with ⟨rfl, rfl, rfl⟩ | ⟨K2, _, rfl⟩
  ·rcases bound_run hlo h1 with ⟨rfl, rfl, rfl⟩ | ⟨K1, _, rfl⟩
   ·simp [Instr.sliceBounds]
   ·have : (l : Int) <= h := by omega
    simp [Instr.sliceBounds, run_sliceBound, this]
  ·have hh : (h : Int) <= m := by omega
   rcases bound_run hlo h1 with ⟨rfl, rfl, rfl⟩ | ⟨K1, _, rfl⟩
   ·simp [Instr.sliceBounds, run_sliceBound, hh]
   ·have : (l : Int) <= h := by omega
    simp [Instr.sliceBounds, run_sliceBound, hh, this]
 ·have hs := hs hm1
  rcases bound_run hhi h2 with ⟨rfl, _, _⟩ | ⟨K2, _, rfl⟩
  ·cases hs
  ·have hh : (h : Int) <= m := by omega
   have hcc : (m : Int) <= cap := by omega
   rcases bound_run hlo h1 with ⟨rfl, rfl, rfl⟩ | ⟨K1, _, rfl⟩
   ·simp [Instr.sliceBounds, run_sliceBound, hh, hcc]
   ·have : (l : Int) <= h := by omega
    simp [Instr.sliceBounds, run_sliceBound, hh, hcc, this]
end
end Go.E

/- Each operation of the value semantics is borne out by the model: slice expressions, comparisons, max and min. -/
namespace Go.E
open Go
section inversion
variable {P : Program} {o : Op}
theorem inv_slice {sz : Nat} {x : AX} {lo hi mx : Option AX} (h : okOp P (.slice sz x lo hi mx) o = true) : ∃ t y lo' hi' mx', o = .slice t y lo' hi' mx' /\ slSz P t = some sz /\ okX x y = true /\ okXo lo lo' = true /\ okXo hi hi' = true /\ okXo mx mx' = true /\ (mx = none \/ hi.isSome = true) := by
 cases o <;> first | exact Bool.noConfusion (show false = true from h) | skip
 simp only [okOp, Bool.and_eq_true, beq_iff_eq, Bool.or_eq_true, Option.isNone_iff_eq_none] at h
 exact ⟨_, _, _, _, _, rfl, h.1.1.1.1.1, h.1.1.1.1.2, h.1.1.1.2, h.1.1.2, h.1.2, h.2⟩
theorem inv_sliceArr {n sz : Nat} {x : AX} {lo hi : Option AX} (h : okOp P (.sliceArr n sz x lo hi) o = true) : ∃ t y lo' hi', o = .slice t y lo' hi' none /\ (arrSz P t = some (n, sz) \/ ptrArrSz P t = some (n, sz)) /\ okX x y = true /\ okXo lo lo' = true /\ okXo hi hi' = true := by
 cases o <;> first | exact Bool.noConfusion (show false = true from h) | skip
 rename_i t y lo' hi' mx'
 cases mx' <;> first | exact Bool.noConfusion (show false = true from h) | skip
 simp only [okOp, Bool.and_eq_true, beq_iff_eq, Bool.or_eq_true] at h
 exact ⟨_, _, _, _, rfl, h.1.1.1, h.1.1.2, h.1.2, h.2⟩
theorem inv_eql {ag ne : Bool} {ts : List Tag} {x y : AX} (h : okOp P (.eql ag ts ne x y) o = true) : ∃ t x' y' u, o = .binOp (if ne then .neq else .eql) t x' y' u /\ okX x x' = true /\ okX y y' = true /\ P.eqGuardType P.depth t = false /\ P.stoodInHeld t = false /\ tagsOf P t = some (ag, ts) := by
 cases o <;> first | exact Bool.noConfusion (show false = true from h) | skip
 simp only [okOp, okEq, Bool.and_eq_true, decide_eq_true_eq, Bool.not_eq_true'] at h
 obtain ⟨⟨⟨rfl, h1⟩, h2⟩, ⟨h3, h4⟩, h5⟩ := h
 exact ⟨_, _, _, _, rfl, h1, h2, h3, h4, h5⟩
theorem inv_eqNil {ne : Bool} {x : AX} (h : okOp P (.eqNil ne x) o = true) : ∃ t x' u e, o = .binOp (if ne then .neq else .eql) t x' (.const (.slice none 0 0)) u /\ okX x x' = true /\ P.underlying t = some (.slice e) := by
 cases o <;> first | exact Bool.noConfusion (show false = true from h) | skip
 simp only [okOp, Bool.and_eq_true, decide_eq_true_eq] at h
 obtain ⟨⟨⟨rfl, h1⟩, h2⟩, h3⟩ := h
 split at h2
 ·split at h3
  ·rename_i e hu; exact ⟨_, _, _, e, rfl, h1, hu⟩
  ·cases h3
 ·cases h2
theorem inv_max {args : List AX} (h : okOp P (.max args) o = true) : ∃ xs ts, o = .call { callee := .builtin .max, args := xs, argTypes := ts } /\ okXs args xs.toList = true := by
 cases o <;> first | exact Bool.noConfusion (show false = true from h) | skip
 rename_i c
 obtain ⟨callee, xs, ts⟩ := c
 cases callee <;> first | exact Bool.noConfusion (show false = true from h) | skip
 rename_i b
 cases b <;> first | exact Bool.noConfusion (show false = true from h) | exact ⟨xs, ts, rfl, h⟩
theorem inv_min {args : List AX} (h : okOp P (.min args) o = true) : ∃ xs ts, o = .call { callee := .builtin .min, args := xs, argTypes := ts } /\ okXs args xs.toList = true := by
 cases o <;> first | exact Bool.noConfusion (show false = true from h) | skip
 rename_i c
 obtain ⟨callee, xs, ts⟩ := c
 cases callee <;> first | exact Bool.noConfusion (show false = true from h) | skip
 rename_i b
 cases b <;> first | exact Bool.noConfusion (show false = true from h) | exact ⟨xs, ts, rfl, h⟩
end inversion
section
variable {P : Program} {A : Nat -> Obj -> Prop} {dfs : List Deferred} {M0 : Mem} {ρ0 : Env} {w0 : World} {M : Mem} {ρ : Env} {H : List ABlock} {w : World} {o : Oper} {a : Act} {K : Act -> World -> Prop} {Q : Exit -> Act -> World -> Prop} {fr : List LV} {k : AK} {n0 id : Nat}
theorem run_slice_bounds {t e : TypeId} {sz : Nat} (hu : P.underlying t = some (.slice e)) (hs : szTy P e = some sz) {ad : Option Addr} {len cap l h m : Nat} {lo hi mx : Option Value}
  (hb : (Instr.sliceBounds true len cap lo hi mx).run P w = .ok (l, h, m) w) :
  (Instr.sliceAt t (.slice ad len cap) lo hi mx).run P w = .ok (.slice (if m = l then ad else ad.map (·.add (l * sz))) (h - l) (m - l)) w := by
 simp [Instr.sliceAt, run_underlying hu, Instr.slice, hb, szTy_run hs]
theorem slice_part {xs : List SV} {ad : Option Addr} {len cap sz l h m : Nat} (hc : CRel M (.slice xs) [.slice ad len cap]) (hl : l <= h) (hh : h <= xs.length) (hz : szAt sz l xs) (hm : m = cap \/ m = h) :
  CRel M (.slice ((xs.drop l).take (h - l))) [.slice (if m = l then ad else ad.map (·.add (l * sz))) (h - l) (m - l)] := by
 simp only [CRel] at hc ⊢
 obtain ⟨ad', len', cap', e, rfl, hlc, hcm, hx⟩ := hc
 simp only [List.cons.injEq, Value.slice.injEq, and_true] at e
 obtain ⟨rfl, rfl, rfl⟩ := e
 have hlen : ((xs.drop l).take (h - l)).length = h - l := by rw [List.length_take, List.length_drop]; omega
 refine ⟨_, _, _, rfl, hlen.symm, by omega, by omega, ?_⟩
 rcases hx with rfl | ⟨b, of, sz', uss, rfl, hcc, hs, hat⟩
 ·left; simp
 ·by_cases hml : m = l
  ·left
   have : h = l := by rcases hm with rfl | rfl <;> omega
   subst this
   simp
  ·right
   have hoff : (if m = l then some (⟨b, of, none⟩ : Addr) else Option.map (fun q : Addr => q.add (l * sz)) (some ⟨b, of, none⟩)) = some ⟨b, of + l * sz, none⟩ := by
    rw [if_neg hml]; simp [Addr.add_lit]
   have hlz : l * sz = l * sz' \/ xs = [] := by
    rcases hz with rfl | hz
    ·left; simp
    ·cases xs with
     | nil => exact .inr rfl
     | cons x xs =>
      left
      have h1 := hz x (by simp)
      simp only [CRelC] at hcc
      obtain ⟨u, us, rfl, hcu, _⟩ := hcc
      have h2 := (crel_cells hcu).length
      rw [ones_length, hs u (by simp), h1] at h2
      rw [h2]
   rcases hlz with hlz | rfl
   ·refine ⟨b, of + l * sz, sz', (uss.drop l).take (h - l), hoff, (hcc.drop l).take _, fun u hu => hs u (List.mem_of_mem_drop (List.mem_of_mem_take hu)), ?_⟩
    rw [hlz]
    have hfl : ∀ (n : Nat) (uss : List (List Value)), (∀ u ∈ uss, u.length = sz') -> (uss.drop n).flatten = uss.flatten.drop (n * sz') := by
     intro n
     induction n with
     | zero => intro uss _; simp
     | succ n ih =>
      intro uss hs
      cases uss with
      | nil => simp
      | cons u us =>
       rw [List.drop_succ_cons, ih us (fun u hu => hs u (by simp [hu])), List.flatten_cons, Nat.succ_mul, Nat.add_comm, <- List.drop_drop]
       congr 1
       rw [<- hs u (by simp), List.drop_left]
    have hft : ∀ (n : Nat) (uss : List (List Value)), (∀ u ∈ uss, u.length = sz') -> (uss.take n).flatten = uss.flatten.take (n * sz') := by
     intro n
     induction n with
     | zero => intro uss _; simp
     | succ n ih =>
      intro uss hs
      cases uss with
      | nil => simp
      | cons u us =>
       rw [List.take_succ_cons, List.flatten_cons, ih us (fun u hu => hs u (by simp [hu])), List.flatten_cons, Nat.succ_mul, Nat.add_comm, show sz' + n * sz' = u.length + n * sz' by rw [hs u (by simp)], List.take_length_add_append]
    rw [hft _ _ (fun u hu => hs u (List.mem_of_mem_drop hu)), hfl _ _ hs]
    exact At_take (At_drop hat)
   ·exact ⟨b, of + l * sz, sz', [], hoff, by simp [CRelC], by simp, by intro j v hj; simp at hj⟩
theorem exO_inv {α : Type} {x : Option α} {f : α -> Prop} (h : exO x f) : ∃ y, x = some y /\ f y := by
 cases x with
 | none => exact h.elim
 | some y => exact ⟨y, rfl, h⟩
theorem snd_slice (hI : MInv A n0 M0 ρ0 w0 M ρ H w) (hf : FRel M ρ fr a.tmps.toList) {sz : Nat} {x : AX} {lo hi mx : Option AX} (hok : okOp P (.slice sz x lo hi mx) o.op = true) (h : aop P n0 id fr H (.slice sz x lo hi mx) k)
  (hK : ∀ v H' kl f x w', k v H' kl f -> f -> Nxt A n0 M0 ρ0 w0 M ρ id v H' kl x w' -> K (a.put o.dst x) w') : o.wp P a w K Q := by
 obtain ⟨t, y, lo', hi', mx', ho, hsl, hx, hlo, hhi, hmx, hms⟩ := inv_slice hok
 obtain ⟨e, hu, hsz⟩ := slSz_inv hsl
 simp only [aop] at h
 have hr := okX_rel hf hx
 have rlo := okXo_rel hf hlo
 have rhi := okXo_rel hf hhi
 have rmx := okXo_rel hf hmx
 have hms' : (optEv fr mx).isSome = true -> (optEv fr hi).isSome = true := by
  rcases hms with rfl | h1
  ·intro h; cases h
  ·intro _; cases hi with | none => cases h1 | some _ => rfl
 generalize x.ev fr = v at h hr
 generalize optEv fr lo = vlo at h rlo
 generalize optEv fr hi = vhi at h rhi hms'
 generalize optEv fr mx = vmx at h rmx hms'
 -- both ends of the operation
 have fin : ∀ {ad : Option Addr} {len cap l h' m : Nat} {u : LV}, a.eval y = .slice ad len cap -> boundOf 0 vlo = some l -> boundOf len vhi = some h' -> boundOf cap vmx = some m -> l <= h' -> h' <= m -> m <= cap ->
   k u H none True -> LVal M ρ u (.slice (if m = l then ad else ad.map (·.add (l * sz))) (h' - l) (m - l)) -> o.wp P a w K Q := by
  intro ad len cap l h' m u ey h1 h2 h3 h4 h5 h6 hk hu'
  have hb := bounds_run (P := P) (b := true) (w := w) rlo rhi rmx h1 h2 h3 hms' h4 h5 h6
  exact wp_value (by simp [execOp, ho, ey, run_slice_bounds hu hsz hb]) (hK _ _ _ _ _ _ hk trivial (nxt_same hI hu'))
 have mk : ∀ {A B : LV} {cap l h' len : Nat} {ad : Option Addr}, a.eval y = .slice ad len cap -> h' <= cap -> boundOf 0 vlo = some l -> boundOf len vhi = some h' -> l <= h' -> sliceM H h' A B k vmx ->
   LVal M ρ A (.slice (if cap = l then ad else ad.map (·.add (l * sz))) (h' - l) (cap - l)) -> LVal M ρ B (.slice (if h' = l then ad else ad.map (·.add (l * sz))) (h' - l) (h' - l)) -> o.wp P a w K Q := by
  intro A B cap l h' len ad ey hc h1 h2 h3 hM hA hB
  cases vmx with
  | none => simp only [sliceM] at hM; exact fin ey h1 h2 rfl h3 hc (Nat.le_refl _) hM hA
  | some vm =>
   simp only [sliceM] at hM
   have h4 : boundOf cap (some vm) = some h' := by rw [<- hM.1]; cases vm with | s v => cases v <;> rfl | _ => rfl
   exact fin ey h1 h2 h4 h3 (Nat.le_refl _) hc hM.2 hB
 unfold sliceK at h
 split at h
 next xs =>
  rw [lval_s] at hr
  have hc := hr.one rfl
  obtain ⟨l, h1, h⟩ := exO_inv h
  obtain ⟨h', h2, h3, h4, h5, h⟩ := exO_inv h
  have hc' := hc
  simp only [CRel] at hc'
  obtain ⟨ad, len, cap, e', rfl, hlc, hcm, _⟩ := hc'
  have ey : a.eval y = .slice ad xs.length cap := by simpa using e'
  rw [ey] at hc
  refine mk ey (by omega) h1 h2 h3 h ?_ ?_
  ·rw [lval_s]; exact vrel_of_one (slice_part hc h3 h4 h5 (.inl rfl)) rfl
  ·exact lval_of_one (by simp only [LRel]; exact ⟨_, _, rfl, slice_part hc h3 h4 h5 (.inr rfl)⟩) rfl
 next xs =>
  have h0 := hr.one rfl (by simp)
  simp only [LRel] at h0
  obtain ⟨ad0, n, e0, hc⟩ := h0
  obtain ⟨l, h1, h⟩ := exO_inv h
  obtain ⟨h', h2, h3, h4, h5, h⟩ := exO_inv h
  have hc' := hc
  simp only [CRel] at hc'
  obtain ⟨ad, len, cap, e', rfl, hlc, hcm, _⟩ := hc'
  have ey : a.eval y = .slice ad xs.length cap := by simpa using e'
  rw [ey] at hc e0
  simp only [List.cons.injEq, Value.slice.injEq, and_true] at e0
  obtain ⟨rfl, rfl, hcap⟩ := e0
  refine mk ey (by omega) h1 h2 h3 h ?_ ?_
  ·split
   ·rename_i e2
    have e3 : xs.drop l = (xs.drop l).take (h' - l) := by rw [List.take_of_length_le]; rw [List.length_drop]; omega
    refine lval_of_one ?_ rfl
    simp only [LRel]
    have e4 : cap - l = h' - l := by omega
    refine ⟨(if cap = l then ad else ad.map (·.add (l * sz))), h' - l, by rw [e4], ?_⟩
    rw [e3]
    exact slice_part hc h3 h4 h5 (.inl rfl)
   ·rw [lval_s]; exact vrel_of_one (slice_part hc h3 h4 h5 (.inl rfl)) rfl
  ·exact lval_of_one (by simp only [LRel]; exact ⟨_, _, rfl, slice_part hc h3 h4 h5 (.inr rfl)⟩) rfl
 next b off len sz' clip =>
  obtain ⟨rfl, h⟩ := h
  have h0 := hr.one rfl (by simp)
  simp only [LRel] at h0
  obtain ⟨r, ad, cap, hρ, hg, e', hlc, hcm, hpos, hclip, hcap⟩ := h0
  have ey : a.eval y = .slice ad len cap := by simpa using e'
  obtain ⟨l, h1, h⟩ := exO_inv h
  obtain ⟨h', h2, h3, h4, h⟩ := exO_inv h
  have part : ∀ {m : Nat} {c : Bool}, l <= m -> h' <= m -> m <= cap -> (c = true -> m - l = h' - l) -> LVal M ρ (.sl b (off + l * sz) (h' - l) sz c) (.slice (if m = l then ad else ad.map (·.add (l * sz))) (h' - l) (m - l)) := by
   intro m c hlm hm hmc hcl
   refine lval_of_one ?_ rfl
   simp only [LRel]
   refine ⟨r, _, _, hρ, hg, rfl, by omega, by omega, hpos, hcl, ?_⟩
   by_cases hml : m = l
   ·left; omega
   ·right
    rcases hcap with hc0 | ⟨cb, sh, n, rfl, rfl, hfit⟩
    ·omega
    ·refine ⟨cb, sh, n, rfl, by rw [if_neg hml]; simp [Addr.add_lit, Nat.add_assoc], ?_⟩
     have e1 : m * sz = (m - l) * sz + l * sz := by rw [<- Nat.add_mul]; congr 1; omega
     have e2 := Nat.mul_le_mul_right sz hmc
     omega
  refine mk ey (by omega) h1 h2 h3 h (part (by omega) (by omega) (Nat.le_refl _) ?_) (part h3 (Nat.le_refl _) (by omega) (fun _ => rfl))
  intro hc
  simp only [Bool.and_eq_true, decide_eq_true_eq] at hc
  have := hclip hc.1
  omega
 next => cases h
end
end Go.E

/- Each operation of the value semantics is borne out by the model: slices of arrays, comparisons, max and min. -/
namespace Go.E
open Go
section
variable {P : Program} {A : Nat -> Obj -> Prop} {dfs : List Deferred} {M0 : Mem} {ρ0 : Env} {w0 : World} {M : Mem} {ρ : Env} {H : List ABlock} {w : World} {o : Oper} {a : Act} {K : Act -> World -> Prop} {Q : Exit -> Act -> World -> Prop} {fr : List LV} {k : AK} {n0 id : Nat}
theorem chunk_len (sz : Nat) : ∀ (n : Nat) (cs : List SV), (chunk sz n cs).length = n
 | 0, cs => rfl
 | n + 1, cs => by simp [chunk, chunk_len sz n]
theorem elems_len {sz len : Nat} {cs : List SV} (hl : len * sz <= cs.length) : (elems sz len cs).length = len := by
 unfold elems; split
 ·rename_i e; subst e; rw [List.length_take]; omega
 ·exact chunk_len _ _ _
theorem arr_run {t : TypeId} {n sz : Nat} (ht : arrSz P t = some (n, sz) \/ ptrArrSz P t = some (n, sz)) {ad : Addr} {l h : Nat} {lo hi : Option Value}
  (hb : (Instr.sliceBounds false n n lo hi none).run P w = .ok (l, h, n) w) :
  (Instr.sliceAt t (.pointer (some ad)) lo hi none).run P w = .ok (.slice (some (if n = l then ad else ad.add (l * sz))) (h - l) (n - l)) w := by
 rcases ht with ht | ht
 ·obtain ⟨e, hu, hsz⟩ := arrSz_inv ht
  simp [Instr.sliceAt, run_underlying hu, Instr.sureAddr, hb, szTy_run hsz]
 ·unfold ptrArrSz at ht
  split at ht
  next arr hp =>
   obtain ⟨e, hu, hsz⟩ := arrSz_inv ht
   simp [Instr.sliceAt, run_underlying hp, Instr.slice, asAddr, run_underlying hu, hb, szTy_run hsz]
  next => cases ht
theorem snd_sliceArr (hI : MInv A n0 M0 ρ0 w0 M ρ H w) (hf : FRel M ρ fr a.tmps.toList) {n sz : Nat} {x : AX} {lo hi : Option AX} (hok : okOp P (.sliceArr n sz x lo hi) o.op = true) (h : aop P n0 id fr H (.sliceArr n sz x lo hi) k)
  (hK : ∀ v H' kl f x w', k v H' kl f -> f -> Nxt A n0 M0 ρ0 w0 M ρ id v H' kl x w' -> K (a.put o.dst x) w') : o.wp P a w K Q := by
 obtain ⟨t, y, lo', hi', ho, ht, hx, hlo, hhi⟩ := inv_sliceArr hok
 simp only [aop] at h
 have hr := okX_rel hf hx
 have rlo := okXo_rel hf hlo
 have rhi := okXo_rel hf hhi
 generalize x.ev fr = v at h hr
 unfold sliceArrK at h
 obtain ⟨l, h1, h⟩ := exO_inv h
 obtain ⟨h', h2, h3, h4, hn, hsz, hmx, h⟩ := exO_inv h
 have hb := bounds_run (P := P) (b := false) (w := w) (len := n) (cap := n) (m := n) (mx := none) (xmx := none) rlo rhi rfl h1 h2 rfl (by intro h; cases h) h3 h4 (Nat.le_refl _)
 have fin : ∀ {ad : Addr} {u : LV}, a.eval y = .pointer (some ad) -> k u H none True -> LVal M ρ u (.slice (some (if n = l then ad else ad.add (l * sz))) (h' - l) (n - l)) -> o.wp P a w K Q := by
  intro ad u ey hk hu
  have hrun := arr_run ht (ad := ad) hb
  exact wp_value (by simp [execOp, ho, ey, hrun]) (hK _ _ _ _ _ _ hk trivial (nxt_same hI hu))
 have hsub : l * sz + (h' - l) * sz = h' * sz := by rw [<- Nat.add_mul]; congr 1; omega
 have hsubn : l * sz + (n - l) * sz = n * sz := by rw [<- Nat.add_mul]; congr 1; omega
 have hle := Nat.mul_le_mul_right sz h4
 split at h
 next cs _ _ =>
  obtain ⟨hfit, h⟩ := h
  rw [lval_s] at hr
  have hc := hr.one rfl
  simp only [CRel] at hc
  obtain ⟨b, of, ws, e, hc, hat⟩ := hc
  have ey : a.eval y = .pointer (some ⟨b, of, none⟩) := by simpa using e
  have hdl : (h' - l) * sz <= (cs.drop (l * sz)).length := by rw [List.length_drop]; omega
  have hsl : CRel M (.slice (elems sz (h' - l) (cs.drop (l * sz)))) [.slice (some (if n = l then (⟨b, of, none⟩ : Addr) else (⟨b, of, none⟩ : Addr).add (l * sz))) (h' - l) (n - l)] := by
   simp only [CRel]
   refine ⟨_, _, _, rfl, (elems_len hdl).symm, by omega, by omega, ?_⟩
   by_cases hnl : n = l
   ·left
    have : h' - l = 0 := by omega
    exact List.eq_nil_of_length_eq_zero (by rw [elems_len hdl]; exact this)
   ·right
    obtain ⟨uss, h5, h6, h7⟩ := elems_rel hsz (len := h' - l) (cs := cs.drop (l * sz)) (us := ws.drop (l * sz)) (by rw [ones_drop]; exact hc.drop _) hdl
    exact ⟨b, of + l * sz, sz, uss, by rw [if_neg hnl, Addr.add_lit], h5, h6, by rw [h7]; exact At_take (At_drop hat)⟩
  refine fin ey h ?_
  split
  ·rename_i e2
   exact lval_of_one (by simp only [LRel]; exact ⟨_, n - l, by rw [e2], hsl⟩) rfl
  ·rw [lval_s]; exact vrel_of_one hsl rfl
 next b off _ _ =>
  obtain ⟨hfit, h⟩ := h
  have h0 := hr.one rfl (by simp)
  simp only [LRel] at h0
  obtain ⟨cb, sh, m, hρ, e⟩ := h0
  have ey : a.eval y = .pointer (some ⟨cb, sh + off, none⟩) := by simpa using e
  have hfit' : sh + off + n * sz <= m := by
   unfold arrFits at hfit
   split at hfit
   next cs hb =>
    obtain ⟨r, h5, h6⟩ := hI.rel.spot hb
    rw [hρ] at h5; cases h5
    simp only [BRel] at h6
    obtain ⟨c, T, _, _, h7, h8, _⟩ := h6
    omega
   next cs hb =>
    obtain ⟨r, h5, h6⟩ := hI.rel.spot hb
    rw [hρ] at h5; cases h5
    simp only [BRel] at h6
    obtain ⟨c, T, _, _, h7, _⟩ := h6
    omega
   next => cases hfit
  refine fin ey h (lval_of_one ?_ rfl)
  simp only [LRel]
  refine ⟨.here cb sh m, _, _, hρ, by simp, rfl, by omega, by omega, hsz, fun hc => by have := of_decide_eq_true hc; omega, ?_⟩
  by_cases hnl : n = l
  ·left; omega
  ·exact .inr ⟨cb, sh, m, rfl, by rw [if_neg hnl]; simp [Addr.add_lit, Nat.add_assoc], by omega⟩
 next => cases h
theorem tag_val {b : SV} {x : Value} (h : CRel M b [x]) : (b.tag = .bool -> ∃ c, b = .bool c /\ x = .bool c) /\ (∀ K, b.tag = .int K -> ∃ n, b = .int K n /\ x = .int K n) /\ (b.tag = .str -> ∃ s, b = .str s /\ x = .string s) := by
 cases b <;> simp only [CRel] at h <;> simp only [SV.tag] <;> refine ⟨?_, ?_, ?_⟩ <;> intros <;> simp_all
open Classical in
theorem leaf_eq {t : TypeId} {g : Tag} (ht : tagOf P t = some g) {c d : SV} {x y : Value} (hc : CRel M c [x]) (hd : CRel M d [y]) (hcg : c.tag = g) (hdg : d.tag = g) (dd : Nat) (w : World) :
  aggTy P t = some false /\ (Op.equalIn (dd + 1) t x y).run P w = .ok (decide (c = d)) w := by
 unfold tagOf at ht
 split at ht
 next hu =>
  cases ht
  obtain ⟨b, rfl, rfl⟩ := (tag_val hc).1 hcg
  obtain ⟨b', rfl, rfl⟩ := (tag_val hd).1 hdg
  refine ⟨by simp [aggTy, hu], ?_⟩
  rw [run_equalIn_bool w dd t b b' hu]
  congr 1
  rw [Bool.eq_iff_iff]; simp
 next K hu =>
  cases ht
  obtain ⟨b, rfl, rfl⟩ := (tag_val hc).2.1 K hcg
  obtain ⟨b', rfl, rfl⟩ := (tag_val hd).2.1 K hdg
  refine ⟨by simp [aggTy, hu], ?_⟩
  rw [run_equalIn_int w dd t K K b b' hu]
  congr 1
  rw [Bool.eq_iff_iff]; simp
 next hu =>
  cases ht
  obtain ⟨b, rfl, rfl⟩ := (tag_val hc).2.2 hcg
  obtain ⟨b', rfl, rfl⟩ := (tag_val hd).2.2 hdg
  refine ⟨by simp [aggTy, hu], ?_⟩
  rw [run_equalIn_string w dd t b b' hu, ByteArray.toList_eq, ByteArray.toList_eq]
  congr 1
  rw [Bool.eq_iff_iff]
  obtain ⟨⟨x⟩⟩ := b
  obtain ⟨⟨y⟩⟩ := b'
  simp
 next => cases ht
theorem CRelC.split {c : SV} {cs : List SV} {n : Nat} {ds : List SV} {xs : List Value} (h : CRelC M ds (ones xs)) (hd : ds.drop n = c :: cs) : ∃ x, xs[n]? = some x /\ CRel M c [x] /\ ds.drop (n + 1) = cs := by
 have h1 : ds[n]? = some c := by
  have := congrArg (·[0]?) hd
  simpa [List.getElem?_drop] using this
 obtain ⟨u, hu, hcu⟩ := h.get h1
 simp only [ones_get?, Option.map_eq_some_iff] at hu
 obtain ⟨x, hx, rfl⟩ := hu
 refine ⟨x, hx, hcu, ?_⟩
 rw [<- List.drop_drop, hd]; rfl
open Classical in
theorem fields_eq {cs ds : List SV} {xs ys : List Value} (hc : CRelC M cs (ones xs)) (hd : CRelC M ds (ones ys)) (dd : Nat) (w : World) : ∀ {fs : List Field} {n : Nat} {ts : List Tag}, tagsF P n fs = some ts -> (cs.drop n).map SV.tag = ts -> (ds.drop n).map SV.tag = ts ->
  (Op.eqFields (dd + 1) xs.toArray ys.toArray fs).run P w = .ok (decide (cs.drop n = ds.drop n)) w
 | [], n, ts, h, h1, h2 => by
  simp only [tagsF, Option.some.injEq] at h
  subst h
  rw [List.map_eq_nil_iff] at h1 h2
  simp [Op.eqFields, h1, h2]
 | f :: fs, n, ts, h, h1, h2 => by
  simp only [tagsF] at h
  split at h
  next g hg =>
   split at h
   next hoff =>
    obtain ⟨rfl, hname⟩ := hoff
    simp only [Option.map_eq_some_iff] at h
    obtain ⟨ts', hts, rfl⟩ := h
    rw [List.map_eq_cons_iff] at h1 h2
    obtain ⟨c, cs', hce, hct, hcs⟩ := h1
    obtain ⟨d, ds', hde, hdt, hds⟩ := h2
    obtain ⟨x, hx, hcx, hc1⟩ := hc.split hce
    obtain ⟨y, hy, hdy, hd1⟩ := hd.split hde
    obtain ⟨ha, heq⟩ := leaf_eq (P := P) hg hcx hdy hct hdt dd w
    have ih := fields_eq hc hd dd w hts (by rw [hc1]; exact hcs) (by rw [hd1]; exact hds)
    rw [hc1, hd1] at ih
    have hpx : (part f.type xs.toArray f.offset).run P w = .ok x w := by simp [part, aggTy_run ha, hx]
    have hpy : (part f.type ys.toArray f.offset).run P w = .ok y w := by simp [part, aggTy_run ha, hy]
    simp only [Op.eqFields, hname, ne_eq, not_false_eq_true, if_true, Sem.run_bind, hpx, hpy, heq, Result.andThen_ok]
    rw [hce, hde]
    by_cases hcd : c = d
    ·subst hcd
     simp [ih]
    ·simp [hcd]
   next => cases h
  next => cases h
open Classical in
theorem items_eq {e : TypeId} {g : Tag} (hg : tagOf P e = some g) {cs ds : List SV} {xs ys : List Value} (hc : CRelC M cs (ones xs)) (hd : CRelC M ds (ones ys)) (dd : Nat) (w : World) : ∀ {m n : Nat}, (cs.drop n).map SV.tag = List.replicate m g -> (ds.drop n).map SV.tag = List.replicate m g ->
  (Op.eqItems (dd + 1) e 1 xs.toArray ys.toArray (List.range' n m)).run P w = .ok (decide (cs.drop n = ds.drop n)) w
 | 0, n, h1, h2 => by
  rw [List.replicate_zero, List.map_eq_nil_iff] at h1 h2
  simp [Op.eqItems, h1, h2]
 | m + 1, n, h1, h2 => by
  rw [List.replicate_succ, List.map_eq_cons_iff] at h1 h2
  obtain ⟨c, cs', hce, hct, hcs⟩ := h1
  obtain ⟨d, ds', hde, hdt, hds⟩ := h2
  obtain ⟨x, hx, hcx, hc1⟩ := hc.split hce
  obtain ⟨y, hy, hdy, hd1⟩ := hd.split hde
  obtain ⟨ha, heq⟩ := leaf_eq (P := P) hg hcx hdy hct hdt dd w
  have ih := items_eq hg hc hd dd w (m := m) (n := n + 1) (by rw [hc1]; exact hcs) (by rw [hd1]; exact hds)
  rw [hc1, hd1] at ih
  have hpx : (part e xs.toArray (n * 1)).run P w = .ok x w := by simp [part, aggTy_run ha, hx]
  have hpy : (part e ys.toArray (n * 1)).run P w = .ok y w := by simp [part, aggTy_run ha, hy]
  simp only [List.range'_succ, Op.eqItems, Sem.run_bind, hpx, hpy, heq, Result.andThen_ok]
  rw [hce, hde]
  by_cases hcd : c = d
  ·subst hcd
   simp [ih]
  ·simp [hcd]
theorem eqOk_true {ts : List Tag} {a b : SV} (h : eqOk ts true a b) : ∃ cs ds, a = .agg cs /\ b = .agg ds /\ cs.map SV.tag = ts /\ ds.map SV.tag = ts := by
 cases a <;> cases b <;> first | exact h.elim | exact ⟨_, _, rfl, rfl, h⟩
theorem eqOk_false {ts : List Tag} {a b : SV} (h : eqOk ts false a b) : [a.tag] = ts /\ [b.tag] = ts := by
 cases a <;> cases b <;> exact h
open Classical in
theorem snd_eql (hI : MInv A n0 M0 ρ0 w0 M ρ H w) (hf : FRel M ρ fr a.tmps.toList) {ag ne : Bool} {ts : List Tag} {x y : AX} (hok : okOp P (.eql ag ts ne x y) o.op = true) (h : aop P n0 id fr H (.eql ag ts ne x y) k)
  (hK : ∀ v H' kl f x w', k v H' kl f -> f -> Nxt A n0 M0 ρ0 w0 M ρ id v H' kl x w' -> K (a.put o.dst x) w') : o.wp P a w K Q := by
 obtain ⟨t, x', y', u, ho, hx, hy, hg1, hg2, hts⟩ := inv_eql hok
 simp only [aop] at h
 unfold eqlK at h
 obtain ⟨c, hc, h⟩ := exO_inv h
 obtain ⟨d, hd, hok2, h⟩ := exO_inv h
 have hcr := frz_up_val hI.rel (okX_rel hf hx) hc
 have hdr := frz_up_val hI.rel (okX_rel hf hy) hd
 -- the model's answer
 have hrun : ∃ vx vy, a.eval x' = vx /\ a.eval y' = vy /\ (eqGuard (if ne then .neq else .eql) t x' y' vx vy).run P w = .ok () w /\
   (binOp (if ne then .neq else .eql) t vx vy).run P w = .ok (.bool (if ne then !decide (c = d) else decide (c = d))) w := by
  cases ag with
  | true =>
   obtain ⟨cs, ds, rfl, rfl, hct, hdt⟩ := eqOk_true hok2
   obtain ⟨us, e1, hcu⟩ := hcr.agg
   obtain ⟨vs, e2, hdv⟩ := hdr.agg
   refine ⟨_, _, e1, e2, run_eqGuard_agg w _ t x' y' _ _ hg1, ?_⟩
   have key : (Op.equalIn 10000 t (.agg us.toArray) (.agg vs.toArray)).run P w = .ok (decide (SV.agg cs = SV.agg ds)) w := by
    have e3 : decide (SV.agg cs = SV.agg ds) = decide (cs = ds) := by rw [Bool.eq_iff_iff]; simp
    rw [e3]
    unfold tagsOf at hts
    split at hts
    ·rename_i hu; simp at hts
    ·rename_i hu; simp at hts
    ·rename_i hu; simp at hts
    ·rename_i n e hu
     split at hts
     ·rename_i g hg
      split at hts
      ·rename_i hsz
       simp only [Option.some.injEq, Prod.mk.injEq, true_and] at hts
       subst hts
       unfold szTy at hsz
       cases hi : P.info? e with
       | none => rw [hi] at hsz; cases hsz
       | some i =>
        rw [hi] at hsz
        have hce : P.cellsOf e = 1 := by simp [Program.cellsOf, hi] at hsz ⊢; exact hsz
        rw [run_equalIn_array w 9999 _ _ hu hi, hce, List.range_eq_range']
        have := items_eq (P := P) hg hcu hdv 9998 w (m := n) (n := 0) (by simpa using hct) (by simpa using hdt)
        simpa using this
      ·cases hts
     ·cases hts
    ·rename_i fs hu
     simp only [Option.map_eq_some_iff] at hts
     obtain ⟨ts', h1, h2⟩ := hts
     simp only [Prod.mk.injEq, true_and] at h2
     subst h2
     have hfo : P.fieldsOf t = fs := by simp [Program.fieldsOf, hu]
     rw [run_equalIn_struct w 9999 t _ _ (by rw [hfo]; exact hu) hg2, hfo]
     have := fields_eq (P := P) hcu hdv 9998 w h1 (by simpa using hct) (by simpa using hdt)
     simpa using this
    ·cases hts
   cases ne with
   | true => simp only [if_true]; rw [run_neq_struct, key]; rfl
   | false => simp only [Bool.false_eq_true, if_false]; rw [run_eql_struct, key]; rfl
  | false =>
   obtain ⟨hct, hdt⟩ := eqOk_false hok2
   have hleaf : ∃ g, tagOf P t = some g /\ c.tag = g /\ d.tag = g := by
    unfold tagsOf at hts
    split at hts
    ·rename_i hu; simp only [Option.map_eq_some_iff, Prod.mk.injEq, true_and] at hts; obtain ⟨g, h1, h2⟩ := hts; rw [<- h2] at hct hdt; simp at hct hdt; exact ⟨g, h1, hct, hdt⟩
    ·rename_i hu; simp only [Option.map_eq_some_iff, Prod.mk.injEq, true_and] at hts; obtain ⟨g, h1, h2⟩ := hts; rw [<- h2] at hct hdt; simp at hct hdt; exact ⟨g, h1, hct, hdt⟩
    ·rename_i hu; simp only [Option.map_eq_some_iff, Prod.mk.injEq, true_and] at hts; obtain ⟨g, h1, h2⟩ := hts; rw [<- h2] at hct hdt; simp at hct hdt; exact ⟨g, h1, hct, hdt⟩
    ·split at hts
     ·split at hts
      ·simp at hts
      ·cases hts
     ·cases hts
    ·simp only [Option.map_eq_some_iff, Prod.mk.injEq] at hts
     obtain ⟨_, _, h2, _⟩ := hts; cases h2
    ·cases hts
   obtain ⟨g, hg, hcg, hdg⟩ := hleaf
   have hna : ∀ {z : SV}, z.tag = g -> z.isAgg = false := by
    intro z hz
    cases z <;> first | rfl | (simp only [SV.tag] at hz; subst hz; unfold tagOf at hg; split at hg <;> cases hg)
   have h1 := hcr.one (hna hcg)
   have h2 := hdr.one (hna hdg)
   obtain ⟨_, hrun⟩ := leaf_eq (P := P) hg h1 h2 hcg hdg 9999 w
   refine ⟨_, _, rfl, rfl, ?_, ?_⟩
   ·unfold tagOf at hg
    split at hg <;> first | (cases hg; done) | skip
    all_goals cases hg
    ·obtain ⟨_, _, e⟩ := (tag_val h1).1 hcg; rw [e]; cases ne <;> simp [eqGuard]
    ·obtain ⟨_, _, e⟩ := (tag_val h1).2.1 _ hcg; rw [e]; cases ne <;> simp [eqGuard]
    ·obtain ⟨_, _, e⟩ := (tag_val h1).2.2 hcg; rw [e]; cases ne <;> simp [eqGuard]
   ·unfold tagOf at hg
    split at hg <;> first | (cases hg; done) | skip
    all_goals cases hg
    ·obtain ⟨b, rfl, e⟩ := (tag_val h1).1 hcg
     obtain ⟨b', rfl, e'⟩ := (tag_val h2).1 hdg
     rw [e, e'] at hrun ⊢
     cases ne <;> simp [binOp, Op.equal, Op.maxDepth, hrun]
    ·obtain ⟨b, rfl, e⟩ := (tag_val h1).2.1 _ hcg
     obtain ⟨b', rfl, e'⟩ := (tag_val h2).2.1 _ hdg
     rw [e, e']
     have hbe : (b == b') = decide (b = b') := by rw [Bool.eq_iff_iff]; simp
     cases ne <;> simp [binOp, Op.intCmp, hbe, bne]
    ·obtain ⟨b, rfl, e⟩ := (tag_val h1).2.2 hcg
     obtain ⟨b', rfl, e'⟩ := (tag_val h2).2.2 hdg
     rw [e, e']
     have hbe : (b.toList == b'.toList) = decide (b = b') := by
      rw [ByteArray.toList_eq, ByteArray.toList_eq, Bool.eq_iff_iff]
      obtain ⟨⟨x⟩⟩ := b
      obtain ⟨⟨y⟩⟩ := b'
      simp
     cases ne <;> simp [binOp, Op.stringOp, hbe]
 obtain ⟨vx, vy, e1, e2, hgd, hb⟩ := hrun
 cases ne with
 | true =>
  refine wp_value (x := .bool (!decide (c = d))) (w' := w) ?_ (hK _ _ _ _ _ _ h trivial (nxt_same hI lval_bool))
  simp only [if_true] at hgd hb ho
  simp only [execOp, ho, e1, e2, Sem.run_bind, hgd, hb, Result.andThen_ok, Sem.run_pure]
 | false =>
  refine wp_value (x := .bool (decide (c = d))) (w' := w) ?_ (hK _ _ _ _ _ _ h trivial (nxt_same hI lval_bool))
  simp only [Bool.false_eq_true, if_false] at hgd hb ho
  simp only [execOp, ho, e1, e2, Sem.run_bind, hgd, hb, Result.andThen_ok, Sem.run_pure]
theorem elems_at (hI : MInv A n0 M0 ρ0 w0 M ρ H w) {v : LV} {x : Value} {ys : List SV} (hr : LVal M ρ v x) (he : elemsOf H v = some ys) :
  ∃ ad cap uss, x = .slice ad ys.length cap /\ ys.length <= cap /\ cap <= maxLen /\ CRelC M ys uss /\
   (ys = [] \/ ∃ b o sz, ad = some ⟨b, o, none⟩ /\ (∀ u ∈ uss, u.length = sz) /\ ∀ (j : Nat) (u : Value), uss.flatten[j]? = some u -> w.cell? ⟨b, o + j, none⟩ = some u) := by
 have stab : ∀ ys : List SV, CRel M (.slice ys) [x] -> ∃ ad cap uss, x = .slice ad ys.length cap /\ ys.length <= cap /\ cap <= maxLen /\ CRelC M ys uss /\
   (ys = [] \/ ∃ b o sz, ad = some ⟨b, o, none⟩ /\ (∀ u ∈ uss, u.length = sz) /\ ∀ (j : Nat) (u : Value), uss.flatten[j]? = some u -> w.cell? ⟨b, o + j, none⟩ = some u) := by
  intro ys hc
  simp only [CRel] at hc
  obtain ⟨ad, len, cap, e, rfl, hlc, hcm, hx⟩ := hc
  rcases hx with rfl | ⟨b, of, sz, uss, rfl, hcc, hs, hat⟩
  ·exact ⟨ad, cap, [], by simpa using e, hlc, hcm, by simp [CRelC], .inl rfl⟩
  ·exact ⟨_, cap, uss, by simpa using e, hlc, hcm, hcc, .inr ⟨b, of, sz, rfl, hs, hI.rel.at_cells hat⟩⟩
 unfold elemsOf at he
 split at he
 next xs => cases he; rw [lval_s] at hr; exact stab _ (hr.one rfl)
 next xs =>
  cases he
  have h1 := hr.one rfl (by simp)
  simp only [LRel] at h1
  obtain ⟨_, _, _, h2⟩ := h1
  exact stab _ h2
 next b off len sz c =>
  have h1 := hr.one rfl (by simp)
  simp only [LRel] at h1
  obtain ⟨r, ad, cap, hρ, hg, e, hlc, hcm, hpos, _, hcap⟩ := h1
  -- the block's cells
  have key : ∃ cs, blkCells (frz []) H[b]? = some cs /\ ((r = .empty /\ cs = []) \/ ∃ cb sh n ws, r = .here cb sh n /\ CRelC M cs (ones ws) /\ ∀ (j : Nat) (u : Value), ws[j]? = some u -> w.cell? ⟨cb, sh + j, none⟩ = some u) := by
   cases hb : H[b]? with
   | none => rw [hb] at he; cases he
   | some B =>
    rw [hb] at he
    obtain ⟨r', h2, h3⟩ := hI.rel.spot hb
    rw [hρ] at h2; cases h2
    cases B <;> cases r <;> simp only [BRel] at h3 <;> first | (exact h3.elim) | (cases he; done) | skip
    case obj.here cs cb sh n =>
     simp only [blkCells] at he ⊢
     cases hfz : frzAll (frz []) cs with
     | none => rw [hfz] at he; cases he
     | some ss =>
      obtain ⟨c, T, h4, h5, h6, h7, h8, h9⟩ := h3
      subst h7
      refine ⟨ss, rfl, .inr ⟨cb, 0, n, c.toList, rfl, ?_, fun j u hj => by rw [heap_cell? h4]; simpa using hj⟩⟩
      exact frzAll_rel (fun v us sv h1 h2 => frzV_rel (H := []) M.le_refl (fun i B r h => by simp at h) 4 v us sv h1 h2) h8 hfz
    case row.empty cs => exact ⟨cs, rfl, .inl ⟨rfl, h3⟩⟩
    case row.here cs cb sh n =>
     obtain ⟨c, T, h4, h5, h6, h8, h9⟩ := h3
     exact ⟨cs, rfl, .inr ⟨cb, sh, n, _, rfl, h8, fun j u hj => by rw [heap_cell? h4]; simpa using take_drop_get j u hj⟩⟩
    case frz.empty cs => exact ⟨cs, rfl, .inl ⟨rfl, h3⟩⟩
    case frz.here cs cb sh n =>
     obtain ⟨us, h8, h9⟩ := h3
     exact ⟨cs, rfl, .inr ⟨cb, sh, n, us, rfl, h8, hI.rel.at_cells h9⟩⟩
  obtain ⟨cs, hcs, hcase⟩ := key
  rw [hcs] at he
  simp only [Option.bind_some, rowOf] at he
  split at he
  next hfit =>
   cases he
   have hdl : len * sz <= (cs.drop off).length := by rw [List.length_drop]; omega
   have hlen := elems_len hdl
   have ex : x = .slice ad len cap := by simpa using e
   rcases hcap with h0 | ⟨cb, sh, n, rfl, rfl, hfit'⟩
   ·refine ⟨ad, cap, [], by rw [hlen]; exact ex, by omega, hcm, ?_, .inl (List.eq_nil_of_length_eq_zero (by omega))⟩
    rw [List.eq_nil_of_length_eq_zero (l := elems sz len (cs.drop off)) (by omega)]
    simp [CRelC]
   ·rcases hcase with ⟨e', _⟩ | ⟨cb', sh', n', ws, e', h5, h6⟩
    ·cases e'
    ·cases e'
     obtain ⟨uss, h7, h8, h9⟩ := elems_rel hpos (len := len) (cs := cs.drop off) (us := ws.drop off) (by rw [ones_drop]; exact h5.drop off) hdl
     refine ⟨_, cap, uss, by rw [hlen]; exact ex, by omega, hcm, h7, .inr ⟨cb, sh + off, sz, rfl, h8, fun j u hj => ?_⟩⟩
     rw [h9, List.getElem?_take] at hj
     split at hj
     ·rw [List.getElem?_drop] at hj
      have := h6 _ u hj
      rwa [<- Nat.add_assoc] at this
     ·cases hj
  next => cases he
 next => cases he
theorem snd_eqNil (hI : MInv A n0 M0 ρ0 w0 M ρ H w) (hf : FRel M ρ fr a.tmps.toList) {ne : Bool} {x : AX} (hok : okOp P (.eqNil ne x) o.op = true) (h : aop P n0 id fr H (.eqNil ne x) k)
  (hK : ∀ v H' kl f x w', k v H' kl f -> f -> Nxt A n0 M0 ρ0 w0 M ρ id v H' kl x w' -> K (a.put o.dst x) w') : o.wp P a w K Q := by
 obtain ⟨t, x', u, e, ho, hx, hu⟩ := inv_eqNil hok
 simp only [aop] at h
 have hr := okX_rel hf hx
 generalize x.ev fr = v at h hr
 cases hel : elemsOf H v with
 | none => rw [hel] at h; exact h.elim
 | some xs =>
  rw [hel] at h
  simp only [eqNilK] at h
  obtain ⟨ad, cap, uss, ey, hlc, hcm, hcc, hxs⟩ := elems_at hI hr hel
  have e2 : a.eval (.const (.slice none 0 0)) = .slice none 0 0 := rfl
  have hrun : (execOp a.eval o).run P w = .ok (.value (.bool (if ne then !ad.isNone else ad.isNone))) w := by
   cases ne <;> (simp only [Bool.false_eq_true, if_false, if_true] at ho ⊢; simp [execOp, ho, ey, e2, eqGuard, binOp, run_equal_slice_nil w t e ad xs.length cap hu])
  refine wp_value hrun (hK (.s (.bool (if ne then !ad.isNone else ad.isNone))) H none True _ _ ?_ trivial (nxt_same hI lval_bool))
  cases ad with
  | none =>
   have hx0 : xs = [] := by
    rcases hxs with h1 | ⟨_, _, _, h1, _⟩
    ·exact h1
    ·cases h1
   have := h.1 hx0
   cases ne <;> simpa [boolK] using this
  | some ad =>
   have := h.2
   cases ne <;> simpa [boolK] using this
theorem intsOf_vals {Kd : IntKind} : ∀ {vs : List LV} {ns : List Int} {xs : List Value}, FRel M ρ vs xs -> intsOf Kd vs = some ns -> xs = ns.map (.int Kd)
 | [], ns, xs, h, hi => by simp [FRel] at h; simp [intsOf] at hi; subst h; subst hi; rfl
 | v :: vs, ns, xs, h, hi => by
  obtain ⟨y, ys, rfl, h1, h2⟩ := h
  unfold intsOf at hi
  split at hi
  ·rename_i e; cases e
  ·rename_i K' n vs' e
   cases e
   split at hi
   ·rename_i hk
    subst hk
    split at hi
    ·rename_i ns' hns
     cases hi
     rw [lrel_int rfl h1, intsOf_vals h2 hns]; rfl
    ·cases hi
   ·cases hi
  ·cases hi
theorem snd_max (hI : MInv A n0 M0 ρ0 w0 M ρ H w) (hf : FRel M ρ fr a.tmps.toList) {args : List AX} (hok : okOp P (.max args) o.op = true) (h : aop P n0 id fr H (.max args) k)
  (hK : ∀ v H' kl f x w', k v H' kl f -> f -> Nxt A n0 M0 ρ0 w0 M ρ id v H' kl x w' -> K (a.put o.dst x) w') : o.wp P a w K Q := by
 obtain ⟨xs, ts, ho, hx⟩ := inv_max hok
 simp only [aop] at h
 generalize kindOf (args.map (·.ev fr)) = Kd at h
 obtain ⟨ns, hns, hne, h⟩ := exO_inv h
 have hv := intsOf_vals (okXs_rel hf hx) hns
 cases ns with
 | nil => exact absurd rfl hne
 | cons n ns =>
  have fold : ∀ (ns : List Int) (n : Int), ((ns.map (Value.int Kd)).foldlM Builtin.max2 (.int Kd n)).run P w = .ok (.int Kd (ns.foldl (fun a b => if b > a then b else a) n)) w := by
   intro ns
   induction ns with
   | nil => intro n; rfl
   | cons m ms ih => intro n; simp only [List.map_cons, List.foldlM_cons, Sem.run_bind, Builtin.max2, Sem.run_pure, Result.andThen_ok, List.foldl_cons]; exact ih _
  refine wp_value (x := .int Kd (maxL (n :: ns))) (w' := w) ?_ (hK _ _ _ _ _ _ h trivial (nxt_same hI lval_int))
  have hrun : (Builtin.max_ ts o.type (xs.map a.eval)).run P w = .ok (.int Kd (maxL (n :: ns))) w := by
   unfold Builtin.max_
   rw [Array.toList_map, hv]
   exact fold ns n
  simp [execOp, ho, resolve, invoke, builtin, hrun]
theorem snd_min (hI : MInv A n0 M0 ρ0 w0 M ρ H w) (hf : FRel M ρ fr a.tmps.toList) {args : List AX} (hok : okOp P (.min args) o.op = true) (h : aop P n0 id fr H (.min args) k)
  (hK : ∀ v H' kl f x w', k v H' kl f -> f -> Nxt A n0 M0 ρ0 w0 M ρ id v H' kl x w' -> K (a.put o.dst x) w') : o.wp P a w K Q := by
 obtain ⟨xs, ts, ho, hx⟩ := inv_min hok
 simp only [aop] at h
 generalize kindOf (args.map (·.ev fr)) = Kd at h
 obtain ⟨ns, hns, hne, h⟩ := exO_inv h
 have hv := intsOf_vals (okXs_rel hf hx) hns
 cases ns with
 | nil => exact absurd rfl hne
 | cons n ns =>
  have fold : ∀ (ns : List Int) (n : Int), ((ns.map (Value.int Kd)).foldlM Builtin.min2 (.int Kd n)).run P w = .ok (.int Kd (ns.foldl (fun a b => if b < a then b else a) n)) w := by
   intro ns
   induction ns with
   | nil => intro n; rfl
   | cons m ms ih => intro n; simp only [List.map_cons, List.foldlM_cons, Sem.run_bind, Builtin.min2, Sem.run_pure, Result.andThen_ok, List.foldl_cons]; exact ih _
  refine wp_value (x := .int Kd (minL (n :: ns))) (w' := w) ?_ (hK _ _ _ _ _ _ h trivial (nxt_same hI lval_int))
  have hrun : (Builtin.min_ ts o.type (xs.map a.eval)).run P w = .ok (.int Kd (minL (n :: ns))) w := by
   unfold Builtin.min_
   rw [Array.toList_map, hv]
   exact fold ns n
  simp [execOp, ho, resolve, invoke, builtin, hrun]
end
end Go.E

/- Each operation of the value semantics is borne out by the model: calls. -/
namespace Go.E
open Go
section inversion
variable {P : Program} {o : Op}
theorem inv_callv {x : AX} {args : List AX} (h : okOp P (.callv x args) o = true) : ∃ y xs ts, o = .call { callee := .value y, args := xs, argTypes := ts } /\ okX x y = true /\ okXs args xs.toList = true := by
 cases o <;> first | exact Bool.noConfusion (show false = true from h) | skip
 rename_i c
 obtain ⟨callee, xs, ts⟩ := c
 cases callee <;> first | exact Bool.noConfusion (show false = true from h) | skip
 simp only [okOp, Bool.and_eq_true] at h
 exact ⟨_, xs, ts, rfl, h.1, h.2⟩
theorem inv_call {f : FuncId} {args : List AX} (h : okOp P (.call f args) o = true) : ∃ xs ts, o = .call { callee := .value (.func f), args := xs, argTypes := ts } /\ okXs args xs.toList = true /\ okFn P f = true := by
 cases o <;> first | exact Bool.noConfusion (show false = true from h) | skip
 rename_i c
 obtain ⟨callee, xs, ts⟩ := c
 cases callee <;> first | exact Bool.noConfusion (show false = true from h) | skip
 rename_i y
 cases y <;> first | exact Bool.noConfusion (show false = true from h) | skip
 simp only [okOp, Bool.and_eq_true, beq_iff_eq] at h
 obtain ⟨⟨rfl, h1⟩, h2⟩ := h
 exact ⟨xs, ts, rfl, h1, h2⟩
theorem inv_callN {sz : Nat} {f : FuncId} {args : List AX} (h : okOp P (.callN sz f args) o = true) : ∃ xs ts, o = .call { callee := .value (.func f), args := xs, argTypes := ts } /\ okXs args xs.toList = true /\ okFn P f = true := by
 cases o <;> first | exact Bool.noConfusion (show false = true from h) | skip
 rename_i c
 obtain ⟨callee, xs, ts⟩ := c
 cases callee <;> first | exact Bool.noConfusion (show false = true from h) | skip
 rename_i y
 cases y <;> first | exact Bool.noConfusion (show false = true from h) | skip
 simp only [okOp, Bool.and_eq_true, beq_iff_eq] at h
 obtain ⟨⟨rfl, h1⟩, h2⟩ := h
 exact ⟨xs, ts, rfl, h1, h2⟩
theorem inv_callI {f : FuncId} {args : List AX} (h : okOp P (.callI f args) o = true) : ∃ xs ts, o = .call { callee := .value (.func f), args := xs, argTypes := ts } /\ okXs args xs.toList = true /\ okFn P f = true := by
 cases o <;> first | exact Bool.noConfusion (show false = true from h) | skip
 rename_i c
 obtain ⟨callee, xs, ts⟩ := c
 cases callee <;> first | exact Bool.noConfusion (show false = true from h) | skip
 rename_i y
 cases y <;> first | exact Bool.noConfusion (show false = true from h) | skip
 simp only [okOp, Bool.and_eq_true, beq_iff_eq] at h
 obtain ⟨⟨rfl, h1⟩, h2⟩ := h
 exact ⟨xs, ts, rfl, h1, h2⟩
theorem okFn_inv {f : FuncId} (h : okFn P f = true) : ∃ fn, P.funcs[f]? = some fn /\ fn.body.isNone = false /\ (fn.name == "runtime.NumGoroutine") = false := by
 unfold okFn at h
 split at h
 next fn hf =>
  simp only [Bool.and_eq_true, Bool.not_eq_true'] at h
  exact ⟨fn, hf, by cases hb : fn.body <;> simp_all, h.2⟩
 next => cases h
end inversion
section
variable {P : Program} {A : Nat -> Obj -> Prop} {dfs : List Deferred} {M0 : Mem} {ρ0 : Env} {w0 : World} {M : Mem} {ρ : Env} {H : List ABlock} {w : World} {o : Oper} {a : Act} {K : Act -> World -> Prop} {Q : Exit -> Act -> World -> Prop} {fr : List LV} {k : AK} {n0 id : Nat}
theorem enter_run {f : FuncId} {y : Operand} {xs : Array Operand} {ts : Array TypeId} (hf : okFn P f = true) (ho : o.op = .call { callee := .value y, args := xs, argTypes := ts }) {first caps : Array Value} (hy : a.eval y = .func (.func f) first caps) :
  (execOp a.eval o).run P w = .ok (.enter f (first ++ xs.map a.eval ++ caps)) w := by
 obtain ⟨fn, h1, h2, h3⟩ := okFn_inv hf
 have h3' : ¬ fn.name = "runtime.NumGoroutine" := by simpa using h3
 have h2' : ¬ fn.body = none := fun e => by rw [e] at h2; cases h2
 simp [execOp, ho, resolve, hy, Deferred.ofValue, invoke, callFunc, run_program, h1, h2', h3']
theorem wp_enter {f : FuncId} {args : Array Value} (h : (execOp a.eval o).run P w = .ok (.enter f args) w) {R : Ending -> World -> Prop} (hc : Calls P f args w R) (hk : ∀ e w', R e w' -> ∃ v, e = .returned v /\ K (a.put o.dst v) w') : o.wp P a w K Q := by
 unfold Oper.wp
 rw [h]
 refine Calls.mono hc fun e w' hr => ?_
 obtain ⟨v, rfl, hk⟩ := hk e w' hr
 exact hk
theorem VRelL.flat {M : Mem} (M' : Mem) : ∀ {rs : List SV} {xs : List Value}, VRelL M rs xs -> rs.all SV.flat = true -> VRelL M' rs xs
 | [], _, h, _ => h
 | r :: rs, xs, h, hf => by
  obtain ⟨y, ys, rfl, h1, h2⟩ := h
  simp only [List.all_cons, Bool.and_eq_true] at hf
  exact ⟨y, ys, rfl, h1.flat M' hf.1, VRelL.flat M' h2 hf.2⟩
theorem results_val {rs : List SV} {xs : List Value} (h : VRelL M rs xs) : LVal M ρ (LV.ofResults rs) (retOf xs) := by
 match rs, xs, h with
 | [], _, h => simp only [VRelL] at h; subst h; exact lval_tup (xs := []) rfl
 | [r], _, h =>
  obtain ⟨y, ys, rfl, h1, h2⟩ := h
  simp only [VRelL] at h2
  subst h2
  exact lval_s.2 h1
 | r :: s :: rs, _, h =>
  have h0 := h
  obtain ⟨y, ys, rfl, h1, h2⟩ := h
  obtain ⟨z, zs, rfl, h3, h4⟩ := h2
  exact lval_tup h0
theorem snd_callK (hI : MInv A n0 M0 ρ0 w0 M ρ H w) {f : FuncId} {args : List LV} {vs : List Value} (hv : FRel M ρ args vs) (hrun : (execOp a.eval o).run P w = .ok (.enter f vs.toArray) w) (h : callK P H f args k)
  (hK : ∀ v H' kl f x w', k v H' kl f -> f -> Nxt A n0 M0 ρ0 w0 M ρ id v H' kl x w' -> K (a.put o.dst x) w') : o.wp P a w K Q := by
 obtain ⟨as, rs, has, hfn, hcase, hk⟩ := h
 rcases hcase with hflat | hst
 ·have hvs := frzAll_val (Mem.le_up M ρ w) (fun _ _ _ hB hρ => hI.rel.stab hB hρ) hv has
  refine wp_enter hrun (hfn (M.up ρ w) w vs hI.rel.holds_up hvs) fun e w' ⟨xs, M', he, hle, hh, hr, ht, hn⟩ => ⟨retOf xs, he, ?_⟩
  exact hK _ _ _ _ _ _ hk trivial ⟨M, ρ, hI.grow M.le_refl ht (Newer.refl _ _ _) (hI.rel.holds.grow ht), fun _ _ h => h, fun _ _ h => h, results_val (hr.flat M hflat)⟩
 ·have hvs := frzAll_val (H := []) M.le_refl (fun i B r h => by simp at h) hv hst
  refine wp_enter hrun (hfn M w vs hI.rel.holds hvs) fun e w' ⟨xs, M', he, hle, hh, hr, ht, hn⟩ => ⟨retOf xs, he, ?_⟩
  exact hK _ _ _ _ _ _ hk trivial ⟨M', ρ, hI.grow hle ht hn hh, fun _ _ h => h, fun _ _ h => h.mono hle (Env.le_refl _), results_val hr⟩
theorem snd_call (hI : MInv A n0 M0 ρ0 w0 M ρ H w) (hf : FRel M ρ fr a.tmps.toList) {f : FuncId} {args : List AX} (hok : okOp P (.call f args) o.op = true) (h : aop P n0 id fr H (.call f args) k)
  (hK : ∀ v H' kl f x w', k v H' kl f -> f -> Nxt A n0 M0 ρ0 w0 M ρ id v H' kl x w' -> K (a.put o.dst x) w') : o.wp P a w K Q := by
 obtain ⟨xs, ts, ho, hx, hfn⟩ := inv_call hok
 simp only [aop] at h
 have hrun := enter_run (a := a) (w := w) hfn ho (first := #[]) (caps := #[]) rfl
 refine snd_callK hI (okXs_rel hf hx) ?_ h hK
 rw [hrun]; simp [<- Array.toList_map]
theorem frel_of_lrelC : ∀ {vs : List LV} {xs : List Value}, LRelC M ρ vs (ones xs) -> vs.all LV.isOne = true -> FRel M ρ vs xs
 | [], xs, h, _ => by
  simp only [LRelC] at h
  cases xs with
  | nil => rfl
  | cons => simp at h
 | v :: vs, xs, h, hn => by
  simp only [LRelC] at h
  obtain ⟨u, us, e, h1, h2⟩ := h
  simp only [List.all_cons, Bool.and_eq_true] at hn
  cases xs with
  | nil => simp at e
  | cons x xs =>
   simp only [ones_cons, List.cons.injEq] at e
   obtain ⟨rfl, rfl⟩ := e
   exact ⟨x, xs, rfl, lval_of_one h1 (by cases v <;> simp_all [LV.isOne, LV.isAgg]), frel_of_lrelC h2 hn.2⟩
theorem snd_callv (hI : MInv A n0 M0 ρ0 w0 M ρ H w) (hf : FRel M ρ fr a.tmps.toList) {x : AX} {args : List AX} (hok : okOp P (.callv x args) o.op = true) (h : aop P n0 id fr H (.callv x args) k)
  (hK : ∀ v H' kl f x w', k v H' kl f -> f -> Nxt A n0 M0 ρ0 w0 M ρ id v H' kl x w' -> K (a.put o.dst x) w') : o.wp P a w K Q := by
 obtain ⟨y, xs, ts, ho, hx, hxs⟩ := inv_callv hok
 simp only [aop] at h
 have hr := okX_rel hf hx
 have hargs := okXs_rel hf hxs
 generalize x.ev fr = v at h hr
 unfold callvK at h
 split at h
 next g first caps =>
  obtain ⟨hfn, hone, h⟩ := h
  rw [lval_s] at hr
  have h1 := hr.one rfl
  simp only [CRel] at h1
  obtain ⟨fs, cs, e, hfs, hcs⟩ := h1
  have ey : a.eval y = .func (.func g) fs.toArray cs.toArray := by simpa using e
  simp only [Bool.and_eq_true] at hone
  refine snd_callK hI (((frel_of_lrelC (lrelC_map_s.2 hfs) hone.1).append hargs).append (frel_of_lrelC (lrelC_map_s.2 hcs) hone.2)) ?_ h hK
  rw [enter_run hfn ho ey]; simp [<- Array.toList_map]
 next g first caps =>
  obtain ⟨hfn, hone, h⟩ := h
  have h1 := hr.one rfl (by simp)
  simp only [LRel] at h1
  obtain ⟨fs, cs, e, hfs, hcs⟩ := h1
  have ey : a.eval y = .func (.func g) fs.toArray cs.toArray := by simpa using e
  simp only [Bool.and_eq_true] at hone
  refine snd_callK hI (((frel_of_lrelC hfs hone.1).append hargs).append (frel_of_lrelC hcs hone.2)) ?_ h hK
  rw [enter_run hfn ho ey]; simp [<- Array.toList_map]
 next => cases h
theorem snd_callI (hI : MInv A n0 M0 ρ0 w0 M ρ H w) (hf : FRel M ρ fr a.tmps.toList) {f : FuncId} {args : List AX} (hok : okOp P (.callI f args) o.op = true) (h : aop P n0 id fr H (.callI f args) k)
  (hK : ∀ v H' kl f x w', k v H' kl f -> f -> Nxt A n0 M0 ρ0 w0 M ρ id v H' kl x w' -> K (a.put o.dst x) w') : o.wp P a w K Q := by
 obtain ⟨xs, ts, ho, hx, hfn⟩ := inv_callI hok
 simp only [aop] at h
 obtain ⟨r, H', hsem, hk⟩ := h
 have hrun := enter_run (a := a) (w := w) hfn ho (first := #[]) (caps := #[]) rfl
 have hrun' : (execOp a.eval o).run P w = .ok (.enter f (xs.toList.map a.eval).toArray) w := by rw [hrun]; simp [<- Array.toList_map]
 refine wp_enter hrun' (hsem M ρ w _ hI.rel (okXs_rel hf hx)) fun e w' ⟨v, M', ρ', he, hI', hv⟩ => ⟨v, he, ?_⟩
 exact hK _ _ _ _ _ _ hk trivial ⟨M', ρ', hI.trans hI' (Nat.le_trans hI.nle hI.len), fun j _ h => hI'.gon j (List.getElem?_eq_some_iff.1 h).1 h, fun _ _ h => h.mono hI'.mem (hI'.le (Nat.le_refl _)), hv⟩
theorem frel_sf : ∀ {vs : List LV} {xs : List Value}, FRel M ρ vs xs -> vs.all LV.isSF = true -> FRel M [] vs xs
 | [], _, h, _ => h
 | v :: vs, xs, h, hs => by
  obtain ⟨y, ys, rfl, h1, h2⟩ := h
  simp only [List.all_cons, Bool.and_eq_true] at hs
  refine ⟨y, ys, rfl, ?_, frel_sf h2 hs.2⟩
  cases v <;> first | (cases hs.1; done) | skip
  ·rw [lval_s] at h1 ⊢; exact h1
  ·have h3 := h1.one rfl (by simp)
   simp only [LRel] at h3
   exact lval_of_one (by simp only [LRel]; exact h3) rfl
theorem frel_vrelL : ∀ {vs : List SV} {xs : List Value}, VRelL M vs xs -> FRel M ρ (vs.map .s) xs
 | [], _, h => h
 | v :: vs, xs, h => by
  obtain ⟨y, ys, rfl, h1, h2⟩ := h
  exact ⟨y, ys, rfl, lval_s.2 h1, frel_vrelL h2⟩
theorem argsN_rel {args as : List LV} {xs : List Value} (h : FRel M ρ args xs) (ha : argsN args as) : FRel M [] as xs := by
 rcases ha with ⟨rfl, hs⟩ | ⟨vs, hv, rfl⟩
 ·exact frel_sf h hs
 ·exact frel_vrelL (frzAll_val (H := []) M.le_refl (fun i B r h => by simp at h) h hv)
theorem snd_callN (hI : MInv A n0 M0 ρ0 w0 M ρ H w) (hf : FRel M ρ fr a.tmps.toList) (hid : ρ0.length <= id) {sz : Nat} {f : FuncId} {args : List AX} (hok : okOp P (.callN sz f args) o.op = true) (h : aop P n0 id fr H (.callN sz f args) k)
  (hK : ∀ v H' kl f x w', k v H' kl f -> f -> Nxt A n0 M0 ρ0 w0 M ρ id v H' kl x w' -> K (a.put o.dst x) w') : o.wp P a w K Q := by
 obtain ⟨xs, ts, ho, hx, hfn⟩ := inv_callN hok
 simp only [aop] at h
 obtain ⟨as, ys, hnew, has, hsz, hcs, hg, h⟩ := h
 have hrun := enter_run (a := a) (w := w) hfn ho (first := #[]) (caps := #[]) rfl
 have hrun' : (execOp a.eval o).run P w = .ok (.enter f (xs.toList.map a.eval).toArray) w := by rw [hrun]; simp [<- Array.toList_map]
 have hvs := argsN_rel (okXs_rel hf hx) has
 refine wp_enter hrun' (hnew M w _ hI.rel.holds hvs) fun e w' ⟨ad, cap, M', he, hle, hh, ht, hn, hlc, hcm, hnil, hcap⟩ => ⟨_, he, ?_⟩
 split at h
 ·rename_i e0
  subst e0
  refine hK _ _ _ _ _ _ h trivial ⟨M', ρ, hI.grow hle ht hn hh, fun _ _ h => h, fun _ _ h => h.mono hle (Env.le_refl _), lval_of_one ?_ rfl⟩
  simp only [LRel, CRel]
  have := hnil rfl
  subst this
  exact ⟨_, 0, rfl, _, _, _, rfl, rfl, Nat.le_refl _, hcm, .inl trivial⟩
 ·rename_i hne
  have hpos : 0 < ys.length := List.length_pos_iff.2 hne
  rcases hcap with h0 | ⟨cb, sh, c, T, rfl, hcb, hheap, hfit, hfree, hrel⟩
  ·omega
  ·have hlt : cb < w'.heap.size := (Array.getElem?_eq_some_iff.1 hheap).1
   have hnm : M'.map cb = none := by
    cases hm : M'.map cb with
    | none => rfl
    | some es =>
     have h1 := hh.2 cb es hm
     rw [hheap] at h1; cases h1
   have hfl : (flatE ys).length = ys.length * sz := by
    unfold flatE
    have := flatten_len (uss := (ys.map fun y => (y.cells.map fun _ => undef))) (sz := sz) (by
     intro u hu
     simp only [List.mem_map] at hu
     obtain ⟨y, hy, rfl⟩ := hu
     simpa using hcs y hy)
    simp only [List.length_flatten, List.map_map, List.length_map] at this ⊢
    rw [<- this]
    congr 1
    apply List.map_congr_left
    intro y _
    simp [Function.comp]
   have hmul := Nat.mul_le_mul_right sz hlc
   obtain ⟨hI', hle'⟩ := hI.lay (cb := cb) (sh := sh) (n := c.size) (B := .row (flatE ys)) hid hg hle ht hn hh hcb hlt ⟨hfree, hnm⟩ (by
    simp only [BRel]
    exact ⟨c, T, hheap, rfl, by omega, hrel, hfree⟩)
   refine hK _ _ _ _ _ _ h trivial ⟨M', _, hI', fun j hj h => by rw [List.getElem?_set, if_neg (fun e => hj e.symm)]; exact h, fun _ _ h => h.mono hle hle', lval_of_one ?_ rfl⟩
   simp only [LRel]
   have hidl : id < ρ.length := by rw [hI.rel.len]; exact (List.getElem?_eq_some_iff.1 hg).1
   exact ⟨.here cb sh c.size, _, cap, by rw [List.getElem?_set_self hidl], by simp, rfl, hlc, hcm, hsz, by simp, .inr ⟨cb, sh, c.size, rfl, by simp, by omega⟩⟩
end
end Go.E

/- Each operation of the value semantics is borne out by the model: those that lay and write blocks. -/
namespace Go.E
open Go
section inversion
variable {P : Program} {o : Op}
theorem okZero_inv {t : TypeId} {cells : List LV} (h : okZero P t cells = true) : ∃ it z, P.info? t = some it /\ it.zero = some z /\ okConstL cells z.cells.toList = true := by
 unfold okZero at h
 split at h
 next z hz =>
  cases hi : P.info? t with
  | none => rw [hi] at hz; cases hz
  | some it => rw [hi] at hz; exact ⟨it, z, rfl, hz, h⟩
 next => cases h
theorem inv_alloc {cells : List LV} (h : okOp P (.alloc cells) o = true) : ∃ t, o = .alloc t /\ okZero P t cells = true := by
 cases o <;> first | exact Bool.noConfusion (show false = true from h) | exact ⟨_, rfl, h⟩
theorem inv_boxM {x : AX} (h : okOp P (.boxM x) o = true) : ∃ t y, o = .box t y /\ okX x y = true := by
 cases o <;> first | exact Bool.noConfusion (show false = true from h) | exact ⟨_, _, rfl, h⟩
theorem inv_store {n : Nat} {x y : AX} (h : okOp P (.store n x y) o = true) : ∃ t x' y', o = .store t x' y' /\ okX x x' = true /\ okX y y' = true /\ szTy P t = some n := by
 cases o <;> first | exact Bool.noConfusion (show false = true from h) | (simp only [okOp, Bool.and_eq_true, beq_iff_eq] at h; exact ⟨_, _, _, rfl, h.1.1, h.1.2, h.2⟩)
theorem inv_mkslice {sz bytes : Nat} {zero : List SV} {l c : AX} (h : okOp P (.mkslice sz bytes zero l c) o = true) : ∃ t l' c' e ie z, o = .makeSlice t l' c' /\ okX l l' = true /\ okX c c' = true /\ P.underlying t = some (.slice e) /\ P.info? e = some ie /\ ie.size = sz /\ ie.bytes = bytes /\ ie.zero = some z /\ okConstL (zero.map .s) z.cells.toList = true := by
 cases o <;> first | exact Bool.noConfusion (show false = true from h) | skip
 simp only [okOp, Bool.and_eq_true, beq_iff_eq] at h
 obtain ⟨⟨⟨⟨h1, h2⟩, h3⟩, h4⟩, h5⟩ := h
 split at h5
 next e hu =>
  obtain ⟨ie, z, h6, h7, h8⟩ := okZero_inv h5
  simp only [slSz, slBytes, hu, h6, Option.map_some, Option.some.injEq] at h3 h4
  exact ⟨_, _, _, e, ie, z, rfl, h1, h2, hu, h6, h3, h4, h7, h8⟩
 next => cases h5
end inversion
theorem splice_take_drop {α : Type} {c vs : List α} {sh off L : Nat} (h1 : off + vs.length <= L) (h2 : sh + L <= c.length) :
  ((c.take (sh + off) ++ vs ++ c.drop (sh + off + vs.length)).drop sh).take L = splice ((c.drop sh).take L) off vs := by
 unfold splice
 apply List.ext_getElem?
 intro j
 rw [List.getElem?_take]
 by_cases hj : j < L
 ·rw [if_pos hj, List.getElem?_drop]
  have l1 : (c.take (sh + off)).length = sh + off := by rw [List.length_take]; omega
  have l2 : (((c.drop sh).take L).take off).length = off := by rw [List.length_take, List.length_take, List.length_drop]; omega
  by_cases c1 : j < off
  ·rw [List.append_assoc, List.getElem?_append_left (by omega), List.append_assoc, List.getElem?_append_left (by omega)]
   rw [List.getElem?_take, if_pos (by omega), List.getElem?_take, if_pos c1, List.getElem?_take, if_pos hj, List.getElem?_drop]
  ·by_cases c2 : j < off + vs.length
   ·rw [List.append_assoc, List.getElem?_append_right (by omega), List.getElem?_append_left (by omega), List.append_assoc, List.getElem?_append_right (by omega), List.getElem?_append_left (by omega)]
    congr 1; omega
   ·rw [List.append_assoc, List.getElem?_append_right (by omega), List.getElem?_append_right (by omega), List.append_assoc, List.getElem?_append_right (by omega), List.getElem?_append_right (by omega)]
    rw [List.getElem?_drop, List.getElem?_drop, List.getElem?_take, if_pos (by omega), List.getElem?_drop]
    congr 1; omega
 ·rw [if_neg hj]
  symm
  apply List.getElem?_eq_none
  simp only [List.length_append, List.length_take, List.length_drop]
  omega
theorem splice_length {α : Type} {c vs : List α} {off : Nat} (h : off + vs.length <= c.length) : (splice c off vs).length = c.length := by
 simp only [splice, List.length_append, List.length_take, List.length_drop]; omega
theorem ones_splice (c vs : List Value) (off : Nat) : ones (splice c off vs) = splice (ones c) off (ones vs) := by simp [splice]
theorem LRelC.splice {M : Mem} {ρ : Env} {cs xs : List LV} {uss vss : List (List Value)} (h : LRelC M ρ cs uss) (k : LRelC M ρ xs vss) (off : Nat) : LRelC M ρ (splice cs off xs) (Go.E.splice uss off vss) := by
 unfold Go.E.splice
 rw [k.length]
 exact ((h.take off).append k).append (h.drop _)
theorem CRelC.splice {M : Mem} {cs xs : List SV} {uss vss : List (List Value)} (h : CRelC M cs uss) (k : CRelC M xs vss) (off : Nat) : CRelC M (splice cs off xs) (Go.E.splice uss off vss) := by
 unfold Go.E.splice
 rw [k.length]
 exact ((h.take off).append k).append (h.drop _)
section
variable {P : Program} {A : Nat -> Obj -> Prop} {dfs : List Deferred} {M0 : Mem} {ρ0 : Env} {w0 : World} {M : Mem} {ρ : Env} {H : List ABlock} {w : World} {o : Oper} {a : Act} {K : Act -> World -> Prop} {Q : Exit -> Act -> World -> Prop} {fr : List LV} {k : AK} {n0 id : Nat}
theorem lay_new (hI : MInv A n0 M0 ρ0 w0 M ρ H w) (hid : ρ0.length <= id) (hg : H[id]? = some .gone) {B : ABlock} {c : Array Value} {T : TypeId}
  (hB : (∃ cs, B = .obj cs /\ LRelC M ρ cs (ones c.toList)) \/ (∃ cs, B = .row cs /\ cs.length <= c.size /\ CRelC M cs (ones (c.toList.take cs.length)))) :
  ∃ ρ', MInv A n0 M0 ρ0 w0 M ρ' (H.set id B) (w.alloc (.cells c T)) /\ Env.le ρ ρ' /\ ρ'[id]? = some (.here w.heap.size 0 c.size) /\ ∀ (j : Nat), j ≠ id -> ρ[j]? = some Spot.gone -> ρ'[j]? = some Spot.gone := by
 have hnc : ∀ o, M.cell w.heap.size o = none := fun o => by
  cases hm : M.cell w.heap.size o with
  | none => rfl
  | some v => have := hI.rel.cell_lt hm; omega
 have hnm : M.map w.heap.size = none := by
  cases hm : M.map w.heap.size with
  | none => rfl
  | some v => have := hI.rel.map_lt hm; omega
 obtain ⟨r, hr, hBr⟩ := hI.rel.spot hg
 have hr' : r = .gone := by cases r <;> simp only [BRel] at hBr; rfl
 subst hr'
 have hle : Env.le ρ (ρ.set id (.here w.heap.size 0 c.size)) := Env.le_set hr
 obtain ⟨h1, h2⟩ := hI.lay (cb := w.heap.size) (sh := 0) (n := c.size) (B := B) hid hg M.le_refl (touch_alloc w (.cells c T)) (Newer.refl _ _ _) (hI.rel.holds.grow (touch_alloc w _)) (Nat.le_refl _) (by simp) ⟨hnc, hnm⟩ (by
  rcases hB with ⟨cs, rfl, hrel⟩ | ⟨cs, rfl, hlen, hrel⟩
  ·simp only [BRel]
   exact ⟨c, T, alloc_at w _, by trivial, by have := hrel.length; simpa using this, by trivial, hrel.mono M.le_refl hle, hnc⟩
  ·simp only [BRel]
   exact ⟨c, T, alloc_at w _, by trivial, by omega, by simpa using hrel, hnc⟩)
 have hidl : id < ρ.length := by rw [hI.rel.len]; exact (List.getElem?_eq_some_iff.1 hg).1
 exact ⟨_, h1, h2, by rw [List.getElem?_set_self hidl], fun j hj h => by rw [List.getElem?_set, if_neg (fun e => hj e.symm)]; exact h⟩
theorem snd_alloc (hI : MInv A n0 M0 ρ0 w0 M ρ H w) (hid : ρ0.length <= id) {cells : List LV} (hok : okOp P (.alloc cells) o.op = true) (h : aop P n0 id fr H (.alloc cells) k)
  (hK : ∀ v H' kl f x w', k v H' kl f -> f -> Nxt A n0 M0 ρ0 w0 M ρ id v H' kl x w' -> K (a.put o.dst x) w') : o.wp P a w K Q := by
 obtain ⟨t, ho, hz⟩ := inv_alloc hok
 obtain ⟨it, z, hi, hzz, hc⟩ := okZero_inv hz
 simp only [aop] at h
 obtain ⟨hg, h⟩ := h
 obtain ⟨ρ', h1, h2, h3, hgn⟩ := lay_new (T := t) hI hid hg (.inl ⟨cells, rfl, okConstL_rel _ _ hc⟩)
 refine wp_value (x := .pointer (some ⟨w.heap.size, 0, none⟩)) (w' := w.alloc (.cells z.cells t)) ?_ (hK _ _ _ _ _ _ h trivial ⟨M, ρ', h1, hgn, fun _ _ h => h.mono M.le_refl h2, lval_of_one ?_ rfl⟩)
 ·simp [execOp, ho, Instr.alloc, zeroValue, typeInfo, hi, hzz, newVar, newRow]
 ·simp only [LRel]; exact ⟨_, _, _, h3, by simp⟩
theorem snd_boxM (hI : MInv A n0 M0 ρ0 w0 M ρ H w) (hf : FRel M ρ fr a.tmps.toList) (hid : ρ0.length <= id) {x : AX} (hok : okOp P (.boxM x) o.op = true) (h : aop P n0 id fr H (.boxM x) k)
  (hK : ∀ v H' kl f x w', k v H' kl f -> f -> Nxt A n0 M0 ρ0 w0 M ρ id v H' kl x w' -> K (a.put o.dst x) w') : o.wp P a w K Q := by
 obtain ⟨t, y, ho, hx⟩ := inv_boxM hok
 simp only [aop] at h
 obtain ⟨cs, hcs, hg, h⟩ := exO_inv h
 obtain ⟨ρ', h1, h2, h3, hgn⟩ := lay_new (T := t) hI hid hg (.inl ⟨cs, rfl, LV.cells_rel (okX_rel hf hx) hcs⟩)
 refine wp_value (x := .pointer (some ⟨w.heap.size, 0, none⟩)) (w' := w.alloc (.cells (a.eval y).cells t)) ?_ (hK _ _ _ _ _ _ h trivial ⟨M, ρ', h1, hgn, fun _ _ h => h.mono M.le_refl h2, lval_of_one ?_ rfl⟩)
 ·simp [execOp, ho, Instr.box, newVar, newRow]
 ·simp only [LRel]; exact ⟨_, _, _, h3, by simp⟩
theorem write_obj (hI : MInv A n0 M0 ρ0 w0 M ρ H w) {b off cb sh n : Nat} {cs xs : List LV} {vs : List Value} (hB : H[b]? = some (.obj cs)) (hρ : ρ[b]? = some (.here cb sh n)) (hx : LRelC M ρ xs (ones vs)) (hfit : off + xs.length <= cs.length) :
  ∃ w', (storeCells ⟨cb, sh + off, none⟩ vs).run P w = .ok () w' /\ MInv A n0 M0 ρ0 w0 M ρ (H.set b (.obj (splice cs off xs))) w' := by
 obtain ⟨r, h1, h2⟩ := hI.rel.spot hB
 rw [hρ] at h1; cases h1
 simp only [BRel] at h2
 obtain ⟨c, T, h3, h4, h5, h6, h7, h8⟩ := h2
 subst h6
 have hxl : vs.length = xs.length := by have := hx.length; simpa using this
 have hcl : c.toList.length = cs.length := by simp only [Array.length_toList]; omega
 refine ⟨_, run_storeCells_at P cb (0 + off) T vs 0 c w h3 (by simp only [Nat.zero_add, Nat.add_zero]; omega) (fun v hv => LRelC.oneCells _ _ hx [v] (by simpa [ones] using hv) v (by simp)), hI.write hB hρ h3 h8 ?_⟩
 simp only [BRel]
 have e : (c.toList.take (0 + off + 0) ++ vs ++ c.toList.drop (0 + off + 0 + vs.length)) = splice c.toList off vs := by simp [splice]
 rw [e]
 have hsl : (splice c.toList off vs).length = c.toList.length := splice_length (by omega)
 refine ⟨_, T, setRow_heap w cb c _ T _ h3, ?_, ?_, by trivial, ?_, h8⟩
 ·simp only [List.size_toArray, hsl]; omega
 ·rw [splice_length hfit]; exact h5
 ·simp only [ones_splice]; exact h7.splice hx off
theorem write_row (hI : MInv A n0 M0 ρ0 w0 M ρ H w) {b off cb sh n : Nat} {cs xs : List SV} {vs : List Value} (hB : H[b]? = some (.row cs)) (hρ : ρ[b]? = some (.here cb sh n)) (hx : CRelC M xs (ones vs)) (hfit : off + xs.length <= cs.length) :
  ∃ w', (storeCells ⟨cb, sh + off, none⟩ vs).run P w = .ok () w' /\ MInv A n0 M0 ρ0 w0 M ρ (H.set b (.row (splice cs off xs))) w' := by
 obtain ⟨r, h1, h2⟩ := hI.rel.spot hB
 rw [hρ] at h1; cases h1
 simp only [BRel] at h2
 obtain ⟨c, T, h3, h4, h5, h7, h8⟩ := h2
 have hxl : vs.length = xs.length := by have := hx.length; simpa using this
 have hcl : c.toList.length = n := by simp only [Array.length_toList]; omega
 refine ⟨_, run_storeCells_at P cb (sh + off) T vs 0 c w h3 (by simp only [Nat.add_zero]; omega) (fun v hv => CRelC.oneCells _ _ hx [v] (by simpa [ones] using hv) v (by simp)), hI.write hB hρ h3 h8 ?_⟩
 simp only [BRel, Nat.add_zero]
 refine ⟨_, T, setRow_heap w cb c _ T _ h3, ?_, by rw [splice_length hfit]; exact h5, ?_, h8⟩
 ·simp only [List.size_toArray, List.length_append, List.length_take, List.length_drop]; omega
 ·rw [splice_length hfit, splice_take_drop (by omega) (by omega), ones_splice]
  exact h7.splice hx off
theorem snd_store (hI : MInv A n0 M0 ρ0 w0 M ρ H w) (hf : FRel M ρ fr a.tmps.toList) {n : Nat} {x y : AX} (hok : okOp P (.store n x y) o.op = true) (h : aop P n0 id fr H (.store n x y) k)
  (hK : ∀ v H' kl f x w', k v H' kl f -> f -> Nxt A n0 M0 ρ0 w0 M ρ id v H' kl x w' -> K (a.put o.dst x) w') : o.wp P a w K Q := by
 obtain ⟨t, x', y', ho, hx, hy, hs⟩ := inv_store hok
 simp only [aop] at h
 have hr := okX_rel hf hx
 have hv := okX_rel hf hy
 generalize x.ev fr = v at h hr
 generalize y.ev fr = u at h hv
 unfold stK at h
 split at h
 next b off =>
  have h1 := hr.one rfl (by simp)
  simp only [LRel] at h1
  obtain ⟨cb, sh, m, hρ, e⟩ := h1
  have ey : a.eval x' = .pointer (some ⟨cb, sh + off, none⟩) := by simpa using e
  have fin : ∀ {H' : List ABlock} {w' : World}, (storeCells ⟨cb, sh + off, none⟩ (a.eval y').cells.toList).run P w = .ok () w' -> (a.eval y').cells.size = n -> MInv A n0 M0 ρ0 w0 M ρ H' w' -> k (.tup []) H' none True -> o.wp P a w K Q := by
   intro H' w' hrun hsz hI' hk
   refine wp_skip' (w' := w') ?_ (hK _ _ _ _ _ _ hk trivial ⟨M, ρ, hI', fun _ _ h => h, fun _ _ h => h, lval_tup (xs := []) rfl⟩)
   simp [execOp, ho, Instr.storeAt, ey, Instr.sureAddr, storeVar, szTy_run hs, hsz, hrun]
  unfold stB at h
  split at h
  next cs hb =>
   obtain ⟨xs, hxs, hlen, hfit, h⟩ := exO_inv h
   have hxr := LV.cells_rel hv hxs
   obtain ⟨w', h5, h6⟩ := write_obj (P := P) hI hb hρ hxr (by rw [hlen]; exact hfit)
   exact fin h5 (by have := hxr.length; simp only [ones_length, Array.length_toList] at this; omega) h6 h
  next cs hb =>
   obtain ⟨sv, hsv, hlen, hfit, h⟩ := exO_inv h
   have hxr := crel_cells (frz_nil_val hv hsv).cells
   obtain ⟨w', h5, h6⟩ := write_row (P := P) hI hb hρ hxr (by rw [hlen]; exact hfit)
   exact fin h5 (by have := hxr.length; simp only [ones_length, Array.length_toList] at this; omega) h6 h
  next => cases h
 next => cases h
theorem flatrep_get {α : Type} (l : List α) : ∀ (n i : Nat), (List.replicate n l).flatten[i]? = if i < n * l.length then l[i % l.length]? else none
 | 0, i => by simp
 | n + 1, i => by
  rw [List.replicate_succ, List.flatten_cons]
  by_cases hi : i < l.length
  ·rw [List.getElem?_append_left hi, if_pos (by rw [Nat.succ_mul]; omega), Nat.mod_eq_of_lt hi]
  ·rw [List.getElem?_append_right (by omega), flatrep_get l n]
   have e : (i - l.length) % l.length = i % l.length := by
    rw [<- Nat.add_mod_right (i - l.length), Nat.sub_add_cancel (by omega)]
   rw [e, Nat.succ_mul]
   by_cases hj : i < n * l.length + l.length
   ·rw [if_pos (by omega), if_pos hj]
   ·rw [if_neg (by omega), if_neg hj]
theorem made_toList (z : Array Value) (n : Nat) : (madeCells z (n * z.size)).toList = (List.replicate n z.toList).flatten := by
 apply List.ext_getElem?
 intro i
 rw [flatrep_get]
 simp only [madeCells, Array.length_toList, Array.getElem?_toList, Array.getElem?_map]
 by_cases hi : i < n * z.size
 ·rw [if_pos hi]
  have hz : 0 < z.size := by
   rcases Nat.eq_zero_or_pos z.size with h | h
   ·rw [h] at hi; omega
   ·exact h
  have hm := Nat.mod_lt i hz
  simp [hi, hm]
 ·rw [if_neg hi]
  simp [hi]
theorem flatten_take {α : Type} (l : List α) (n m : Nat) (h : n <= m) : (List.replicate m l).flatten.take (n * l.length) = (List.replicate n l).flatten := by
 apply List.ext_getElem?
 intro i
 rw [List.getElem?_take, flatrep_get, flatrep_get]
 have := Nat.mul_le_mul_right l.length h
 by_cases hi : i < n * l.length
 ·rw [if_pos hi, if_pos (by omega), if_pos hi]
 ·rw [if_neg hi, if_neg hi]
theorem crelC_rep {zs : List SV} {us : List (List Value)} (h : CRelC M zs us) : ∀ n, CRelC M (List.replicate n zs).flatten (List.replicate n us).flatten
 | 0 => by simp [CRelC]
 | n + 1 => by rw [List.replicate_succ, List.flatten_cons, List.replicate_succ, List.flatten_cons]; exact h.append (crelC_rep h n)
theorem ones_rep (us : List Value) : ∀ n, ones (List.replicate n us).flatten = (List.replicate n (ones us)).flatten
 | 0 => rfl
 | n + 1 => by rw [List.replicate_succ, List.flatten_cons, ones_append, ones_rep us n, List.replicate_succ, List.flatten_cons]
theorem snd_mkslice (hI : MInv A n0 M0 ρ0 w0 M ρ H w) (hf : FRel M ρ fr a.tmps.toList) (hid : ρ0.length <= id) {sz bytes : Nat} {zero : List SV} {l c : AX} (hok : okOp P (.mkslice sz bytes zero l c) o.op = true) (h : aop P n0 id fr H (.mkslice sz bytes zero l c) k)
    (hK : ∀ v H' kl f x w', k v H' kl f -> f -> Nxt A n0 M0 ρ0 w0 M ρ id v H' kl x w' -> K (a.put o.dst x) w') : o.wp P a w K Q := by
  obtain ⟨t, l', c', e, ie, z, ho, hl, hc, hu, hi, hsz, hbytes, hz, hzc⟩ := inv_mkslice hok
  simp only [aop] at h
  have hlr := okX_rel hf hl
  have hcr := okX_rel hf hc
  generalize l.ev fr = lv at h hlr
  generalize c.ev fr = cv at h hcr
  unfold mksliceK at h
  split at h
  next n m =>
    obtain ⟨h0, hnm, hb, h60, hzl, hpos, hg, h⟩ := h
    have el := lrel_int rfl hlr
    have ec := lrel_int rfl hcr
    have hzr : CRelC M zero (ones z.cells.toList) := lrelC_map_s.1 (okConstL_rel (M := M) (ρ := ρ) _ _ hzc)
    have hzs : z.cells.size = sz := by have := hzr.length; simp only [ones_length, Array.length_toList] at this; omega
    have hrun := run_make (P := P) w t e ie z hu hi hz .i64 .i64 n m h0 hnm (by
      rw [hbytes, Int.mul_comm]; have : (2:Int)^46 <= 281474976710656 := by decide
      omega) (by have : (2:Int)^60 <= 9223372036854775807 := by decide
                 omega)
    have hmade : (madeCells z.cells (m.toNat * ie.size)).toList = (List.replicate m.toNat z.cells.toList).flatten := by rw [hsz, <- hzs]; exact made_toList _ _
    have hzl' : z.cells.toList.length = sz := by simpa using hzs
    have hnm' : n.toNat <= m.toNat := by omega
    have hlenr : ((List.replicate n.toNat zero).flatten).length = n.toNat * sz := by simp [hzl]
    obtain ⟨ρ', h1, h2, h3, hgn⟩ := lay_new (T := e) (c := madeCells z.cells (m.toNat * ie.size)) hI hid hg (.inr ⟨(List.replicate n.toNat zero).flatten, rfl, by
        rw [hlenr, size_madeCells, hsz]; exact Nat.mul_le_mul_right _ hnm', by
        rw [hlenr, hmade, <- hzl', flatten_take _ _ _ hnm', ones_rep]
        exact crelC_rep hzr _⟩)
    refine wp_value (x := .slice (some ⟨w.heap.size, 0, none⟩) n.toNat m.toNat) (w' := w.alloc (.cells (madeCells z.cells (m.toNat * ie.size)) e)) ?_ (hK _ _ _ _ _ _ h trivial ⟨M, ρ', h1, hgn, fun _ _ h => h.mono M.le_refl h2, lval_of_one ?_ rfl⟩)
    · simp [execOp, ho, el, ec, hrun]
    · simp only [LRel]
      refine ⟨_, _, _, h3, by simp, rfl, hnm', ?_, hpos, fun hd => by have := of_decide_eq_true hd; omega, .inr ⟨_, _, _, rfl, by simp, ?_⟩⟩
      · have : (2:Int)^60 <= (maxLen : Int) := by decide
        omega
      · rw [size_madeCells, hsz]; omega
  next => cases h
end
end Go.E

/- Each operation of the value semantics is borne out by the model: append, copy, clear. -/
namespace Go.E
open Go
section inversion
variable {P : Program} {o : Op}
theorem inv_appendAux {sz bytes : Nat} {s x : AX} {xs : Array Operand} {ts : Array TypeId} (h : (okXs [s, x] xs.toList && decide (0 < bytes) &&
   (match ts[0]? with | some t => slSz P t == some sz && slBytes P t == some bytes && (match P.underlying t with | some (.slice e) => ((P.info? e).bind (·.zero)).any (fun z => z.cells.size == sz) | _ => false) | none => false) &&
   (match ts[1]? with | some t => (match P.underlying t with | some (.slice _) => true | _ => false) | none => false)) = true) :
  ∃ y y' t tx e e' ie z, xs = #[y, y'] /\ okX s y = true /\ okX x y' = true /\ 0 < bytes /\ ts[0]? = some t /\ ts[1]? = some tx /\ P.underlying t = some (.slice e) /\ P.info? e = some ie /\ ie.size = sz /\ ie.bytes = bytes /\ ie.zero = some z /\ z.cells.size = sz /\ P.underlying tx = some (.slice e') := by
 simp only [Bool.and_eq_true, decide_eq_true_eq] at h
 obtain ⟨⟨⟨h1, h2⟩, h3⟩, h4⟩ := h
 obtain ⟨y, y', hy, h5, h6⟩ := okXs_two h1
 have hy' : xs = #[y, y'] := by simpa using congrArg List.toArray hy
 split at h3
 next t ht =>
  split at h4
  next tx htx =>
   split at h4
   next e' hu' =>
    simp only [Bool.and_eq_true, beq_iff_eq] at h3
    obtain ⟨⟨h7, h8⟩, h9⟩ := h3
    split at h9
    next e hu =>
     cases hi : P.info? e with
     | none => rw [hi] at h9; cases h9
     | some ie =>
      rw [hi] at h9
      cases hz : ie.zero with
      | none => simp [hz] at h9
      | some z =>
       simp [hz] at h9
       simp only [slSz, slBytes, hu, hi, Option.map_some, Option.some.injEq] at h7 h8
       exact ⟨y, y', t, tx, e, e', ie, z, hy', h5, h6, h2, ht, htx, hu, hi, h7, h8, hz, h9, hu'⟩
    next => cases h9
   next => cases h4
  next => cases h4
 next => cases h3
theorem inv_append {sz bytes : Nat} {s x : AX} (h : okOp P (.append sz bytes s x) o = true) : ∃ ts y y' t tx e e' ie z, o = .call { callee := .builtin .append, args := #[y, y'], argTypes := ts } /\ okX s y = true /\ okX x y' = true /\ 0 < bytes /\ ts[0]? = some t /\ ts[1]? = some tx /\ P.underlying t = some (.slice e) /\ P.info? e = some ie /\ ie.size = sz /\ ie.bytes = bytes /\ ie.zero = some z /\ z.cells.size = sz /\ P.underlying tx = some (.slice e') := by
 cases o <;> first | exact Bool.noConfusion (show false = true from h) | skip
 rename_i c
 obtain ⟨callee, xs, ts⟩ := c
 cases callee <;> first | exact Bool.noConfusion (show false = true from h) | skip
 rename_i b
 cases b <;> first | exact Bool.noConfusion (show false = true from h) | skip
 obtain ⟨y, y', t, tx, e, e', ie, z, rfl, h1⟩ := inv_appendAux h
 exact ⟨ts, y, y', t, tx, e, e', ie, z, rfl, h1⟩
theorem inv_appendN {sz bytes : Nat} {s x : AX} (h : okOp P (.appendN sz bytes s x) o = true) : ∃ ts y y' t tx e e' ie z, o = .call { callee := .builtin .append, args := #[y, y'], argTypes := ts } /\ okX s y = true /\ okX x y' = true /\ 0 < bytes /\ ts[0]? = some t /\ ts[1]? = some tx /\ P.underlying t = some (.slice e) /\ P.info? e = some ie /\ ie.size = sz /\ ie.bytes = bytes /\ ie.zero = some z /\ z.cells.size = sz /\ P.underlying tx = some (.slice e') := by
 cases o <;> first | exact Bool.noConfusion (show false = true from h) | skip
 rename_i c
 obtain ⟨callee, xs, ts⟩ := c
 cases callee <;> first | exact Bool.noConfusion (show false = true from h) | skip
 rename_i b
 cases b <;> first | exact Bool.noConfusion (show false = true from h) | skip
 obtain ⟨y, y', t, tx, e, e', ie, z, rfl, h1⟩ := inv_appendAux h
 exact ⟨ts, y, y', t, tx, e, e', ie, z, rfl, h1⟩
theorem inv_copy {sz : Nat} {d s : AX} (h : okOp P (.copy sz d s) o = true) : ∃ ts y y' t e, o = .call { callee := .builtin .copy, args := #[y, y'], argTypes := ts } /\ okX d y = true /\ okX s y' = true /\ ts[0]? = some t /\ P.underlying t = some (.slice e) /\ szTy P e = some sz := by
 cases o <;> first | exact Bool.noConfusion (show false = true from h) | skip
 rename_i c
 obtain ⟨callee, xs, ts⟩ := c
 cases callee <;> first | exact Bool.noConfusion (show false = true from h) | skip
 rename_i b
 cases b <;> first | exact Bool.noConfusion (show false = true from h) | skip
 simp only [okOp, Bool.and_eq_true] at h
 obtain ⟨h1, h2⟩ := h
 obtain ⟨y, y', hy, h5, h6⟩ := okXs_two h1
 have hy' : xs = #[y, y'] := by simpa using congrArg List.toArray hy
 subst hy'
 split at h2
 next t ht =>
  obtain ⟨e, hu, hs⟩ := slSz_inv (by simpa using h2)
  exact ⟨ts, y, y', t, e, rfl, h5, h6, ht, hu, hs⟩
 next => cases h2
theorem inv_clear {sz : Nat} {zero : List SV} {d : AX} (h : okOp P (.clear sz zero d) o = true) : ∃ ts y t e ie z, o = .call { callee := .builtin .clear, args := #[y], argTypes := ts } /\ okX d y = true /\ ts[0]? = some t /\ P.underlying t = some (.slice e) /\ P.info? e = some ie /\ ie.size = sz /\ ie.zero = some z /\ okConstL (zero.map .s) z.cells.toList = true := by
 cases o <;> first | exact Bool.noConfusion (show false = true from h) | skip
 rename_i c
 obtain ⟨callee, xs, ts⟩ := c
 cases callee <;> first | exact Bool.noConfusion (show false = true from h) | skip
 rename_i b
 cases b <;> first | exact Bool.noConfusion (show false = true from h) | skip
 simp only [okOp, Bool.and_eq_true] at h
 obtain ⟨h1, h2⟩ := h
 obtain ⟨y, hy, h5⟩ := okXs_one h1
 have hy' : xs = #[y] := by simpa using congrArg List.toArray hy
 subst hy'
 split at h2
 next t ht =>
  simp only [Bool.and_eq_true, beq_iff_eq] at h2
  obtain ⟨h3, h4⟩ := h2
  split at h4
  next e hu =>
   obtain ⟨ie, z, h6, h7, h8⟩ := okZero_inv h4
   simp only [slSz, hu, h6, Option.map_some, Option.some.injEq] at h3
   exact ⟨ts, y, t, e, ie, z, rfl, h5, ht, hu, h6, h3, h7, h8⟩
  next => cases h4
 next => cases h2
end inversion
section
variable {P : Program} {A : Nat -> Obj -> Prop} {dfs : List Deferred} {M0 : Mem} {ρ0 : Env} {w0 : World} {M : Mem} {ρ : Env} {H : List ABlock} {w : World} {o : Oper} {a : Act} {K : Act -> World -> Prop} {Q : Exit -> Act -> World -> Prop} {fr : List LV} {k : AK} {n0 id : Nat}
theorem flatE_rel : ∀ {xs : List SV} {uss : List (List Value)}, CRelC M xs uss -> CRelC M (flatE xs) (ones uss.flatten)
 | [], uss, h => by simp only [CRelC] at h; subst h; simp [flatE, CRelC]
 | x :: xs, uss, h => by
  simp only [CRelC] at h
  obtain ⟨u, us, rfl, h1, h2⟩ := h
  simp only [flatE, List.map_cons, List.flatten_cons, ones_append]
  exact (crel_cells h1).append (flatE_rel h2)
theorem flatE_length {sz : Nat} : ∀ {xs : List SV}, (∀ y ∈ xs, y.cells.length = sz) -> (flatE xs).length = xs.length * sz
 | [], _ => by simp [flatE]
 | x :: xs, h => by
  have ih := flatE_length (xs := xs) fun y hy => h y (by simp [hy])
  simp only [flatE, List.map_cons, List.flatten_cons, List.length_append, List.length_cons, h x (by simp), Nat.succ_mul] at ih ⊢
  omega
theorem src_of (hI : MInv A n0 M0 ρ0 w0 M ρ H w) {v : LV} {x : Value} {ys : List SV} {sz : Nat} {tx e' : TypeId} (hk : P.underlying tx = some (.slice e')) (hr : LVal M ρ v x) (he : elemsOf H v = some ys) (hs : ∀ y ∈ ys, y.cells.length = sz) :
  ∃ ad cap uss, x = .slice ad ys.length cap /\ ys.length <= cap /\ cap <= maxLen /\ CRelC M ys uss /\ (∀ u ∈ uss, u.length = sz) /\ uss.flatten.length = ys.length * sz /\ Src P sz tx x ys.length uss.flatten w := by
 obtain ⟨ad, cap, uss, rfl, h1, h2, h3, h4⟩ := elems_at hI hr he
 have hl := lenL h3 hs
 have hul : uss.length = ys.length := h3.length
 have hfl : uss.flatten.length = ys.length * sz := by rw [flatten_len hl, hul]
 refine ⟨ad, cap, uss, rfl, h1, h2, h3, hl, hfl, ?_⟩
 have hone : ∀ u ∈ uss.flatten, u.oneCell' = true := by
  intro u hu
  obtain ⟨us, hus, hu⟩ := List.mem_flatten.1 hu
  exact CRelC.oneCells _ _ h3 us hus u hu
 rcases h4 with rfl | ⟨b, of, sz', rfl, h5, h6⟩
 ·simp only [CRelC] at h3
  subst h3
  cases ad with
  | none => exact Src.ofNil w hk cap
  | some ad => exact Src.ofSlice w hk ad 0 cap [] (by simp) (fun j u hj => by simp at hj) (fun u hu => by simp at hu)
 ·exact Src.ofSlice w hk _ ys.length cap _ hfl (fun j u hj => by rw [Addr.add_lit]; exact h6 j u hj) hone
theorem append_room {ts : Array TypeId} {t tx e ty : TypeId} {i : TypeInfo} (h0 : ts[0]? = some t) (h1 : ts[1]? = some tx) (ht : P.underlying t = some (.slice e)) (hi : P.info? e = some i) {base : Option Addr} {sLen sCap n : Nat} {x : Value} {news : List Value}
  (hs : Src P i.size tx x n news w) (hroom : sLen + n <= sCap) {w' : World} (hst : ∀ ad, base = some ad -> (storeCells (ad.add (sLen * i.size)) news).run P w = .ok () w') (hn : base = none -> w' = w) :
  (Builtin.append_ ts ty #[.slice base sLen sCap, x]).run P w = .ok (.slice base (sLen + n) sCap) w' := by
 obtain ⟨e', hk⟩ | hk := hs.kind
 ·cases base with
  | none => have := hn rfl; subst this; simp [Builtin.append_, h0, h1, run_underlying ht, run_underlying hk, sizeOf, typeInfo, hi, hs.len, hroom, hs.cells]
  | some ad => simp [Builtin.append_, h0, h1, run_underlying ht, run_underlying hk, sizeOf, typeInfo, hi, hs.len, hroom, hs.cells, hst ad rfl]
 ·cases base with
  | none => have := hn rfl; subst this; simp [Builtin.append_, h0, h1, run_underlying ht, run_underlying hk, sizeOf, typeInfo, hi, hs.len, hroom, hs.cells]
  | some ad => simp [Builtin.append_, h0, h1, run_underlying ht, run_underlying hk, sizeOf, typeInfo, hi, hs.len, hroom, hs.cells, hst ad rfl]
theorem append_grow {ts : Array TypeId} {t tx e ty : TypeId} {i : TypeInfo} {z : Value} (h0 : ts[0]? = some t) (h1 : ts[1]? = some tx) (ht : P.underlying t = some (.slice e)) (hi : P.info? e = some i) (hz : i.zero = some z) {base : Option Addr} {sLen sCap n : Nat} {x : Value} {olds news : List Value}
    (hold : (Builtin.firstCells i.size sLen (.slice base sLen sCap)).run P w.drew = .ok olds.toArray w.drew) (hs : Src P i.size tx x n news w)
    (hg : sCap < sLen + n) (h63 : ((sLen + n : Nat) : Int) <= 9223372036854775807) (hfit : Builtin.nextslicecap (sLen + n) sCap * i.bytes <= 281474976710656) :
    (Builtin.append_ ts ty #[.slice base sLen sCap, x]).run P w =
      .ok (.slice (some ⟨w.heap.size, 0, none⟩) (sLen + n) (grownCap w (sLen + n) sCap e))
        (w.drew.alloc (.cells ((olds ++ news).toArray ++ Builtin.zeroCells z.cells (grownCap w (sLen + n) sCap e - (sLen + n))) e)) := by
  have hn : ¬ (sLen + n <= sCap) := by omega
  have h63' : ¬ (9223372036854775807 < ((sLen : Int) + (n : Int))) := by omega
  have h48' : ¬ (281474976710656 < Builtin.nextslicecap (sLen + n) sCap * i.bytes) := by omega
  rcases hs.kind with ⟨e', hk⟩ | hk <;>
    (simp [Builtin.append_, h0, h1, run_underlying ht, run_underlying hk, sizeOf, typeInfo, zeroValue, hi, hz, hs.len, hn, h63', h48', Question.forced, hs.cellsD, hold, newRow, grownCap]
     congr 2
     apply Array.ext'
     simp [List.append_assoc])
theorem MInv.drew (hI : MInv A n0 M0 ρ0 w0 M ρ H w) : MInv A n0 M0 ρ0 w0 M ρ H w.drew := hI.world rfl rfl rfl rfl (Nat.le_succ _)
theorem grown_row {xs ys : List SV} {ussx ussy : List (List Value)} {sz need gc : Nat} {z : Value} (hx : CRelC M xs ussx) (hy : CRelC M ys ussy) (hlx : ussx.flatten.length = xs.length * sz) (hly : ussy.flatten.length = ys.length * sz)
  (hn : need = xs.length + ys.length) (hgc : need <= gc) (hz : z.cells.size = sz) (hfl : (flatE (xs ++ ys)).length = (xs.length + ys.length) * sz) :
  ((ussx.flatten ++ ussy.flatten).toArray ++ Builtin.zeroCells z.cells (gc - need)).size = gc * sz /\
  CRelC M (flatE (xs ++ ys)) (ones (((ussx.flatten ++ ussy.flatten).toArray ++ Builtin.zeroCells z.cells (gc - need)).toList.take (flatE (xs ++ ys)).length)) := by
 have hzc : (Builtin.zeroCells z.cells (gc - need)).size = (gc - need) * sz := by simp [Builtin.zeroCells, hz]
 have e1 : (xs.length + ys.length + (gc - need)) * sz = gc * sz := by congr 1; omega
 refine ⟨?_, ?_⟩
 ·rw [Array.size_append, hzc]
  simp only [List.size_toArray, List.length_append, hlx, hly, <- Nat.add_mul]
  exact e1
 ·have e2 : ((ussx.flatten ++ ussy.flatten).toArray ++ Builtin.zeroCells z.cells (gc - need)).toList.take (flatE (xs ++ ys)).length = (ussx ++ ussy).flatten := by
   rw [Array.toList_append, List.take_append_of_le_length (by simp only [List.length_append, hlx, hly, hfl, Nat.add_mul]; omega), List.take_of_length_le (by simp only [List.length_append, hlx, hly, hfl, Nat.add_mul]; omega)]
   simp
  rw [e2]
  exact flatE_rel (hx.append hy)
theorem snd_new (hI : MInv A n0 M0 ρ0 w0 M ρ H w) (hid : ρ0.length <= id) {sz bytes : Nat} {v u : LV} {ts : Array TypeId} {y y' : Operand} {t tx e e' : TypeId} {ie : TypeInfo} {z : Value}
    (ho : o.op = .call { callee := .builtin .append, args := #[y, y'], argTypes := ts }) (h0 : ts[0]? = some t) (h1 : ts[1]? = some tx) (ht : P.underlying t = some (.slice e)) (hi : P.info? e = some ie) (hsz : ie.size = sz) (hbytes : ie.bytes = bytes) (hz : ie.zero = some z) (hzs : z.cells.size = sz) (hk : P.underlying tx = some (.slice e'))
    (hv : LVal M ρ v (a.eval y)) (hu : LVal M ρ u (a.eval y')) {xs ys : List SV} (hvx : elemsOf H v = some xs) (huy : elemsOf H u = some ys) (hclip : ∀ ad len cap, a.eval y = .slice ad len cap -> cap = len)
    (hfit : fitsE sz bytes xs ys) (h : newRowK H id sz v xs ys k)
    (hK : ∀ v H' kl f x w', k v H' kl f -> f -> Nxt A n0 M0 ρ0 w0 M ρ id v H' kl x w' -> K (a.put o.dst x) w') : o.wp P a w K Q := by
  obtain ⟨hfx, hfy, hfb, hf60, hpos⟩ := hfit
  subst hsz hbytes
  obtain ⟨adx, capx, ussx, ex, hx1, hx2, hx3, hx4, hx5, hsx⟩ := src_of (P := P) hI ht hv hvx hfx
  obtain ⟨ady, capy, ussy, ey, hy1, hy2, hy3, hy4, hy5, hsy⟩ := src_of (P := P) hI hk hu huy hfy
  have hcap := hclip _ _ _ ex
  subst hcap
  by_cases hnil : ys = []
  · have hk' := h.1 hnil
    subst hnil
    have hrun := append_room (P := P) (w := w) (ty := o.type) h0 h1 ht hi (base := adx) (sLen := xs.length) (sCap := xs.length) hsy (by simp) (w' := w) (fun ad _ => by
      simp only [CRelC] at hy3; subst hy3; simp [storeCells]) (fun _ => rfl)
    refine wp_value (x := .slice adx xs.length xs.length) (w' := w) ?_ (hK _ _ _ _ _ _ hk' trivial (nxt_same hI (by rw [<- ex]; exact hv)))
    simp only [List.length_nil, Nat.add_zero] at hrun
    simp [execOp, ho, resolve, invoke, builtin, ex, hrun]
  · obtain ⟨hg, hk'⟩ := h.2 hnil
    have hlp := List.length_pos_iff.2 hnil
    have hrun := append_grow (P := P) (w := w) (ty := o.type) h0 h1 ht hi hz (base := adx) (sLen := xs.length) (sCap := xs.length) (olds := ussx.flatten) (by rw [<- ex]; exact hsx.cellsD) hsy (by omega) (by
      have : (2:Nat)^60 <= 9223372036854775807 := by decide
      omega) (growslice_fits (by omega) (by have : (2:Nat)^46 <= 140737488355328 := by decide
                                            omega))
    have hge := grownCap_ge w (xs.length + ys.length) xs.length e
    have hml := grownCap_le_maxLen w (xs.length + ys.length) xs.length e (by have : (2:Nat)^60 <= maxLen := by decide
                                                                             omega)
    have hfl : (flatE (xs ++ ys)).length = (xs.length + ys.length) * ie.size := by
      rw [flatE_length (sz := ie.size) (by intro q hq; rcases List.mem_append.1 hq with hq | hq; exact hfx q hq; exact hfy q hq)]; simp
    obtain ⟨hr1, hr2⟩ := grown_row (z := z) hx3 hy3 hx5 hy5 rfl hge hzs hfl
    obtain ⟨ρ', h5, h6, h7, hgn⟩ := lay_new (T := e) hI.drew hid hg (.inr ⟨flatE (xs ++ ys), rfl, by rw [hr1, hfl]; exact Nat.mul_le_mul_right _ hge, hr2⟩)
    refine wp_value ?_ (hK _ _ _ _ _ _ hk' trivial ⟨M, ρ', h5, hgn, fun _ _ h => h.mono M.le_refl h6, lval_of_one (x := .slice (some ⟨w.heap.size, 0, none⟩) (xs.length + ys.length) (grownCap w (xs.length + ys.length) xs.length e)) ?_ rfl⟩)
    · simp [execOp, ho, resolve, invoke, builtin, ex, hrun]
    · simp only [LRel]
      refine ⟨_, _, _, h7, by simp, rfl, hge, hml, hpos, by simp, .inr ⟨_, _, _, rfl, by simp, ?_⟩⟩
      rw [hr1]; omega
theorem snd_buildR (hI : MInv A n0 M0 ρ0 w0 M ρ H w) (hf : FRel M ρ fr a.tmps.toList) (hid : ρ0.length <= id) {sz n : Nat} {zero : SV} {parts : List (Nat × AX)} (hok : okOp P (.buildR sz n zero parts) o.op = true) (h : aop P n0 id fr H (.buildR sz n zero parts) k)
  (hK : ∀ v H' kl f x w', k v H' kl f -> f -> Nxt A n0 M0 ρ0 w0 M ρ id v H' kl x w' -> K (a.put o.dst x) w') : o.wp P a w K Q := by
 obtain ⟨t, ps, e, ie, z, ho, hu, hie, hsz, hpos, hz, hps⟩ := inv_buildSl (P := P) (o := o.op) (n := n) (sz := sz) (zero := zero) (parts := parts) (by revert hok; cases o.op <;> exact id'')
 subst hsz
 simp only [aop] at h
 obtain ⟨hn20, hn24, _, h⟩ := h
 unfold exO at h
 split at h
 next xs hxs =>
  obtain ⟨hidx, hel, _, hg, h⟩ := h
  obtain ⟨hp1, hp2⟩ := okParts2_spec hps
  have hv := frzAll_val (H := []) (M.le_refl) (fun i B r h => by simp at h) (okXs_rel hf hp2) (by rw [List.map_map]; exact hxs)
  have hc := hv.cells
  have hsl := lenL hc hel
  have hxl : xs.length = n := by
   have h1 := frzAll_length hxs
   have h2 : parts.length = n := by have := congrArg List.length hidx; simpa using this
   rw [h1, List.length_map, h2]
  have hpl : ps.toList.length = n := by
   have h1 := congrArg List.length hp1
   have h2 : parts.length = n := by have := congrArg List.length hidx; simpa using this
   simpa [h2] using h1
  -- the values
  let vs : List Value := ps.toList.map fun p => a.eval p.2
  have hvs : (ps.map fun p => (p.1, a.eval p.2)).toList = (vs.zipIdx 0).map fun x => (x.2, x.1) := by
   have := swap_range (ps.toList.map fun p => (p.1, a.eval p.2)) 0 (by
    simp only [List.map_map, List.length_map, hpl]
    rw [show ((fun x : Nat × Value => x.1) ∘ fun p : Nat × Operand => (p.1, a.eval p.2)) = (fun p => p.1) from rfl, hp1, hidx, List.range_eq_range'])
   rw [Array.toList_map, this]
   simp only [List.map_map]
   rfl
  have hcell : ∀ v ∈ vs, v.cells.size = ie.size := by
   intro v hv
   have := hsl v.cells.toList (by
    simp only [vs, List.mem_map] at hv ⊢
    obtain ⟨p, hp, rfl⟩ := hv
    exact ⟨_, ⟨_, ⟨p, hp, rfl⟩, rfl⟩, rfl⟩)
   simpa using this
  have hrun : (Instr.buildSlice t n (ps.map fun p => (p.1, a.eval p.2))).run P w = .ok (.slice (some ⟨w.heap.size, 0, none⟩) n n) (w.alloc (.cells (vs.flatMap fun v => v.cells.toList).toArray e)) := by
   by_cases hn0 : n = 0
   ·subst hn0
    have hvn : vs = [] := List.eq_nil_of_length_eq_zero (by simp only [vs, List.length_map]; exact hpl)
    have hpn : (ps.map fun p => (p.1, a.eval p.2)).toList = [] := by rw [hvs, hvn]; rfl
    have hpn' : (ps.map fun p => (p.1, a.eval p.2)) = #[] := by simpa using hpn
    rw [hpn', hvn]
    simp [Instr.buildSlice, run_underlying hu, sizeOf, typeInfo, hie, Instr.fill, newRow, Array.range_zero']
   ·refine run_buildSlice w t e n _ _ ie z hu hie hz (by omega) (by
     have : 0 < n * ie.size := Nat.mul_pos (by omega) hpos
     omega) ?_
    rw [hvs]
    exact Great.fill_whole hpos vs _ hcell (by simp [vs, hpl])
  obtain ⟨L, hL⟩ : ∃ L, L = vs.flatMap fun v => v.cells.toList := ⟨_, rfl⟩
  rw [<- hL] at hrun
  have e1 : (List.map (fun v : Value => v.cells.toList) (List.map a.eval (List.map (fun x => x.2) ps.toList))).flatten = L := by
   rw [hL]
   simp only [vs, List.flatMap_def, List.map_map]
   rfl
  have hfl : CRelC M (flatE xs) (ones (L)) := by
   rw [<- e1]
   exact flatE_rel hc
  have hfll : (flatE xs).length = n * ie.size := by
   have := hfl.length
   rw [ones_length] at this
   rw [<- this, <- e1, flatten_len hsl]
   simp [hpl]
  obtain ⟨ρ', h1, h2, h3, hgn⟩ := lay_new (T := e) (c := L.toArray) hI hid hg (.inr ⟨flatE xs, rfl, by
    have := hfl.length
    simp only [ones_length] at this
    simp [this], by
    have := hfl.length
    rw [ones_length] at this
    rw [List.take_of_length_le (by simp; omega)]
    simpa using hfl⟩)
  refine wp_value (x := .slice (some ⟨w.heap.size, 0, none⟩) n n) (w' := w.alloc (.cells L.toArray e)) (by simp [execOp, ho, hrun]) (hK _ _ _ _ _ _ h trivial ⟨M, ρ', h1, hgn, fun _ _ h => h.mono M.le_refl h2, lval_of_one ?_ rfl⟩)
  simp only [LRel]
  refine ⟨_, _, _, h3, by simp, rfl, Nat.le_refl _, ?_, hpos, by simp, .inr ⟨_, _, _, rfl, by simp, ?_⟩⟩
  ·have : (2:Nat) ^ 20 <= maxLen := by decide
   omega
  ·have := hfl.length
   rw [ones_length] at this
   simp only [List.size_toArray]
   omega
 next => cases h
 where id'' {p : Prop} (h : p) : p := h
end
end Go.E

/- Each operation of the value semantics is borne out by the model: append in place, copy, clear. -/
namespace Go.E
open Go
section
variable {P : Program} {A : Nat -> Obj -> Prop} {dfs : List Deferred} {M0 : Mem} {ρ0 : Env} {w0 : World} {M : Mem} {ρ : Env} {H : List ABlock} {w : World} {o : Oper} {a : Act} {K : Act -> World -> Prop} {Q : Exit -> Act -> World -> Prop} {fr : List LV} {k : AK} {n0 id : Nat}
theorem snd_appendNK (hI : MInv A n0 M0 ρ0 w0 M ρ H w) (hid : ρ0.length <= id) {sz bytes : Nat} {v u : LV} {ts : Array TypeId} {y y' : Operand} {t tx e e' : TypeId} {ie : TypeInfo} {z : Value}
  (ho : o.op = .call { callee := .builtin .append, args := #[y, y'], argTypes := ts }) (h0 : ts[0]? = some t) (h1 : ts[1]? = some tx) (ht : P.underlying t = some (.slice e)) (hi : P.info? e = some ie) (hsz : ie.size = sz) (hbytes : ie.bytes = bytes) (hz : ie.zero = some z) (hzs : z.cells.size = sz) (hk : P.underlying tx = some (.slice e'))
  (hv : LVal M ρ v (a.eval y)) (hu : LVal M ρ u (a.eval y')) (h : appendNK H id sz bytes u k v)
  (hK : ∀ v H' kl f x w', k v H' kl f -> f -> Nxt A n0 M0 ρ0 w0 M ρ id v H' kl x w' -> K (a.put o.dst x) w') : o.wp P a w K Q := by
 unfold appendNK at h
 split at h
 next xs =>
  obtain ⟨ys, hys, hfit, h⟩ := exO_inv h
  refine snd_new hI hid ho h0 h1 ht hi hsz hbytes hz hzs hk hv hu rfl hys ?_ hfit h hK
  intro ad len cap e
  have h2 := hv.one rfl (by simp)
  simp only [LRel] at h2
  obtain ⟨_, n, e', _⟩ := h2
  rw [e] at e'
  simp only [List.cons.injEq, Value.slice.injEq, and_true] at e'
  omega
 next b off len sz' =>
  obtain ⟨rfl, h⟩ := h
  obtain ⟨ys, hys, h⟩ := exO_inv h
  obtain ⟨xs, hxs, hfit, h⟩ := exO_inv h
  refine snd_new hI hid ho h0 h1 ht hi hsz hbytes hz hzs hk hv hu hxs hys ?_ hfit h hK
  intro ad len cap e
  have h2 := hv.one rfl (by simp)
  simp only [LRel] at h2
  obtain ⟨_, _, _, _, _, e', _, _, _, hcl, _⟩ := h2
  rw [e] at e'
  simp only [List.cons.injEq, Value.slice.injEq, and_true] at e'
  have := hcl trivial
  omega
 next => cases h
theorem snd_appendN (hI : MInv A n0 M0 ρ0 w0 M ρ H w) (hf : FRel M ρ fr a.tmps.toList) (hid : ρ0.length <= id) {sz bytes : Nat} {s x : AX} (hok : okOp P (.appendN sz bytes s x) o.op = true) (h : aop P n0 id fr H (.appendN sz bytes s x) k)
  (hK : ∀ v H' kl f x w', k v H' kl f -> f -> Nxt A n0 M0 ρ0 w0 M ρ id v H' kl x w' -> K (a.put o.dst x) w') : o.wp P a w K Q := by
 obtain ⟨ts, y, y', t, tx, e, e', ie, z, ho, hs, hx, hb, h0, h1, ht, hi, hsz, hbytes, hz, hzs, hk⟩ := inv_appendN hok
 simp only [aop] at h
 exact snd_appendNK hI hid ho h0 h1 ht hi hsz hbytes hz hzs hk (okX_rel hf hs) (okX_rel hf hx) h hK
theorem MInv.put (h : MInv A n0 M0 ρ0 w0 M ρ H w) {b cb sh n sh' : Nat} {B B' : ABlock} {c c' : Array Value} {T : TypeId} (hb0 : n0 <= b) (hB : H[b]? = some B) (hr : ρ[b]? = some (.here cb sh n))
  (hc : w.heap[cb]? = some (.cells c T (0, 0))) (hn : ∀ o, M.cell cb o = none) (hB' : BRel M (ρ.set b (.here cb sh' n)) (w.setRow cb c') B' (.here cb sh' n)) (hBo : ∀ cs, B' ≠ .obj cs) :
  MInv A n0 M0 ρ0 w0 M (ρ.set b (.here cb sh' n)) (killH (some b) (H.set b B')) (w.setRow cb c') := by
 have hb := (List.getElem?_eq_some_iff.1 hB).1
 refine { rel := ?_, mem := h.mem, nle := h.nle, len := by simpa using h.len, env := fun i r hi hne hr => ?_, gon := fun i hi hr => ?_, touch := ?_, newer := h.newer, fresh := fun i cb' sh' n' hi hr' => ?_, alien := fun k o ho => ?_ }
 ·exact SRel.move h.rel hb (fun k hk _ => setRow_other w cb k c' hk) (h.rel.free hc hn) (by simpa using h.rel.lt b cb sh n hr) (by simp)
   (fun j cb' sh'' n' hj hj' => h.rel.inj j b cb' sh'' n' cb sh n hj hj' hr) hB' hBo
 ·rw [List.getElem?_set, if_neg (by omega)]; exact h.env i r hi hne hr
 ·rename_i hr0
  rw [List.getElem?_set, if_neg (fun e => by subst e; have := h.gon _ hi hr; rw [hr0] at this; cases this)]; exact h.gon i hi hr
 ·refine ⟨h.touch.os, h.touch.tape, h.touch.output, h.touch.drawn, by rw [setRow_size]; exact h.touch.size, fun k hk hno => ?_⟩
  rw [setRow_other w cb k c' (fun e => ?_)]
  ·exact h.touch.block k hk hno
  ·subst e
   rcases h.has_old ⟨b, sh, n, hr⟩ with h1 | h1
   ·exact hno h1
   ·omega
 ·rw [List.getElem?_set] at hr'
  split at hr'
  ·rename_i e
   split at hr'
   ·cases hr'; subst e; exact h.fresh b cb sh n hi hr
   ·cases hr'
  ·exact h.fresh i cb' _ n' hi hr'
 ·obtain ⟨h1, h2, h3⟩ := h.alien k o ho
  have hne : k ≠ cb := fun e => h3 (e ▸ ⟨b, sh, n, hr⟩)
  refine ⟨by rw [setRow_other w cb k c' hne]; exact h1, h2, fun hk => ?_⟩
  rcases has_set hk with hk | ⟨_, _, e⟩
  ·exact h3 hk
  ·cases e; exact hne rfl
theorem MInv.forget (h : MInv A n0 M0 ρ0 w0 M ρ H w) (b : Nat) : MInv A n0 M0 ρ0 w0 M ρ (killH (some b) H) w :=
  { h with
    rel := by
      refine ⟨by simp only [killH, List.length_map]; exact h.rel.len, fun i B r hB hr => ?_, h.rel.inj, h.rel.lt, h.rel.cells, h.rel.maps⟩
      simp only [killH, List.getElem?_map, Option.map_eq_some_iff] at hB
      obtain ⟨B0, hB0, rfl⟩ := hB
      exact (h.rel.blk i B0 r hB0 hr).fgt fun _ _ => rfl }
theorem kill_lval {b : Nat} {r : Spot} {u : LV} {y : Value} (h : LVal M ρ u y) : LVal M (ρ.set b r) (killV (some b) u) y :=
 h.fgt fun j hj => Env.but_set ρ b r j (by simpa using hj)
theorem snd_append (hI : MInv A n0 M0 ρ0 w0 M ρ H w) (hf : FRel M ρ fr a.tmps.toList) (hid : ρ0.length <= id) {sz bytes : Nat} {s x : AX} (hok : okOp P (.append sz bytes s x) o.op = true) (h : aop P n0 id fr H (.append sz bytes s x) k)
    (hK : ∀ v H' kl f x w', k v H' kl f -> f -> Nxt A n0 M0 ρ0 w0 M ρ id v H' kl x w' -> K (a.put o.dst x) w') : o.wp P a w K Q := by
  obtain ⟨ts, y, y', t, tx, e, e', ie, z, ho, hs, hx, hb, h0, h1, ht, hi, hsz, hbytes, hz, hzs, hk⟩ := inv_append hok
  simp only [aop, appendK] at h
  have hv := (okX_rel hf hs).unclip n0
  have hu := okX_rel hf hx
  generalize unclip n0 (s.ev fr) = v at h hv
  generalize x.ev fr = u at h hu
  unfold appendK0 at h
  split at h
  next b off len sz' =>
    obtain ⟨rfl, hnb, h⟩ := h
    obtain ⟨ys, hys, hfy, h⟩ := exO_inv h
    unfold appendB at h
    split at h
    next cs hB =>
      obtain ⟨hend, hfb, hf60, hkk⟩ := h
      subst hsz hbytes
      have h2 := hv.one rfl (by simp)
      simp only [LRel] at h2
      obtain ⟨r, ad, cap, hρ, hg, ey, hlc, hcm, hpos, _, hcap⟩ := h2
      have eyy : a.eval y = .slice ad len cap := by simpa using ey
      obtain ⟨ady, capy, uss, exx, hy1, hy2, hy3, hy4, hy5, hsy⟩ := src_of (P := P) hI hk hu hys hfy
      obtain ⟨r', hr1, hr2⟩ := hI.rel.spot hB
      rw [hρ] at hr1; cases hr1
      have hbl := (List.getElem?_eq_some_iff.1 hB).1
      have hbρ : b < ρ.length := by rw [hI.rel.len]; exact hbl
      have hfl : (flatE ys).length = ys.length * ie.size := flatE_length hfy
      have fin : ∀ {ρ' : Env} {w' : World} {ad' : Option Addr} {cap' : Nat}, (Builtin.append_ ts o.type #[.slice ad len cap, a.eval y']).run P w = .ok (.slice ad' (len + ys.length) cap') w' ->
          MInv A n0 M0 ρ0 w0 M ρ' (killH (some b) (H.set b (.row (cs.drop off ++ flatE ys)))) w' -> (∀ u y, LVal M ρ u y -> LVal M ρ' (killV (some b) u) y) -> (∀ (j : Nat), ρ[j]? = some Spot.gone -> ρ'[j]? = some Spot.gone) ->
          LRel M ρ' (.sl b 0 (len + ys.length) ie.size false) [.slice ad' (len + ys.length) cap'] -> o.wp P a w K Q := by
        intro ρ' w' ad' cap' hrun hI' hm hgn hl
        refine wp_value ?_ (hK _ _ _ _ _ _ hkk trivial ⟨M, ρ', hI', fun j _ h => hgn j h, hm, lval_of_one hl rfl⟩)
        simp [execOp, ho, resolve, invoke, builtin, eyy, hrun]
      -- the block's cells, where it lies somewhere
      cases r with
      | gone => exact absurd rfl hg
      | empty =>
        simp only [BRel] at hr2
        subst hr2
        have hc0 : cap = 0 := by
          rcases hcap with h | ⟨cb, sh, n, h, _⟩
          · exact h
          · cases h
        subst hc0
        have hl0 : len = 0 := by omega
        subst hl0
        have hoff : off = 0 := by simp at hend; omega
        subst hoff
        by_cases hnil : ys = []
        · subst hnil
          have hrun := append_room (P := P) (w := w) (ty := o.type) h0 h1 ht hi (base := ad) (sLen := 0) (sCap := 0) hsy (by simp) (w' := w) (fun _ _ => by
            simp only [CRelC] at hy3; subst hy3; simp [storeCells]) (fun _ => rfl)
          have hset : H.set b (.row (([] : List SV).drop 0 ++ flatE [])) = H := by
            apply List.ext_getElem?
            intro j
            rw [List.getElem?_set]
            by_cases e : b = j
            · subst e; rw [if_pos rfl, if_pos hbl, hB]; simp [flatE]
            · simp [e]
          refine fin hrun (by rw [hset]; exact hI.forget b) (fun u y h => h.fgt fun _ _ => rfl) (fun _ h => h) ?_
          simp only [LRel]
          exact ⟨.empty, _, 0, hρ, by simp, rfl, by simp, by omega, hpos, by simp, .inl rfl⟩
        · have hlp := List.length_pos_iff.2 hnil
          have hge := grownCap_ge w (0 + ys.length) 0 e
          have hml := grownCap_le_maxLen w (0 + ys.length) 0 e (by have : (2:Nat)^60 <= maxLen := by decide
                                                                   omega)
          have hold : (Builtin.firstCells ie.size 0 (.slice ad 0 0)).run P w.drew = .ok ([] : List Value).toArray w.drew := by
            cases ad with
            | none => exact run_firstCells_none w.drew ie.size 0 0 0
            | some ad => exact run_firstCells_some w.drew ie.size 0 ad 0 0 [] (by simp) (by simp)
          have hrun := append_grow (P := P) (w := w) (ty := o.type) h0 h1 ht hi hz (base := ad) (sLen := 0) (sCap := 0) (olds := []) hold hsy (by omega) (by
            have : (2:Nat)^60 <= 9223372036854775807 := by decide
            omega) (growslice_fits (by omega) (by have : (2:Nat)^46 <= 140737488355328 := by decide
                                                  omega))
          obtain ⟨hr1, hr3⟩ := grown_row (M := M) (xs := []) (ys := ys) (ussx := []) (sz := ie.size) (z := z) (need := 0 + ys.length) (by simp [CRelC]) hy3 (by simp) hy5 (by simp) hge hzs (by simpa using hfl)
          simp only [List.flatten_nil, List.nil_append] at hr1 hr3
          refine fin hrun (MInv.move (cb := w.heap.size) (sh := 0) (n := grownCap w (0 + ys.length) 0 e * ie.size) hI.drew hnb (by rw [hρ]; simp) hbl (touch_alloc w.drew _) (hI.drew.rel.holds.grow (touch_alloc w.drew _)) (Nat.le_refl _) (by simp) ?_ (by simp)) (fun u y h => kill_lval h) (fun j h => by rw [List.getElem?_set, if_neg (fun e => by subst e; rw [hρ] at h; cases h)]; exact h) ?_
          · simp only [BRel, List.drop_zero, List.nil_append]
            refine ⟨_, e, alloc_at w.drew _, hr1, ?_, by simpa using hr3, fun o => ?_⟩
            · rw [hfl, Nat.zero_add]; exact Nat.mul_le_mul_right _ (by omega)
            · cases hm : M.cell w.heap.size o with
              | none => rfl
              | some v => have := hI.rel.cell_lt hm; omega
          · simp only [LRel]
            refine ⟨_, _, _, List.getElem?_set_self hbρ, by simp, rfl, hge, hml, hpos, by simp, .inr ⟨_, _, _, rfl, by simp, ?_⟩⟩
            omega
      | here cb sh n =>
        simp only [BRel] at hr2
        obtain ⟨c, T, hc1, hc2, hc3, hc4, hc5⟩ := hr2
        have hoffl : off <= cs.length := by omega
        have hcl : c.toList.length = n := by simp only [Array.length_toList]; omega
        have hdrop : (cs.drop off).length = len * ie.size := by rw [List.length_drop]; omega
        have hsub : ((c.toList.drop (sh + off)).take (len * ie.size)) = ((c.toList.drop sh).take cs.length).drop off := by
          rw [List.drop_take, List.drop_drop]; congr 1; omega
        have hsubr : CRelC M (cs.drop off) (ones ((c.toList.drop (sh + off)).take (len * ie.size))) := by
          rw [hsub, ones_drop]; exact hc4.drop off
        by_cases hnil : ys = []
        · subst hnil
          have hrun := append_room (P := P) (w := w) (ty := o.type) h0 h1 ht hi (base := ad) (sLen := len) (sCap := cap) hsy (by simpa using hlc) (w' := w) (fun _ _ => by
            simp only [CRelC] at hy3; subst hy3; simp [storeCells]) (fun _ => rfl)
          have hput := MInv.put (sh' := sh + off) (c' := c) (B' := .row (cs.drop off ++ flatE [])) hI hnb hB hρ hc1 hc5 (by
            rw [setRow_self w cb c T (0, 0) hc1]
            simp only [BRel, flatE, List.map_nil, List.flatten_nil, List.append_nil]
            exact ⟨c, T, hc1, hc2, by omega, by rw [hdrop]; exact hsubr, hc5⟩) (by simp)
          rw [setRow_self w cb c T (0, 0) hc1] at hput
          refine fin hrun hput (fun u y h => kill_lval h) (fun j h => by rw [List.getElem?_set, if_neg (fun e => by subst e; rw [hρ] at h; cases h)]; exact h) ?_
          simp only [LRel]
          refine ⟨_, _, _, List.getElem?_set_self hbρ, by simp, rfl, by simpa using hlc, hcm, hpos, by simp, ?_⟩
          rcases hcap with h | ⟨cb', sh', n', h3, h4, h5⟩
          · exact .inl h
          · cases h3; exact .inr ⟨_, _, _, rfl, by rw [h4]; simp, by omega⟩
        · have hlp := List.length_pos_iff.2 hnil
          by_cases hroom : len + ys.length <= cap
          · rcases hcap with h | ⟨cb', sh', n', h3, h4, h5⟩
            · omega
            cases h3
            subst h4
            have hmul := Nat.mul_le_mul_right ie.size hroom
            rw [Nat.add_mul] at hmul
            have hone : ∀ u ∈ uss.flatten, u.oneCell' = true := by
              intro u hu
              obtain ⟨us, hus, hu⟩ := List.mem_flatten.1 hu
              exact CRelC.oneCells _ _ hy3 us hus u hu
            have hst := run_storeCells_at P cb (sh + off + len * ie.size) T uss.flatten 0 c w hc1 (by simp only [Nat.add_zero]; omega) hone
            have hrun := append_room (P := P) (w := w) (ty := o.type) h0 h1 ht hi (base := some ⟨cb, sh + off, none⟩) (sLen := len) (sCap := cap) hsy hroom (fun ad had => by
              cases had; rw [Addr.add_lit]; exact hst) (fun h => by cases h)
            refine fin hrun (MInv.put (sh' := sh + off) (c' := _) hI hnb hB hρ hc1 hc5 ?_ (by simp)) (fun u y h => kill_lval h) (fun j h => by rw [List.getElem?_set, if_neg (fun e => by subst e; rw [hρ] at h; cases h)]; exact h) ?_
            · simp only [BRel, Nat.add_zero]
              have hul : uss.flatten.length = (flatE ys).length := by rw [hy5, hfl]
              have hlen : (cs.drop off ++ flatE ys).length = len * ie.size + uss.flatten.length := by rw [List.length_append, hdrop, hul]
              refine ⟨_, T, setRow_heap w cb c _ T _ hc1, ?_, by rw [hlen]; omega, ?_, hc5⟩
              · simp only [List.size_toArray, List.length_append, List.length_take, List.length_drop]; omega
              · have e1 : ((c.toList.take (sh + off + len * ie.size) ++ uss.flatten ++ c.toList.drop (sh + off + len * ie.size + uss.flatten.length)).drop (sh + off)).take (len * ie.size + uss.flatten.length) =
                    (c.toList.drop (sh + off)).take (len * ie.size) ++ uss.flatten := by
                  have l1 : (c.toList.take (sh + off + len * ie.size)).length = sh + off + len * ie.size := by rw [List.length_take]; omega
                  have l2 : ((c.toList.drop (sh + off)).take (len * ie.size)).length = len * ie.size := by rw [List.length_take, List.length_drop]; omega
                  rw [List.append_assoc, List.drop_append_of_le_length (by omega), List.drop_take, show sh + off + len * ie.size - (sh + off) = len * ie.size by omega]
                  rw [<- List.append_assoc, List.take_append_of_le_length (by rw [List.length_append, l2]; omega), List.take_of_length_le (by rw [List.length_append, l2]; omega)]
                simp only [hlen]
                rw [e1, ones_append]
                exact hsubr.append (flatE_rel hy3)
            · simp only [LRel]
              exact ⟨_, _, _, List.getElem?_set_self hbρ, by simp, rfl, hroom, hcm, hpos, by simp, .inr ⟨_, _, _, rfl, by simp, by omega⟩⟩
          · have hge := grownCap_ge w (len + ys.length) cap e
            have hml := grownCap_le_maxLen w (len + ys.length) cap e (by have : (2:Nat)^60 <= maxLen := by decide
                                                                         omega)
            have hol : ((c.toList.drop (sh + off)).take (len * ie.size)).length = len * ie.size := by
              rw [List.length_take, List.length_drop]
              omega
            have hold : (Builtin.firstCells ie.size len (.slice ad len cap)).run P w.drew = .ok ((c.toList.drop (sh + off)).take (len * ie.size)).toArray w.drew := by
              rcases hcap with h | ⟨cb', sh', n', h3, h4, h5⟩
              · have hl0 : len = 0 := by omega
                subst hl0
                simp only [Nat.zero_mul, List.take_zero]
                cases ad with
                | none => exact run_firstCells_none w.drew ie.size 0 0 cap
                | some ad => exact run_firstCells_some w.drew ie.size 0 ad 0 cap [] (by simp) (by simp)
              · cases h3
                subst h4
                refine run_firstCells_some w.drew ie.size len _ len cap _ hol fun j v hj => ?_
                rw [Addr.add_lit, World.cell?_drew, heap_cell? hc1]
                simpa using take_drop_get j v hj
            have hrun := append_grow (P := P) (w := w) (ty := o.type) h0 h1 ht hi hz (base := ad) (sLen := len) (sCap := cap) hold hsy (by omega) (by
              have : (2:Nat)^60 <= 9223372036854775807 := by decide
              omega) (growslice_fits (by omega) (by have : (2:Nat)^46 <= 140737488355328 := by decide
                                                    omega))
            have hzc : (Builtin.zeroCells z.cells (grownCap w (len + ys.length) cap e - (len + ys.length))).size = (grownCap w (len + ys.length) cap e - (len + ys.length)) * ie.size := by simp [Builtin.zeroCells, hzs]
            have hsize : (((c.toList.drop (sh + off)).take (len * ie.size) ++ uss.flatten).toArray ++ Builtin.zeroCells z.cells (grownCap w (len + ys.length) cap e - (len + ys.length))).size = grownCap w (len + ys.length) cap e * ie.size := by
              rw [Array.size_append, hzc]
              simp only [List.size_toArray, List.length_append, hol, hy5, <- Nat.add_mul]
              congr 1; omega
            have hlen : (cs.drop off ++ flatE ys).length = len * ie.size + uss.flatten.length := by rw [List.length_append, hdrop, hfl, hy5]
            have hmul := Nat.mul_le_mul_right ie.size hge
            rw [Nat.add_mul] at hmul
            refine fin hrun (MInv.move (cb := w.heap.size) (sh := 0) (n := grownCap w (len + ys.length) cap e * ie.size) hI.drew hnb (by rw [hρ]; simp) hbl (touch_alloc w.drew _) (hI.drew.rel.holds.grow (touch_alloc w.drew _)) (Nat.le_refl _) (by simp) ?_ (by simp)) (fun u y h => kill_lval h) (fun j h => by rw [List.getElem?_set, if_neg (fun e => by subst e; rw [hρ] at h; cases h)]; exact h) ?_
            · simp only [BRel]
              refine ⟨_, e, alloc_at w.drew _, hsize, ?_, ?_, fun o => ?_⟩
              · rw [hlen]; omega
              · simp only [hlen, List.drop_zero, Array.toList_append]
                rw [List.take_append_of_le_length (by simp only [List.length_append, hol]; omega), List.take_of_length_le (by simp only [List.length_append, hol]; omega), ones_append]
                exact hsubr.append (flatE_rel hy3)
              · cases hm : M.cell w.heap.size o with
                | none => rfl
                | some v => have := hI.rel.cell_lt hm; omega
            · simp only [LRel]
              refine ⟨_, _, _, List.getElem?_set_self hbρ, by simp, rfl, hge, hml, hpos, by simp, .inr ⟨_, _, _, rfl, by simp, ?_⟩⟩
              omega
    next => cases h
  next b off len sz' => exact snd_appendNK hI hid ho h0 h1 ht hi hsz hbytes hz hzs hk hv hu h hK
  next xs => exact snd_appendNK hI hid ho h0 h1 ht hi hsz hbytes hz hzs hk hv hu h hK
  next => cases h
end
end Go.E
