/- Drawn regions: any order does. -/
import Derived.Test.YtmcjoahnlbckoaaJ3
import Derived.Scope
import Derived.Laws.Sem
import Derived.RangeFuncLeaves
import Derived.RangeFuncSeq

set_option linter.all false

namespace Go.E
open Go
section
variable {P : Program} {A : Nat -> Obj -> Prop} {dfs : List Deferred} {M0 : Mem} {ρ0 : Env} {w0 : World} {n0 : Nat} {Q : Exit -> Act -> World -> Prop}
theorem ready_iff {md : Region.Mode} {ops : Array Oper} {listed : Array Bool} {j : Nat} : j ∈ Region.ready md ops listed ↔
  j < ops.size /\ listed.getD j true = false /\ ∃ o, ops[j]? = some o /\ ∀ e ∈ o.after.toList, Region.binds md e = true -> listed.getD e.on false = true := by
 unfold Region.ready
 rw [List.mem_filter, List.mem_range]
 simp only [Bool.and_eq_true, Bool.not_eq_true']
 constructor
 ·rintro ⟨h1, h2, h3⟩
  refine ⟨h1, h2, ops[j], by simp [h1], fun e he hb => ?_⟩
  simp only [h1, getElem?_pos, Option.map_some, Option.getD_some, Array.all_eq_true_iff_forall_mem] at h3
  have := h3 e (by simpa using he)
  simpa [hb] using this
 ·rintro ⟨h1, h2, o, ho, h3⟩
  refine ⟨h1, h2, ?_⟩
  rw [ho]
  simp only [Option.map_some, Option.getD_some, Array.all_eq_true_iff_forall_mem]
  intro e he
  cases hb : Region.binds md e with
  | false => rfl
  | true => simpa using h3 e (by simpa using he) hb
theorem progress {md : Region.Mode} {ops : Array Oper} {listed : Array Bool} (hsz : listed.size = ops.size) : ∀ (l seen : List Nat), topoIn md ops.toList seen l = true -> (∀ s ∈ seen, listed.getD s false = true) ->
  (∃ i ∈ l, listed.getD i true = false) -> ∃ j, j ∈ Region.ready md ops listed
 | [], _, _, _, h => by obtain ⟨i, hi, _⟩ := h; simp at hi
 | i :: l, seen, ht, hs, h => by
  simp only [topoIn, Bool.and_eq_true] at ht
  obtain ⟨h1, h2⟩ := ht
  split at h1
  next o ho =>
   have hlt : i < ops.size := by
    have := (List.getElem?_eq_some_iff.1 ho).1
    simpa using this
   cases hl : listed.getD i true with
   | false =>
    refine ⟨i, ready_iff.2 ⟨hlt, hl, o, by simpa using ho, fun e he hb => ?_⟩⟩
    have := List.all_eq_true.1 h1 e he
    rw [hb] at this
    simp only [Bool.not_true, Bool.false_or] at this
    exact hs _ (List.contains_iff_mem.1 this)
   | true =>
    refine progress hsz l (i :: seen) h2 (fun s hss => ?_) ?_
    ·rcases List.mem_cons.1 hss with rfl | hss
     ·have hli : s < listed.size := by omega
      simp only [Array.getD_eq_getD_getElem?, hli, getElem?_pos, Option.getD_some] at hl ⊢
      exact hl
     ·exact hs s hss
    ·obtain ⟨i', hi', hn⟩ := h
     rcases List.mem_cons.1 hi' with rfl | hi'
     ·rw [hl] at hn; cases hn
     ·exact ⟨i', hi', hn⟩
  next => cases h1
theorem okOpers_get {ops : List Oper} : ∀ {as : List AOper} {os : List Oper}, okOpers P ops as os = true -> as.length = os.length /\ ∀ (i : Nat) (x : AOper) (o : Oper), as[i]? = some x -> os[i]? = some o -> okOper P ops x o = true
 | [], [], _ => ⟨rfl, fun i x o h => by simp at h⟩
 | [], _ :: _, h => by simp [okOpers] at h
 | _ :: _, [], h => by simp [okOpers] at h
 | y :: as, o :: os, h => by
  simp only [okOpers, Bool.and_eq_true] at h
  obtain ⟨h1, h2⟩ := okOpers_get h.2
  refine ⟨by simp [h1], fun i x o' hx ho => ?_⟩
  cases i with
  | zero => simp at hx ho; subst hx ho; exact h.1
  | succ i => simp at hx ho; exact h2 i x o' hx ho
theorem tiedOk_get {as : List AOper} {bs : List Nat} (h : tiedOk as bs = true) {i j : Nat} {x y : AOper} (hij : i < j) (hx : as[i]? = some x) (hy : as[j]? = some y) : x.tied y = false \/ (bs.getD j 0).testBit i = true := by
 unfold tiedOk at h
 have hj := (List.getElem?_eq_some_iff.1 hy).1
 have := List.all_eq_true.1 (List.all_eq_true.1 h j (List.mem_range.2 hj)) i (List.mem_range.2 hij)
 rw [hx, hy] at this
 simpa using this
theorem cls_le (op : AOp) : op.cls <= 4 := by cases op <;> simp [AOp.cls]
theorem draw_sound {r : Option Nat} {nf : Nat} {ops : Array Oper} {as : List AOper} {md : Region.Mode} {N id0 : Nat} (hN : id0 + takesIn as <= N) (hid0 : ρ0.length <= id0) (hok : okOpers P ops.toList as ops.toList = true)
  (htied : tiedOk as (befs ops.toList []) = true) {l : List Nat} (htopo : topoOk md ops.toList l = true) {k : AState -> Prop -> Prop} (hfin : ∀ τ F' M' ρ' a' w', k τ F' -> F' -> Stands A dfs n0 M0 ρ0 w0 M' ρ' τ a' w' -> Q .normal a' w') :
  ∀ (fuel : Nat) (listed : Array Bool) (σ : AState) (F : Prop) (M : Mem) (ρ : Env) (a : Act) (w : World), listed.size = ops.size -> (remOf ops.size listed).length <= fuel -> ClosedL ops.toList (fun i => listed.getD i false = true) ->
   Stands A dfs n0 M0 ρ0 w0 M ρ σ a w -> F -> (∀ i ∈ remOf ops.size listed, ∀ p, (withIds N id0 as)[i]? = some p -> p.2.op.takes = true -> ρ[p.1]? = some Spot.gone) ->
   runI P n0 ((remOf ops.size listed).filterMap fun i => (withIds N id0 as)[i]?) σ F k -> wpAnyIn (Fw r) nf P md ops Q fuel listed a w := by
 have hlen := (okOpers_get hok).1
 have hisnd := withIds_snd (N := N) as id0
 have hilen : (withIds N id0 as).length = ops.size := by
  have := congrArg List.length hisnd
  simp only [List.length_map] at this
  rw [this, hlen]; simp
 have hias : ∀ (i : Nat) p, (withIds N id0 as)[i]? = some p -> as[i]? = some p.2 := fun i p h => by
  have := congrArg (·[i]?) hisnd
  simp only [List.getElem?_map, h, Option.map_some] at this
  exact this.symm
 have hne : ∀ (i j : Nat) p q, i ≠ j -> (withIds N id0 as)[i]? = some p -> (withIds N id0 as)[j]? = some q -> p.2.op.takes = true \/ q.2.op.takes = true -> p.1 ≠ q.1 := by
  intro i j p q hij hp hq hor
  have hpw := withIds_pw (N := N) as id0 hN
  rw [List.pairwise_iff_getElem] at hpw
  obtain ⟨hi, rfl⟩ := List.getElem?_eq_some_iff.1 hp
  obtain ⟨hj, rfl⟩ := List.getElem?_eq_some_iff.1 hq
  rcases Nat.lt_or_gt_of_ne hij with h | h
  ·exact fun e => hpw i j hi hj h hor e.symm
  ·exact hpw j i hj hi h hor.symm
 have hrem0 : ∀ listed : Array Bool, listed.size = ops.size -> Region.ready md ops listed = [] -> remOf ops.size listed = [] := by
  intro listed hsz hr
  cases hrem : remOf ops.size listed with
  | nil => rfl
  | cons i rest =>
   have hi : i ∈ remOf ops.size listed := by rw [hrem]; simp
   obtain ⟨h1, h2⟩ := mem_rem.1 hi
   unfold topoOk at htopo
   simp only [Bool.and_eq_true, List.all_eq_true] at htopo
   have hil : i ∈ l := List.contains_iff_mem.1 (htopo.2 i (List.mem_range.2 (by simpa using h1)))
   obtain ⟨j, hj⟩ := progress hsz l [] htopo.1 (by simp) ⟨i, hil, h2⟩
   rw [hr] at hj; simp at hj
 intro fuel
 induction fuel with
 | zero =>
  intro listed σ F M ρ a w hsz hfl hcl hS hF hg h
  have hrem : remOf ops.size listed = [] := List.eq_nil_of_length_eq_zero (by omega)
  rw [hrem] at h
  refine ⟨?_, hfin σ F M ρ a w h hF hS⟩
  cases hr : Region.ready md ops listed with
  | nil => rfl
  | cons j _ =>
   have hj : j ∈ Region.ready md ops listed := by rw [hr]; simp
   obtain ⟨h1, h2, _⟩ := ready_iff.1 hj
   have : j ∈ remOf ops.size listed := mem_rem.2 ⟨h1, h2⟩
   rw [hrem] at this; simp at this
 | succ fuel ih =>
  intro listed σ F M ρ a w hsz hfl hcl hS hF hg h
  refine ⟨fun hr => ?_, fun j hj => ?_⟩
  ·rw [hrem0 listed hsz hr] at h
   exact hfin σ F M ρ a w h hF hS
  ·obtain ⟨h1, h2, o, ho, hpre⟩ := ready_iff.1 hj
   obtain ⟨pre, post, e1, e2, e3⟩ := rem_split (mem_rem.2 ⟨h1, h2⟩)
   obtain ⟨p, hp⟩ : ∃ p, (withIds N id0 as)[j]? = some p := ⟨_, List.getElem?_eq_getElem (by omega)⟩
   rw [e1, List.filterMap_append, List.filterMap_cons, hp] at h
   have hjrem : j ∈ remOf ops.size listed := by rw [e1]; simp
   have hyok := okOpers_okc hok p.2 (List.mem_of_getElem? (hias j p hp))
   have hprem : ∀ i ∈ pre, i ∈ remOf ops.size listed := fun i hi => by rw [e1]; simp [hi]
   have hfront := runI_front (P := P) (n0 := n0) hyok (cls_le _) (pre := pre.filterMap fun i => (withIds N id0 as)[i]?) (post := post.filterMap fun i => (withIds N id0 as)[i]?) (j := p.1) (σ := σ) (F := F) (k := k) (fun q hq => by
     obtain ⟨i, hi, hqi⟩ := List.mem_filterMap.1 hq
     have hij := e2 i hi
     refine ⟨okOpers_okc hok q.2 (List.mem_of_getElem? (hias i q hqi)), cls_le _, ?_, hne i j q p (by omega) hqi hp, fun ht => gone_fresh hS (hg i (hprem i hi) q hqi ht)⟩
     rcases tiedOk_get htied hij (hias i q hqi) (hias j p hp) with h' | h'
     ·exact h'
     ·have hli := befs_spec ops.toList hcl ops.toList [] (fun j => by simp) (fun j hj => by simp at hj) j (fun o' ho' e' he' hb' => by
       rw [Array.getElem?_toList, ho] at ho'
       cases ho'
       exact hpre e' he' (binds_any hb')) i h'
      obtain ⟨hi1, hi2⟩ := mem_rem.1 (hprem i hi)
      have hil : i < listed.size := by omega
      simp only [Array.getD_eq_getD_getElem?, hil, getElem?_pos, Option.getD_some] at hli hi2
      rw [hli] at hi2; cases hi2) (by
     have hpp : pre.Pairwise (· < ·) := by
      have := rem_pw ops.size listed
      rw [e1, List.pairwise_append] at this
      exact this.1
     rw [List.pairwise_filterMap]
     refine hpp.imp fun {i i'} hlt q hq q' hq' ht => ?_
     exact (hne i i' q q' (by omega) hq hq' (.inr ht)).symm) (fun ht => gone_fresh hS (hg j hjrem p hp ht)) h
   have hstep : stp P n0 p.1 p.2 σ F fun τ F' => runI P n0 ((remOf ops.size (listed.setIfInBounds j true)).filterMap fun i => (withIds N id0 as)[i]?) τ F' k := by
    rw [e3, List.filterMap_append]
    exact hfront
   have hs := stp_soundIn (r := r) (n := nf) (Q := Q) (Kc := wpAnyIn (Fw r) nf P md ops Q fuel (listed.setIfInBounds j true)) hS (fun _ => by
     obtain ⟨h5, h6⟩ := withIds_fst (N := N) as id0 p (List.mem_of_getElem? hp)
     cases ht : p.2.op.takes with
     | true => have := h5 ht; omega
     | false => have := h6 ht; omega) ((okOpers_get hok).2 j p.2 o (hias j p hp) (by rw [Array.getElem?_toList]; exact ho)) hF hstep (fun τ F' M' ρ' a' w' hk hF' hS' hgone => by
     refine ih _ τ F' M' ρ' a' w' (by simp [hsz]) ?_ ?_ hS' hF' ?_ hk
     ·rw [e3]
      rw [e1] at hfl
      simp only [List.length_append, List.length_cons] at hfl ⊢
      omega
     ·intro i o' hi ho' e' he' hb'
      have key : ∀ x, listed.getD x false = true -> (listed.setIfInBounds j true).getD x false = true := fun x hx => getD_set_true hx
      by_cases hij : i = j
      ·subst hij
       rw [Array.getElem?_toList, ho] at ho'
       cases ho'
       exact key _ (hpre e' he' (binds_any hb'))
      ·have : listed.getD i false = true := by rw [getD_set_ne false (fun e => hij e.symm)] at hi; exact hi
       exact key _ (hcl i o' this ho' e' he' hb')
     ·intro i hi q hq ht
      have hir : i ∈ remOf ops.size listed := by
       rw [e3] at hi
       rw [e1]
       rcases List.mem_append.1 hi with hi | hi <;> simp [hi]
      have hij : i ≠ j := by
       intro e
       subst e
       obtain ⟨_, h8⟩ := mem_rem.1 hi
       have hil : i < listed.size := by omega
       simp [Array.getD_eq_getD_getElem?, hil] at h8
      exact hgone q.1 (hne i j q p hij hq hp (.inl ht)) (hg i hir q hq ht))
   unfold wpOpIn
   rw [ho]
   exact hs
end
end Go.E

/- What is laid ready, forgotten, and promoted, in a state that stands. -/
namespace Go.E
open Go
section
variable {P : Program} {A : Nat -> Obj -> Prop} {dfs : List Deferred} {M0 : Mem} {ρ0 : Env} {w0 : World} {M : Mem} {ρ : Env} {w : World} {a : Act} {n0 : Nat}
theorem Env.le_app (ρ τ : Env) : Env.le ρ (ρ ++ τ) := fun j s _ h => by
 rw [List.getElem?_append_left (List.getElem?_eq_some_iff.1 h).1]; exact h
theorem here_app {k : Nat} {r : Spot} (hr : ∀ cb sh n, r ≠ .here cb sh n) {i cb sh n : Nat} (h : (ρ ++ List.replicate k r)[i]? = some (.here cb sh n)) : ρ[i]? = some (.here cb sh n) := by
 by_cases hi : i < ρ.length
 ·rwa [List.getElem?_append_left hi] at h
 ·rw [List.getElem?_append_right (by omega), List.getElem?_replicate] at h
  split at h
  ·cases h; exact absurd rfl (hr _ _ _)
  ·cases h
theorem MInv.ext {H : List ABlock} (h : MInv A n0 M0 ρ0 w0 M ρ H w) (k : Nat) {B : ABlock} {r : Spot} (hBr : (B = .gone /\ r = .gone) \/ (B = .row [] /\ r = .empty)) :
    MInv A n0 M0 ρ0 w0 M (ρ ++ List.replicate k r) (H ++ List.replicate k B) w := by
  have hr : ∀ cb sh n, r ≠ .here cb sh n := by rcases hBr with ⟨_, rfl⟩ | ⟨_, rfl⟩ <;> intro _ _ _ h <;> cases h
  have hB : ∀ ρ', BRel M ρ' w B r := by rcases hBr with ⟨rfl, rfl⟩ | ⟨rfl, rfl⟩ <;> intro ρ' <;> simp [BRel]
  have hl := h.rel.len
  refine { rel := ⟨by simp [hl], fun i B' r' hB' hr' => ?_, fun i j cb sh n cb' sh' n' hij hi hj => h.rel.inj i j cb sh n cb' sh' n' hij (here_app hr hi) (here_app hr hj), fun i cb sh n hi => h.rel.lt i cb sh n (here_app hr hi), h.rel.cells, h.rel.maps⟩,
           mem := h.mem, nle := h.nle, len := by simp; have := h.len; omega, env := fun i r' hi hne h' => ?_, gon := fun i hi h' => ?_, touch := h.touch, newer := h.newer, fresh := fun i cb sh n hi h' => h.fresh i cb sh n hi (here_app hr h'), alien := fun k o ho => ⟨(h.alien k o ho).1, (h.alien k o ho).2.1, fun ⟨i, sh, n, hi⟩ => (h.alien k o ho).2.2 ⟨i, sh, n, here_app hr hi⟩⟩ }
  · by_cases hi : i < H.length
    · rw [List.getElem?_append_left hi] at hB'
      rw [List.getElem?_append_left (by omega)] at hr'
      exact BRel.mono (h.rel.blk i B' r' hB' hr') (Mem.le_refl _) (Env.le_app _ _) fun _ _ _ _ => ⟨fun _ k => k, fun k => k⟩
    · rw [List.getElem?_append_right (by omega), List.getElem?_replicate] at hB' hr'
      rw [hl] at hr'
      split at hB'
      · rename_i hlt; rw [if_pos hlt] at hr'; cases hB'; cases hr'; exact hB _
      · cases hB'
  · have := h.len
    have := h.nle
    rw [List.getElem?_append_left (by omega)]; exact h.env i r' hi hne h'
  · have := h.len
    rw [List.getElem?_append_left (by omega)]; exact h.gon i hi h'
theorem MInv.reblk {H : List ABlock} (h : MInv A n0 M0 ρ0 w0 M ρ H w) {b : Nat} {B' : ABlock} (hB : ∀ r, ρ[b]? = some r -> BRel M ρ w B' r) : MInv A n0 M0 ρ0 w0 M ρ (H.set b B') w :=
  { h with
    rel := { h.rel with
      len := by simpa using h.rel.len
      blk := fun i B r hBi hr => by
        rw [List.getElem?_set] at hBi
        split at hBi
        · rename_i e; subst e
          split at hBi
          · cases hBi; exact hB r hr
          · cases hBi
        · exact h.rel.blk i B r hBi hr } }
theorem lrelC_get {M : Mem} {ρ : Env} : ∀ {cs : List LV} {uss : List (List Value)} {i : Nat} {v : LV}, LRelC M ρ cs uss -> cs[i]? = some v -> ∃ u, uss[i]? = some u /\ LRel M ρ v u
 | [], _, _, _, _, h => by simp at h
 | c :: cs, uss, i, v, hl, h => by
  obtain ⟨u, us, rfl, h1, h2⟩ := hl
  cases i with
  | zero => simp only [List.getElem?_cons_zero, Option.some.injEq] at h; subst h; exact ⟨u, rfl, h1⟩
  | succ i => simp only [List.getElem?_cons_succ] at h ⊢; exact lrelC_get h2 h
theorem lrelC_set {M : Mem} {ρ : Env} : ∀ {cs : List LV} {uss : List (List Value)} {i : Nat} {v : LV} {u : List Value}, LRelC M ρ cs uss -> uss[i]? = some u -> LRel M ρ v u -> LRelC M ρ (cs.set i v) uss
 | [], _, _, _, _, hl, _, _ => by simpa using hl
 | c :: cs, uss, i, v, u, hl, h, hv => by
  obtain ⟨u', us, rfl, h1, h2⟩ := hl
  cases i with
  | zero => simp only [List.getElem?_cons_zero, Option.some.injEq] at h; subst h; exact ⟨_, _, rfl, hv, h2⟩
  | succ i => simp only [List.getElem?_cons_succ] at h; exact ⟨_, _, rfl, h1, lrelC_set h2 h hv⟩
theorem frz_sound {H : List ABlock} (hI : MInv A n0 M0 ρ0 w0 M ρ H w) {v : LV} {us : List Value} (hv : LRel M ρ v us) {k : AK} (h : frzvK H k v) :
  ∃ v' H' M', k v' H' none True /\ MInv A n0 M0 ρ0 w0 M' ρ H' w /\ M.le M' /\ LRel M' ρ v' us /\ ∀ (i : Nat) cs, H[i]? = some (.obj cs) -> H'[i]? = some (.obj cs) := by
 unfold frzvK at h
 split at h
 next b off len sz clip =>
  unfold frzvB at h
  split at h
  next cs hB =>
   obtain ⟨ys, hrow, hk⟩ := h
   have hobj : ∀ (i : Nat) ds, H[i]? = some (.obj ds) -> (H.set b (.frz cs))[i]? = some (.obj ds) := fun i ds hi => by
    rw [List.getElem?_set, if_neg (fun e => by subst e; rw [hB] at hi; cases hi)]; exact hi
   obtain ⟨r, hr, hBr⟩ := hI.rel.spot hB
   have h1 := hv
   simp only [LRel] at h1
   obtain ⟨r', ad, cap, hr', hng, ey, hlc, hcm, hsz, hclip, hcase⟩ := h1
   rw [hr] at hr'; cases hr'
   have hnil : len = 0 -> ys = [] := fun hl => by
    subst hl
    unfold rowOf at hrow
    split at hrow
    ·cases hrow; unfold elems; split <;> simp [chunk]
    ·cases hrow
   cases r with
   | gone => exact absurd rfl hng
   | empty =>
    simp only [BRel] at hBr
    subst hBr
    have hc0 : cap = 0 := by
     rcases hcase with h | ⟨_, _, _, h, _⟩
     ·exact h
     ·cases h
    have hys := hnil (by omega)
    subst hys
    refine ⟨_, _, M, hk, hI.reblk fun r hr2 => ?_, Mem.le_refl _, ?_, hobj⟩
    ·rw [hr] at hr2; cases hr2; simp [BRel]
    ·have hl0 : len = 0 := by omega
     subst hl0
     simp only [LRel, CRel]; exact ⟨_, _, _, ey, rfl, hlc, hcm, .inl trivial⟩
   | here cb sh n =>
    simp only [BRel] at hBr
    obtain ⟨c, T, hc, hcn, hfit, hcr, hno⟩ := hBr
    have hfz := hI.freeze (cs' := cs) hB hr hc hno (Touch.refl _ w) hc rfl (CRelC.mono (layAt_le hno) _ _ hcr)
    refine ⟨_, _, _, hk, hfz, layAt_le hno, ?_, hobj⟩
    rw [ey]
    rcases hcase with h11 | ⟨cb2, sh2, n2, e3, e4, h12⟩
    ·have hl : len = 0 := by omega
     have hys := hnil hl
     subst hl
     subst hys
     simp only [LRel, CRel]; exact ⟨_, _, _, rfl, rfl, hlc, hcm, .inl trivial⟩
    ·cases e3
     subst e4
     simp only [LRel]
     exact rowOf_rel hsz (CRelC.mono (layAt_le hno) _ _ hcr) hrow rfl layAt_at hlc hcm
  next => cases h
 next xs =>
  simp only [LRel] at hv
  obtain ⟨a, n, e, hv⟩ := hv
  exact ⟨_, _, M, h, hI, Mem.le_refl _, by simpa only [LRel] using hv, fun _ _ h => h⟩
 next u => exact ⟨_, _, M, h, hI, Mem.le_refl _, hv, fun _ _ h => h⟩
 next => cases h
theorem zap_sound {H : List ABlock} (hI : MInv A n0 M0 ρ0 w0 M ρ H w) {off : Nat} {Q : List ABlock -> Prop} {v : LV} (h : zapK H off Q v) : ∃ H' M', Q H' /\ MInv A n0 M0 ρ0 w0 M' ρ H' w /\ M.le M' := by
 unfold zapK at h
 split at h
 next b o =>
  unfold zapB at h
  split at h
  next cs hB =>
   unfold zapC at h
   split at h
   next c hc =>
    obtain ⟨r, hr, hBr⟩ := hI.rel.spot hB
    cases r with
    | gone => simp [BRel] at hBr
    | empty => simp [BRel] at hBr
    | here cb sh n =>
     simp only [BRel] at hBr
     obtain ⟨ce, T, h1, h2, h3, h4, h5, h6⟩ := hBr
     obtain ⟨us, hu, hl⟩ := lrelC_get h5 hc
     obtain ⟨v', H', M', hk, hI', hle, hl', hobj⟩ := frz_sound hI hl h
     refine ⟨_, M', hk, hI'.reblk fun r hr2 => ?_, hle⟩
     have hB2 := hI'.rel.blk b _ _ (hobj b cs hB) hr2
     cases r with
     | gone => simp [BRel] at hB2
     | empty => simp [BRel] at hB2
     | here cb2 sh2 n2 =>
      rw [hr] at hr2
      cases hr2
      simp only [BRel] at hB2 ⊢
      obtain ⟨ce2, T2, k1, k2, k3, k4, k5, k6⟩ := hB2
      rw [h1] at k1
      cases k1
      exact ⟨_, _, h1, k2, by simpa using k3, k4, lrelC_set k5 hu hl', k6⟩
   next => cases h
  next => cases h
 next => cases h
theorem frel_ren {M : Mem} {ρ ρ' : Env} {p : Nat -> Bool} {v' : LV} (hp : ∀ v x, LVal M ρ v x -> LVal M ρ' (fgt p v) x) : ∀ {fr : List LV} {xs : List Value} (t : Nat), FRel M ρ fr xs -> (∀ x, LVal M ρ (fget fr t) x -> LVal M ρ' v' x) -> FRel M ρ' (fset (fgtL p fr) t v') xs
 | [], xs, _, h, _ => by simpa [FRel, fgtL, fset] using h
 | v :: vs, xs, 0, h, hv => by
  obtain ⟨y, ys, rfl, h1, h2⟩ := h
  refine ⟨y, ys, rfl, hv y h1, ?_⟩
  have := h2.map (fgt p) hp
  rw [<- fgtL_eq_map] at this
  exact this
 | v :: vs, xs, t + 1, h, hv => by
  obtain ⟨y, ys, rfl, h1, h2⟩ := h
  exact ⟨y, ys, rfl, hp _ _ h1, frel_ren hp t h2 hv⟩
theorem ren_sound {σ : AState} (hI : MInv A n0 M0 ρ0 w0 M ρ σ.hp w) {xs : List Value} (hf : FRel M ρ σ.fr xs) {j t : Nat} {Q : AState -> Prop} {v : LV} (hv : fget σ.fr t = v) (h : renK (n0 + j) t σ Q v) : ∃ τ ρ', Q τ /\ MInv A n0 M0 ρ0 w0 M ρ' τ.hp w /\ FRel M ρ' τ.fr xs := by
 unfold renK at h
 split at h
 next c =>
  obtain ⟨hbc, h⟩ := h
  generalize hb : n0 + j = b at *
  unfold renC at h
  split at h
  next ds cs hB hC =>
   obtain ⟨rb, hrb, hBb⟩ := hI.rel.spot hB
   obtain ⟨rc, hrc, hBc⟩ := hI.rel.spot hC
   have hbl := (List.getElem?_eq_some_iff.1 hrb).1
   have hcl := (List.getElem?_eq_some_iff.1 hrc).1
   have hHl := hI.rel.len
   have hag : ∀ k, (k == b || k == c) = false -> ((ρ.set b rc).set c Spot.gone)[k]? = ρ[k]? := fun k hk => by
    simp only [Bool.or_eq_false_iff, beq_eq_false_iff_ne] at hk
    rw [List.getElem?_set_ne (Ne.symm hk.2), List.getElem?_set_ne (Ne.symm hk.1)]
   have hgb : ((ρ.set b rc).set c Spot.gone)[b]? = some rc := by
    rw [List.getElem?_set_ne (by omega), List.getElem?_set_self hbl]
   have hgc : ((ρ.set b rc).set c Spot.gone)[c]? = some .gone := by
    rw [List.getElem?_set_self (by rw [List.length_set]; exact hcl)]
   have hat : ∀ k r, ((ρ.set b rc).set c Spot.gone)[k]? = some r -> r ≠ .gone -> ∃ k', ρ[k']? = some r /\ (k' = k /\ k ≠ b /\ k ≠ c \/ k = b /\ k' = c) := fun k r hk hr => by
    by_cases e1 : k = b
    ·subst e1; rw [hgb] at hk; cases hk; exact ⟨c, hrc, .inr ⟨rfl, rfl⟩⟩
    ·by_cases e2 : k = c
     ·subst e2; rw [hgc] at hk; cases hk; exact absurd rfl hr
     ·rw [hag k (by simp [e1, e2])] at hk; exact ⟨k, hk, .inl ⟨rfl, e1, e2⟩⟩
   refine ⟨_, (ρ.set b rc).set c .gone, h, ?_, ?_⟩
   ·refine { rel := ?_, mem := hI.mem, nle := hI.nle, len := by simpa using hI.len, env := ?_, gon := ?_, touch := hI.touch, newer := hI.newer, fresh := ?_, alien := ?_ }
    ·refine { len := by simpa using hHl, blk := ?_, inj := ?_, lt := ?_, cells := hI.rel.cells, maps := hI.rel.maps }
     ·intro k B r hk hr
      by_cases e2 : k = c
      ·subst e2
       rw [List.getElem?_set_self (by simp; omega)] at hk
       rw [hgc] at hr
       cases hk; cases hr
       simp [BRel]
      ·rw [List.getElem?_set_ne (Ne.symm e2)] at hk
       by_cases e1 : k = b
       ·subst e1
        rw [List.getElem?_set_self (by simp; omega)] at hk
        rw [hgb] at hr
        cases hk; cases hr
        exact BRel.fgt (B := .obj cs) hBc hag
       ·rw [List.getElem?_set_ne (Ne.symm e1), List.getElem?_map] at hk
        rw [hag k (by simp [e1, e2])] at hr
        cases hk2 : σ.hp[k]? with
        | none => rw [hk2] at hk; cases hk
        | some B0 =>
         rw [hk2] at hk
         simp only [Option.map_some, Option.some.injEq] at hk
         subst hk
         exact BRel.fgt (hI.rel.blk k B0 r hk2 hr) hag
     ·intro i k cb sh n cb' sh' n' hik hi hk
      obtain ⟨i', hi2, hi3⟩ := hat i _ hi (by simp)
      obtain ⟨k', hk2, hk3⟩ := hat k _ hk (by simp)
      exact hI.rel.inj i' k' cb sh n cb' sh' n' (by omega) hi2 hk2
     ·intro i cb sh n hi
      obtain ⟨i', hi2, _⟩ := hat i _ hi (by simp)
      exact hI.rel.lt i' cb sh n hi2
    ·intro i r hi hr h0
     rw [hag i (by simp; omega)]
     exact hI.env i r hi hr h0
    ·intro i hi h0
     have hg := hI.gon i hi h0
     by_cases e1 : i = b
     ·subst e1
      rw [hrb] at hg
      cases hg
      simp [BRel] at hBb
     ·by_cases e2 : i = c
      ·subst e2; exact hgc
      ·rw [hag i (by simp [e1, e2])]; exact hg
    ·intro i cb sh n hi hk
     obtain ⟨i', hi2, hi3⟩ := hat i _ hk (by simp)
     exact hI.fresh i' cb sh n (by omega) hi2
    ·intro k o hk
     obtain ⟨h1, h2, h3⟩ := hI.alien k o hk
     refine ⟨h1, h2, fun ⟨i, sh, n, hi⟩ => h3 ?_⟩
     obtain ⟨i', hi2, _⟩ := hat i _ hi (by simp)
     exact ⟨i', sh, n, hi2⟩
   ·refine frel_ren (fun v x hx => hx.fgt hag) t hf fun x hx => ?_
    rw [hv] at hx
    have h1 := hx.one rfl (by simp) rfl
    simp only [LRel] at h1
    obtain ⟨cb, sh, n, h2, h3⟩ := h1
    refine lval_of_one ?_ rfl
    simp only [LRel]
    rw [hrc] at h2
    exact ⟨cb, sh, n, by rw [hgb, <- h2], h3⟩
  next => cases h
 next => cases h
theorem MInv.cut {H : List ABlock} (h : MInv A n0 M0 ρ0 w0 M ρ H w) {n : Nat} (hn : ρ0.length <= n) : MInv A n0 M0 ρ0 w0 M (ρ.take n) ((H.take n).map (fgtB fun b => decide (n <= b))) w := by
  have hρ : ∀ j, decide (n <= j) = false -> (ρ.take n)[j]? = ρ[j]? := fun j hj => by
    have : j < n := by simpa using hj
    rw [List.getElem?_take, if_pos this]
  have hh : ∀ {i cb sh m : Nat}, (ρ.take n)[i]? = some (.here cb sh m) -> ρ[i]? = some (.here cb sh m) := fun {i cb sh m} hi => by
    rw [List.getElem?_take] at hi
    split at hi
    · exact hi
    · cases hi
  refine { rel := ⟨by simp [h.rel.len], fun i B r hB hr => ?_, fun i j cb sh n cb' sh' n' hij hi hj => h.rel.inj i j cb sh n cb' sh' n' hij (hh hi) (hh hj), fun i cb sh n hi => h.rel.lt i cb sh n (hh hi), h.rel.cells, h.rel.maps⟩,
           mem := h.mem, nle := h.nle, len := by simp; have := h.len; omega, env := fun i r' hi hne h' => ?_, gon := fun i hi h' => ?_, touch := h.touch, newer := h.newer, fresh := fun i cb sh n hi h' => h.fresh i cb sh n hi (hh h'), alien := fun k o ho => ⟨(h.alien k o ho).1, (h.alien k o ho).2.1, fun ⟨i, sh, n, hi⟩ => (h.alien k o ho).2.2 ⟨i, sh, n, hh hi⟩⟩ }
  · rw [List.getElem?_map, List.getElem?_take] at hB
    rw [List.getElem?_take] at hr
    split at hr
    · rename_i hlt
      rw [if_pos hlt] at hB
      cases hHi : H[i]? with
      | none => rw [hHi] at hB; cases hB
      | some B0 =>
        rw [hHi] at hB
        cases hB
        exact BRel.fgt (h.rel.blk i B0 r hHi hr) hρ
    · cases hr
  · have := h.nle
    rw [List.getElem?_take, if_pos (by omega)]; exact h.env i r' hi hne h'
  · rw [List.getElem?_take, if_pos (by omega)]; exact h.gon i hi h'
theorem FRel.mask : ∀ (m : List Bool) {fr : List LV} {xs : List Value}, FRel M ρ fr xs -> FRel M ρ (fmask m fr) xs
 | [], _, _, h => by simpa [fmask] using h
 | true :: m, [], _, h => by simpa [fmask] using h
 | false :: m, [], _, h => by simpa [fmask] using h
 | true :: m, v :: vs, xs, h => by obtain ⟨y, ys, rfl, h1, h2⟩ := h; exact ⟨y, ys, rfl, h1, h2.mask m⟩
 | false :: m, v :: vs, xs, h => by obtain ⟨y, ys, rfl, h1, h2⟩ := h; exact ⟨y, ys, rfl, lval_any, h2.mask m⟩
theorem Stands.norm {σ : AState} (h : Stands A dfs n0 M0 ρ0 w0 M ρ σ a w) (mask : List Bool) {n : Nat} (hn : ρ0.length <= n) : Stands A dfs n0 M0 ρ0 w0 M (ρ.take n) (norm mask n σ) a w := by
 refine ⟨h.inv.cut hn, ?_, h.nod⟩
 unfold Go.E.norm
 simp only
 rw [fgtL_eq_map]
 refine FRel.map _ (fun v x hv => LVal.fgt (fun j hj => ?_) hv) (h.fr.mask mask)
 have : j < n := by simpa using hj
 rw [List.getElem?_take, if_pos this]
theorem full_nil {us : List Value} (h : LRel M ρ (.full []) us) {id sz : Nat} (hid : ρ[id]? = some .empty) : LRel M ρ (.sl id 0 0 (sz + 1) false) us := by
 simp only [LRel] at h ⊢
 obtain ⟨ad, n, rfl, hc⟩ := h
 simp only [CRel] at hc
 obtain ⟨a', len, cap, e, hl, _, hm, _⟩ := hc
 simp only [List.cons.injEq, Value.slice.injEq, and_true] at e
 obtain ⟨rfl, e1, e2⟩ := e
 simp at hl
 subst hl
 subst e1
 exact ⟨_, _, _, hid, by simp, rfl, Nat.le_refl _, by simp [maxLen], by omega, by simp, .inl rfl⟩
theorem full_nil_val {x : Value} (h : LVal M ρ (.full []) x) {id sz : Nat} (hid : ρ[id]? = some .empty) : LVal M ρ (.sl id 0 0 (sz + 1) false) x := by
 rcases h with h | ⟨vs, xs, h, _⟩ | ⟨us, hc, e⟩
 ·cases h
 ·cases h
 ·exact .inr (.inr ⟨us, full_nil hc hid, by simpa [LV.isAgg] using e⟩)
theorem app_last (r : Spot) : (ρ ++ List.replicate 1 r)[ρ.length]? = some r := by simp
theorem Stands.promote1 {σ : AState} (h : Stands A dfs n0 M0 ρ0 w0 M ρ σ a w) (d : Nat) (c : Option Nat) (sz : Nat) : ∃ ρ', Stands A dfs n0 M0 ρ0 w0 M ρ' (promote1 d c sz σ) a w := by
 have hl := h.inv.rel.len
 have hx := h.inv.ext 1 (B := .row []) (r := .empty) (.inr ⟨rfl, rfl⟩)
 have hf : FRel M (ρ ++ List.replicate 1 .empty) σ.fr a.tmps.toList := h.fr.mono (Mem.le_refl _) (Env.le_app _ _)
 unfold Go.E.promote1
 split
 ·rename_i hd
  refine ⟨ρ ++ List.replicate 1 .empty, ⟨hx, ?_, h.nod⟩⟩
  have hv := hf.fget d
  rw [hd] at hv
  have := hf.fset d (full_nil_val (id := σ.hp.length) (sz := sz) hv (by rw [<- hl]; exact app_last _))
  by_cases hlt : d < a.tmps.toList.length
  ·rwa [List.getD_eq_getElem?_getD, List.getElem?_eq_getElem hlt, Option.getD_some, List.set_getElem_self] at this
  ·rwa [List.set_eq_of_length_le (by omega)] at this
 ·rename_i off b o hd
  split
  ·rename_i cs hB
   split
   ·rename_i hc
    refine ⟨ρ ++ List.replicate 1 .empty, ⟨?_, hf, h.nod⟩⟩
    have hb := (List.getElem?_eq_some_iff.1 hB).1
    have := hx.reblk (b := b) (B' := .obj (cs.set (o + off) (.sl σ.hp.length 0 0 (sz + 1) false))) (fun r hr => ?_)
    ·rw [List.set_append_left _ _ hb] at this; exact this
    ·have hbr := hx.rel.blk b (.obj cs) r (by rw [List.getElem?_append_left hb]; exact hB) hr
     cases r <;> simp only [BRel] at hbr ⊢
     obtain ⟨ce, T, h1, h2, h3, h4, h5, h6⟩ := hbr
     refine ⟨ce, T, h1, h2, by simpa using h3, h4, ?_, h6⟩
     obtain ⟨u, hu, hur⟩ := h5.get hc
     have hset := h5.set (o + off) (full_nil (id := σ.hp.length) (sz := sz) hur (by rw [<- hl]; exact app_last _))
     have hlt := (List.getElem?_eq_some_iff.1 hu).1
     rw [List.getElem?_eq_getElem hlt] at hu
     cases hu
     rwa [List.set_getElem_self] at hset
   ·exact ⟨ρ, h⟩
  ·exact ⟨ρ, h⟩
 ·exact ⟨ρ, h⟩
theorem Stands.promote {a : Act} : ∀ (ps : List (Nat × Option Nat × Nat)) {ρ : Env} {σ : AState}, Stands A dfs n0 M0 ρ0 w0 M ρ σ a w -> ∃ ρ', Stands A dfs n0 M0 ρ0 w0 M ρ' (promote ps σ) a w
 | [], ρ, σ, h => ⟨ρ, h⟩
 | (d, c, sz) :: ps, ρ, σ, h => by
  obtain ⟨ρ', h'⟩ := h.promote1 d c sz
  exact Stands.promote ps h'
end
end Go.E

/- Code is borne out by the model. -/
namespace Go.E
open Go
theorem remOf_all (n : Nat) : remOf n (Array.replicate n false) = List.range n := by
 unfold remOf
 refine List.filter_eq_self.2 fun i hi => ?_
 simp only [List.mem_range] at hi
 simp [Array.getD_eq_getD_getElem?, hi]
theorem filterMap_take {α : Type} (l : List α) : ∀ n : Nat, (List.range n).filterMap (fun i => l[i]?) = l.take n
 | 0 => rfl
 | n + 1 => by
  rw [List.range_succ, List.filterMap_append, filterMap_take l n, List.take_add_one]
  cases h : l[n]? <;> simp [List.filterMap_cons, h]
def exitOf : AExit -> Exit
 | .normal => .normal
 | .exit id => .exit id
 | .ret => .ret
section
variable {P : Program} {A : Nat -> Obj -> Prop} {dfs : List Deferred} {M0 : Mem} {ρ0 : Env} {w0 : World} {n0 : Nat}
theorem stepR_scope {b : Frame} {a : Act} {k : List Item} {cs : List Frame} {w : World} {c : Code} : step P (lone (b.atR a (.code (.scope c) :: k)) cs w) = .next (lone (b.atR a (.code c :: .inScope c :: k)) cs w) :=
 step_lone_go (by simp [stepG, stepG.exec, Frame.atR])
theorem stepR_inScope {b : Frame} {a : Act} {k : List Item} {cs : List Frame} {w : World} {c : Code} : step P (lone (b.atR a (.inScope c :: k)) cs w) = .next (lone (b.atR a k) cs w) :=
 step_lone_go (by simp [stepG, stepG.exec, Frame.atR])
theorem wpIn_scope_straight {r : Option Nat} {nf : Nat} {Q : Exit -> Act -> World -> Prop} {a : Act} {w : World} {c : Code} (h : c.wpIn (Fw r) nf P (Exit.noGoto Q) a w) : (Code.scope c).wpIn (Fw r) nf P Q a w := by
 intro b k cs hro hb hr
 have h0 : (lone (b.atR a (.code (.scope c) :: k)) cs w).fenced P (Fw r) := fenced_calm hb hr rfl
 obtain ⟨e, a₁, w₁, hq, harr⟩ := h b (.inScope c :: k) cs hro hb hr
 have hx : ∀ id, exitTo id (.inScope c :: k) = exitTo id k := fun id => by simp [exitTo]
 cases e with
 | normal => exact ⟨.normal, a₁, w₁, hq, .head h0 stepR_scope (StepsIn.trans harr (.one (fenced_calm hb hr rfl) stepR_inScope))⟩
 | exit id => exact ⟨.exit id, a₁, w₁, hq, fun k' hk => .head h0 stepR_scope (harr.1 k' (by rw [hx]; exact hk)), fun hr' hk => let ⟨k₁, h1, h2⟩ := harr.2 hr' (by rw [hx]; exact hk); ⟨k₁, h1, .head h0 stepR_scope h2⟩⟩
 | goto l => exact hq.elim
 | ret => exact ⟨_, a₁, w₁, hq, .of_steps (.one h0 stepR_scope) harr⟩
 | panic ch => exact ⟨_, a₁, w₁, hq, .of_steps (.one h0 stepR_scope) harr⟩
 | outgrown => exact ⟨_, a₁, w₁, hq, .of_steps (.one h0 stepR_scope) harr⟩
theorem reg_sound {r : Option Nat} {nf : Nat} {nt id n : Nat} {as : List AOper} {ops : Array Oper} {draw : Bool} {M : Mem} {ρ : Env} {w : World} {a : Act} {σ : AState} {QA : AExit -> AState -> Prop} {Q : Exit -> Act -> World -> Prop}
  (hok : okCode P nt (.reg n as) (.region id ops draw) = true) (hS : Stands A dfs n0 M0 ρ0 w0 M ρ σ a w) (h : awp P n0 (.reg n as) σ QA)
  (hfin : ∀ τ M' ρ' a' w', QA .normal τ -> Stands A dfs n0 M0 ρ0 w0 M' ρ' τ a' w' -> Q .normal a' w') : (Code.region id ops draw).wpIn (Fw r) nf P Q a w := by
 simp only [okCode, Bool.and_eq_true, Bool.or_eq_true, Bool.not_eq_true', beq_iff_eq] at hok
 obtain ⟨⟨hok, hn⟩, hd⟩ := hok
 have hl := hS.inv.rel.len
 have hlen := hS.inv.len
 have hokc := okOpers_okc hok
 simp only [awp] at h
 have hr := fun N => runI_aops (P := P) (n0 := n0) N as σ.hp.length _ True hokc h
 have hfin' : ∀ (τ : AState) (F' : Prop) M' ρ' a' w', (F' -> QA .normal τ) -> F' -> Stands A dfs n0 M0 ρ0 w0 M' ρ' τ a' w' -> Q .normal a' w' := fun τ F' M' ρ' a' w' hk hF hS' => hfin τ M' ρ' a' w' (hk hF) hS'
 have hS' : Stands A dfs n0 M0 ρ0 w0 M (ρ ++ List.replicate n .gone) { fr := σ.fr, hp := σ.hp ++ List.replicate n .gone } a w :=
  ⟨hS.inv.ext n (.inl ⟨rfl, rfl⟩), hS.fr.mono (Mem.le_refl _) (Env.le_app _ _), hS.nod⟩
 cases draw with
 | false =>
  exact wpIn_region_list (text_sound (N := σ.hp.length) (by omega) hfin' as ops.toList σ.hp.length _ True M _ a w hok (by omega) hS' trivial (hr _))
 | true =>
  rcases hd with hd | ⟨htied, htopo⟩
  ·cases hd
  refine wpIn_region_draw fun t => ?_
  have hw : Stands A dfs n0 M0 ρ0 w0 M (ρ ++ List.replicate n .gone) { fr := σ.fr, hp := σ.hp ++ List.replicate n .gone } a { w with drawn := w.drawn + 1 } :=
   ⟨hS'.inv.world rfl rfl rfl rfl (Nat.le_succ _), hS'.fr, hS'.nod⟩
  have any : ∀ md l t, topoOk md ops.toList l = true -> wpOpsIn (Fw r) nf P ops Q (Region.linearise md ops t) a { w with drawn := w.drawn + 1 } := fun md l t htp => by
   refine wpAnyIn_sound ops.size t _ a _ (draw_sound (N := σ.hp.length + takesIn as) (id0 := σ.hp.length) (Nat.le_refl _) (by omega) hok htied htp hfin' ops.size _ _ True M _ a _ (by simp) (by rw [remOf_all]; simp) ?_ hw trivial ?_ ?_)
   ·intro i o hi
    by_cases hlt : i < ops.size <;> simp [Array.getD_eq_getD_getElem?, hlt] at hi
   ·intro i hi p hp ht
    have := (withIds_fst (N := σ.hp.length + takesIn as) as σ.hp.length p (List.mem_of_getElem? hp)).1 ht
    have hnt : n = takesIn as := hn
    rw [List.getElem?_append_right (by omega), List.getElem?_replicate, if_pos (by omega)]
   ·rw [remOf_all, filterMap_take, List.take_of_length_le]
    ·exact hr _
    ·have := congrArg List.length (withIds_snd (N := σ.hp.length + takesIn as) as σ.hp.length)
     simp only [List.length_map] at this
     have h2 := (okOpers_get hok).1
     simp only [Array.length_toList] at h2
     omega
  unfold Region.schedule
  split
  ·rename_i hm
   rw [if_pos (by simpa using hm)] at htopo
   exact any .any _ t htopo
  ·rename_i hm
   rw [if_neg (by simpa using hm)] at htopo
   simp only [Bool.and_eq_true] at htopo
   split
   ·exact any .text _ _ htopo.1
   ·exact any .gc _ _ htopo.2
theorem code_sound {r : Option Nat} {nf : Nat} {nt : Nat} : ∀ (ac : ACode) (c : Code) (M : Mem) (ρ : Env) (w : World) (a : Act) (σ : AState) (QA : AExit -> AState -> Prop) (Q : Exit -> Act -> World -> Prop),
  okCode P nt ac c = true -> Stands A dfs n0 M0 ρ0 w0 M ρ σ a w -> awp P n0 ac σ QA -> (∀ e τ M' ρ' a' w', QA e τ -> Stands A dfs n0 M0 ρ0 w0 M' ρ' τ a' w' -> Q (exitOf e) a' w') -> c.wpIn (Fw r) nf P Q a w := by
 intro ac
 induction ac with
 | skip =>
  intro c M ρ w a σ QA Q hok hS h hQ
  cases c <;> simp only [okCode] at hok <;> try cases hok
  exact wpIn_skip (hQ .normal σ M ρ a w h hS)
 | reg n as =>
  intro c M ρ w a σ QA Q hok hS h hQ
  cases c <;> try (simp only [okCode] at hok; cases hok; done)
  exact reg_sound hok hS h (fun τ M' ρ' a' w' => hQ .normal τ M' ρ' a' w')
 | seq x y ihx ihy =>
  intro c M ρ w a σ QA Q hok hS h hQ
  cases c <;> simp only [okCode, Bool.and_eq_true] at hok <;> try cases hok
  rename_i h1 h2
  simp only [awp] at h
  refine wpIn_seq (ihx _ M ρ w a σ _ _ h1 hS h fun e τ M' ρ' a' w' he hS' => ?_)
  cases e with
  | normal => exact ihy _ M' ρ' w' a' τ _ _ h2 hS' he hQ
  | exit id => exact hQ (.exit id) τ M' ρ' a' w' he hS'
  | ret => exact hQ .ret τ M' ρ' a' w' he hS'
 | cond x A B iha ihb =>
  intro c M ρ w a σ QA Q hok hS h hQ
  cases c <;> simp only [okCode, Bool.and_eq_true] at hok <;> try cases hok
  rename_i h1 h2
  obtain ⟨h1, h3⟩ := h1
  have hv := okX_rel hS.fr h1
  simp only [awp] at h
  unfold condK at h
  split at h
  ·rename_i t hx
   have hb := lrel_bool hx hv
   refine wpIn_cond_split hb (fun ht => ?_) (fun ht => ?_)
   ·subst ht; exact iha _ M ρ w a σ _ _ h3 hS h hQ
   ·subst ht; exact ihb _ M ρ w a σ _ _ h2 hS h hQ
  ·cases h
 | block id x ih =>
  intro c M ρ w a σ QA Q hok hS h hQ
  cases c <;> simp only [okCode, Bool.and_eq_true, beq_iff_eq] at hok <;> try cases hok
  rename_i h1 h2
  subst h1
  simp only [awp] at h
  refine wpIn_block (ih _ M ρ w a σ _ _ h2 hS h fun e τ M' ρ' a' w' he hS' => ?_)
  cases e with
  | normal => exact hQ .normal τ M' ρ' a' w' he hS'
  | exit i =>
   simp only at he
   simp only [exitOf, Exit.inBlock]
   split
   ·rename_i hi; rw [if_pos hi] at he; exact hQ .normal τ M' ρ' a' w' he hS'
   ·rename_i hi; rw [if_neg hi] at he; exact hQ (.exit i) τ M' ρ' a' w' he hS'
  | ret => exact hQ .ret τ M' ρ' a' w' he hS'
 | loop mask promo x ih =>
  intro c M ρ w a σ QA Q hok hS h hQ
  cases c <;> simp only [okCode] at hok <;> try cases hok
  rename_i c
  simp only [awp] at h
  obtain ⟨ρ1, hS1⟩ := hS.promote promo
  have hn : ρ0.length <= (promote promo σ).hp.length := by have := hS1.inv.len; have := hS1.inv.rel.len; omega
  generalize (promote promo σ).hp.length = n at h hn
  have hI := h (fun τ => ∀ M ρ a w, Stands A dfs n0 M0 ρ0 w0 M ρ τ a w -> ∀ (b : Frame) (k : List Item) (cs : List Frame), b.roundOf = (Fw r).round -> (Fw r).fn b.fn -> (Fw r).room (cs.length + 1 + nf) -> ∃ e a' w', Q e a' w' /\ ArrivesIn (Machine.fenced P (Fw r)) P (lone (b.atR a (.code c :: .inLoop c :: k)) cs w) b k cs e a' w') (by
   intro τ hb M ρ a w hS b k cs hro hfn hrm
   have hbody := ih c M ρ w a τ _ (Exit.then (fun a' w' => ∀ (b : Frame) (k : List Item) (cs : List Frame), b.roundOf = (Fw r).round -> (Fw r).fn b.fn -> (Fw r).room (cs.length + 1 + nf) -> ∃ e a'' w'', Q e a'' w'' /\ ArrivesIn (Machine.fenced P (Fw r)) P (lone (b.atR a' (.code c :: .inLoop c :: k)) cs w') b k cs e a'' w'') Q) hok hS hb (fun e τ' M' ρ' a' w' he hS' => by
    cases e with
    | normal => exact he M' _ a' w' (hS'.norm mask hn)
    | exit id => exact hQ (.exit id) τ' M' ρ' a' w' he hS'
    | ret => exact hQ .ret τ' M' ρ' a' w' he hS')
   obtain ⟨e, a₁, w₁, hq, harr⟩ := hbody b (.inLoop c :: k) cs hro hfn hrm
   cases e with
   | normal =>
    obtain ⟨e₂, a₂, w₂, hq₂, harr₂⟩ := hq b k cs hro hfn hrm
    exact ⟨e₂, a₂, w₂, hq₂, .of_steps (StepsIn.trans harr (.one (fenced_calm hfn hrm rfl) stepR_inLoop)) harr₂⟩
   | exit id => exact ⟨_, a₁, w₁, hq, .pass (x := .inLoop c) rfl (fun _ _ => .inl (by simp)) harr⟩
   | goto l => exact ⟨_, a₁, w₁, hq, .pass (x := .inLoop c) rfl (fun _ _ => .inl (by simp)) harr⟩
   | ret => exact ⟨_, a₁, w₁, hq, .pass (x := .inLoop c) rfl (fun _ _ => .inl (by simp)) harr⟩
   | panic ch => exact ⟨_, a₁, w₁, hq, .pass (x := .inLoop c) rfl (fun _ _ => .inl (by simp)) harr⟩
   | outgrown => exact ⟨_, a₁, w₁, hq, .pass (x := .inLoop c) rfl (fun _ _ => .inl (by simp)) harr⟩)
  intro b k cs hro hfn hrm
  obtain ⟨e, a', w', hq, harr⟩ := hI M _ a w (hS1.norm mask hn) b k cs hro hfn hrm
  exact ⟨e, a', w', hq, .of_steps (.one (fenced_calm hfn hrm rfl) stepR_loop) harr⟩
 | exit id =>
  intro c M ρ w a σ QA Q hok hS h hQ
  cases c <;> simp only [okCode, beq_iff_eq] at hok <;> try cases hok
  exact wpIn_exit (hQ (.exit id) σ M ρ a w h hS)
 | ret =>
  intro c M ρ w a σ QA Q hok hS h hQ
  cases c <;> simp only [okCode] at hok <;> try cases hok
  exact wpIn_ret (hQ .ret σ M ρ a w h hS)
 | zap t off x ih =>
  intro c M ρ w a σ QA Q hok hS h hQ
  simp only [okCode] at hok
  simp only [awp] at h
  obtain ⟨H', M', h1, h2, h3⟩ := zap_sound hS.inv h
  exact ih _ M' ρ w a { fr := σ.fr, hp := H' } QA Q hok ⟨h2, hS.fr.mono h3 (Env.le_refl _), hS.nod⟩ h1 hQ
 | ren t j x ih =>
  intro c M ρ w a σ QA Q hok hS h hQ
  simp only [okCode] at hok
  simp only [awp] at h
  obtain ⟨τ, ρ', h1, h2, h3⟩ := ren_sound hS.inv hS.fr rfl h
  exact ih _ M ρ' w a τ QA Q hok ⟨h2, h3, hS.nod⟩ h1 hQ
 | scope x ih =>
  intro c M ρ w a σ QA Q hok hS h hQ
  cases c <;> simp only [okCode] at hok <;> try cases hok
  refine wpIn_scope_straight (ih _ M ρ w a σ QA _ hok hS h fun e τ M' ρ' a' w' he hS' => ?_)
  cases e with
  | normal => exact hQ .normal τ M' ρ' a' w' he hS'
  | exit id => exact hQ (.exit id) τ M' ρ' a' w' he hS'
  | ret => exact hQ .ret τ M' ρ' a' w' he hS'
 | label l =>
  intro c M ρ w a σ QA Q hok hS h hQ
  cases c <;> simp only [okCode] at hok <;> try cases hok
  exact wpIn_label (hQ .normal σ M ρ a w h hS)
end
end Go.E

/- Functions are borne out by the model. -/
namespace Go.E
open Go
def resK (H : List ABlock) (fr : List LV) : List ARes -> (List SV -> Prop) -> Prop
 | [], Q => Q []
 | .tmp t :: rs, Q => exO (frz H (fget fr t)) fun v => resK H fr rs fun vs => Q (v :: vs)
 | .cell t n agg :: rs, Q => ldK H n agg (fun u _ _ _ => exO (frz H u) fun v => resK H fr rs fun vs => Q (v :: vs)) (fget fr t)
section
variable {P : Program} {A : Nat -> Obj -> Prop} {dfs : List Deferred} {n0 : Nat} {M0 : Mem} {ρ0 : Env} {w0 : World} {M : Mem} {ρ : Env} {H : List ABlock} {w : World} {a : Act} {k : AK}
theorem read_part {t : TypeId} {g : Bool} {n cb of : Nat} {cs : List SV} {us : List Value} (ha : aggTy P t = some g) (hs : szTy P t = some n) (hc : CRelC M cs (ones us))
  (hw : ∀ j v, us[j]? = some v -> w.cell? ⟨cb, of + j, none⟩ = some v) {off : Nat} (h : partS H cs off n k g) :
  ∃ x v, (loadVar t ⟨cb, of + off, none⟩).run P w = .ok x w /\ LVal M ρ v x /\ k v H none True := by
 have hlen : us.length = cs.length := by have := hc.length; simpa using this
 cases g with
 | true =>
  simp only [partS] at h
  have hl : ((us.drop off).take n).length = n := by rw [List.length_take, List.length_drop]; omega
  refine ⟨.agg ((us.drop off).take n).toArray, _, ?_, ?_, h.2⟩
  ·refine run_loadVar_agg ha (by rw [hl]; exact hs) w fun j v hj => ?_
   rw [List.getElem?_take] at hj
   split at hj
   ·rw [List.getElem?_drop] at hj
    have := hw _ v hj
    rw [<- Nat.add_assoc] at this
    exact this
   ·cases hj
  ·rw [lval_s]
   exact ⟨(us.drop off).take n, by simp only [CRel, ones_take, ones_drop]; exact (hc.drop off).take n, rfl⟩
 | false =>
  simp only [partS] at h
  unfold exO at h
  split at h
  next c hj =>
   obtain ⟨u, hu, hcu⟩ := hc.get hj
   simp only [ones_get?, Option.map_eq_some_iff] at hu
   obtain ⟨x, hx, rfl⟩ := hu
   exact ⟨x, _, run_loadVar_one ha w (hw _ _ hx), lval_s.2 (vrel_of_one hcu h.1), h.2⟩
  next => cases h
theorem read_partL {t : TypeId} {g : Bool} {n cb : Nat} {cs : List LV} {us : List Value} (ha : aggTy P t = some g) (hs : szTy P t = some n) (hc : LRelC M ρ cs (ones us))
  (hw : ∀ j v, us[j]? = some v -> w.cell? ⟨cb, j, none⟩ = some v) {off : Nat} (h : partL H cs off n k g) :
  ∃ x v, (loadVar t ⟨cb, off, none⟩).run P w = .ok x w /\ LVal M ρ v x /\ k v H none True := by
 have hlen : us.length = cs.length := by have := hc.length; simpa using this
 cases g with
 | true =>
  simp only [partL] at h
  have hl : ((us.drop off).take n).length = n := by rw [List.length_take, List.length_drop]; omega
  refine ⟨.agg ((us.drop off).take n).toArray, _, ?_, ?_, h.2⟩
  ·refine run_loadVar_agg ha (by rw [hl]; exact hs) w fun j v hj => ?_
   rw [List.getElem?_take] at hj
   split at hj
   ·rw [List.getElem?_drop] at hj
    exact hw _ v hj
   ·cases hj
  ·exact lval_agg (by simp only [ones_take, ones_drop]; exact (hc.drop off).take n)
 | false =>
  simp only [partL] at h
  unfold exO at h
  split at h
  next c hj =>
   obtain ⟨u, hu, hcu⟩ := hc.get hj
   simp only [ones_get?, Option.map_eq_some_iff] at hu
   obtain ⟨x, hx, rfl⟩ := hu
   exact ⟨x, _, run_loadVar_one ha w (hw _ _ hx), lval_of_one hcu h.1, h.2⟩
  next => cases h
theorem read_val (hR : SRel M ρ H w) {t : TypeId} {n : Nat} {g : Bool} {v : LV} {y : Value} (ha : aggTy P t = some g) (hs : szTy P t = some n) (hr : LVal M ρ v y) (h : ldK H n g k v) :
  ∃ ad x u, y = .pointer (some ad) /\ (loadVar t ad).run P w = .ok x w /\ LVal M ρ u x /\ k u H none True := by
 unfold ldK at h
 split at h
 next cs =>
  rw [lval_s] at hr
  have h1 := hr.one rfl
  simp only [CRel] at h1
  obtain ⟨b, of, ws, e, hc, hat⟩ := h1
  simp at e
  obtain ⟨x, u, h2, h3, h4⟩ := read_part (P := P) (ρ := ρ) (t := t) (off := 0) ha hs hc (hR.at_cells hat) h
  exact ⟨_, x, u, e, h2, h3, h4⟩
 next b off =>
  have h1 := hr.one rfl (by simp)
  simp only [LRel] at h1
  obtain ⟨cb, sh, m, hρ, e⟩ := h1
  simp at e
  unfold ldB at h
  split at h
  next cs hb =>
   obtain ⟨r, h2, h3⟩ := hR.spot hb
   rw [hρ] at h2; cases h2
   simp only [BRel] at h3
   obtain ⟨c, T, h4, h5, h6, h7, h8, h9⟩ := h3
   subst h7
   obtain ⟨x, u, h2, h3, h4⟩ := read_partL (P := P) (t := t) (cb := cb) ha hs h8 (fun j v hj => by rw [heap_cell? h4]; simpa using hj) h
   exact ⟨_, x, u, e, by simpa using h2, h3, h4⟩
  next cs hb =>
   obtain ⟨r, h2, h3⟩ := hR.spot hb
   rw [hρ] at h2; cases h2
   simp only [BRel] at h3
   obtain ⟨c, T, h4, h5, h6, h8, h9⟩ := h3
   obtain ⟨x, u, h2, h3, h4⟩ := read_part (P := P) (ρ := ρ) (t := t) ha hs h8 (fun j v hj => by rw [heap_cell? h4]; simpa using take_drop_get j v hj) h
   exact ⟨_, x, u, e, h2, h3, h4⟩
  next cs hb =>
   obtain ⟨r, h2, h3⟩ := hR.spot hb
   rw [hρ] at h2; cases h2
   simp only [BRel] at h3
   obtain ⟨us, h8, h9⟩ := h3
   obtain ⟨x, u, h2, h3, h4⟩ := read_part (P := P) (ρ := ρ) (t := t) ha hs h8 (hR.at_cells h9) h
   exact ⟨_, x, u, e, h2, h3, h4⟩
  next => cases h
 next => cases h
def resRun (tmps : Array Value) : ResultVar -> Sem Value
 | .tmp t => pure (tmps.getD t undef)
 | .cell a t => do loadVar t (<- asAddr (tmps.getD a undef))
theorem res_sound (hR : SRel M ρ H w) {fr : List LV} {tmps : Array Value} (hf : FRel M ρ fr tmps.toList) : ∀ {rs : List ARes} {rvs : List ResultVar} {Q : List SV -> Prop}, okRes P rs rvs = true -> resK H fr rs Q ->
  ∃ xs vs, (rvs.mapM (resRun tmps)).run P w = .ok xs w /\ VRelL (M.up ρ w) vs xs /\ Q vs
 | [], [], Q, _, h => ⟨[], [], by simp, rfl, h⟩
 | [], _ :: _, _, h, _ => by simp [okRes] at h
 | _ :: _, [], _, h, _ => by simp [okRes] at h
 | .tmp t :: rs, .cell u ty :: rvs, _, h, _ => by simp [okRes] at h
 | .cell t n g :: rs, .tmp u :: rvs, _, h, _ => by simp [okRes] at h
 | .tmp t :: rs, .tmp u :: rvs, Q, hok, h => by
  simp only [okRes, Bool.and_eq_true, beq_iff_eq] at hok
  obtain ⟨rfl, hok⟩ := hok
  simp only [resK] at h
  obtain ⟨v, e, h⟩ := exO_inv h
  obtain ⟨xs, vs, h1, h2, h3⟩ := res_sound hR hf hok h
  have hv := frz_up_val hR (hf.fget t) e
  rw [List.getD_eq_getElem?_getD, Array.getElem?_toList, <- Array.getD_eq_getD_getElem?] at hv
  exact ⟨_ :: xs, v :: vs, by simp [resRun, h1], ⟨_, _, rfl, hv, h2⟩, h3⟩
 | .cell t n g :: rs, .cell u ty :: rvs, Q, hok, h => by
  simp only [okRes, Bool.and_eq_true, Bool.or_eq_true, beq_iff_eq] at hok
  obtain ⟨⟨⟨⟨rfl, ha⟩, hs⟩, hg⟩, hok⟩ := hok
  simp only [resK] at h
  obtain ⟨ad, x, v, e1, e2, hv, h⟩ := read_val hR ha hs (hf.fget t) h
  rw [List.getD_eq_getElem?_getD, Array.getElem?_toList, <- Array.getD_eq_getD_getElem?] at e1
  obtain ⟨s, e, h⟩ := exO_inv h
  obtain ⟨xs, vs, h1, h2, h3⟩ := res_sound hR hf hok h
  exact ⟨x :: xs, s :: vs, by simp [resRun, h1, e1, e2, asAddr], ⟨_, _, rfl, frz_up_val hR hv e, h2⟩, h3⟩
theorem results_of {fn : Func} {tmps : Array Value} {xs : List Value} (h : (fn.results.toList.mapM (resRun tmps)).run P w = .ok xs w) : (results fn tmps).run P w = .ok (retOf xs) w := by
 have e : results fn tmps = (fn.results.mapM (resRun tmps) >>= fun (vs : Array Value) => pure (if h : vs.size = 1 then vs[0] else .tuple vs)) := rfl
 rw [e, Array.mapM_eq_mapM_toList]
 simp only [bind_map_left, Sem.run_bind, h]
 cases xs with
 | nil => simp [retOf]
 | cons x xs => cases xs <;> simp [retOf]
theorem VRelL.length : ∀ {vs : List SV} {xs : List Value}, VRelL M vs xs -> xs.length = vs.length
 | [], xs, h => by simp only [VRelL] at h; subst h; rfl
 | v :: vs, xs, h => by obtain ⟨y, ys, rfl, _, h2⟩ := h; simp [h2.length]
theorem frel_of_vrelL : ∀ {vs : List SV} {xs : List Value}, VRelL M vs xs -> FRel M ρ (vs.map .s) xs
 | [], xs, h => h
 | v :: vs, xs, h => by obtain ⟨y, ys, rfl, h1, h2⟩ := h; exact ⟨y, ys, rfl, lval_s.2 h1, frel_of_vrelL h2⟩
theorem frel_any : ∀ (n : Nat) (x : Value), FRel M ρ (List.replicate n .any) (List.replicate n x)
 | 0, _ => rfl
 | n + 1, x => ⟨x, _, rfl, lval_any, frel_any n x⟩
theorem SRel.start (h : Holds M w) : SRel M [] [] w := ⟨rfl, fun i B r h => by simp at h, fun i j cb sh n cb' sh' n' _ h => by simp at h, fun i cb sh n h => by simp at h, h.1, h.2⟩
theorem frame_rel {args : List LV} {vs : List Value} (h : FRel M ρ args vs) (n : Nat) : FRel M ρ (args ++ List.replicate (n - args.length) .any) (vs.toArray ++ Array.replicate (n - vs.toArray.size) undef).toList := by
 have := h.length
 simp only [Array.toList_append, List.toList_toArray, Array.toList_replicate, List.size_toArray, this]
 exact h.append (frel_any _ _)
def finK (rs : List ARes) (out : List SV) (e : AExit) (τ : AState) : Prop :=
 match e with
 | .exit _ => False
 | _ => resK τ.hp τ.fr rs fun vs => vs = out
theorem fn_of_awp {f : FuncId} {fn : Func} {c : Code} {ac : ACode} {nt : Nat} {rs : List ARes} {args out : List SV} (hf : P.funcs[f]? = some fn) (hb : fn.body = some c) (hok : okCode P nt ac c = true) (hres : okRes P rs fn.results.toList = true)
  (h : awp P 0 ac { fr := args.map .s ++ List.replicate (fn.ntmps - args.length) .any, hp := [] } (finK rs out)) : Fn P f args out := by
 intro M w vs hh hv
 refine calls_of_wp hf hb ((wpIn_wide (n := 0)).1 <| code_sound (A := NoA) (dfs := []) (r := none) (nf := 0) (P := P) (n0 := 0) (ρ0 := []) (M0 := M) (w0 := w) (nt := nt) ac c M [] w _ _ _ _ hok ⟨MInv.start (SRel.start hh), ?_, rfl⟩ h ?_)
 ·have := frame_rel (frel_of_vrelL (ρ := []) hv) fn.ntmps
  simpa using this
 ·intro e τ M' ρ' a' w' he hS
  have key : resK τ.hp τ.fr rs (fun vs => vs = out) -> ∃ v, (results fn a'.tmps).run P w' = .ok v w' /\ ∃ xs M'', Ending.returned v = .returned (retOf xs) /\ M.le M'' /\ Holds M'' w' /\ VRelL M'' out xs /\ Touch [] w w' /\ Newer [] w M M'' := by
   intro hk
   obtain ⟨xs, vs, h1, h2, rfl⟩ := res_sound hS.inv.rel hS.fr hres hk
   refine ⟨retOf xs, results_of h1, xs, M'.up ρ' w', rfl, Mem.le_trans hS.inv.mem (Mem.le_up _ _ _), hS.inv.rel.holds_up, h2, hS.inv.touch, fun b o v hv => ?_, fun b es hv => ?_⟩
   ·rcases Mem.up_cell hv with h | ⟨h, _⟩
    ·exact hS.inv.newer.1 b o v h
    ·rcases hS.inv.has_old h with h | h
     ·exact absurd h (Env.nil_has _)
     ·exact .inr (.inl h)
   ·rcases Mem.up_map hv with h | ⟨h, _⟩
    ·exact hS.inv.newer.2 b es h
    ·rcases hS.inv.has_old h with h | h
     ·exact absurd h (Env.nil_has _)
     ·exact .inr (.inl h)
  cases e with
  | normal => exact ⟨hS.nod, key he⟩
  | exit id => exact he.elim
  | ret => exact ⟨hS.nod, key he⟩
def finR (rs : List ARes) (R : List SV -> Prop) (e : AExit) (τ : AState) : Prop :=
 match e with
 | .exit _ => False
 | _ => resK τ.hp τ.fr rs R
theorem fnR_of_awp {f : FuncId} {fn : Func} {c : Code} {ac : ACode} {nt : Nat} {rs : List ARes} {args : List SV} {R : List SV -> Prop} (hf : P.funcs[f]? = some fn) (hb : fn.body = some c) (hok : okCode P nt ac c = true) (hres : okRes P rs fn.results.toList = true)
  (h : awp P 0 ac { fr := args.map .s ++ List.replicate (fn.ntmps - args.length) .any, hp := [] } (finR rs R)) : FnR P f args R := by
 intro M w vs hh hv
 refine calls_of_wp hf hb ((wpIn_wide (n := 0)).1 <| code_sound (A := NoA) (dfs := []) (r := none) (nf := 0) (P := P) (n0 := 0) (ρ0 := []) (M0 := M) (w0 := w) (nt := nt) ac c M [] w _ _ _ _ hok ⟨MInv.start (SRel.start hh), ?_, rfl⟩ h ?_)
 ·have := frame_rel (frel_of_vrelL (ρ := []) hv) fn.ntmps
  simpa using this
 ·intro e τ M' ρ' a' w' he hS
  have key : resK τ.hp τ.fr rs R -> ∃ v, (results fn a'.tmps).run P w' = .ok v w' /\ ∃ xs M'' out, R out /\ Ending.returned v = .returned (retOf xs) /\ M.le M'' /\ Holds M'' w' /\ VRelL M'' out xs /\ Touch [] w w' /\ Newer [] w M M'' := by
   intro hk
   obtain ⟨xs, vs, h1, h2, h3⟩ := res_sound hS.inv.rel hS.fr hres hk
   refine ⟨retOf xs, results_of h1, xs, M'.up ρ' w', vs, h3, rfl, Mem.le_trans hS.inv.mem (Mem.le_up _ _ _), hS.inv.rel.holds_up, h2, hS.inv.touch, fun b o v hv => ?_, fun b es hv => ?_⟩
   ·rcases Mem.up_cell hv with h | ⟨h, _⟩
    ·exact hS.inv.newer.1 b o v h
    ·rcases hS.inv.has_old h with h | h
     ·exact absurd h (Env.nil_has _)
     ·exact .inr (.inl h)
   ·rcases Mem.up_map hv with h | ⟨h, _⟩
    ·exact hS.inv.newer.2 b es h
    ·rcases hS.inv.has_old h with h | h
     ·exact absurd h (Env.nil_has _)
     ·exact .inr (.inl h)
  cases e with
  | normal => exact ⟨hS.nod, key he⟩
  | exit id => exact he.elim
  | ret => exact ⟨hS.nod, key he⟩
def finC (rs : List ARes) (n : Nat) (r : LV) (H' : List ABlock) (e : AExit) (τ : AState) : Prop :=
 match e with
 | .exit _ => False
 | _ => (match rs with
  | [] => r = .tup []
  | [.tmp t] => r = fgt (fun b => decide (n <= b)) (fget τ.fr t)
  | _ => False) /\ H' = (τ.hp.take n).map (fgtB fun b => decide (n <= b))
theorem csem_of_awp {f : FuncId} {fn : Func} {c : Code} {ac : ACode} {nt : Nat} {rs : List ARes} {args : List LV} {H H' : List ABlock} {r : LV} (hf : P.funcs[f]? = some fn) (hb : fn.body = some c) (hok : okCode P nt ac c = true) (hres : okRes P rs fn.results.toList = true)
  (h : awp P H.length ac { fr := args ++ List.replicate (fn.ntmps - args.length) .any, hp := H } (finC rs H.length r H')) : CSem P f args H r H' := by
 intro M ρ w vs hR hv
 refine calls_of_wp hf hb ((wpIn_wide (n := 0)).1 <| code_sound (A := NoA) (dfs := []) (r := none) (nf := 0) (P := P) (n0 := H.length) (ρ0 := ρ) (M0 := M) (w0 := w) (nt := nt) ac c M ρ w _ _ _ _ hok ⟨MInv.startA hR (fun _ _ h => h.elim) (Nat.le_of_eq hR.len.symm), frame_rel hv fn.ntmps, rfl⟩ h ?_)
 intro e τ M' ρ' a' w' he hS
 have hcut := hS.inv.cut (n := H.length) (by rw [hR.len]; exact Nat.le_refl _)
 have key : finC rs H.length r H' .ret τ -> ∃ v, (results fn a'.tmps).run P w' = .ok v w' /\ ∃ v' M' ρ', Ending.returned v = .returned v' /\ MInv NoA ρ.length M ρ w M' ρ' H' w' /\ LVal M' ρ' r v' := by
  rintro ⟨h1, rfl⟩
  rw [<- hR.len] at hcut ⊢
  split at h1
  ·subst h1
   have : fn.results.toList = [] := by cases hr : fn.results.toList with | nil => rfl | cons => rw [hr] at hres; simp [okRes] at hres
   exact ⟨retOf [], results_of (by rw [this]; simp), _, M', _, rfl, hcut, lval_tup (xs := []) rfl⟩
  ·rename_i t
   subst h1
   have hrs : fn.results.toList = [.tmp t] := by
    cases hr : fn.results.toList with
    | nil => rw [hr] at hres; simp [okRes] at hres
    | cons x xs =>
     rw [hr] at hres
     cases x with
     | cell => simp [okRes] at hres
     | tmp u =>
      simp only [okRes, Bool.and_eq_true, beq_iff_eq] at hres
      cases xs with
      | nil => rw [hres.1]
      | cons => simp [okRes] at hres
   refine ⟨retOf [a'.tmps.getD t undef], results_of (by rw [hrs]; simp [resRun]), _, M', _, rfl, hcut, ?_⟩
   have hv := hS.fr.fget t
   rw [List.getD_eq_getElem?_getD, Array.getElem?_toList, <- Array.getD_eq_getD_getElem?] at hv
   exact LVal.fgt (fun j hj => by rw [List.getElem?_take, if_pos (by simpa [hR.len] using hj)]) hv
  ·exact h1.elim
 cases e with
 | normal => exact ⟨hS.nod, key he⟩
 | exit id => exact he.elim
 | ret => exact ⟨hS.nod, key he⟩
end
end Go.E

/- The value semantics, reckoned: operations. -/
namespace Go.E
open Go
abbrev ERes := Option (LV × List ABlock × Option Nat)
def rv (H : List ABlock) (v : LV) : ERes := some (v, H, none)
def partSX (H : List ABlock) (cs : List SV) (off n : Nat) : Bool -> ERes
 | true => if off + n <= cs.length then rv H (.s (.agg ((cs.drop off).take n))) else none
 | false => cs[off]?.bind fun c => if c.isAgg = false then rv H (.s c) else none
def partLX (H : List ABlock) (cs : List LV) (off n : Nat) : Bool -> ERes
 | true => if off + n <= cs.length then rv H (.agg ((cs.drop off).take n)) else none
 | false => cs[off]?.bind fun c => if c.isAgg = false then rv H c else none
def ldX (H : List ABlock) (n : Nat) (agg : Bool) : LV -> ERes
 | .s (.ptr cs) => partSX H cs 0 n agg
 | .loc b off => match H[b]? with
  | some (.obj cs) => partLX H cs off n agg
  | some (.row cs) => partSX H cs off n agg
  | some (.frz cs) => partSX H cs off n agg
  | _ => none
 | _ => none
def stX (H : List ABlock) (n : Nat) (x : LV) : LV -> ERes
 | .loc b off => match H[b]? with
  | some (.obj cs) => x.cells.bind fun xs => if xs.length = n /\ off + n <= cs.length then some (.tup [], H.set b (.obj (splice cs off xs)), none) else none
  | some (.row cs) => (frz [] x).bind fun v => if v.cells.length = n /\ off + n <= cs.length then some (.tup [], H.set b (.row (splice cs off v.cells)), none) else none
  | _ => none
 | _ => none
def int2 (f : IntKind -> Int -> Int -> ERes) : LV -> LV -> ERes
 | .s (.int K a), .s (.int K' b) => if K = K' then f K a b else none
 | _, _ => none
def inRX (H : List ABlock) (K : IntKind) (n : Int) : ERes := if K.wrap n = n then rv H (.s (.int K n)) else none
def arithX (H : List ABlock) (op : BinOp) : LV -> LV -> ERes :=
 int2 fun K a b => match op with
  | .add => inRX H K (a + b)
  | .sub => inRX H K (a - b)
  | .mul => inRX H K (a * b)
  | _ => none
def divX (H : List ABlock) (op : BinOp) : LV -> LV -> ERes :=
  int2 fun K a b => if b ≠ 0 then match op with
    | .quo => inRX H K (a.tdiv b)
    | .rem => rv H (.s (.int K (a.tmod b)))
    | _ => none
   else none
def bitsX (H : List ABlock) (op : BinOp) : LV -> LV -> ERes := int2 fun K a b => rv H (.s (.int K (bitOf K a b op)))
def shiftX (H : List ABlock) (op : BinOp) : LV -> LV -> ERes
 | .s (.int K a), .s (.int _ b) => if 0 <= b /\ b < K.bits then (match op with
  | .shl => inRX H K (a * 2 ^ b.toNat)
  | .shr => rv H (.s (.int K (a.fdiv (2 ^ b.toNat))))
  | _ => none) else none
 | _, _ => none
def cmpX (H : List ABlock) (op : BinOp) : LV -> LV -> ERes :=
 int2 fun _ a b => match op with
  | .lss => rv H (.s (.bool (decide (a < b))))
  | .leq => rv H (.s (.bool (decide (a <= b))))
  | .gtr => rv H (.s (.bool (decide (b < a))))
  | .geq => rv H (.s (.bool (decide (b <= a))))
  | .eql => rv H (.s (.bool (decide (a = b))))
  | .neq => rv H (.s (.bool (!decide (a = b))))
  | _ => none
def SV.eqb : SV -> SV -> Option Bool
 | .bool a, .bool b => some (a == b)
 | .int k a, .int k' b => if k = k' then some (decide (a = b)) else none
 | .str s, .str t => some (decide (s = t))
 | _, _ => none
def SV.eqbL : List SV -> List SV -> Option Bool
 | [], [] => some true
 | a :: as, b :: bs => match a.eqb b, SV.eqbL as bs with
  | some x, some y => some (x && y)
  | _, _ => none
 | _, _ => none
def eqlX (H : List ABlock) (ag : Bool) (ts : List Tag) (ne : Bool) (x y : LV) : ERes :=
 (frz H x).bind fun a => (frz H y).bind fun b => match ag, a, b with
  | true, .agg cs, .agg ds => if cs.map SV.tag = ts /\ ds.map SV.tag = ts then (SV.eqbL cs ds).bind fun t => rv H (.s (.bool (ne != t))) else none
  | false, a, b => if [a.tag] = ts /\ [b.tag] = ts then (a.eqb b).bind fun t => rv H (.s (.bool (ne != t))) else none
  | _, _, _ => none
def szAtX (sz l : Nat) (xs : List SV) : Bool := l == 0 || xs.all fun e => e.cells.length == sz
def sliceMX (H : List ABlock) (h : Nat) (a b : LV) : Option LV -> ERes
 | none => rv H a
 | some m => if boundOf 0 (some m) = some h then rv H b else none
def sliceX (H : List ABlock) (sz : Nat) (lo hi mx : Option LV) : LV -> ERes
 | .s (.slice xs) => (boundOf 0 lo).bind fun l => (boundOf xs.length hi).bind fun h => if l <= h /\ h <= xs.length /\ szAtX sz l xs = true then
   sliceMX H h (.s (.slice ((xs.drop l).take (h - l)))) (.full ((xs.drop l).take (h - l))) mx else none
 | .full xs => (boundOf 0 lo).bind fun l => (boundOf xs.length hi).bind fun h => if l <= h /\ h <= xs.length /\ szAtX sz l xs = true then
   sliceMX H h (if h = xs.length then .full (xs.drop l) else .s (.slice ((xs.drop l).take (h - l)))) (.full ((xs.drop l).take (h - l))) mx else none
 | .sl b off len sz' clip => if sz = sz' then (boundOf 0 lo).bind fun l => (boundOf len hi).bind fun h => if l <= h /\ h <= len then
   sliceMX H h (.sl b (off + l * sz) (h - l) sz (clip && decide (h = len))) (.sl b (off + l * sz) (h - l) sz true) mx else none else none
 | _ => none
end Go.E

/- The value semantics, reckoned: more operations. -/
namespace Go.E
open Go
def arrFitsX (n : Nat) : Option ABlock -> Bool
 | some (.obj cs) => decide (n <= cs.length)
 | some (.row cs) => decide (n <= cs.length)
 | _ => false
def sliceArrX (H : List ABlock) (n sz : Nat) (lo hi : Option LV) (x : LV) : ERes :=
 (boundOf 0 lo).bind fun l => (boundOf n hi).bind fun h => if l <= h /\ h <= n /\ 0 < n /\ 0 < sz /\ n <= maxLen then
  match x with
  | .s (.ptr cs) => if n * sz <= cs.length then rv H (if h = n then .full (elems sz (h - l) (cs.drop (l * sz))) else .s (.slice (elems sz (h - l) (cs.drop (l * sz))))) else none
  | .loc b off => if arrFitsX (off + n * sz) H[b]? = true then rv H (.sl b (off + l * sz) (h - l) sz (decide (h = n))) else none
  | _ => none
 else none
def natOf : LV -> Option Nat
 | .s (.int _ n) => if 0 <= n then some n.toNat else none
 | _ => none
def idxAX (H : List ABlock) (sz : Nat) (x i : LV) : ERes :=
 (natOf i).bind fun n => match x with
 | .s (.slice xs) => xs[n]?.bind fun e => if e.cells.length = sz then rv H (.s (.ptr e.cells)) else none
 | .full xs => xs[n]?.bind fun e => if e.cells.length = sz then rv H (.s (.ptr e.cells)) else none
 | .sl b off len sz' _ => if sz = sz' /\ n < len then rv H (.loc b (off + n * sz)) else none
 | _ => none
def idxArrAX (H : List ABlock) (m sz : Nat) (x i : LV) : ERes :=
 (natOf i).bind fun n => if n < m then match x with
 | .s (.ptr cs) => if n * sz <= cs.length then rv H (.s (.ptr (cs.drop (n * sz)))) else none
 | .loc b off => rv H (.loc b (off + n * sz))
 | _ => none
 else none
def fieldAddrX (H : List ABlock) (off : Nat) : LV -> ERes
 | .s (.ptr cs) => if off <= cs.length then rv H (.s (.ptr (cs.drop off))) else none
 | .loc b o => rv H (.loc b (o + off))
 | _ => none
def partX (H : List ABlock) (off n : Nat) (agg : Bool) : LV -> ERes
 | .s (.agg cs) => partSX H cs off n agg
 | .agg cs => partLX H cs off n agg
 | _ => none
def idxX (H : List ABlock) (m sz : Nat) (agg : Bool) (x i : LV) : ERes :=
 (natOf i).bind fun n => if n < m then partX H (n * sz) sz agg x else none
def extX (H : List ABlock) (j : Nat) : LV -> ERes
 | .tup vs => vs[j]?.bind fun v => rv H (.s v)
 | _ => none
def lenX (H : List ABlock) : Bool -> LV -> ERes
 | false, .s (.slice xs) => rv H (.s (.int .i64 xs.length))
 | false, .full xs => rv H (.s (.int .i64 xs.length))
 | false, .sl _ _ len _ _ => rv H (.s (.int .i64 len))
 | true, .s (.str s) => rv H (.s (.int .i64 s.size))
 | _, _ => none
def fitsX (sz bytes : Nat) (xs ys : List SV) : Bool :=
 (xs.all fun y => y.cells.length == sz) && (ys.all fun y => y.cells.length == sz) && decide ((xs.length + ys.length) * bytes <= 2 ^ 46) && decide (xs.length + ys.length < 2 ^ 60) && decide (0 < sz)
def newRowX (H : List ABlock) (id sz : Nat) (s : LV) (xs ys : List SV) : ERes :=
 if ys.isEmpty = true then rv H s else match H[id]? with
  | some .gone => some (.sl id 0 (xs.length + ys.length) sz false, H.set id (.row (flatE (xs ++ ys))), none)
  | _ => none
def appendNX (H : List ABlock) (id sz bytes : Nat) (x : LV) : LV -> ERes
 | .full xs => (elemsOf H x).bind fun ys => if fitsX sz bytes xs ys = true then newRowX H id sz (.full xs) xs ys else none
 | .sl b off len sz' true => if sz = sz' then (elemsOf H x).bind fun ys => (elemsOf H (.sl b off len sz' true)).bind fun xs => if fitsX sz bytes xs ys = true then
   newRowX H id sz (.sl b off len sz' true) xs ys else none else none
 | _ => none
def appendX0 (H : List ABlock) (n0 id sz bytes : Nat) (x : LV) : LV -> ERes
 | .sl b off len sz' false => if sz = sz' /\ n0 <= b then (elemsOf H x).bind fun ys => if (ys.all fun y => y.cells.length == sz) = true then match H[b]? with
  | some (.row cs) => if off + len * sz = cs.length /\ (len + ys.length) * bytes <= 2 ^ 46 /\ len + ys.length < 2 ^ 60 then
    some (.sl b 0 (len + ys.length) sz false, H.set b (.row (cs.drop off ++ flatE ys)), some b) else none
  | _ => none
  else none else none
 | .sl b off len sz' true => appendNX H id sz bytes x (.sl b off len sz' true)
 | .full xs => appendNX H id sz bytes x (.full xs)
 | _ => none
def unclipX (n0 : Nat) (v : LV) : LV :=
 match v with
 | .sl b off len sz true => if Nat.ble n0 b = true then .sl b off len sz false else .sl b off len sz true
 | v => v
def appendX (H : List ABlock) (n0 id sz bytes : Nat) (x v : LV) : ERes := appendX0 H n0 id sz bytes x (unclipX n0 v)
def copyX (H : List ABlock) (sz : Nat) (s : LV) : LV -> ERes
 | .sl b off len sz' _ => if sz = sz' then (elemsOf H s).bind fun ys => if (ys.all fun y => y.cells.length == sz) = true then match H[b]? with
  | some (.row cs) => if off + len * sz <= cs.length then some (.s (.int .i64 (Nat.min ys.length len : Nat)), H.set b (.row (splice cs off (flatE (ys.take len)))), none) else none
  | some (.obj cs) => if off + len * sz <= cs.length then some (.s (.int .i64 (Nat.min ys.length len : Nat)), H.set b (.obj (splice cs off ((flatE (ys.take len)).map .s))), none) else none
  | _ => none
  else none else none
 | .full [] => (elemsOf H s).bind fun _ => rv H (.s (.int .i64 0))
 | _ => none
def clearX (H : List ABlock) (sz : Nat) (zero : List SV) : LV -> ERes
 | .sl b off len sz' _ => if sz = sz' /\ zero.length = sz then match H[b]? with
  | some (.row cs) => if off + len * sz <= cs.length then some (.tup [], H.set b (.row (splice cs off (List.replicate len zero).flatten)), none) else none
  | some (.obj cs) => if off + len * sz <= cs.length then some (.tup [], H.set b (.obj (splice cs off ((List.replicate len zero).flatten.map .s))), none) else none
  | _ => none
  else none
 | .full [] => rv H (.tup [])
 | _ => none
def mksliceX (H : List ABlock) (id sz bytes : Nat) (zero : List SV) : LV -> LV -> ERes
 | .s (.int .i64 n), .s (.int .i64 m) => if 0 <= n /\ n <= m /\ m * bytes <= 2 ^ 46 /\ m < 2 ^ 60 /\ zero.length = sz /\ 0 < sz then match H[id]? with
  | some .gone => some (.sl id 0 n.toNat sz (decide (n = m)), H.set id (.row (List.replicate n.toNat zero).flatten), none)
  | _ => none
  else none
 | _, _ => none
def eqNilX (H : List ABlock) (ne : Bool) (v : LV) : ERes :=
 (elemsOf H v).bind fun xs => if xs.isEmpty = false then rv H (.s (.bool ne)) else none
end Go.E

/- The value semantics, reckoned: calls, regions, code, functions. -/
namespace Go.E
open Go
structure Tab where
  fn : FuncId -> List SV -> Option (List SV)
  nw : FuncId -> Nat -> List LV -> Option (List SV)
  im : FuncId -> List LV -> List ABlock -> Option (LV × List ABlock)
  ok : FuncId -> Bool
structure Tab.Ok (P : Program) (C : Tab) : Prop where
  fn : ∀ f as rs, C.fn f as = some rs -> Fn P f as rs
  nw : ∀ f sz as xs, C.nw f sz as = some xs -> FnNew P f sz as xs
  im : ∀ f args H r H', C.im f args H = some (r, H') -> CSem P f args H r H'
  ok : ∀ f, C.ok f = true -> okFn P f = true
def callX (C : Tab) (H : List ABlock) (f : FuncId) (args : List LV) : ERes :=
 match frzAll (frz []) args with
 | some as => (C.fn f as).bind fun rs => rv H (LV.ofResults rs)
 | none => (frzAll (frz H) args).bind fun as => (C.fn f as).bind fun rs => if rs.all SV.flat = true then rv H (LV.ofResults rs) else none
section
variable {P : Program} {C : Tab}
def callvX (C : Tab) (H : List ABlock) (args : List LV) : LV -> ERes
 | .s (.fn g first caps) => if C.ok g = true /\ ((first.map LV.s).all LV.isOne && (caps.map LV.s).all LV.isOne) = true then callX C H g (first.map .s ++ args ++ caps.map .s) else none
 | .fn g first caps => if C.ok g = true /\ (first.all LV.isOne && caps.all LV.isOne) = true then callX C H g (first ++ args ++ caps) else none
 | _ => none
def callNX (C : Tab) (H : List ABlock) (id sz : Nat) (f : FuncId) (args : List LV) : ERes :=
 (if args.all LV.isSF = true then some args else (frzAll (frz []) args).map (·.map .s)).bind fun as => (C.nw f sz as).bind fun xs => if 0 < sz /\ (xs.all fun x => x.cells.length == sz) = true then match H[id]? with
  | some .gone => if xs.isEmpty = true then rv H (.full []) else some (.sl id 0 xs.length sz false, H.set id (.row (flatE xs)), none)
  | _ => none
  else none
def ldOX (H : List ABlock) (n : Nat) (agg : Bool) : LV -> ERes
 | .s (.ptr cs) => partSX H cs 0 n agg
 | .loc b off => match H[b]? with
  | some (.obj cs) => partLX H cs off n agg
  | _ => none
 | _ => none
def stRX (H : List ABlock) (n : Nat) (x : LV) : LV -> ERes
 | .loc b off => match H[b]? with
  | some (.row cs) => (frz [] x).bind fun v => if v.cells.length = n /\ off + n <= cs.length then some (.tup [], H.set b (.row (splice cs off v.cells)), none) else none
  | _ => none
 | _ => none
def frzvX (H : List ABlock) : LV -> ERes
 | .sl b off len sz _ => match H[b]? with
  | some (.row cs) => (rowOf off len sz cs).bind fun ys => some (.s (.slice ys), H.set b (.frz cs), none)
  | _ => none
 | .full xs => rv H (.s (.slice xs))
 | .s v => rv H (.s v)
 | _ => none
def callFX (C : Tab) (H : List ABlock) (f : FuncId) (args : List LV) : LV -> ERes
 | .sl b off len sz clip => match H[b]? with
  | some (.row cs) => (frzAll (frz (H.set b .gone)) args).bind fun as => match C.im f (.sl 0 off len sz clip :: as.map .s) [.row cs] with
   | some (.sl 0 o' l' sz' _, [.row cs']) => if sz' = sz /\ cs'.all SV.flat1 = true then (rowOf o' l' sz cs').bind fun ys => some (.s (.slice ys), H.set b (.frz cs'), none) else none
   | _ => none
  | _ => none
 | .full xs => callX C H f (.full xs :: args)
 | .s v => callX C H f (.s v :: args)
 | _ => none
def mFindX (cs : List SV) : List SV -> Option (Option Nat)
 | [] => some none
 | .agg ds :: ks => match SV.eqbL cs ds with
  | some true => some (some 0)
  | some false => (mFindX cs ks).map (·.map (· + 1))
  | none => none
 | _ :: _ => none
def keyX (ts : List Tag) (ks : List SV) (kv : SV) : Option (List SV) :=
 match kv with
 | .agg cs => if cs.map SV.tag = ts /\ (ks.all fun k => match k with | .agg ds => decide (ds.map SV.tag = ts) | _ => false) = true then some cs else none
 | _ => none
def nodupX : List SV -> Bool
 | [] => true
 | .agg cs :: ks => (match mFindX cs ks with | some none => true | _ => false) && nodupX ks
 | _ => false
def mgetX (H : List ABlock) (c : Bool) (ts : List Tag) (zero : SV) (x : LV) : LV -> ERes
 | .mp b => match H[b]? with
  | some (.map ks vs) => (frz [] x).bind fun kv => (keyX ts ks kv).bind fun cs => (mFindX cs ks).bind fun r => match r with
   | some i => vs[i]?.bind fun v => rv H (if c then .tup [v, .bool true] else .s v)
   | none => rv H (if c then .tup [zero, .bool false] else .s zero)
  | _ => none
 | .s (.map ks vs) => (frz [] x).bind fun kv => (keyX ts ks kv).bind fun cs => if nodupX ks = true then (mFindX cs ks).bind fun r => match r with
   | some i => vs[i]?.bind fun v => rv H (if c then .tup [v, .bool true] else .s v)
   | none => rv H (if c then .tup [zero, .bool false] else .s zero)
  else none
 | _ => none
def msetX (H : List ABlock) (ts : List Tag) (x y : LV) : LV -> ERes
 | .mp b => match H[b]? with
  | some (.map ks vs) => (frz [] x).bind fun kv => (frz [] y).bind fun v => (keyX ts ks kv).bind fun cs => (mFindX cs ks).bind fun r => some (.tup [], H.set b (mPut kv v ks vs r), none)
  | _ => none
 | _ => none
def mdelX (H : List ABlock) (ts : List Tag) (x : LV) : LV -> ERes
 | .mp b => match H[b]? with
  | some (.map ks vs) => (frz [] x).bind fun kv => (keyX ts ks kv).bind fun cs => (mFindX cs ks).bind fun r => some (.tup [], H.set b (mCut ks vs r), none)
  | _ => none
 | _ => none
def exOp (P : Program) (C : Tab) (n0 id : Nat) (fr : List LV) (H : List ABlock) : AOp -> ERes
 | .mov x => rv H (x.ev fr)
 | .pick c a b => match c.ev fr with
  | .s (.bool t) => rv H (if t then a.ev fr else b.ev fr)
  | _ => none
 | .alloc cells => match H[id]? with
  | some .gone => some (.loc id 0, H.set id (.obj cells), none)
  | _ => none
 | .boxM x => (x.ev fr).cells.bind fun cs => match H[id]? with
  | some .gone => some (.loc id 0, H.set id (.obj cs), none)
  | _ => none
 | .boxS x => (frz [] (x.ev fr)).bind fun v => rv H (.s (.ptr v.cells))
 | .build zero parts => (fills zero (parts.map fun p => (p.1, p.2.1, p.2.2.ev fr))).bind fun cs => rv H (.agg cs)
 | .buildSl sz n zero parts => (frzAll (frz []) (parts.map fun p => p.2.ev fr)).bind fun xs =>
   if n <= 2 ^ 20 /\ n * sz <= 2 ^ 24 /\ parts.map (·.1) = List.range n /\ (xs.all fun e => e.cells.length == sz) = true /\ zero.cells.length = sz then rv H (.full xs) else none
 | .load n agg a => ldX H n agg (a.ev fr)
 | .store n a x => stX H n (x.ev fr) (a.ev fr)
 | .nilck x => match x.ev fr with
  | .s (.ptr cs) => rv H (.s (.ptr cs))
  | .loc b off => rv H (.loc b off)
  | _ => none
 | .arith op x y => arithX H op (x.ev fr) (y.ev fr)
 | .cmp op x y => cmpX H op (x.ev fr) (y.ev fr)
 | .bits op x y => bitsX H op (x.ev fr) (y.ev fr)
 | .div op x y => divX H op (x.ev fr) (y.ev fr)
 | .shift op x y => shiftX H op (x.ev fr) (y.ev fr)
 | .eql ag ts ne x y => eqlX H ag ts ne (x.ev fr) (y.ev fr)
 | .not x => match x.ev fr with
  | .s (.bool b) => rv H (.s (.bool (!b)))
  | _ => none
 | .neg x => match x.ev fr with
  | .s (.int K n) => if K.wrap (0 - n) = 0 - n then rv H (.s (.int K (-n))) else none
  | _ => none
 | .conv K x => match x.ev fr with
  | .s (.int _ n) => inRX H K n
  | _ => none
 | .mkfn f first caps => if ((first.map (·.ev fr)).all LV.isOne && (caps.map (·.ev fr)).all LV.isOne) = true then rv H (.fn f (first.map (·.ev fr)) (caps.map (·.ev fr))) else none
 | .slice sz x lo hi mx => sliceX H sz (optEv fr lo) (optEv fr hi) (optEv fr mx) (x.ev fr)
 | .sliceArr n sz x lo hi => sliceArrX H n sz (optEv fr lo) (optEv fr hi) (x.ev fr)
 | .fieldAddr off x => fieldAddrX H off (x.ev fr)
 | .field off n agg x => partX H off n agg (x.ev fr)
 | .idxA sz x i => idxAX H sz (x.ev fr) (i.ev fr)
 | .idxArrA n sz x i => idxArrAX H n sz (x.ev fr) (i.ev fr)
 | .idx n sz agg x i => idxX H n sz agg (x.ev fr) (i.ev fr)
 | .ext x j => extX H j (x.ev fr)
 | .call f args => callX C H f (args.map (·.ev fr))
 | .callv f args => callvX C H (args.map (·.ev fr)) (f.ev fr)
 | .callN sz f args => callNX C H id sz f (args.map (·.ev fr))
 | .callI f args => (C.im f (args.map (·.ev fr)) H).bind fun p => some (p.1, p.2, none)
 | .len st x => lenX H st (x.ev fr)
 | .lenArr n => rv H (.s (.int .i64 n))
 | .append sz bytes s x => appendX H n0 id sz bytes (x.ev fr) (s.ev fr)
 | .appendN sz bytes s x => appendNX H id sz bytes (x.ev fr) (s.ev fr)
 | .eqNil ne x => eqNilX H ne (x.ev fr)
 | .copy sz d s => copyX H sz (s.ev fr) (d.ev fr)
 | .clear sz zero d => clearX H sz zero (d.ev fr)
 | .max args => (intsOf (kindOf (args.map (·.ev fr))) (args.map (·.ev fr))).bind fun ns => if ns.isEmpty = false then rv H (.s (.int (kindOf (args.map (·.ev fr))) (maxL ns))) else none
 | .min args => (intsOf (kindOf (args.map (·.ev fr))) (args.map (·.ev fr))).bind fun ns => if ns.isEmpty = false then rv H (.s (.int (kindOf (args.map (·.ev fr))) (minL ns))) else none
 | .mkslice sz bytes zero l c => mksliceX H id sz bytes zero (l.ev fr) (c.ev fr)
 | .loadO n agg a => ldOX H n agg (a.ev fr)
 | .storeR n a x => stRX H n (x.ev fr) (a.ev fr)
 | .callF f s args => callFX C H f (args.map (·.ev fr)) (s.ev fr)
 | .frzv x => frzvX H (x.ev fr)
 | .appendZ _ _ _ _ => none
 | .loadX .. => none
 | .rangeM _ | .nextM _ | .entryM _ | .callR _ _ | .dead => none
 | .loadS n agg a => match a.ev fr with
  | .s (.ptr cs) => partSX H cs 0 n agg
  | _ => none
 | .buildR sz n zero parts => (frzAll (frz []) (parts.map fun p => p.2.ev fr)).bind fun xs =>
  if n <= 2 ^ 20 /\ n * sz <= 2 ^ 24 /\ 0 < sz /\ parts.map (·.1) = List.range n /\ (xs.all fun e => e.cells.length == sz) = true /\ zero.cells.length = sz then match H[id]? with
   | some .gone => some (.sl id 0 n sz false, H.set id (.row (flatE xs)), none)
   | _ => none
  else none
 | .mkmap => match H[id]? with
  | some .gone => some (.mp id, H.set id (.map [] []), none)
  | _ => none
 | .mget c ts zero m x => mgetX H c ts zero (x.ev fr) (m.ev fr)
 | .mset ts m x v => msetX H ts (x.ev fr) (v.ev fr) (m.ev fr)
 | .mdel ts m x => mdelX H ts (x.ev fr) (m.ev fr)
 | .sidx x i => match x.ev fr, i.ev fr with
  | .s (.str s), .s (.int _ n) => if 0 <= n then s.data[n.toNat]?.bind fun b => rv H (.s (.int .u8 b.toNat)) else none
  | _, _ => none
 | .mlen m => match m.ev fr with
  | .mp b => match H[b]? with
   | some (.map ks _) => rv H (.s (.int .i64 ks.length))
   | _ => none
  | .s (.map ks _) => rv H (.s (.int .i64 ks.length))
  | _ => none
def fgtX (p : Nat -> Bool) (v : LV) : LV :=
 match v with
 | .s v => .s v
 | .any => .any
 | .full xs => .full xs
 | .loc b off => if p b then .any else .loc b off
 | .sl b off len sz clip => if p b then .any else .sl b off len sz clip
 | v => fgt p v
def fgtBX (p : Nat -> Bool) (B : ABlock) : ABlock :=
 match B with
 | .obj cs => .obj (cs.map (fgtX p))
 | B => B
def putX (fr : List LV) (H : List ABlock) (dst : Option Nat) (v : LV) (kl : Option Nat) : AState :=
 match kl with
 | none => ⟨fpt fr dst v, H⟩
 | some b => ⟨fpt (fr.map (fgtX fun c => Nat.beq c b)) dst v, H.map (fgtBX fun c => Nat.beq c b)⟩
/-! What is reckoned is written out at once: so that it is reckoned once. -/
def fS {α : Type} (v : SV) (k : SV -> α) : α :=
 match v with
 | .bool true => k (.bool true)
 | .bool false => k (.bool false)
 | .int K (.ofNat n) => k (.int K (.ofNat n))
 | .int K (.negSucc n) => k (.int K (.negSucc n))
 | v => k v
def fSs {α : Type} : List SV -> (List SV -> α) -> α
 | [], k => k []
 | v :: vs, k => fS v fun v => fSs vs fun vs => k (v :: vs)
def fL {α : Type} (v : LV) (k : LV -> α) : α :=
 match v with
 | .s v => fS v fun v => k (.s v)
 | .any => k .any
 | .sl b o l z true => k (.sl b o l z true)
 | .sl b o l z false => k (.sl b o l z false)
 | v => k v
def exOps (P : Program) (C : Tab) (n0 : Nat) : List AOper -> Nat -> AState -> Option AState
 | [], _, σ => some σ
 | ⟨dst, none, op⟩ :: os, id, σ => match exOp P C n0 id σ.fr σ.hp op with
  | some (v, H, kl) => fL v fun v => exOps P C n0 os (if op.takes then id + 1 else id) (putX σ.fr H dst v kl)
  | none => none
 | ⟨dst, some (g, want), op⟩ :: os, id, σ => match fget σ.fr g with
  | .s (.bool b) => if b = want then match exOp P C n0 id (fset σ.fr g (.s (.bool b))) σ.hp op with
    | some (v, H, kl) => fL v fun v => exOps P C n0 os (if op.takes then id + 1 else id) (putX (fset σ.fr g (.s (.bool b))) H dst v kl)
    | none => none
   else exOps P C n0 os (if op.takes then id + 1 else id) (putX (fset σ.fr g (.s (.bool b))) σ.hp dst (.tup []) none)
  | .tup [] => exOps P C n0 os (if op.takes then id + 1 else id) (putX σ.fr σ.hp dst (.tup []) none)
  | _ => none
def fLs {α : Type} : List LV -> (List LV -> α) -> α
 | [], k => k []
 | v :: vs, k => fL v fun v => fLs vs fun vs => k (v :: vs)
def fB {α : Type} (B : ABlock) (k : ABlock -> α) : α :=
 match B with
 | .obj cs => fLs cs fun cs => k (.obj cs)
 | .row cs => fSs cs fun cs => k (.row cs)
 | B => k B
def fBs {α : Type} : List ABlock -> (List ABlock -> α) -> α
 | [], k => k []
 | B :: Bs, k => fB B fun B => fBs Bs fun Bs => k (B :: Bs)
def fSt {α : Type} (σ : AState) (k : AState -> α) : α := fLs σ.fr fun fr => fBs σ.hp fun hp => k ⟨fr, hp⟩
def normX (mask : List Bool) (n : Nat) (σ : AState) : AState :=
  { fr := (fmask mask σ.fr).map (fgtX fun b => Nat.ble n b), hp := (σ.hp.take n).map (fgtBX fun b => Nat.ble n b) }
def iter (step : AState -> Option (AExit × AState)) (nrm : AState -> AState) : Nat -> AState -> Option (AExit × AState)
 | 0, _ => none
 | n + 1, τ => match step τ with
  | some (.normal, τ') => fSt (nrm τ') fun τ'' => iter step nrm n τ''
  | some (e, τ') => some (e, τ')
  | none => none
def zapX (H : List ABlock) (off : Nat) : LV -> Option (List ABlock)
 | .loc b o => match H[b]? with
  | some (.obj cs) => match cs[o + off]? with
   | some c => match frzvX H c with
    | some (v, H', none) => some (H'.set b (.obj (cs.set (o + off) v)))
    | _ => none
   | none => none
  | _ => none
 | _ => none
def exC (P : Program) (C : Tab) (n0 L : Nat) : ACode -> AState -> Option (AExit × AState)
 | .skip, σ => some (.normal, σ)
 | .reg n ops, σ => match exOps P C n0 ops σ.hp.length { fr := σ.fr, hp := σ.hp ++ List.replicate n .gone } with
  | some τ => some (.normal, τ)
  | none => none
 | .seq a b, σ => match exC P C n0 L a σ with
  | some (.normal, τ) => exC P C n0 L b τ
  | some (e, τ) => some (e, τ)
  | none => none
 | .cond x a b, σ => match x.ev σ.fr with
  | .s (.bool true) => exC P C n0 L a σ
  | .s (.bool false) => exC P C n0 L b σ
  | _ => none
 | .block id a, σ => match exC P C n0 L a σ with
  | some (.exit i, τ) => if i = id then some (.normal, τ) else some (.exit i, τ)
  | some (e, τ) => some (e, τ)
  | none => none
 | .loop mask promo a, σ => iter (exC P C n0 L a) (normX mask (promote promo σ).hp.length) L (normX mask (promote promo σ).hp.length (promote promo σ))
 | .exit id, σ => some (.exit id, σ)
 | .ret, σ => some (.ret, σ)
 | .scope a, σ => exC P C n0 L a σ
 | .label _, σ => some (.normal, σ)
 | .ren .., _ => none
 | .zap t off a, σ => match zapX σ.hp off (fget σ.fr t) with
  | some H' => exC P C n0 L a { fr := σ.fr, hp := H' }
  | none => none
end
end Go.E

/- Functions, reckoned. -/
namespace Go.E
open Go
structure FRow where
  code : ACode
  res : List ARes
  nt : Nat
def FRow.Ok (P : Program) (f : FuncId) (r : FRow) : Prop :=
 ∃ fn c, P.funcs[f]? = some fn /\ fn.body = some c /\ okCode P 0 r.code c = true /\ okRes P r.res fn.results.toList = true /\ fn.ntmps = r.nt
def FRow.start (r : FRow) (args : List LV) (H : List ABlock) : AState := { fr := args ++ List.replicate (r.nt - args.length) .any, hp := H }
theorem fn_of_row {P : Program} {f : FuncId} {r : FRow} (hr : r.Ok P f) {args out : List SV} (h : awp P 0 r.code (r.start (args.map .s) []) (finK r.res out)) : Fn P f args out := by
 obtain ⟨fn, c, h1, h2, h3, h4, h5⟩ := hr
 refine fn_of_awp h1 h2 h3 h4 ?_
 rw [h5]
 simpa [FRow.start] using h
theorem fnR_of_row {P : Program} {f : FuncId} {r : FRow} (hr : r.Ok P f) {args : List SV} {R : List SV -> Prop} (h : awp P 0 r.code (r.start (args.map .s) []) (finR r.res R)) : FnR P f args R := by
 obtain ⟨fn, c, h1, h2, h3, h4, h5⟩ := hr
 refine fnR_of_awp h1 h2 h3 h4 ?_
 rw [h5]
 simpa [FRow.start] using h
theorem csem_of_row {P : Program} {f : FuncId} {r : FRow} (hr : r.Ok P f) {args : List LV} {H H' : List ABlock} {v : LV} (h : awp P H.length r.code (r.start args H) (finC r.res H.length v H')) : CSem P f args H v H' := by
 obtain ⟨fn, c, h1, h2, h3, h4, h5⟩ := hr
 refine csem_of_awp h1 h2 h3 h4 ?_
 rw [h5]
 exact h
def newOf (H : List ABlock) (sz : Nat) (xs : List SV) : LV -> Prop
 | .full [] => xs = []
 | .sl b off len sz' clip => (len = 0 /\ clip = true /\ xs = []) \/ sz = sz' /\ ∃ cs, H[b]? = some (.row cs) /\ xs.length = len /\ xs ≠ [] /\ (flatE xs).length = len * sz /\ off + len * sz <= cs.length /\ flatE xs = (cs.drop off).take (len * sz)
 | _ => False
def finN (rs : List ARes) (sz : Nat) (xs : List SV) (e : AExit) (τ : AState) : Prop :=
 match e with
 | .exit _ => False
 | _ => match rs with
  | [.tmp t] => newOf τ.hp sz xs (fget τ.fr t)
  | _ => False
theorem new_key {P : Program} {fn : Func} {rs : List ARes} {sz : Nat} {xs : List SV} {M M' : Mem} {ρ' : Env} {w w' : World} {τ : AState} {a' : Act} (h4 : okRes P rs fn.results.toList = true) (hI : MInv NoA 0 M [] w M' ρ' τ.hp w') (hf : FRel M' ρ' τ.fr a'.tmps.toList)
  (hk : finN rs sz xs .ret τ) : ∃ v, (results fn a'.tmps).run P w' = .ok v w' /\ ∃ a cap M'', Ending.returned v = .returned (.slice a xs.length cap) /\ M.le M'' /\ Holds M'' w' /\ Touch [] w w' /\ Newer [] w M M'' /\ xs.length <= cap /\ cap <= maxLen /\ (xs = [] -> cap = 0) /\
   (cap = 0 \/ ∃ cb sh c T, a = some ⟨cb, sh, none⟩ /\ w.heap.size <= cb /\ w'.heap[cb]? = some (.cells c T (0, 0)) /\ sh + cap * sz <= c.size /\ (∀ o, M''.cell cb o = none) /\
    CRelC M'' (flatE xs) (ones ((c.toList.drop sh).take (flatE xs).length))) := by
 cases hrs : rs with
 | nil => simp only [finN, hrs] at hk
 | cons x rest =>
  cases x with
  | cell => simp only [finN, hrs] at hk
  | tmp t =>
   cases rest with
   | cons => simp only [finN, hrs] at hk
   | nil =>
    rw [hrs] at h4
    have hres : fn.results.toList = [.tmp t] := by
     cases hr : fn.results.toList with
     | nil => rw [hr] at h4; simp [okRes] at h4
     | cons y ys =>
      rw [hr] at h4
      cases y with
      | cell => simp [okRes] at h4
      | tmp u =>
       simp only [okRes, Bool.and_eq_true, beq_iff_eq] at h4
       cases ys with
       | nil => rw [h4.1]
       | cons => simp [okRes] at h4
    have hv := hf.fget t
    rw [List.getD_eq_getElem?_getD, Array.getElem?_toList, <- Array.getD_eq_getD_getElem?] at hv
    simp only [finN, hrs] at hk
    unfold newOf at hk
    split at hk
    ·rename_i hg
     subst hk
     rw [hg] at hv
     have h6 := hv.one rfl (by simp)
     simp only [LRel, CRel] at h6
     obtain ⟨ad, n, e1, ad', l', c', e2, hl, _⟩ := h6
     rw [e1] at e2
     simp only [List.cons.injEq, Value.slice.injEq, and_true, List.length_nil] at e2 hl e1
     have hn : n = 0 := by omega
     subst hn
     refine ⟨_, results_of (xs := [a'.tmps.getD t undef]) (by rw [hres]; simp [resRun]), ad, 0, M', by simp [retOf, e1], hI.mem, hI.rel.holds, hI.touch, hI.newer, Nat.le_refl _, by simp [maxLen], fun _ => rfl, .inl rfl⟩
    ·rename_i b off len sz' clip hg
     rw [hg] at hv
     rcases hk with ⟨rfl, rfl, rfl⟩ | ⟨rfl, cs, hB, hlen, hne, hfl, hfit, hfe⟩
     ·have h6 := hv.one rfl (by simp)
      simp only [LRel] at h6
      obtain ⟨sp, ad, cap, h7, h8, e1, h9, h10, h11, h12, h13⟩ := h6
      simp only [List.cons.injEq, and_true] at e1
      have hc := h12 trivial
      subst hc
      exact ⟨_, results_of (xs := [a'.tmps.getD t undef]) (by rw [hres]; simp [resRun]), ad, 0, M', by simp [retOf, e1], hI.mem, hI.rel.holds, hI.touch, hI.newer, Nat.le_refl _, by simp [maxLen], fun _ => rfl, .inl rfl⟩
     have h6 := hv.one rfl (by simp)
     simp only [LRel] at h6
     obtain ⟨sp, ad, cap, h7, h8, e1, h9, h10, h11, h12, h13⟩ := h6
     simp only [List.cons.injEq, and_true] at e1
     have hxl : xs.length ≠ 0 := fun e => hne (List.length_eq_zero_iff.1 e)
     rcases h13 with h13 | ⟨cb, sh, n, rfl, rfl, h14⟩
     ·omega
     obtain ⟨sp', h15, h16⟩ := hI.rel.spot hB
     rw [h7] at h15; cases h15
     simp only [BRel] at h16
     obtain ⟨ce, T, h17, h18, h19, h20, h21⟩ := h16
     refine ⟨_, results_of (xs := [a'.tmps.getD t undef]) (by rw [hres]; simp [resRun]), _, cap, M', by simp only [retOf, e1, hlen], hI.mem, hI.rel.holds, hI.touch, hI.newer, by omega, h10, fun e => absurd e hne, .inr ⟨cb, sh + off, ce, T, rfl, (hI.fresh b cb sh n (Nat.zero_le _) h7).resolve_left (Env.nil_has _), h17, by omega, h21, ?_⟩⟩
     rw [hfl, hfe]
     have := (h20.drop off).take (len * sz)
     rw [<- ones_drop, <- ones_take] at this
     rw [List.drop_take, List.drop_drop, List.take_take, Nat.min_eq_left (by omega)] at this
     exact this
    ·exact hk.elim
theorem new_of_row {P : Program} {f : FuncId} {r : FRow} (hr : r.Ok P f) {sz : Nat} {args : List LV} {xs : List SV} (h : awp P 0 r.code (r.start args []) (finN r.res sz xs)) : FnNew P f sz args xs := by
 obtain ⟨fn, c, h1, h2, h3, h4, h5⟩ := hr
 intro M w vs hh hv
 refine calls_of_wp h1 h2 ((wpIn_wide (n := 0)).1 <| code_sound (A := NoA) (dfs := []) (r := none) (nf := 0) (P := P) (n0 := 0) (ρ0 := []) (M0 := M) (w0 := w) (nt := 0) r.code c M [] w _ _ _ _ h3 ⟨MInv.start (SRel.start hh), ?_, rfl⟩ h ?_)
 ·have := frame_rel hv fn.ntmps
  rw [h5] at this ⊢
  simpa [FRow.start] using this
 ·intro e τ M' ρ' a' w' he hS
  have key : finN r.res sz xs .ret τ -> _ := fun hk => new_key (w := w) h4 hS.inv hS.fr hk
  cases e with
  | normal => exact ⟨hS.nod, key he⟩
  | exit id => exact he.elim
  | ret => exact ⟨hS.nod, key he⟩
theorem awp_loop {P : Program} {n0 : Nat} {mask : List Bool} {promo : List (Nat × Option Nat × Nat)} {a : ACode} {σ : AState} {Q : AExit -> AState -> Prop} (J : Nat -> AState -> Prop) (m : Nat)
  (h0 : J m (norm mask (promote promo σ).hp.length (promote promo σ)))
  (hs : ∀ (I : AState -> Prop) n τ, J n τ -> (∀ n' τ'', n' < n -> J n' τ'' -> I τ'') -> awp P n0 a τ (fun e τ' => match e with | .normal => I (norm mask (promote promo σ).hp.length τ') | e => Q e τ')) :
  awp P n0 (.loop mask promo a) σ Q := by
 simp only [awp]
 intro I hI
 have key : ∀ n τ, J n τ -> I τ := by
  intro n
  induction n using Nat.strongRecOn with
  | _ n ih => exact fun τ hJ => hI τ (hs I n τ hJ fun n' τ'' hlt hJ' => ih n' hlt τ'' hJ')
 exact key _ _ h0
def killed (n : Nat) (H : List ABlock) : List ABlock := (H.take n).map (fgtB fun b => decide (n <= b))
end Go.E

/- Ranges over functions. -/
namespace Go.E
open Go
def YAt (P : Program) (l : Nat) (x : Value) (A : World) (R : Bool -> World -> Prop) : Prop :=
 ∃ fn tmps assign body, (Instr.yield l #[x]).run P A = .ok (.round l fn tmps assign body) A /\ RoundIn (Fw none) 0 P l fn tmps assign body A fun e B => ∃ b, e = .returned (.bool b) /\ R b B
def Rounds (P : Program) (M : Mem) (W : World) (l : Nat) (xs : List SV) (J : List SV -> (Nat -> Prop) -> World -> Prop) (Jx : World -> Prop) : Prop :=
 ∀ pre v post x O A, xs = pre ++ v :: post -> J pre O A -> Holds M A -> VRel M v x -> YAt P l x A fun b B => A.heap.size <= B.heap.size /\ (∀ k, W.heap.size <= k -> k < A.heap.size -> ¬ O k -> B.heap[k]? = A.heap[k]?) /\ Holds M B /\
  (b = true -> ∃ O', J (pre ++ [v]) O' B /\ ∀ k, O' k -> k < B.heap.size /\ (O k \/ A.heap.size <= k)) /\ (b = false -> Jx B)
def Yields (P : Program) (g : FuncId) (caps xs : List SV) : Prop :=
 ∀ (M : Mem) (W : World) (lb : List Value) (l : Nat) (J : List SV -> (Nat -> Prop) -> World -> Prop) (Jx : World -> Prop), Holds M W -> VRelL M caps lb ->
  (∀ s O A B, J s O A -> Touch [] A B -> J s O B) -> (∀ A B, Jx A -> Touch [] A B -> Jx B) -> Rounds P M W l xs J Jx ->
  J [] (fun _ => False) W -> Calls P g (#[.func (.yield l) #[] #[]] ++ lb.toArray) W fun e W' => (∃ v, e = .returned v) /\ ((∃ O, J xs O W') \/ Jx W')
inductive BCode where
 | code (a : ACode)
 | seq (a b : BCode)
 | cond (x : AX) (a b : BCode)
 | block (id : Nat) (a : BCode)
 | loop (mask : List Bool) (promo : List (Nat × Option Nat × Nat)) (a : BCode)
 | scope (a : BCode)
 | rangeF (mv : Nat) (x : AX) (p : Nat) (as body : ACode)
 | pin (t : Nat) (a : BCode)
 | promo (ps : List (Nat × Option Nat × Nat)) (a : BCode)
def okB (P : Program) (nt : Nat) : BCode -> Code -> Bool
 | .code a, c => okCode P nt a c
 | .seq a b, .seq c d => okB P nt a c && okB P nt b d
 | .cond x a b, .cond y c d => okX x y && okB P nt a c && okB P nt b d
 | .block i a, .block j c => i == j && okB P nt a c
 | .loop _ _ a, .loop c => okB P nt a c
 | .scope a, .scope c => okB P nt a c
 | .rangeF _ x p as body, .rangeFunc g ps as' body' => okX x g && decide (ps = #[p]) && okCode P nt as as' && okCode P nt body body'
 | .pin _ a, c => okB P nt a c
 | .promo _ a, c => okB P nt a c
 | _, _ => false
noncomputable def rngK (P : Program) (n m : Nat) (fr : List LV) (p : Nat) (as body : ACode) (Q : AExit -> List ABlock -> Prop) : List SV -> List ABlock -> Prop
 | [], H => Q .normal H
 | v :: vs, H => awp P m as { fr := fset fr p (.s v), hp := H } fun e σ1 => e = .normal /\ awp P m body σ1 fun e2 σ2 => match e2 with
  | .normal => rngK P n m fr p as body Q vs (killed n σ2.hp)
  | e2 => Q e2 (killed n σ2.hp)
def rangeLK (P : Program) (K : List SV -> Prop) : LV -> Prop
 | .s (.fn g [] caps) => okFn P g = true /\ (caps.map LV.s).all LV.isOne = true /\ ∃ xs, Yields P g caps xs /\ (∀ v ∈ xs, v.flat = true) /\ K xs
 | _ => False
def below (m : Nat) (fr : List LV) : List LV := fgtL (fun b => decide (m <= b)) fr
def pinB (H : List ABlock) (t b : Nat) (fr : List LV) (Q : AState -> Prop) : Option ABlock -> Prop
 | some (.obj cs) => exO (frzAll (frz []) cs) fun vs => Q { fr := fset fr t (.s (.ptr vs)), hp := H.set b (.frz vs) }
 | _ => False
def pinK (σ : AState) (t : Nat) (Q : AState -> Prop) : LV -> Prop
 | .loc b 0 => pinB σ.hp t b σ.fr Q σ.hp[b]?
 | _ => False
noncomputable def bwp (P : Program) (n0 : Nat) : BCode -> AState -> (AExit -> AState -> Prop) -> Prop
 | .code a, σ, Q => awp P n0 a σ Q
 | .seq a b, σ, Q => bwp P n0 a σ fun e τ => match e with
  | .normal => bwp P n0 b τ Q
  | e => Q e τ
 | .cond x a b, σ, Q => condK (bwp P n0 a σ Q) (bwp P n0 b σ Q) (x.ev σ.fr)
 | .block id a, σ, Q => bwp P n0 a σ fun e τ => match e with
  | .exit i => if i = id then Q .normal τ else Q (.exit i) τ
  | e => Q e τ
 | .loop mask promo a, σ, Q => ∀ I : AState -> Prop,
   (∀ τ, bwp P n0 a τ (fun e τ' => match e with | .normal => I (norm mask (promote promo σ).hp.length τ') | e => Q e τ') -> I τ) ->
    I (norm mask (promote promo σ).hp.length (promote promo σ))
 | .scope a, σ, Q => bwp P n0 a σ Q
 | .rangeF mv x p as body, σ, Q => rangeLK P (fun xs => n0 <= σ.hp.length - mv /\ rngK P σ.hp.length (σ.hp.length - mv) (below (σ.hp.length - mv) σ.fr) p as body (fun e H => Q e { fr := below (σ.hp.length - mv) σ.fr, hp := H }) xs σ.hp) (x.ev σ.fr)
 | .pin t a, σ, Q => pinK σ t (fun τ => bwp P n0 a τ Q) (fget σ.fr t)
 | .promo ps a, σ, Q => bwp P n0 a (promote ps σ) Q
def marks (Ds : List Nat) : List Deferred := Ds.map fun D => { target := .collected D, args := #[] }
def AMark (A : Nat -> Obj -> Prop) (Ds : List Nat) : Nat -> Obj -> Prop := fun k o => A k o \/ (k ∈ Ds /\ o = .deferred (some []))
def Mk (w0 : World) (A : Nat -> Obj -> Prop) (Ds : List Nat) : Prop := Ds.Nodup /\ ∀ D ∈ Ds, w0.heap.size <= D /\ ∀ o, ¬ A D o
theorem amark_nil (A : Nat -> Obj -> Prop) : AMark A [] = A := by funext k o; simp [AMark]
theorem amark_amark (A : Nat -> Obj -> Prop) (Ds Es : List Nat) : AMark (AMark A Ds) Es = AMark A (Es ++ Ds) := by
 funext k o
 simp only [AMark, List.mem_append, eq_iff_iff]
 constructor
 ·rintro ((h | h) | h)
  ·exact .inl h
  ·exact .inr ⟨.inr h.1, h.2⟩
  ·exact .inr ⟨.inl h.1, h.2⟩
 ·rintro (h | ⟨h | h, e⟩)
  ·exact .inl (.inl h)
  ·exact .inr ⟨h, e⟩
  ·exact .inl (.inr ⟨h, e⟩)
theorem marks_app (Ds Es : List Nat) (dfs : List Deferred) : marks Es ++ (marks Ds ++ dfs) = marks (Es ++ Ds) ++ dfs := by simp [marks]
theorem Mk.nil {w0 : World} {A : Nat -> Obj -> Prop} : Mk w0 A [] := ⟨List.nodup_nil, by simp⟩
theorem Mk.app {w0 : World} {A : Nat -> Obj -> Prop} {Ds Es : List Nat} (h : Mk w0 A Ds) (k : Mk w0 (AMark A Ds) Es) : Mk w0 A (Es ++ Ds) := by
 refine ⟨?_, fun D hD => ?_⟩
 ·rw [List.nodup_append]
  refine ⟨k.1, h.1, fun x hx y hy e => ?_⟩
  subst e
  exact (k.2 x hx).2 (.deferred (some [])) (.inr ⟨hy, rfl⟩)
 ·rcases List.mem_append.1 hD with hD | hD
  ·exact ⟨(k.2 D hD).1, fun o ho => (k.2 D hD).2 o (.inl ho)⟩
  ·exact h.2 D hD
section
variable {P : Program} {A : Nat -> Obj -> Prop} {dfs : List Deferred} {M0 : Mem} {ρ0 : Env} {w0 : World} {M : Mem} {ρ : Env} {H : List ABlock} {w : World} {n0 : Nat}
theorem MInv.other (h : MInv A n0 M0 ρ0 w0 M ρ H w) {l : Nat} {o o' : Obj} (hl : w.heap[l]? = some o) (ho : o.isOther = true) (hn : ¬ ρ.has l) (h0 : w0.heap.size <= l) (hA : ∀ o2, ¬ A l o2) : MInv A n0 M0 ρ0 w0 M ρ H (w.putObj l o') := by
 have hoth : ∀ k, k ≠ l -> (w.putObj l o').heap[k]? = w.heap[k]? := fun k hk => World.putObj_heap_other hk
 have hsz : (w.putObj l o').heap.size = w.heap.size := by simp [World.putObj]
 refine { h with
  rel := ⟨h.rel.len, fun i B r hB hr => BRel.keep (h.rel.blk i B r hB hr) fun cb sh n e => hoth cb fun e2 => hn (by subst e; subst e2; exact ⟨i, sh, n, hr⟩), h.rel.inj, fun i cb sh n hr => by rw [hsz]; exact h.rel.lt i cb sh n hr, fun b off v hv => ?_, fun b es hv => ?_⟩
  touch := ⟨h.touch.os, h.touch.tape, h.touch.output, h.touch.drawn, by rw [hsz]; exact h.touch.size, fun k hk hno => by rw [hoth k (by omega)]; exact h.touch.block k hk hno⟩
  alien := fun k o2 h2 => ?_ }
 ·have h1 := h.rel.cells b off v hv
  have hne : b ≠ l := fun e => by
   subst e
   unfold World.cell? at h1
   rw [hl] at h1
   cases o <;> simp [Obj.isOther] at ho <;> simp at h1
  rw [cell?_eq (hoth b hne)]; exact h1
 ·have h1 := h.rel.maps b es hv
  have hne : b ≠ l := fun e => by
   subst e
   rw [hl] at h1
   cases h1
   simp [Obj.isOther] at ho
  rw [hoth b hne]; exact h1
 ·obtain ⟨h3, h4, h5⟩ := h.alien k o2 h2
  exact ⟨by rw [hoth k (fun e => hA o2 (e ▸ h2))]; exact h3, h4, h5⟩
theorem MInv.more (h : MInv A n0 M0 ρ0 w0 M ρ H w) {A' : Nat -> Obj -> Prop} (hA : ∀ k o, A' k o -> A k o \/ (w.heap[k]? = some o /\ o.isOther = true /\ ¬ ρ.has k)) : MInv A' n0 M0 ρ0 w0 M ρ H w :=
  { h with alien := fun k o ho => (hA k o ho).elim (h.alien k o) id }
theorem Holds.mono {M M' : Mem} (hle : M.le M') (h : Holds M' w) : Holds M w := ⟨fun b o v hv => h.1 b o v (hle.1 b o v hv), fun b es hv => h.2 b es (hle.2 b es hv)⟩
theorem other_not_has {ρ : Env} {M : Mem} {H : List ABlock} (h : SRel M ρ H w) {l : Nat} (hl : w.heap.size <= l) : ¬ ρ.has l := by
 rintro ⟨i, sh, n, hi⟩
 have := h.lt i l sh n hi
 omega
theorem MInv.agree (h : MInv A n0 M0 ρ0 w0 M ρ H w) {j : Nat} (hj : j < n0) : ρ[j]? = ρ0[j]? := by
 have hl := h.nle
 have hg : ρ0[j]? = some ρ0[j] := List.getElem?_eq_getElem (by omega)
 by_cases hgone : ρ0[j] = .gone
 ·rw [hg]; rw [hgone] at hg ⊢; exact h.gon j (by omega) hg
 ·rw [h.env j _ hj hgone hg, hg]
theorem FRel.below (h : MInv A n0 M0 ρ0 w0 M ρ H w) {fr : List LV} {xs : List Value} (hf : FRel M0 ρ0 fr xs) : FRel M ρ (below n0 fr) xs := by
 unfold Go.E.below
 rw [fgtL_eq_map]
 refine FRel.map _ (fun v x hv => (hv.mono h.mem (Env.le_refl _)).fgt (fun j hj => h.agree (by simpa using hj))) hf
def AWith (A : Nat -> Obj -> Prop) (l : Nat) (o : Obj) : Nat -> Obj -> Prop := fun k o' => A k o' \/ (k = l /\ o' = o)
theorem range_sound {nt nf p m : Nat} {g : Operand} {as body : ACode} {as' body' : Code} {a : Act} {fr : List LV} {gf : FuncId} {caps xs : List SV} {Q : Exit -> Act -> World -> Prop} {QB : AExit -> List ABlock -> Prop}
  (hok1 : okCode P nt as as' = true) (hok2 : okCode P nt body body' = true) (hS : SRel M ρ H w) (hA : ∀ k o, A k o -> w.heap[k]? = some o /\ o.isOther = true /\ ¬ ρ.has k) (hf : FRel M ρ fr a.tmps.toList)
  (hfn : okFn P gf = true) (hone : (caps.map LV.s).all LV.isOne = true) (hg : LVal M ρ (.s (.fn gf [] caps)) (a.eval g)) (hY : Yields P gf caps xs) (hflat : ∀ v ∈ xs, v.flat = true)
  (hm : m <= H.length) (h : rngK P H.length m (below m fr) p as body QB xs H)
  (hQ : ∀ e H' M' ρ' W D, QB e H' -> w.heap.size <= D -> MInv (AWith A D (.deferred (some []))) m M ρ w M' ρ' H' W -> Q (exitOf e) { a with defers := { target := .collected D, args := #[] } :: a.defers } W) :
  (Code.rangeFunc g #[p] as' body').wpIn (Fw none) nf P Q a w := by
 have hg1 := (lval_s.1 hg).one rfl
 simp only [CRel] at hg1
 obtain ⟨fs, cs, eg, hfs, hcs⟩ := hg1
 have hfs' : fs = [] := by
  cases fs with
  | nil => rfl
  | cons x fs => simp [ones, CRelC] at hfs
 subst hfs'
 have eg' : a.eval g = .func (.func gf) #[] cs.toArray := by simpa using eg
 have hlb : VRelL M caps cs := by
  have := frel_of_lrelC (ρ := ρ) (lrelC_map_s.2 hcs) hone
  have key : ∀ (caps : List SV) (cs : List Value), FRel M ρ (caps.map .s) cs -> VRelL M caps cs := by
   intro caps
   induction caps with
   | nil => intro cs h; simpa [FRel, VRelL] using h
   | cons c caps ih =>
    intro cs h
    obtain ⟨y, ys, rfl, h1, h2⟩ := h
    exact ⟨y, ys, rfl, lval_s.1 h1, ih ys h2⟩
  exact key caps cs this
 obtain ⟨fn0, hf1, hf2, hf3⟩ := okFn_inv hfn
 have ecall : ∀ args w, (callFunc gf args).run P w = .ok (.enter gf args) w := fun args w => by
  have h3' : ¬ fn0.name = "runtime.NumGoroutine" := by simpa using hf3
  have h2' : ¬ fn0.body = none := fun e => by rw [e] at hf2; cases hf2
  simp [callFunc, run_program, hf1, h2', h3']
 have hn : ρ.length = H.length := hS.len
 refine wpIn_rangeFunc ?_
 intro fn _
 obtain ⟨rec, hrec⟩ : ∃ rec : LoopState -> Option Code -> Loop, rec = fun st pe => { state := st, pending := pe, fn, tmps := a.tmps, params := #[p], assign := as', body := body', defers := w.heap.size } := ⟨_, rfl⟩
 obtain ⟨W1, hW1⟩ : ∃ W1, (w.alloc (.deferred (some []))).alloc (.loop (rec .ready none)) = W1 := ⟨_, rfl⟩
 have hL1 : W1.heap[w.heap.size + 1]? = some (.loop (rec .ready none)) := by
  rw [<- hW1]; have := World.alloc_heap_new (w.alloc (.deferred (some []))) (.loop (rec .ready none)); rwa [World.size_alloc] at this
 have hK1 : W1.heap[w.heap.size]? = some (.deferred (some [])) := by
  rw [<- hW1]; exact (RowKit.Below.heap_alloc _ _ _ (by simp)).trans (World.alloc_heap_new w _)
 have ht1 : Touch [] w W1 := by rw [<- hW1]; exact (touch_alloc w _).trans (touch_alloc _ _)
 have hI1 := (MInv.startA hS hA (n0 := m) (by omega)).grow M.le_refl ht1 (Newer.refl _ _ _) (hS.holds.grow ht1)
 have hnD : ¬ ρ.has w.heap.size := other_not_has hS (Nat.le_refl _)
 have hnL : ¬ ρ.has (w.heap.size + 1) := other_not_has hS (by omega)
 have hAD : ∀ o2, ¬ AWith A w.heap.size (.deferred (some [])) (w.heap.size + 1) o2 := fun o2 h2 => by
  rcases h2 with h2 | ⟨h2, _⟩
  ·have := (Array.getElem?_eq_some_iff.1 (hA _ o2 h2).1).1; omega
  ·omega
 have hI2 : MInv (AWith A w.heap.size (.deferred (some []))) m M ρ w M ρ H W1 := hI1.more fun k o ho => by
  rcases ho with ho | ⟨rfl, rfl⟩
  ·exact .inl ho
  ·exact .inr ⟨hK1, rfl, hnD⟩
 refine ⟨w.heap.size + 1, [{ target := .collected w.heap.size, args := #[] }], W1, { target := .fn (.func gf) cs.toArray, args := #[.func (.yield (w.heap.size + 1)) #[] #[]] }, W1, gf,
  #[.func (.yield (w.heap.size + 1)) #[] #[]] ++ cs.toArray, W1, ?_, ?_, fun _ _ => trivial, ?_, fun h => (by cases h), ?_⟩
 ·rw [<- hW1, hrec]; exact run_enterLoop_outer _ _ _ _ _
 ·simp only [resolve, eg']
  simp [go_sem]
 ·simp [invoke, go_sem, ecall]
 ·refine callsIn_fw.2 ?_
  refine Calls.mono (hY M W1 cs (w.heap.size + 1)
   (fun s O W => ∃ vs H' M' ρ', xs = s ++ vs /\ rngK P H.length m (below m fr) p as body QB vs H' /\ MInv (AWith A w.heap.size (.deferred (some []))) m M ρ w M' ρ' H' W /\ ¬ ρ'.has (w.heap.size + 1) /\ W.heap[w.heap.size + 1]? = some (.loop (rec .ready none)) /\ ρ'.length = ρ.length /\ ∀ k, O k ↔ (ρ'.has k /\ W1.heap.size <= k))
   (fun W => ∃ e c H' M' ρ', QB e H' /\ ((e = .ret /\ c = .ret) \/ ∃ i, e = .exit i /\ c = .exit i) /\ MInv (AWith A w.heap.size (.deferred (some []))) m M ρ w M' ρ' H' W /\ ¬ ρ'.has (w.heap.size + 1) /\ W.heap[w.heap.size + 1]? = some (.loop (rec .done (some c))))
   hI2.rel.holds hlb ?_ ?_ ?_ ⟨xs, H, M, ρ, rfl, h, hI2, hnL, hL1, rfl, fun k => ⟨fun h => h.elim, fun ⟨⟨i, sh, n, hi⟩, hk⟩ => by
    have := hS.lt i k sh n hi
    have := ht1.size
    omega⟩⟩) ?_
  ·rintro s O B C ⟨vs, H', M', ρ', h1, h2, h4, h6, h7, h8⟩ ht
   exact ⟨vs, H', M', ρ', h1, h2, h4.grow M'.le_refl ht (Newer.refl _ _ _) (h4.rel.holds.grow ht), h6, by rw [ht.block _ (Array.getElem?_eq_some_iff.1 h7).1 (Env.nil_has _)]; exact h7, h8⟩
  ·rintro B C ⟨e, c, H', M', ρ', h1, h2, h4, h6, h7⟩ ht
   exact ⟨e, c, H', M', ρ', h1, h2, h4.grow M'.le_refl ht (Newer.refl _ _ _) (h4.rel.holds.grow ht), h6, by rw [ht.block _ (Array.getElem?_eq_some_iff.1 h7).1 (Env.nil_has _)]; exact h7⟩
  ·-- a round
   rintro pre v post x O W hxs ⟨vs, H', M', ρ', h1, h2, h4, h6, h7, h8, hO⟩ hHW hvx
   have hvs : vs = v :: post := by rw [hxs] at h1; exact (List.append_cancel_left h1).symm
   subst hvs
   have hvf := hflat v (by rw [hxs]; simp)
   have hy := run_yield (P := P) (args := #[x]) h7 (by rw [hrec]; rfl)
   rw [hrec] at hy
   refine ⟨fn, _, as', body', hy, ?_⟩
   simp only [rngK] at h2
   refine roundIn_of_wpIn trivial ?_
   show as'.wpIn (Fw (some (w.heap.size + 1))) 0 P _ _ W
   have hW1s : W1.heap.size = w.heap.size + 2 := by rw [<- hW1]; simp
   refine code_sound (A := AWith (AWith A w.heap.size (.deferred (some []))) (w.heap.size + 1) (.loop (rec .ready none))) (dfs := []) (n0 := m) (M0 := M') (ρ0 := ρ') (w0 := W) as as' M' ρ' W _ _ _ _ hok1 ⟨MInv.startA h4.rel (fun k o ho => ?_) (by omega), ?_, rfl⟩ h2 ?_
   ·rcases ho with ho | ⟨rfl, rfl⟩
    ·exact h4.alien k o ho
    ·exact ⟨h7, rfl, h6⟩
   ·have := (FRel.below h4 hf).fset p (v := .s v) (x := x) (lval_s.2 (hvx.flat M' hvf))
    simpa using this
   ·rintro e τ M2 ρ2 a2 W2 ⟨rfl, hb⟩ hS2
    have hl2 := hS2.inv.alien (w.heap.size + 1) _ (.inr ⟨rfl, rfl⟩)
    refine ⟨_, run_beginRound hl2.1 (by rw [hrec]), ?_⟩
    show body'.wpIn (Fw (some (w.heap.size + 1))) 0 P _ _ _
    have hbusy : ((W2.putObj (w.heap.size + 1) (.loop { rec .ready none with state := .busy }))).heap[w.heap.size + 1]? = some (.loop { rec .ready none with state := .busy }) := World.putObj_heap_same (Array.getElem?_eq_some_iff.1 hl2.1).1
    have hb0 : MInv (AWith A w.heap.size (.deferred (some []))) m M ρ w M2 ρ2 τ.hp W2 := h4.trans hS2.inv (Nat.le_refl _)
    have hb1 := hb0.other (o' := .loop { rec .ready none with state := .busy }) hl2.1 rfl hl2.2.2 (by omega) hAD
    refine code_sound (A := AWith (AWith A w.heap.size (.deferred (some []))) (w.heap.size + 1) (.loop { rec .ready none with state := .busy })) (dfs := []) (n0 := m) (M0 := M2) (ρ0 := ρ2) (w0 := W2.putObj (w.heap.size + 1) (.loop { rec .ready none with state := .busy })) body body' M2 ρ2 _ a2 τ _ _ hok2 ⟨MInv.startA hb1.rel (fun k o ho => ?_) (Nat.le_trans hb1.nle hb1.len), hS2.fr, hS2.nod⟩ hb ?_
    ·rcases ho with ho | ⟨rfl, rfl⟩
     ·exact hb1.alien k o ho
     ·exact ⟨hbusy, rfl, hl2.2.2⟩
    ·intro e3 τ3 M3 ρ3 a3 W3 hq hS3
     have hl3 := hS3.inv.alien (w.heap.size + 1) _ (.inr ⟨rfl, rfl⟩)
     have hc0 : MInv (AWith A w.heap.size (.deferred (some []))) m M ρ w M3 ρ3 τ3.hp W3 := hb1.trans hS3.inv (Nat.le_refl _)
     have hkeep : ∀ (o' : Obj) k, W1.heap.size <= k -> k < W.heap.size -> ¬ O k -> (W3.putObj (w.heap.size + 1) o').heap[k]? = W.heap[k]? := fun o' k hk1 hk2 hk3 => by
      have hnk : ¬ ρ'.has k := fun h => hk3 ((hO k).2 ⟨h, hk1⟩)
      have hkl : k ≠ w.heap.size + 1 := by omega
      have hs2 := hS2.inv.touch.size
      rw [World.putObj_heap_other hkl, hS3.inv.touch.block k (by simp [World.putObj]; omega) (fun h => ?_), World.putObj_heap_other hkl, hS2.inv.touch.block k hk2 hnk]
      rcases hS2.inv.has_old h with h | h
      ·exact hnk h
      ·omega
     have hsz3 : ∀ (o' : Obj), W.heap.size <= (W3.putObj (w.heap.size + 1) o').heap.size := fun o' => by
      have h9 := hS3.inv.touch.size
      have h10 := hS2.inv.touch.size
      simp [World.putObj] at h9 ⊢
      omega
     have htl : (ρ3.take H.length).length = ρ.length := by
      have h9 := hS3.inv.len
      have h10 := hS2.inv.len
      simp only [List.length_take]
      omega
     have fin : ∀ jump : Option Code, (Instr.endRound (w.heap.size + 1) jump).run P W3 = .ok (.bool jump.isNone) (W3.putObj (w.heap.size + 1) (.loop (rec (if jump.isNone then .ready else .done) jump))) /\
       MInv (AWith A w.heap.size (.deferred (some []))) m M ρ w M3 (ρ3.take H.length) (killed H.length τ3.hp) (W3.putObj (w.heap.size + 1) (.loop (rec (if jump.isNone then .ready else .done) jump))) /\
       ¬ Env.has (ρ3.take H.length) (w.heap.size + 1) /\ (W3.putObj (w.heap.size + 1) (.loop (rec (if jump.isNone then .ready else .done) jump))).heap[w.heap.size + 1]? = some (.loop (rec (if jump.isNone then .ready else .done) jump)) := fun jump => by
      have hr := run_endRound (P := P) jump hl3.1
      rw [hrec] at hr ⊢
      refine ⟨hr, (hc0.other hl3.1 rfl hl3.2.2 (by omega) hAD).cut (by omega), ?_, World.putObj_heap_same (Array.getElem?_eq_some_iff.1 hl3.1).1⟩
      rintro ⟨i, sh, m, hi⟩
      rw [List.getElem?_take] at hi
      split at hi
      ·exact hl3.2.2 ⟨i, sh, m, hi⟩
      ·cases hi
     cases e3 with
     | normal =>
      obtain ⟨f1, f2, f3, f4⟩ := fin none
      refine ⟨_, _, f1, true, rfl, hsz3 _, hkeep _, f2.rel.holds.mono f2.mem, fun _ => ⟨fun k => Env.has (ρ3.take H.length) k /\ W1.heap.size <= k, ⟨post, _, M3, _, by rw [hxs]; simp, hq, f2, f3, f4, htl, fun _ => Iff.rfl⟩, fun k hk => ⟨?_, ?_⟩⟩, fun h => (by cases h)⟩
      ·obtain ⟨⟨i, sh, n, hi⟩, _⟩ := hk
       exact f2.rel.lt i k sh n hi
      ·have hk3 : ρ3.has k := by
        obtain ⟨⟨i, sh, n, hi⟩, _⟩ := hk
        rw [List.getElem?_take] at hi
        split at hi
        ·exact ⟨i, sh, n, hi⟩
        ·cases hi
       rcases hS3.inv.has_old hk3 with h5 | h5
       ·rcases hS2.inv.has_old h5 with h5 | h5
        ·exact .inl ((hO k).2 ⟨h5, hk.2⟩)
        ·exact .inr h5
       ·have h9 := hS2.inv.touch.size
        exact .inr (by simp [World.putObj] at h5; omega)
     | exit i =>
      obtain ⟨f1, f2, f3, f4⟩ := fin (some (.exit i))
      exact ⟨_, _, f1, false, rfl, hsz3 _, hkeep _, f2.rel.holds.mono f2.mem, fun h => (by cases h), fun _ => ⟨.exit i, .exit i, _, M3, _, hq, .inr ⟨i, rfl, rfl⟩, f2, f3, f4⟩⟩
     | ret =>
      obtain ⟨f1, f2, f3, f4⟩ := fin (some .ret)
      exact ⟨_, _, f1, false, rfl, hsz3 _, hkeep _, f2.rel.holds.mono f2.mem, fun h => (by cases h), fun _ => ⟨.ret, .ret, _, M3, _, hq, .inl ⟨rfl, rfl⟩, f2, f3, f4⟩⟩
  ·rintro e W2 ⟨⟨v, rfl⟩, hcase⟩
   rcases hcase with ⟨O, vs, H', M', ρ', h1, h2, h4, h6, h7, h8⟩ | ⟨e, c, H', M', ρ', h1, h2, h4, h6, h7⟩
   ·have hvs : vs = [] := by have := congrArg List.length h1; simp at this; exact this
    subst hvs
    refine ⟨none, _, by have := run_endLoop (P := P) h7 (by rw [hrec]; simp); rw [hrec] at this; exact this, ?_⟩
    exact hQ .normal H' M' ρ' _ _ h2 (Nat.le_refl _) (h4.other h7 rfl h6 (by omega) hAD)
   ·refine ⟨some c, _, by have := run_endLoop (P := P) h7 (by rw [hrec]; simp); rw [hrec] at this; exact this, ?_⟩
    have hfin := hQ e H' M' ρ' _ _ h1 (Nat.le_refl _) (h4.other (o' := .loop { rec .done (some c) with state := .exhausted }) h7 rfl h6 (by omega) hAD)
    rw [hrec] at hfin
    rcases h2 with ⟨rfl, rfl⟩ | ⟨i, rfl, rfl⟩
    ·exact wpIn_ret hfin
    ·exact wpIn_exit hfin
theorem frel_repl {v' : LV} : ∀ {fr : List LV} {xs : List Value} (t : Nat), FRel M ρ fr xs -> (∀ x, LVal M ρ (fget fr t) x -> LVal M ρ v' x) -> FRel M ρ (fset fr t v') xs
 | [], _, _, h, _ => by simpa [Go.E.fset] using h
 | v :: vs, xs, 0, h, hv => by
  obtain ⟨y, ys, rfl, h1, h2⟩ := h
  exact ⟨y, ys, rfl, hv y h1, h2⟩
 | v :: vs, xs, t + 1, h, hv => by
  obtain ⟨y, ys, rfl, h1, h2⟩ := h
  exact ⟨y, ys, rfl, h1, frel_repl t h2 hv⟩
theorem pin_sound (hI : MInv A n0 M0 ρ0 w0 M ρ H w) {fr : List LV} {xs : List Value} (hf : FRel M ρ fr xs) {t b : Nat} {cs : List LV} {vs : List SV} (ht : fget fr t = .loc b 0) (hB : H[b]? = some (.obj cs)) (hv : frzAll (frz []) cs = some vs) :
  ∃ M', MInv A n0 M0 ρ0 w0 M' ρ (H.set b (.frz vs)) w /\ FRel M' ρ (fset fr t (.s (.ptr vs))) xs := by
 obtain ⟨r, hr, hbr⟩ := hI.rel.spot hB
 cases r <;> simp only [BRel] at hbr
 rename_i cb sh n
 obtain ⟨c, T, h1, h2, h3, rfl, h5, h6⟩ := hbr
 have hl : vs.length = cs.length := frzAll_length hv
 have hc : CRelC M vs (ones c.toList) := frzAll_rel (g := frz []) (fun v us sv h k => frzV_rel (H := []) M.le_refl (fun i B r h => by simp at h) 4 v us sv h k) h5 hv
 have htk : (c.toList.drop 0).take vs.length = c.toList := by rw [List.drop_zero, List.take_of_length_le (by simp; omega)]
 have hb := (List.getElem?_eq_some_iff.1 hB).1
 have hI1 := hI.reblk (b := b) (B' := .row vs) fun r' hr' => by
  rw [hr] at hr'; cases hr'
  simp only [BRel]
  exact ⟨c, T, h1, h2, by omega, by rw [htk]; exact hc, h6⟩
 have hI2 := hI1.freeze (cs' := vs) (List.getElem?_set_self hb) hr h1 h6 (Touch.refl _ _) h1 (us := c.toList) htk.symm (hc.mono (layAt_le h6))
 rw [List.set_set] at hI2
 refine ⟨_, hI2, frel_repl t (hf.mono (layAt_le h6) (Env.le_refl _)) fun x hx => ?_⟩
 rw [ht] at hx
 have hy := loc0_val hx hr
 subst hy
 refine lval_s.2 (vrel_of_one ?_ rfl)
 simp only [CRel]
 exact ⟨cb, 0, c.toList, rfl, hc.mono (layAt_le h6), layAt_at⟩
theorem b_sound {nt nf : Nat} : ∀ (b : BCode) (c : Code) (A : Nat -> Obj -> Prop) (dfs : List Deferred) (M : Mem) (ρ : Env) (w : World) (a : Act) (σ : AState) (QA : AExit -> AState -> Prop) (Q : Exit -> Act -> World -> Prop),
  okB P nt b c = true -> Stands A dfs n0 M0 ρ0 w0 M ρ σ a w -> bwp P n0 b σ QA ->
  (∀ e τ M' ρ' a' w' Ds, QA e τ -> Mk w0 A Ds -> Stands (AMark A Ds) (marks Ds ++ dfs) n0 M0 ρ0 w0 M' ρ' τ a' w' -> Q (exitOf e) a' w') -> c.wpIn (Fw none) nf P Q a w := by
 intro b
 induction b with
 | code ac =>
  intro c A dfs M ρ w a σ QA Q hok hS h hQ
  exact code_sound ac c M ρ w a σ QA Q hok hS h fun e τ M' ρ' a' w' he hS' => hQ e τ M' ρ' a' w' [] he Mk.nil (by rw [amark_nil]; exact hS')
 | seq x y ihx ihy =>
  intro c A dfs M ρ w a σ QA Q hok hS h hQ
  cases c <;> simp only [okB, Bool.and_eq_true] at hok <;> try cases hok
  rename_i h1 h2
  simp only [bwp] at h
  refine wpIn_seq (ihx _ A dfs M ρ w a σ _ _ h1 hS h fun e τ M' ρ' a' w' Ds he hD hS' => ?_)
  cases e with
  | normal =>
   refine ihy _ _ _ M' ρ' w' a' τ _ _ h2 hS' he fun e2 τ2 M2 ρ2 a2 w2 Es he2 hE hS2 => ?_
   rw [amark_amark, marks_app] at hS2
   exact hQ e2 τ2 M2 ρ2 a2 w2 (Es ++ Ds) he2 (hD.app hE) hS2
  | exit id => exact hQ (.exit id) τ M' ρ' a' w' Ds he hD hS'
  | ret => exact hQ .ret τ M' ρ' a' w' Ds he hD hS'
 | cond x A' B' iha ihb =>
  intro c A dfs M ρ w a σ QA Q hok hS h hQ
  cases c <;> simp only [okB, Bool.and_eq_true] at hok <;> try cases hok
  rename_i h1 h2
  obtain ⟨h1, h3⟩ := h1
  have hv := okX_rel hS.fr h1
  simp only [bwp] at h
  unfold condK at h
  split at h
  ·rename_i t hx
   have hb := lrel_bool hx hv
   refine wpIn_cond_split hb (fun ht => ?_) (fun ht => ?_)
   ·subst ht; exact iha _ A dfs M ρ w a σ _ _ h3 hS h hQ
   ·subst ht; exact ihb _ A dfs M ρ w a σ _ _ h2 hS h hQ
  ·cases h
 | block id x ih =>
  intro c A dfs M ρ w a σ QA Q hok hS h hQ
  cases c <;> simp only [okB, Bool.and_eq_true, beq_iff_eq] at hok <;> try cases hok
  rename_i h1 h2
  subst h1
  simp only [bwp] at h
  refine wpIn_block (ih _ A dfs M ρ w a σ _ _ h2 hS h fun e τ M' ρ' a' w' Ds he hD hS' => ?_)
  cases e with
  | normal => exact hQ .normal τ M' ρ' a' w' Ds he hD hS'
  | exit i =>
   simp only at he
   simp only [exitOf, Exit.inBlock]
   split
   ·rename_i hi; rw [if_pos hi] at he; exact hQ .normal τ M' ρ' a' w' Ds he hD hS'
   ·rename_i hi; rw [if_neg hi] at he; exact hQ (.exit i) τ M' ρ' a' w' Ds he hD hS'
  | ret => exact hQ .ret τ M' ρ' a' w' Ds he hD hS'
 | loop mask promo x ih =>
  intro c A dfs M ρ w a σ QA Q hok hS h hQ
  cases c <;> simp only [okB] at hok <;> try cases hok
  rename_i c
  simp only [bwp] at h
  obtain ⟨ρ1, hS1⟩ := hS.promote promo
  have hn : ρ0.length <= (promote promo σ).hp.length := by have := hS1.inv.len; have := hS1.inv.rel.len; omega
  generalize (promote promo σ).hp.length = n at h hn
  have hI := h (fun τ => ∀ Ds M ρ a w, Mk w0 A Ds -> Stands (AMark A Ds) (marks Ds ++ dfs) n0 M0 ρ0 w0 M ρ τ a w -> ∀ (b : Frame) (k : List Item) (cs : List Frame), b.roundOf = (Fw none).round -> (Fw none).fn b.fn -> (Fw none).room (cs.length + 1 + nf) -> ∃ e a' w', Q e a' w' /\ ArrivesIn (Machine.fenced P (Fw none)) P (lone (b.atR a (.code c :: .inLoop c :: k)) cs w) b k cs e a' w') (by
   intro τ hb Ds M ρ a w hD hS b k cs hro hfn hrm
   have hbody := ih c (AMark A Ds) (marks Ds ++ dfs) M ρ w a τ _ (Exit.then (fun a' w' => ∀ (b : Frame) (k : List Item) (cs : List Frame), b.roundOf = (Fw none).round -> (Fw none).fn b.fn -> (Fw none).room (cs.length + 1 + nf) -> ∃ e a'' w'', Q e a'' w'' /\ ArrivesIn (Machine.fenced P (Fw none)) P (lone (b.atR a' (.code c :: .inLoop c :: k)) cs w') b k cs e a'' w'') Q) hok hS hb (fun e τ' M' ρ' a' w' Es he hE hS' => by
    rw [amark_amark, marks_app] at hS'
    cases e with
    | normal => exact he (Es ++ Ds) M' _ a' w' (hD.app hE) (hS'.norm mask hn)
    | exit id => exact hQ (.exit id) τ' M' ρ' a' w' _ he (hD.app hE) hS'
    | ret => exact hQ .ret τ' M' ρ' a' w' _ he (hD.app hE) hS')
   obtain ⟨e, a₁, w₁, hq, harr⟩ := hbody b (.inLoop c :: k) cs hro hfn hrm
   cases e with
   | normal =>
    obtain ⟨e₂, a₂, w₂, hq₂, harr₂⟩ := hq b k cs hro hfn hrm
    exact ⟨e₂, a₂, w₂, hq₂, .of_steps (StepsIn.trans harr (.one (fenced_calm hfn hrm rfl) stepR_inLoop)) harr₂⟩
   | exit id => exact ⟨_, a₁, w₁, hq, .pass (x := .inLoop c) rfl (fun _ _ => .inl (by simp)) harr⟩
   | goto l => exact ⟨_, a₁, w₁, hq, .pass (x := .inLoop c) rfl (fun _ _ => .inl (by simp)) harr⟩
   | ret => exact ⟨_, a₁, w₁, hq, .pass (x := .inLoop c) rfl (fun _ _ => .inl (by simp)) harr⟩
   | panic ch => exact ⟨_, a₁, w₁, hq, .pass (x := .inLoop c) rfl (fun _ _ => .inl (by simp)) harr⟩
   | outgrown => exact ⟨_, a₁, w₁, hq, .pass (x := .inLoop c) rfl (fun _ _ => .inl (by simp)) harr⟩)
  intro b k cs hro hfn hrm
  obtain ⟨e, a', w', hq, harr⟩ := hI [] M _ a w Mk.nil (by rw [amark_nil]; exact hS1.norm mask hn) b k cs hro hfn hrm
  exact ⟨e, a', w', hq, .of_steps (.one (fenced_calm hfn hrm rfl) stepR_loop) harr⟩
 | scope x ih =>
  intro c A dfs M ρ w a σ QA Q hok hS h hQ
  cases c <;> simp only [okB] at hok <;> try cases hok
  refine wpIn_scope_straight (ih _ A dfs M ρ w a σ QA _ hok hS h fun e τ M' ρ' a' w' Ds he hD hS' => ?_)
  cases e with
  | normal => exact hQ .normal τ M' ρ' a' w' Ds he hD hS'
  | exit id => exact hQ (.exit id) τ M' ρ' a' w' Ds he hD hS'
  | ret => exact hQ .ret τ M' ρ' a' w' Ds he hD hS'
 | promo ps x ih =>
  intro c A dfs M ρ w a σ QA Q hok hS h hQ
  simp only [okB] at hok
  simp only [bwp] at h
  obtain ⟨ρ1, hS1⟩ := hS.promote ps
  exact ih c A dfs M ρ1 w a (promote ps σ) QA Q hok hS1 h hQ
 | pin t x ih =>
  intro c A dfs M ρ w a σ QA Q hok hS h hQ
  simp only [okB] at hok
  simp only [bwp] at h
  unfold pinK at h
  split at h
  ·rename_i b ht
   unfold pinB at h
   split at h
   ·rename_i cs hB
    obtain ⟨vs, hv, h⟩ := exO_inv h
    obtain ⟨M', h1, h2⟩ := pin_sound hS.inv hS.fr ht hB hv
    exact ih c A dfs M' ρ w a { fr := fset σ.fr t (.s (.ptr vs)), hp := σ.hp.set b (.frz vs) } QA Q hok ⟨h1, h2, hS.nod⟩ h hQ
   ·cases h
  ·cases h
 | rangeF mv x p as body =>
  intro c A dfs M ρ w a σ QA Q hok hS h hQ
  cases c <;> simp only [okB, Bool.and_eq_true, decide_eq_true_eq] at hok <;> try (cases hok; done)
  obtain ⟨⟨⟨k3, rfl⟩, k5⟩, k6⟩ := hok
  simp only [bwp] at h
  have hxv := okX_rel hS.fr k3
  unfold rangeLK at h
  split at h
  ·rename_i gf caps hx
   rw [hx] at hxv
   obtain ⟨r1, r2, xs, r3, r4, hn0m, r5⟩ := h
   refine range_sound k5 k6 hS.inv.rel hS.inv.alien hS.fr r1 r2 hxv r3 r4 (Nat.sub_le _ _) r5 fun e H' M' ρ' W D hq hD hI => ?_
   have hl := hI.alien D _ (.inr ⟨rfl, rfl⟩)
   refine hQ e { fr := below (σ.hp.length - mv) σ.fr, hp := H' } M' ρ' _ W [D] hq ⟨by simp, fun D2 h2 => ?_⟩ ⟨(hS.inv.trans hI hn0m).more fun k o ho => ?_, FRel.below hI hS.fr, by simp [marks, hS.nod]⟩
   ·simp only [List.mem_singleton] at h2
    subst h2
    refine ⟨Nat.le_trans hS.inv.touch.size hD, fun o ho => ?_⟩
    have := (Array.getElem?_eq_some_iff.1 (hS.inv.alien _ o ho).1).1
    omega
   ·rcases ho with ho | ⟨ho, rfl⟩
    ·exact .inl ho
    ·simp only [List.mem_singleton] at ho
     subst ho
     exact .inr hl
  ·cases h
end
end Go.E

/- Functions that hold ranges over functions. -/
namespace Go.E
open Go
structure BRow where
  code : BCode
  res : List ARes
  nt : Nat
def BRow.Ok (P : Program) (f : FuncId) (r : BRow) : Prop :=
 ∃ fn c, P.funcs[f]? = some fn /\ fn.body = some c /\ okB P 0 r.code c = true /\ okRes P r.res fn.results.toList = true /\ fn.ntmps = r.nt
def BRow.start (r : BRow) (args : List LV) : AState := { fr := args ++ List.replicate (r.nt - args.length) .any, hp := [] }
section
variable {P : Program}
theorem leaves_marks {fn : Func} {tmps : Array Value} {R : Ending -> World -> Prop} {n0 : Nat} {M0 : Mem} {ρ0 : Env} {w0 : World} {M : Mem} {ρ : Env} {H : List ABlock} (hR : ∀ w, MInv NoA n0 M0 ρ0 w0 M ρ H w -> ∃ v, (results fn tmps).run P w = .ok v w /\ R (.returned v) w) :
  ∀ (Ds : List Nat) (w : World), MInv NoA n0 M0 ρ0 w0 M ρ H w -> Ds.Nodup -> (∀ D ∈ Ds, w0.heap.size <= D /\ w.heap[D]? = some (.deferred (some [])) /\ ¬ ρ.has D) ->
   LeavesInM (Fw none) 0 P fn tmps R (Ds.map fun D => { target := .collected D, args := #[] }) .returning w
 | [], w, hI, _, _ => by
  obtain ⟨v, h1, h2⟩ := hR w hI
  simp only [List.map_nil, LeavesInM, LeavesIn]
  exact ⟨v, h1, h2⟩
 | D :: Ds, w, hI, hnd, hD => by
  rw [List.nodup_cons] at hnd
  obtain ⟨h1, h2, h3⟩ := hD D (by simp)
  simp only [List.map_cons, LeavesInM]
  refine ⟨by simp, .inl ⟨D, _, rfl, run_takeDeferred h2, ?_⟩⟩
  refine leaves_marks hR Ds _ (hI.other h2 rfl h3 h1 fun _ h => h.elim) hnd.2 fun D2 h4 => ?_
  obtain ⟨h5, h6, h7⟩ := hD D2 (by simp [h4])
  have hne : D2 ≠ D := fun e => hnd.1 (by rw [<- e]; exact h4)
  exact ⟨h5, by rw [World.putObj_heap_other hne]; exact h6, h7⟩
theorem fnR_of_brow {f : FuncId} {r : BRow} (hr : r.Ok P f) {args : List SV} {R : List SV -> Prop} (h : bwp P 0 r.code (r.start (args.map .s)) (finR r.res R)) : FnR P f args R := by
 obtain ⟨fn, c, h1, h2, h3, h4, h5⟩ := hr
 intro M w vs hh hv
 refine (callsIn_fw (r := none) (n := 0)).1 (callsIn_of_wp_marks h1 h2 trivial (b_sound (n0 := 0) (M0 := M) (ρ0 := []) (w0 := w) r.code c NoA [] M [] w _ _ _ _ h3 ⟨MInv.start (SRel.start hh), ?_, rfl⟩ h ?_))
 ·have := frame_rel (frel_of_vrelL (ρ := []) hv) fn.ntmps
  rw [h5] at this ⊢
  simpa [BRow.start] using this
 ·intro e τ M' ρ' a' w' Ds he hD hS
  have hI := hS.inv
  have key : resK τ.hp τ.fr r.res R -> LeavesInM (Fw none) 0 P fn a'.tmps (fun e w' => ∃ xs M' out, R out /\ e = .returned (retOf xs) /\ M.le M' /\ Holds M' w' /\ VRelL M' out xs /\ Touch [] w w' /\ Newer [] w M M') a'.defers .returning w' := by
   intro hk
   rw [hS.nod, List.append_nil]
   refine leaves_marks (fun w2 hI2 => ?_) Ds w' (MInv.more (A' := NoA) hI fun k o (ho : False) => ho.elim) hD.1 fun D hDD => ⟨(hD.2 D hDD).1, (hI.alien D _ (.inr ⟨hDD, rfl⟩)).1, (hI.alien D _ (.inr ⟨hDD, rfl⟩)).2.2⟩
   obtain ⟨xs, vs, h1, h2, h3⟩ := res_sound hI2.rel hS.fr h4 hk
   refine ⟨retOf xs, results_of h1, xs, M'.up ρ' w2, vs, h3, rfl, Mem.le_trans hI2.mem (Mem.le_up _ _ _), hI2.rel.holds_up, h2, hI2.touch, fun b o v hv => ?_, fun b es hv => ?_⟩
   ·rcases Mem.up_cell hv with h | ⟨h, _⟩
    ·exact hI2.newer.1 b o v h
    ·rcases hI2.has_old h with h | h
     ·exact absurd h (Env.nil_has _)
     ·exact .inr (.inl h)
   ·rcases Mem.up_map hv with h | ⟨h, _⟩
    ·exact hI2.newer.2 b es h
    ·rcases hI2.has_old h with h | h
     ·exact absurd h (Env.nil_has _)
     ·exact .inr (.inl h)
  cases e with
  | normal => exact key he
  | exit id => exact he.elim
  | ret => exact key he
theorem fnR_eq {f : FuncId} {args out : List SV} : FnR P f args (fun rs => rs = out) ↔ Fn P f args out :=
 ⟨fun h M w vs hM hv => (h M w vs hM hv).mono fun _ _ ⟨xs, M', rs, h1, h2⟩ => ⟨xs, M', by subst h1; exact h2⟩, fun h => h.fnR rfl⟩
theorem fn_of_brow {f : FuncId} {r : BRow} (hr : r.Ok P f) {args out : List SV} (h : bwp P 0 r.code (r.start (args.map .s)) (finR r.res (fun rs => rs = out))) : Fn P f args out := fnR_eq.1 (fnR_of_brow hr h)
theorem new_of_brow {f : FuncId} {r : BRow} (hr : r.Ok P f) {sz : Nat} {args : List LV} {xs : List SV} (h : bwp P 0 r.code (r.start args) (finN r.res sz xs)) : FnNew P f sz args xs := by
 obtain ⟨fn, c, h1, h2, h3, h4, h5⟩ := hr
 intro M w vs hh hv
 refine (callsIn_fw (r := none) (n := 0)).1 (callsIn_of_wp_marks h1 h2 trivial (b_sound (n0 := 0) (M0 := M) (ρ0 := []) (w0 := w) r.code c NoA [] M [] w _ _ _ _ h3 ⟨MInv.start (SRel.start hh), ?_, rfl⟩ h ?_))
 ·have := frame_rel hv fn.ntmps
  rw [h5] at this ⊢
  simpa [BRow.start] using this
 ·intro e τ M' ρ' a' w' Ds he hD hS
  have hI := hS.inv
  have key : finN r.res sz xs .ret τ -> LeavesInM (Fw none) 0 P fn a'.tmps (fun e w' => ∃ a cap M', e = .returned (.slice a xs.length cap) /\ M.le M' /\ Holds M' w' /\ Touch [] w w' /\ Newer [] w M M' /\ xs.length <= cap /\ cap <= maxLen /\ (xs = [] -> cap = 0) /\
   (cap = 0 \/ ∃ cb sh c T, a = some ⟨cb, sh, none⟩ /\ w.heap.size <= cb /\ w'.heap[cb]? = some (.cells c T (0, 0)) /\ sh + cap * sz <= c.size /\ (∀ o, M'.cell cb o = none) /\
    CRelC M' (flatE xs) (ones ((c.toList.drop sh).take (flatE xs).length)))) a'.defers .returning w' := by
   intro hk
   rw [hS.nod, List.append_nil]
   refine leaves_marks (fun w2 hI2 => ?_) Ds w' (MInv.more (A' := NoA) hI fun k o (ho : False) => ho.elim) hD.1 fun D hDD => ⟨(hD.2 D hDD).1, (hI.alien D _ (.inr ⟨hDD, rfl⟩)).1, (hI.alien D _ (.inr ⟨hDD, rfl⟩)).2.2⟩
   exact new_key (w := w) h4 hI2 hS.fr hk
  cases e with
  | normal => exact key he
  | exit id => exact he.elim
  | ret => exact key he
theorem bwp_loop {P : Program} {n0 : Nat} {mask : List Bool} {promo : List (Nat × Option Nat × Nat)} {a : BCode} {σ : AState} {Q : AExit -> AState -> Prop} (J : Nat -> AState -> Prop) (m : Nat)
  (h0 : J m (norm mask (promote promo σ).hp.length (promote promo σ)))
  (hs : ∀ (I : AState -> Prop) n τ, J n τ -> (∀ n' τ'', n' < n -> J n' τ'' -> I τ'') -> bwp P n0 a τ (fun e τ' => match e with | .normal => I (norm mask (promote promo σ).hp.length τ') | e => Q e τ')) :
  bwp P n0 (.loop mask promo a) σ Q := by
 simp only [bwp]
 intro I hI
 have key : ∀ n τ, J n τ -> I τ := by
  intro n
  induction n using Nat.strongRecOn with
  | _ n ih => exact fun τ hJ => hI τ (hs I n τ hJ fun n' τ'' hlt hJ' => ih n' hlt τ'' hJ')
 exact key m _ h0
theorem bwp_range {P : Program} {n0 mv p : Nat} {x : AX} {as body : ACode} {fr : List LV} {H : List ABlock} {Q : AExit -> AState -> Prop} {g : FuncId} {caps xs : List SV} (J : List SV -> List ABlock -> Prop) (hx : x.ev fr = .s (.fn g [] caps)) (hok : okFn P g = true)
  (hc : (caps.map LV.s).all LV.isOne = true) (hy : Yields P g caps xs) (hf : ∀ v ∈ xs, v.flat = true) (hn : n0 <= H.length - mv) (h0 : J xs H) (h1 : ∀ H', J [] H' -> Q .normal ⟨below (H.length - mv) fr, H'⟩)
  (hs : ∀ v vs H' (I : List ABlock -> Prop), J (v :: vs) H' -> (∀ H'', J vs H'' -> I H'') -> awp P (H.length - mv) as ⟨fset (below (H.length - mv) fr) p (.s v), H'⟩ fun e σ1 => e = .normal /\ awp P (H.length - mv) body σ1 fun e2 σ2 => match e2 with
   | .normal => I (killed H.length σ2.hp)
   | e2 => Q e2 ⟨below (H.length - mv) fr, killed H.length σ2.hp⟩) :
  bwp P n0 (.rangeF mv x p as body) ⟨fr, H⟩ Q := by
 simp only [bwp, hx]
 refine ⟨hok, hc, xs, hy, hf, hn, ?_⟩
 have key : ∀ (vs : List SV) (H' : List ABlock), J vs H' -> rngK P H.length (H.length - mv) (below (H.length - mv) fr) p as body (fun e H' => Q e ⟨below (H.length - mv) fr, H'⟩) vs H' := by
  intro vs
  induction vs with
  | nil => intro H' hJ; exact h1 H' hJ
  | cons v vs ih => intro H' hJ; exact hs v vs H' _ hJ ih
 exact key xs H h0
theorem fn_same {f : FuncId} {args out : List SV} {R : List SV -> Prop} (h : FnR P f args R) (hr : ∀ rs, R rs -> ∀ M xs, VRelL M rs xs -> VRelL M out xs) : Fn P f args out :=
 fun M w vs hM hv => (h M w vs hM hv).mono fun _ _ ⟨xs, M', rs, h1, h2, h3, h4, h5, h6⟩ => ⟨xs, M', h2, h3, h4, hr rs h1 M' xs h5, h6⟩
theorem vrel_map_perm {M : Mem} {ks vs ks' vs' : List SV} {x : Value} (h : VRel M (.map ks vs) x) (hl : ks.length = vs.length) (hl' : ks'.length = vs'.length) (hp : (ks.zip vs).Perm (ks'.zip vs')) : VRel M (.map ks' vs') x := by
 have h1 := h.one rfl
 refine vrel_of_one ?_ rfl
 simp only [CRel] at h1 ⊢
 obtain ⟨r, e, h2⟩ := h1
 refine ⟨r, e, ?_⟩
 rcases h2 with ⟨rfl, rfl, rfl⟩ | ⟨b, es, kus, vus, rfl, h3, h4, h5, h6, _, h8⟩
 ·have : ks'.zip vs' = [] := by simpa using hp.symm
  have hn : ks' = [] := by
   cases ks' with
   | nil => rfl
   | cons k ks' => cases vs' with
    | nil => simp at hl'
    | cons v vs' => simp at this
  subst hn
  exact .inl ⟨rfl, rfl, List.length_eq_zero_iff.1 hl'.symm⟩
 ·refine .inr ⟨b, es, ?_⟩
  have lk := crelC_zip.1 h4
  have lv := crelC_zip.1 h5
  -- the cells go with what they hold
  have zl : ((ks.zip vs).zip (kus.zip vus)).map Prod.fst = ks.zip vs := List.map_fst_zip (by simp [<- lk.1, <- lv.1])
  obtain ⟨Z, hZ1, hZ2⟩ := perm_map Prod.fst hp.symm _ zl.symm
  have zmm : ∀ {α β γ : Type} (f : α -> β) (g : α -> γ) (l : List α), (l.map f).zip (l.map g) = l.map fun x => (f x, g x) := fun f g l => by induction l with | nil => rfl | cons x l ih => simp [ih]
  have hk' : ks' = Z.map (·.1.1) := by
   have := congrArg (List.map Prod.fst) hZ2
   rw [List.map_fst_zip (by omega), List.map_map] at this; exact this
  have hv' : vs' = Z.map (·.1.2) := by
   have := congrArg (List.map Prod.snd) hZ2
   rw [List.map_snd_zip (by omega), List.map_map] at this; exact this
  have quad : ∀ (ks vs : List SV) (kus vus : List (List Value)), ∀ q ∈ (ks.zip vs).zip (kus.zip vus), (q.1.1, q.2.1) ∈ ks.zip kus /\ (q.1.2, q.2.2) ∈ vs.zip vus := by
   intro ks vs kus vus q hq
   obtain ⟨i, hi⟩ := List.getElem?_of_mem hq
   rw [List.getElem?_zip_eq_some] at hi
   obtain ⟨hi1, hi2⟩ := hi
   rw [List.getElem?_zip_eq_some] at hi1 hi2
   exact ⟨List.mem_of_getElem? (List.getElem?_zip_eq_some.2 ⟨hi1.1, hi2.1⟩), List.mem_of_getElem? (List.getElem?_zip_eq_some.2 ⟨hi1.2, hi2.2⟩)⟩
  refine ⟨Z.map (·.2.1), Z.map (·.2.2), rfl, h3, ?_, ?_, ?_, hl', h8⟩
  ·rw [hk']
   refine crelC_zip.2 ⟨by simp, fun q hq => ?_⟩
   rw [zmm] at hq
   obtain ⟨z, hz, rfl⟩ := List.mem_map.1 hq
   exact lk.2 _ (quad _ _ _ _ z (hZ1.mem_iff.1 hz)).1
  ·rw [hv']
   refine crelC_zip.2 ⟨by simp, fun q hq => ?_⟩
   rw [zmm] at hq
   obtain ⟨z, hz, rfl⟩ := List.mem_map.1 hq
   exact lv.2 _ (quad _ _ _ _ z (hZ1.mem_iff.1 hz)).2
  ·refine h6.trans ?_
   rw [hk', hv', zipWith_zip, zipWith_zip, zipWith_zip, zipWith_zip, zmm, zmm, List.map_map, List.map_map, zmm]
   have := (hZ1.symm.map fun z : (SV × SV) × (List Value × List Value) => (z.1.1.mk z.2.1, z.1.2.mk z.2.2))
   refine .trans (.of_eq ?_) this
   -- the old pairs
   have four : ∀ (ks vs : List SV) (kus vus : List (List Value)), ks.length = kus.length -> vs.length = vus.length -> ks.length = vs.length -> ((ks.zip kus).map fun p => p.1.mk p.2).zip ((vs.zip vus).map fun p => p.1.mk p.2) = ((ks.zip vs).zip (kus.zip vus)).map fun z => (z.1.1.mk z.2.1, z.1.2.mk z.2.2) := by
    intro ks
    induction ks with
    | nil => intro vs kus vus _ _ _; simp
    | cons k ks ih =>
     intro vs kus vus a b c
     match vs, kus, vus with
     | v :: vs, u :: kus, u' :: vus =>
      simp only [List.zip_cons_cons, List.map_cons, List.cons.injEq, true_and]
      exact ih vs kus vus (by simpa using a) (by simpa using b) (by simpa using c)
     | [], _, _ => simp at c
     | v :: vs, [], _ => simp at a
     | v :: vs, u :: kus, [] => simp at b
   exact four ks vs kus vus lk.1 lv.1 hl
end
end Go.E

/- Part of a drawn region: those of its operations that come ahead of all others. -/
namespace Go.E
open Go
section
variable {P : Program} {A : Nat -> Obj -> Prop} {dfs : List Deferred} {M0 : Mem} {ρ0 : Env} {w0 : World} {n0 : Nat} {Q : Exit -> Act -> World -> Prop}
theorem ready_nil {md : Region.Mode} {ops : Array Oper} {l : List Nat} (htopo : topoOk md ops.toList l = true) {listed : Array Bool} (hsz : listed.size = ops.size) (hr : Region.ready md ops listed = []) : remOf ops.size listed = [] := by
 cases hrem : remOf ops.size listed with
 | nil => rfl
 | cons i rest =>
  have hi : i ∈ remOf ops.size listed := by rw [hrem]; simp
  obtain ⟨h1, h2⟩ := mem_rem.1 hi
  unfold topoOk at htopo
  simp only [Bool.and_eq_true, List.all_eq_true] at htopo
  have hil : i ∈ l := List.contains_iff_mem.1 (htopo.2 i (List.mem_range.2 (by simpa using h1)))
  obtain ⟨j, hj⟩ := progress hsz l [] htopo.1 (by simp) ⟨i, hil, h2⟩
  rw [hr] at hj; simp at hj
theorem draw_part {r : Option Nat} {nf : Nat} {ops : Array Oper} {as : List AOper} {md : Region.Mode} {S : Nat -> Bool} {N : Nat} (hN : ρ0.length <= N) (hnt : ∀ x ∈ as, x.op.takes = false) (hok : okOpers P ops.toList as ops.toList = true)
  (htied : tiedOk as (befs ops.toList []) = true) {l : List Nat} (htopo : topoOk md ops.toList l = true) {k : AState -> Prop -> Prop} {B : Nat -> Bool}
  (hready : ∀ (listed : Array Bool) j, listed.size = ops.size -> ClosedL ops.toList (fun i => listed.getD i false = true) -> (∀ i, i < ops.size -> S i = false -> listed.getD i true = B i) -> j ∈ Region.ready md ops listed -> (remOf ops.size listed).filter S ≠ [] -> S j = true)
  (hend : ∀ fuel (listed : Array Bool) τ F' M' ρ' a' w', listed.size = ops.size -> ClosedL ops.toList (fun i => listed.getD i false = true) -> (remOf ops.size listed).length <= fuel -> (remOf ops.size listed).filter S = [] -> (∀ i, i < ops.size -> S i = false -> listed.getD i true = B i) ->
   k τ F' -> F' -> Stands A dfs n0 M0 ρ0 w0 M' ρ' τ a' w' -> wpAnyIn (Fw r) nf P md ops Q fuel listed a' w') :
  ∀ (fuel : Nat) (listed : Array Bool) (σ : AState) (F : Prop) (M : Mem) (ρ : Env) (a : Act) (w : World), listed.size = ops.size -> (remOf ops.size listed).length <= fuel -> ClosedL ops.toList (fun i => listed.getD i false = true) ->
   (∀ i, i < ops.size -> S i = false -> listed.getD i true = B i) -> Stands A dfs n0 M0 ρ0 w0 M ρ σ a w -> F ->
   runI P n0 (((remOf ops.size listed).filter S).filterMap fun i => (as[i]?).map fun x => (N, x)) σ F k -> wpAnyIn (Fw r) nf P md ops Q fuel listed a w := by
 have hlen : as.length = ops.size := by simpa using (okOpers_get hok).1
 intro fuel
 induction fuel with
 | zero =>
  intro listed σ F M ρ a w hsz hfl hcl hB hS hF h
  have hrem : remOf ops.size listed = [] := List.eq_nil_of_length_eq_zero (by omega)
  have hz : (remOf ops.size listed).filter S = [] := by rw [hrem]; rfl
  rw [hz] at h
  exact hend 0 listed σ F M ρ a w hsz hcl hfl hz hB h hF hS
 | succ fuel ih =>
  intro listed σ F M ρ a w hsz hfl hcl hB hS hF h
  by_cases hz : (remOf ops.size listed).filter S = []
  ·rw [hz] at h
   exact hend (fuel + 1) listed σ F M ρ a w hsz hcl hfl hz hB h hF hS
  ·refine ⟨fun hr => ?_, fun j hj => ?_⟩
   ·exact absurd (by rw [ready_nil htopo hsz hr]; rfl) hz
   ·have hSj := hready listed j hsz hcl hB hj hz
    obtain ⟨h1, h2, o, ho, hpre⟩ := ready_iff.1 hj
    obtain ⟨pre, post, e1, e2, e3⟩ := rem_split (mem_rem.2 ⟨h1, h2⟩)
    obtain ⟨y, hy⟩ : ∃ y, as[j]? = some y := ⟨_, List.getElem?_eq_getElem (by omega)⟩
    rw [e1, List.filter_append, List.filter_cons_of_pos hSj, List.filterMap_append, List.filterMap_cons, hy] at h
    have hyok := okOpers_okc hok y (List.mem_of_getElem? hy)
    have hpp : pre.Pairwise (· < ·) := by
     have := rem_pw ops.size listed
     rw [e1, List.pairwise_append] at this
     exact this.1
    have hprem : ∀ i ∈ pre, i ∈ remOf ops.size listed := fun i hi => by rw [e1]; simp [hi]
    have hfront := runI_front (P := P) (n0 := n0) hyok (cls_le _) (pre := (pre.filter S).filterMap fun i => (as[i]?).map fun x => (N, x)) (post := (post.filter S).filterMap fun i => (as[i]?).map fun x => (N, x)) (j := N) (σ := σ) (F := F) (k := k) (fun q hq => by
      obtain ⟨i, hi, hqi⟩ := List.mem_filterMap.1 hq
      have hi := (List.mem_filter.1 hi).1
      simp only [Option.map_eq_some_iff] at hqi
      obtain ⟨x, hx, rfl⟩ := hqi
      have hij := e2 i hi
      refine ⟨okOpers_okc hok x (List.mem_of_getElem? hx), cls_le _, ?_, fun ht => ?_, fun ht => ?_⟩
      ·rcases tiedOk_get htied hij hx hy with h' | h'
       ·exact h'
       ·have hli := befs_spec ops.toList hcl ops.toList [] (fun j => by simp) (fun j hj => by simp at hj) j (fun o' ho' e' he' hb' => by
         rw [Array.getElem?_toList, ho] at ho'
         cases ho'
         exact hpre e' he' (binds_any hb')) i h'
        obtain ⟨hi1, hi2⟩ := mem_rem.1 (hprem i hi)
        have hil : i < listed.size := by omega
        simp only [Array.getD_eq_getD_getElem?, hil, getElem?_pos, Option.getD_some] at hli hi2
        rw [hli] at hi2; cases hi2
      ·have h8 := hnt x (List.mem_of_getElem? hx)
       have h9 := hnt y (List.mem_of_getElem? hy)
       rcases ht with ht | ht
       ·rw [h8] at ht; cases ht
       ·rw [h9] at ht; cases ht
      ·rw [hnt x (List.mem_of_getElem? hx)] at ht; cases ht) (by
      rw [List.pairwise_filterMap]
      refine (hpp.filter _).imp fun {i i'} hlt q hq q' hq' ht => ?_
      simp only [Option.map_eq_some_iff] at hq hq'
      obtain ⟨x, hx, rfl⟩ := hq
      obtain ⟨x', hx', rfl⟩ := hq'
      rw [hnt x' (List.mem_of_getElem? hx')] at ht; cases ht) (fun ht => by rw [hnt y (List.mem_of_getElem? hy)] at ht; cases ht) h
    have hstep : stp P n0 N y σ F fun τ F' => runI P n0 (((remOf ops.size (listed.setIfInBounds j true)).filter S).filterMap fun i => (as[i]?).map fun x => (N, x)) τ F' k := by
     rw [e3, List.filter_append, List.filterMap_append]
     exact hfront
    have hs := stp_soundIn (r := r) (n := nf) (Q := Q) (Kc := wpAnyIn (Fw r) nf P md ops Q fuel (listed.setIfInBounds j true)) hS (fun _ => hN) ((okOpers_get hok).2 j y o hy (by rw [Array.getElem?_toList]; exact ho)) hF hstep (fun τ F' M' ρ' a' w' hk hF' hS' _ => by
      refine ih _ τ F' M' ρ' a' w' (by simp [hsz]) ?_ ?_ ?_ hS' hF' hk
      ·rw [e3]
       rw [e1] at hfl
       simp only [List.length_append, List.length_cons] at hfl ⊢
       omega
      ·intro i o' hi ho' e' he' hb'
       have key : ∀ x, listed.getD x false = true -> (listed.setIfInBounds j true).getD x false = true := fun x hx => getD_set_true hx
       by_cases hij : i = j
       ·subst hij
        rw [Array.getElem?_toList, ho] at ho'
        cases ho'
        exact key _ (hpre e' he' (binds_any hb'))
       ·have : listed.getD i false = true := by rw [getD_set_ne false (fun e => hij e.symm)] at hi; exact hi
        exact key _ (hcl i o' this ho' e' he' hb')
      ·intro i hi hSi
       have hij : j ≠ i := fun e => by subst e; rw [hSj] at hSi; cases hSi
       rw [getD_set_ne true hij]
       exact hB i hi hSi)
    unfold wpOpIn
    rw [ho]
    exact hs
end
end Go.E

/- Iterators. -/
namespace Go.E
open Go
abbrev YK := LV -> Option (List SV) -> Prop -> Prop
def yldK (v : SV) (k : YK) : Option (List SV) -> Prop
 | some (u :: r) => u = v /\ k (.s (.bool true)) (some r) True /\ k (.s (.bool false)) none True
 | _ => False
def LV.isYl : LV -> Bool
 | .yl _ => true
 | _ => false
def ylOk (fr : List LV) : AOp -> LV -> Prop
 | .mov x, v => v = x.ev fr
 | _, v => v.isYl = false
def yopV (P : Program) (rest : Option (List SV)) (x : LV) (k : YK) : LV -> Prop
 | .yl _ => exO (frz [] x) fun v => yldK v k rest
 | v => callvK P [] [x] (fun v H kl f => H = [] /\ kl = none /\ v.isYl = false /\ k v rest f) v
noncomputable def yop (P : Program) (fr : List LV) (rest : Option (List SV)) : AOp -> YK -> Prop
 | .callv f [x], k => yopV P rest (x.ev fr) k (f.ev fr)
 | op, k => aop P 0 0 fr [] op fun v H kl f => H = [] /\ kl = none /\ ylOk fr op v /\ k v rest f
noncomputable def yops (P : Program) : List AOper -> List LV -> Option (List SV) -> Prop -> (List LV -> Option (List SV) -> Prop -> Prop) -> Prop
 | [], fr, rest, F, k => k fr rest F
 | ⟨dst, none, op⟩ :: os, fr, rest, F, k => yop P fr rest op fun v rest' f => yops P os (fpt fr dst v) rest' (F /\ f) k
 | ⟨dst, some (g, want), op⟩ :: os, fr, rest, F, k => grdK want
   (fun b => yop P (fset fr g (.s (.bool b))) rest op fun v rest' f => yops P os (fpt (fset fr g (.s (.bool b))) dst v) rest' (F /\ f) k)
   (fun b => yops P os (fpt (fset fr g (.s (.bool b))) dst (.tup [])) rest F k)
   (yops P os (fpt fr dst (.tup [])) rest F k) (fget fr g)
noncomputable def ywp (P : Program) : ACode -> List LV -> Option (List SV) -> (AExit -> List LV -> Option (List SV) -> Prop) -> Prop
 | .skip, fr, rest, Q => Q .normal fr rest
 | .reg _ ops, fr, rest, Q => yops P ops fr rest True fun fr' rest' F => F -> Q .normal fr' rest'
 | .seq a b, fr, rest, Q => ywp P a fr rest fun e fr' rest' => match e with
  | .normal => ywp P b fr' rest' Q
  | e => Q e fr' rest'
 | .cond x a b, fr, rest, Q => condK (ywp P a fr rest Q) (ywp P b fr rest Q) (x.ev fr)
 | .block id a, fr, rest, Q => ywp P a fr rest fun e fr' rest' => match e with
  | .exit i => if i = id then Q .normal fr' rest' else Q (.exit i) fr' rest'
  | e => Q e fr' rest'
 | .loop mask _ a, fr, rest, Q => ∀ I : List LV -> Option (List SV) -> Prop,
   (∀ fr r, ywp P a fr r (fun e fr' r' => match e with | .normal => I (fmask mask fr') r' | e => Q e fr' r') -> I fr r) -> I (fmask mask fr) rest
 | .exit id, fr, rest, Q => Q (.exit id) fr rest
 | .ret, fr, rest, Q => Q .ret fr rest
 | .scope a, fr, rest, Q => ywp P a fr rest Q
 | .label _, fr, rest, Q => Q .normal fr rest
 | .zap _ _ _, _, _, _ => False
 | .ren _ _ _, _, _, _ => False
def isCv : AOp -> Bool
 | .callv _ _ => true
 | _ => false
def okYD (xs : List AOper) (bs : List Nat) (j : Nat) : Bool :=
 ((xs.take j).all fun a => !isCv a.op) && ((xs.drop (j + 1)).all fun a => !isCv a.op) && decide (j < xs.length) &&
  (List.range xs.length).all fun i => i == j || (if i < j then (bs.getD j 0).testBit i else (bs.getD i 0).testBit j)
def okY : ACode -> Code -> Bool
 | .reg n as, .region _ ops draw => n == 0 && (as.all fun a => !a.op.takes) && (!draw || okYD as (befs ops.toList []) (as.findIdx fun a => isCv a.op))
 | .seq a b, .seq c d => okY a c && okY b d
 | .cond _ a b, .cond _ c d => okY a c && okY b d
 | .block _ a, .block _ c => okY a c
 | .loop _ _ a, .loop c => okY a c
 | .scope a, .scope c => okY a c
 | _, _ => true
section
variable {P : Program}
structure YInv (M : Mem) (W : World) (xs : List SV) (J : List SV -> (Nat -> Prop) -> World -> Prop) (Jx : World -> Prop) (M' : Mem) (rest : Option (List SV)) (w : World) : Prop where
  mem : M.le M'
  newer : Newer [] W M M'
  holds : Holds M' w
  size : W.heap.size <= w.heap.size
  at_ : match rest with
    | some r => ∃ pre O, xs = pre ++ r /\ J pre O w /\ (∀ k, O k -> k < w.heap.size) /\ (∀ b o v, M'.cell b o = some v -> M.cell b o = some v \/ ¬ O b) /\ ∀ b es, M'.map b = some es -> M.map b = some es \/ ¬ O b
    | none => Jx w
variable {M : Mem} {W : World} {xs : List SV} {J : List SV -> (Nat -> Prop) -> World -> Prop} {Jx : World -> Prop}
theorem YInv.step (hJ : ∀ s O A B, J s O A -> Touch [] A B -> J s O B) (hJx : ∀ A B, Jx A -> Touch [] A B -> Jx B) {M' M'' : Mem} {rest : Option (List SV)} {w w' : World} (h : YInv M W xs J Jx M' rest w)
  (hle : M'.le M'') (ht : Touch [] w w') (hn : Newer [] w M' M'') (hh : Holds M'' w') : YInv M W xs J Jx M'' rest w' := by
 refine ⟨Mem.le_trans h.mem hle, ⟨fun b o v hv => ?_, fun b es hv => ?_⟩, hh, Nat.le_trans h.size ht.size, ?_⟩
 ·rcases hn.1 b o v hv with h1 | h1 | h1
  ·exact h.newer.1 b o v h1
  ·exact .inr (.inl (Nat.le_trans h.size h1))
  ·exact absurd h1 (Env.nil_has _)
 ·rcases hn.2 b es hv with h1 | h1 | h1
  ·exact h.newer.2 b es h1
  ·exact .inr (.inl (Nat.le_trans h.size h1))
  ·exact absurd h1 (Env.nil_has _)
 ·have := h.at_
  cases rest with
  | some r =>
   obtain ⟨pre, O, h1, h2, h3, h4, h5⟩ := this
   refine ⟨pre, O, h1, hJ _ _ _ _ h2 ht, fun k hk => Nat.lt_of_lt_of_le (h3 k hk) ht.size, fun b o v hv => ?_, fun b es hv => ?_⟩
   ·rcases hn.1 b o v hv with h6 | h6 | h6
    ·exact h4 b o v h6
    ·exact .inr fun hO => by have := h3 b hO; omega
    ·exact absurd h6 (Env.nil_has _)
   ·rcases hn.2 b es hv with h6 | h6 | h6
    ·exact h5 b es h6
    ·exact .inr fun hO => by have := h3 b hO; omega
    ·exact absurd h6 (Env.nil_has _)
  | none => exact hJx _ _ this ht
structure YFr (M' : Mem) (fr : List LV) (a : Act) : Prop where
  fr : FRel M' [] fr a.tmps.toList
  nod : a.defers = []
theorem yop_else {fr : List LV} {rest : Option (List SV)} {op : AOp} {k : YK} (h : yop P fr rest op k) :
  (∃ f x l, op = .callv f [x] /\ f.ev fr = .yl l /\ exO (frz [] (x.ev fr)) fun v => yldK v k rest) \/ aop P 0 0 fr [] op fun v H kl f => H = [] /\ kl = none /\ ylOk fr op v /\ k v rest f := by
 unfold yop at h
 split at h
 ·rename_i f x
  generalize hv : f.ev fr = v at h
  unfold yopV at h
  split at h
  ·rename_i l; exact .inl ⟨f, x, l, rfl, hv, h⟩
  ·refine .inr ?_
   simp only [aop, List.map_cons, List.map_nil, hv]
   exact h
 ·exact .inr h
theorem yl_val {M' : Mem} {ρ : Env} {l : Nat} {y : Value} (h : LVal M' ρ (.yl l) y) : y = .func (.yield l) #[] #[] := by
 have := h.one rfl (by simp)
 simpa [LRel] using this
theorem yop_sound (hJ : ∀ s O A B, J s O A -> Touch [] A B -> J s O B) (hJx : ∀ A B, Jx A -> Touch [] A B -> Jx B) {l : Nat} (hR : Rounds P M W l xs J Jx) (hxs : ∀ v ∈ xs, v.flat = true) {o : Oper} {fr : List LV} {rest : Option (List SV)} {op : AOp} {k : YK} {M' : Mem} {a : Act} {w : World} {K : Act -> World -> Prop} {Q : Exit -> Act -> World -> Prop}
  (hl : ∀ t l', fget fr t = .yl l' -> l' = l) (hok : okOp P op o.op = true) (hokc : op.okc = true) (hI : YInv M W xs J Jx M' rest w) (hS : YFr M' fr a) (h : yop P fr rest op k)
  (hK : ∀ v rest' f M'' w' y, k v rest' f -> f -> YInv M W xs J Jx M'' rest' w' -> M'.le M'' -> LVal M'' [] v y -> (∀ l', v = .yl l' -> l' = l) -> K (a.put o.dst y) w') : o.wpIn (Fw none) 0 P a w K Q := by
 have hev : ∀ (x : AX) l', x ∈ op.axs -> x.ev fr = .yl l' -> l' = l := fun x l' hx he => by
  cases x with
  | t n => exact hl n l' he
  | c v =>
   simp only [AOp.okc, Bool.and_eq_true, List.all_eq_true] at hokc
   have := hokc.1 (.c v) hx
   simp only [AX.ev] at he
   subst he
   simp [AX.okc, LV.noref, LV.noref1] at this
 rcases yop_else h with ⟨f, x, l', rfl, hf, hy⟩ | h
 ·-- a round
  obtain ⟨yo, xso, ts, ho, hxo, hargs⟩ := inv_callv hok
  obtain ⟨x', hx1, hx2⟩ := okXs_one hargs
  have hv := okX_rel hS.fr hxo
  rw [hf] at hv
  have ey := yl_val hv
  have hll : l' = l := hev f l' (by simp [AOp.axs]) hf
  subst hll
  obtain ⟨v, hfz, hy⟩ := exO_inv hy
  have hxr := frz_nil_val (okX_rel hS.fr hx2) hfz
  unfold yldK at hy
  split at hy
  ·rename_i u r _
   obtain ⟨rfl, h1, h2⟩ := hy
   obtain ⟨pre, O, hpre, hjp, hO1, hO2, hO3⟩ := hI.at_
   obtain ⟨fn, tmps, as, body, hrun, hround⟩ := hR pre u r (a.eval x') O w hpre hjp (hI.holds.mono hI.mem) (hxr.flat M (hxs u (by rw [hpre]; simp)))
   refine ⟨fun _ _ => trivial, ?_⟩
   rw [Oper.semAt_eq _ _ _ (okOp_nodefer hok)]
   have hexec : (execOp a.eval o).run P w = .ok (.round l' fn tmps as body) w := by
    have hxa : xso = #[x'] := by rw [<- Array.toArray_toList (xs := xso), hx1]
    simp [execOp, ho, resolve, ey, Deferred.ofValue, invoke, hxa, hrun]
   rw [hexec]
   simp only [Oper.uponIn]
   refine ⟨fun hh => (by cases hh), RoundIn.mono (n := 0) hround fun e B hB => ?_⟩
   obtain ⟨b, rfl, hsz, hsame, hh, hb1, hb2⟩ := hB
   have hHB : Holds M' B := by
    refine ⟨fun b o v hv => ?_, fun b es hv => ?_⟩
    ·rcases hO2 b o v hv with h3 | h0
     ·exact hh.1 b o v h3
     ·rcases hI.newer.1 b o v hv with h3 | h3 | h3
      ·exact hh.1 b o v h3
      ·rw [cell?_eq (hsame b h3 (World.block_lt_of_cell? w _ (hI.holds.1 b o v hv)) h0)]; exact hI.holds.1 b o v hv
      ·exact absurd h3 (Env.nil_has _)
    ·rcases hO3 b es hv with h3 | h0
     ·exact hh.2 b es h3
     ·rcases hI.newer.2 b es hv with h3 | h3 | h3
      ·exact hh.2 b es h3
      ·have h4 := hI.holds.2 b es hv
       rw [hsame b h3 (Array.getElem?_eq_some_iff.1 h4).1 h0]; exact h4
      ·exact absurd h3 (Env.nil_has _)
   have hszB : W.heap.size <= B.heap.size := Nat.le_trans hI.size hsz
   cases b with
   | true =>
    obtain ⟨O', hj', hO'⟩ := hb1 rfl
    refine hK _ _ _ M' B (.bool true) h1 trivial ⟨hI.mem, hI.newer, hHB, hszB, pre ++ [u], O', by rw [hpre]; simp, hj', fun k hk => (hO' k hk).1, fun b o v hv => ?_, fun b es hv => ?_⟩ M'.le_refl lval_bool (by simp)
    ·rcases hO2 b o v hv with h3 | h0
     ·exact .inl h3
     ·refine .inr fun h9 => ?_
      rcases (hO' b h9).2 with h10 | h10
      ·exact h0 h10
      ·have := World.block_lt_of_cell? w _ (hI.holds.1 b o v hv)
       simp only at this
       omega
    ·rcases hO3 b es hv with h3 | h0
     ·exact .inl h3
     ·refine .inr fun h9 => ?_
      rcases (hO' b h9).2 with h10 | h10
      ·exact h0 h10
      ·have := (Array.getElem?_eq_some_iff.1 (hI.holds.2 b es hv)).1
       omega
   | false => exact hK _ _ _ M' B (.bool false) h2 trivial ⟨hI.mem, hI.newer, hHB, hszB, hb2 rfl⟩ M'.le_refl lval_bool (by simp)
  ·cases hy
 ·refine wpIn_of_wp (okOp_nodefer hok) (op_sound (A := NoA) (M0 := M') (ρ0 := []) (w0 := w) (n0 := 0) (id := 0) (MInv.start (SRel.start hI.holds)) hS.fr (fun _ => Nat.le_refl _) hok h ?_)
  rintro v H' kl f y w' ⟨rfl, rfl, hyl, hk⟩ hf ⟨M'', ρ'', h1, h2, h3, h4⟩
  have hρ : ρ'' = [] := by have := h1.rel.len; simp [killH] at this; exact this
  subst hρ
  refine hK v rest f M'' w' y hk hf (hI.step hJ hJx h1.mem h1.touch h1.newer h1.rel.holds) h1.mem h4 fun l' e => ?_
  subst e
  cases op with
  | mov x => exact hev x l' (by simp [AOp.axs]) hyl.symm
  | _ => cases hyl
theorem fget_fpt {fr : List LV} {dst : Option Nat} {v : LV} {l : Nat} (h : ∀ t l', fget fr t = .yl l' -> l' = l) (hv : ∀ l', v = .yl l' -> l' = l) : ∀ t l', fget (fpt fr dst v) t = .yl l' -> l' = l := by
 intro t l' he
 cases dst with
 | none => exact h t l' he
 | some d =>
  rcases fget_fset fr d t v with e | e
  ·rw [show fpt fr (some d) v = fset fr d v from rfl, e] at he; exact h t l' he
  ·rw [show fpt fr (some d) v = fset fr d v from rfl, e] at he; exact hv l' he
theorem y1_sound (hJ : ∀ s O A B, J s O A -> Touch [] A B -> J s O B) (hJx : ∀ A B, Jx A -> Touch [] A B -> Jx B) {l : Nat} (hR : Rounds P M W l xs J Jx) (hxs : ∀ v ∈ xs, v.flat = true) {ops : Array Oper} {Q : Exit -> Act -> World -> Prop} {Kc : Act -> World -> Prop} {k : List LV -> Option (List SV) -> Prop -> Prop}
  {x : AOper} {as : List AOper} {o : Oper} {fr : List LV} {rest : Option (List SV)} {F : Prop} {M' : Mem} {a : Act} {w : World} (hok1 : okOper P ops.toList x o = true) (hI : YInv M W xs J Jx M' rest w) (hS : YFr M' fr a) (hl : ∀ t l', fget fr t = .yl l' -> l' = l) (hF : F)
  (h : yops P (x :: as) fr rest F k) (hK : ∀ fr' rest' F' M'' a' w', yops P as fr' rest' F' k -> F' -> YInv M W xs J Jx M'' rest' w' -> YFr M'' fr' a' -> (∀ t l', fget fr' t = .yl l' -> l' = l) -> Kc a' w') :
  if Region.wanted o (yielded ops a.tmps) then o.wpIn (Fw none) 0 P a w Kc Q else (∀ f, o.about P w a.eval = some f -> (Fw none).fn f) /\ Kc (a.put o.dst undef) w := by
  obtain ⟨dst, guard, op⟩ := x
  simp only [okOper, Bool.and_eq_true, beq_iff_eq] at hok1
  obtain ⟨⟨⟨hdst, hop⟩, hokc⟩, hgd⟩ := hok1
  subst hdst
  have done : ∀ {k' : YK}, Region.wanted o (yielded ops a.tmps) = true -> yop P fr rest op k' -> (∀ v rest' f, k' v rest' f -> yops P as (fpt fr o.dst v) rest' (F /\ f) k) -> (if Region.wanted o (yielded ops a.tmps) then o.wpIn (Fw none) 0 P a w Kc Q else (∀ f, o.about P w a.eval = some f -> (Fw none).fn f) /\ Kc (a.put o.dst undef) w) := by
   intro k' hw hy hk'
   rw [if_pos hw]
   refine yop_sound hJ hJx hR hxs hl hop hokc hI hS hy fun v rest' f M'' w' y hk hf hI' hle hv hvl => ?_
   exact hK _ _ _ M'' _ w' (hk' v rest' f hk) ⟨hF, hf⟩ hI' ⟨frel_put (hS.fr.mono hle (Env.le_refl _)) hv, by rw [put_defers]; exact hS.nod⟩ (fget_fpt hl hvl)
  have skip : Region.wanted o (yielded ops a.tmps) = false -> yops P as (fpt fr o.dst (.tup [])) rest F k -> (if Region.wanted o (yielded ops a.tmps) then o.wpIn (Fw none) 0 P a w Kc Q else (∀ f, o.about P w a.eval = some f -> (Fw none).fn f) /\ Kc (a.put o.dst undef) w) := by
   intro hw hy
   rw [if_neg (by simp [hw])]
   exact ⟨fun _ _ => trivial, hK _ _ _ M' _ w hy hF hI ⟨frel_put hS.fr (lval_tup (vs := []) (xs := []) rfl), by rw [put_defers]; exact hS.nod⟩ (fget_fpt hl (by simp))⟩
  cases guard with
  | none =>
   have hog : o.guard = none := by
    cases hog : o.guard with
    | none => rfl
    | some p => rw [hog] at hgd; cases hgd
   simp only [yops] at h
   exact done (by simp [Region.wanted, hog]) h fun v rest' f hk => hk
  | some p =>
   obtain ⟨g, want⟩ := p
   cases hog : o.guard with
   | none => rw [hog] at hgd; cases hgd
   | some q =>
    obtain ⟨j, c⟩ := q
    rw [hog] at hgd
    simp only [Bool.and_eq_true, beq_iff_eq] at hgd
    obtain ⟨rfl, hj⟩ := hgd
    have hv := hS.fr.fget g
    have hy := yielded_of (ops := ops) (j := j) (g := g) (by rw [<- hj, Array.getElem?_toList]) hv
    have hwt : Region.wanted o (yielded ops a.tmps) = (yielded ops a.tmps j == some want) := by simp [Region.wanted, hog]
    simp only [yops] at h
    cases hgv : fget fr g with
    | s u =>
     cases u with
     | bool b =>
      have hyb := hy.1 b hgv
      have hfs : fset fr g (.s (.bool b)) = fr := by rw [<- hgv]; exact fset_fget _ _
      rw [hgv] at h
      by_cases hbw : b = want
      ·subst hbw
       have h' : yop P fr rest op fun v rest' f => yops P as (fpt fr o.dst v) rest' (F /\ f) k := by
        cases b <;> simp only [grdK, grdB, bsplit, hfs] at h <;> exact h
       exact done (by rw [hwt, hyb]; simp) h' fun v rest' f hk => hk
      ·refine skip (by rw [hwt, hyb]; simpa using hbw) ?_
       cases b <;> cases want <;> first | exact absurd rfl hbw | (simp only [grdK, grdB, bsplit, hfs] at h; exact h)
     | _ => rw [hgv] at h; exact h.elim
    | tup vs =>
     rw [hgv] at h
     cases vs with
     | nil => exact skip (by rw [hwt, hy.2 hgv]; rfl) h
     | cons => exact h.elim
    | _ => rw [hgv] at h; exact h.elim
theorem yops_sound (hJ : ∀ s O A B, J s O A -> Touch [] A B -> J s O B) (hJx : ∀ A B, Jx A -> Touch [] A B -> Jx B) {l : Nat} (hR : Rounds P M W l xs J Jx) (hxs : ∀ v ∈ xs, v.flat = true) {ops : Array Oper} {Q : Exit -> Act -> World -> Prop} {k : List LV -> Option (List SV) -> Prop -> Prop}
  (hfin : ∀ fr rest F M' a w, k fr rest F -> F -> YInv M W xs J Jx M' rest w -> YFr M' fr a -> (∀ t l', fget fr t = .yl l' -> l' = l) -> Q .normal a w) :
  ∀ (as : List AOper) (os : List Oper) (fr : List LV) (rest : Option (List SV)) (F : Prop) (M' : Mem) (a : Act) (w : World), okOpers P ops.toList as os = true -> YInv M W xs J Jx M' rest w -> YFr M' fr a -> (∀ t l', fget fr t = .yl l' -> l' = l) -> F ->
   yops P as fr rest F k -> wpListIn (Fw none) 0 P ops Q os a w
 | [], [], fr, rest, F, M', a, w, _, hI, hS, hl, hF, h => hfin fr rest F M' a w h hF hI hS hl
 | [], _ :: _, _, _, _, _, _, _, h, _, _, _, _, _ => by simp [okOpers] at h
 | _ :: _, [], _, _, _, _, _, _, h, _, _, _, _, _ => by simp [okOpers] at h
 | x :: as, o :: os, fr, rest, F, M', a, w, hok, hI, hS, hl, hF, h => by
  simp only [okOpers, Bool.and_eq_true] at hok
  obtain ⟨hok1, hok2⟩ := hok
  unfold wpListIn
  exact y1_sound hJ hJx hR hxs hok1 hI hS hl hF h fun fr' rest' F' M'' a' w' hk hF' hI' hS' hl' => yops_sound hJ hJx hR hxs hfin as os fr' rest' F' M'' a' w' hok2 hI' hS' hl' hF' hk
theorem yops_runI {l : Nat} {k : List LV -> Option (List SV) -> Prop -> Prop} {tail : List AOper} {rest : Option (List SV)} : ∀ (pre : List AOper) (fr : List LV) (F : Prop), (∀ x ∈ pre, isCv x.op = false /\ x.op.okc = true /\ x.op.takes = false) -> (∀ t l', fget fr t = .yl l' -> l' = l) ->
  yops P (pre ++ tail) fr rest F k -> runI P 0 (pre.map fun x => (0, x)) ⟨fr, []⟩ F (fun τ F' => τ.hp = [] /\ (∀ t l', fget τ.fr t = .yl l' -> l' = l) /\ yops P tail τ.fr rest F' k)
 | [], fr, F, _, hl, h => ⟨rfl, hl, h⟩
 | ⟨dst, guard, op⟩ :: pre, fr, F, hp, hl, h => by
  obtain ⟨hcv, hokc, htk⟩ := hp ⟨dst, guard, op⟩ (by simp)
  have hp' : ∀ x ∈ pre, isCv x.op = false /\ x.op.okc = true /\ x.op.takes = false := fun x hx => hp x (by simp [hx])
  have hyop : ∀ (fr : List LV) (k' : YK), yop P fr rest op k' -> aop P 0 0 fr [] op fun v H kl f => H = [] /\ kl = none /\ ylOk fr op v /\ k' v rest f := by
   intro fr k' hy
   rcases yop_else hy with ⟨f, x, l', rfl, _⟩ | h
   ·cases hcv
   ·exact h
  have hev : ∀ (fr : List LV) (hl : ∀ t l', fget fr t = .yl l' -> l' = l) (x : AX) l', x ∈ op.axs -> x.ev fr = .yl l' -> l' = l := fun fr hl x l' hx he => by
   cases x with
   | t n => exact hl n l' he
   | c v =>
    simp only [AOp.okc, Bool.and_eq_true, List.all_eq_true] at hokc
    have := hokc.1 (.c v) hx
    simp only [AX.ev] at he
    subst he
    simp [AX.okc, LV.noref, LV.noref1] at this
  have go : ∀ k' : YK, yop P fr rest op k' -> (∀ v rest' f, k' v rest' f -> yops P (pre ++ tail) (fpt fr dst v) rest' (F /\ f) k) -> aop P 0 0 fr [] op fun v H kl f => runI P 0 (pre.map fun x => (0, x)) (AState.put fr H dst v kl) (F /\ f) (fun τ F' => τ.hp = [] /\ (∀ t l', fget τ.fr t = .yl l' -> l' = l) /\ yops P tail τ.fr rest F' k) := by
   intro k' hy hk
   refine aop_mono hokc (fun v H kl f hv => ?_) (hyop fr k' hy)
   obtain ⟨rfl, rfl, hyl, hv⟩ := hv
   rw [put_none]
   refine yops_runI pre _ _ hp' (fget_fpt hl fun l' e => ?_) (hk v rest f hv)
   subst e
   cases op with
   | mov x => exact hev fr hl x l' (by simp [AOp.axs]) hyl.symm
   | _ => cases hyl
  have pass : yops P (pre ++ tail) (fpt fr dst (.tup [])) rest F k -> runI P 0 (pre.map fun x => (0, x)) (AState.put fr [] dst (.tup []) none) F (fun τ F' => τ.hp = [] /\ (∀ t l', fget τ.fr t = .yl l' -> l' = l) /\ yops P tail τ.fr rest F' k) := fun hy => by
   rw [put_none]
   exact yops_runI pre _ _ hp' (fget_fpt hl (by simp)) hy
  simp only [List.map_cons, runI]
  unfold stp
  cases guard with
  | none =>
   simp only [List.cons_append, yops] at h
   simp only [actO, stpG]
   exact go _ h fun v rest' f hv => hv
  | some p =>
   obtain ⟨g, want⟩ := p
   simp only [List.cons_append, yops] at h
   simp only [actO]
   cases hgv : fget fr g with
   | s u =>
    cases u with
    | bool b =>
     have hfs : fset fr g (.s (.bool b)) = fr := by rw [<- hgv]; exact fset_fget _ _
     rw [hgv] at h
     cases want <;> cases b <;> simp only [grdK, grdB, bsplit, hfs] at h <;> simp only [actG, stpG] <;> first
      | exact go _ h fun v rest' f hv => hv
      | exact pass h
    | _ => rw [hgv] at h; exact h.elim
   | tup vs =>
    rw [hgv] at h
    cases vs with
    | nil => exact pass h
    | cons => exact h.elim
   | _ => rw [hgv] at h; exact h.elim
theorem fm_congr {α β : Type} {f g : α -> Option β} : ∀ {l : List α}, (∀ i ∈ l, f i = g i) -> l.filterMap f = l.filterMap g
 | [], _ => rfl
 | i :: l, h => by rw [List.filterMap_cons, List.filterMap_cons, h i (by simp), fm_congr fun j hj => h j (by simp [hj])]
theorem fm_lt {α : Type} : ∀ (xs : List α) (s j : Nat), ((List.range' s xs.length).filter fun i => decide (i < j)).filterMap (fun i => xs[i - s]?) = xs.take (j - s)
 | [], s, j => by simp
 | x :: xs, s, j => by
  rw [List.length_cons, List.range'_succ]
  have ih := fm_lt xs (s + 1) j
  have hsh : ((List.range' (s + 1) xs.length).filter fun i => decide (i < j)).filterMap (fun i => (x :: xs)[i - s]?) = ((List.range' (s + 1) xs.length).filter fun i => decide (i < j)).filterMap (fun i => xs[i - (s + 1)]?) := by
   refine fm_congr fun i hi => ?_
   have := (List.mem_range'_1.1 (List.mem_filter.1 hi).1).1
   rw [show i - s = (i - (s + 1)) + 1 by omega, List.getElem?_cons_succ]
  by_cases h : s < j
  ·rw [List.filter_cons_of_pos (by simpa using h), List.filterMap_cons, Nat.sub_self, hsh, ih, show j - s = (j - (s + 1)) + 1 by omega]
   simp
  ·rw [List.filter_cons_of_neg (by simpa using h), hsh, ih, show j - s = 0 by omega, show j - (s + 1) = 0 by omega]
   simp
theorem fm_gt {α : Type} : ∀ (xs : List α) (s j : Nat), s <= j + 1 -> ((List.range' s xs.length).filter fun i => decide (j < i)).filterMap (fun i => xs[i - s]?) = xs.drop (j + 1 - s)
 | [], s, j, _ => by simp
 | x :: xs, s, j, hs => by
  rw [List.length_cons, List.range'_succ]
  have hsh : ((List.range' (s + 1) xs.length).filter fun i => decide (j < i)).filterMap (fun i => (x :: xs)[i - s]?) = ((List.range' (s + 1) xs.length).filter fun i => decide (j < i)).filterMap (fun i => xs[i - (s + 1)]?) := by
   refine fm_congr fun i hi => ?_
   have := (List.mem_range'_1.1 (List.mem_filter.1 hi).1).1
   rw [show i - s = (i - (s + 1)) + 1 by omega, List.getElem?_cons_succ]
  by_cases h : j < s
  ·have hall : ∀ i ∈ List.range' (s + 1) xs.length, decide (j < i) = true := fun i hi => by have := (List.mem_range'_1.1 hi).1; simp; omega
   have e0 : (List.range' (s + 1) xs.length).filterMap (fun i => xs[i - (s + 1)]?) = xs := by
    have h1 := fm_lt xs (s + 1) (s + 1 + xs.length)
    rw [List.filter_eq_self.2 (fun i hi => by have := (List.mem_range'_1.1 hi).2; simpa using this)] at h1
    rw [h1]; simp
   rw [List.filter_cons_of_pos (by simpa using h), List.filterMap_cons, Nat.sub_self, hsh, List.filter_eq_self.2 hall, e0, show j + 1 - s = 0 by omega]
   simp
  ·rw [List.filter_cons_of_neg (by simpa using h), hsh, fm_gt xs (s + 1) j (by omega), show j + 1 - s = (j + 1 - (s + 1)) + 1 by omega]
   simp
theorem fm_map {α β : Type} (f : α -> β) (xs : List α) : ∀ (is : List Nat), is.filterMap (fun i => (xs[i]?).map f) = (is.filterMap fun i => xs[i]?).map f
 | [] => rfl
 | i :: is => by
  rw [List.filterMap_cons, List.filterMap_cons, fm_map f xs is]
  cases xs[i]? <;> rfl
theorem any_end {F : Fence} {nf : Nat} {md : Region.Mode} {ops : Array Oper} {Q : Exit -> Act -> World -> Prop} {listed : Array Bool} {a : Act} {w : World} (hr : remOf ops.size listed = []) (hq : Q .normal a w) : ∀ fuel, wpAnyIn F nf P md ops Q fuel listed a w := by
 have h0 : Region.ready md ops listed = [] := by
  cases h : Region.ready md ops listed with
  | nil => rfl
  | cons j _ =>
   have hj : j ∈ Region.ready md ops listed := by rw [h]; simp
   obtain ⟨h1, h2, _⟩ := ready_iff.1 hj
   have : j ∈ remOf ops.size listed := mem_rem.2 ⟨h1, h2⟩
   rw [hr] at this; simp at this
 intro fuel
 cases fuel with
 | zero => exact ⟨h0, hq⟩
 | succ fuel => exact ⟨fun _ => hq, fun j hj => by rw [h0] at hj; simp at hj⟩
theorem ydraw_sound (hJ : ∀ s O A B, J s O A -> Touch [] A B -> J s O B) (hJx : ∀ A B, Jx A -> Touch [] A B -> Jx B) {l : Nat} (hR : Rounds P M W l xs J Jx) (hxs : ∀ v ∈ xs, v.flat = true) {ops : Array Oper} {as : List AOper} {md : Region.Mode} {Q : Exit -> Act -> World -> Prop} {k : List LV -> Option (List SV) -> Prop -> Prop} {j : Nat}
  (hnt : ∀ x ∈ as, x.op.takes = false) (hok : okOpers P ops.toList as ops.toList = true) (htied : tiedOk as (befs ops.toList []) = true) {ll : List Nat} (htopo : topoOk md ops.toList ll = true) (hyd : okYD as (befs ops.toList []) j = true)
  (hfin : ∀ fr rest F M' a w, k fr rest F -> F -> YInv M W xs J Jx M' rest w -> YFr M' fr a -> (∀ t l', fget fr t = .yl l' -> l' = l) -> Q .normal a w)
  {fr : List LV} {rest : Option (List SV)} {F : Prop} {M' : Mem} {a : Act} {w : World} (hI : YInv M W xs J Jx M' rest w) (hS : YFr M' fr a) (hl : ∀ t l', fget fr t = .yl l' -> l' = l) (hF : F) (h : yops P as fr rest F k) :
  wpAnyIn (Fw none) 0 P md ops Q ops.size (Array.replicate ops.size false) a w := by
 have hlen : as.length = ops.size := by simpa using (okOpers_get hok).1
 simp only [okYD, Bool.and_eq_true, decide_eq_true_eq, List.all_eq_true, Bool.not_eq_true', List.mem_range, Bool.or_eq_true, beq_iff_eq] at hyd
 obtain ⟨⟨⟨hcv1, hcv2⟩, hj⟩, hbits⟩ := hyd
 have hbl : ∀ i, i < j -> ((befs ops.toList []).getD j 0).testBit i = true := fun i hi => by
  have := hbits i (by omega)
  rcases this with h | h
  ·omega
  ·rwa [if_pos hi] at h
 have hbg : ∀ i, j < i -> i < ops.size -> ((befs ops.toList []).getD i 0).testBit j = true := fun i hi hn => by
  have := hbits i (by omega)
  rcases this with h | h
  ·omega
  ·rwa [if_neg (by omega)] at h
 obtain ⟨y, hy⟩ : ∃ y, as[j]? = some y := ⟨_, List.getElem?_eq_getElem hj⟩
 have hsplit : as = as.take j ++ y :: as.drop (j + 1) := by
  rw [<- List.take_append_drop j as]
  congr 1
  ·simp
  ·rw [List.take_append_drop]; exact List.drop_eq_getElem?_toList_append.trans (by rw [hy]; rfl)
 have hokx := okOpers_okc hok
 have clo : ∀ (listed : Array Bool), ClosedL ops.toList (fun i => listed.getD i false = true) -> ∀ j', j' ∈ Region.ready md ops listed -> ∀ i, ((befs ops.toList []).getD j' 0).testBit i = true -> listed.getD i false = true := by
  intro listed hcl j' hj' i hb
  obtain ⟨h1, h2, o, ho, hpre⟩ := ready_iff.1 hj'
  exact befs_spec ops.toList hcl ops.toList [] (fun j => by simp) (fun j hj => by simp at hj) j' (fun o' ho' e' he' hb' => by
   rw [Array.getElem?_toList, ho] at ho'
   cases ho'
   exact hpre e' he' (binds_any hb')) i hb
 have unl : ∀ (listed : Array Bool) i, i < listed.size -> listed.getD i true = false -> listed.getD i false = true -> False := by
  intro listed i hi h1 h2
  simp only [Array.getD_eq_getD_getElem?, hi, getElem?_pos, Option.getD_some] at h1 h2
  rw [h2] at h1; cases h1
 have st0 : ∀ {M' : Mem} {fr : List LV} {a : Act} {w : World} {rest : Option (List SV)}, YInv M W xs J Jx M' rest w -> YFr M' fr a -> Stands NoA [] 0 M' [] w M' [] ⟨fr, []⟩ a w := fun hI hS => ⟨MInv.start (SRel.start hI.holds), hS.fr, hS.nod⟩
 have stE : ∀ {M' M'' : Mem} {ρ'' : Env} {τ : AState} {a' : Act} {w w' : World} {rest : Option (List SV)}, YInv M W xs J Jx M' rest w -> τ.hp = [] -> Stands NoA [] 0 M' [] w M'' ρ'' τ a' w' -> YInv M W xs J Jx M'' rest w' /\ YFr M'' τ.fr a' := fun {M' M'' ρ'' τ a' w w' rest} hI hh hS => by
  have hρ : ρ'' = [] := by have := hS.inv.rel.len; rw [hh] at this; exact List.length_eq_zero_iff.1 this
  subst hρ
  exact ⟨hI.step hJ hJx hS.inv.mem hS.inv.touch hS.inv.newer hS.inv.rel.holds, hS.fr, hS.nod⟩
 -- what comes ahead of the round
 rw [hsplit] at h
 have h1 := yops_runI (l := l) (as.take j) fr F (fun x hx => ⟨hcv1 x hx, hokx x (List.mem_of_mem_take hx), hnt x (List.mem_of_mem_take hx)⟩) hl h
 refine draw_part (k := fun τ F' => τ.hp = [] /\ (∀ t l', fget τ.fr t = .yl l' -> l' = l) /\ yops P (y :: as.drop (j + 1)) τ.fr rest F' k) (A := NoA) (dfs := []) (n0 := 0) (M0 := M') (ρ0 := []) (w0 := w) (S := fun i => decide (i < j)) (N := 0) (B := fun _ => false) (Nat.le_refl _) hnt hok htied htopo ?_ ?_ ops.size _ ⟨fr, []⟩ F M' [] a w (by simp) (by rw [remOf_all]; simp) ?_ ?_ (st0 hI hS) hF ?_
 ·intro listed j' hsz hcl hB hr hne
  refine decide_eq_true (Nat.lt_of_not_le fun hge => ?_)
  obtain ⟨i0, hi0⟩ := List.exists_mem_of_ne_nil _ hne
  obtain ⟨hi1, hi2⟩ := List.mem_filter.1 hi0
  obtain ⟨hi3, hi4⟩ := mem_rem.1 hi1
  have hi2 : i0 < j := by simpa using hi2
  rcases Nat.eq_or_lt_of_le hge with rfl | hgt
  ·exact unl listed i0 (by omega) hi4 (clo listed hcl j hr i0 (hbl i0 hi2))
  ·have hj's := (ready_iff.1 hr).1
   have := clo listed hcl j' hr j (hbg j' hgt hj's)
   exact unl listed j (by omega) (hB j (by omega) (by simp)) this
 ·intro fuel listed τ F' M2 ρ2 a2 w2 hsz hcl hfl hz hB ⟨hh, hl2, hk⟩ hF2 hS2
  obtain ⟨hI2, hY2⟩ := stE hI hh hS2
  have hpre : ∀ i, i < j -> listed.getD i true = true := fun i hi => by
   cases hb : listed.getD i true with
   | true => rfl
   | false =>
    have : i ∈ (remOf ops.size listed).filter fun i => decide (i < j) := List.mem_filter.2 ⟨mem_rem.2 ⟨by omega, hb⟩, by simpa using hi⟩
    rw [hz] at this; simp at this
  have hjr : j ∈ remOf ops.size listed := mem_rem.2 ⟨by omega, hB j (by omega) (by simp)⟩
  cases fuel with
  | zero => have := List.length_pos_of_mem hjr; omega
  | succ fuel =>
   refine ⟨fun hr => ?_, fun j' hj' => ?_⟩
   ·rw [ready_nil htopo hsz hr] at hjr; simp at hjr
   ·have hjj : j' = j := by
     obtain ⟨h1', h2', _⟩ := ready_iff.1 hj'
     rcases Nat.lt_trichotomy j' j with hlt | rfl | hgt
     ·rw [hpre j' hlt] at h2'; cases h2'
     ·rfl
     ·exact (unl listed j (by omega) (hB j (by omega) (by simp)) (clo listed hcl j' hj' j (hbg j' hgt h1'))).elim
    subst hjj
    obtain ⟨h1', h2', o, ho, hpo⟩ := ready_iff.1 hj'
    unfold wpOpIn
    rw [ho]
    refine y1_sound hJ hJx hR hxs ((okOpers_get hok).2 j' y o hy (by rw [Array.getElem?_toList]; exact ho)) hI2 hY2 hl2 hF2 hk fun fr3 rest3 F3 M3 a3 w3 hk3 hF3 hI3 hY3 hl3 => ?_
    -- what comes behind it
    have h3 := yops_runI (l := l) (tail := []) (as.drop (j' + 1)) fr3 F3 (fun x hx => ⟨hcv2 x hx, hokx x (List.mem_of_mem_drop hx), hnt x (List.mem_of_mem_drop hx)⟩) hl3 (by rw [List.append_nil]; exact hk3)
    obtain ⟨pre, post, e1, e2, e3⟩ := rem_split hjr
    have hnew : ∀ i, i < ops.size -> ¬ j' < i -> (listed.setIfInBounds j' true).getD i true = true := fun i hi hn => by
     rcases Nat.eq_or_lt_of_le (Nat.le_of_not_lt hn) with rfl | hlt
     ·simp [Array.getD_eq_getD_getElem?, hsz, hi]
     ·rw [getD_set_ne true (by omega)]; exact hpre i hlt
    refine draw_part (k := fun τ F' => τ.hp = [] /\ (∀ t l', fget τ.fr t = .yl l' -> l' = l) /\ yops P [] τ.fr rest3 F' k) (A := NoA) (dfs := []) (n0 := 0) (M0 := M3) (ρ0 := []) (w0 := w3) (S := fun i => decide (j' < i)) (N := 0) (B := fun _ => true) (Nat.le_refl _) hnt hok htied htopo ?_ ?_ fuel _ ⟨fr3, []⟩ F3 M3 [] a3 w3 (by simp [hsz]) ?_ ?_ ?_ (st0 hI3 hY3) hF3 ?_
    ·intro listed4 j4 hsz4 hcl4 hB4 hr4 _
     refine decide_eq_true (Nat.lt_of_not_le fun hle => ?_)
     obtain ⟨h5, h6, _⟩ := ready_iff.1 hr4
     rw [hB4 j4 h5 (by simpa using hle)] at h6; cases h6
    ·intro fuel5 listed5 τ5 F5 M5 ρ5 a5 w5 hsz5 hcl5 hfl5 hz5 hB5 ⟨hh5, hl5, hk5⟩ hF5 hS5
     obtain ⟨hI5, hY5⟩ := stE hI3 hh5 hS5
     refine any_end ?_ (hfin τ5.fr rest3 F5 M5 a5 w5 (by simpa only [yops] using hk5) hF5 hI5 hY5 hl5) fuel5
     cases hrem : remOf ops.size listed5 with
     | nil => rfl
     | cons i is =>
      have hi : i ∈ remOf ops.size listed5 := by rw [hrem]; simp
      obtain ⟨h5, h6⟩ := mem_rem.1 hi
      by_cases hji : j' < i
      ·have : i ∈ (remOf ops.size listed5).filter fun i => decide (j' < i) := List.mem_filter.2 ⟨hi, by simpa using hji⟩
       rw [hz5] at this; simp at this
      ·rw [hB5 i h5 (by simpa using hji)] at h6; cases h6
    ·rw [e3]
     rw [e1] at hfl
     simp only [List.length_append, List.length_cons] at hfl ⊢
     omega
    ·intro i o' hi ho' e' he' hb'
     have key : ∀ x, listed.getD x false = true -> (listed.setIfInBounds j' true).getD x false = true := fun x hx => getD_set_true hx
     by_cases hij : i = j'
     ·subst hij
      rw [Array.getElem?_toList, ho] at ho'
      cases ho'
      exact key _ (hpo e' he' (binds_any hb'))
     ·have : listed.getD i false = true := by rw [getD_set_ne false (fun e => hij e.symm)] at hi; exact hi
      exact key _ (hcl i o' this ho' e' he' hb')
    ·intro i hi hS
     exact hnew i hi (by simpa using hS)
    ·have e : (remOf ops.size (listed.setIfInBounds j' true)).filter (fun i => decide (j' < i)) = (List.range ops.size).filter fun i => decide (j' < i) := by
      unfold remOf
      rw [List.filter_filter]
      apply List.filter_congr
      intro i hi
      by_cases hji : j' < i
      ·have := hB i (List.mem_range.1 hi) (by simp; omega)
       rw [getD_set_ne true (by omega), this]
       simp
      ·simp [hji]
     rw [e, fm_map, <- hlen, List.range_eq_range']
     have := fm_gt as 0 j' (by omega)
     simp only [Nat.sub_zero] at this
     rw [this]
     exact h3
 ·intro i o hi
  by_cases hlt : i < ops.size <;> simp [Array.getD_eq_getD_getElem?, hlt] at hi
 ·intro i hi _
  simp [Array.getD_eq_getD_getElem?, hi]
 ·rw [remOf_all, fm_map, <- hlen, List.range_eq_range']
  have := fm_lt as 0 j
  simp only [Nat.sub_zero] at this
  rw [this]
  exact h1
theorem ymask : ∀ (m : List Bool) {fr : List LV} {l : Nat}, (∀ t l', fget fr t = .yl l' -> l' = l) -> ∀ t l', fget (fmask m fr) t = .yl l' -> l' = l
 | [], fr, l, h, t, l', he => by rw [show fmask [] fr = fr by cases fr <;> rfl] at he; exact h t l' he
 | b :: m, [], l, h, t, l', he => by rw [show fmask (b :: m) [] = [] by cases b <;> rfl] at he; simp [fget] at he
 | true :: m, v :: vs, l, h, 0, l', he => h 0 l' he
 | false :: m, v :: vs, l, h, 0, l', he => by simp [fmask, fget] at he
 | true :: m, v :: vs, l, h, t + 1, l', he => ymask m (fr := vs) (fun t l' he => h (t + 1) l' he) t l' he
 | false :: m, v :: vs, l, h, t + 1, l', he => ymask m (fr := vs) (fun t l' he => h (t + 1) l' he) t l' he
theorem ywp_sound (hJ : ∀ s O A B, J s O A -> Touch [] A B -> J s O B) (hJx : ∀ A B, Jx A -> Touch [] A B -> Jx B) {l : Nat} (hR : Rounds P M W l xs J Jx) (hxs : ∀ v ∈ xs, v.flat = true) {nt : Nat} :
  ∀ (ac : ACode) (c : Code) (fr : List LV) (rest : Option (List SV)) (QA : AExit -> List LV -> Option (List SV) -> Prop) (Q : Exit -> Act -> World -> Prop) (M' : Mem) (a : Act) (w : World), okCode P nt ac c = true -> okY ac c = true -> YInv M W xs J Jx M' rest w -> YFr M' fr a -> (∀ t l', fget fr t = .yl l' -> l' = l) -> ywp P ac fr rest QA ->
   (∀ e fr' rest' M'' a' w', QA e fr' rest' -> YInv M W xs J Jx M'' rest' w' -> YFr M'' fr' a' -> (∀ t l', fget fr' t = .yl l' -> l' = l) -> Q (exitOf e) a' w') -> c.wpIn (Fw none) 0 P Q a w := by
 intro ac
 induction ac with
 | skip =>
  intro c fr rest QA Q M' a w hok hy hI hS hl h hQ
  cases c <;> simp only [okCode] at hok <;> try cases hok
  exact wpIn_skip (hQ .normal fr rest M' a w h hI hS hl)
 | reg n as =>
  intro c fr rest QA Q M' a w hok hy hI hS hl h hQ
  cases c <;> try (simp only [okCode] at hok; cases hok; done)
  rename_i id ops draw
  simp only [okY, Bool.and_eq_true, List.all_eq_true, Bool.not_eq_true', Bool.or_eq_true] at hy
  obtain ⟨⟨_, hnt⟩, hyd⟩ := hy
  simp only [okCode, Bool.and_eq_true, Bool.or_eq_true, Bool.not_eq_true', beq_iff_eq] at hok
  obtain ⟨⟨hok, _⟩, hd⟩ := hok
  simp only [ywp] at h
  cases draw with
  | false => exact wpIn_region_list (yops_sound hJ hJx hR hxs (fun fr rest F M' a w hk hF hI hS hl => hQ .normal fr rest M' a w (hk hF) hI hS hl) as ops.toList fr rest True M' a w hok hI hS hl trivial h)
  | true =>
   rcases hd with hd | ⟨htied, htopo⟩
   ·cases hd
   rcases hyd with hyd | hyd
   ·cases hyd
   refine wpIn_region_draw fun t => ?_
   have hw : YInv M W xs J Jx M' rest { w with drawn := w.drawn + 1 } := hI.step hJ hJx M'.le_refl ⟨rfl, rfl, rfl, Nat.le_succ _, Nat.le_refl _, fun _ _ _ => rfl⟩ (Newer.refl _ _ _) (hI.holds.grow ⟨rfl, rfl, rfl, Nat.le_succ _, Nat.le_refl _, fun _ _ _ => rfl⟩)
   have any : ∀ md l t, topoOk md ops.toList l = true -> wpOpsIn (Fw none) 0 P ops Q (Region.linearise md ops t) a { w with drawn := w.drawn + 1 } := fun md l' t htp =>
    wpAnyIn_sound ops.size t _ a _ (ydraw_sound hJ hJx hR hxs hnt hok htied htp hyd (fun fr rest F M' a w hk hF hI hS hl => hQ .normal fr rest M' a w (hk hF) hI hS hl) hw hS hl trivial h)
   unfold Region.schedule
   split
   ·rename_i hm
    rw [if_pos (by simpa using hm)] at htopo
    exact any .any _ t htopo
   ·rename_i hm
    rw [if_neg (by simpa using hm)] at htopo
    simp only [Bool.and_eq_true] at htopo
    split
    ·exact any .text _ _ htopo.1
    ·exact any .gc _ _ htopo.2
 | seq x y ihx ihy =>
  intro c fr rest QA Q M' a w hok hy hI hS hl h hQ
  cases c <;> simp only [okCode, Bool.and_eq_true] at hok <;> try cases hok
  rename_i h1 h2
  simp only [okY, Bool.and_eq_true] at hy
  simp only [ywp] at h
  refine wpIn_seq (ihx _ fr rest _ _ M' a w h1 hy.1 hI hS hl h fun e fr' rest' M'' a' w' he hI' hS' hl' => ?_)
  cases e with
  | normal => exact ihy _ fr' rest' _ _ M'' a' w' h2 hy.2 hI' hS' hl' he hQ
  | exit id => exact hQ (.exit id) fr' rest' M'' a' w' he hI' hS' hl'
  | ret => exact hQ .ret fr' rest' M'' a' w' he hI' hS' hl'
 | cond x A B iha ihb =>
  intro c fr rest QA Q M' a w hok hy hI hS hl h hQ
  cases c <;> simp only [okCode, Bool.and_eq_true] at hok <;> try cases hok
  rename_i h1 h2
  obtain ⟨h1, h3⟩ := h1
  simp only [okY, Bool.and_eq_true] at hy
  have hv := okX_rel hS.fr h1
  simp only [ywp] at h
  unfold condK at h
  split at h
  ·rename_i t hx
   have hb := lrel_bool hx hv
   refine wpIn_cond_split hb (fun ht => ?_) (fun ht => ?_)
   ·subst ht; exact iha _ fr rest _ _ M' a w h3 hy.1 hI hS hl h hQ
   ·subst ht; exact ihb _ fr rest _ _ M' a w h2 hy.2 hI hS hl h hQ
  ·cases h
 | block id x ih =>
  intro c fr rest QA Q M' a w hok hy hI hS hl h hQ
  cases c <;> simp only [okCode, Bool.and_eq_true, beq_iff_eq] at hok <;> try cases hok
  rename_i h1 h2
  subst h1
  simp only [okY] at hy
  simp only [ywp] at h
  refine wpIn_block (ih _ fr rest _ _ M' a w h2 hy hI hS hl h fun e fr' rest' M'' a' w' he hI' hS' hl' => ?_)
  cases e with
  | normal => exact hQ .normal fr' rest' M'' a' w' he hI' hS' hl'
  | exit i =>
   simp only at he
   simp only [exitOf, Exit.inBlock]
   split
   ·rename_i hi; rw [if_pos hi] at he; exact hQ .normal fr' rest' M'' a' w' he hI' hS' hl'
   ·rename_i hi; rw [if_neg hi] at he; exact hQ (.exit i) fr' rest' M'' a' w' he hI' hS' hl'
  | ret => exact hQ .ret fr' rest' M'' a' w' he hI' hS' hl'
 | loop mask promo x ih =>
  intro c fr rest QA Q M' a w hok hy hI hS hl h hQ
  cases c <;> simp only [okCode] at hok <;> try cases hok
  rename_i c
  simp only [okY] at hy
  simp only [ywp] at h
  have hI' := h (fun fr rest => ∀ M' a w, YInv M W xs J Jx M' rest w -> YFr M' fr a -> (∀ t l', fget fr t = .yl l' -> l' = l) -> ∀ (b : Frame) (k : List Item) (cs : List Frame), b.roundOf = (Fw none).round -> (Fw none).fn b.fn -> (Fw none).room (cs.length + 1 + 0) -> ∃ e a' w', Q e a' w' /\ ArrivesIn (Machine.fenced P (Fw none)) P (lone (b.atR a (.code c :: .inLoop c :: k)) cs w) b k cs e a' w') (by
   intro fr rest hb M' a w hI hS hl b k cs hro hfn hrm
   have hbody := ih c fr rest _ (Exit.then (fun a' w' => ∀ (b : Frame) (k : List Item) (cs : List Frame), b.roundOf = (Fw none).round -> (Fw none).fn b.fn -> (Fw none).room (cs.length + 1 + 0) -> ∃ e a'' w'', Q e a'' w'' /\ ArrivesIn (Machine.fenced P (Fw none)) P (lone (b.atR a' (.code c :: .inLoop c :: k)) cs w') b k cs e a'' w'') Q) M' a w hok hy hI hS hl hb (fun e fr' rest' M'' a' w' he hI' hS' hl' => by
    cases e with
    | normal => exact he M'' a' w' hI' ⟨hS'.fr.mask mask, hS'.nod⟩ (ymask mask hl')
    | exit id => exact hQ (.exit id) fr' rest' M'' a' w' he hI' hS' hl'
    | ret => exact hQ .ret fr' rest' M'' a' w' he hI' hS' hl')
   obtain ⟨e, a₁, w₁, hq, harr⟩ := hbody b (.inLoop c :: k) cs hro hfn hrm
   cases e with
   | normal =>
    obtain ⟨e₂, a₂, w₂, hq₂, harr₂⟩ := hq b k cs hro hfn hrm
    exact ⟨e₂, a₂, w₂, hq₂, .of_steps (StepsIn.trans harr (.one (fenced_calm hfn hrm rfl) stepR_inLoop)) harr₂⟩
   | exit id => exact ⟨_, a₁, w₁, hq, .pass (x := .inLoop c) rfl (fun _ _ => .inl (by simp)) harr⟩
   | goto l => exact ⟨_, a₁, w₁, hq, .pass (x := .inLoop c) rfl (fun _ _ => .inl (by simp)) harr⟩
   | ret => exact ⟨_, a₁, w₁, hq, .pass (x := .inLoop c) rfl (fun _ _ => .inl (by simp)) harr⟩
   | panic ch => exact ⟨_, a₁, w₁, hq, .pass (x := .inLoop c) rfl (fun _ _ => .inl (by simp)) harr⟩
   | outgrown => exact ⟨_, a₁, w₁, hq, .pass (x := .inLoop c) rfl (fun _ _ => .inl (by simp)) harr⟩)
  intro b k cs hro hfn hrm
  obtain ⟨e, a', w', hq, harr⟩ := hI' M' a w hI ⟨hS.fr.mask mask, hS.nod⟩ (ymask mask hl) b k cs hro hfn hrm
  exact ⟨e, a', w', hq, .of_steps (.one (fenced_calm hfn hrm rfl) stepR_loop) harr⟩
 | exit id =>
  intro c fr rest QA Q M' a w hok hy hI hS hl h hQ
  cases c <;> simp only [okCode, beq_iff_eq] at hok <;> try cases hok
  exact wpIn_exit (hQ (.exit id) fr rest M' a w h hI hS hl)
 | ret =>
  intro c fr rest QA Q M' a w hok hy hI hS hl h hQ
  cases c <;> simp only [okCode] at hok <;> try cases hok
  exact wpIn_ret (hQ .ret fr rest M' a w h hI hS hl)
 | zap t off x ih =>
  intro c fr rest QA Q M' a w hok hy hI hS hl h hQ
  exact h.elim
 | ren t off x ih =>
  intro c fr rest QA Q M' a w hok hy hI hS hl h hQ
  exact h.elim
 | scope x ih =>
  intro c fr rest QA Q M' a w hok hy hI hS hl h hQ
  cases c <;> simp only [okCode] at hok <;> try cases hok
  simp only [okY] at hy
  refine wpIn_scope_straight (ih _ fr rest QA _ M' a w hok hy hI hS hl h fun e fr' rest' M'' a' w' he hI' hS' hl' => ?_)
  cases e with
  | normal => exact hQ .normal fr' rest' M'' a' w' he hI' hS' hl'
  | exit id => exact hQ (.exit id) fr' rest' M'' a' w' he hI' hS' hl'
  | ret => exact hQ .ret fr' rest' M'' a' w' he hI' hS' hl'
 | label l' =>
  intro c fr rest QA Q M' a w hok hy hI hS hl h hQ
  cases c <;> simp only [okCode] at hok <;> try cases hok
  exact wpIn_label (hQ .normal fr rest M' a w h hI hS hl)
def finY (e : AExit) (_ : List LV) (rest : Option (List SV)) : Prop :=
 match e with
 | .exit _ => False
 | _ => rest = some [] \/ rest = none
theorem yields_of_row {g : FuncId} {fn : Func} {c : Code} {ac : ACode} {nt : Nat} {caps xs : List SV} (h1 : P.funcs[g]? = some fn) (h2 : fn.body = some c) (h3 : okCode P 0 ac c = true) (h4 : okY ac c = true) (h5 : fn.results = #[]) (h6 : fn.ntmps = nt) (hxs : ∀ v ∈ xs, v.flat = true)
  (h : ∀ l, ywp P ac (.yl l :: caps.map .s ++ List.replicate (nt - (caps.length + 1)) .any) (some xs) finY) : Yields P g caps xs := by
 intro M W lb l J Jx hh hv hJ hJx hR hj0
 have hlen := hv.length
 refine calls_of_wp h1 h2 ((wpIn_wide (n := 0)).1 (ywp_sound hJ hJx hR hxs ac c _ (some xs) _ _ M _ W h3 h4 ⟨M.le_refl, Newer.refl _ _ _, hh, Nat.le_refl _, [], fun _ => False, rfl, hj0, fun _ h => h.elim, fun _ _ _ h => .inl h, fun _ _ h => .inl h⟩ ⟨?_, rfl⟩ ?_ (h l) ?_))
 ·have h0 : FRel M [] (.yl l :: caps.map .s) (.func (.yield l) #[] #[] :: lb) := ⟨_, _, rfl, lval_of_one (by simp [LRel]) rfl, frel_of_vrelL hv⟩
  have := h0.append (frel_any (M := M) (ρ := []) (nt - (caps.length + 1)) undef)
  simpa [h6, hlen, Nat.add_comm] using this
 ·intro t l' he
  have key : ∀ (fr : List LV), (∀ v ∈ fr, ∀ l', v = .yl l' -> l' = l) -> ∀ t l', fget fr t = .yl l' -> l' = l := by
   intro fr
   induction fr with
   | nil => intro _ t l' he; simp [fget] at he
   | cons v fr ih =>
    intro hfr t l' he
    cases t with
    | zero => exact hfr v (by simp) l' he
    | succ t => exact ih (fun v hv => hfr v (by simp [hv])) t l' he
  refine key _ (fun v hv l' e => ?_) t l' he
  subst e
  simp only [List.cons_append, List.mem_cons, List.mem_append, List.mem_map, List.mem_replicate] at hv
  rcases hv with hv | ⟨_, _, hv⟩ | hv
  ·cases hv; rfl
  ·cases hv
  ·cases hv.2
 ·intro e fr' rest' M'' a' w' he hI' hS' _
  have fin : (rest' = some [] \/ rest' = none) -> ∃ v, (results fn a'.tmps).run P w' = .ok v w' /\ ((∃ v', Ending.returned v = .returned v') /\ ((∃ O, J xs O w') \/ Jx w')) := by
   intro hr
   refine ⟨retOf [], results_of (by rw [h5]; simp), ⟨_, rfl⟩, ?_⟩
   have := hI'.at_
   rcases hr with rfl | rfl
   ·obtain ⟨pre, O, h7, h8, _⟩ := this; rw [List.append_nil] at h7; subst h7; exact .inl ⟨O, h8⟩
   ·exact .inr this
  cases e with
  | normal => exact ⟨hS'.nod, fin he⟩
  | exit id => exact he.elim
  | ret => exact ⟨hS'.nod, fin he⟩
end
end Go.E

/- Functions that hold ranges over functions, reckoned. -/
namespace Go.E
open Go
def exR (P : Program) (C : Tab) (L n m : Nat) (fr : List LV) (p : Nat) (as body : ACode) : List SV -> List ABlock -> Option (AExit × List ABlock)
 | [], H => some (.normal, H)
 | v :: vs, H => match exC P C m L as { fr := fset fr p (.s v), hp := H } with
  | some (.normal, σ1) => match exC P C m L body σ1 with
   | some (.normal, σ2) => exR P C L n m fr p as body vs (killed n σ2.hp)
   | some (e, σ2) => some (e, killed n σ2.hp)
   | none => none
  | _ => none
def belowX (m : Nat) (fr : List LV) : List LV := fr.map (fgtX fun b => Nat.ble m b)
def exB (P : Program) (C : Tab) (Y : FuncId -> List SV -> Option (List SV)) (n0 L : Nat) : BCode -> AState -> Option (AExit × AState)
 | .code a, σ => exC P C n0 L a σ
 | .seq a b, σ => match exB P C Y n0 L a σ with
  | some (.normal, τ) => exB P C Y n0 L b τ
  | some (e, τ) => some (e, τ)
  | none => none
 | .cond x a b, σ => match x.ev σ.fr with
  | .s (.bool true) => exB P C Y n0 L a σ
  | .s (.bool false) => exB P C Y n0 L b σ
  | _ => none
 | .block id a, σ => match exB P C Y n0 L a σ with
  | some (.exit i, τ) => if i = id then some (.normal, τ) else some (.exit i, τ)
  | some (e, τ) => some (e, τ)
  | none => none
 | .loop mask promo a, σ => iter (exB P C Y n0 L a) (normX mask (promote promo σ).hp.length) L (normX mask (promote promo σ).hp.length (promote promo σ))
 | .scope a, σ => exB P C Y n0 L a σ
 | .rangeF mv x p as body, σ => match x.ev σ.fr with
  | .s (.fn g [] caps) => if C.ok g = true /\ (caps.map LV.s).all LV.isOne = true /\ n0 <= σ.hp.length - mv then match Y g caps with
    | some xs => if xs.all SV.flat = true then match exR P C L σ.hp.length (σ.hp.length - mv) (belowX (σ.hp.length - mv) σ.fr) p as body xs σ.hp with
      | some (e, H) => some (e, { fr := belowX (σ.hp.length - mv) σ.fr, hp := H })
      | none => none
     else none
    | none => none
   else none
  | _ => none
 | .promo ps a, σ => exB P C Y n0 L a (promote ps σ)
 | .pin t a, σ => match fget σ.fr t with
  | .loc b 0 => match σ.hp[b]? with
   | some (.obj cs) => match frzAll (frz []) cs with
    | some vs => exB P C Y n0 L a { fr := fset σ.fr t (.s (.ptr vs)), hp := σ.hp.set b (.frz vs) }
    | none => none
   | _ => none
  | _ => none
section
variable {P : Program} {C : Tab}
end
end Go.E
