/- Each operation of the value semantics is borne out by the model: calls that write a row of their caller's; loads and stores of one kind of block. -/
import Derived.Test.YtmcjoahnlbckoaaJ2
import Derived.MapKept
import Derived.TacticsIn
import Derived.OrdersIn

set_option linter.all false

namespace Go.E
open Go
section
variable {P : Program} {A : Nat -> Obj -> Prop} {dfs : List Deferred} {M0 : Mem} {ρ0 : Env} {w0 : World} {M : Mem} {ρ : Env} {H : List ABlock} {w : World} {o : Oper} {a : Act} {K : Act -> World -> Prop} {Q : Exit -> Act -> World -> Prop} {fr : List LV} {k : AK} {n0 id : Nat}
theorem frel_of_vrelL' : ∀ {vs : List SV} {xs : List Value}, VRelL M vs xs -> FRel M ρ (vs.map .s) xs
 | [], xs, h => h
 | v :: vs, xs, h => by obtain ⟨y, ys, rfl, h1, h2⟩ := h; exact ⟨y, ys, rfl, lval_s.2 h1, frel_of_vrelL' h2⟩
theorem MInv.reblk0 {H : List ABlock} (h : MInv A n0 M0 ρ0 w0 M ρ H w) {b : Nat} {B' : ABlock} (hB : ∀ r, ρ[b]? = some r -> BRel M ρ w B' r) : MInv A n0 M0 ρ0 w0 M ρ (H.set b B') w :=
  { h with
    rel := { h.rel with
      len := by simpa using h.rel.len
      blk := fun i B r hBi hr => by
        rw [List.getElem?_set] at hBi
        split at hBi
        · rename_i e; subst e
          split at hBi
          · cases hBi; exact hB r hr
          · cases hBi
        · exact h.rel.blk i B r hBi hr } }
theorem ld_of_ldO {n : Nat} {g : Bool} {v : LV} (h : ldOK H n g k v) : ldK H n g k v := by
 unfold ldOK at h
 split at h
 ·exact h
 ·unfold ldOB at h
  split at h
  ·rename_i hB; simp only [ldK, hB, ldB]; exact h
  ·cases h
 ·cases h
theorem st_of_stR {n : Nat} {x v : LV} (h : stRK H n x k v) : stK H n x k v := by
 unfold stRK at h
 split at h
 ·unfold stRB at h
  split at h
  ·rename_i hB; simp only [stK, hB, stB]; exact h
  ·cases h
 ·cases h
theorem snd_loadO (hI : MInv A n0 M0 ρ0 w0 M ρ H w) (hf : FRel M ρ fr a.tmps.toList) {n : Nat} {g : Bool} {x : AX} (hok : okOp P (.loadO n g x) o.op = true) (h : aop P n0 id fr H (.loadO n g x) k)
  (hK : ∀ v H' kl f x w', k v H' kl f -> f -> Nxt A n0 M0 ρ0 w0 M ρ id v H' kl x w' -> K (a.put o.dst x) w') : o.wp P a w K Q :=
 snd_load (n0 := n0) hI hf (n := n) (g := g) (x := x) (by revert hok; cases o.op <;> exact id') (ld_of_ldO h) hK
 where id' {p : Prop} (h : p) : p := h
theorem snd_loadX (hI : MInv A n0 M0 ρ0 w0 M ρ H w) (hf : FRel M ρ fr a.tmps.toList) {n r : Nat} {g : Bool} {x : AX} (hok : okOp P (.loadX n g x r) o.op = true) (h : aop P n0 id fr H (.loadX n g x r) k)
  (hK : ∀ v H' kl f x w', k v H' kl f -> f -> Nxt A n0 M0 ρ0 w0 M ρ id v H' kl x w' -> K (a.put o.dst x) w') : o.wp P a w K Q :=
 snd_load (n0 := n0) hI hf (n := n) (g := g) (x := x) (by revert hok; cases o.op <;> exact id') (ld_of_ldO h.2) hK
 where id' {p : Prop} (h : p) : p := h
theorem snd_loadS (hI : MInv A n0 M0 ρ0 w0 M ρ H w) (hf : FRel M ρ fr a.tmps.toList) {n : Nat} {g : Bool} {x : AX} (hok : okOp P (.loadS n g x) o.op = true) (h : aop P n0 id fr H (.loadS n g x) k)
  (hK : ∀ v H' kl f x w', k v H' kl f -> f -> Nxt A n0 M0 ρ0 w0 M ρ id v H' kl x w' -> K (a.put o.dst x) w') : o.wp P a w K Q :=
 snd_load (n0 := n0) hI hf (n := n) (g := g) (x := x) (by revert hok; cases o.op <;> exact id') (by
  simp only [aop] at h ⊢
  unfold ldSK at h
  split at h
  ·rename_i e; rw [e]; exact h
  ·cases h) hK
 where id' {p : Prop} (h : p) : p := h
theorem snd_storeR (hI : MInv A n0 M0 ρ0 w0 M ρ H w) (hf : FRel M ρ fr a.tmps.toList) {n : Nat} {x y : AX} (hok : okOp P (.storeR n x y) o.op = true) (h : aop P n0 id fr H (.storeR n x y) k)
  (hK : ∀ v H' kl f x w', k v H' kl f -> f -> Nxt A n0 M0 ρ0 w0 M ρ id v H' kl x w' -> K (a.put o.dst x) w') : o.wp P a w K Q :=
 snd_store (n0 := n0) hI hf (n := n) (x := x) (y := y) (by revert hok; cases o.op <;> exact id') (st_of_stR h) hK
 where id' {p : Prop} (h : p) : p := h
theorem inv_callF {f : FuncId} {s : AX} {args : List AX} {o : Op} (h : okOp P (.callF f s args) o = true) : ∃ xs ts, o = .call { callee := .value (.func f), args := xs, argTypes := ts } /\ okXs (s :: args) xs.toList = true /\ okFn P f = true := by
 cases o <;> first | exact Bool.noConfusion (show false = true from h) | skip
 rename_i c
 obtain ⟨callee, xs, ts⟩ := c
 cases callee <;> first | exact Bool.noConfusion (show false = true from h) | skip
 rename_i y
 cases y <;> first | exact Bool.noConfusion (show false = true from h) | skip
 simp only [okOp, Bool.and_eq_true, beq_iff_eq] at h
 obtain ⟨⟨rfl, h1⟩, h2⟩ := h
 exact ⟨_, _, rfl, h1, h2⟩
theorem up_but {cb : Nat} (hn : ∀ o, M.cell cb o = none) {ρ1 : Env} (hh : ¬ ρ1.has cb) (o' : Nat) : (M.up ρ1 w).cell cb o' = none := by
 simp only [Mem.up, hn, if_neg hh]
theorem SRel.stab_but (h : SRel M ρ H w) {b : Nat} {i : Nat} {B : ABlock} {r : Spot} (hB : (H.set b .gone)[i]? = some B) (hr : ρ[i]? = some r) : BStab M (M.up (ρ.set b .gone) w) ρ B r := by
 rw [List.getElem?_set] at hB
 split at hB
 ·split at hB
  ·cases hB; simp only [BStab]
  ·cases hB
 ·rename_i hne
  have hb := h.blk i B r hB hr
  have hhas : ∀ cb sh n, r = .here cb sh n -> Env.has (ρ.set b .gone) cb := fun cb sh n e => ⟨i, sh, n, by rw [List.getElem?_set, if_neg hne, hr, e]⟩
  cases B <;> cases r <;> simp only [BRel, BStab] at * <;> try exact hb
  case obj.here cs cb sh n =>
   obtain ⟨c, T, h1, h2, h3, h4, h5, h6⟩ := hb
   subst h4
   exact ⟨c.toList, h5, fun j v hj => Mem.up_own (hhas cb 0 n rfl) (h6 _) (by rw [heap_cell? h1]; simpa using hj)⟩
  case row.here cs cb sh n =>
   obtain ⟨c, T, h1, h2, h3, h5, h6⟩ := hb
   exact ⟨_, h5, fun j v hj => Mem.up_own (hhas cb sh n rfl) (h6 _) (by rw [heap_cell? h1]; simpa using take_drop_get j v hj)⟩
  case frz.here cs cb sh n =>
   obtain ⟨us, h1, h2⟩ := hb
   exact ⟨us, h1, h2.mono (Mem.le_up M _ w)⟩
  case map.here ks vs cb sh n =>
   obtain ⟨es, clock, kus, vus, h1, h2, h3, h4, h5, h6⟩ := hb
   refine ⟨kus, vus, (es, clock), h2, h3, h4, ?_, h5, h6.2⟩
   simp only [Mem.up, h6.1, if_pos (hhas cb sh n rfl), h1]
  case frzm.here ks vs cb sh n =>
   obtain ⟨kus, vus, es, h1, h2, h3, h4, h5⟩ := hb
   exact ⟨kus, vus, es, h1, h2, h3, (Mem.le_up M _ w).2 _ _ h4, h5⟩
def Mem.layAt (M : Mem) (cb sh : Nat) (us : List Value) : Mem := { cell := fun b o => if b = cb then (if sh <= o then us[o - sh]? else none) else M.cell b o, map := M.map }
theorem layAt_le {cb sh : Nat} {us : List Value} (hn : ∀ o, M.cell cb o = none) : M.le (M.layAt cb sh us) :=
 ⟨fun b o v hv => by
  have : b ≠ cb := fun e => by subst e; rw [hn] at hv; cases hv
  simp only [Mem.layAt, if_neg this]; exact hv, fun _ _ h => h⟩
theorem layAt_at {cb sh : Nat} {us : List Value} : (M.layAt cb sh us).At cb sh us := fun j v hj => by
 simp only [Mem.layAt, if_true, if_pos (Nat.le_add_right sh j), Nat.add_sub_cancel_left]; exact hj
theorem has_one {cb sh n b : Nat} : Env.has [.here cb sh n] b ↔ b = cb := by
 constructor
 ·rintro ⟨i, sh', n', h⟩
  cases i with
  | zero => simp at h; exact h.1.symm
  | succ i => simp at h
 ·rintro rfl; exact ⟨0, sh, n, rfl⟩
theorem MInv.freeze (hI : MInv A n0 M0 ρ0 w0 M ρ H w) {b cb sh n : Nat} {cs cs' : List SV} {c c' : Array Value} {T T' : TypeId} {w' : World} (hB : H[b]? = some (.row cs)) (hρ : ρ[b]? = some (.here cb sh n))
    (hc : w.heap[cb]? = some (.cells c T (0, 0))) (hn : ∀ o, M.cell cb o = none) (ht : Touch [.here cb sh n] w w') (hc' : w'.heap[cb]? = some (.cells c' T' (0, 0)))
    {us : List Value} (hus : us = (c'.toList.drop sh).take cs'.length) (hr : CRelC (M.layAt cb sh us) cs' (ones us)) :
    MInv A n0 M0 ρ0 w0 (M.layAt cb sh us) ρ (H.set b (.frz cs')) w' := by
  have hle := layAt_le (sh := sh) (us := us) hn
  have hother : ∀ j, j < w.heap.size -> j ≠ cb -> w'.heap[j]? = w.heap[j]? := fun j hj hne => ht.block j hj fun h => hne (has_one.1 h)
  have hlt := hI.rel.lt b cb sh n hρ
  refine { rel := ⟨by simpa using hI.rel.len, fun i B r hBi hr' => ?_, hI.rel.inj, fun i cb' sh' n' hi => Nat.lt_of_lt_of_le (hI.rel.lt i cb' sh' n' hi) ht.size, fun b' o v hv => ?_, fun b' es hv => ?_⟩,
           mem := Mem.le_trans hI.mem hle, nle := hI.nle, len := hI.len, env := hI.env, gon := hI.gon, touch := ⟨ht.os.trans hI.touch.os, ht.tape.trans hI.touch.tape, ht.output.trans hI.touch.output, Nat.le_trans hI.touch.drawn ht.drawn, Nat.le_trans hI.touch.size ht.size, fun j hj hno => ?_⟩, newer := ⟨fun b' o v hv => ?_, hI.newer.2⟩, fresh := hI.fresh, alien := fun k o ho => by
             obtain ⟨h1, h2, h3⟩ := hI.alien k o ho
             exact ⟨by rw [hother k (Array.getElem?_eq_some_iff.1 h1).1 (fun e => h3 (e ▸ ⟨b, sh, n, hρ⟩))]; exact h1, h2, h3⟩ }
  · rw [List.getElem?_set] at hBi
    split at hBi
    · rename_i e
      subst e
      split at hBi
      · cases hBi
        rw [hρ] at hr'; cases hr'
        simp only [BRel]
        exact ⟨us, hr, layAt_at⟩
      · cases hBi
    · rename_i hne
      refine BRel.keep (BRel.mono (hI.rel.blk i B r hBi hr') hle (Env.le_refl _) fun cb' sh' n' e => ?_) fun cb' sh' n' e => ?_
      · subst e
        have hcb : cb' ≠ cb := fun e => hI.rel.inj i b cb' sh' n' cb sh n (fun e => hne e.symm) hr' hρ e
        exact ⟨fun o ho => by simp only [Mem.layAt, if_neg hcb]; exact ho, fun h => h⟩
      · subst e
        exact hother cb' (hI.rel.lt i cb' sh' n' hr') fun e => hI.rel.inj i b cb' sh' n' cb sh n (fun e => hne e.symm) hr' hρ e
  · simp only [Mem.layAt] at hv
    split at hv
    · rename_i e; subst e
      split at hv
      · rename_i hsh
        rw [heap_cell? hc']
        rw [hus] at hv
        have := take_drop_get _ _ hv
        rw [show sh + (o - sh) = o by omega] at this
        simpa using this
      · cases hv
    · rename_i hne
      have h1 := hI.rel.cells b' o v hv
      rw [cell?_eq (hother b' (hI.rel.cell_lt hv) hne)]; exact h1
  · have h1 := hI.rel.maps b' es hv
    have hne : b' ≠ cb := fun e => by subst e; rw [hc] at h1; cases h1
    rw [hother b' (Array.getElem?_eq_some_iff.1 h1).1 hne]; exact h1
  · have hjc : j ≠ cb := fun e => by
      subst e
      rcases hI.has_old ⟨b, sh, n, hρ⟩ with h | h
      · exact hno h
      · omega
    rw [hother j (Nat.lt_of_lt_of_le hj hI.touch.size) hjc]
    exact hI.touch.block j hj hno
  · simp only [Mem.layAt] at hv
    split at hv
    · rename_i e; subst e
      rcases hI.has_old ⟨b, sh, n, hρ⟩ with h | h
      · exact .inr (.inr h)
      · exact .inr (.inl h)
    · exact hI.newer.1 b' o v hv
theorem rowOf_rel {sz o' l' : Nat} {cs ys : List SV} {us : List Value} (hsz : 0 < sz) (hc : CRelC M cs (ones us)) (hr : rowOf o' l' sz cs = some ys) {ad : Addr} {cap sh cb : Nat} (had : ad = ⟨cb, sh + o', none⟩) (hat : M.At cb sh us) (hcap : l' <= cap) (hm : cap <= maxLen) :
  CRel M (.slice ys) [.slice (some ad) l' cap] := by
 unfold rowOf at hr
 split at hr
 ·rename_i hfit
  cases hr
  subst had
  have hd : l' * sz <= (cs.drop o').length := by rw [List.length_drop]; omega
  have hcd : CRelC M (cs.drop o') (ones (us.drop o')) := by rw [ones_drop]; exact hc.drop o'
  obtain ⟨uss, h1, h2, h3⟩ := elems_rel hsz hcd hd
  simp only [CRel]
  refine ⟨_, _, _, rfl, (elems_len hd).symm, hcap, hm, .inr ⟨cb, sh + o', sz, uss, rfl, h1, h2, ?_⟩⟩
  rw [h3]
  exact At_take (At_drop hat)
 ·cases hr
theorem snd_callF (hI : MInv A n0 M0 ρ0 w0 M ρ H w) (hf : FRel M ρ fr a.tmps.toList) {f : FuncId} {s : AX} {args : List AX} (hok : okOp P (.callF f s args) o.op = true) (h : aop P n0 id fr H (.callF f s args) k)
  (hK : ∀ v H' kl f x w', k v H' kl f -> f -> Nxt A n0 M0 ρ0 w0 M ρ id v H' kl x w' -> K (a.put o.dst x) w') : o.wp P a w K Q := by
 obtain ⟨xs, ts, ho, hx, hfn⟩ := inv_callF hok
 simp only [aop] at h
 have hrun := enter_run (a := a) (w := w) hfn ho (first := #[]) (caps := #[]) rfl
 have hrun' : (execOp a.eval o).run P w = .ok (.enter f (xs.toList.map a.eval).toArray) w := by rw [hrun]; simp [<- Array.toList_map]
 have hxs := okXs_rel hf hx
 simp only [List.map_cons] at hxs
 generalize hargs : args.map (·.ev fr) = as0 at h hxs
 generalize s.ev fr = v at h hxs
 unfold callFK at h
 split at h
 next b off len sz clip =>
  unfold callFB at h
  split at h
  next cs hB =>
   obtain ⟨as, cs', o', l', c', ys, has, hsem, hrow, hflat, hk⟩ := h
   obtain ⟨y, yv, hyv, hy, hyr⟩ := hxs
   rw [hyv] at hrun'
   obtain ⟨r, hr, hBr⟩ := hI.rel.spot hB
   have h1 := hy.one rfl (by simp)
   simp only [LRel] at h1
   obtain ⟨r', ad, cap, hr', hng, ey, hlc, hcm, hsz, hclip, hcase⟩ := h1
   rw [hr] at hr'; cases hr'
   have hle1 := Mem.le_up M (ρ.set b .gone) w
   have hvs := frzAll_val hle1 (fun i B r hB hρ => hI.rel.stab_but hB hρ) hyr has
   have hblt := (List.getElem?_eq_some_iff.1 hr).1
   cases r with
   | gone => exact absurd rfl hng
   | empty =>
    simp only [BRel] at hBr
    subst hBr
    have hS1 : SRel (M.up (ρ.set b .gone) w) [.empty] [.row []] w := by
     have hh : Holds (M.up (ρ.set b .gone) w) w := ⟨fun b o v hv => by rcases Mem.up_cell hv with hv | ⟨_, hv⟩; exact hI.rel.cells b o v hv; exact hv, fun b es hv => by rcases Mem.up_map hv with hv | ⟨_, hv⟩; exact hI.rel.maps b es hv; exact hv⟩
     refine ⟨rfl, fun i B r h1 h2 => ?_, fun i j cb sh n cb' sh' n' _ hi => ?_, fun i cb sh n hi => ?_, hh.1, hh.2⟩
     ·cases i with
      | zero => simp at h1 h2; subst h1 h2; simp [BRel]
      | succ i => simp at h1
     ·cases i <;> simp at hi
     ·cases i <;> simp at hi
    refine wp_enter hrun' (hsem _ _ w (y :: yv) hS1 ⟨y, yv, rfl, ?_, frel_of_vrelL' hvs⟩) fun e w' ⟨v', M', ρ', he, hI', hv'⟩ => ⟨v', he, ?_⟩
    ·refine lval_of_one ?_ rfl
     simp only [LRel]
     refine ⟨.empty, ad, cap, rfl, by simp, ey, hlc, hcm, hsz, hclip, ?_⟩
     rcases hcase with h | ⟨_, _, _, h, _⟩
     ·exact .inl h
     ·cases h
    ·have hρ' : ρ'[0]? = some .empty := hI'.env 0 .empty (by simp) (by simp) rfl
     have hb' := hI'.rel.blk 0 (.row cs') .empty rfl hρ'
     simp only [BRel] at hb'
     subst hb'
     have ht : Touch [] w w' := ⟨hI'.touch.os, hI'.touch.tape, hI'.touch.output, hI'.touch.drawn, hI'.touch.size, fun j hj _ => hI'.touch.block j hj fun ⟨i, sh, n, h⟩ => by cases i <;> simp at h⟩
     have hg := hI.grow M.le_refl ht (Newer.refl _ _ _) (hI.rel.holds.grow ht)
     have hv1 := hv'.one rfl (by simp)
     simp only [LRel] at hv1
     obtain ⟨r2, ad2, cap2, h5, h6, e2, h7, h8, h9, h10, h11⟩ := hv1
     rw [hρ'] at h5; cases h5
     simp only [List.cons.injEq, and_true] at e2
     subst e2
     have hys : ys = [] /\ l' = 0 := by
      unfold rowOf at hrow
      split at hrow
      ·rename_i hfit
       have hl : l' = 0 := by
        simp only [List.length_nil, Nat.le_zero_eq, Nat.add_eq_zero_iff] at hfit
        rcases Nat.mul_eq_zero.1 hfit.2 with h | h
        ·exact h
        ·omega
       subst hl
       cases hrow
       exact ⟨by unfold elems; split <;> simp [chunk], rfl⟩
      ·cases hrow
     obtain ⟨rfl, rfl⟩ := hys
     refine hK _ _ _ _ _ _ hk trivial ⟨M, ρ, hg.reblk0 fun r hr2 => ?_, fun _ _ h => h, fun _ _ h => h, ?_⟩
     ·rw [hr] at hr2; cases hr2; simp [BRel]
     ·rw [lval_s]
      exact vrel_of_one (by simp only [CRel]; exact ⟨_, _, _, rfl, rfl, h7, h8, .inl trivial⟩) rfl
   | here cb sh n =>
    simp only [BRel] at hBr
    obtain ⟨c, T, hc, hcn, hfit, hcr, hno⟩ := hBr
    have hnh : ¬ Env.has (ρ.set b .gone) cb := by
     rintro ⟨j, sh', n', hj⟩
     rw [List.getElem?_set] at hj
     split at hj
     ·first | (cases hj; done) | (split at hj <;> cases hj)
     ·rename_i hne; exact hI.rel.inj j b cb sh' n' cb sh n (fun e => hne e.symm) hj hr rfl
    have hS1 : SRel (M.up (ρ.set b .gone) w) [.here cb sh n] [.row cs] w := by
     have hh : Holds (M.up (ρ.set b .gone) w) w := ⟨fun b o v hv => by rcases Mem.up_cell hv with hv | ⟨_, hv⟩; exact hI.rel.cells b o v hv; exact hv, fun b es hv => by rcases Mem.up_map hv with hv | ⟨_, hv⟩; exact hI.rel.maps b es hv; exact hv⟩
     refine ⟨rfl, fun i B r h1 h2 => ?_, fun i j cb' sh' n' cb'' sh'' n'' hij hi hj => ?_, fun i cb' sh' n' hi => ?_, hh.1, hh.2⟩
     ·cases i with
      | zero => simp at h1 h2; subst h1 h2; exact ⟨c, T, hc, hcn, hfit, hcr.mono hle1, fun o => up_but hno hnh o⟩
      | succ i => simp at h1
     ·cases i with
      | zero => cases j with
       | zero => exact absurd rfl hij
       | succ j => simp at hj
      | succ i => simp at hi
     ·cases i with
      | zero => simp at hi; obtain ⟨rfl, rfl, rfl⟩ := hi; exact hI.rel.lt b _ _ _ hr
      | succ i => simp at hi
    refine wp_enter hrun' (hsem _ _ w (y :: yv) hS1 ⟨y, yv, rfl, ?_, frel_of_vrelL' hvs⟩) fun e w' ⟨v', M', ρ', he, hI', hv'⟩ => ⟨v', he, ?_⟩
    ·refine lval_of_one ?_ rfl
     simp only [LRel]
     refine ⟨.here cb sh n, ad, cap, rfl, by simp, ey, hlc, hcm, hsz, hclip, ?_⟩
     rcases hcase with h | ⟨cb2, sh2, n2, h, h3⟩
     ·exact .inl h
     ·cases h; exact .inr ⟨_, _, _, rfl, h3⟩
    ·have hρ' : ρ'[0]? = some (.here cb sh n) := hI'.env 0 _ (by simp) (by simp) rfl
     have hb' := hI'.rel.blk 0 (.row cs') _ rfl hρ'
     simp only [BRel] at hb'
     obtain ⟨c2, T2, hc2, hcn2, hfit2, hcr2, hno2⟩ := hb'
     have hfz := hI.freeze (cs' := cs') hB hr hc hno hI'.touch hc2 rfl (hcr2.flat _ hflat)
     have hv1 := hv'.one rfl (by simp)
     simp only [LRel] at hv1
     obtain ⟨r2, ad2, cap2, h5, h6, e2, h7, h8, h9, h10, h11⟩ := hv1
     rw [hρ'] at h5; cases h5
     simp only [List.cons.injEq, and_true] at e2
     subst e2
     refine hK _ _ _ _ _ _ hk trivial ⟨_, ρ, hfz, fun _ _ h => h, fun _ _ h => h.mono (layAt_le hno) (Env.le_refl _), ?_⟩
     rw [lval_s]
     refine vrel_of_one ?_ rfl
     rcases h11 with h11 | ⟨cb2, sh2, n2, e3, e4, h12⟩
     ·have hl : l' = 0 := by omega
      subst hl
      have hys : ys = [] := by
       unfold rowOf at hrow
       split at hrow
       ·cases hrow; unfold elems; split <;> simp [chunk]
       ·cases hrow
      subst hys
      simp only [CRel]; exact ⟨_, _, _, rfl, rfl, h7, h8, .inl trivial⟩
     ·cases e3
      subst e4
      exact rowOf_rel h9 (hcr2.flat _ hflat) hrow rfl layAt_at h7 h8
  next => cases h
 next xs' => exact snd_callK hI hxs hrun' h hK
 next v' => exact snd_callK hI hxs hrun' h hK
 next => cases h
theorem inv_frzv {x : AX} {o : Op} (h : okOp P (.frzv x) o = true) : ∃ y, (o = .move y \/ o = .assign y) /\ okX x y = true := by
 cases o <;> simp only [okOp] at h <;> first | cases h | exact ⟨_, .inl rfl, h⟩ | exact ⟨_, .inr rfl, h⟩
theorem snd_frzv (hI : MInv A n0 M0 ρ0 w0 M ρ H w) (hf : FRel M ρ fr a.tmps.toList) {x : AX} (hok : okOp P (.frzv x) o.op = true) (h : aop P n0 id fr H (.frzv x) k)
  (hK : ∀ v H' kl f x w', k v H' kl f -> f -> Nxt A n0 M0 ρ0 w0 M ρ id v H' kl x w' -> K (a.put o.dst x) w') : o.wp P a w K Q := by
 obtain ⟨y, hy, hx⟩ := inv_frzv hok
 have hrun : (execOp a.eval o).run P w = .ok (.value (a.eval y)) w := by rcases hy with hy | hy <;> simp [execOp, hy]
 simp only [aop] at h
 have hv := okX_rel hf hx
 generalize x.ev fr = v at h hv
 unfold frzvK at h
 split at h
 next b off len sz clip =>
  unfold frzvB at h
  split at h
  next cs hB =>
   obtain ⟨ys, hrow, hk⟩ := h
   obtain ⟨r, hr, hBr⟩ := hI.rel.spot hB
   have h1 := hv.one rfl (by simp)
   simp only [LRel] at h1
   obtain ⟨r', ad, cap, hr', hng, ey, hlc, hcm, hsz, hclip, hcase⟩ := h1
   rw [hr] at hr'; cases hr'
   cases r with
   | gone => exact absurd rfl hng
   | empty =>
    simp only [BRel] at hBr
    subst hBr
    have hc0 : cap = 0 := by
     rcases hcase with h | ⟨_, _, _, h, _⟩
     ·exact h
     ·cases h
    have hl0 : len = 0 := by omega
    subst hl0
    have hys : ys = [] := by
     unfold rowOf at hrow
     split at hrow
     ·cases hrow; unfold elems; split <;> simp [chunk]
     ·cases hrow
    subst hys
    refine wp_value hrun (hK _ _ _ _ _ _ hk trivial ⟨M, ρ, hI.reblk0 fun r hr2 => ?_, fun _ _ h => h, fun _ _ h => h, ?_⟩)
    ·rw [hr] at hr2; cases hr2; simp [BRel]
    ·rw [lval_s]
     exact vrel_of_one (by simp only [CRel]; exact ⟨_, _, _, ey, rfl, hlc, hcm, .inl trivial⟩) rfl
   | here cb sh n =>
    simp only [BRel] at hBr
    obtain ⟨c, T, hc, hcn, hfit, hcr, hno⟩ := hBr
    have hfz := hI.freeze (cs' := cs) hB hr hc hno (Touch.refl _ w) hc rfl (CRelC.mono (layAt_le hno) _ _ hcr)
    refine wp_value hrun (hK _ _ _ _ _ _ hk trivial ⟨_, ρ, hfz, fun _ _ h => h, fun _ _ h => h.mono (layAt_le hno) (Env.le_refl _), ?_⟩)
    rw [lval_s]
    refine vrel_of_one ?_ rfl
    rw [ey]
    rcases hcase with h11 | ⟨cb2, sh2, n2, e3, e4, h12⟩
    ·have hl : len = 0 := by omega
     subst hl
     have hys : ys = [] := by
      unfold rowOf at hrow
      split at hrow
      ·cases hrow; unfold elems; split <;> simp [chunk]
      ·cases hrow
     subst hys
     simp only [CRel]; exact ⟨_, _, _, rfl, rfl, hlc, hcm, .inl trivial⟩
    ·cases e3
     subst e4
     exact rowOf_rel hsz (CRelC.mono (layAt_le hno) _ _ hcr) hrow rfl layAt_at hlc hcm
  next => cases h
 next xs =>
  refine wp_value hrun (hK _ _ _ _ _ _ h trivial (nxt_same hI ?_))
  have h1 := hv.one rfl (by simp)
  simp only [LRel] at h1
  obtain ⟨ad, n, e, h2⟩ := h1
  rw [lval_s]
  exact vrel_of_one h2 rfl
 next v' => exact wp_value hrun (hK _ _ _ _ _ _ h trivial (nxt_same hI hv))
 next => cases h
end
end Go.E

/- Each operation of the value semantics is borne out by the model: maps whose keys are structs of numbers. -/
namespace Go.E
open Go
section
variable {P : Program} {A : Nat -> Obj -> Prop} {dfs : List Deferred} {M0 : Mem} {ρ0 : Env} {w0 : World} {M : Mem} {ρ : Env} {H : List ABlock} {w : World} {o : Oper} {a : Act} {K : Act -> World -> Prop} {Q : Exit -> Act -> World -> Prop} {fr : List LV} {k : AK} {n0 id : Nat}
theorem okMap_inv {t : TypeId} {ts : List Tag} (h : okMap P t ts = true) : ∃ kt e fs, P.underlying t = some (.map kt e) /\ P.underlying kt = some (.struct fs) /\ P.stoodInHeld kt = false /\ tagsF P 0 fs.toList = some ts := by
 unfold okMap at h
 split at h
 ·rename_i kt e hu
  simp only [Bool.and_eq_true, Bool.not_eq_true'] at h
  obtain ⟨⟨h1, h2⟩, h3⟩ := h
  split at h3
  ·rename_i fs hk
   have h4 := of_decide_eq_true h3
   simp only [tagsOf, hk, Option.map_eq_some_iff, Prod.mk.injEq, true_and] at h4
   obtain ⟨ts', h5, rfl⟩ := h4
   exact ⟨kt, e, fs, hu, hk, h2, h5⟩
  ·cases h3
 ·cases h
theorem checkKey_leaf {t : TypeId} {g : Tag} (ht : tagOf P t = some g) (e : Bool) (d : Nat) (x : Value) : (Instr.checkKey e (d + 1) t x).run P w = .ok () w := by
 unfold tagOf at ht
 split at ht <;> first | (cases ht; done) | skip
 all_goals (rename_i hu; simp [Instr.checkKey, run_underlying hu])
theorem tagOf_agg {t : TypeId} {g : Tag} (ht : tagOf P t = some g) : aggTy P t = some false := by
 unfold tagOf at ht
 split at ht <;> first | (cases ht; done) | skip
 all_goals (rename_i hu; simp [aggTy, hu])
theorem checkKey_fields {xs : Array Value} (e : Bool) (d : Nat) : ∀ {fs : List Field} {n : Nat} {ts : List Tag}, tagsF P n fs = some ts -> xs.size = n + ts.length ->
  (forIn fs PUnit.unit (fun (f : Field) (_ : PUnit) => (do
   if f.name ≠ "_" then Instr.checkKey e (d + 1) f.type (<- part f.type xs f.offset)
   pure (ForInStep.yield PUnit.unit) : Sem (ForInStep PUnit)))).run P w = .ok PUnit.unit w
 | [], n, ts, h, hs => by simp
 | f :: fs, n, ts, h, hs => by
  simp only [tagsF] at h
  split at h
  ·rename_i g hg
   split at h
   ·rename_i hoff
    obtain ⟨rfl, hname⟩ := hoff
    simp only [Option.map_eq_some_iff] at h
    obtain ⟨ts', hts, rfl⟩ := h
    simp only [List.length_cons] at hs
    have hlt : f.offset < xs.size := by omega
    have hp : (part f.type xs f.offset).run P w = .ok xs[f.offset] w := by simp [part, aggTy_run (tagOf_agg hg), hlt]
    have ih := checkKey_fields (xs := xs) e d hts (by omega)
    rw [List.forIn_cons]
    simp only [Sem.run_bind, hname, ne_eq, not_false_eq_true, if_true, hp, checkKey_leaf hg, Result.andThen_ok, Sem.run_pure]
    exact ih
   ·cases h
  ·cases h
theorem checkKey_run' {kt : TypeId} {fs : Array Field} {ts : List Tag} (hk : P.underlying kt = some (.struct fs)) (hts : tagsF P 0 fs.toList = some ts) {xs : Array Value} (hs : xs.size = ts.length) (e : Bool) (d : Nat) :
  (Instr.checkKey e (d + 1 + 1) kt (.agg xs)).run P w = .ok () w := by
 have := checkKey_fields (P := P) (w := w) (xs := xs) e d hts (by omega)
 rw [Instr.checkKey]
 simp only [Sem.run_bind, run_underlying hk, Result.andThen_ok]
 rw [<- Array.forIn_toList]
 simp only [Sem.run_bind] at this ⊢
 rw [this]
 simp
theorem checkKey_run {kt : TypeId} {fs : Array Field} {ts : List Tag} (hk : P.underlying kt = some (.struct fs)) (hts : tagsF P 0 fs.toList = some ts) {xs : Array Value} (hs : xs.size = ts.length) (e : Bool) :
  (Instr.checkKey e 10000 kt (.agg xs)).run P w = .ok () w := checkKey_run' hk hts hs e 9998
open Classical in
theorem equal_run {kt : TypeId} {fs : Array Field} {ts : List Tag} (hk : P.underlying kt = some (.struct fs)) (hh : P.stoodInHeld kt = false) (hts : tagsF P 0 fs.toList = some ts) {cs ds : List SV} {us vs : List Value}
  (hc : CRelC M cs (ones us)) (hd : CRelC M ds (ones vs)) (h1 : cs.map SV.tag = ts) (h2 : ds.map SV.tag = ts) : (Op.equal kt (.agg us.toArray) (.agg vs.toArray)).run P w = .ok (decide (SV.agg cs = SV.agg ds)) w := by
 have hfo : P.fieldsOf kt = fs := by simp [Program.fieldsOf, hk]
 unfold Op.equal
 rw [show Op.maxDepth = 9999 + 1 from rfl, run_equalIn_struct w 9999 kt _ _ (by rw [hfo]; exact hk) hh, hfo]
 have := fields_eq (P := P) hc hd 9998 w hts (by simpa using h1) (by simpa using h2)
 rw [this]
 congr 1
 rw [Bool.eq_iff_iff]; simp
noncomputable def found (es : List MapEntry) (off : Nat) : Option Nat -> Option (Nat × Value)
 | some j => (es[j]?).map fun e => (off + j, e.val)
 | none => none
theorem findAsking_run {kt : TypeId} {fs : Array Field} {ts : List Tag} (hk : P.underlying kt = some (.struct fs)) (hh : P.stoodInHeld kt = false) (hts : tagsF P 0 fs.toList = some ts) {cs : List SV} {us : List Value} (hc : CRelC M cs (ones us)) (h1 : cs.map SV.tag = ts) :
  ∀ (ks : List SV) (kus : List (List Value)) (es : List MapEntry) (i : Nat), CRelC M ks kus -> es.map (·.key) = List.zipWith SV.mk ks kus -> (∀ x ∈ ks, eqOk ts true (.agg cs) x) ->
   (Instr.findAsking kt (.agg us.toArray) es i).run P w = .ok (found es i (mFind (.agg cs) ks)) w
 | [], kus, es, i, hr, he, _ => by
  simp only [CRelC] at hr
  subst hr
  have : es = [] := by simpa using he
  subst this
  simp [Instr.findAsking, mFind, found]
 | x :: ks, kus, es, i, hr, he, hok => by
  simp only [CRelC] at hr
  obtain ⟨u, kus', rfl, hx, hks⟩ := hr
  cases es with
  | nil => simp at he
  | cons e es =>
   simp only [List.map_cons, List.zipWith_cons_cons, List.cons.injEq] at he
   obtain ⟨he1, he2⟩ := he
   obtain ⟨cs', ds, e1, rfl, h3, h4⟩ := eqOk_true (hok x (by simp))
   have hd : CRelC M ds (ones u) := by simpa only [CRel] using hx
   have hek : e.key = .agg u.toArray := by rw [he1]; simp [SV.mk, SV.isAgg]
   have heq := equal_run (P := P) (w := w) hk hh hts hc hd h1 h4
   have ih := findAsking_run hk hh hts hc h1 ks kus' es (i + 1) hks he2 (fun y hy => hok y (by simp [hy]))
   simp only [Instr.findAsking, Sem.run_bind, hek, heq, Result.andThen_ok]
   by_cases hcd : SV.agg cs = SV.agg ds
   ·simp [hcd, mFind, found]
   ·simp only [hcd, decide_false, Bool.false_eq_true, if_false, mFind, ih]
    congr 1
    cases hm : mFind (.agg cs) ks with
    | none => rfl
    | some j => simp [found, Nat.add_assoc, Nat.add_comm 1 j]
theorem findKey_run {kt : TypeId} {fs : Array Field} {ts : List Tag} (hk : P.underlying kt = some (.struct fs)) (hh : P.stoodInHeld kt = false) (hts : tagsF P 0 fs.toList = some ts) {cs : List SV} {us : List Value} (hc : CRelC M cs (ones us)) (h1 : cs.map SV.tag = ts)
  {ks : List SV} {kus : List (List Value)} {es : List MapEntry} (hr : CRelC M ks kus) (he : es.map (·.key) = List.zipWith SV.mk ks kus) (hok : ∀ x ∈ ks, eqOk ts true (.agg cs) x) :
  (Instr.findKey kt (.agg us.toArray) es).run P w = .ok (found es 0 (mFind (.agg cs) ks)) w := by
 simp only [Instr.findKey, Sem.run_bind, run_underlying hk, Result.andThen_ok]
 cases es with
 | nil =>
  have hks : ks = [] := by
   cases ks with
   | nil => rfl
   | cons x ks => simp only [CRelC] at hr; obtain ⟨u, kus', rfl, _⟩ := hr; simp at he
  subst hks
  simp [Instr.findNow, mFind, found]
 | cons e es =>
  simp only [Instr.findNow, Instr.sameNow]
  exact findAsking_run hk hh hts hc h1 ks kus _ 0 hr he hok
structure MapAt0 (M : Mem) (w : World) (cb : Nat) (ks vs : List SV) (es : Array MapEntry) (clock : Nat) (kus vus : List (List Value)) : Prop where
  heap : w.heap[cb]? = some (.map es clock)
  krel : CRelC M ks kus
  vrel : CRelC M vs vus
  len : ks.length = vs.length
  keys : es.toList.map (·.key) = List.zipWith SV.mk ks kus
  vals : es.toList.map (·.val) = List.zipWith SV.mk vs vus
  wf : wfm (es, clock)
structure MapAt (M : Mem) (w : World) (cb : Nat) (ks vs : List SV) (es : Array MapEntry) (clock : Nat) (kus vus : List (List Value)) : Prop extends MapAt0 M w cb ks vs es clock kus vus where
  no : M.map cb = none
theorem mk_len {M : Mem} {xs : List SV} {us : List (List Value)} (h : CRelC M xs us) : (List.zipWith SV.mk xs us).length = xs.length := by
 rw [List.length_zipWith, h.length, Nat.min_self]
theorem mapAt0_of {cb : Nat} {ks vs : List SV} {p : Ents} {kus vus : List (List Value)} (h1 : w.heap[cb]? = some (.map p.1 p.2)) (h2 : CRelC M ks kus) (h3 : CRelC M vs vus) (h4 : ks.length = vs.length)
  (h5 : ents p = List.zip (List.zipWith SV.mk ks kus) (List.zipWith SV.mk vs vus)) (h6 : wfm p) : MapAt0 M w cb ks vs p.1 p.2 kus vus := by
 refine ⟨h1, h2, h3, h4, ?_, ?_, h6⟩
 ·have := congrArg (List.map Prod.fst) h5
  rw [ents, List.map_map, List.map_fst_zip (by rw [mk_len h2, mk_len h3, h4]; exact Nat.le_refl _)] at this
  exact this
 ·have := congrArg (List.map Prod.snd) h5
  rw [ents, List.map_map, List.map_snd_zip (by rw [mk_len h2, mk_len h3, h4]; exact Nat.le_refl _)] at this
  exact this
theorem brel_map {ks vs : List SV} {r : Spot} (h : BRel M ρ w (.map ks vs) r) : ∃ cb sh n es clock kus vus, r = .here cb sh n /\ MapAt M w cb ks vs es clock kus vus := by
 cases r <;> simp only [BRel] at h
 rename_i cb sh n
 obtain ⟨es, clock, kus, vus, h1, h2, h3, h4, h5, h6, h7⟩ := h
 exact ⟨cb, sh, n, es, clock, kus, vus, rfl, mapAt0_of (p := (es, clock)) h1 h2 h3 h4 h5 h7, h6⟩
theorem perm_map {α β : Type} (f : α -> β) : ∀ {l m : List β}, l.Perm m -> ∀ Z : List α, m = Z.map f -> ∃ Z' : List α, Z'.Perm Z /\ l = Z'.map f := by
  intro l m h
  induction h with
  | nil => intro Z hZ; exact ⟨[], by have : Z = [] := by simpa using hZ.symm
                                     subst this; exact .refl _, rfl⟩
  | cons x _ ih =>
    intro Z hZ
    cases Z with
    | nil => cases hZ
    | cons z Z =>
      simp only [List.map_cons, List.cons.injEq] at hZ
      obtain ⟨Z', h1, h2⟩ := ih Z hZ.2
      exact ⟨z :: Z', h1.cons z, by rw [List.map_cons, <- h2, hZ.1]⟩
  | swap x y l =>
    intro Z hZ
    match Z, hZ with
    | a :: b :: Z, hZ =>
      simp only [List.map_cons, List.cons.injEq] at hZ
      exact ⟨b :: a :: Z, List.Perm.swap a b Z, by simp [hZ]⟩
  | trans _ _ ih1 ih2 =>
    intro Z hZ
    obtain ⟨Z1, h1, h2⟩ := ih2 Z hZ
    obtain ⟨Z2, h3, h4⟩ := ih1 Z1 h2
    exact ⟨Z2, h3.trans h1, h4⟩
theorem zipWith_zip {α β γ : Type} (f : α -> β -> γ) : ∀ (l : List α) (m : List β), List.zipWith f l m = (l.zip m).map fun p => f p.1 p.2
 | [], _ => by simp
 | _ :: _, [] => by simp
 | a :: l, b :: m => by simp [zipWith_zip f l m]
theorem nodup_at {α : Type} : ∀ {l : List α}, l.Nodup -> ∀ {i j : Nat} {x : α}, l[i]? = some x -> l[j]? = some x -> i = j
 | [], _, i, j, x, h, _ => by simp at h
 | a :: l, hn, i, j, x, hi, hj => by
  obtain ⟨h1, h2⟩ := List.nodup_cons.1 hn
  cases i with
  | zero =>
   cases j with
   | zero => rfl
   | succ j => simp at hi hj; subst hi; exact absurd (List.mem_of_getElem? hj) h1
  | succ i =>
   cases j with
   | zero => simp at hi hj; subst hj; exact absurd (List.mem_of_getElem? hi) h1
   | succ j => simp at hi hj; rw [nodup_at h2 hi hj]
theorem crelC_zip {ks : List SV} {kus : List (List Value)} : CRelC M ks kus ↔ ks.length = kus.length /\ ∀ p ∈ ks.zip kus, CRel M p.1 p.2 := by
  induction ks generalizing kus with
  | nil => simp only [CRelC]; constructor
           · rintro rfl; simp
           · rintro ⟨h, _⟩; exact List.length_eq_zero_iff.1 h.symm
  | cons k ks ih =>
    simp only [CRelC]
    constructor
    · rintro ⟨u, us, rfl, h1, h2⟩
      obtain ⟨h3, h4⟩ := ih.1 h2
      refine ⟨by simp [h3], fun p hp => ?_⟩
      simp only [List.zip_cons_cons, List.mem_cons] at hp
      rcases hp with rfl | hp
      · exact h1
      · exact h4 p hp
    · rintro ⟨h1, h2⟩
      cases kus with
      | nil => simp at h1
      | cons u us =>
        simp only [List.zip_cons_cons, List.mem_cons] at h2
        exact ⟨u, us, rfl, h2 _ (.inl rfl), ih.2 ⟨by simpa using h1, fun p hp => h2 p (.inr hp)⟩⟩
theorem map_stab {ks vs : List SV} {x : Value} (hS : SRel M ρ H w) (h : VRel M (.map ks vs) x) : (x = .map none /\ ks = [] /\ vs = []) \/ ∃ cb p ks' vs' kus vus, x = .map (some cb) /\ M.map cb = some p /\
  (ks'.zip vs').Perm (ks.zip vs) /\ ks.length = vs.length /\ MapAt0 M w cb ks' vs' p.1 p.2 kus vus := by
 have h1 := h.one rfl
 simp only [CRel] at h1
 obtain ⟨r, e, h2⟩ := h1
 simp only [List.cons.injEq, and_true] at e
 rcases h2 with ⟨rfl, h3, h4⟩ | ⟨b, p, kus, vus, rfl, h3, h4, h5, h6, h7, h8⟩
 ·exact .inl ⟨e, h3, h4⟩
 ·refine .inr ?_
  have lk := crelC_zip.1 h4
  have lv := crelC_zip.1 h5
  have hz : List.zip (List.zipWith SV.mk ks kus) (List.zipWith SV.mk vs vus) = ((ks.zip kus).zip (vs.zip vus)).map fun q => (q.1.1.mk q.1.2, q.2.1.mk q.2.2) := by
   rw [zipWith_zip _ ks kus, zipWith_zip _ vs vus, List.zip_map]; rfl
  obtain ⟨Z, hZ1, hZ2⟩ := perm_map _ h6 _ hz
  have hmem : ∀ q ∈ Z, CRel M q.1.1 q.1.2 /\ CRel M q.2.1 q.2.2 := fun q hq => by
   have := List.of_mem_zip (hZ1.mem_iff.1 hq)
   exact ⟨lk.2 _ this.1, lv.2 _ this.2⟩
  have hkk : (ks.zip kus).length = (vs.zip vus).length := by simp [<- lk.1, <- lv.1, h7]
  have zmm : ∀ {α β γ : Type} (f : α -> β) (g : α -> γ) (l : List α), (l.map f).zip (l.map g) = l.map fun x => (f x, g x) := fun f g l => by induction l with | nil => rfl | cons x l ih => simp [ih]
  refine ⟨b, p, Z.map (·.1.1), Z.map (·.2.1), Z.map (·.1.2), Z.map (·.2.2), e, h3, ?_, h7, mapAt0_of (hS.maps b p h3) ?_ ?_ (by simp) ?_ h8⟩
  ·rw [zmm]
   have := hZ1.map fun q : (SV × List Value) × (SV × List Value) => (q.1.1, q.2.1)
   refine this.trans (.of_eq ?_)
   rw [show (fun q : (SV × List Value) × (SV × List Value) => (q.1.1, q.2.1)) = Prod.map Prod.fst Prod.fst from rfl, <- List.zip_map, List.map_fst_zip (by omega), List.map_fst_zip (by omega)]
  ·refine crelC_zip.2 ⟨by simp, fun q hq => ?_⟩
   rw [zmm] at hq
   obtain ⟨z, hz, rfl⟩ := List.mem_map.1 hq
   exact (hmem z hz).1
  ·refine crelC_zip.2 ⟨by simp, fun q hq => ?_⟩
   rw [zmm] at hq
   obtain ⟨z, hz, rfl⟩ := List.mem_map.1 hq
   exact (hmem z hz).2
  ·rw [hZ2]
   rw [zipWith_zip, zipWith_zip, zmm, zmm, List.map_map, List.map_map, zmm]
   rfl
theorem mFind_none {kv : SV} : ∀ {ks : List SV}, mFind kv ks = none -> kv ∉ ks
 | [], _ => by simp
 | k :: ks, h => by
  simp only [mFind] at h
  split at h
  ·cases h
  ·rename_i hne
   simp only [Option.map_eq_none_iff] at h
   simp only [List.mem_cons, not_or]
   exact ⟨hne, mFind_none h⟩
theorem map_brel {ks vs : List SV} {cb sh n clock : Nat} {es : Array MapEntry} {kus vus : List (List Value)} (h : MapAt M w cb ks vs es clock kus vus) : BRel M ρ w (.map ks vs) (.here cb sh n) := by
 simp only [BRel]
 refine ⟨es, clock, kus, vus, h.heap, h.krel, h.vrel, h.len, ?_, h.no, h.wf⟩
 rw [<- h.keys, <- h.vals, List.zip_map', ]
theorem wfm_push {es : Array MapEntry} {clock : Nat} {k v : Value} (h : wfm (es, clock)) : wfm (es.push { key := k, val := v, born := clock }, clock + 1) := by
 obtain ⟨h1, h2⟩ := h
 refine ⟨?_, fun e he => ?_⟩
 ·simp only [Array.toList_push, List.map_append, List.map_cons, List.map_nil]
  rw [List.nodup_append]
  refine ⟨h1, by simp, fun a ha b hb => ?_⟩
  obtain ⟨e, he, rfl⟩ := List.mem_map.1 ha
  simp only [List.mem_singleton] at hb
  subst hb
  exact Nat.ne_of_lt (h2 e he)
 ·simp only [Array.toList_push, List.mem_append, List.mem_singleton] at he
  rcases he with he | rfl
  ·exact Nat.lt_succ_of_lt (h2 e he)
  ·exact Nat.lt_succ_self _
theorem wfm_set {es es' : Array MapEntry} {clock i : Nat} {e e' : MapEntry} (h : wfm (es, clock)) (hi : es.toList[i]? = some e) (ht : es'.toList = es.toList.set i e') (hb : e'.born = e.born) : wfm (es', clock) := by
 obtain ⟨h1, h2⟩ := h
 refine ⟨?_, fun x hx => ?_⟩
 ·show (es'.toList.map (·.born)).Nodup
  rw [ht, List.map_set, hb]
  have : (es.toList.map (·.born)).set i e.born = es.toList.map (·.born) := by
   apply List.ext_getElem?
   intro j
   rw [List.getElem?_set]
   split
   ·rename_i hij; subst hij
    simp only [List.length_map, List.getElem?_map, hi, Option.map_some]
    rw [if_pos (List.getElem?_eq_some_iff.1 hi).1]
   ·rfl
  rw [this]; exact h1
 ·change x ∈ es'.toList at hx
  rw [ht] at hx
  rcases List.mem_or_eq_of_mem_set hx with hx | rfl
  ·exact h2 x hx
  ·rw [hb]; exact h2 e (List.mem_of_getElem? hi)
theorem wfm_erase {es es' : Array MapEntry} {clock i : Nat} (h : wfm (es, clock)) (ht : es'.toList = es.toList.eraseIdx i) : wfm (es', clock) := by
 obtain ⟨h1, h2⟩ := h
 have hs : es'.toList.Sublist es.toList := by rw [ht]; exact List.eraseIdx_sublist _ _
 exact ⟨h1.sublist (hs.map _), fun x hx => h2 x (hs.subset hx)⟩
theorem mp_val {b : Nat} {y : Value} (h : LVal M ρ (.mp b) y) {cb sh n : Nat} (hr : ρ[b]? = some (.here cb sh n)) : y = .map (some cb) := by
 have h1 := h.one rfl (by simp)
 simp only [LRel] at h1
 obtain ⟨cb', sh', n', h2, h3⟩ := h1
 rw [hr] at h2; cases h2
 simpa using h3
theorem mFind_lt {kv : SV} : ∀ {ks : List SV} {i : Nat}, mFind kv ks = some i -> i < ks.length /\ ks[i]? = some kv
 | [], i, h => by simp [mFind] at h
 | k :: ks, i, h => by
  simp only [mFind] at h
  split at h
  ·rename_i e; cases h; subst e; simp
  ·simp only [Option.map_eq_some_iff] at h
   obtain ⟨j, hj, rfl⟩ := h
   obtain ⟨h1, h2⟩ := mFind_lt hj
   simp only [List.length_cons, List.getElem?_cons_succ]
   exact ⟨by omega, h2⟩
theorem val_at {vs : List SV} {vus : List (List Value)} {es : List MapEntry} (hv : CRelC M vs vus) (he : es.map (·.val) = List.zipWith SV.mk vs vus) {i : Nat} {v : SV} (hi : vs[i]? = some v) : ∃ e, es[i]? = some e /\ VRel M v e.val := by
 obtain ⟨u, hu, hr⟩ := hv.get hi
 have := congrArg (·[i]?) he
 simp only [List.getElem?_map, List.getElem?_zipWith, hi, hu] at this
 cases hes : es[i]? with
 | none => rw [hes] at this; simp at this
 | some e => rw [hes] at this; simp only [Option.map_some, Option.some.injEq] at this; exact ⟨e, rfl, u, hr, this⟩
theorem keyOk_inv {ts : List Tag} {kv : SV} {ks : List SV} (h : keyOk ts kv ks) {y : Value} (hy : VRel M kv y) : ∃ cs us, kv = .agg cs /\ y = .agg us.toArray /\ CRelC M cs (ones us) /\ cs.map SV.tag = ts /\ us.length = ts.length /\ ∀ x ∈ ks, eqOk ts true (.agg cs) x := by
 obtain ⟨cs, ds, rfl, e, h1, h2⟩ := eqOk_true h.1
 obtain ⟨us, rfl, hc⟩ := hy.agg
 refine ⟨cs, us, rfl, rfl, hc, h1, ?_, h.2⟩
 have := hc.length
 rw [<- h1, List.length_map]; simpa using this
theorem inv_mget {c : Bool} {ts : List Tag} {zero : SV} {m x : AX} {o : Op} (h : okOp P (.mget c ts zero m x) o = true) : ∃ t y z e kt ie zv, o = .lookup t y z c /\ okX m y = true /\ okX x z = true /\ okMap P t ts = true /\ P.underlying t = some (.map kt e) /\ P.info? e = some ie /\ ie.zero = some zv /\ okConst (.s zero) zv = true := by
 cases o <;> first | exact Bool.noConfusion (show false = true from h) | skip
 rename_i t y z c'
 simp only [okOp, Bool.and_eq_true, beq_iff_eq] at h
 obtain ⟨⟨⟨⟨rfl, h1⟩, h2⟩, h3⟩, h4⟩ := h
 split at h4
 ·rename_i kt e hu
  rw [Option.any_eq_true] at h4
  obtain ⟨zv, hz, h5⟩ := h4
  simp only [Option.bind_eq_some_iff] at hz
  obtain ⟨ie, h6, h7⟩ := hz
  exact ⟨t, y, z, e, kt, ie, zv, rfl, h1, h2, h3, hu, h6, h7, h5⟩
 ·cases h4
theorem snd_mget (hI : MInv A n0 M0 ρ0 w0 M ρ H w) (hf : FRel M ρ fr a.tmps.toList) {c : Bool} {ts : List Tag} {zero : SV} {m x : AX} (hok : okOp P (.mget c ts zero m x) o.op = true) (h : aop P n0 id fr H (.mget c ts zero m x) k)
  (hK : ∀ v H' kl f x w', k v H' kl f -> f -> Nxt A n0 M0 ρ0 w0 M ρ id v H' kl x w' -> K (a.put o.dst x) w') : o.wp P a w K Q := by
 obtain ⟨t, y, z, e, kt, ie, zv, ho, h1, h2, h3, hu, hie, hzv, hzc⟩ := inv_mget hok
 obtain ⟨kt', e', fs, hu', hkt, hh, hts⟩ := okMap_inv h3
 rw [hu] at hu'; cases hu'
 simp only [aop] at h
 have hm := okX_rel hf h1
 have hx := okX_rel hf h2
 generalize m.ev fr = mv at h hm
 generalize x.ev fr = xv at h hx
 have core : ∀ (b' : Option Nat) (es : Array MapEntry) (ks vs : List SV) (kus vus : List (List Value)) (cs : List SV) (us : List Value), a.eval y = .map b' ->
   (∀ cb, b' = some cb -> (∃ clock, w.heap[cb]? = some (.map es clock))) -> (b' = none -> es = #[]) -> CRelC M ks kus -> CRelC M vs vus ->
   es.toList.map (·.key) = List.zipWith SV.mk ks kus -> es.toList.map (·.val) = List.zipWith SV.mk vs vus -> a.eval z = .agg us.toArray -> CRelC M cs (ones us) -> cs.map SV.tag = ts -> us.length = ts.length ->
   (∀ x ∈ ks, eqOk ts true (.agg cs) x) -> mgetI H c zero vs k (mFind (.agg cs) ks) -> o.wp P a w K Q := by
  intro b' es ks vs kus vus cs us hy hsome hnone hkrel hvrel hkeys hvals hz hc hct hul hoks h
  have hck := fun e => checkKey_run (P := P) (w := w) hkt hts (xs := us.toArray) (by simpa using hul) e
  have hfk := findKey_run (P := P) (w := w) hkt hh hts hc hct hkrel hkeys hoks
  have hzr : (zeroValue e).run P w = .ok zv w := by simp [zeroValue, typeInfo, hie, hzv]
  have hrun : ∃ v ok, ((found es.toList 0 (mFind (.agg cs) ks) = some v /\ ok = true) \/ (found es.toList 0 (mFind (.agg cs) ks) = none /\ v.2 = zv /\ ok = false)) /\ (execOp a.eval o).run P w = .ok (.value (if c then .tuple #[v.2, .bool ok] else v.2)) w := by
   cases b' with
   | none =>
    have he := hnone rfl
    subst he
    have hfo : found [] 0 (mFind (.agg cs) ks) = none := by cases mFind (.agg cs) ks <;> simp [found]
    refine ⟨(0, zv), false, .inr ⟨hfo, rfl, rfl⟩, ?_⟩
    have hfk' : (Instr.findKey kt (.agg us.toArray) []).run P w = .ok none w := by rw [<- hfo]; exact hfk
    simp [execOp, ho, Instr.lookup, run_underlying hu, hy, hz, hck, hfk', hzr]
   | some cb =>
    obtain ⟨clock, hheap⟩ := hsome cb rfl
    have hgo : (getObj cb).run P w = .ok (.map es clock) w := by simp [getObj, Sem.run, hheap]
    cases hfo : found es.toList 0 (mFind (.agg cs) ks) with
    | some v => refine ⟨v, true, .inl ⟨rfl, rfl⟩, ?_⟩; simp [execOp, ho, Instr.lookup, run_underlying hu, hy, hgo, hz, hck, hfk, hfo]
    | none => refine ⟨(0, zv), false, .inr ⟨rfl, rfl, rfl⟩, ?_⟩; simp [execOp, ho, Instr.lookup, run_underlying hu, hy, hgo, hz, hck, hfk, hfo, hzr]
  obtain ⟨v, ok, hcase, hrun⟩ := hrun
  have fin : ∀ sv : SV, VRel M sv v.2 -> mgetV H c sv ok k -> o.wp P a w K Q := by
   intro sv hsv hg
   refine wp_value hrun ?_
   cases c with
   | true =>
    simp only [mgetV, bsplit] at hg
    refine hK _ _ _ _ _ _ hg trivial (nxt_same hI ?_)
    simp only [if_true]
    exact lval_tup (xs := [v.2, .bool ok]) ⟨_, _, rfl, hsv, _, _, rfl, vrel_of_one (by simp [CRel]) rfl, rfl⟩
   | false =>
    simp only [mgetV, bsplit] at hg
    exact hK _ _ _ _ _ _ hg trivial (nxt_same hI (lval_s.2 hsv))
  cases hmf : mFind (.agg cs) ks with
  | none =>
   rw [hmf] at h hcase
   simp only [mgetI] at h
   simp only [found] at hcase
   rcases hcase with ⟨hc1, _⟩ | ⟨_, hc1, hc2⟩
   ·cases hc1
   ·subst hc2
    refine fin zero ?_ h
    rw [hc1]
    exact lval_s.1 (okConst_rel (ρ := ρ) _ _ hzc)
  | some i =>
   rw [hmf] at h hcase
   simp only [mgetI] at h
   obtain ⟨sv, hsv, h⟩ := exO_inv h
   obtain ⟨ent, he1, he2⟩ := val_at hvrel hvals hsv
   simp only [found, he1, Option.map_some] at hcase
   rcases hcase with ⟨hc1, hc2⟩ | ⟨hc1, _⟩
   ·subst hc2
    refine fin sv ?_ h
    cases hc1; exact he2
   ·cases hc1
 unfold mgetK at h
 split at h
 ·rename_i b
  obtain ⟨kv, hkv, h⟩ := exO_inv h
  have hkr := frz_nil_val hx hkv
  unfold mgetB at h
  split at h
  ·rename_i ks vs hB
   obtain ⟨hko, h⟩ := h
   obtain ⟨r, hr, hbr⟩ := hI.rel.spot hB
   obtain ⟨cb, sh, n, es, clock, kus, vus, rfl, hma⟩ := brel_map hbr
   have hy := mp_val hm hr
   obtain ⟨cs, us, rfl, hz, hc, hct, hul, hoks⟩ := keyOk_inv hko hkr
   exact core (some cb) es ks vs kus vus cs us hy (fun cb' e => by cases e; exact ⟨clock, hma.heap⟩) (fun e => by cases e) hma.krel hma.vrel hma.keys hma.vals hz hc hct hul hoks h
  ·cases h
 ·rename_i ks vs
  obtain ⟨kv, hkv, h⟩ := exO_inv h
  have hkr := frz_nil_val hx hkv
  obtain ⟨hko, hnd, h⟩ := h
  obtain ⟨cs, us, rfl, hz, hc, hct, hul, hoks⟩ := keyOk_inv hko hkr
  rcases map_stab hI.rel (lval_s.1 hm) with ⟨hy, rfl, rfl⟩ | ⟨cb, p, ks', vs', kus, vus, hy, _, hperm, hlen, hma⟩
  ·exact core none #[] [] [] [] [] cs us hy (fun _ e => by cases e) (fun _ => rfl) (by simp [CRelC]) (by simp [CRelC]) (by simp) (by simp) hz hc hct hul hoks h
  ·have hkp : ks'.Perm ks := by
    have := hperm.map Prod.fst
    rwa [List.map_fst_zip (by rw [hma.len]; exact Nat.le_refl _), List.map_fst_zip (by omega)] at this
   refine core (some cb) p.1 ks' vs' kus vus cs us hy (fun cb' e => by cases e; exact ⟨p.2, hma.heap⟩) (fun e => by cases e) hma.krel hma.vrel hma.keys hma.vals hz hc hct hul (fun x hx => hoks x (hkp.mem_iff.1 hx)) ?_
   cases hm1 : mFind (.agg cs) ks' with
   | none =>
    cases hm2 : mFind (.agg cs) ks with
    | none => rw [hm2] at h; exact h
    | some i => exact absurd (hkp.mem_iff.2 (List.mem_of_getElem? (mFind_lt hm2).2)) (mFind_none hm1)
   | some i =>
    obtain ⟨h1, h2⟩ := mFind_lt hm1
    have hvl : i < vs'.length := by rw [<- hma.len]; exact h1
    have hin : (SV.agg cs, vs'[i]) ∈ ks.zip vs := by
     refine hperm.mem_iff.1 (List.mem_of_getElem? (i := i) ?_)
     rw [List.getElem?_zip_eq_some]
     exact ⟨h2, by simp [hvl]⟩
    obtain ⟨j, hj⟩ := List.getElem?_of_mem hin
    rw [List.getElem?_zip_eq_some] at hj
    cases hm2 : mFind (.agg cs) ks with
    | none => exact absurd (List.mem_of_getElem? hj.1) (mFind_none hm2)
    | some i2 =>
     obtain ⟨h3, h4⟩ := mFind_lt hm2
     have : i2 = j := nodup_at hnd h4 hj.1
     subst this
     rw [hm2] at h
     simp only [mgetI, hj.2, exO] at h
     simp only [mgetI, List.getElem?_eq_getElem hvl, exO]
     exact h
 ·cases h
theorem MInv.mapSet (h : MInv A n0 M0 ρ0 w0 M ρ H w) {b cb sh n : Nat} {B B' : ABlock} {es es' : Array MapEntry} {clock clock' : Nat} (hB : H[b]? = some B) (hr : ρ[b]? = some (.here cb sh n))
  (hc : w.heap[cb]? = some (.map es clock)) (hn : M.map cb = none) (hB' : BRel M ρ { w with heap := w.heap.setIfInBounds cb (.map es' clock') } B' (.here cb sh n)) :
  MInv A n0 M0 ρ0 w0 M ρ (H.set b B') { w with heap := w.heap.setIfInBounds cb (.map es' clock') } := by
 have hb := (List.getElem?_eq_some_iff.1 hB).1
 have hρ : ρ.set b (.here cb sh n) = ρ := by
  apply List.ext_getElem?
  intro j
  rw [List.getElem?_set]
  split
  ·rename_i e; subst e; rw [hr]; simp [h.rel.len, hb]
  ·rfl
 have hoth : ∀ k, k ≠ cb -> (w.heap.setIfInBounds cb (.map es' clock'))[k]? = w.heap[k]? := fun k hk => by rw [Array.getElem?_setIfInBounds, if_neg (fun e => hk e.symm)]
 have hnoc : ∀ o, M.cell cb o = none := fun o => by
  cases hm : M.cell cb o with
  | none => rfl
  | some v =>
   have := h.rel.cells cb o v hm
   simp [World.cell?, hc] at this
 have hk := SRel.turn (w' := { w with heap := w.heap.setIfInBounds cb (.map es' clock') }) h.rel (b := b) (cb := cb) (sh := sh) (n := n) (B := B') hb (fun k hk _ => hoth k hk) ⟨hnoc, hn⟩ (by simp) (by simpa using h.rel.lt b cb sh n hr)
  (fun j cb' sh' n' hj hj' => h.rel.inj j b cb' sh' n' cb sh n hj hj' hr) (by rw [hρ]; exact hB') (fun j B'' hj hBj => by
   obtain ⟨r, h1, h2⟩ := h.rel.spot hBj
   rw [hρ, h1]; exact h2)
 rw [hρ] at hk
 exact { h with
  rel := hk
  touch := by
   refine ⟨h.touch.os, h.touch.tape, h.touch.output, h.touch.drawn, by simpa using h.touch.size, fun k hk hno => ?_⟩
   rw [show ({ w with heap := w.heap.setIfInBounds cb (.map es' clock') } : World).heap[k]? = w.heap[k]? from hoth k fun e => ?_]
   ·exact h.touch.block k hk hno
   ·subst e
    rcases h.has_old ⟨b, sh, n, hr⟩ with h1 | h1
    ·exact hno h1
    ·omega
  alien := fun k o ho => by
   obtain ⟨h1, h2, h3⟩ := h.alien k o ho
   exact ⟨by rw [show ({ w with heap := w.heap.setIfInBounds cb (.map es' clock') } : World).heap[k]? = w.heap[k]? from hoth k (fun e => h3 (e ▸ ⟨b, sh, n, hr⟩))]; exact h1, h2, h3⟩ }
theorem tagsF_ne {n : Nat} : ∀ {fs : List Field} {n : Nat} {ts : List Tag}, tagsF P n fs = some ts -> ∀ g ∈ ts, g ≠ .other
 | [], n, ts, h, g, hg => by simp only [tagsF, Option.some.injEq] at h; subst h; simp at hg
 | f :: fs, n, ts, h, g, hg => by
  simp only [tagsF] at h
  split at h
  ·rename_i g' hg'
   split at h
   ·simp only [Option.map_eq_some_iff] at h
    obtain ⟨ts', hts, rfl⟩ := h
    rcases List.mem_cons.1 hg with rfl | hg
    ·intro e; subst e; unfold tagOf at hg'; split at hg' <;> cases hg'
    ·exact tagsF_ne (n := n) hts g hg
   ·cases h
  ·cases h
theorem leaf_same {c : SV} {u v : List Value} (h : CRel M c u) (k : CRel M c v) (hne : c.tag ≠ .other) : u = v /\ ∀ x ∈ u, ∀ d, Instr.sameBits d x x = true := by
 cases c <;> simp only [CRel] at h k <;> first | (exact absurd rfl hne) | skip
 all_goals (subst h; subst k; refine ⟨rfl, fun x hx d => ?_⟩; simp only [List.mem_singleton] at hx; subst hx)
 case str s =>
  have hs : (s == s) = true := by
   obtain ⟨⟨x⟩⟩ := s
   show ((⟨x⟩ : Array UInt8) == ⟨x⟩) = true
   simp
  cases d <;> simpa [Instr.sameBits] using hs
 all_goals (cases d <;> simp [Instr.sameBits])
theorem flat_same : ∀ {cs : List SV} {us vs : List (List Value)}, CRelC M cs us -> CRelC M cs vs -> (∀ c ∈ cs, c.tag ≠ .other) -> us = vs /\ ∀ u ∈ us, ∀ x ∈ u, ∀ d, Instr.sameBits d x x = true
 | [], us, vs, h, k, _ => by simp only [CRelC] at h k; subst h; subst k; simp
 | c :: cs, us, vs, h, k, hne => by
  simp only [CRelC] at h k
  obtain ⟨u, us', rfl, h1, h2⟩ := h
  obtain ⟨v, vs', rfl, k1, k2⟩ := k
  obtain ⟨rfl, h3⟩ := leaf_same h1 k1 (hne c (by simp))
  obtain ⟨rfl, h4⟩ := flat_same h2 k2 fun c hc => hne c (by simp [hc])
  refine ⟨rfl, fun u' hu => ?_⟩
  rcases List.mem_cons.1 hu with rfl | hu
  ·exact h3
  ·exact h4 u' hu
theorem ones_inj : ∀ {us vs : List Value}, ones us = ones vs -> us = vs
 | [], [], _ => rfl
 | [], _ :: _, h => by simp at h
 | _ :: _, [], h => by simp at h
 | u :: us, v :: vs, h => by
  simp only [ones_cons, List.cons.injEq, and_true] at h
  rw [h.1, ones_inj h.2]
theorem sameBits_agg {us : List Value} (h : ∀ x ∈ us, ∀ d, Instr.sameBits d x x = true) (d : Nat) : Instr.sameBits (d + 1) (.agg us.toArray) (.agg us.toArray) = true := by
 simp only [Instr.sameBits, beq_self_eq_true, Bool.true_and, List.all_eq_true]
 intro p hp
 have : ∀ (l : List Value) (p : Value × Value), p ∈ l.zip l -> p.1 = p.2 /\ p.1 ∈ l := by
  intro l
  induction l with
  | nil => simp
  | cons x l ih =>
   intro p hp
   simp only [List.zip_cons_cons, List.mem_cons] at hp
   rcases hp with rfl | hp
   ·simp
   ·obtain ⟨h1, h2⟩ := ih p hp; exact ⟨h1, by simp [h2]⟩
 obtain ⟨h1, h2⟩ := this us p (by simpa using hp)
 obtain ⟨a, b⟩ := p
 simp only at h1 h2 ⊢
 subst h1
 exact h a h2 d
theorem vrel_mk {v : SV} {x : Value} (h : VRel M v x) : ∃ u, CRel M v u /\ x = v.mk u := h
theorem CRelC.eraseIdx : ∀ {cs : List SV} {uss : List (List Value)} (i : Nat), CRelC M cs uss -> CRelC M (cs.eraseIdx i) (uss.eraseIdx i)
 | [], uss, i, h => by simp [CRelC] at h; subst h; simp [CRelC]
 | c :: cs, uss, i, h => by
  simp only [CRelC] at h
  obtain ⟨u, us, rfl, h1, h2⟩ := h
  cases i with
  | zero => simpa using h2
  | succ i => simp only [List.eraseIdx_cons_succ, CRelC]; exact ⟨u, us.eraseIdx i, rfl, h1, h2.eraseIdx i⟩
theorem erase_map {α β : Type} (f : α -> β) : ∀ (l : List α) (i : Nat), (l.eraseIdx i).map f = (l.map f).eraseIdx i
 | [], i => by simp
 | a :: l, 0 => by simp
 | a :: l, i + 1 => by simp [erase_map f l i]
theorem zipWith_erase {α β γ : Type} (f : α -> β -> γ) : ∀ (l : List α) (m : List β) (i : Nat), l.length = m.length -> (List.zipWith f l m).eraseIdx i = List.zipWith f (l.eraseIdx i) (m.eraseIdx i)
 | [], [], i, _ => by simp
 | [], _ :: _, i, h => by simp at h
 | _ :: _, [], i, h => by simp at h
 | a :: l, b :: m, 0, _ => by simp
 | a :: l, b :: m, i + 1, h => by simp [zipWith_erase f l m i (by simpa using h)]
theorem zipWith_set {α β γ : Type} (f : α -> β -> γ) : ∀ (l : List α) (m : List β) (i : Nat) (a : α) (b : β), (List.zipWith f l m).set i (f a b) = List.zipWith f (l.set i a) (m.set i b)
 | [], m, i, a, b => by simp
 | _ :: _, [], i, a, b => by cases i <;> simp
 | x :: l, y :: m, 0, a, b => by simp
 | x :: l, y :: m, i + 1, a, b => by simp [zipWith_set f l m i a b]
theorem inv_mset {ts : List Tag} {m x v : AX} {o : Op} (h : okOp P (.mset ts m x v) o = true) : ∃ t y z u, (o = .mapUpdate t y z u \/ o = .insert t y z u) /\ okX m y = true /\ okX x z = true /\ okX v u = true /\ okMap P t ts = true := by
 cases o <;> first | exact Bool.noConfusion (show false = true from h) | skip
 all_goals (simp only [okOp, Bool.and_eq_true] at h)
 ·exact ⟨_, _, _, _, .inr rfl, h.1.1.1, h.1.1.2, h.1.2, h.2⟩
 ·exact ⟨_, _, _, _, .inl rfl, h.1.1.1, h.1.1.2, h.1.2, h.2⟩
theorem mapAt_world {w' : World} {cb : Nat} {ks vs ks' vs' : List SV} {es es' : Array MapEntry} {clock clock' : Nat} {kus vus kus' vus' : List (List Value)} (h : MapAt M w cb ks vs es clock kus vus) (hh : w'.heap[cb]? = some (.map es' clock'))
  (h1 : CRelC M ks' kus') (h2 : CRelC M vs' vus') (hl : ks'.length = vs'.length) (hk : es'.toList.map (·.key) = List.zipWith SV.mk ks' kus') (hv : es'.toList.map (·.val) = List.zipWith SV.mk vs' vus') (hw : wfm (es', clock')) : MapAt M w' cb ks' vs' es' clock' kus' vus' :=
 ⟨⟨hh, h1, h2, hl, hk, hv, hw⟩, h.no⟩
theorem snd_mset (hI : MInv A n0 M0 ρ0 w0 M ρ H w) (hf : FRel M ρ fr a.tmps.toList) {ts : List Tag} {m x xv : AX} (hok : okOp P (.mset ts m x xv) o.op = true) (h : aop P n0 id fr H (.mset ts m x xv) k)
  (hK : ∀ v H' kl f x w', k v H' kl f -> f -> Nxt A n0 M0 ρ0 w0 M ρ id v H' kl x w' -> K (a.put o.dst x) w') : o.wp P a w K Q := by
 obtain ⟨t, y, z, u, ho, h1, h2, h3, h4⟩ := inv_mset hok
 obtain ⟨kt, e, fs, hu, hkt, hh, hts⟩ := okMap_inv h4
 simp only [aop] at h
 have hm := okX_rel hf h1
 have hx := okX_rel hf h2
 have hv := okX_rel hf h3
 generalize m.ev fr = mv at h hm
 generalize x.ev fr = kx at h hx
 generalize xv.ev fr = vx at h hv
 unfold msetK at h
 split at h
 ·rename_i b
  obtain ⟨kv, hkv, h⟩ := exO_inv h
  obtain ⟨sv, hsv, h⟩ := exO_inv h
  have hkr := frz_nil_val hx hkv
  obtain ⟨uv, huv, hue⟩ := vrel_mk (frz_nil_val hv hsv)
  unfold msetB at h
  split at h
  ·rename_i ks vs hB
   obtain ⟨hko, h⟩ := h
   obtain ⟨r, hr, hbr⟩ := hI.rel.spot hB
   obtain ⟨cb, sh, n, es, clock, kus, vus, rfl, hma⟩ := brel_map hbr
   have hy := mp_val hm hr
   obtain ⟨cs, us, rfl, hz, hc, hct, hul, hoks⟩ := keyOk_inv hko hkr
   have hck := fun e => checkKey_run (P := P) (w := w) hkt hts (xs := us.toArray) (by simpa using hul) e
   have hfk := findKey_run (P := P) (w := w) hkt hh hts hc hct hma.krel hma.keys hoks
   have hgo : (getObj cb).run P w = .ok (.map es clock) w := by simp [getObj, Sem.run, hma.heap]
   have hso : ∀ o', (setObj cb o').run P w = .ok () { w with heap := w.heap.setIfInBounds cb o' } := fun o' => by simp [setObj, Sem.run, hma.heap]
   have hlt := (Array.getElem?_eq_some_iff.1 hma.heap).1
   cases hmf : mFind (.agg cs) ks with
   | none =>
    rw [hmf] at h hfk
    have hrun : (execOp a.eval o).run P w = .ok .skip { w with heap := w.heap.setIfInBounds cb (.map (es.push { key := .agg us.toArray, val := a.eval u, born := clock }) (clock + 1)) } := by
     rcases ho with ho | ho <;> simp [execOp, ho, Instr.mapUpdate, run_underlying hu, hy, hgo, hz, hck, hfk, found, hso]
    refine wp_skip' hrun (hK _ _ _ _ _ _ h trivial ⟨M, ρ, hI.mapSet (es' := es.push { key := .agg us.toArray, val := a.eval u, born := clock }) (clock' := clock + 1) hB hr hma.heap hma.no ?_, fun _ _ h => h, fun _ _ h => h, lval_tup (xs := []) rfl⟩)
    refine map_brel (mapAt_world (es' := es.push { key := .agg us.toArray, val := a.eval u, born := clock }) (clock' := clock + 1) (kus' := kus ++ [us]) (vus' := vus ++ [uv]) hma (by simp [hlt]) (hma.krel.append (crelC_cons (by simpa only [CRel] using hc) crelC_nil)) (hma.vrel.append (crelC_cons huv crelC_nil)) (by simp [hma.len]) ?_ ?_ (wfm_push hma.wf))
    ·rw [Array.toList_push, List.map_append, hma.keys, List.zipWith_append (by rw [hma.krel.length])]; simp [SV.mk, SV.isAgg]
    ·rw [Array.toList_push, List.map_append, hma.vals, List.zipWith_append (by rw [hma.vrel.length])]; simp [hue]
   | some i =>
    rw [hmf] at h hfk
    obtain ⟨hilt, hki⟩ := mFind_lt hmf
    obtain ⟨ku, hku, hkur⟩ := hma.krel.get hki
    have hne : ∀ c ∈ cs, c.tag ≠ .other := fun c hc => tagsF_ne (n := 0) hts _ (by rw [<- hct]; exact List.mem_map.2 ⟨c, hc, rfl⟩)
    obtain ⟨hsame, hbits⟩ := flat_same hc (by simpa only [CRel] using hkur) hne
    have hsame := ones_inj hsame
    subst hsame
    have hkeyi : ∃ ent, es.toList[i]? = some ent /\ ent.key = .agg us.toArray := by
     have := congrArg (·[i]?) hma.keys
     simp only [List.getElem?_map, List.getElem?_zipWith, hki, hku] at this
     cases hes : es.toList[i]? with
     | none => rw [hes] at this; simp at this
     | some ent => rw [hes] at this; simp only [Option.map_some, Option.some.injEq] at this; exact ⟨ent, rfl, by rw [this]; simp [SV.mk, SV.isAgg]⟩
    obtain ⟨ent, hent, hentk⟩ := hkeyi
    have hent' : es[i]? = some ent := by rw [<- Array.getElem?_toList]; exact hent
    have hbits' : Instr.sameBits 10000 (.agg us.toArray) (.agg us.toArray) = true := sameBits_agg (fun x hx d => hbits [x] (by simpa [ones] using hx) x (by simp) d) 9999
    have hkts : (Instr.keyThatStays (.agg us.toArray) (.agg us.toArray)).run P w = .ok (.agg us.toArray) w := by
     unfold Instr.keyThatStays; rw [if_pos hbits']; rfl
    have hrun : (execOp a.eval o).run P w = .ok .skip { w with heap := w.heap.setIfInBounds cb (.map (es.modify i fun e => { e with key := .agg us.toArray, val := a.eval u }) clock) } := by
     rcases ho with ho | ho <;> simp [execOp, ho, Instr.mapUpdate, run_underlying hu, hy, hgo, hz, hck, hfk, found, hso, hent, hent', hentk, hkts]
    refine wp_skip' hrun (hK _ _ _ _ _ _ h trivial ⟨M, ρ, hI.mapSet (es' := es.modify i fun e => { e with key := .agg us.toArray, val := a.eval u }) (clock' := clock) hB hr hma.heap hma.no ?_, fun _ _ h => h, fun _ _ h => h, lval_tup (xs := []) rfl⟩)
    have htl : (es.modify i fun e => { e with key := .agg us.toArray, val := a.eval u }).toList = es.toList.set i { ent with key := .agg us.toArray, val := a.eval u } := by
     apply List.ext_getElem?
     intro j
     rw [Array.getElem?_toList, Array.getElem?_modify, List.getElem?_set]
     by_cases hij : i = j
     ·subst hij
      have hil : i < es.size := by simpa using (List.getElem?_eq_some_iff.1 hent).1
      have hei : es[i] = ent := by rw [Array.getElem?_eq_getElem hil] at hent'; simpa using hent'
      simp [hil, hei]
     ·simp [hij]
    refine map_brel (mapAt_world (es' := es.modify i fun e => { e with key := .agg us.toArray, val := a.eval u }) (clock' := clock) (kus' := kus) (vus' := vus.set i uv) hma (by simp [hlt]) hma.krel (hma.vrel.set i huv) (by simp [hma.len]) ?_ ?_ (wfm_set hma.wf hent htl rfl))
    ·rw [htl, List.map_set, hma.keys]
     apply List.ext_getElem?
     intro j
     rw [List.getElem?_set]
     split
     ·rename_i e
      subst e
      simp only [List.getElem?_zipWith, hki, hku]
      rw [if_pos (by rw [mk_len hma.krel]; exact hilt)]
      simp [SV.mk, SV.isAgg]
     ·rfl
    ·rw [htl, List.map_set, hma.vals, hue, zipWith_set]
  ·cases h
 ·cases h
theorem inv_mdel {ts : List Tag} {m x : AX} {o : Op} (h : okOp P (.mdel ts m x) o = true) : ∃ ats y z t, o = .call { callee := .builtin .delete, args := #[y, z], argTypes := ats } /\ okX m y = true /\ okX x z = true /\ ats[0]? = some t /\ okMap P t ts = true := by
 cases o <;> first | exact Bool.noConfusion (show false = true from h) | skip
 rename_i c
 obtain ⟨callee, xs, ats⟩ := c
 cases callee <;> first | exact Bool.noConfusion (show false = true from h) | skip
 rename_i bi
 cases bi <;> first | exact Bool.noConfusion (show false = true from h) | skip
 simp only [okOp, Bool.and_eq_true] at h
 obtain ⟨h1, h2⟩ := h
 obtain ⟨y, z, e, hy, hz⟩ := okXs_two h1
 split at h2
 ·rename_i t ht
  refine ⟨ats, y, z, t, ?_, hy, hz, ht, h2⟩
  have : xs = #[y, z] := by rw [<- Array.toArray_toList (xs := xs), e]
  rw [this]
 ·cases h2
theorem snd_mdel (hI : MInv A n0 M0 ρ0 w0 M ρ H w) (hf : FRel M ρ fr a.tmps.toList) {ts : List Tag} {m x : AX} (hok : okOp P (.mdel ts m x) o.op = true) (h : aop P n0 id fr H (.mdel ts m x) k)
  (hK : ∀ v H' kl f x w', k v H' kl f -> f -> Nxt A n0 M0 ρ0 w0 M ρ id v H' kl x w' -> K (a.put o.dst x) w') : o.wp P a w K Q := by
 obtain ⟨ats, y, z, t, ho, h1, h2, ht, h4⟩ := inv_mdel hok
 obtain ⟨kt, e, fs, hu, hkt, hh, hts⟩ := okMap_inv h4
 simp only [aop] at h
 have hm := okX_rel hf h1
 have hx := okX_rel hf h2
 generalize m.ev fr = mv at h hm
 generalize x.ev fr = kx at h hx
 unfold mdelK at h
 split at h
 ·rename_i b
  obtain ⟨kv, hkv, h⟩ := exO_inv h
  have hkr := frz_nil_val hx hkv
  unfold mdelB at h
  split at h
  ·rename_i ks vs hB
   obtain ⟨hko, h⟩ := h
   obtain ⟨r, hr, hbr⟩ := hI.rel.spot hB
   obtain ⟨cb, sh, n, es, clock, kus, vus, rfl, hma⟩ := brel_map hbr
   have hy := mp_val hm hr
   obtain ⟨cs, us, rfl, hz, hc, hct, hul, hoks⟩ := keyOk_inv hko hkr
   have hck := fun e => checkKey_run (P := P) (w := w) hkt hts (xs := us.toArray) (by simpa using hul) e
   have hfk := findKey_run (P := P) (w := w) hkt hh hts hc hct hma.krel hma.keys hoks
   have hgo : (getObj cb).run P w = .ok (.map es clock) w := by simp [getObj, Sem.run, hma.heap]
   have hso : ∀ o', (setObj cb o').run P w = .ok () { w with heap := w.heap.setIfInBounds cb o' } := fun o' => by simp [setObj, Sem.run, hma.heap]
   have hlt := (Array.getElem?_eq_some_iff.1 hma.heap).1
   cases hmf : mFind (.agg cs) ks with
   | none =>
    rw [hmf] at h hfk
    have hrun : (execOp a.eval o).run P w = .ok (.value (.tuple #[])) { w with heap := w.heap.setIfInBounds cb (.map es clock) } := by
     simp [execOp, ho, resolve, invoke, builtin, Builtin.delete_, ht, run_underlying hu, hy, hgo, hz, hck, hfk, found, hso]
    refine wp_value hrun (hK _ _ _ _ _ _ h trivial ⟨M, ρ, hI.mapSet (es' := es) (clock' := clock) hB hr hma.heap hma.no ?_, fun _ _ h => h, fun _ _ h => h, lval_tup (xs := []) rfl⟩)
    exact map_brel (mapAt_world (es' := es) (clock' := clock) hma (by simp [hlt]) hma.krel hma.vrel hma.len hma.keys hma.vals hma.wf)
   | some i =>
    rw [hmf] at h hfk
    obtain ⟨hilt, hki⟩ := mFind_lt hmf
    have hil : i < es.size := by
     have := congrArg List.length hma.keys
     rw [List.length_map, mk_len hma.krel] at this
     simp at this; omega
    have hent : es.toList[i]? = some es[i] := by rw [Array.getElem?_toList]; simp [hil]
    have hrun : (execOp a.eval o).run P w = .ok (.value (.tuple #[])) { w with heap := w.heap.setIfInBounds cb (.map (es.eraseIdxIfInBounds i) clock) } := by
     simp [execOp, ho, resolve, invoke, builtin, Builtin.delete_, ht, run_underlying hu, hy, hgo, hz, hck, hfk, found, hso, hent]
    refine wp_value hrun (hK _ _ _ _ _ _ h trivial ⟨M, ρ, hI.mapSet (es' := es.eraseIdxIfInBounds i) (clock' := clock) hB hr hma.heap hma.no ?_, fun _ _ h => h, fun _ _ h => h, lval_tup (xs := []) rfl⟩)
    have htl : (es.eraseIdxIfInBounds i).toList = es.toList.eraseIdx i := by
     unfold Array.eraseIdxIfInBounds
     rw [dif_pos hil]
     simp
    refine map_brel (mapAt_world (es' := es.eraseIdxIfInBounds i) (clock' := clock) (kus' := kus.eraseIdx i) (vus' := vus.eraseIdx i) hma (by simp [hlt]) (hma.krel.eraseIdx i) (hma.vrel.eraseIdx i) ?_ ?_ ?_ (wfm_erase hma.wf htl))
    ·rw [List.length_eraseIdx, List.length_eraseIdx, hma.len]
    ·rw [htl, erase_map, hma.keys, zipWith_erase _ _ _ _ hma.krel.length.symm]
    ·rw [htl, erase_map, hma.vals, zipWith_erase _ _ _ _ hma.vrel.length.symm]
  ·cases h
 ·cases h
theorem inv_mlen {m : AX} {o : Op} (h : okOp P (.mlen m) o = true) : ∃ ats y t kt e, o = .call { callee := .builtin .len, args := #[y], argTypes := ats } /\ okX m y = true /\ ats[0]? = some t /\ P.underlying t = some (.map kt e) := by
 cases o <;> first | exact Bool.noConfusion (show false = true from h) | skip
 rename_i c
 obtain ⟨callee, xs, ats⟩ := c
 cases callee <;> first | exact Bool.noConfusion (show false = true from h) | skip
 rename_i bi
 cases bi <;> first | exact Bool.noConfusion (show false = true from h) | skip
 simp only [okOp, Bool.and_eq_true] at h
 obtain ⟨h1, h2⟩ := h
 obtain ⟨y, e, hy⟩ := okXs_one h1
 split at h2
 ·rename_i t ht
  split at h2
  ·rename_i kt el hu
   refine ⟨ats, y, t, kt, el, ?_, hy, ht, hu⟩
   have : xs = #[y] := by rw [<- Array.toArray_toList (xs := xs), e]
   rw [this]
  ·cases h2
 ·cases h2
theorem snd_mlen (hI : MInv A n0 M0 ρ0 w0 M ρ H w) (hf : FRel M ρ fr a.tmps.toList) {m : AX} (hok : okOp P (.mlen m) o.op = true) (h : aop P n0 id fr H (.mlen m) k)
  (hK : ∀ v H' kl f x w', k v H' kl f -> f -> Nxt A n0 M0 ρ0 w0 M ρ id v H' kl x w' -> K (a.put o.dst x) w') : o.wp P a w K Q := by
 obtain ⟨ats, y, t, kt, e, ho, h1, ht, hu⟩ := inv_mlen hok
 simp only [aop] at h
 have hm := okX_rel hf h1
 generalize m.ev fr = mv at h hm
 unfold mlenK at h
 split at h
 ·unfold mlenB at h
  split at h
  ·rename_i ks vs hB
   obtain ⟨r, hr, hbr⟩ := hI.rel.spot hB
   obtain ⟨cb, sh, n, es, clock, kus, vus, rfl, hma⟩ := brel_map hbr
   have hy := mp_val hm hr
   have hgo : (getObj cb).run P w = .ok (.map es clock) w := by simp [getObj, Sem.run, hma.heap]
   have hsz : es.size = ks.length := by
    have := congrArg List.length hma.keys
    rw [List.length_map, mk_len hma.krel] at this
    simpa using this
   have hrun : (execOp a.eval o).run P w = .ok (.value (.int .i64 ks.length)) w := by
    simp [execOp, ho, resolve, invoke, builtin, Builtin.len_, ht, run_underlying hu, hy, hgo, hsz, goInt]
   exact wp_value hrun (hK _ _ _ _ _ _ h trivial (nxt_same hI lval_int))
  ·cases h
 ·rename_i ks vs
  have hrun : (execOp a.eval o).run P w = .ok (.value (.int .i64 ks.length)) w := by
   rcases map_stab hI.rel (lval_s.1 hm) with ⟨hy, rfl, rfl⟩ | ⟨cb, p, ks', vs', kus, vus, hy, _, hperm, hlen, hma⟩
   ·simp [execOp, ho, resolve, invoke, builtin, Builtin.len_, ht, run_underlying hu, hy, goInt]
   ·have hgo : (getObj cb).run P w = .ok (.map p.1 p.2) w := by simp [getObj, Sem.run, hma.heap]
    have hsz : p.1.size = ks.length := by
     have := congrArg List.length hma.keys
     rw [List.length_map, mk_len hma.krel] at this
     have h9 := hperm.length_eq
     have h10 := hma.len
     simp only [List.length_zip, Array.length_toList] at h9 this
     omega
    simp [execOp, ho, resolve, invoke, builtin, Builtin.len_, ht, run_underlying hu, hy, hgo, hsz, goInt]
  exact wp_value hrun (hK _ _ _ _ _ _ h trivial (nxt_same hI lval_int))
 ·cases h
theorem inv_sidx {x i : AX} {o : Op} (h : okOp P (.sidx x i) o = true) : ∃ t y j, o = .index t y j /\ okX x y = true /\ okX i j = true /\ P.underlying t = some .string := by
 cases o <;> first | exact Bool.noConfusion (show false = true from h) | skip
 rename_i t y j
 simp only [okOp, Bool.and_eq_true] at h
 obtain ⟨⟨h1, h2⟩, h3⟩ := h
 split at h3
 ·rename_i hu; exact ⟨t, y, j, rfl, h1, h2, hu⟩
 ·cases h3
theorem snd_sidx (hI : MInv A n0 M0 ρ0 w0 M ρ H w) (hf : FRel M ρ fr a.tmps.toList) {x i : AX} (hok : okOp P (.sidx x i) o.op = true) (h : aop P n0 id fr H (.sidx x i) k)
  (hK : ∀ v H' kl f x w', k v H' kl f -> f -> Nxt A n0 M0 ρ0 w0 M ρ id v H' kl x w' -> K (a.put o.dst x) w') : o.wp P a w K Q := by
 obtain ⟨t, y, j, ho, h1, h2, hu⟩ := inv_sidx hok
 simp only [aop] at h
 have hx := okX_rel hf h1
 have hj := okX_rel hf h2
 generalize x.ev fr = xv at h hx
 generalize i.ev fr = iv at h hj
 unfold sidxK at h
 split at h
 ·rename_i s kd n
  obtain ⟨h0, h⟩ := h
  obtain ⟨b, hb, h⟩ := exO_inv h
  have ex : a.eval y = .string s := by
   have := (lval_s.1 hx).one rfl
   simpa [CRel] using this
  have ej := lrel_int rfl hj
  have hb' : s[n.toNat]? = some b := by
   obtain ⟨h5, h6⟩ := Array.getElem?_eq_some_iff.1 hb
   have h7 : n.toNat < s.size := h5
   rw [getElem?_pos s n.toNat h7]
   exact congrArg some h6
  have hrun : (execOp a.eval o).run P w = .ok (.value (.int .u8 b.toNat)) w := by
   simp [execOp, ho, Instr.index, ex, ej, asIntOf, run_underlying hu, h0, hb']
  exact wp_value hrun (hK _ _ _ _ _ _ h trivial (nxt_same hI lval_int))
 ·cases h
theorem inv_mkmap {o : Op} (h : okOp P .mkmap o = true) : ∃ t, o = .makeMap t none := by
 cases o <;> first | exact Bool.noConfusion (show false = true from h) | skip
 rename_i t r
 cases r <;> first | exact Bool.noConfusion (show false = true from h) | exact ⟨_, rfl⟩
theorem snd_mkmap (hI : MInv A n0 M0 ρ0 w0 M ρ H w) (hid : ρ0.length <= id) (hok : okOp P .mkmap o.op = true) (h : aop P n0 id fr H .mkmap k)
  (hK : ∀ v H' kl f x w', k v H' kl f -> f -> Nxt A n0 M0 ρ0 w0 M ρ id v H' kl x w' -> K (a.put o.dst x) w') : o.wp P a w K Q := by
 obtain ⟨t, ho⟩ := inv_mkmap hok
 simp only [aop] at h
 obtain ⟨hg, h⟩ := h
 have hnc : ∀ o, M.cell w.heap.size o = none := fun o => by
  cases hm : M.cell w.heap.size o with
  | none => rfl
  | some v => have := hI.rel.cell_lt hm; omega
 have hnm : M.map w.heap.size = none := by
  cases hm : M.map w.heap.size with
  | none => rfl
  | some v => have := hI.rel.map_lt hm; omega
 obtain ⟨r, hr, hBr⟩ := hI.rel.spot hg
 have hr' : r = .gone := by cases r <;> simp only [BRel] at hBr; rfl
 subst hr'
 have hle : Env.le ρ (ρ.set id (.here w.heap.size 0 0)) := Env.le_set hr
 obtain ⟨h1, h2⟩ := hI.lay (cb := w.heap.size) (sh := 0) (n := 0) (B := .map [] []) hid hg M.le_refl (touch_alloc w (.map #[] 0)) (Newer.refl _ _ _) (hI.rel.holds.grow (touch_alloc w _)) (Nat.le_refl _) (by simp) ⟨hnc, hnm⟩ (by
  simp only [BRel]
  exact ⟨#[], 0, [], [], alloc_at w _, by simp [CRelC], by simp [CRelC], by simp, by simp, hnm, by simp [wfm], by simp⟩)
 have hidl : id < ρ.length := by rw [hI.rel.len]; exact (List.getElem?_eq_some_iff.1 hg).1
 refine wp_value (x := .map (some w.heap.size)) (w' := w.alloc (.map #[] 0)) ?_ (hK _ _ _ _ _ _ h trivial ⟨M, _, h1, fun j hj h => by rw [List.getElem?_set, if_neg (fun e => hj e.symm)]; exact h, fun _ _ h => h.mono M.le_refl h2, lval_of_one ?_ rfl⟩)
 ·simp [execOp, ho, Instr.makeMap]
 ·simp only [LRel]; exact ⟨_, _, _, by rw [List.getElem?_set_self hidl], rfl⟩
/-! Ranges over stable maps. -/
theorem leftOf_nil (es : Array MapEntry) : leftOf es #[] = es := by
 unfold leftOf
 rw [Array.filter_eq_self]
 intro e _
 simp
theorem leftOf_push (es : Array MapEntry) (seen : Array Nat) (b : Nat) : (leftOf es (seen.push b)).toList = (leftOf es seen).toList.filter fun y => !(y.born == b) := by
 unfold leftOf
 simp only [Array.toList_filter, List.filter_filter]
 congr 1
 funext y
 rw [contains_push]
 cases seen.contains y.born <;> cases y.born == b <;> rfl
theorem entsRel_pick {e : MapEntry} : ∀ {l : List (SV × SV)} {es : List MapEntry}, EntsRel M l es -> e ∈ es -> (es.map (·.born)).Nodup ->
  ∃ l1 x l2, l = l1 ++ x :: l2 /\ VRel M x.1 e.key /\ VRel M x.2 e.val /\ EntsRel M (l1 ++ l2) (es.filter fun y => !(y.born == e.born))
 | [], es, h, he, _ => by simp only [EntsRel] at h; subst h; cases he
 | x :: l, es, h, he, hn => by
  obtain ⟨e0, es', rfl, h1, h2, h3⟩ := h
  simp only [List.map_cons, List.nodup_cons, List.mem_map, not_exists, not_and] at hn
  rcases List.mem_cons.1 he with rfl | he
  ·refine ⟨[], x, l, rfl, h1, h2, ?_⟩
   rw [List.filter_cons_of_neg (by simp), List.filter_eq_self.2 (fun y hy => by simpa using hn.1 y hy)]
   exact h3
  ·obtain ⟨l1, y, l2, rfl, h4, h5, h6⟩ := entsRel_pick h3 he hn.2
   refine ⟨x :: l1, y, l2, rfl, h4, h5, ?_⟩
   have hne : e0.born ≠ e.born := fun h => hn.1 e he h.symm
   rw [List.filter_cons_of_pos (by simpa using hne)]
   exact ⟨e0, _, rfl, h1, h2, h6⟩
theorem entsRel_of : ∀ {ks vs : List SV} {es : List MapEntry} {kus vus : List (List Value)}, CRelC M ks kus -> CRelC M vs vus -> ks.length = vs.length -> es.map (·.key) = List.zipWith SV.mk ks kus -> es.map (·.val) = List.zipWith SV.mk vs vus ->
  EntsRel M (ks.zip vs) es
 | [], vs, es, kus, vus, _, _, hl, hk, _ => by
  have : es = [] := by simpa using hk
  subst this
  cases vs <;> simp [EntsRel]
 | k :: ks, [], es, kus, vus, _, _, hl, _, _ => by simp at hl
 | k :: ks, v :: vs, es, kus, vus, h1, h2, hl, hk, hv => by
  simp only [CRelC] at h1 h2
  obtain ⟨u, us, rfl, h3, h4⟩ := h1
  obtain ⟨u', us', rfl, h5, h6⟩ := h2
  cases es with
  | nil => simp at hk
  | cons e es =>
   simp only [List.map_cons, List.zipWith_cons_cons, List.cons.injEq] at hk hv
   exact ⟨e, es, rfl, ⟨u, h3, hk.1⟩, ⟨u', h5, hv.1⟩, entsRel_of h4 h6 (by simpa using hl) hk.2 hv.2⟩
theorem MInv.objSet (h : MInv A n0 M0 ρ0 w0 M ρ H w) {b cb sh n : Nat} {B B' : ABlock} {ob ob' : Obj} (hB : H[b]? = some B) (hr : ρ[b]? = some (.here cb sh n))
  (hc : w.heap[cb]? = some ob) (hnoc : ∀ o, M.cell cb o = none) (hn : M.map cb = none) (hB' : BRel M ρ (ChangeMaps.setBlock w cb ob') B' (.here cb sh n)) :
  MInv A n0 M0 ρ0 w0 M ρ (H.set b B') (ChangeMaps.setBlock w cb ob') := by
 have hb := (List.getElem?_eq_some_iff.1 hB).1
 have hρ : ρ.set b (.here cb sh n) = ρ := by
  apply List.ext_getElem?
  intro j
  rw [List.getElem?_set]
  split
  ·rename_i e; subst e; rw [hr]; simp [h.rel.len, hb]
  ·rfl
 have hoth : ∀ k, k ≠ cb -> (ChangeMaps.setBlock w cb ob').heap[k]? = w.heap[k]? := fun k hk => by
  show (w.heap.setIfInBounds cb ob')[k]? = _
  rw [Array.getElem?_setIfInBounds, if_neg (fun e => hk e.symm)]
 have hk := SRel.turn (w' := ChangeMaps.setBlock w cb ob') h.rel (b := b) (cb := cb) (sh := sh) (n := n) (B := B') hb (fun k hk _ => hoth k hk) ⟨hnoc, hn⟩ (by simp [ChangeMaps.setBlock]) (by simpa [ChangeMaps.setBlock] using h.rel.lt b cb sh n hr)
  (fun j cb' sh' n' hj hj' => h.rel.inj j b cb' sh' n' cb sh n hj hj' hr) (by rw [hρ]; exact hB') (fun j B'' hj hBj => by
   obtain ⟨r, h1, h2⟩ := h.rel.spot hBj
   rw [hρ, h1]; exact h2)
 rw [hρ] at hk
 exact { h with
  rel := hk
  touch := by
   refine ⟨h.touch.os, h.touch.tape, h.touch.output, h.touch.drawn, by simpa [ChangeMaps.setBlock] using h.touch.size, fun k hk hno => ?_⟩
   rw [hoth k fun e => ?_]
   ·exact h.touch.block k hk hno
   ·subst e
    rcases h.has_old ⟨b, sh, n, hr⟩ with h1 | h1
    ·exact hno h1
    ·omega
  alien := fun k o ho => by
   obtain ⟨h1, h2, h3⟩ := h.alien k o ho
   exact ⟨by rw [hoth k (fun e => h3 (e ▸ ⟨b, sh, n, hr⟩))]; exact h1, h2, h3⟩ }
theorem inv_rangeM {m : AX} {o : Op} (h : okOp P (.rangeM m) o = true) : ∃ t y kt e, o = .range t y /\ okX m y = true /\ P.underlying t = some (.map kt e) := by
 cases o <;> first | exact Bool.noConfusion (show false = true from h) | skip
 rename_i t y
 simp only [okOp, Bool.and_eq_true] at h
 obtain ⟨h1, h2⟩ := h
 split at h2
 ·rename_i kt e hu; exact ⟨t, y, kt, e, rfl, h1, hu⟩
 ·cases h2
theorem snd_rangeM (hI : MInv A n0 M0 ρ0 w0 M ρ H w) (hf : FRel M ρ fr a.tmps.toList) (hid : ρ0.length <= id) {m : AX} (hok : okOp P (.rangeM m) o.op = true) (h : aop P n0 id fr H (.rangeM m) k)
  (hK : ∀ v H' kl f x w', k v H' kl f -> f -> Nxt A n0 M0 ρ0 w0 M ρ id v H' kl x w' -> K (a.put o.dst x) w') : o.wp P a w K Q := by
 obtain ⟨t, y, kt, e, ho, h1, hu⟩ := inv_rangeM hok
 simp only [aop] at h
 have hm := okX_rel hf h1
 generalize m.ev fr = mv at h hm
 unfold rangeMK at h
 split at h
 ·rename_i ks vs
  obtain ⟨hg, h⟩ := h
  have hnc : ∀ o, M.cell w.heap.size o = none := fun o => by
   cases hm : M.cell w.heap.size o with
   | none => rfl
   | some v => have := hI.rel.cell_lt hm; omega
  have hnm : M.map w.heap.size = none := by
   cases hm : M.map w.heap.size with
   | none => rfl
   | some v => have := hI.rel.map_lt hm; omega
  obtain ⟨r, hr, hBr⟩ := hI.rel.spot hg
  have hr' : r = .gone := by cases r <;> simp only [BRel] at hBr; rfl
  subst hr'
  have hidl : id < ρ.length := by rw [hI.rel.len]; exact (List.getElem?_eq_some_iff.1 hg).1
  have fin : ∀ ob : Obj, (Instr.range t (a.eval y)).run P w = .ok (.pointer (some ⟨w.heap.size, 0, none⟩)) (w.alloc ob) -> MitRel M (ks.zip vs) none (some ob) -> o.wp P a w K Q := by
   intro ob hrun hmit
   have hle : Env.le ρ (ρ.set id (.here w.heap.size 0 0)) := Env.le_set hr
   obtain ⟨h1, h2⟩ := hI.lay (cb := w.heap.size) (sh := 0) (n := 0) (B := .mit (ks.zip vs) none) hid hg M.le_refl (touch_alloc w ob) (Newer.refl _ _ _) (hI.rel.holds.grow (touch_alloc w _)) (Nat.le_refl _) (by simp) ⟨hnc, hnm⟩ (by
    simp only [BRel]
    exact ⟨trivial, by rw [alloc_at w ob]; exact hmit⟩)
   refine wp_value (x := .pointer (some ⟨w.heap.size, 0, none⟩)) (w' := w.alloc ob) (by simp [execOp, ho, hrun]) (hK _ _ _ _ _ _ h trivial ⟨M, _, h1, fun j hj h => by rw [List.getElem?_set, if_neg (fun e => hj e.symm)]; exact h, fun _ _ h => h.mono M.le_refl h2, lval_of_one ?_ rfl⟩)
   simp only [LRel]; exact ⟨w.heap.size, 0, 0, by rw [List.getElem?_set_self hidl], rfl⟩
  rcases map_stab hI.rel (lval_s.1 hm) with ⟨hy, rfl, rfl⟩ | ⟨cb, p, ks', vs', kus, vus, hy, hM, hperm, hlen, hma⟩
  ·exact fin _ (by rw [hy]; exact run_range_nilMap w t kt e hu) (.inl ⟨rfl, rfl, rfl⟩)
  ·refine fin _ (by rw [hy]; exact run_range_map w t kt e cb p.1 p.2 hu hma.heap) (.inr ⟨cb, p, #[], hM, hma.wf, rfl, ⟨_, hperm, ?_⟩, fun x hx => by cases hx⟩)
   rw [leftOf_nil]
   exact entsRel_of hma.krel hma.vrel hma.len hma.keys hma.vals
 ·cases h
theorem inv_nextM {i : AX} {o : Op} (h : okOp P (.nextM i) o = true) : ∃ y, o = .next y false /\ okX i y = true := by
 cases o <;> first | exact Bool.noConfusion (show false = true from h) | skip
 rename_i y st
 simp only [okOp, Bool.and_eq_true, Bool.not_eq_true'] at h
 obtain ⟨rfl, h2⟩ := h
 exact ⟨y, rfl, h2⟩
theorem loc0_val {b : Nat} {y : Value} (h : LVal M ρ (.loc b 0) y) {cb n : Nat} (hr : ρ[b]? = some (.here cb 0 n)) : y = .pointer (some ⟨cb, 0, none⟩) := by
 have h1 := h.one rfl (by simp)
 simp only [LRel] at h1
 obtain ⟨cb', sh', n', h2, h3⟩ := h1
 rw [hr] at h2; cases h2
 simpa using h3
theorem brel_mit {left : List (SV × SV)} {last : Option (SV × SV)} {r : Spot} (h : BRel M ρ w (.mit left last) r) : ∃ cb n, r = .here cb 0 n /\ MitRel M left last w.heap[cb]? := by
 cases r <;> simp only [BRel] at h
 obtain ⟨rfl, h⟩ := h
 exact ⟨_, _, rfl, h⟩
theorem snd_nextM (hI : MInv A n0 M0 ρ0 w0 M ρ H w) (hf : FRel M ρ fr a.tmps.toList) {i : AX} (hok : okOp P (.nextM i) o.op = true) (h : aop P n0 id fr H (.nextM i) k)
  (hK : ∀ v H' kl f x w', k v H' kl f -> f -> Nxt A n0 M0 ρ0 w0 M ρ id v H' kl x w' -> K (a.put o.dst x) w') : o.wp P a w K Q := by
 obtain ⟨y, ho, h1⟩ := inv_nextM hok
 simp only [aop] at h
 have hi := okX_rel hf h1
 generalize i.ev fr = iv at h hi
 unfold nextMK at h
 split at h
 ·rename_i b
  unfold nextMB at h
  split at h
  ·rename_i left last hB
   obtain ⟨hnil, hcons⟩ := h
   obtain ⟨r, hr, hbr⟩ := hI.rel.spot hB
   obtain ⟨cb, n, rfl, hmit⟩ := brel_mit hbr
   have hy := loc0_val hi hr
   have vfalse : LVal M ρ (.tup [.bool false]) (.tuple #[.bool false]) := lval_tup (xs := [.bool false]) ⟨_, _, rfl, vrel_of_one (by simp [CRel]) rfl, rfl⟩
   rcases hmit with ⟨rfl, rfl, hob⟩ | ⟨bm, p, seen, hM, hw, hob, ⟨left', hlp, hents⟩, _⟩
   ·have hrun : (execOp a.eval o).run P w = .ok (.value (.tuple #[.bool false])) w := by
     simp [execOp, ho, hy, Instr.next, getObj, Sem.run, hob, Result.andThen]
    exact wp_value hrun (hK _ _ _ _ _ _ (hnil rfl) trivial (nxt_same hI vfalse))
   ·have hmap := hI.rel.maps bm p hM
    have hne : bm ≠ cb := fun e => by subst e; rw [hob] at hmap; cases hmap
    rcases run_next_at (P := P) w o.type cb bm p.2 p.2 seen p.1 p.2 hob hmap hw.2 (Nat.le_refl _) with ⟨h0, hrun⟩ | ⟨e, he, w1, hw1, hrun⟩
    ·have hl : left = [] := by
      have : (leftOf p.1 seen).toList = [] := by simpa [Array.size_eq_zero_iff] using h0
      rw [this] at hents
      have : left' = [] := by
       cases left' with
       | nil => rfl
       | cons x l => obtain ⟨_, _, e, _⟩ := hents; cases e
      subst this
      exact hlp.nil_eq.symm
     exact wp_value (by simp [execOp, ho, hy, hrun]) (hK _ _ _ _ _ _ (hnil hl) trivial (nxt_same hI vfalse))
    ·have hnd : ((leftOf p.1 seen).toList.map (·.born)).Nodup := by
      refine hw.1.sublist (List.Sublist.map _ ?_)
      unfold leftOf
      rw [Array.toList_filter]
      exact List.filter_sublist
     obtain ⟨l1', x, l2', hl', hx1, hx2, hrest⟩ := entsRel_pick hents he hnd
     obtain ⟨l1, l2, hl⟩ := List.append_of_mem (hlp.mem_iff.1 (by rw [hl']; simp : x ∈ left'))
     have hpr : (l1' ++ l2').Perm (l1 ++ l2) := by
      have h8 : (x :: (l1' ++ l2')).Perm (x :: (l1 ++ l2)) := by
       refine (List.perm_middle.symm.trans ?_).trans List.perm_middle
       rw [<- hl', <- hl]; exact hlp
      exact h8.cons_inv
     have hI1 : MInv A n0 M0 ρ0 w0 M ρ H w1 := by
      rcases hw1 with rfl | rfl
      ·exact hI
      ·exact hI.world rfl rfl rfl rfl (Nat.le_succ _)
     have hob1 : w1.heap[cb]? = some (.mapIter (some bm) p.2 seen p.2) := by rcases hw1 with rfl | rfl <;> exact hob
     have hnc : ∀ o, M.cell cb o = none := fun o => by
      cases hm : M.cell cb o with
      | none => rfl
      | some v =>
       have := hI.rel.cells cb o v hm
       simp [World.cell?, hob] at this
     have hnm : M.map cb = none := by
      cases hm : M.map cb with
      | none => rfl
      | some q =>
       have := hI.rel.maps cb q hm
       rw [hob] at this; cases this
     have hlt : cb < w1.heap.size := (Array.getElem?_eq_some_iff.1 hob1).1
     refine wp_value (by simp only [execOp, ho, hy, Sem.run_bind, hrun]; rfl) (hK _ _ _ _ _ _ (hcons l1 x l2 hl) trivial ⟨M, ρ, hI1.objSet hB hr hob1 hnc hnm ?_, fun _ _ h => h, fun _ _ h => h, ?_⟩)
     ·simp only [BRel]
      refine ⟨trivial, .inr ⟨bm, p, seen.push e.born, hM, hw, ?_, ?_, ?_⟩⟩
      ·show (w1.heap.setIfInBounds cb _)[cb]? = _
       rw [Array.getElem?_setIfInBounds_self_of_lt hlt]
      ·rw [leftOf_push]; exact ⟨_, hpr, hrest⟩
      ·intro z hz
       cases hz
       exact ⟨e, (mem_left he).1, by simp, hx1, hx2⟩
     ·exact lval_tup (xs := [.bool true, e.key, e.val]) ⟨_, _, rfl, vrel_of_one (by simp [CRel]) rfl, _, _, rfl, hx1, _, _, rfl, hx2, rfl⟩
  ·cases h
 ·cases h
theorem inv_entryM {i : AX} {o : Op} (h : okOp P (.entryM i) o = true) : ∃ y, o = .entry y /\ okX i y = true := by
 cases o <;> first | exact Bool.noConfusion (show false = true from h) | skip
 rename_i y
 exact ⟨y, rfl, by simpa only [okOp] using h⟩
theorem snd_entryM (hI : MInv A n0 M0 ρ0 w0 M ρ H w) (hf : FRel M ρ fr a.tmps.toList) {i : AX} (hok : okOp P (.entryM i) o.op = true) (h : aop P n0 id fr H (.entryM i) k)
  (hK : ∀ v H' kl f x w', k v H' kl f -> f -> Nxt A n0 M0 ρ0 w0 M ρ id v H' kl x w' -> K (a.put o.dst x) w') : o.wp P a w K Q := by
 obtain ⟨y, ho, h1⟩ := inv_entryM hok
 simp only [aop] at h
 have hi := okX_rel hf h1
 generalize i.ev fr = iv at h hi
 unfold entryMK at h
 split at h
 ·rename_i b
  unfold entryMB at h
  split at h
  ·rename_i left x hB
   obtain ⟨r, hr, hbr⟩ := hI.rel.spot hB
   obtain ⟨cb, n, rfl, hmit⟩ := brel_mit hbr
   have hy := loc0_val hi hr
   rcases hmit with ⟨_, hn, _⟩ | ⟨bm, p, seen, hM, hw, hob, _, hlast⟩
   ·cases hn
   ·obtain ⟨e, he, hback, hx1, hx2⟩ := hlast x rfl
    have hmap := hI.rel.maps bm p hM
    obtain ⟨seen', hse⟩ : ∃ s : Array Nat, seen = s.push e.born := by
     exact Array.back?_eq_some_iff.1 hback
    subst hse
    have hrun := run_entry_at (P := P) w cb bm p.2 seen' p.1 p.2 e hob hmap he hw.1
    exact wp_value (by simp [execOp, ho, hy, hrun]) (hK _ _ _ _ _ _ h trivial (nxt_same hI (lval_tup (xs := [e.key, e.val]) ⟨_, _, rfl, hx1, _, _, rfl, hx2, rfl⟩)))
  ·cases h
 ·cases h
theorem inv_callR {f : FuncId} {args : List AX} {o : Op} (h : okOp P (.callR f args) o = true) : okOp P (.call f args) o = true := by
 cases o <;> first | exact Bool.noConfusion (show false = true from h) | skip
 rename_i c
 obtain ⟨callee, xs, ats⟩ := c
 cases callee <;> first | exact Bool.noConfusion (show false = true from h) | skip
 rename_i y
 cases y <;> first | exact Bool.noConfusion (show false = true from h) | skip
 exact h
theorem snd_callR (hI : MInv A n0 M0 ρ0 w0 M ρ H w) (hf : FRel M ρ fr a.tmps.toList) {f : FuncId} {args : List AX} (hok : okOp P (.callR f args) o.op = true) (h : aop P n0 id fr H (.callR f args) k)
  (hK : ∀ v H' kl f x w', k v H' kl f -> f -> Nxt A n0 M0 ρ0 w0 M ρ id v H' kl x w' -> K (a.put o.dst x) w') : o.wp P a w K Q := by
 obtain ⟨xs, ts, ho, hx, hfn⟩ := inv_call (inv_callR hok)
 simp only [aop] at h
 obtain ⟨as, R, hR, has, hk⟩ := h
 have hrun := enter_run (a := a) (w := w) hfn ho (first := #[]) (caps := #[]) rfl
 have hrun' : (execOp a.eval o).run P w = .ok (.enter f (xs.toList.map a.eval).toArray) w := by rw [hrun]; simp [<- Array.toList_map]
 have hvs := frzAll_val (H := []) M.le_refl (fun i B r h => by simp at h) (okXs_rel hf hx) has
 refine wp_enter hrun' (hR M w _ hI.rel.holds hvs) fun e w' ⟨ys, M', rs, hrs, he, hle, hh, hr, ht, hn⟩ => ⟨retOf ys, he, ?_⟩
 exact hK _ _ _ _ _ _ (hk rs hrs) trivial ⟨M', ρ, hI.grow hle ht hn hh, fun _ _ h => h, fun _ _ h => h.mono hle (Env.le_refl _), results_val hr⟩
end
end Go.E

/- Each operation of the value semantics is borne out by the model: append to an own row that is not used any more behind it. -/
namespace Go.E
open Go
section
variable {P : Program} {A : Nat -> Obj -> Prop} {dfs : List Deferred} {M0 : Mem} {ρ0 : Env} {w0 : World} {M : Mem} {ρ : Env} {H : List ABlock} {w : World} {o : Oper} {a : Act} {K : Act -> World -> Prop} {Q : Exit -> Act -> World -> Prop} {fr : List LV} {k : AK} {n0 id : Nat}
theorem appendZ_ok {sz bytes : Nat} {s x : AX} {o : Op} (h : okOp P (.appendZ sz bytes s x) o = true) : okOp P (.append sz bytes s x) o = true := by
 cases o <;> first | exact Bool.noConfusion (show false = true from h) | skip
 rename_i c
 obtain ⟨callee, xs, ts⟩ := c
 cases callee <;> first | exact Bool.noConfusion (show false = true from h) | skip
 rename_i b
 cases b <;> first | exact Bool.noConfusion (show false = true from h) | skip
 exact h
theorem stay_row (hI : MInv A n0 M0 ρ0 w0 M ρ H w) {xs ys : List SV} {ussx ussy : List (List Value)} {sz gc m : Nat} {z : Value} {e : TypeId} (hx : CRelC M xs ussx) (hy : CRelC M ys ussy) (hlx : ∀ u ∈ ussx, u.length = sz) (hly : ∀ u ∈ ussy, u.length = sz)
  (hgc : xs.length + ys.length <= gc) (hml : gc <= maxLen) :
  ∃ M', MInv A n0 M0 ρ0 w0 M' ρ H (w.drew.alloc (.cells ((ussx.flatten ++ ussy.flatten).toArray ++ Builtin.zeroCells z.cells m) e)) /\ M.le M' /\
   CRel M' (.slice (xs ++ ys)) [.slice (some ⟨w.heap.size, 0, none⟩) (xs.length + ys.length) gc] := by
 have hI' := hI.drew
 obtain ⟨h1, h2, h3, h4⟩ := Mem.lay_spec hI'.rel.holds ((ussx.flatten ++ ussy.flatten).toArray ++ Builtin.zeroCells z.cells m) e
 refine ⟨_, hI'.grow h1 (touch_alloc w.drew _) h2 h3, h1, ?_⟩
 simp only [CRel]
 refine ⟨_, _, _, rfl, by simp, hgc, hml, .inr ⟨w.heap.size, 0, sz, ussx ++ ussy, rfl, CRelC.mono h1 _ _ (hx.append hy), fun u hu => ?_, fun j v hj => ?_⟩⟩
 ·rcases List.mem_append.1 hu with hu | hu
  ·exact hlx u hu
  ·exact hly u hu
 ·refine h4 j v ?_
  have hlt := (List.getElem?_eq_some_iff.1 hj).1
  rw [List.flatten_append] at hj hlt
  rw [Array.toList_append, List.getElem?_append_left (by simpa using hlt)]
  exact hj
theorem snd_appendZ (hI : MInv A n0 M0 ρ0 w0 M ρ H w) (hf : FRel M ρ fr a.tmps.toList) {sz bytes : Nat} {s x : AX} (hok : okOp P (.appendZ sz bytes s x) o.op = true) (h : aop P n0 id fr H (.appendZ sz bytes s x) k)
    (hK : ∀ v H' kl f x w', k v H' kl f -> f -> Nxt A n0 M0 ρ0 w0 M ρ id v H' kl x w' -> K (a.put o.dst x) w') : o.wp P a w K Q := by
  obtain ⟨ts, y, y', t, tx, e, e', ie, z, ho, hs, hx, hb, h0, h1, ht, hi, hsz, hbytes, hz, hzs, hk⟩ := inv_append (appendZ_ok hok)
  simp only [aop] at h
  have hv := okX_rel hf hs
  have hu := okX_rel hf hx
  generalize s.ev fr = v at h hv
  generalize x.ev fr = u at h hu
  unfold appendZK at h
  split at h
  next b off len sz' clip =>
    obtain ⟨rfl, h⟩ := h
    obtain ⟨ys, hys, hfy, h⟩ := exO_inv h
    unfold appendZB at h
    split at h
    next cs hB =>
      obtain ⟨hend, hfb, hf60, hlen, hne, xs, hrow, hfx, hkk⟩ := h
      subst hsz hbytes
      have hvx : elemsOf H (.sl b off len ie.size clip) = some xs := by simp only [elemsOf, hB, blkCells, Option.bind_some]; exact hrow
      obtain ⟨adx, capx, ussx, hx0, hx1, hx2, hx3, hx4⟩ := elems_at hI hv hvx
      obtain ⟨ady, capy, ussy, ey, hy1, hy2, hy3, hy4, hy5, hsy⟩ := src_of (P := P) hI hk hu hys hfy
      have hlx := lenL hx3 hfx
      have hxl : ussx.length = xs.length := hx3.length
      have hflx : ussx.flatten.length = xs.length * ie.size := by rw [flatten_len hlx, hxl]
      have h2 := hv.one rfl (by simp)
      simp only [LRel] at h2
      obtain ⟨r, ad, cap, hρ, hg, ez, hlc, hcm, hpos, _, hcap⟩ := h2
      rw [hx0] at ez
      simp only [List.cons.injEq, Value.slice.injEq, and_true] at ez
      obtain ⟨rfl, hxs, rfl⟩ := ez
      obtain ⟨r', hr1, hr2⟩ := hI.rel.spot hB
      rw [hρ] at hr1; cases hr1
      have hxne : xs ≠ [] := fun e => by rw [e] at hxs; simp at hxs; omega
      obtain ⟨cb0, o0, sz0, ead, _, hcell⟩ := hx4.resolve_left hxne
      rcases hcap with hc0 | ⟨cb, sh, n, rfl, had, hfit⟩
      · omega
      rw [ead] at had
      simp only [Option.some.injEq, Addr.mk.injEq, and_true] at had
      obtain ⟨rfl, rfl⟩ := had
      simp only [BRel] at hr2
      obtain ⟨c, T, hc1, hc2, hc3, hc4, hc5⟩ := hr2
      have hlp := List.length_pos_iff.2 hne
      have hcl : c.toList.length = n := by simp only [Array.length_toList]; omega
      by_cases hroom : len + ys.length <= capx
      · have hmul := Nat.mul_le_mul_right ie.size hroom
        rw [Nat.add_mul] at hmul
        have hone : ∀ u ∈ ussy.flatten, u.oneCell' = true := by
          intro u hu
          obtain ⟨us, hus, hu⟩ := List.mem_flatten.1 hu
          exact CRelC.oneCells _ _ hy3 us hus u hu
        have hst := run_storeCells_at P cb0 (sh + off + len * ie.size) T ussy.flatten 0 c w hc1 (by simp only [Nat.add_zero]; omega) hone
        have hrun := append_room (P := P) (w := w) (ty := o.type) h0 h1 ht hi (base := some ⟨cb0, sh + off, none⟩) (sLen := len) (sCap := capx) hsy hroom (fun ad had => by
          cases had; rw [Addr.add_lit]; exact hst) (fun h => by cases h)
        simp only [Nat.add_zero] at hrun
        have hul : ussy.flatten.length = (flatE ys).length := by rw [hy5, flatE_length hfy]
        generalize hc' : (c.toList.take (sh + off + len * ie.size) ++ ussy.flatten ++ c.toList.drop (sh + off + len * ie.size + ussy.flatten.length)).toArray = c' at hrun
        have hL : (cs ++ flatE ys).length = off + len * ie.size + ussy.flatten.length := by rw [List.length_append, hul, hend]
        have hus : (c'.toList.drop sh).take (cs ++ flatE ys).length = (c.toList.drop sh).take cs.length ++ ussy.flatten := by
          rw [hL, <- hend, <- hc']
          have l1 : (c.toList.take (sh + off + len * ie.size)).length = sh + off + len * ie.size := by rw [List.length_take]; omega
          have l2 : ((c.toList.drop sh).take (off + len * ie.size)).length = off + len * ie.size := by rw [List.length_take, List.length_drop]; omega
          simp only [List.append_assoc]
          rw [List.drop_append_of_le_length (by omega), List.drop_take, show sh + off + len * ie.size - sh = off + len * ie.size by omega]
          rw [<- List.append_assoc, List.take_append_of_le_length (by rw [List.length_append, l2]; omega), List.take_of_length_le (by rw [List.length_append, l2]; omega)]
        have hrel : CRelC M (cs ++ flatE ys) (ones ((c'.toList.drop sh).take (cs ++ flatE ys).length)) := by
          rw [hus, ones_append]
          exact hc4.append (flatE_rel hy3)
        have hle := layAt_le (sh := sh) (us := (c'.toList.drop sh).take (cs ++ flatE ys).length) hc5
        have hfz := hI.freeze (cs' := cs ++ flatE ys) (T' := T) (c' := c') (w' := w.setRow cb0 c') hB hρ hc1 hc5
          ⟨rfl, rfl, rfl, Nat.le_refl _, by rw [setRow_size]; exact Nat.le_refl _, fun k hk hno => setRow_other w cb0 k c' fun e => hno (has_one.2 e)⟩ (setRow_heap w cb0 c c' T _ hc1) rfl (CRelC.mono hle _ _ hrel)
        have hfz2 := hfz.reblk0 (b := b) (B' := .frz []) (fun r hr => by
          rw [hρ] at hr; cases hr
          simp only [BRel]
          exact ⟨[], by simp [CRelC], fun j v hj => by simp at hj⟩)
        rw [List.set_set] at hfz2
        refine wp_value (x := .slice (some ⟨cb0, sh + off, none⟩) (len + ys.length) capx) (w' := w.setRow cb0 c') ?_ (hK _ _ _ _ _ _ hkk trivial ⟨_, ρ, hfz2, fun _ _ h => h, fun _ _ h => h.mono hle (Env.le_refl _), ?_⟩)
        · simp only [ead, hxs] at hx0
          simp [execOp, ho, resolve, invoke, builtin, hx0, hrun]
        · rw [lval_s]
          refine vrel_of_one ?_ rfl
          simp only [CRel]
          refine ⟨_, _, _, rfl, by simp [hxs], hroom, hcm, .inr ⟨cb0, sh + off, ie.size, ussx ++ ussy, rfl, CRelC.mono hle _ _ (hx3.append hy3), fun u hu => ?_, fun j v hj => ?_⟩⟩
          · rcases List.mem_append.1 hu with hu | hu
            · exact hlx u hu
            · exact hy4 u hu
          · rw [List.flatten_append] at hj
            simp only [Mem.layAt, if_true]
            rw [if_pos (by omega), hus, show sh + off + j - sh = off + j by omega]
            have l2 : ((c.toList.drop sh).take cs.length).length = off + len * ie.size := by rw [List.length_take, List.length_drop]; omega
            rw [List.getElem?_append] at hj
            split at hj
            · rename_i hlt
              have h5 := hcell j v hj
              rw [heap_cell? hc1] at h5
              rw [hflx, hxs] at hlt
              rw [List.getElem?_append_left (by omega), List.getElem?_take, if_pos (by omega), List.getElem?_drop]
              rw [show sh + (off + j) = sh + off + j by omega]
              simpa using h5
            · rename_i hlt
              rw [hflx, hxs] at hlt hj
              rw [List.getElem?_append_right (by omega), l2, show off + j - (off + len * ie.size) = j - len * ie.size by omega]
              exact hj
      · have hge := grownCap_ge w (len + ys.length) capx e
        have hml := grownCap_le_maxLen w (len + ys.length) capx e (by have : (2:Nat)^60 <= maxLen := by decide
                                                                      omega)
        have hold : (Builtin.firstCells ie.size len (.slice (some ⟨cb0, sh + off, none⟩) len capx)).run P w.drew = .ok ussx.flatten.toArray w.drew := by
          refine run_firstCells_some w.drew ie.size len _ len capx _ (by rw [hflx, hxs]) fun j v hj => ?_
          rw [Addr.add_lit, World.cell?_drew]
          exact hcell j v hj
        have hrun := append_grow (P := P) (w := w) (ty := o.type) h0 h1 ht hi hz (base := some ⟨cb0, sh + off, none⟩) (sLen := len) (sCap := capx) hold hsy (by omega) (by
          have : (2:Nat)^60 <= 9223372036854775807 := by decide
          omega) (growslice_fits (by omega) (by have : (2:Nat)^46 <= 140737488355328 := by decide
                                                omega))
        have hle1 := layAt_le (sh := sh) (us := (c.toList.drop sh).take cs.length) hc5
        have hfz := (hI.freeze (cs' := cs) hB hρ hc1 hc5 (Touch.refl _ w) hc1 rfl (CRelC.mono hle1 _ _ hc4)).reblk0 (b := b) (B' := .frz []) (fun r hr => by
          rw [hρ] at hr; cases hr
          simp only [BRel]
          exact ⟨[], by simp [CRelC], fun j v hj => by simp at hj⟩)
        rw [List.set_set] at hfz
        obtain ⟨M', g1, g2, g3⟩ := stay_row (z := z) (e := e) (m := grownCap w (len + ys.length) capx e - (len + ys.length)) (gc := grownCap w (len + ys.length) capx e) hfz (CRelC.mono hle1 _ _ hx3) (CRelC.mono hle1 _ _ hy3) hlx hy4 (by rw [hxs]; exact hge) hml
        rw [hxs] at g3
        refine wp_value (x := .slice (some ⟨w.heap.size, 0, none⟩) (len + ys.length) (grownCap w (len + ys.length) capx e)) ?_ (hK _ _ _ _ _ _ hkk trivial ⟨M', ρ, g1, fun _ _ h => h, fun _ _ h => h.mono (Mem.le_trans hle1 g2) (Env.le_refl _), by rw [lval_s]; exact vrel_of_one g3 rfl⟩)
        simp only [ead, hxs] at hx0
        simp [execOp, ho, resolve, invoke, builtin, hx0, hrun]
    next => cases h
  next xs =>
    obtain ⟨ys, hys, hfit, hne, hkk⟩ := exO_inv h
    obtain ⟨hfx, hfy, hfb, hf60, hpos⟩ := hfit
    subst hsz hbytes
    obtain ⟨adx, capx, ussx, ex, hx1, hx2, hx3, hx4, hx5, hsx⟩ := src_of (P := P) hI ht hv (ys := xs) rfl hfx
    obtain ⟨ady, capy, ussy, ey, hy1, hy2, hy3, hy4, hy5, hsy⟩ := src_of (P := P) hI hk hu hys hfy
    have h2 := hv.one rfl (by simp)
    simp only [LRel] at h2
    obtain ⟨_, n, e', _⟩ := h2
    rw [ex] at e'
    simp only [List.cons.injEq, Value.slice.injEq, and_true] at e'
    have hcx : capx = xs.length := by omega
    subst hcx
    have hlp := List.length_pos_iff.2 hne
    have hrun := append_grow (P := P) (w := w) (ty := o.type) h0 h1 ht hi hz (base := adx) (sLen := xs.length) (sCap := xs.length) (olds := ussx.flatten) (by rw [<- ex]; exact hsx.cellsD) hsy (by omega) (by
      have : (2:Nat)^60 <= 9223372036854775807 := by decide
      omega) (growslice_fits (by omega) (by have : (2:Nat)^46 <= 140737488355328 := by decide
                                            omega))
    have hge := grownCap_ge w (xs.length + ys.length) xs.length e
    have hml := grownCap_le_maxLen w (xs.length + ys.length) xs.length e (by have : (2:Nat)^60 <= maxLen := by decide
                                                                             omega)
    obtain ⟨M', g1, g2, g3⟩ := stay_row (z := z) (e := e) (m := grownCap w (xs.length + ys.length) xs.length e - (xs.length + ys.length)) (gc := grownCap w (xs.length + ys.length) xs.length e) hI hx3 hy3 hx4 hy4 hge hml
    refine wp_value (x := .slice (some ⟨w.heap.size, 0, none⟩) (xs.length + ys.length) (grownCap w (xs.length + ys.length) xs.length e)) ?_ (hK _ _ _ _ _ _ hkk trivial ⟨M', ρ, g1, fun _ _ h => h, fun _ _ h => h.mono g2 (Env.le_refl _), by rw [lval_s]; exact vrel_of_one g3 rfl⟩)
    simp [execOp, ho, resolve, invoke, builtin, ex, hrun]
  next => cases h
end
end Go.E

/- Each operation of the value semantics is borne out by the model: copy, clear; and all of them. -/
namespace Go.E
open Go
section
variable {P : Program} {A : Nat -> Obj -> Prop} {dfs : List Deferred} {M0 : Mem} {ρ0 : Env} {w0 : World} {M : Mem} {ρ : Env} {H : List ABlock} {w : World} {o : Oper} {a : Act} {K : Act -> World -> Prop} {Q : Exit -> Act -> World -> Prop} {fr : List LV} {k : AK} {n0 id : Nat}
theorem set_same {b : Nat} {B : ABlock} (h : H[b]? = some B) : H.set b B = H := by
 apply List.ext_getElem?
 intro j
 rw [List.getElem?_set]
 by_cases e : b = j
 ·subst e; rw [if_pos rfl, if_pos (List.getElem?_eq_some_iff.1 h).1, h]
 ·simp [e]
theorem splice_nil {α : Type} (cs : List α) (off : Nat) : splice cs off [] = cs := by simp [splice]
theorem snd_copy (hI : MInv A n0 M0 ρ0 w0 M ρ H w) (hf : FRel M ρ fr a.tmps.toList) {sz : Nat} {d s : AX} (hok : okOp P (.copy sz d s) o.op = true) (h : aop P n0 id fr H (.copy sz d s) k)
  (hK : ∀ v H' kl f x w', k v H' kl f -> f -> Nxt A n0 M0 ρ0 w0 M ρ id v H' kl x w' -> K (a.put o.dst x) w') : o.wp P a w K Q := by
 obtain ⟨ts, y, y', t, e, ho, hd, hs, ht, hu, hsz⟩ := inv_copy hok
 simp only [aop] at h
 have hv := okX_rel hf hd
 have hx := okX_rel hf hs
 generalize d.ev fr = v at h hv
 generalize s.ev fr = u at h hx
 -- what comes
 have src : ∀ {ys : List SV} (len : Nat), elemsOf H u = some ys -> (len ≠ 0 -> ∀ y ∈ ys, y.cells.length = sz) -> ∃ uss, CRelC M (ys.take len) uss /\
   (∀ ad cap w', a.eval y = .slice ad len cap -> (∀ q, ad = some q -> (storeCells q uss.flatten).run P w = .ok () w') -> (ad = none -> w' = w) -> (execOp a.eval o).run P w = .ok (.value (.int .i64 (Nat.min ys.length len : Nat))) w') := by
  intro ys len hel hys
  obtain ⟨adx, capx, uss, ex, h1, h2, h3, h4⟩ := elems_at hI hx hel
  have hul : uss.length = ys.length := h3.length
  refine ⟨uss.take len, h3.take len, fun ad cap w' ey hst hno => ?_⟩
  have hmin : Nat.min ys.length len = (uss.take len).length := by
   rw [List.length_take, hul]
   exact Nat.min_comm _ _
  have hfc : (Builtin.firstCells sz (Nat.min ys.length len) (.slice adx ys.length capx)).run P w = .ok (uss.take len).flatten.toArray w := by
   by_cases hl0 : len = 0
   ·subst hl0
    have e0 : Nat.min ys.length 0 = 0 := Nat.min_zero _
    rw [e0]
    simp only [List.take_zero, List.flatten_nil]
    cases adx with
    | none => exact run_firstCells_none w sz 0 _ _
    | some q => exact run_firstCells_some w sz 0 q _ _ [] (by simp) (by simp)
   ·have hl := lenL (h3.take len) (fun z hz => hys hl0 z (List.mem_of_mem_take hz))
    have hfl := flatten_len hl
    rcases h4 with rfl | ⟨b, of, sz', rfl, h5, h6⟩
    ·simp only [CRelC] at h3
     subst h3
     have e0 : Nat.min ([] : List SV).length len = 0 := Nat.zero_min _
     rw [e0]
     simp only [List.take_nil, List.flatten_nil]
     cases adx with
     | none => exact run_firstCells_none w sz 0 _ _
     | some q => exact run_firstCells_some w sz 0 q _ _ [] (by simp) (by simp)
    ·refine run_firstCells_some w sz _ _ _ _ _ (by rw [hfl, hmin]) fun j v hj => ?_
     rw [Addr.add_lit]
     refine h6 j v ?_
     have hpre : uss.flatten = (uss.take len).flatten ++ (uss.drop len).flatten := by rw [<- List.flatten_append, List.take_append_drop]
     rw [hpre, List.getElem?_append_left (List.getElem?_eq_some_iff.1 hj).1]
     exact hj
  cases ad with
  | none => have := hno rfl; subst this; simp [execOp, ho, resolve, invoke, builtin, Builtin.copy_, ht, run_underlying hu, ey, ex, Builtin.lenOf, szTy_run hsz, hfc, goInt]
  | some q => simp [execOp, ho, resolve, invoke, builtin, Builtin.copy_, ht, run_underlying hu, ey, ex, Builtin.lenOf, szTy_run hsz, hfc, hst q rfl, goInt]
 unfold copyK at h
 split at h
 next b off len sz' c =>
  obtain ⟨rfl, h⟩ := h
  obtain ⟨ys, hel, hys, h⟩ := exO_inv h
  obtain ⟨uss, hc, hrun⟩ := src len hel (fun _ => hys)
  have h2 := hv.one rfl (by simp)
  simp only [LRel] at h2
  obtain ⟨r, ad, cap, hρ, hg, ey, hlc, hcm, hpos, _, hcap⟩ := h2
  have eyy : a.eval y = .slice ad len cap := by simpa using ey
  have hfr := flatE_rel hc
  have hflen : (flatE (ys.take len)).length <= len * sz := by
   rw [flatE_length (fun z hz => hys z (List.mem_of_mem_take hz)), List.length_take]
   exact Nat.mul_le_mul_right _ (Nat.min_le_left _ _)
  unfold copyB at h
  split at h
  next cs hB =>
   obtain ⟨hfit, h⟩ := h
   rcases hcap with h0 | ⟨cb, sh, n, rfl, rfl, hfit'⟩
   ·have hl0 : len = 0 := by omega
    subst hl0
    simp only [List.take_zero, CRelC] at hc
    subst hc
    have e0 : flatE (ys.take 0) = [] := by simp [flatE]
    rw [e0, splice_nil, set_same hB] at h
    exact wp_value (hrun ad cap w eyy (fun q _ => by simp [storeCells]) (fun _ => rfl)) (hK _ _ _ _ _ _ h trivial (nxt_same hI lval_int))
   ·obtain ⟨w', h5, h6⟩ := write_row (P := P) (off := off) hI hB hρ hfr (by omega)
    exact wp_value (hrun _ cap w' eyy (fun q hq => by cases hq; exact h5) (fun h => by cases h)) (hK _ _ _ _ _ _ h trivial ⟨M, ρ, h6, fun _ _ h => h, fun _ _ h => h, lval_int⟩)
  next cs hB =>
   obtain ⟨hfit, h⟩ := h
   rcases hcap with h0 | ⟨cb, sh, n, rfl, rfl, hfit'⟩
   ·have hl0 : len = 0 := by omega
    subst hl0
    simp only [List.take_zero, CRelC] at hc
    subst hc
    have e0 : (flatE (ys.take 0)).map LV.s = [] := by simp [flatE]
    rw [e0, splice_nil, set_same hB] at h
    exact wp_value (hrun ad cap w eyy (fun q _ => by simp [storeCells]) (fun _ => rfl)) (hK _ _ _ _ _ _ h trivial (nxt_same hI lval_int))
   ·obtain ⟨w', h5, h6⟩ := write_obj (P := P) (off := off) (xs := (flatE (ys.take len)).map LV.s) hI hB hρ (lrelC_map_s.2 hfr) (by rw [List.length_map]; omega)
    exact wp_value (hrun _ cap w' eyy (fun q hq => by cases hq; exact h5) (fun h => by cases h)) (hK _ _ _ _ _ _ h trivial ⟨M, ρ, h6, fun _ _ h => h, fun _ _ h => h, lval_int⟩)
  next => cases h
 next =>
  obtain ⟨ys, hel, h⟩ := exO_inv h
  obtain ⟨uss, hc, hrun⟩ := src 0 hel (fun h => absurd rfl h)
  simp only [List.take_zero, CRelC] at hc
  subst hc
  have h2 := hv.one rfl (by simp)
  simp only [LRel, CRel] at h2
  obtain ⟨ad, n, e1, _, _, _, e2, hl, _⟩ := h2
  rw [e1] at e2
  simp only [List.cons.injEq, Value.slice.injEq, and_true] at e2
  have hn : n = 0 := by have := e2.2.1; simp at hl; omega
  subst hn
  have eyy : a.eval y = .slice ad 0 0 := by simpa using e1
  have hr := hrun ad 0 w eyy (fun q _ => by simp [storeCells]) (fun _ => rfl)
  rw [show Nat.min ys.length 0 = 0 from Nat.min_zero _] at hr
  exact wp_value hr (hK _ _ _ _ _ _ h trivial (nxt_same hI lval_int))
 next => cases h
theorem snd_clear (hI : MInv A n0 M0 ρ0 w0 M ρ H w) (hf : FRel M ρ fr a.tmps.toList) {sz : Nat} {zero : List SV} {d : AX} (hok : okOp P (.clear sz zero d) o.op = true) (h : aop P n0 id fr H (.clear sz zero d) k)
  (hK : ∀ v H' kl f x w', k v H' kl f -> f -> Nxt A n0 M0 ρ0 w0 M ρ id v H' kl x w' -> K (a.put o.dst x) w') : o.wp P a w K Q := by
 obtain ⟨ts, y, t, e, ie, z, ho, hd, ht, hu, hi, hsz, hz, hzc⟩ := inv_clear hok
 simp only [aop] at h
 have hv := okX_rel hf hd
 generalize d.ev fr = v at h hv
 have hzr : CRelC M zero (ones z.cells.toList) := lrelC_map_s.1 (okConstL_rel (M := M) (ρ := ρ) _ _ hzc)
 have run0 : ∀ ad cap, a.eval y = .slice ad 0 cap -> (execOp a.eval o).run P w = .ok (.value (.tuple #[])) w := by
  intro ad cap ey
  cases ad <;> simp [execOp, ho, resolve, invoke, builtin, Builtin.clear_, ht, run_underlying hu, ey]
 have runS : ∀ q len cap w', a.eval y = .slice (some q) len cap -> len ≠ 0 -> (storeCells q (List.replicate len z.cells.toList).flatten).run P w = .ok () w' -> (execOp a.eval o).run P w = .ok (.value (.tuple #[])) w' := by
  intro q len cap w' ey hl hst
  cases len with
  | zero => exact absurd rfl hl
  | succ len =>
   have hzz : (Builtin.zeroCells z.cells (len + 1)).toList = (List.replicate (len + 1) z.cells.toList).flatten := made_toList z.cells (len + 1)
   simp [execOp, ho, resolve, invoke, builtin, Builtin.clear_, ht, run_underlying hu, ey, zeroValue, typeInfo, hi, hz, hzz, hst]
 unfold clearK at h
 split at h
 next b off len sz' c =>
  obtain ⟨rfl, hzl, h⟩ := h
  have h2 := hv.one rfl (by simp)
  simp only [LRel] at h2
  obtain ⟨r, ad, cap, hρ, hg, ey, hlc, hcm, hpos, _, hcap⟩ := h2
  have eyy : a.eval y = .slice ad len cap := by simpa using ey
  have hfr : CRelC M (List.replicate len zero).flatten (ones (List.replicate len z.cells.toList).flatten) := by rw [ones_rep]; exact crelC_rep hzr _
  have hflen : ((List.replicate len zero).flatten).length = len * sz := by simp [hzl]
  unfold clearB at h
  split at h
  next cs hB =>
   obtain ⟨hfit, h⟩ := h
   by_cases hl0 : len = 0
   ·subst hl0
    simp only [List.replicate_zero, List.flatten_nil, splice_nil, set_same hB] at h
    exact wp_value (run0 ad cap eyy) (hK _ _ _ _ _ _ h trivial (nxt_same hI (lval_tup (xs := []) rfl)))
   ·rcases hcap with h0 | ⟨cb, sh, n, rfl, rfl, hfit'⟩
    ·omega
    ·obtain ⟨w', h5, h6⟩ := write_row (P := P) (off := off) hI hB hρ hfr (by omega)
     exact wp_value (runS _ len cap w' eyy hl0 h5) (hK _ _ _ _ _ _ h trivial ⟨M, ρ, h6, fun _ _ h => h, fun _ _ h => h, lval_tup (xs := []) rfl⟩)
  next cs hB =>
   obtain ⟨hfit, h⟩ := h
   by_cases hl0 : len = 0
   ·subst hl0
    simp only [List.replicate_zero, List.flatten_nil, List.map_nil, splice_nil, set_same hB] at h
    exact wp_value (run0 ad cap eyy) (hK _ _ _ _ _ _ h trivial (nxt_same hI (lval_tup (xs := []) rfl)))
   ·rcases hcap with h0 | ⟨cb, sh, n, rfl, rfl, hfit'⟩
    ·omega
    ·obtain ⟨w', h5, h6⟩ := write_obj (P := P) (off := off) (xs := (List.replicate len zero).flatten.map LV.s) hI hB hρ (lrelC_map_s.2 hfr) (by rw [List.length_map]; omega)
     exact wp_value (runS _ len cap w' eyy hl0 h5) (hK _ _ _ _ _ _ h trivial ⟨M, ρ, h6, fun _ _ h => h, fun _ _ h => h, lval_tup (xs := []) rfl⟩)
  next => cases h
 next =>
  have h2 := hv.one rfl (by simp)
  simp only [LRel, CRel] at h2
  obtain ⟨ad, n, e1, _, _, _, e2, hl, _⟩ := h2
  rw [e1] at e2
  simp only [List.cons.injEq, Value.slice.injEq, and_true] at e2
  have hn : n = 0 := by have := e2.2.1; simp at hl; omega
  subst hn
  exact wp_value (run0 ad 0 (by simpa using e1)) (hK _ _ _ _ _ _ h trivial (nxt_same hI (lval_tup (xs := []) rfl)))
 next => cases h
theorem op_sound (hI : MInv A n0 M0 ρ0 w0 M ρ H w) (hf : FRel M ρ fr a.tmps.toList) {op : AOp} (hid : op.takes = true \/ op.cls = 4 -> ρ0.length <= id) (hok : okOp P op o.op = true) (h : aop P n0 id fr H op k)
  (hK : ∀ v H' kl f x w', k v H' kl f -> f -> Nxt A n0 M0 ρ0 w0 M ρ id v H' kl x w' -> K (a.put o.dst x) w') : o.wp P a w K Q := by
 cases op with
 | mov => exact snd_mov hI hf hok h hK
 | pick => exact snd_pick hI hf hok h hK
 | alloc => exact snd_alloc hI (hid (.inl rfl)) hok h hK
 | boxM => exact snd_boxM hI hf (hid (.inl rfl)) hok h hK
 | boxS => exact snd_boxS hI hf hok h hK
 | build => exact snd_build hI hf hok h hK
 | buildSl => exact snd_buildSl hI hf hok h hK
 | load => exact snd_load hI hf hok h hK
 | store => exact snd_store hI hf hok h hK
 | nilck => exact snd_nilck hI hf hok h hK
 | arith => exact snd_arith hI hf hok h hK
 | cmp => exact snd_cmp hI hf hok h hK
 | bits => exact snd_bits hI hf hok h hK
 | div => exact snd_div hI hf hok h hK
 | shift => exact snd_shift hI hf hok h hK
 | eql => exact snd_eql hI hf hok h hK
 | not => exact snd_not hI hf hok h hK
 | neg => exact snd_neg hI hf hok h hK
 | conv => exact snd_conv hI hf hok h hK
 | mkfn => exact snd_mkfn hI hf hok h hK
 | slice => exact snd_slice hI hf hok h hK
 | sliceArr => exact snd_sliceArr hI hf hok h hK
 | fieldAddr => exact snd_fieldAddr hI hf hok h hK
 | field => exact snd_field hI hf hok h hK
 | idxA => exact snd_idxA hI hf hok h hK
 | idxArrA => exact snd_idxArrA hI hf hok h hK
 | idx => exact snd_idx hI hf hok h hK
 | ext => exact snd_ext hI hf hok h hK
 | call => exact snd_call hI hf hok h hK
 | callv => exact snd_callv hI hf hok h hK
 | len => exact snd_len hI hf hok h hK
 | lenArr => exact snd_lenArr hI hf hok h hK
 | append => exact snd_append hI hf (hid (.inl rfl)) hok h hK
 | appendN => exact snd_appendN hI hf (hid (.inl rfl)) hok h hK
 | eqNil => exact snd_eqNil hI hf hok h hK
 | callI => exact snd_callI hI hf hok h hK
 | callN => exact snd_callN hI hf (hid (.inl rfl)) hok h hK
 | copy => exact snd_copy hI hf hok h hK
 | clear => exact snd_clear hI hf hok h hK
 | max => exact snd_max hI hf hok h hK
 | min => exact snd_min hI hf hok h hK
 | mkslice => exact snd_mkslice hI hf (hid (.inl rfl)) hok h hK
 | loadO => exact snd_loadO hI hf hok h hK
 | loadX => exact snd_loadX hI hf hok h hK
 | storeR => exact snd_storeR hI hf hok h hK
 | callF => exact snd_callF hI hf hok h hK
 | frzv => exact snd_frzv hI hf hok h hK
 | appendZ => exact snd_appendZ hI hf hok h hK
 | mkmap => exact snd_mkmap hI (hid (.inl rfl)) hok h hK
 | mget => exact snd_mget hI hf hok h hK
 | mset => exact snd_mset hI hf hok h hK
 | mdel => exact snd_mdel hI hf hok h hK
 | mlen => exact snd_mlen hI hf hok h hK
 | sidx => exact snd_sidx hI hf hok h hK
 | rangeM => exact snd_rangeM hI hf (hid (.inl rfl)) hok h hK
 | nextM => exact snd_nextM hI hf hok h hK
 | entryM => exact snd_entryM hI hf hok h hK
 | callR => exact snd_callR hI hf hok h hK
 | loadS => exact snd_loadS hI hf hok h hK
 | dead => simp only [aop] at h; exact h.1.elim
 | buildR => exact snd_buildR hI hf (hid (.inl rfl)) hok h hK
end
end Go.E

/- What an operation does, as a function: so that operations can change places. -/
namespace Go.E
open Go
def Agree (fr fr2 : List LV) (s : List Nat) : Prop := ∀ t ∈ s, fget fr2 t = fget fr t
theorem Agree.ev {fr fr2 : List LV} {x : AX} (h : Agree fr fr2 x.slots) : x.ev fr2 = x.ev fr := by
 cases x with
 | t n => exact h n (by simp [AX.slots])
 | c v => rfl
theorem Agree.left {fr fr2 : List LV} {s t : List Nat} (h : Agree fr fr2 (s ++ t)) : Agree fr fr2 s := fun i hi => h i (List.mem_append_left _ hi)
theorem Agree.right {fr fr2 : List LV} {s t : List Nat} (h : Agree fr fr2 (s ++ t)) : Agree fr fr2 t := fun i hi => h i (List.mem_append_right _ hi)
theorem Agree.evs {fr fr2 : List LV} : ∀ {xs : List AX}, Agree fr fr2 (xs.flatMap (·.slots)) -> xs.map (·.ev fr2) = xs.map (·.ev fr)
 | [], _ => rfl
 | x :: xs, h => by
  simp only [List.flatMap_cons] at h
  rw [List.map_cons, List.map_cons, h.left.ev, h.right.evs]
theorem Agree.opt {fr fr2 : List LV} {x : Option AX} (h : Agree fr fr2 (AX.slotsO x)) : optEv fr2 x = optEv fr x := by
 cases x with
 | none => rfl
 | some x => simp only [optEv]; rw [Agree.ev h]
theorem Agree.parts {fr fr2 : List LV} : ∀ {ps : List (Nat × Nat × AX)}, Agree fr fr2 (ps.flatMap fun p => p.2.2.slots) -> (ps.map fun p => (p.1, p.2.1, p.2.2.ev fr2)) = ps.map fun p => (p.1, p.2.1, p.2.2.ev fr)
 | [], _ => rfl
 | x :: xs, h => by
  simp only [List.flatMap_cons] at h
  rw [List.map_cons, List.map_cons, h.left.ev, h.right.parts]
theorem Agree.parts2 {fr fr2 : List LV} : ∀ {ps : List (Nat × AX)}, Agree fr fr2 (ps.flatMap fun p => p.2.slots) -> (ps.map fun p => p.2.ev fr2) = ps.map fun p => p.2.ev fr
 | [], _ => rfl
 | x :: xs, h => by
  simp only [List.flatMap_cons] at h
  rw [List.map_cons, List.map_cons, h.left.ev, h.right.parts2]
theorem aop_agree {P : Program} {n0 id : Nat} {fr fr2 : List LV} {H : List ABlock} {op : AOp} {k : AK} (h : Agree fr fr2 op.slots) : aop P n0 id fr2 H op k = aop P n0 id fr H op k := by
 cases op <;> simp only [AOp.slots] at h <;> simp only [aop]
 case mov => rw [h.ev]
 case pick => rw [h.left.left.ev, h.left.right.ev, h.right.ev]
 case boxM => rw [h.ev]
 case boxS => rw [h.ev]
 case build => rw [h.parts]
 case buildSl => rw [h.parts2]
 case load => rw [h.ev]
 case store => rw [h.left.ev, h.right.ev]
 case nilck => rw [h.ev]
 case arith => rw [h.left.ev, h.right.ev]
 case cmp => rw [h.left.ev, h.right.ev]
 case bits => rw [h.left.ev, h.right.ev]
 case div => rw [h.left.ev, h.right.ev]
 case shift => rw [h.left.ev, h.right.ev]
 case eql => rw [h.left.ev, h.right.ev]
 case not => rw [h.ev]
 case neg => rw [h.ev]
 case conv => rw [h.ev]
 case mkfn => rw [h.left.evs, h.right.evs]
 case slice => rw [h.left.left.left.ev, h.left.left.right.opt, h.left.right.opt, h.right.opt]
 case sliceArr => rw [h.left.left.ev, h.left.right.opt, h.right.opt]
 case fieldAddr => rw [h.ev]
 case field => rw [h.ev]
 case idxA => rw [h.left.ev, h.right.ev]
 case idxArrA => rw [h.left.ev, h.right.ev]
 case idx => rw [h.left.ev, h.right.ev]
 case ext => rw [h.ev]
 case call => rw [h.evs]
 case callv => rw [h.left.ev, h.right.evs]
 case len => rw [h.ev]
 case append => rw [h.left.ev, h.right.ev]
 case appendN => rw [h.left.ev, h.right.ev]
 case eqNil => rw [h.ev]
 case callI => rw [h.evs]
 case callN => rw [h.evs]
 case copy => rw [h.left.ev, h.right.ev]
 case clear => rw [h.ev]
 case max => rw [h.evs]
 case min => rw [h.evs]
 case mkslice => rw [h.left.ev, h.right.ev]
 case loadO => rw [h.ev]
 case loadX => rw [h.left.ev, h.right _ (List.mem_singleton.2 rfl)]
 case storeR => rw [h.left.ev, h.right.ev]
 case callF => rw [h.left.ev, h.right.evs]
 case frzv => rw [h.ev]
 case appendZ => rw [h.left.ev, h.right.ev]
 case mget => rw [h.left.ev, h.right.ev]
 case mset => rw [h.left.left.ev, h.left.right.ev, h.right.ev]
 case mdel => rw [h.left.ev, h.right.ev]
 case mlen => rw [h.ev]
 case sidx => rw [h.left.ev, h.right.ev]
 case rangeM => rw [h.ev]
 case nextM => rw [h.ev]
 case entryM => rw [h.ev]
 case callR => rw [h.evs]
 case loadS => rw [h.ev]
 case buildR => rw [h.parts2]
def Clos (j : Nat) (H : List ABlock) : Prop := ∀ (b : Nat) (B : ABlock), b ≠ j -> H[b]? = some B -> fgtB (· == j) B = B
def Sim (j : Nat) (H H2 : List ABlock) : Prop := H.length = H2.length /\ ∀ b, b ≠ j -> H2[b]? = H[b]?
def Fre (j : Nat) (v : LV) : Prop := fgt (· == j) v = v
theorem Fre.loc {j b off : Nat} (h : Fre j (.loc b off)) : b ≠ j := by
 intro e; subst e; simp [Fre, fgt] at h
theorem Fre.sl {j b off len sz : Nat} {c : Bool} (h : Fre j (.sl b off len sz c)) : b ≠ j := by
 intro e; subst e; simp [Fre, fgt] at h
theorem Fre.mp {j b : Nat} (h : Fre j (.mp b)) : b ≠ j := by
 intro e; subst e; simp [Fre, fgt] at h
theorem Fre.s {j : Nat} {v : SV} : Fre j (.s v) := by simp [Fre, fgt]
theorem Fre.full {j : Nat} {v : List SV} : Fre j (.full v) := by simp [Fre, fgt]
theorem Fre.tup {j : Nat} {v : List SV} : Fre j (.tup v) := by simp [Fre, fgt]
theorem Fre.any {j : Nat} : Fre j .any := by simp [Fre, fgt]
theorem fre_loc {j b off : Nat} (h : b ≠ j) : Fre j (.loc b off) := by simp [Fre, fgt, h]
theorem fre_sl {j b off len sz : Nat} {c : Bool} (h : b ≠ j) : Fre j (.sl b off len sz c) := by simp [Fre, fgt, h]
theorem fre_agg {j : Nat} {cs : List LV} : Fre j (.agg cs) ↔ ∀ c ∈ cs, Fre j c := by
 simp only [Fre, fgt, LV.agg.injEq, fgtL_eq_map]
 constructor
 ·intro h c hc
  obtain ⟨i, hi⟩ := List.getElem?_of_mem hc
  have := congrArg (·[i]?) h
  simp only [List.getElem?_map, hi, Option.map_some, Option.some.injEq] at this
  exact this
 ·intro h
  conv => rhs; rw [<- List.map_id cs]
  exact List.map_congr_left h
theorem freL_iff {j : Nat} {cs : List LV} : fgtL (· == j) cs = cs ↔ ∀ c ∈ cs, Fre j c := by
 have := fre_agg (j := j) (cs := cs)
 simp only [Fre, fgt, LV.agg.injEq] at this
 exact this
theorem fre_fn {j : Nat} {f : FuncId} {a b : List LV} : Fre j (.fn f a b) ↔ (∀ c ∈ a, Fre j c) /\ ∀ c ∈ b, Fre j c := by
 simp only [<- freL_iff]; simp [Fre, fgt]
theorem clos_obj {j b : Nat} {H : List ABlock} {cs : List LV} (h : Clos j H) (hb : b ≠ j) (hc : H[b]? = some (.obj cs)) : ∀ c ∈ cs, Fre j c := by
 have := h b _ hb hc
 simp only [fgtB, ABlock.obj.injEq] at this
 exact freL_iff.1 this
theorem frzAll_congr {g g' : LV -> Option SV} : ∀ {vs : List LV}, (∀ v ∈ vs, g v = g' v) -> frzAll g vs = frzAll g' vs
 | [], _ => rfl
 | v :: vs, h => by
  simp only [frzAll, h v (by simp), frzAll_congr (vs := vs) fun u hu => h u (by simp [hu])]
theorem frzV_sim {j : Nat} {H H2 : List ABlock} (hs : Sim j H H2) (hc : Clos j H) : ∀ (n : Nat) (v : LV), Fre j v -> frzV H2 n v = frzV H n v
 | 0, _, _ => by simp [frzV]
 | n + 1, v, hv => by
  have ih := frzV_sim hs hc n
  cases v with
  | s v => simp [frzV]
  | any => simp [frzV]
  | tup => simp [frzV]
  | full => simp [frzV]
  | agg cs => simp only [frzV]; rw [frzAll_congr fun c hcc => ih c (fre_agg.1 hv c hcc)]
  | fn f a b => simp only [frzV]; rw [frzAll_congr fun c hcc => ih c ((fre_fn.1 hv).1 c hcc), frzAll_congr fun c hcc => ih c ((fre_fn.1 hv).2 c hcc)]
  | mp b => simp only [frzV]; rw [hs.2 b hv.mp]
  | yl l => simp [frzV]
  | loc b off =>
   simp only [frzV]
   rw [hs.2 b hv.loc]
   cases hb : H[b]? with
   | none => rfl
   | some B => cases B <;> simp only <;> rw [frzAll_congr fun c hcc => ih c (clos_obj hc hv.loc hb c hcc)]
  | sl b off len sz c =>
   simp only [frzV]
   rw [hs.2 b hv.sl]
   cases hb : H[b]? with
   | none => rfl
   | some B => cases B <;> simp only <;> rw [frzAll_congr fun c hcc => ih c (clos_obj hc hv.sl hb c hcc)]
end Go.E

/- What an operation does, as a function: those that write nothing. -/
namespace Go.E
open Go
def lay (id : Nat) : Option ABlock -> List ABlock -> List ABlock
 | none, H => H
 | some B, H => H.set id B
def SimO (H H2 : List ABlock) : Prop := ∀ (b : Nat) (cs : List LV), H[b]? = some (.obj cs) ↔ H2[b]? = some (.obj cs)
def Apart (op : AOp) (fr : List LV) (H H2 : List ABlock) : Prop := ∃ r b off, op.rx = some r /\ fget fr r = .loc b off /\ ∀ c, c ≠ b -> H2[c]? = H[c]?
def Like (id : Nat) (fr : List LV) (H H2 : List ABlock) (op : AOp) : Prop :=
 H2 = H \/ op.cls = 0 \/ (∃ j, j ≠ id /\ (∀ x ∈ op.axs, Fre j (x.ev fr)) /\ Clos j H /\ Sim j H H2) \/ (op.rd = true /\ (SimO H H2 \/ Apart op fr H H2))
def Fix (P : Program) (n0 id : Nat) (fr : List LV) (H : List ABlock) (op : AOp) (k : AK) : Prop :=
 ∃ v f g, k v (lay id g H) none f /\ (g.isSome = true -> op.takes = true /\ H[id]? = some .gone) /\
  (∀ j, j ≠ id -> (∀ x ∈ op.axs, Fre j (x.ev fr)) -> Clos j H -> Fre j v /\ ∀ B, g = some B -> fgtB (· == j) B = B) /\
  (∀ H2 k2, Like id fr H H2 op -> k2 v (lay id g H2) none f -> aop P n0 id fr H2 op k2)
section
variable {P : Program} {n0 id : Nat} {fr : List LV} {H : List ABlock} {op : AOp} {k : AK}
theorem fix0 {v : LV} {f : Prop} (hk : k v H none f) (hf : ∀ j, (∀ x ∈ op.axs, Fre j (x.ev fr)) -> Fre j v) (h : ∀ (H2 : List ABlock) (k2 : AK), k2 v H2 none f -> aop P n0 id fr H2 op k2) : Fix P n0 id fr H op k :=
 ⟨v, f, none, hk, by simp, fun j _ hx _ => ⟨hf j hx, by simp⟩, fun H2 k2 _ hk => h H2 k2 hk⟩
theorem fix1 {v : LV} {f : Prop} (hc : op.cls ≠ 0 /\ op.rd = false) (hk : k v H none f) (hf : ∀ j, (∀ x ∈ op.axs, Fre j (x.ev fr)) -> Clos j H -> Fre j v) (h0 : ∀ (k2 : AK), k2 v H none f -> aop P n0 id fr H op k2)
  (h : ∀ (j : Nat) (H2 : List ABlock) (k2 : AK), j ≠ id -> (∀ x ∈ op.axs, Fre j (x.ev fr)) -> Clos j H -> Sim j H H2 -> k2 v H2 none f -> aop P n0 id fr H2 op k2) : Fix P n0 id fr H op k :=
 ⟨v, f, none, hk, by simp, fun j _ hx hc => ⟨hf j hx hc, by simp⟩, fun H2 k2 hl hk2 => by
  rcases hl with rfl | hl | ⟨j, hj, hx, hcl, hs⟩ | ⟨hl, _⟩
  ·exact h0 k2 hk2
  ·exact absurd hl hc.1
  ·exact h j H2 k2 hj hx hcl hs hk2
  ·rw [hc.2] at hl; cases hl⟩
theorem fix2 {v : LV} {f : Prop} {B : ABlock} (ht : op.takes = true) (hc : op.cls ≠ 0 /\ op.rd = false) (hg : H[id]? = some .gone) (hk : k v (H.set id B) none f) (hf : ∀ j, j ≠ id -> (∀ x ∈ op.axs, Fre j (x.ev fr)) -> Clos j H -> Fre j v /\ fgtB (· == j) B = B)
  (h : ∀ (H2 : List ABlock) (k2 : AK), (H2 = H \/ ∃ j, (∀ x ∈ op.axs, Fre j (x.ev fr)) /\ Clos j H /\ Sim j H H2) -> H2[id]? = some .gone -> k2 v (H2.set id B) none f -> aop P n0 id fr H2 op k2) : Fix P n0 id fr H op k :=
 ⟨v, f, some B, hk, fun _ => ⟨ht, hg⟩, fun j hj hx hc => ⟨(hf j hj hx hc).1, fun B' e => by cases e; exact (hf j hj hx hc).2⟩, fun H2 k2 hl hk2 => by
  rcases hl with rfl | hl | ⟨j, hj, hx, hcl, hs⟩ | ⟨hl, _⟩
  ·exact h _ k2 (.inl rfl) hg hk2
  ·exact absurd hl hc.1
  rotate_left
  ·rw [hc.2] at hl; cases hl
  ·exact h H2 k2 (.inr ⟨j, hx, hcl, hs⟩) (by rw [hs.2 id (fun e => hj e.symm)]; exact hg) hk2⟩
theorem fix_mov {x : AX} (h : aop P n0 id fr H (.mov x) k) : Fix P n0 id fr H (.mov x) k := by
 simp only [aop] at h
 exact fix0 h (fun j hx => hx x (by simp [AOp.axs])) (fun H2 k2 hk => by simp only [aop]; exact hk)
theorem fix_pick {c x y : AX} (h : aop P n0 id fr H (.pick c x y) k) : Fix P n0 id fr H (.pick c x y) k := by
 simp only [aop] at h
 unfold pickK at h
 split at h
 next t e =>
  cases t with
  | true => exact fix0 (show k (x.ev fr) H none True from h) (fun j hx => hx x (by simp [AOp.axs])) (fun H2 k2 hk => by simp only [aop]; rw [e]; exact hk)
  | false => exact fix0 (show k (y.ev fr) H none True from h) (fun j hx => hx y (by simp [AOp.axs])) (fun H2 k2 hk => by simp only [aop]; rw [e]; exact hk)
 next => cases h
theorem fix_boxS {x : AX} (h : aop P n0 id fr H (.boxS x) k) : Fix P n0 id fr H (.boxS x) k := by
 simp only [aop] at h
 obtain ⟨v, e, h⟩ := exO_inv h
 exact fix0 h (fun _ _ => Fre.s) (fun H2 k2 hk => by simp only [aop]; rw [e]; exact hk)
theorem fills_fre {j : Nat} : ∀ {ps : List (Nat × Nat × LV)} {z cs : List LV}, (∀ c ∈ z, Fre j c) -> (∀ p ∈ ps, Fre j p.2.2) -> fills z ps = some cs -> ∀ c ∈ cs, Fre j c
 | [], z, cs, hz, _, h => by simp only [fills, Option.some.injEq] at h; subst h; exact hz
 | (off, n, v) :: ps, z, cs, hz, hp, h => by
  simp only [fills] at h
  split at h
  next ds hd =>
   split at h
   next =>
    refine fills_fre ?_ (fun p hpp => hp p (by simp [hpp])) h
    intro c hc
    rcases List.mem_append.1 hc with hc | hc
    ·rcases List.mem_append.1 hc with hc | hc
     ·exact hz c (List.mem_of_mem_take hc)
     ·have hv := hp _ (List.mem_cons_self ..)
      cases v <;> simp only [LV.cells, Option.some.injEq] at hd <;> try (cases hd; done)
      case s v => subst hd; obtain ⟨a, _, rfl⟩ := List.mem_map.1 hc; exact Fre.s
      case agg cs' => subst hd; exact fre_agg.1 hv c hc
      all_goals (subst hd; rw [List.mem_singleton] at hc; subst hc; exact hv)
    ·exact hz c (List.mem_of_mem_drop hc)
   next => cases h
  next => cases h
theorem noref1_fre {j : Nat} {v : LV} (h : v.noref1 = true) : Fre j v := by
 cases v <;> first | exact Fre.s | exact Fre.any | exact Fre.full | exact Fre.tup | (simp [LV.noref1] at h)
theorem noref_fre {j : Nat} {v : LV} (h : v.noref = true) : Fre j v := by
 cases v <;> first | exact noref1_fre h | skip
 simp only [LV.noref, List.all_eq_true] at h
 exact fre_agg.2 fun c hc => noref1_fre (h c hc)
theorem fix_build {zero : List LV} {parts : List (Nat × Nat × AX)} (hok : AOp.okc (.build zero parts) = true) (h : aop P n0 id fr H (.build zero parts) k) : Fix P n0 id fr H (.build zero parts) k := by
 simp only [aop] at h
 obtain ⟨cs, e, h⟩ := exO_inv h
 refine fix0 h (fun j hx => fre_agg.2 (fills_fre (fun c hc => ?_) (fun p hp => ?_) e)) (fun H2 k2 hk => by simp only [aop]; rw [e]; exact hk)
 ·simp only [AOp.okc, Bool.and_eq_true, List.all_eq_true] at hok
  exact noref1_fre (hok.2 c hc)
 ·obtain ⟨q, hq, rfl⟩ := List.mem_map.1 hp
  exact hx q.2.2 (by simp only [AOp.axs]; exact List.mem_map.2 ⟨q, hq, rfl⟩)
theorem fix_buildSl {sz n : Nat} {zero : SV} {parts : List (Nat × AX)} (h : aop P n0 id fr H (.buildSl sz n zero parts) k) : Fix P n0 id fr H (.buildSl sz n zero parts) k := by
 simp only [aop] at h
 obtain ⟨h1, h2, h⟩ := h
 obtain ⟨xs, e, h3, h4, h5, h⟩ := exO_inv h
 exact fix0 h (fun _ _ => Fre.full) (fun H2 k2 hk => by simp only [aop]; rw [e]; exact ⟨h1, h2, h3, h4, h5, hk⟩)
theorem fix_loadS {n : Nat} {g : Bool} {x : AX} (h : aop P n0 id fr H (.loadS n g x) k) : Fix P n0 id fr H (.loadS n g x) k := by
 simp only [aop] at h
 unfold ldSK at h
 split at h
 next cs e =>
  cases g with
  | true =>
   obtain ⟨h1, h2⟩ := h
   exact fix0 h2 (fun _ _ => Fre.s) (fun H2 k2 hk => by simp only [aop]; rw [e]; exact ⟨h1, hk⟩)
  | false =>
   obtain ⟨c, e2, h1, h2⟩ := exO_inv h
   exact fix0 h2 (fun _ _ => Fre.s) (fun H2 k2 hk => by simp only [aop]; rw [e]; simp only [ldSK, partS, e2, exO]; exact ⟨h1, hk⟩)
 next => cases h
theorem fix_nilck {x : AX} (h : aop P n0 id fr H (.nilck x) k) : Fix P n0 id fr H (.nilck x) k := by
 simp only [aop] at h
 unfold nilckK at h
 split at h
 next cs e => exact fix0 h (fun _ _ => Fre.s) (fun H2 k2 hk => by simp only [aop]; rw [e]; exact hk)
 next b off e => exact fix0 h (fun j hx => by rw [<- e]; exact hx x (by simp [AOp.axs])) (fun H2 k2 hk => by simp only [aop]; rw [e]; exact hk)
 next => cases h
theorem fix_arith {o : BinOp} {x y : AX} (h : aop P n0 id fr H (.arith o x y) k) : Fix P n0 id fr H (.arith o x y) k := by
 simp only [aop] at h
 unfold arithK at h
 split at h
 next K m K' n e1 e2 =>
  obtain ⟨rfl, h⟩ := h
  cases o <;> simp only [arithI] at h
  case add => exact fix0 h.2 (fun _ _ => Fre.s) (fun H2 k2 hk => by simp only [aop]; rw [e1, e2]; exact ⟨rfl, h.1, hk⟩)
  case sub => exact fix0 h.2 (fun _ _ => Fre.s) (fun H2 k2 hk => by simp only [aop]; rw [e1, e2]; exact ⟨rfl, h.1, hk⟩)
  case mul => exact fix0 h.2 (fun _ _ => Fre.s) (fun H2 k2 hk => by simp only [aop]; rw [e1, e2]; exact ⟨rfl, h.1, hk⟩)
 next => cases h
theorem fix_cmp {o : BinOp} {x y : AX} (h : aop P n0 id fr H (.cmp o x y) k) : Fix P n0 id fr H (.cmp o x y) k := by
 simp only [aop] at h
 unfold cmpK at h
 split at h
 next K m K' n e1 e2 =>
  obtain ⟨rfl, h⟩ := h
  cases o <;> simp only [cmpI] at h
  all_goals exact fix0 h (fun _ _ => Fre.s) (fun H2 k2 hk => by simp only [aop]; rw [e1, e2]; exact ⟨rfl, hk⟩)
 next => cases h
theorem fix_bits {o : BinOp} {x y : AX} (h : aop P n0 id fr H (.bits o x y) k) : Fix P n0 id fr H (.bits o x y) k := by
 simp only [aop] at h
 unfold bitsK at h
 split at h
 next K m K' n e1 e2 =>
  obtain ⟨rfl, h⟩ := h
  exact fix0 h (fun _ _ => Fre.s) (fun H2 k2 hk => by simp only [aop]; rw [e1, e2]; exact ⟨rfl, hk⟩)
 next => cases h
theorem fix_div {o : BinOp} {x y : AX} (h : aop P n0 id fr H (.div o x y) k) : Fix P n0 id fr H (.div o x y) k := by
 simp only [aop] at h
 unfold divK at h
 split at h
 next K m K' n e1 e2 =>
  obtain ⟨rfl, h0, h⟩ := h
  cases o <;> simp only [divI] at h
  case quo => exact fix0 h.2 (fun _ _ => Fre.s) (fun H2 k2 hk => by simp only [aop]; rw [e1, e2]; exact ⟨rfl, h0, h.1, hk⟩)
  case rem => exact fix0 h (fun _ _ => Fre.s) (fun H2 k2 hk => by simp only [aop]; rw [e1, e2]; exact ⟨rfl, h0, hk⟩)
 next => cases h
theorem fix_shift {o : BinOp} {x y : AX} (h : aop P n0 id fr H (.shift o x y) k) : Fix P n0 id fr H (.shift o x y) k := by
 simp only [aop] at h
 unfold shiftK at h
 split at h
 next K m K' n e1 e2 =>
  obtain ⟨h0, h1, h⟩ := h
  cases o <;> simp only [shiftI] at h
  case shl => exact fix0 h.2 (fun _ _ => Fre.s) (fun H2 k2 hk => by simp only [aop]; rw [e1, e2]; exact ⟨h0, h1, h.1, hk⟩)
  case shr => exact fix0 h (fun _ _ => Fre.s) (fun H2 k2 hk => by simp only [aop]; rw [e1, e2]; exact ⟨h0, h1, hk⟩)
 next => cases h
theorem fix_not {x : AX} (h : aop P n0 id fr H (.not x) k) : Fix P n0 id fr H (.not x) k := by
 simp only [aop] at h
 unfold notK at h
 split at h
 next b e => exact fix0 h (fun _ _ => Fre.s) (fun H2 k2 hk => by simp only [aop]; rw [e]; exact hk)
 next => cases h
theorem fix_neg {x : AX} (h : aop P n0 id fr H (.neg x) k) : Fix P n0 id fr H (.neg x) k := by
 simp only [aop] at h
 unfold negK at h
 split at h
 next K n e => exact fix0 h.2 (fun _ _ => Fre.s) (fun H2 k2 hk => by simp only [aop]; rw [e]; exact ⟨h.1, hk⟩)
 next => cases h
theorem fix_conv {K : IntKind} {x : AX} (h : aop P n0 id fr H (.conv K x) k) : Fix P n0 id fr H (.conv K x) k := by
 simp only [aop] at h
 unfold convK at h
 split at h
 next K n e => exact fix0 h.2 (fun _ _ => Fre.s) (fun H2 k2 hk => by simp only [aop]; rw [e]; exact ⟨h.1, hk⟩)
 next => cases h
theorem fix_mkfn {f : FuncId} {a b : List AX} (h : aop P n0 id fr H (.mkfn f a b) k) : Fix P n0 id fr H (.mkfn f a b) k := by
 simp only [aop] at h
 refine fix0 h.2 (fun j hx => fre_fn.2 ⟨fun c hc => ?_, fun c hc => ?_⟩) (fun H2 k2 hk => by simp only [aop]; exact ⟨h.1, hk⟩)
 ·obtain ⟨x, hm, rfl⟩ := List.mem_map.1 hc; exact hx x (by simp [AOp.axs, hm])
 ·obtain ⟨x, hm, rfl⟩ := List.mem_map.1 hc; exact hx x (by simp [AOp.axs, hm])
theorem fix_slice {sz : Nat} {x : AX} {lo hi mx : Option AX} (h : aop P n0 id fr H (.slice sz x lo hi mx) k) : Fix P n0 id fr H (.slice sz x lo hi mx) k := by
 simp only [aop] at h
 -- the last step
 have fin : ∀ {A B : LV} {hh : Nat}, sliceM H hh A B k (optEv fr mx) -> ∃ v, k v H none True /\ (v = A \/ v = B) /\ ∀ (H2 : List ABlock) (k2 : AK), k2 v H2 none True -> sliceM H2 hh A B k2 (optEv fr mx) := by
  intro A B hh hm
  cases e : optEv fr mx with
  | none => rw [e] at hm; exact ⟨A, hm, .inl rfl, fun H2 k2 hk => hk⟩
  | some m => rw [e] at hm; exact ⟨B, hm.2, .inr rfl, fun H2 k2 hk => ⟨hm.1, hk⟩⟩
 unfold sliceK at h
 split at h
 next xs e =>
  obtain ⟨l, h1, h⟩ := exO_inv h
  obtain ⟨hh, h2, h3, h4, h5, h⟩ := exO_inv h
  obtain ⟨v, hk, hv, hall⟩ := fin h
  refine fix0 hk (fun j hx => by rcases hv with rfl | rfl; exact Fre.s; exact Fre.full) (fun H2 k2 hk => ?_)
  simp only [aop, e, sliceK, h1, h2, exO]
  exact ⟨h3, h4, h5, hall H2 k2 hk⟩
 next xs e =>
  obtain ⟨l, h1, h⟩ := exO_inv h
  obtain ⟨hh, h2, h3, h4, h5, h⟩ := exO_inv h
  obtain ⟨v, hk, hv, hall⟩ := fin h
  refine fix0 hk (fun j hx => by rcases hv with rfl | rfl; split; exact Fre.full; exact Fre.s; exact Fre.full) (fun H2 k2 hk => ?_)
  simp only [aop, e, sliceK, h1, h2, exO]
  exact ⟨h3, h4, h5, hall H2 k2 hk⟩
 next b off len sz' c e =>
  obtain ⟨rfl, h⟩ := h
  obtain ⟨l, h1, h⟩ := exO_inv h
  obtain ⟨hh, h2, h3, h4, h⟩ := exO_inv h
  obtain ⟨v, hk, hv, hall⟩ := fin h
  refine fix0 hk (fun j hx => ?_) (fun H2 k2 hk => ?_)
  ·have := hx x (by simp [AOp.axs])
   rw [e] at this
   rcases hv with rfl | rfl
   ·exact fre_sl this.sl
   ·exact fre_sl this.sl
  ·simp only [aop, e, sliceK, h1, h2, exO]
   exact ⟨trivial, h3, h4, hall H2 k2 hk⟩
 next => cases h
theorem fix_fieldAddr {off : Nat} {x : AX} (h : aop P n0 id fr H (.fieldAddr off x) k) : Fix P n0 id fr H (.fieldAddr off x) k := by
 simp only [aop] at h
 unfold fieldAddrK at h
 split at h
 next cs e => exact fix0 h.2 (fun _ _ => Fre.s) (fun H2 k2 hk => by simp only [aop]; rw [e]; exact ⟨h.1, hk⟩)
 next b o e => exact fix0 h (fun j hx => by have := hx x (by simp [AOp.axs]); rw [e] at this; exact fre_loc this.loc) (fun H2 k2 hk => by simp only [aop]; rw [e]; exact hk)
 next => cases h
theorem partK_fix {off n : Nat} {g : Bool} {v : LV} (h : partK H off n g k v) : ∃ u, k u H none True /\ (∀ j, Fre j v -> Fre j u) /\ ∀ (H2 : List ABlock) (k2 : AK), k2 u H2 none True -> partK H2 off n g k2 v := by
 unfold partK at h
 split at h
 next cs =>
  cases g with
  | true => simp only [partS] at h; exact ⟨_, h.2, fun _ _ => Fre.s, fun H2 k2 hk => ⟨h.1, hk⟩⟩
  | false =>
   simp only [partS] at h
   obtain ⟨c, e, h1, h2⟩ := exO_inv h
   exact ⟨_, h2, fun _ _ => Fre.s, fun H2 k2 hk => by simp only [partK, partS, e, exO]; exact ⟨h1, hk⟩⟩
 next cs =>
  cases g with
  | true => simp only [partL] at h; exact ⟨_, h.2, fun j hv => fre_agg.2 fun c hc => fre_agg.1 hv c (List.mem_of_mem_drop (List.mem_of_mem_take hc)), fun H2 k2 hk => ⟨h.1, hk⟩⟩
  | false =>
   simp only [partL] at h
   obtain ⟨c, e, h1, h2⟩ := exO_inv h
   exact ⟨_, h2, fun j hv => fre_agg.1 hv c (List.mem_of_getElem? e), fun H2 k2 hk => by simp only [partK, partL, e, exO]; exact ⟨h1, hk⟩⟩
 next => cases h
theorem fix_field {off n : Nat} {g : Bool} {x : AX} (h : aop P n0 id fr H (.field off n g x) k) : Fix P n0 id fr H (.field off n g x) k := by
 simp only [aop] at h
 obtain ⟨u, h1, h2, h3⟩ := partK_fix h
 exact fix0 h1 (fun j hx => h2 j (hx x (by simp [AOp.axs]))) (fun H2 k2 hk => by simp only [aop]; exact h3 H2 k2 hk)
theorem fix_idx {m sz : Nat} {g : Bool} {x i : AX} (h : aop P n0 id fr H (.idx m sz g x i) k) : Fix P n0 id fr H (.idx m sz g x i) k := by
 simp only [aop] at h
 unfold idxK at h
 split at h
 next K n e =>
  obtain ⟨h0, h1, h⟩ := h
  obtain ⟨u, h2, h3, h4⟩ := partK_fix h
  exact fix0 h2 (fun j hx => h3 j (hx x (by simp [AOp.axs]))) (fun H2 k2 hk => by simp only [aop]; rw [e]; exact ⟨h0, h1, h4 H2 k2 hk⟩)
 next => cases h
theorem fix_idxA {sz : Nat} {x i : AX} (h : aop P n0 id fr H (.idxA sz x i) k) : Fix P n0 id fr H (.idxA sz x i) k := by
 simp only [aop] at h
 unfold idxAK at h
 split at h
 next K n e =>
  obtain ⟨h0, h⟩ := h
  unfold idxAI at h
  split at h
  next xs e2 =>
   obtain ⟨c, e3, h1, h⟩ := exO_inv h
   exact fix0 h (fun _ _ => Fre.s) (fun H2 k2 hk => by simp only [aop]; rw [e, e2]; simp only [idxAK, idxAI, e3, exO]; exact ⟨h0, h1, hk⟩)
  next xs e2 =>
   obtain ⟨c, e3, h1, h⟩ := exO_inv h
   exact fix0 h (fun _ _ => Fre.s) (fun H2 k2 hk => by simp only [aop]; rw [e, e2]; simp only [idxAK, idxAI, e3, exO]; exact ⟨h0, h1, hk⟩)
  next b off len sz' c e2 =>
   obtain ⟨h1, h2, h⟩ := h
   exact fix0 h (fun j hx => by have := hx x (by simp [AOp.axs]); rw [e2] at this; exact fre_loc this.sl) (fun H2 k2 hk => by simp only [aop]; rw [e, e2]; exact ⟨h0, h1, h2, hk⟩)
  next => cases h
 next => cases h
theorem fix_idxArrA {m sz : Nat} {x i : AX} (h : aop P n0 id fr H (.idxArrA m sz x i) k) : Fix P n0 id fr H (.idxArrA m sz x i) k := by
 simp only [aop] at h
 unfold idxArrAK at h
 split at h
 next K n e =>
  obtain ⟨h0, h1, h⟩ := h
  unfold idxArrAI at h
  split at h
  next cs e2 => exact fix0 h.2 (fun _ _ => Fre.s) (fun H2 k2 hk => by simp only [aop]; rw [e, e2]; exact ⟨h0, h1, h.1, hk⟩)
  next b off e2 => exact fix0 h (fun j hx => by have := hx x (by simp [AOp.axs]); rw [e2] at this; exact fre_loc this.loc) (fun H2 k2 hk => by simp only [aop]; rw [e, e2]; exact ⟨h0, h1, hk⟩)
  next => cases h
 next => cases h
theorem fix_ext {x : AX} {i : Nat} (h : aop P n0 id fr H (.ext x i) k) : Fix P n0 id fr H (.ext x i) k := by
 simp only [aop] at h
 unfold extK at h
 split at h
 next vs e =>
  obtain ⟨c, e3, h⟩ := exO_inv h
  exact fix0 h (fun _ _ => Fre.s) (fun H2 k2 hk => by simp only [aop]; rw [e]; simp only [extK, e3, exO]; exact hk)
 next => cases h
theorem fix_len {st : Bool} {x : AX} (h : aop P n0 id fr H (.len st x) k) : Fix P n0 id fr H (.len st x) k := by
 simp only [aop] at h
 unfold lenK at h
 split at h
 next xs e => exact fix0 h (fun _ _ => Fre.s) (fun H2 k2 hk => by simp only [aop]; rw [e]; exact hk)
 next xs e => exact fix0 h (fun _ _ => Fre.s) (fun H2 k2 hk => by simp only [aop]; rw [e]; exact hk)
 next b off len sz c e => exact fix0 h (fun _ _ => Fre.s) (fun H2 k2 hk => by simp only [aop]; rw [e]; exact hk)
 next s e => exact fix0 h (fun _ _ => Fre.s) (fun H2 k2 hk => by simp only [aop]; rw [e]; exact hk)
 next => cases h
theorem fix_lenArr {n : Nat} (h : aop P n0 id fr H (.lenArr n) k) : Fix P n0 id fr H (.lenArr n) k := by
 simp only [aop] at h
 exact fix0 h (fun _ _ => Fre.s) (fun H2 k2 hk => by simp only [aop]; exact hk)
theorem fix_sidx {x i : AX} (h : aop P n0 id fr H (.sidx x i) k) : Fix P n0 id fr H (.sidx x i) k := by
 simp only [aop] at h
 unfold sidxK at h
 split at h
 next s kd n e1 e2 =>
  obtain ⟨h0, h⟩ := h
  obtain ⟨b, hb, h⟩ := exO_inv h
  exact fix0 h (fun _ _ => Fre.s) (fun H2 k2 hk => by simp only [aop]; rw [e1, e2]; simp only [sidxK, hb, exO]; exact ⟨h0, hk⟩)
 next => cases h
theorem fix_max {xs : List AX} (h : aop P n0 id fr H (.max xs) k) : Fix P n0 id fr H (.max xs) k := by
 simp only [aop] at h
 obtain ⟨ns, e, h1, h⟩ := exO_inv h
 exact fix0 h (fun _ _ => Fre.s) (fun H2 k2 hk => by simp only [aop, e, exO]; exact ⟨h1, hk⟩)
theorem fix_min {xs : List AX} (h : aop P n0 id fr H (.min xs) k) : Fix P n0 id fr H (.min xs) k := by
 simp only [aop] at h
 obtain ⟨ns, e, h1, h⟩ := exO_inv h
 exact fix0 h (fun _ _ => Fre.s) (fun H2 k2 hk => by simp only [aop, e, exO]; exact ⟨h1, hk⟩)
end
end Go.E

/- What an operation does, as a function: those that look at memory, lay blocks, or write. -/
namespace Go.E
open Go
section
variable {P : Program} {n0 id : Nat} {fr : List LV} {H : List ABlock} {op : AOp} {k : AK}
theorem frz_sim {j : Nat} {H H2 : List ABlock} (hs : Sim j H H2) (hc : Clos j H) {v : LV} (hv : Fre j v) : frz H2 v = frz H v := frzV_sim hs hc 4 v hv
theorem frzAll_sim {j : Nat} {H H2 : List ABlock} (hs : Sim j H H2) (hc : Clos j H) {vs : List LV} (hv : ∀ v ∈ vs, Fre j v) : frzAll (frz H2) vs = frzAll (frz H) vs := frzAll_congr fun v h => frz_sim hs hc (hv v h)
theorem elems_sim {j : Nat} {H H2 : List ABlock} (hs : Sim j H H2) {v : LV} (hv : Fre j v) : elemsOf H2 v = elemsOf H v := by
 cases v with
 | sl b off len sz c => simp only [elemsOf]; rw [hs.2 b hv.sl]
 | s v => cases v <;> rfl
 | _ => rfl
theorem partS_fix {cs : List SV} {off n : Nat} {g : Bool} (h : partS H cs off n k g) : ∃ u, k u H none True /\ (∀ j, Fre j u) /\ ∀ (H2 : List ABlock) (k2 : AK), k2 u H2 none True -> partS H2 cs off n k2 g := by
 cases g with
 | true => simp only [partS] at h; exact ⟨_, h.2, fun _ => Fre.s, fun H2 k2 hk => ⟨h.1, hk⟩⟩
 | false =>
  simp only [partS] at h
  obtain ⟨c, e, h1, h2⟩ := exO_inv h
  exact ⟨_, h2, fun _ => Fre.s, fun H2 k2 hk => by simp only [partS, e, exO]; exact ⟨h1, hk⟩⟩
theorem partL_fix {cs : List LV} {off n : Nat} {g : Bool} (h : partL H cs off n k g) : ∃ u, k u H none True /\ (∀ j, (∀ c ∈ cs, Fre j c) -> Fre j u) /\ ∀ (H2 : List ABlock) (k2 : AK), k2 u H2 none True -> partL H2 cs off n k2 g := by
 cases g with
 | true => simp only [partL] at h; exact ⟨_, h.2, fun j hc => fre_agg.2 fun c h => hc c (List.mem_of_mem_drop (List.mem_of_mem_take h)), fun H2 k2 hk => ⟨h.1, hk⟩⟩
 | false =>
  simp only [partL] at h
  obtain ⟨c, e, h1, h2⟩ := exO_inv h
  exact ⟨_, h2, fun j hc => hc c (List.mem_of_getElem? e), fun H2 k2 hk => by simp only [partL, e, exO]; exact ⟨h1, hk⟩⟩
theorem ldB_fix {off n : Nat} {g : Bool} {B : Option ABlock} (h : ldB H off n g k B) : ∃ u, k u H none True /\ (∀ j, (∀ cs, B = some (.obj cs) -> ∀ c ∈ cs, Fre j c) -> Fre j u) /\ ∀ (H2 : List ABlock) (k2 : AK), k2 u H2 none True -> ldB H2 off n g k2 B := by
 unfold ldB at h
 split at h
 next cs => obtain ⟨u, h1, h2, h3⟩ := partL_fix h; exact ⟨u, h1, fun j hc => h2 j (hc cs rfl), fun H2 k2 hk => h3 H2 k2 hk⟩
 next cs => obtain ⟨u, h1, h2, h3⟩ := partS_fix h; exact ⟨u, h1, fun j _ => h2 j, fun H2 k2 hk => h3 H2 k2 hk⟩
 next cs => obtain ⟨u, h1, h2, h3⟩ := partS_fix h; exact ⟨u, h1, fun j _ => h2 j, fun H2 k2 hk => h3 H2 k2 hk⟩
 next => cases h
theorem fix_load {n : Nat} {g : Bool} {x : AX} (h : aop P n0 id fr H (.load n g x) k) : Fix P n0 id fr H (.load n g x) k := by
 simp only [aop] at h
 unfold ldK at h
 split at h
 next cs e =>
  obtain ⟨u, h1, h2, h3⟩ := partS_fix h
  exact fix1 (by simp [AOp.cls, AOp.rd]) h1 (fun j _ _ => h2 j) (fun k2 hk => by simp only [aop]; rw [e]; exact h3 H k2 hk) (fun j H2 k2 _ _ _ _ hk => by simp only [aop]; rw [e]; exact h3 H2 k2 hk)
 next b off e =>
  obtain ⟨u, h1, h2, h3⟩ := ldB_fix h
  have hb : ∀ j, (∀ x' ∈ AOp.axs (.load n g x), Fre j (x'.ev fr)) -> b ≠ j := fun j hx => by have := hx x (by simp [AOp.axs]); rw [e] at this; exact this.loc
  refine fix1 (by simp [AOp.cls, AOp.rd]) h1 (fun j hx hc => h2 j fun cs hcs => clos_obj hc (hb j hx) hcs) (fun k2 hk => by simp only [aop]; rw [e]; exact h3 H k2 hk) (fun j H2 k2 _ hx _ hs hk => ?_)
  simp only [aop]
  rw [e]
  simp only [ldK]
  rw [hs.2 b (hb j hx)]
  exact h3 H2 k2 hk
 next => cases h
theorem fix_eql {ag ne : Bool} {ts : List Tag} {x y : AX} (h : aop P n0 id fr H (.eql ag ts ne x y) k) : Fix P n0 id fr H (.eql ag ts ne x y) k := by
 simp only [aop] at h
 unfold eqlK at h
 obtain ⟨c, hc, h⟩ := exO_inv h
 obtain ⟨d, hd, hok, h⟩ := exO_inv h
 have fin : ∃ v, k v H none True /\ (∀ j, Fre j v) /\ ∀ (H2 : List ABlock) (k2 : AK), k2 v H2 none True -> eqlR H2 c d k2 ne := by
  cases ne with
  | true => exact ⟨_, h, fun _ => Fre.s, fun H2 k2 hk => hk⟩
  | false => exact ⟨_, h, fun _ => Fre.s, fun H2 k2 hk => hk⟩
 obtain ⟨v, h1, h2, h3⟩ := fin
 refine fix1 (by simp [AOp.cls, AOp.rd]) h1 (fun j _ _ => h2 j) (fun k2 hk => ?_) (fun j H2 k2 _ hx hcl hs hk => ?_)
 ·simp only [aop, eqlK, hc, hd, exO]; exact ⟨hok, h3 H k2 hk⟩
 ·simp only [aop, eqlK]
  rw [frz_sim hs hcl (hx x (by simp [AOp.axs])), frz_sim hs hcl (hx y (by simp [AOp.axs])), hc, hd]
  simp only [exO]
  exact ⟨hok, h3 H2 k2 hk⟩
theorem fre_results {j : Nat} (rs : List SV) : Fre j (LV.ofResults rs) := by
 match rs with
 | [] => exact Fre.tup
 | [r] => exact Fre.s
 | _ :: _ :: _ => exact Fre.tup
theorem fix_call {f : FuncId} {args : List AX} (h : aop P n0 id fr H (.call f args) k) : Fix P n0 id fr H (.call f args) k := by
 simp only [aop] at h
 obtain ⟨as, rs, h1, h2, h3, h⟩ := h
 refine fix1 (by simp [AOp.cls, AOp.rd]) h (fun j _ _ => fre_results rs) (fun k2 hk => ?_) (fun j H2 k2 _ hx hcl hs hk => ?_)
 ·simp only [aop]; exact ⟨as, rs, h1, h2, h3, hk⟩
 ·simp only [aop]
  refine ⟨as, rs, ?_, h2, h3, hk⟩
  rw [frzAll_sim hs hcl (fun v hv => by obtain ⟨x, hm, rfl⟩ := List.mem_map.1 hv; exact hx x (by simpa [AOp.axs] using hm))]
  exact h1
theorem fix_callv {y : AX} {args : List AX} (h : aop P n0 id fr H (.callv y args) k) : Fix P n0 id fr H (.callv y args) k := by
 simp only [aop] at h
 unfold callvK at h
 have harg : ∀ j, (∀ x ∈ AOp.axs (.callv y args), Fre j (x.ev fr)) -> ∀ v ∈ args.map (·.ev fr), Fre j v := by
  intro j hx v hv
  obtain ⟨x, hm, rfl⟩ := List.mem_map.1 hv
  exact hx x (by simp [AOp.axs, hm])
 split at h
 next g first caps e =>
  obtain ⟨h0, h00, as, rs, h1, h2, h3, h⟩ := h
  refine fix1 (by simp [AOp.cls, AOp.rd]) h (fun j _ _ => fre_results rs) (fun k2 hk => ?_) (fun j H2 k2 _ hx hcl hs hk => ?_)
  ·simp only [aop]; rw [e]; exact ⟨h0, h00, as, rs, h1, h2, h3, hk⟩
  ·simp only [aop]; rw [e]
   refine ⟨h0, h00, as, rs, ?_, h2, h3, hk⟩
   rw [frzAll_sim hs hcl (fun v hv => ?_)]
   ·exact h1
   ·rcases List.mem_append.1 hv with hv | hv
    ·rcases List.mem_append.1 hv with hv | hv
     ·obtain ⟨q, _, rfl⟩ := List.mem_map.1 hv; exact Fre.s
     ·exact harg j hx v hv
    ·obtain ⟨q, _, rfl⟩ := List.mem_map.1 hv; exact Fre.s
 next g first caps e =>
  obtain ⟨h0, h00, as, rs, h1, h2, h3, h⟩ := h
  refine fix1 (by simp [AOp.cls, AOp.rd]) h (fun j _ _ => fre_results rs) (fun k2 hk => ?_) (fun j H2 k2 _ hx hcl hs hk => ?_)
  ·simp only [aop]; rw [e]; exact ⟨h0, h00, as, rs, h1, h2, h3, hk⟩
  ·simp only [aop]; rw [e]
   refine ⟨h0, h00, as, rs, ?_, h2, h3, hk⟩
   have hf := hx y (by simp [AOp.axs])
   rw [e] at hf
   rw [frzAll_sim hs hcl (fun v hv => ?_)]
   ·exact h1
   ·rcases List.mem_append.1 hv with hv | hv
    ·rcases List.mem_append.1 hv with hv | hv
     ·exact (fre_fn.1 hf).1 v hv
     ·exact harg j hx v hv
    ·exact (fre_fn.1 hf).2 v hv
 next => cases h
theorem fix_sliceArr {n sz : Nat} {x : AX} {lo hi : Option AX} (h : aop P n0 id fr H (.sliceArr n sz x lo hi) k) : Fix P n0 id fr H (.sliceArr n sz x lo hi) k := by
 simp only [aop] at h
 unfold sliceArrK at h
 obtain ⟨l, h1, h⟩ := exO_inv h
 obtain ⟨h', h2, h3, h4, h5, h6, h7, h⟩ := exO_inv h
 cases e : x.ev fr with
 | s v =>
  rw [e] at h
  cases v with
  | ptr cs =>
   refine fix1 (by simp [AOp.cls, AOp.rd]) h.2 (fun j _ _ => by split; exact Fre.full; exact Fre.s) (fun k2 hk => ?_) (fun j H2 k2 _ hx hcl hs hk => ?_)
   ·simp only [aop, sliceArrK, h1, h2, exO, e]; exact ⟨h3, h4, h5, h6, h7, h.1, hk⟩
   ·simp only [aop, sliceArrK, h1, h2, exO, e]; exact ⟨h3, h4, h5, h6, h7, h.1, hk⟩
  | _ => exact h.elim
 | loc b off =>
  rw [e] at h
  have hb : ∀ j, (∀ x' ∈ AOp.axs (.sliceArr n sz x lo hi), Fre j (x'.ev fr)) -> b ≠ j := fun j hx => by have := hx x (by simp [AOp.axs]); rw [e] at this; exact this.loc
  refine fix1 (by simp [AOp.cls, AOp.rd]) h.2 (fun j hx _ => fre_sl (hb j hx)) (fun k2 hk => ?_) (fun j H2 k2 _ hx hcl hs hk => ?_)
  ·simp only [aop, sliceArrK, h1, h2, exO, e]; exact ⟨h3, h4, h5, h6, h7, h.1, hk⟩
  ·simp only [aop, sliceArrK, h1, h2, exO, e]
   rw [hs.2 b (hb j hx)]
   exact ⟨h3, h4, h5, h6, h7, h.1, hk⟩
 | _ => rw [e] at h; exact h.elim
theorem fgtB_obj {j : Nat} {cs : List LV} (h : ∀ c ∈ cs, Fre j c) : fgtB (· == j) (.obj cs) = .obj cs := by
 simp only [fgtB]; rw [freL_iff.2 h]
theorem fix_alloc {cells : List LV} (hok : AOp.okc (.alloc cells) = true) (h : aop P n0 id fr H (.alloc cells) k) : Fix P n0 id fr H (.alloc cells) k := by
 simp only [aop] at h
 simp only [AOp.okc, Bool.and_eq_true, List.all_eq_true] at hok
 exact fix2 rfl (by simp [AOp.cls, AOp.rd]) h.1 h.2 (fun j hj _ _ => ⟨fre_loc fun e => hj e.symm, fgtB_obj fun c hc => noref1_fre (hok.2 c hc)⟩) (fun H2 k2 _ hg hk => by simp only [aop]; exact ⟨hg, hk⟩)
theorem cells_fre {j : Nat} {v : LV} {cs : List LV} (hv : Fre j v) (h : v.cells = some cs) : ∀ c ∈ cs, Fre j c := by
 intro c hc
 cases v <;> simp only [LV.cells, Option.some.injEq] at h <;> try (cases h; done)
 case s v => subst h; obtain ⟨a, _, rfl⟩ := List.mem_map.1 hc; exact Fre.s
 case agg cs' => subst h; exact fre_agg.1 hv c hc
 all_goals (subst h; rw [List.mem_singleton] at hc; subst hc; exact hv)
theorem fix_boxM {x : AX} (h : aop P n0 id fr H (.boxM x) k) : Fix P n0 id fr H (.boxM x) k := by
 simp only [aop] at h
 obtain ⟨cs, e, hg, h⟩ := exO_inv h
 exact fix2 rfl (by simp [AOp.cls, AOp.rd]) hg h (fun j hj hx _ => ⟨fre_loc fun e => hj e.symm, fgtB_obj (cells_fre (hx x (by simp [AOp.axs])) e)⟩) (fun H2 k2 _ hg hk => by simp only [aop, e, exO]; exact ⟨hg, hk⟩)
theorem fix_mkslice {sz bytes : Nat} {zero : List SV} {l c : AX} (h : aop P n0 id fr H (.mkslice sz bytes zero l c) k) : Fix P n0 id fr H (.mkslice sz bytes zero l c) k := by
 simp only [aop] at h
 unfold mksliceK at h
 split at h
 next n m e1 e2 =>
  obtain ⟨h1, h2, h3, h4, h5, h6, hg, h⟩ := h
  exact fix2 rfl (by simp [AOp.cls, AOp.rd]) hg h (fun j hj _ _ => ⟨fre_sl fun e => hj e.symm, rfl⟩) (fun H2 k2 _ hg hk => by simp only [aop]; rw [e1, e2]; exact ⟨h1, h2, h3, h4, h5, h6, hg, hk⟩)
 next => cases h
theorem fix_buildR {sz n : Nat} {zero : SV} {parts : List (Nat × AX)} (h : aop P n0 id fr H (.buildR sz n zero parts) k) : Fix P n0 id fr H (.buildR sz n zero parts) k := by
 simp only [aop] at h
 obtain ⟨h1, h2, h0, h⟩ := h
 obtain ⟨xs, e, h3, h4, h5, hg, h⟩ := exO_inv h
 exact fix2 rfl (by simp [AOp.cls, AOp.rd]) hg h (fun j hj _ _ => ⟨fre_sl fun e => hj e.symm, rfl⟩) (fun H2 k2 _ hg hk => by simp only [aop]; rw [e]; exact ⟨h1, h2, h0, h3, h4, h5, hg, hk⟩)
theorem fix_appendN {sz bytes : Nat} {s x : AX} (h : aop P n0 id fr H (.appendN sz bytes s x) k) : Fix P n0 id fr H (.appendN sz bytes s x) k := by
 simp only [aop] at h
 unfold appendNK at h
 split at h
 next xs e =>
  obtain ⟨ys, e2, hfit, h⟩ := exO_inv h
  by_cases hn : ys = []
  ·refine fix1 (by simp [AOp.cls, AOp.rd]) (h.1 hn) (fun _ _ _ => Fre.full) (fun k2 hk => ?_) (fun j H2 k2 _ hx hcl hs hk => ?_)
   ·simp only [aop]; rw [e]; simp only [appendNK, e2, exO]; exact ⟨hfit, fun _ => hk, fun hne => absurd hn hne⟩
   ·simp only [aop]; rw [e]; simp only [appendNK]
    rw [elems_sim hs (hx x (by simp [AOp.axs])), e2]
    exact ⟨hfit, fun _ => hk, fun hne => absurd hn hne⟩
  ·obtain ⟨hg, hk0⟩ := h.2 hn
   refine fix2 rfl (by simp [AOp.cls, AOp.rd]) hg hk0 (fun j hj _ _ => ⟨fre_sl fun e => hj e.symm, rfl⟩) (fun H2 k2 hl hg hk => ?_)
   simp only [aop]; rw [e]; simp only [appendNK]
   rcases hl with rfl | ⟨j, hx, hcl, hs⟩
   ·rw [e2]; exact ⟨hfit, fun hne => absurd hne hn, fun _ => ⟨hg, hk⟩⟩
   ·rw [elems_sim hs (hx x (by simp [AOp.axs])), e2]; exact ⟨hfit, fun hne => absurd hne hn, fun _ => ⟨hg, hk⟩⟩
 next b off len sz' e =>
  obtain ⟨rfl, h⟩ := h
  obtain ⟨ys, e2, h⟩ := exO_inv h
  obtain ⟨xs, e3, hfit, h⟩ := exO_inv h
  have hsf : ∀ j, (∀ x' ∈ AOp.axs (.appendN sz bytes s x), Fre j (x'.ev fr)) -> Fre j (.sl b off len sz true) := fun j hx => by have := hx s (by simp [AOp.axs]); rw [e] at this; exact this
  by_cases hn : ys = []
  ·refine fix1 (by simp [AOp.cls, AOp.rd]) (h.1 hn) (fun j hx _ => hsf j hx) (fun k2 hk => ?_) (fun j H2 k2 _ hx hcl hs hk => ?_)
   ·simp only [aop]; rw [e]; simp only [appendNK, e2, e3, exO]; exact ⟨trivial, hfit, fun _ => hk, fun hne => absurd hn hne⟩
   ·simp only [aop]; rw [e]; simp only [appendNK]
    rw [elems_sim hs (hx x (by simp [AOp.axs])), elems_sim hs (hsf j hx), e2, e3]
    exact ⟨trivial, hfit, fun _ => hk, fun hne => absurd hn hne⟩
  ·obtain ⟨hg, hk0⟩ := h.2 hn
   refine fix2 rfl (by simp [AOp.cls, AOp.rd]) hg hk0 (fun j hj _ _ => ⟨fre_sl fun e => hj e.symm, rfl⟩) (fun H2 k2 hl hg hk => ?_)
   simp only [aop]; rw [e]; simp only [appendNK]
   rcases hl with rfl | ⟨j, hx, hcl, hs⟩
   ·rw [e2, e3]; exact ⟨trivial, hfit, fun hne => absurd hne hn, fun _ => ⟨hg, hk⟩⟩
   ·rw [elems_sim hs (hx x (by simp [AOp.axs])), elems_sim hs (hsf j hx), e2, e3]; exact ⟨trivial, hfit, fun hne => absurd hne hn, fun _ => ⟨hg, hk⟩⟩
 next => cases h
theorem fix_callN {sz : Nat} {f : FuncId} {args : List AX} (h : aop P n0 id fr H (.callN sz f args) k) : Fix P n0 id fr H (.callN sz f args) k := by
 simp only [aop] at h
 obtain ⟨as, xs, h1, h2, h3, h4, hg, h⟩ := h
 by_cases hn : xs = []
 ·rw [if_pos hn] at h
  refine fix1 (by simp [AOp.cls, AOp.rd]) h (fun _ _ _ => Fre.full) (fun k2 hk => ?_) (fun j H2 k2 hj hx hcl hs hk => ?_)
  ·simp only [aop]; exact ⟨as, xs, h1, h2, h3, h4, hg, by rw [if_pos hn]; exact hk⟩
  ·simp only [aop]; exact ⟨as, xs, h1, h2, h3, h4, by rw [hs.2 id fun e => hj e.symm]; exact hg, by rw [if_pos hn]; exact hk⟩
 ·rw [if_neg hn] at h
  refine fix2 rfl (by simp [AOp.cls, AOp.rd]) hg h (fun j hj _ _ => ⟨fre_sl fun e => hj e.symm, rfl⟩) (fun H2 k2 hl hg hk => ?_)
  simp only [aop]; exact ⟨as, xs, h1, h2, h3, h4, hg, by rw [if_neg hn]; exact hk⟩
theorem ldOB_fix {off n : Nat} {g : Bool} {B : Option ABlock} (h : ldOB H off n g k B) : ∃ cs, B = some (.obj cs) /\ partL H cs off n k g := by
 unfold ldOB at h
 split at h
 ·exact ⟨_, rfl, h⟩
 ·cases h
theorem fix_loadO {n : Nat} {g : Bool} {x : AX} (h : aop P n0 id fr H (.loadO n g x) k) : Fix P n0 id fr H (.loadO n g x) k := by
 simp only [aop] at h
 unfold ldOK at h
 split at h
 next cs e =>
  obtain ⟨u, h1, h2, h3⟩ := partS_fix h
  exact fix0 h1 (fun j _ => h2 j) (fun H2 k2 hk => by simp only [aop]; rw [e]; exact h3 H2 k2 hk)
 next b off e =>
  obtain ⟨cs, hB, hp⟩ := ldOB_fix h
  obtain ⟨u, h1, h2, h3⟩ := partL_fix hp
  have hb : ∀ j, (∀ x' ∈ AOp.axs (.loadO n g x), Fre j (x'.ev fr)) -> b ≠ j := fun j hx => by have := hx x (by simp [AOp.axs]); rw [e] at this; exact this.loc
  have fin : ∀ (H2 : List ABlock) (k2 : AK), H2[b]? = some (.obj cs) -> k2 u H2 none True -> aop P n0 id fr H2 (.loadO n g x) k2 := fun H2 k2 hB2 hk => by
   simp only [aop]; rw [e]; simp only [ldOK, hB2, ldOB]; exact h3 H2 k2 hk
  refine ⟨u, True, none, h1, by simp, fun j _ hx hc => ⟨h2 j (clos_obj hc (hb j hx) hB), by simp⟩, fun H2 k2 hl hk => ?_⟩
  rcases hl with rfl | hl | ⟨j, hj, hx, hcl, hs⟩ | ⟨_, hs⟩
  ·exact fin _ k2 hB hk
  ·simp [AOp.cls] at hl
  ·exact fin H2 k2 (by rw [hs.2 b (hb j hx)]; exact hB) hk
  ·rcases hs with hs | ⟨_, _, _, hs, _⟩
   ·exact fin H2 k2 ((hs b cs).1 hB) hk
   ·cases hs
 next => cases h
theorem fix_loadX {n r : Nat} {g : Bool} {x : AX} (h : aop P n0 id fr H (.loadX n g x r) k) : Fix P n0 id fr H (.loadX n g x r) k := by
 simp only [aop] at h
 obtain ⟨ha, h⟩ := h
 generalize er : fget fr r = w at ha
 unfold ldOK at h
 split at h
 next cs e =>
  rw [e] at ha
  cases w <;> exact ha.elim
 next b off e =>
  rw [e] at ha
  obtain ⟨cs, hB, hp⟩ := ldOB_fix h
  obtain ⟨u, h1, h2, h3⟩ := partL_fix hp
  have hb : ∀ j, (∀ x' ∈ AOp.axs (.loadX n g x r), Fre j (x'.ev fr)) -> b ≠ j := fun j hx => by have := hx x (by simp [AOp.axs]); rw [e] at this; exact this.loc
  have fin : ∀ (H2 : List ABlock) (k2 : AK), H2[b]? = some (.obj cs) -> k2 u H2 none True -> aop P n0 id fr H2 (.loadX n g x r) k2 := fun H2 k2 hB2 hk => by
   simp only [aop]; rw [e, er]; simp only [ldOK, hB2, ldOB]; exact ⟨ha, h3 H2 k2 hk⟩
  refine ⟨u, True, none, h1, by simp, fun j _ hx hc => ⟨h2 j (clos_obj hc (hb j hx) hB), by simp⟩, fun H2 k2 hl hk => ?_⟩
  rcases hl with rfl | hl | ⟨j, hj, hx, hcl, hs⟩ | ⟨_, hs | ⟨r', b', off', hr, hb', hs⟩⟩
  ·exact fin _ k2 hB hk
  ·simp [AOp.cls] at hl
  ·exact fin H2 k2 (by rw [hs.2 b (hb j hx)]; exact hB) hk
  ·exact fin H2 k2 ((hs b cs).1 hB) hk
  ·cases hr
   rw [er] at hb'
   subst hb'
   exact fin H2 k2 (by rw [hs b (fun e => ha e.symm)]; exact hB) hk
 next => cases w <;> (try exact ha.elim) <;> exact h.elim
theorem fix_mkmap (h : aop P n0 id fr H .mkmap k) : Fix P n0 id fr H .mkmap k := by
 simp only [aop] at h
 exact fix2 rfl (by simp [AOp.cls, AOp.rd]) h.1 h.2 (fun j hj _ _ => ⟨by have : id ≠ j := fun e => hj e.symm; simp [Fre, fgt, this], rfl⟩) (fun H2 k2 hl hg hk => by simp only [aop]; exact ⟨hg, hk⟩)
theorem aop_fix (hok : op.okc = true) (hc : op.cls <= 2) (h : aop P n0 id fr H op k) : Fix P n0 id fr H op k := by
 cases op with
 | mov => exact fix_mov h
 | pick => exact fix_pick h
 | alloc => exact fix_alloc hok h
 | boxM => exact fix_boxM h
 | boxS => exact fix_boxS h
 | build => exact fix_build hok h
 | buildSl => exact fix_buildSl h
 | load => exact fix_load h
 | nilck => exact fix_nilck h
 | arith => exact fix_arith h
 | cmp => exact fix_cmp h
 | bits => exact fix_bits h
 | div => exact fix_div h
 | shift => exact fix_shift h
 | eql => exact fix_eql h
 | not => exact fix_not h
 | neg => exact fix_neg h
 | conv => exact fix_conv h
 | mkfn => exact fix_mkfn h
 | slice => exact fix_slice h
 | sliceArr => exact fix_sliceArr h
 | fieldAddr => exact fix_fieldAddr h
 | field => exact fix_field h
 | idxA => exact fix_idxA h
 | idxArrA => exact fix_idxArrA h
 | idx => exact fix_idx h
 | ext => exact fix_ext h
 | call => exact fix_call h
 | callv => exact fix_callv h
 | len => exact fix_len h
 | lenArr => exact fix_lenArr h
 | appendN => exact fix_appendN h
 | callN => exact fix_callN h
 | max => exact fix_max h
 | min => exact fix_min h
 | mkslice => exact fix_mkslice h
 | loadO => exact fix_loadO h
 | loadX => exact fix_loadX h
 | mkmap => exact fix_mkmap h
 | sidx => exact fix_sidx h
 | loadS => exact fix_loadS h
 | dead => simp only [aop] at h; exact h.1.elim
 | buildR => exact fix_buildR h
 | _ => simp [AOp.cls] at hc
end
end Go.E

/- Operations that are not tied may change places. -/
namespace Go.E
open Go
theorem mem_splice {α : Type} {c : α} {cs xs : List α} {off : Nat} (h : c ∈ splice cs off xs) : c ∈ cs \/ c ∈ xs := by
 unfold splice at h
 rcases List.mem_append.1 h with h | h
 ·rcases List.mem_append.1 h with h | h
  ·exact .inl (List.mem_of_mem_take h)
  ·exact .inr h
 ·exact .inl (List.mem_of_mem_drop h)
theorem clos_set {j b : Nat} {H : List ABlock} {B : ABlock} (h : Clos j H) (hB : fgtB (· == j) B = B) : Clos j (H.set b B) := by
 intro c C hc hC
 rw [List.getElem?_set] at hC
 split at hC
 ·split at hC
  ·cases hC; exact hB
  ·cases hC
 ·exact h c C hc hC
def FreshAt (j : Nat) (σ : AState) : Prop := (∀ t, Fre j (fget σ.fr t)) /\ Clos j σ.hp /\ σ.hp[j]? = some .gone
def Ste (P : Program) (n0 id : Nat) (fr : List LV) (H : List ABlock) (op : AOp) (k : AK) : Prop :=
 ∃ v f H', k v H' none f /\ H'.length = H.length /\ (∀ (k2 : AK), k2 v H' none f -> aop P n0 id fr H op k2) /\
  (∀ j, j ≠ id -> (∀ x ∈ op.axs, Fre j (x.ev fr)) -> Clos j H -> H[j]? = some .gone -> Fre j v /\ Clos j H' /\ H'[j]? = some .gone) /\ (op.wr = true -> SimO H H')
theorem SimO.refl (H : List ABlock) : SimO H H := fun _ _ => Iff.rfl
theorem SimO.symm {H H2 : List ABlock} (h : SimO H H2) : SimO H2 H := fun b cs => (h b cs).symm
theorem simO_set {H : List ABlock} {b : Nat} {B B' : ABlock} (hB : H[b]? = some B) (h1 : ∀ cs, B ≠ .obj cs) (h2 : ∀ cs, B' ≠ .obj cs) : SimO H (H.set b B') := by
 intro i cs
 rw [List.getElem?_set]
 by_cases e : b = i
 ·subst e
  rw [if_pos rfl, if_pos (List.getElem?_eq_some_iff.1 hB).1, hB]
  constructor
  ·intro h; cases h; exact absurd rfl (h1 cs)
  ·intro h; cases h; exact absurd rfl (h2 cs)
 ·rw [if_neg e]
section
variable {P : Program} {n0 id : Nat} {fr : List LV} {H : List ABlock} {op : AOp} {k : AK}
theorem lay_length {g : Option ABlock} : (lay id g H).length = H.length := by cases g <;> simp [lay]
theorem lay_get {g : Option ABlock} {b : Nat} (h : b ≠ id) : (lay id g H)[b]? = H[b]? := by
 cases g with
 | none => rfl
 | some B => simp only [lay]; rw [List.getElem?_set, if_neg (fun e => h e.symm)]
theorem wr_cls {op : AOp} (h : op.wr = true) : op.cls = 3 := by
 cases op <;> simp [AOp.wr] at h <;> rfl
theorem Fix.ste (hc2 : op.cls <= 2) (h : Fix P n0 id fr H op k) : Ste P n0 id fr H op k := by
 obtain ⟨v, f, g, hk, hg, hf, hall⟩ := h
 refine ⟨v, f, lay id g H, hk, lay_length, fun k2 hk2 => hall H k2 (.inl rfl) hk2, fun j hj hx hc hgone => ?_, fun hw => by have := wr_cls hw; omega⟩
 obtain ⟨h1, h2⟩ := hf j hj hx hc
 refine ⟨h1, ?_, by rw [lay_get hj]; exact hgone⟩
 cases g with
 | none => exact hc
 | some B => exact clos_set hc (h2 B rfl)
theorem set_ste (hw : op.wr = false) {v : LV} {b : Nat} {B : ABlock} (hk : k v (H.set b B) none True) (hall : ∀ (k2 : AK), k2 v (H.set b B) none True -> aop P n0 id fr H op k2)
  (hf : ∀ j, (∀ x ∈ op.axs, Fre j (x.ev fr)) -> Clos j H -> Fre j v /\ fgtB (· == j) B = B /\ b ≠ j) : Ste P n0 id fr H op k :=
 ⟨v, True, _, hk, by simp, hall, fun j _ hx hc hg => by
  obtain ⟨h1, h2, h3⟩ := hf j hx hc
  exact ⟨h1, clos_set hc h2, by rw [List.getElem?_set, if_neg h3]; exact hg⟩, fun h => by rw [hw] at h; cases h⟩
theorem ste_storeR {n : Nat} {x y : AX} (h : aop P n0 id fr H (.storeR n x y) k) : Ste P n0 id fr H (.storeR n x y) k := by
 simp only [aop] at h
 unfold stRK at h
 split at h
 next b off e =>
  have hb : ∀ j, (∀ x' ∈ AOp.axs (.storeR n x y), Fre j (x'.ev fr)) -> b ≠ j := fun j hx => by have := hx x (by simp [AOp.axs]); rw [e] at this; exact this.loc
  unfold stRB at h
  split at h
  next cs hB =>
   obtain ⟨sv, hsv, h1, h2, h⟩ := exO_inv h
   refine ⟨_, True, _, h, by simp, fun k2 hk => ?_, fun j _ hx hc hg => ⟨Fre.tup, clos_set hc rfl, by rw [List.getElem?_set, if_neg (hb j hx)]; exact hg⟩, fun _ => simO_set hB (by simp) (by simp)⟩
   simp only [aop, e, stRK, hB, stRB, hsv, exO]; exact ⟨h1, h2, hk⟩
  next => cases h
 next => cases h
theorem ste_frzv {x : AX} (h : aop P n0 id fr H (.frzv x) k) : Ste P n0 id fr H (.frzv x) k := by
 simp only [aop] at h
 generalize hv : x.ev fr = v at h
 unfold frzvK at h
 split at h
 next b off len sz clip =>
  have hb : ∀ j, (∀ x' ∈ AOp.axs (.frzv x), Fre j (x'.ev fr)) -> b ≠ j := fun j hx => by have := hx x (by simp [AOp.axs]); rw [hv] at this; exact this.sl
  unfold frzvB at h
  split at h
  next cs hB =>
   obtain ⟨ys, h1, h5⟩ := h
   refine ⟨_, True, _, h5, by simp, fun k2 hk => ?_, fun j _ hx hc hg => ⟨Fre.s, clos_set hc rfl, by rw [List.getElem?_set, if_neg (hb j hx)]; exact hg⟩, fun _ => simO_set hB (by simp) (by simp)⟩
   simp only [aop, hv, frzvK, hB, frzvB]; exact ⟨ys, h1, hk⟩
  next => cases h
 next xs => exact ⟨_, True, H, h, rfl, fun k2 hk => by simp only [aop, hv, frzvK]; exact hk, fun j _ hx hc hg => ⟨Fre.s, hc, hg⟩, fun _ => SimO.refl H⟩
 next u => exact ⟨_, True, H, h, rfl, fun k2 hk => by simp only [aop, hv, frzvK]; exact hk, fun j _ hx hc hg => ⟨Fre.s, hc, hg⟩, fun _ => SimO.refl H⟩
 next => cases h
theorem ste_callF {f : FuncId} {s : AX} {args : List AX} (h : aop P n0 id fr H (.callF f s args) k) : Ste P n0 id fr H (.callF f s args) k := by
 simp only [aop] at h
 have hcall : ∀ {v : LV}, s.ev fr = v -> callK P H f (v :: args.map (·.ev fr)) k -> (∀ k2 : AK, callK P H f (v :: args.map (·.ev fr)) k2 -> aop P n0 id fr H (.callF f s args) k2) -> Ste P n0 id fr H (.callF f s args) k := by
  intro v hv hc hk2
  obtain ⟨as, rs, h1, h2, h3, h4⟩ := hc
  refine ⟨_, True, H, h4, rfl, fun k2 hk => hk2 k2 ⟨as, rs, h1, h2, h3, hk⟩, fun j _ hx hc hg => ⟨?_, hc, hg⟩, fun _ => SimO.refl H⟩
  unfold LV.ofResults
  split <;> first | exact Fre.s | exact Fre.tup
 generalize hv : s.ev fr = v at h
 unfold callFK at h
 split at h
 next b off len sz clip =>
  have hb : ∀ j, (∀ x' ∈ AOp.axs (.callF f s args), Fre j (x'.ev fr)) -> b ≠ j := fun j hx => by have := hx s (by simp [AOp.axs]); rw [hv] at this; exact this.sl
  unfold callFB at h
  split at h
  next cs hB =>
   obtain ⟨as, cs', o', l', c', ys, h1, h2, h3, h4, h5⟩ := h
   refine ⟨_, True, _, h5, by simp, fun k2 hk => ?_, fun j _ hx hc hg => ⟨Fre.s, clos_set hc rfl, by rw [List.getElem?_set, if_neg (hb j hx)]; exact hg⟩, fun _ => simO_set hB (by simp) (by simp)⟩
   simp only [aop, hv, callFK, hB, callFB]; exact ⟨as, cs', o', l', c', ys, h1, h2, h3, h4, hk⟩
  next => cases h
 next xs => exact hcall hv h fun k2 hk => by simp only [aop, hv, callFK]; exact hk
 next u => exact hcall hv h fun k2 hk => by simp only [aop, hv, callFK]; exact hk
 next => cases h
theorem ste_store {n : Nat} {x y : AX} (h : aop P n0 id fr H (.store n x y) k) : Ste P n0 id fr H (.store n x y) k := by
 simp only [aop] at h
 unfold stK at h
 split at h
 next b off e =>
  have hb : ∀ j, (∀ x' ∈ AOp.axs (.store n x y), Fre j (x'.ev fr)) -> b ≠ j := fun j hx => by have := hx x (by simp [AOp.axs]); rw [e] at this; exact this.loc
  unfold stB at h
  split at h
  next cs hB =>
   obtain ⟨xs, hxs, h1, h2, h⟩ := exO_inv h
   refine set_ste rfl h (fun k2 hk => ?_) (fun j hx hc => ⟨Fre.tup, fgtB_obj fun c hcc => ?_, hb j hx⟩)
   ·simp only [aop, e, stK, hB, stB, hxs, exO]; exact ⟨h1, h2, hk⟩
   ·rcases mem_splice hcc with hcc | hcc
    ·exact clos_obj hc (hb j hx) hB c hcc
    ·exact cells_fre (hx y (by simp [AOp.axs])) hxs c hcc
  next cs hB =>
   obtain ⟨sv, hsv, h1, h2, h⟩ := exO_inv h
   refine set_ste rfl h (fun k2 hk => ?_) (fun j hx hc => ⟨Fre.tup, rfl, hb j hx⟩)
   simp only [aop, e, stK, hB, stB, hsv, exO]; exact ⟨h1, h2, hk⟩
  next => cases h
 next => cases h
theorem fre_map_s {j : Nat} {xs : List SV} : ∀ c ∈ xs.map LV.s, Fre j c := by
 intro c hc
 obtain ⟨a, _, rfl⟩ := List.mem_map.1 hc
 exact Fre.s
theorem ste_copy {sz : Nat} {x y : AX} (h : aop P n0 id fr H (.copy sz x y) k) : Ste P n0 id fr H (.copy sz x y) k := by
 simp only [aop] at h
 unfold copyK at h
 split at h
 next b off len sz' c e =>
  have hb : ∀ j, (∀ x' ∈ AOp.axs (.copy sz x y), Fre j (x'.ev fr)) -> b ≠ j := fun j hx => by have := hx x (by simp [AOp.axs]); rw [e] at this; exact this.sl
  obtain ⟨rfl, h⟩ := h
  obtain ⟨ys, hys, h1, h⟩ := exO_inv h
  unfold copyB at h
  split at h
  next cs hB =>
   refine set_ste rfl h.2 (fun k2 hk => ?_) (fun j hx hc => ⟨Fre.s, rfl, hb j hx⟩)
   simp only [aop, e, copyK, hys, exO, hB, copyB]; exact ⟨trivial, h1, h.1, hk⟩
  next cs hB =>
   refine set_ste rfl h.2 (fun k2 hk => ?_) (fun j hx hc => ⟨Fre.s, fgtB_obj fun c hcc => ?_, hb j hx⟩)
   ·simp only [aop, e, copyK, hys, exO, hB, copyB]; exact ⟨trivial, h1, h.1, hk⟩
   ·rcases mem_splice hcc with hcc | hcc
    ·exact clos_obj hc (hb j hx) hB c hcc
    ·exact fre_map_s c hcc
  next => cases h
 next e =>
  obtain ⟨ys, hys, h⟩ := exO_inv h
  exact ⟨_, _, H, h, rfl, fun k2 hk => by simp only [aop, e, copyK, hys, exO]; exact hk, fun j _ hx hc hg => ⟨Fre.s, hc, hg⟩, fun h => by cases h⟩
 next => cases h
theorem ste_clear {sz : Nat} {zero : List SV} {x : AX} (h : aop P n0 id fr H (.clear sz zero x) k) : Ste P n0 id fr H (.clear sz zero x) k := by
 simp only [aop] at h
 unfold clearK at h
 split at h
 next b off len sz' c e =>
  have hb : ∀ j, (∀ x' ∈ AOp.axs (.clear sz zero x), Fre j (x'.ev fr)) -> b ≠ j := fun j hx => by have := hx x (by simp [AOp.axs]); rw [e] at this; exact this.sl
  obtain ⟨rfl, h1, h⟩ := h
  unfold clearB at h
  split at h
  next cs hB =>
   refine set_ste rfl h.2 (fun k2 hk => ?_) (fun j hx hc => ⟨Fre.tup, rfl, hb j hx⟩)
   simp only [aop, e, clearK, hB, clearB]; exact ⟨trivial, h1, h.1, hk⟩
  next cs hB =>
   refine set_ste rfl h.2 (fun k2 hk => ?_) (fun j hx hc => ⟨Fre.tup, fgtB_obj fun c hcc => ?_, hb j hx⟩)
   ·simp only [aop, e, clearK, hB, clearB]; exact ⟨trivial, h1, h.1, hk⟩
   ·rcases mem_splice hcc with hcc | hcc
    ·exact clos_obj hc (hb j hx) hB c hcc
    ·exact fre_map_s c hcc
  next => cases h
 next e => exact ⟨_, _, H, h, rfl, fun k2 hk => by simp only [aop, e, clearK]; exact hk, fun j _ hx hc hg => ⟨Fre.tup, hc, hg⟩, fun h => by cases h⟩
 next => cases h
theorem ste_appendZ {sz bytes : Nat} {y x : AX} (h : aop P n0 id fr H (.appendZ sz bytes y x) k) : Ste P n0 id fr H (.appendZ sz bytes y x) k := by
 simp only [aop] at h
 generalize hu : x.ev fr = u at h
 generalize hv : y.ev fr = v at h
 unfold appendZK at h
 split at h
 next b off len sz' clip =>
  have hb : ∀ j, (∀ x' ∈ AOp.axs (.appendZ sz bytes y x), Fre j (x'.ev fr)) -> b ≠ j := fun j hx => by have := hx y (by simp [AOp.axs]); rw [hv] at this; exact this.sl
  obtain ⟨h0, h⟩ := h
  obtain ⟨ys, hys, hyl, h⟩ := exO_inv h
  unfold appendZB at h
  split at h
  next cs hB =>
   obtain ⟨h1, h2, h3, h4, h5, xs, h6, h7, h8⟩ := h
   refine ⟨_, True, _, h8, by simp, fun k2 hk => ?_, fun j _ hx hc hg => ⟨Fre.s, clos_set hc rfl, by rw [List.getElem?_set, if_neg (hb j hx)]; exact hg⟩, fun _ => simO_set hB (by simp) (by simp)⟩
   simp only [aop, hu, hv, appendZK, hys, exO, hB, appendZB]; exact ⟨h0, hyl, h1, h2, h3, h4, h5, xs, h6, h7, hk⟩
  next => cases h
 next xs =>
  obtain ⟨ys, hys, h1, h2, h3⟩ := exO_inv h
  refine ⟨_, True, H, h3, rfl, fun k2 hk => ?_, fun j _ hx hc hg => ⟨Fre.s, hc, hg⟩, fun _ => SimO.refl H⟩
  simp only [aop, hu, hv, appendZK, hys, exO]; exact ⟨h1, h2, hk⟩
 next => cases h
theorem aop_ste (hok : op.okc = true) (hc : op.cls <= 3) (h : aop P n0 id fr H op k) : Ste P n0 id fr H op k := by
 by_cases h2 : op.cls <= 2
 ·exact (aop_fix hok h2 h).ste h2
 ·cases op with
  | store => exact ste_store h
  | copy => exact ste_copy h
  | clear => exact ste_clear h
  | storeR => exact ste_storeR h
  | callF => exact ste_callF h
  | frzv => exact ste_frzv h
  | appendZ => exact ste_appendZ h
  | mget => simp [AOp.cls] at hc
  | mset => simp [AOp.cls] at hc
  | mdel => simp [AOp.cls] at hc
  | mlen => simp [AOp.cls] at hc
  | rangeM => simp [AOp.cls] at hc
  | nextM => simp [AOp.cls] at hc
  | entryM => simp [AOp.cls] at hc
  | callR => simp [AOp.cls] at hc
  | append => simp [AOp.cls] at hc
  | eqNil => simp [AOp.cls] at hc
  | callI => simp [AOp.cls] at hc
  | _ => simp [AOp.cls] at h2
end
def actG (want : Bool) : LV -> Option Bool
 | .s (.bool b) => some (b == want)
 | .tup [] => some false
 | _ => none
def actO (x : AOper) (fr : List LV) : Option Bool :=
 match x.guard with
 | none => some true
 | some (g, want) => actG want (fget fr g)
def fpt (fr : List LV) (dst : Option Nat) (v : LV) : List LV :=
 match dst with
 | some d => fset fr d v
 | none => fr
noncomputable def stpG (P : Program) (n0 id : Nat) (x : AOper) (σ : AState) (F : Prop) (K : AState -> Prop -> Prop) : Option Bool -> Prop
 | some true => aop P n0 id σ.fr σ.hp x.op fun v H kl f => K (AState.put σ.fr H x.dst v kl) (F /\ f)
 | some false => K (AState.put σ.fr σ.hp x.dst (.tup []) none) F
 | none => False
noncomputable def stp (P : Program) (n0 id : Nat) (x : AOper) (σ : AState) (F : Prop) (K : AState -> Prop -> Prop) : Prop := stpG P n0 id x σ F K (actO x σ.fr)
noncomputable def runI (P : Program) (n0 : Nat) : List (Nat × AOper) -> AState -> Prop -> (AState -> Prop -> Prop) -> Prop
 | [], σ, F, k => k σ F
 | (id, x) :: l, σ, F, k => stp P n0 id x σ F fun τ F' => runI P n0 l τ F' k
theorem put_none {fr : List LV} {H : List ABlock} {dst : Option Nat} {v : LV} : AState.put fr H dst v none = ⟨fpt fr dst v, H⟩ := by
 cases dst <;> rfl
theorem fset_fget : ∀ (fr : List LV) (g : Nat), fset fr g (fget fr g) = fr
 | [], _ => rfl
 | _ :: _, 0 => rfl
 | v :: vs, n + 1 => by simp only [fset, fget, fset_fget vs n]
theorem fget_fset_ne : ∀ (fr : List LV) {d t : Nat} (v : LV), t ≠ d -> fget (fset fr d v) t = fget fr t
 | [], _, _, _, _ => rfl
 | _ :: _, 0, 0, _, h => absurd rfl h
 | _ :: _, 0, _ + 1, _, _ => rfl
 | _ :: _, _ + 1, 0, _, _ => rfl
 | _ :: vs, d + 1, t + 1, v, h => by simp only [fset, fget]; exact fget_fset_ne vs v (by omega)
theorem fget_fset : ∀ (fr : List LV) (d t : Nat) (v : LV), fget (fset fr d v) t = fget fr t \/ fget (fset fr d v) t = v
 | [], _, _, _ => .inl rfl
 | _ :: _, 0, 0, _ => .inr rfl
 | _ :: _, 0, _ + 1, _ => .inl rfl
 | _ :: _, _ + 1, 0, _ => .inl rfl
 | _ :: vs, d + 1, t + 1, v => by simp only [fset, fget]; exact fget_fset vs d t v
theorem fset_comm : ∀ (fr : List LV) {d e : Nat} (v u : LV), d ≠ e -> fset (fset fr d v) e u = fset (fset fr e u) d v
 | [], _, _, _, _, _ => rfl
 | _ :: _, 0, 0, _, _, h => absurd rfl h
 | _ :: _, 0, _ + 1, _, _, _ => rfl
 | _ :: _, _ + 1, 0, _, _, _ => rfl
 | _ :: vs, d + 1, e + 1, v, u, h => by simp only [fset]; rw [fset_comm vs v u (by omega)]
theorem fpt_comm {fr : List LV} {x y : Option Nat} {v u : LV} (h : ∀ d, x = some d -> y ≠ some d) : fpt (fpt fr x v) y u = fpt (fpt fr y u) x v := by
 cases x with
 | none => rfl
 | some d =>
  cases y with
  | none => rfl
  | some e => exact fset_comm fr v u fun h' => h d rfl (by rw [h'])
theorem fpt_agree {fr : List LV} {x : Option Nat} {v : LV} {s : List Nat} (h : ∀ d, x = some d -> d ∉ s) : Agree fr (fpt fr x v) s := by
 intro t ht
 cases x with
 | none => rfl
 | some d => exact fget_fset_ne fr v fun e => h d rfl (e ▸ ht)
theorem Agree.symm {fr fr2 : List LV} {s : List Nat} (h : Agree fr fr2 s) : Agree fr2 fr s := fun t ht => (h t ht).symm
theorem axs_slots : ∀ {op : AOp} {fr fr2 : List LV}, Agree fr fr2 op.slots -> ∀ x ∈ op.axs, x.ev fr2 = x.ev fr := by
 intro op fr fr2 h x hx
 have mem : ∀ {xs : List AX}, x ∈ xs -> ∀ t ∈ x.slots, t ∈ xs.flatMap (·.slots) := fun hx t ht => List.mem_flatMap.2 ⟨x, hx, ht⟩
 refine Agree.ev fun t ht => h t ?_
 have memO : ∀ {y : Option AX}, x ∈ AX.listO y -> t ∈ AX.slotsO y := by
  intro y hy
  cases y with
  | none => simp [AX.listO] at hy
  | some y => simp only [AX.listO, List.mem_singleton] at hy; subst hy; exact ht
 cases op <;> simp only [AOp.axs, AOp.slots] at hx ⊢
 case build z ps =>
  obtain ⟨p, hp, rfl⟩ := List.mem_map.1 hx
  exact List.mem_flatMap.2 ⟨p, hp, ht⟩
 case buildSl a b c ps =>
  obtain ⟨p, hp, rfl⟩ := List.mem_map.1 hx
  exact List.mem_flatMap.2 ⟨p, hp, ht⟩
 case buildR a b c ps =>
  obtain ⟨p, hp, rfl⟩ := List.mem_map.1 hx
  exact List.mem_flatMap.2 ⟨p, hp, ht⟩
 case mkfn =>
  rcases List.mem_append.1 hx with hx | hx
  ·exact List.mem_append_left _ (mem hx t ht)
  ·exact List.mem_append_right _ (mem hx t ht)
 case slice =>
  rcases List.mem_append.1 hx with hx | hx
  ·rcases List.mem_append.1 hx with hx | hx
   ·rcases List.mem_cons.1 hx with rfl | hx
    ·simp [ht]
    ·simp [memO hx]
   ·simp [memO hx]
  ·simp [memO hx]
 case sliceArr =>
  rcases List.mem_append.1 hx with hx | hx
  ·rcases List.mem_cons.1 hx with rfl | hx
   ·simp [ht]
   ·simp [memO hx]
  ·simp [memO hx]
 case loadX =>
  simp only [List.mem_cons, List.not_mem_nil, or_false] at hx
  rcases hx with rfl | rfl
  ·simp [ht]
  ·exact List.mem_append_right _ ht
 case call => exact mem hx t ht
 case callI => exact mem hx t ht
 case callN => exact mem hx t ht
 case callR => exact mem hx t ht
 case max => exact mem hx t ht
 case min => exact mem hx t ht
 case callv =>
  rcases List.mem_cons.1 hx with rfl | hx
  ·simp [ht]
  ·exact List.mem_append_right _ (mem hx t ht)
 case callF =>
  rcases List.mem_cons.1 hx with rfl | hx
  ·simp [ht]
  ·exact List.mem_append_right _ (mem hx t ht)
 all_goals
  simp only [List.mem_cons, List.not_mem_nil, or_false] at hx <;> first
   | (subst hx; simp [ht]; done)
   | (rcases hx with rfl | rfl <;> simp [ht]; done)
   | (rcases hx with rfl | rfl | rfl <;> simp [ht]; done)
end Go.E

/- Steps that are not tied change places; one is moved ahead of others. -/
namespace Go.E
open Go
section
variable {P : Program} {n0 : Nat}
theorem actO_agree {x : AOper} {fr fr2 : List LV} (h : Agree fr fr2 x.reads) : actO x fr2 = actO x fr := by
 unfold actO
 unfold AOper.reads at h
 cases hg : x.guard with
 | none => rfl
 | some p =>
  obtain ⟨g, want⟩ := p
  rw [hg] at h
  simp only
  rw [h g (by simp)]
theorem reads_slots {x : AOper} {fr fr2 : List LV} (h : Agree fr fr2 x.reads) : Agree fr fr2 x.op.slots := Agree.right h
theorem okc_fre {op : AOp} {fr : List LV} {j : Nat} (hok : op.okc = true) (h : ∀ t, Fre j (fget fr t)) : ∀ x ∈ op.axs, Fre j (x.ev fr) := by
 intro x hx
 simp only [AOp.okc, Bool.and_eq_true, List.all_eq_true] at hok
 have := hok.1 x hx
 cases x with
 | t n => exact h n
 | c v => exact noref_fre this
theorem fpt_fre {fr : List LV} {dst : Option Nat} {v : LV} {j : Nat} (h : ∀ t, Fre j (fget fr t)) (hv : Fre j v) : ∀ t, Fre j (fget (fpt fr dst v) t) := by
 intro t
 cases dst with
 | none => exact h t
 | some d => rcases fget_fset fr d t v with e | e <;> simp only [fpt] <;> rw [e]; exact h t; exact hv
theorem stp_ste {id : Nat} {x : AOper} {σ : AState} {F : Prop} {K : AState -> Prop -> Prop} (hok : x.op.okc = true) (hc : x.op.cls <= 3) (h : stp P n0 id x σ F K) :
  ∃ v f H', K ⟨fpt σ.fr x.dst v, H'⟩ (F /\ f) /\
   (∀ (σ2 : AState) (F2 : Prop) (K2 : AState -> Prop -> Prop), Agree σ.fr σ2.fr x.reads -> σ2.hp = σ.hp -> K2 ⟨fpt σ2.fr x.dst v, H'⟩ (F2 /\ f) -> stp P n0 id x σ2 F2 K2) /\
   (∀ j, j ≠ id -> FreshAt j σ -> FreshAt j ⟨fpt σ.fr x.dst v, H'⟩) /\ (x.op.wr = true -> SimO σ.hp H') := by
 unfold stp at h
 cases ha : actO x σ.fr with
 | none => rw [ha] at h; exact h.elim
 | some b =>
  rw [ha] at h
  cases b with
  | false =>
   simp only [stpG, put_none] at h
   refine ⟨.tup [], True, σ.hp, by rw [and_true]; exact h, fun σ2 F2 K2 hag hh hk => ?_, fun j _ hf => ⟨fpt_fre hf.1 Fre.tup, hf.2⟩, fun _ => SimO.refl _⟩
   unfold stp
   rw [actO_agree hag, ha]
   simp only [stpG, put_none]
   rw [and_true] at hk
   rw [hh]; exact hk
  | true =>
   simp only [stpG] at h
   obtain ⟨v, f, H', hk, hl, hall, hfr, hsim⟩ := aop_ste hok hc h
   rw [put_none] at hk
   refine ⟨v, f, H', hk, fun σ2 F2 K2 hag hh hk2 => ?_, fun j hj hf => ?_, hsim⟩
   ·unfold stp
    rw [actO_agree hag, ha]
    simp only [stpG]
    rw [aop_agree (reads_slots hag), hh]
    exact hall _ (by rw [put_none]; exact hk2)
   ·obtain ⟨h1, h2, h3⟩ := hfr j hj (okc_fre hok hf.1) hf.2.1 hf.2.2
    exact ⟨fpt_fre hf.1 h1, h2, h3⟩
theorem stp_fix {id : Nat} {x : AOper} {σ : AState} {F : Prop} {K : AState -> Prop -> Prop} (hok : x.op.okc = true) (hc : x.op.cls <= 2) (h : stp P n0 id x σ F K) :
  ∃ v f g, K ⟨fpt σ.fr x.dst v, lay id g σ.hp⟩ (F /\ f) /\ (g.isSome = true -> x.op.takes = true) /\
   (∀ (σ2 : AState) (F2 : Prop) (K2 : AState -> Prop -> Prop), Agree σ.fr σ2.fr x.reads -> (σ2.hp = σ.hp \/ x.op.cls = 0 \/ (∃ j, j ≠ id /\ (∀ a ∈ x.op.axs, Fre j (a.ev σ.fr)) /\ Clos j σ.hp /\ Sim j σ.hp σ2.hp) \/ (x.op.rd = true /\ (SimO σ.hp σ2.hp \/ Apart x.op σ.fr σ.hp σ2.hp))) ->
    K2 ⟨fpt σ2.fr x.dst v, lay id g σ2.hp⟩ (F2 /\ f) -> stp P n0 id x σ2 F2 K2) := by
 unfold stp at h
 cases ha : actO x σ.fr with
 | none => rw [ha] at h; exact h.elim
 | some b =>
  rw [ha] at h
  cases b with
  | false =>
   simp only [stpG, put_none] at h
   refine ⟨.tup [], True, none, by rw [and_true]; exact h, by simp, fun σ2 F2 K2 hag _ hk => ?_⟩
   unfold stp
   rw [actO_agree hag, ha]
   simp only [stpG, put_none]
   rw [and_true] at hk
   exact hk
  | true =>
   simp only [stpG] at h
   obtain ⟨v, f, g, hk, hg, hfr, hall⟩ := aop_fix hok hc h
   rw [put_none] at hk
   refine ⟨v, f, g, hk, fun h => (hg h).1, fun σ2 F2 K2 hag hl hk2 => ?_⟩
   unfold stp
   rw [actO_agree hag, ha]
   simp only [stpG]
   rw [aop_agree (reads_slots hag)]
   exact hall _ _ hl (by rw [put_none]; exact hk2)
theorem and_right_comm' {F f g : Prop} : ((F /\ f) /\ g) = ((F /\ g) /\ f) := by
 apply propext; constructor <;> rintro ⟨⟨a, b⟩, c⟩ <;> exact ⟨⟨a, c⟩, b⟩
theorem lay_comm {i j : Nat} (h : i ≠ j) {g g' : Option ABlock} {H : List ABlock} : lay j g' (lay i g H) = lay i g (lay j g' H) := by
 cases g <;> cases g' <;> simp only [lay]
 exact List.set_comm _ _ (fun e => h e)
theorem takes_cls {op : AOp} (h : op.takes = true) : op.cls = 2 \/ op.cls = 4 := by
 cases op <;> simp only [AOp.takes] at h <;> first | (cases h; done) | simp [AOp.cls]
theorem untied {x y : AOper} (h : x.tied y = false) : x.op.cls ≠ 4 /\ y.op.cls ≠ 4 /\ (x.op.cls = 3 -> y.op.cls = 0 \/ (x.op.wr = true /\ y.op.rd = true) \/ x.op.part y.op = true \/ (x.op.az = true /\ y.op.al = true)) /\ (y.op.cls = 3 -> x.op.cls = 0 \/ (y.op.wr = true /\ x.op.rd = true) \/ y.op.part x.op = true) /\ (∀ d, x.dst = some d -> d ∉ y.reads /\ y.dst ≠ some d) /\ (∀ d, y.dst = some d -> d ∉ x.reads) := by
 simp only [AOper.tied, Bool.or_eq_false_iff, beq_eq_false_iff_ne, Bool.and_eq_false_iff, decide_eq_false_iff_not, Bool.not_eq_false', Bool.and_eq_true, Bool.or_eq_true] at h
 obtain ⟨⟨⟨⟨⟨h1, h2⟩, h3⟩, h4⟩, h5⟩, h6⟩ := h
 refine ⟨h1, h2, fun e => ?_, fun e => ?_, fun d hd => ?_, fun d hd => ?_⟩
 ·rcases h3 with (h3 | h3) | h3
  ·exact absurd e h3
  ·exact .inl (by omega)
  ·exact .inr h3
 ·rcases h4 with (h4 | h4) | h4
  ·exact .inl (by omega)
  ·exact absurd e h4
  ·exact .inr h4
 ·simp only [hd, Bool.or_eq_false_iff, beq_eq_false_iff_ne] at h5
  exact ⟨fun hm => absurd (List.contains_iff_mem.2 hm) (by rw [h5.1]; simp), h5.2⟩
 ·simp only [hd] at h6
  exact fun hm => by have := List.contains_iff_mem.2 hm; rw [h6] at this; cases this
theorem loc_fre {P : Program} {id : Nat} {fr : List LV} {H : List ABlock} {n r : Nat} {y : AX} {k : AK} (h : aop P n0 id fr H (.store n (.t r) y) k) :
  ∃ H', k (.tup []) H' none True /\ (∀ k2 : AK, k2 (.tup []) H' none True -> aop P n0 id fr H (.store n (.t r) y) k2) /\ ∃ b off, fget fr r = .loc b off /\ ∀ c, c ≠ b -> H'[c]? = H[c]? := by
 simp only [aop, AX.ev] at h
 unfold stK at h
 split at h
 next b off e =>
  unfold stB at h
  split at h
  next cs hB =>
   obtain ⟨xs, hxs, h1, h2, h⟩ := exO_inv h
   refine ⟨_, h, fun k2 hk => ?_, b, off, e, fun c hc => by rw [List.getElem?_set_ne (Ne.symm hc)]⟩
   simp only [aop, AX.ev, e, stK, hB, stB, hxs, exO]; exact ⟨h1, h2, hk⟩
  next cs hB =>
   obtain ⟨sv, hsv, h1, h2, h⟩ := exO_inv h
   refine ⟨_, h, fun k2 hk => ?_, b, off, e, fun c hc => by rw [List.getElem?_set_ne (Ne.symm hc)]⟩
   simp only [aop, AX.ev, e, stK, hB, stB, hsv, exO]; exact ⟨h1, h2, hk⟩
  next => cases h
 next => cases h
theorem stp_stx {id r : Nat} {x : AOper} {σ : AState} {F : Prop} {K : AState -> Prop -> Prop} (hx : x.op.stx = some r) (h : stp P n0 id x σ F K) :
  ∃ v f H', K ⟨fpt σ.fr x.dst v, H'⟩ (F /\ f) /\
   (∀ (σ2 : AState) (F2 : Prop) (K2 : AState -> Prop -> Prop), Agree σ.fr σ2.fr x.reads -> σ2.hp = σ.hp -> K2 ⟨fpt σ2.fr x.dst v, H'⟩ (F2 /\ f) -> stp P n0 id x σ2 F2 K2) /\
   (H' = σ.hp \/ ∃ b off, fget σ.fr r = .loc b off /\ ∀ c, c ≠ b -> H'[c]? = σ.hp[c]?) := by
 unfold stp at h
 cases ha : actO x σ.fr with
 | none => rw [ha] at h; exact h.elim
 | some b =>
  rw [ha] at h
  cases b with
  | false =>
   simp only [stpG, put_none] at h
   refine ⟨.tup [], True, σ.hp, by rw [and_true]; exact h, fun σ2 F2 K2 hag hh hk => ?_, .inl rfl⟩
   unfold stp
   rw [actO_agree hag, ha]
   simp only [stpG, put_none]
   rw [and_true] at hk
   rw [hh]; exact hk
  | true =>
   simp only [stpG] at h
   obtain ⟨n, y, e⟩ : ∃ n y, x.op = .store n (.t r) y := by
    cases hop : x.op <;> rw [hop] at hx <;> simp only [AOp.stx] at hx <;> try (cases hx; done)
    rename_i n a y
    cases a <;> simp only [Option.some.injEq] at hx <;> try (cases hx; done)
    subst hx; exact ⟨n, y, rfl⟩
   have hs := fun (fr2 : List LV) (k2 : AK) (hag : Agree σ.fr fr2 x.reads) => aop_agree (P := P) (n0 := n0) (id := id) (H := σ.hp) (k := k2) (reads_slots hag)
   rw [e] at h hs
   obtain ⟨H', hk, hall, hd⟩ := loc_fre h
   rw [put_none] at hk
   refine ⟨.tup [], True, H', hk, fun σ2 F2 K2 hag hh hk2 => ?_, .inr hd⟩
   unfold stp
   rw [actO_agree hag, ha]
   simp only [stpG]
   rw [hh, e, hs _ _ hag]
   exact hall _ (by rw [put_none]; exact hk2)
theorem az_aop {id : Nat} {fr : List LV} {H : List ABlock} {sz bytes : Nat} {y x : AX} {k : AK} (h : aop P n0 id fr H (.appendZ sz bytes y x) k) :
  ∃ v f H', k v H' none f /\ (∀ k2 : AK, k2 v H' none f -> aop P n0 id fr H (.appendZ sz bytes y x) k2) /\
   ∀ (j : Nat) (B : ABlock) (k2 : AK), Fre j (y.ev fr) -> Fre j (x.ev fr) -> k2 v (H'.set j B) none f -> aop P n0 id fr (H.set j B) (.appendZ sz bytes y x) k2 := by
 simp only [aop] at h
 generalize hu : x.ev fr = u at h
 generalize hv : y.ev fr = v at h
 have hsim : ∀ (j : Nat) (B : ABlock), Fre j u -> elemsOf (H.set j B) u = elemsOf H u := fun j B hf => elems_sim (j := j) ⟨by simp, fun b hb => by rw [List.getElem?_set_ne (Ne.symm hb)]⟩ hf
 unfold appendZK at h
 split at h
 next b off len sz' clip =>
  obtain ⟨h0, h⟩ := h
  obtain ⟨ys, hys, hyl, h⟩ := exO_inv h
  unfold appendZB at h
  split at h
  next cs hB =>
   obtain ⟨h1, h2, h3, h4, h5, xs, h6, h7, h8⟩ := h
   refine ⟨_, True, _, h8, fun k2 hk => ?_, fun j B k2 hf1 hf2 hk => ?_⟩
   ·simp only [aop, hu, hv, appendZK, hys, exO, hB, appendZB]; exact ⟨h0, hyl, h1, h2, h3, h4, h5, xs, h6, h7, hk⟩
   ·have hbj : b ≠ j := hf1.sl
    have hB2 : (H.set j B)[b]? = some (.row cs) := by rw [List.getElem?_set_ne (Ne.symm hbj)]; exact hB
    simp only [aop, hu, hv, appendZK, hsim j B hf2, hys, exO, hB2, appendZB]
    refine ⟨h0, hyl, h1, h2, h3, h4, h5, xs, h6, h7, ?_⟩
    rw [List.set_comm _ _ (Ne.symm hbj)]
    exact hk
  next => cases h
 next xs =>
  obtain ⟨ys, hys, h1, h2, h3⟩ := exO_inv h
  refine ⟨_, True, H, h3, fun k2 hk => ?_, fun j B k2 _ hf2 hk => ?_⟩
  ·simp only [aop, hu, hv, appendZK, hys, exO]; exact ⟨h1, h2, hk⟩
  ·simp only [aop, hu, hv, appendZK, hsim j B hf2, hys, exO]; exact ⟨h1, h2, hk⟩
 next => cases h
theorem stp_az {id : Nat} {x : AOper} {σ : AState} {F : Prop} {K : AState -> Prop -> Prop} (hx : x.op.az = true) (h : stp P n0 id x σ F K) :
  ∃ v f H', K ⟨fpt σ.fr x.dst v, H'⟩ (F /\ f) /\
   (∀ (σ2 : AState) (F2 : Prop) (K2 : AState -> Prop -> Prop), Agree σ.fr σ2.fr x.reads -> σ2.hp = σ.hp -> K2 ⟨fpt σ2.fr x.dst v, H'⟩ (F2 /\ f) -> stp P n0 id x σ2 F2 K2) /\
   ∀ (j : Nat) (B : ABlock) (σ2 : AState) (F2 : Prop) (K2 : AState -> Prop -> Prop), (∀ a ∈ x.op.axs, Fre j (a.ev σ.fr)) -> Agree σ.fr σ2.fr x.reads -> σ2.hp = σ.hp.set j B -> K2 ⟨fpt σ2.fr x.dst v, H'.set j B⟩ (F2 /\ f) -> stp P n0 id x σ2 F2 K2 := by
 unfold stp at h
 cases ha : actO x σ.fr with
 | none => rw [ha] at h; exact h.elim
 | some b =>
  rw [ha] at h
  cases b with
  | false =>
   simp only [stpG, put_none] at h
   refine ⟨.tup [], True, σ.hp, by rw [and_true]; exact h, fun σ2 F2 K2 hag hh hk => ?_, fun j B σ2 F2 K2 _ hag hh hk => ?_⟩ <;>
   ·unfold stp
    rw [actO_agree hag, ha]
    simp only [stpG, put_none]
    rw [and_true] at hk
    rw [hh]; exact hk
  | true =>
   simp only [stpG] at h
   obtain ⟨sz, bytes, y, z, e⟩ : ∃ sz bytes y z, x.op = .appendZ sz bytes y z := by
    cases hop : x.op <;> rw [hop] at hx <;> simp only [AOp.az] at hx <;> try (cases hx; done)
    exact ⟨_, _, _, _, rfl⟩
   have hs := fun (H : List ABlock) (fr2 : List LV) (k2 : AK) (hag : Agree σ.fr fr2 x.reads) => aop_agree (P := P) (n0 := n0) (id := id) (H := H) (k := k2) (reads_slots hag)
   rw [e] at h hs
   obtain ⟨v, f, H', hk, hall, hset⟩ := az_aop h
   rw [put_none] at hk
   refine ⟨v, f, H', hk, fun σ2 F2 K2 hag hh hk2 => ?_, fun j B σ2 F2 K2 hf hag hh hk2 => ?_⟩
   ·unfold stp
    rw [actO_agree hag, ha]
    simp only [stpG]
    rw [hh, e, hs _ _ _ hag]
    exact hall _ (by rw [put_none]; exact hk2)
   ·unfold stp
    rw [actO_agree hag, ha]
    simp only [stpG]
    rw [e] at hf
    rw [hh, e, hs _ _ _ hag]
    exact hset j B _ (hf y (by simp [AOp.axs])) (hf z (by simp [AOp.axs])) (by rw [put_none]; exact hk2)
theorem stp_al {id : Nat} {x : AOper} {σ : AState} {F : Prop} {K : AState -> Prop -> Prop} (hx : x.op.al = true) (h : stp P n0 id x σ F K) :
  ∃ v g, K ⟨fpt σ.fr x.dst v, lay id g σ.hp⟩ (F /\ True) /\
   (∀ (σ2 : AState) (F2 : Prop) (K2 : AState -> Prop -> Prop), Agree σ.fr σ2.fr x.reads -> σ2.hp[id]? = some .gone -> K2 ⟨fpt σ2.fr x.dst v, lay id g σ2.hp⟩ (F2 /\ True) -> stp P n0 id x σ2 F2 K2) := by
 unfold stp at h
 cases ha : actO x σ.fr with
 | none => rw [ha] at h; exact h.elim
 | some b =>
  rw [ha] at h
  cases b with
  | false =>
   simp only [stpG, put_none] at h
   refine ⟨.tup [], none, by rw [and_true]; exact h, fun σ2 F2 K2 hag hh hk => ?_⟩
   unfold stp
   rw [actO_agree hag, ha]
   simp only [stpG, put_none]
   rw [and_true] at hk
   exact hk
  | true =>
   simp only [stpG] at h
   obtain ⟨cells, e⟩ : ∃ cells, x.op = .alloc cells := by
    cases hop : x.op <;> rw [hop] at hx <;> simp only [AOp.al] at hx <;> try (cases hx; done)
    exact ⟨_, rfl⟩
   rw [e] at h
   simp only [aop] at h
   obtain ⟨h1, h2⟩ := h
   rw [put_none] at h2
   refine ⟨.loc id 0, some (.obj cells), h2, fun σ2 F2 K2 hag hh hk2 => ?_⟩
   unfold stp
   rw [actO_agree hag, ha]
   simp only [stpG]
   rw [e]
   simp only [aop]
   exact ⟨hh, by rw [put_none]; exact hk2⟩
theorem stp_swap {i j : Nat} {x y : AOper} {σ : AState} {F : Prop} {K : AState -> Prop -> Prop} (hx : x.op.okc = true) (hy : y.op.okc = true) (ht : x.tied y = false) (hcx : x.op.cls <= 4) (hcy : y.op.cls <= 4)
  (hij : x.op.takes = true \/ y.op.takes = true -> i ≠ j) (hfi : x.op.takes = true -> FreshAt i σ) (hfj : y.op.takes = true -> FreshAt j σ)
  (h : stp P n0 i x σ F fun τ F' => stp P n0 j y τ F' K) : stp P n0 j y σ F fun τ F' => stp P n0 i x τ F' K := by
 obtain ⟨hx4, hy4, h3x, h3y, hdx, hdy⟩ := untied ht
 have hAy : ∀ v, Agree (fpt σ.fr x.dst v) σ.fr y.reads := fun v => (fpt_agree fun d hd => (hdx d hd).1).symm
 have hAx : ∀ u, Agree σ.fr (fpt σ.fr y.dst u) x.reads := fun u => fpt_agree hdy
 have hcomm : ∀ v u, fpt (fpt σ.fr x.dst v) y.dst u = fpt (fpt σ.fr y.dst u) x.dst v := fun v u => fpt_comm fun d hd => (hdx d hd).2
 have rd_cls : ∀ {op : AOp}, op.rd = true -> op.cls = 1 := fun {op} h => by cases op <;> simp [AOp.rd] at h <;> rfl
 have rd_none : ∀ {op : AOp} {g : Option ABlock}, op.rd = true -> (g.isSome = true -> op.takes = true) -> g = none := fun {op g} hr hg => by
  cases g with
  | none => rfl
  | some B => have := takes_cls (hg rfl); have := rd_cls hr; omega
 by_cases hxy : x.op.wr = true /\ y.op.rd = true
 ·have h3 := wr_cls hxy.1
  have h1 := rd_cls hxy.2
  obtain ⟨v, f, H', hk, hall, _, hsim⟩ := stp_ste hx (by omega) h
  obtain ⟨u, f', g, hk', hg, hall'⟩ := stp_fix hy (by omega) hk
  have hgn := rd_none hxy.2 hg
  subst hgn
  refine hall' σ F _ (hAy v) (.inr (.inr (.inr ⟨hxy.2, .inl (hsim hxy.1).symm⟩))) (hall _ _ _ (hAx u) rfl ?_)
  simp only [lay] at hk' ⊢
  rw [<- hcomm, and_right_comm']
  exact hk'
 by_cases hyx : y.op.wr = true /\ x.op.rd = true
 ·have h3 := wr_cls hyx.1
  have h1 := rd_cls hyx.2
  obtain ⟨v, f, g, hk, hg, hall⟩ := stp_fix hx (by omega) h
  have hgn := rd_none hyx.2 hg
  subst hgn
  obtain ⟨u, f', H', hk', hall', _, hsim⟩ := stp_ste hy (by omega) hk
  refine hall' σ F _ (hAy v) rfl (hall _ _ _ (hAx u) (.inr (.inr (.inr ⟨hyx.2, .inl (hsim hyx.1)⟩))) ?_)
  simp only [lay]
  rw [<- hcomm, and_right_comm']
  exact hk'
 have rx_rd : ∀ {op : AOp} {r : Nat}, op.rx = some r -> op.rd = true /\ r ∈ op.slots := fun {op r} h => by
  cases op <;> simp only [AOp.rx] at h <;> try (cases h; done)
  simp only [Option.some.injEq] at h
  subst h
  exact ⟨rfl, by simp [AOp.slots]⟩
 have part_get : ∀ {a b : AOp}, a.part b = true -> ∃ r, a.stx = some r /\ b.rx = some r := fun {a b} h => by
  unfold AOp.part at h
  rw [Bool.and_eq_true] at h
  obtain ⟨r, hr⟩ := Option.isSome_iff_exists.1 h.1
  exact ⟨r, hr, by rw [<- eq_of_beq h.2, hr]⟩
 have mem_reads : ∀ {z : AOper} {r : Nat}, r ∈ z.op.slots -> r ∈ z.reads := fun {z r} h => by
  unfold AOper.reads
  exact List.mem_append_right _ h
 by_cases hpx : x.op.part y.op = true
 ·obtain ⟨r, h5, h6⟩ := part_get hpx
  obtain ⟨hrd, hrs⟩ := rx_rd h6
  have h1 := rd_cls hrd
  obtain ⟨v, f, H', hk, hall, hd⟩ := stp_stx h5 h
  obtain ⟨u, f', g, hk', hg, hall'⟩ := stp_fix hy (by omega) hk
  have hgn := rd_none hrd hg
  subst hgn
  refine hall' σ F _ (hAy v) ?_ (hall _ _ _ (hAx u) rfl ?_)
  ·rcases hd with rfl | ⟨b, off, e, hd⟩
   ·exact .inl rfl
   ·refine .inr (.inr (.inr ⟨hrd, .inr ⟨r, b, off, h6, ?_, fun c hc => (hd c hc).symm⟩⟩))
    rw [<- e]
    exact (hAy v r (mem_reads hrs)).symm
  ·simp only [lay] at hk' ⊢
   rw [<- hcomm, and_right_comm']
   exact hk'
 by_cases hpy : y.op.part x.op = true
 ·obtain ⟨r, h5, h6⟩ := part_get hpy
  obtain ⟨hrd, hrs⟩ := rx_rd h6
  have h1 := rd_cls hrd
  obtain ⟨v, f, g, hk, hg, hall⟩ := stp_fix hx (by omega) h
  have hgn := rd_none hrd hg
  subst hgn
  obtain ⟨u, f', H', hk', hall', hd⟩ := stp_stx h5 hk
  refine hall' σ F _ (hAy v) rfl (hall _ _ _ (hAx u) ?_ ?_)
  ·simp only [lay] at hd
   rcases hd with rfl | ⟨b, off, e, hd⟩
   ·exact .inl rfl
   ·refine .inr (.inr (.inr ⟨hrd, .inr ⟨r, b, off, h6, ?_, hd⟩⟩))
    rw [<- e]
    cases hxd : x.dst with
    | none => rfl
    | some d =>
     refine (fget_fset_ne _ _ fun e2 => ?_).symm
     subst e2
     refine (hdx _ hxd).1 ?_
     cases hop : y.op <;> rw [hop] at h5 <;> simp only [AOp.stx] at h5 <;> try (cases h5; done)
     rename_i n a z
     cases a <;> simp only [Option.some.injEq] at h5 <;> try (cases h5; done)
     subst h5
     exact mem_reads (by rw [hop]; simp [AOp.slots, AX.slots])
  ·simp only [lay]
   rw [<- hcomm, and_right_comm']
   exact hk'
 by_cases haz : x.op.az = true /\ y.op.al = true
 ·obtain ⟨v, f, H', hk, hall, hset⟩ := stp_az haz.1 h
  obtain ⟨u, g, hk', hall'⟩ := stp_al haz.2 hk
  have hyt : y.op.takes = true := by
   cases hop : y.op <;> rw [hop] at haz <;> simp only [AOp.al] at haz <;> first | rfl | (cases haz.2; done)
  obtain ⟨hf1, hf2, hf3⟩ := hfj hyt
  refine hall' σ F _ (hAy v) hf3 ?_
  have hc2 := hcomm v u
  cases g with
  | none =>
   refine hall _ _ _ (hAx u) rfl ?_
   simp only [lay] at hk' ⊢
   rw [<- hc2, and_right_comm']
   exact hk'
  | some B =>
   refine hset j B _ _ _ (okc_fre hx hf1) (hAx u) rfl ?_
   simp only [lay] at hk' ⊢
   rw [<- hc2, and_right_comm']
   exact hk'
 have h3x : x.op.cls = 3 -> y.op.cls = 0 := fun e => (h3x e).resolve_right fun h => h.elim hxy fun h => h.elim hpx haz
 have h3y : y.op.cls = 3 -> x.op.cls = 0 := fun e => (h3y e).resolve_right fun h => h.elim hyx hpy
 by_cases hx0 : x.op.cls = 0
 ·obtain ⟨v, f, g, hk, hg, hall⟩ := stp_fix hx (by omega) h
  have hgn : g = none := by
   cases g with
   | none => rfl
   | some B => have := takes_cls (hg rfl); omega
  subst hgn
  obtain ⟨u, f', H', hk', hall', _, _⟩ := stp_ste hy (by omega) hk
  refine hall' σ F _ (hAy v) rfl (hall _ _ _ (hAx u) (.inr (.inl hx0)) ?_)
  simp only [lay]
  rw [<- hcomm, and_right_comm']
  exact hk'
 ·by_cases hy0 : y.op.cls = 0
  ·obtain ⟨v, f, H', hk, hall, _, _⟩ := stp_ste hx (by omega) h
   obtain ⟨u, f', g, hk', hg, hall'⟩ := stp_fix hy (by omega) hk
   have hgn : g = none := by
    cases g with
    | none => rfl
    | some B => have := takes_cls (hg rfl); omega
   subst hgn
   refine hall' σ F _ (hAy v) (.inr (.inl hy0)) (hall _ _ _ (hAx u) rfl ?_)
   simp only [lay] at hk' ⊢
   rw [<- hcomm, and_right_comm']
   exact hk'
  ·have hx2 : x.op.cls <= 2 := by
    have : x.op.cls ≠ 3 := fun e => hy0 (h3x e)
    omega
   have hy2 : y.op.cls <= 2 := by
    have : y.op.cls ≠ 3 := fun e => hx0 (h3y e)
    omega
   obtain ⟨v, f, g, hk, hg, hall⟩ := stp_fix hx hx2 h
   obtain ⟨u, f', g', hk', hg', hall'⟩ := stp_fix hy hy2 hk
   refine hall' σ F _ (hAy v) ?_ (hall _ _ _ (hAx u) ?_ ?_)
   ·cases g with
    | none => exact .inl rfl
    | some B =>
     have hxt := hg rfl
     have hne := hij (.inl hxt)
     obtain ⟨hf1, hf2, hf3⟩ := hfi hxt
     refine .inr (.inr (.inl ⟨i, hne, fun a ha => ?_, ?_, ?_, fun b hb => ?_⟩))
     ·have := axs_slots (reads_slots (hAy v)) a ha
      rw [<- this]; exact okc_fre hy hf1 a ha
     ·intro b B' hb hB'
      rw [lay_get hb] at hB'
      exact hf2 b B' hb hB'
     ·show (lay i (some B) σ.hp).length = σ.hp.length
      exact lay_length
     ·show σ.hp[b]? = (lay i (some B) σ.hp)[b]?
      exact (lay_get hb).symm
   ·cases g' with
    | none => exact .inl rfl
    | some B =>
     have hyt := hg' rfl
     have hne := hij (.inr hyt)
     obtain ⟨hf1, hf2, hf3⟩ := hfj hyt
     exact .inr (.inr (.inl ⟨j, fun e => hne e.symm, fun a ha => okc_fre hx hf1 a ha, hf2, (lay_length (id := j) (g := some B) (H := σ.hp)).symm, fun b hb => lay_get (id := j) (g := some B) (H := σ.hp) hb⟩))
   ·have hlc : lay j g' (lay i g σ.hp) = lay i g (lay j g' σ.hp) := by
     by_cases hne : i = j
     ·have h1 : g = none := by
       cases g with
       | none => rfl
       | some B => exact absurd hne (hij (.inl (hg rfl)))
      have h2 : g' = none := by
       cases g' with
       | none => rfl
       | some B => exact absurd hne (hij (.inr (hg' rfl)))
      subst h1 h2; rfl
     ·exact lay_comm hne
    simp only at hk' ⊢
    rw [<- hlc, <- hcomm, and_right_comm']
    exact hk'
theorem runI_front {j : Nat} {y : AOper} (hy : y.op.okc = true) (hcy : y.op.cls <= 4) : ∀ {pre post : List (Nat × AOper)} {σ : AState} {F : Prop} {k : AState -> Prop -> Prop},
  (∀ p ∈ pre, p.2.op.okc = true /\ p.2.op.cls <= 4 /\ p.2.tied y = false /\ (p.2.op.takes = true \/ y.op.takes = true -> p.1 ≠ j) /\ (p.2.op.takes = true -> FreshAt p.1 σ)) ->
  (pre.Pairwise fun p q => q.2.op.takes = true -> q.1 ≠ p.1) -> (y.op.takes = true -> FreshAt j σ) ->
  runI P n0 (pre ++ (j, y) :: post) σ F k -> runI P n0 ((j, y) :: pre ++ post) σ F k
 | [], post, σ, F, k, _, _, _, h => h
 | (i, x) :: pre, post, σ, F, k, hp, hpw, hfj, h => by
  obtain ⟨hx, hcx, htx, hij, hfi⟩ := hp (i, x) (by simp)
  have h4 := (untied htx).1
  simp only [List.cons_append, runI] at h
  obtain ⟨v, f, H', hk, hall, hfr, _⟩ := stp_ste hx (by simp only at hcx h4 ⊢; omega) h
  rw [List.pairwise_cons] at hpw
  have ih := runI_front hy hcy (pre := pre) (post := post) (fun p hpm => by
   obtain ⟨h1, h2, h3, h5, h6⟩ := hp p (by simp [hpm])
   exact ⟨h1, h2, h3, h5, fun ht => hfr p.1 (hpw.1 p hpm ht) (h6 ht)⟩) hpw.2 (fun ht => hfr j (fun e => hij (.inr ht) e.symm) (hfj ht)) hk
  simp only [List.cons_append, runI]
  exact stp_swap hx hy htx hcx hcy hij hfi hfj (hall σ F _ (fun _ _ => rfl) rfl ih)
end
end Go.E

/- A step of a region is borne out by the model; regions in text order. -/
namespace Go.E
open Go
section
variable {P : Program} {n0 : Nat}
def withIds (N : Nat) : Nat -> List AOper -> List (Nat × AOper)
 | _, [] => []
 | id, x :: xs => if x.op.takes then (id, x) :: withIds N (id + 1) xs else (N, x) :: withIds N id xs
theorem stp_id {id id' : Nat} {x : AOper} {σ : AState} {F : Prop} {K : AState -> Prop -> Prop} (h : x.op.takes = false) (hs : stp P n0 id x σ F K) : stp P n0 id' x σ F K := by
 unfold stp at hs ⊢
 cases ha : actO x σ.fr with
 | none => rw [ha] at hs; exact hs.elim
 | some b =>
  rw [ha] at hs
  cases b with
  | false => exact hs
  | true =>
   simp only [stpG] at hs ⊢
   have : ∀ {k : AK}, aop P n0 id σ.fr σ.hp x.op k = aop P n0 id' σ.fr σ.hp x.op k := by
    intro k
    generalize x.op = op at h
    cases op <;> first | rfl | cases h
   rw [<- this]; exact hs
theorem aops_stp {id : Nat} {x : AOper} {xs : List AOper} {σ : AState} {F : Prop} {k : AState -> Prop -> Prop} (h : aops P n0 (x :: xs) id σ F k) :
  stp P n0 id x σ F fun τ F' => aops P n0 xs (if x.op.takes then id + 1 else id) τ F' k := by
 obtain ⟨dst, guard, op⟩ := x
 cases guard with
 | none => simp only [aops] at h; unfold stp; simp only [actO, stpG]; exact h
 | some p =>
  obtain ⟨g, want⟩ := p
  simp only [aops] at h
  unfold stp
  simp only [actO]
  cases hv : fget σ.fr g with
  | s v =>
   rw [hv] at h
   cases v with
   | bool b =>
    have hf : fset σ.fr g (.s (.bool b)) = σ.fr := by rw [<- hv]; exact fset_fget _ _
    cases want <;> cases b <;> simp only [grdK, grdB, bsplit, hf] at h <;> simp only [actG, stpG] <;> exact h
   | _ => exact h.elim
  | tup vs =>
   rw [hv] at h
   cases vs with
   | nil => simp only [grdK] at h; simp only [actG, stpG]; exact h
   | cons => exact h.elim
  | _ => rw [hv] at h; exact h.elim
theorem stp_mono {id : Nat} {x : AOper} {σ : AState} {F : Prop} {K K' : AState -> Prop -> Prop} (h : stp P n0 id x σ F K) (hm : ∀ τ F', K τ F' -> K' τ F')
  (am : ∀ {k k' : AK}, (∀ v H kl f, k v H kl f -> k' v H kl f) -> aop P n0 id σ.fr σ.hp x.op k -> aop P n0 id σ.fr σ.hp x.op k') : stp P n0 id x σ F K' := by
 unfold stp at h ⊢
 cases ha : actO x σ.fr with
 | none => rw [ha] at h; exact h.elim
 | some b =>
  rw [ha] at h
  cases b with
  | false => exact hm _ _ h
  | true => exact am (fun v H kl f hk => hm _ _ hk) h
theorem newRowK_mono {H : List ABlock} {id sz : Nat} {v : LV} {xs ys : List SV} {k k' : AK} (hm : ∀ v H kl f, k v H kl f -> k' v H kl f) (h : newRowK H id sz v xs ys k) : newRowK H id sz v xs ys k' :=
 ⟨fun e => hm _ _ _ _ (h.1 e), fun e => ⟨(h.2 e).1, hm _ _ _ _ (h.2 e).2⟩⟩
theorem appendNK_mono {H : List ABlock} {id sz bytes : Nat} {u v : LV} {k k' : AK} (hm : ∀ v H kl f, k v H kl f -> k' v H kl f) (h : appendNK H id sz bytes u k v) : appendNK H id sz bytes u k' v := by
 unfold appendNK at h
 split at h
 next xs =>
  obtain ⟨ys, e, h1, h2⟩ := exO_inv h
  simp only [appendNK, e, exO]
  exact ⟨h1, newRowK_mono hm h2⟩
 next b off len sz' =>
  obtain ⟨h0, h⟩ := h
  obtain ⟨ys, e, h⟩ := exO_inv h
  obtain ⟨xs, e2, h1, h2⟩ := exO_inv h
  simp only [appendNK, e, e2, exO]
  exact ⟨h0, h1, newRowK_mono hm h2⟩
 next => cases h
theorem aop_mono {id : Nat} {fr : List LV} {H : List ABlock} {op : AOp} {k k' : AK} (hok : op.okc = true) (hm : ∀ v H kl f, k v H kl f -> k' v H kl f) (h : aop P n0 id fr H op k) : aop P n0 id fr H op k' := by
 by_cases hc : op.cls <= 3
 ·obtain ⟨v, f, H', hk, _, hall, _⟩ := aop_ste hok hc h
  exact hall k' (hm _ _ _ _ hk)
 ·cases op with
  | append sz bytes s x =>
   simp only [aop, appendK] at h ⊢
   generalize unclip n0 (s.ev fr) = v at h ⊢
   unfold appendK0 at h
   split at h
   next b off len sz' =>
    obtain ⟨h0, h1, h⟩ := h
    obtain ⟨ys, e2, h2, h⟩ := exO_inv h
    unfold appendB at h
    split at h
    next cs hB =>
     obtain ⟨h3, h4, h5, h6⟩ := h
     simp only [appendK0, e2, exO, hB, appendB]
     exact ⟨h0, h1, h2, h3, h4, h5, hm _ _ _ _ h6⟩
    next => cases h
   next b off len sz' => exact appendNK_mono hm h
   next xs => exact appendNK_mono hm h
   next => cases h
  | eqNil ne x =>
   simp only [aop] at h ⊢
   cases e : elemsOf H (x.ev fr) with
   | none => rw [e] at h; exact h
   | some xs => rw [e] at h; exact ⟨fun hn => hm _ _ _ _ (h.1 hn), hm _ _ _ _ h.2⟩
  | callI f args =>
   simp only [aop] at h ⊢
   obtain ⟨r, H', h1, h2⟩ := h
   exact ⟨r, H', h1, hm _ _ _ _ h2⟩
  | mget c ts zero m x =>
   simp only [aop] at h ⊢
   unfold mgetK at h
   split at h
   ·rename_i b e
    obtain ⟨kv, e1, h⟩ := exO_inv h
    unfold mgetB at h
    split at h
    ·rename_i ks vs hB
     obtain ⟨h1, h2⟩ := h
     simp only [e, mgetK, e1, exO, hB, mgetB]
     refine ⟨h1, ?_⟩
     have gv : ∀ {v : SV} {ok : Bool}, mgetV H c v ok k -> mgetV H c v ok k' := fun {v ok} hg => by cases c <;> exact hm _ _ _ _ hg
     cases hmf : mFind kv ks with
     | none => rw [hmf] at h2; exact gv h2
     | some i =>
      rw [hmf] at h2
      simp only [mgetI] at h2 ⊢
      obtain ⟨v, e2, h3⟩ := exO_inv h2
      simp only [e2, exO]
      exact gv h3
    ·cases h
   ·rename_i ks vs e
    obtain ⟨kv, e1, h⟩ := exO_inv h
    obtain ⟨h1, h0, h2⟩ := h
    simp only [e, mgetK, e1, exO]
    refine ⟨h1, h0, ?_⟩
    have gv : ∀ {v : SV} {ok : Bool}, mgetV H c v ok k -> mgetV H c v ok k' := fun {v ok} hg => by cases c <;> exact hm _ _ _ _ hg
    cases hmf : mFind kv ks with
    | none => rw [hmf] at h2; exact gv h2
    | some i =>
     rw [hmf] at h2
     simp only [mgetI] at h2 ⊢
     obtain ⟨v, e2, h3⟩ := exO_inv h2
     simp only [e2, exO]
     exact gv h3
   ·cases h
  | mset ts m x v =>
   simp only [aop] at h ⊢
   unfold msetK at h
   split at h
   ·rename_i b e
    obtain ⟨kv, e1, h⟩ := exO_inv h
    obtain ⟨sv, e2, h⟩ := exO_inv h
    unfold msetB at h
    split at h
    ·rename_i ks vs hB
     simp only [e, msetK, e1, e2, exO, hB, msetB]
     exact ⟨h.1, hm _ _ _ _ h.2⟩
    ·cases h
   ·cases h
  | mdel ts m x =>
   simp only [aop] at h ⊢
   unfold mdelK at h
   split at h
   ·rename_i b e
    obtain ⟨kv, e1, h⟩ := exO_inv h
    unfold mdelB at h
    split at h
    ·rename_i ks vs hB
     simp only [e, mdelK, e1, exO, hB, mdelB]
     exact ⟨h.1, hm _ _ _ _ h.2⟩
    ·cases h
   ·cases h
  | mlen m =>
   simp only [aop] at h ⊢
   unfold mlenK at h
   split at h
   ·rename_i b e
    unfold mlenB at h
    split at h
    ·rename_i ks vs hB
     simp only [e, mlenK, hB, mlenB]
     exact hm _ _ _ _ h
    ·cases h
   ·rename_i e
    simp only [e, mlenK]
    exact hm _ _ _ _ h
   ·cases h
  | rangeM m =>
   simp only [aop] at h ⊢
   unfold rangeMK at h
   split at h
   ·rename_i e
    simp only [e, rangeMK]
    exact ⟨h.1, hm _ _ _ _ h.2⟩
   ·cases h
  | nextM it =>
   simp only [aop] at h ⊢
   unfold nextMK at h
   split at h
   ·rename_i b e
    unfold nextMB at h
    split at h
    ·rename_i hB
     simp only [e, nextMK, hB, nextMB]
     exact ⟨fun hn => hm _ _ _ _ (h.1 hn), fun l1 x l2 hx => hm _ _ _ _ (h.2 l1 x l2 hx)⟩
    ·cases h
   ·cases h
  | entryM it =>
   simp only [aop] at h ⊢
   unfold entryMK at h
   split at h
   ·rename_i b e
    unfold entryMB at h
    split at h
    ·rename_i hB
     simp only [e, entryMK, hB, entryMB]
     exact hm _ _ _ _ h
    ·cases h
   ·cases h
  | callR f args =>
   simp only [aop] at h ⊢
   obtain ⟨xs, R, h1, h2, h3⟩ := h
   exact ⟨xs, R, h1, h2, fun rs hr => hm _ _ _ _ (h3 rs hr)⟩
  | _ => simp [AOp.cls] at hc
theorem runI_aops (N : Nat) {k : AState -> Prop -> Prop} : ∀ (as : List AOper) (id : Nat) (σ : AState) (F : Prop), (∀ x ∈ as, x.op.okc = true) -> aops P n0 as id σ F k -> runI P n0 (withIds N id as) σ F k
 | [], _, _, _, _, h => h
 | x :: xs, id, σ, F, hok, h => by
  have h1 := aops_stp h
  have h2 := stp_mono h1 (fun τ F' h => runI_aops N xs _ τ F' (fun y hy => hok y (by simp [hy])) h) (fun hm h => aop_mono (hok x (by simp)) hm h)
  unfold withIds
  cases ht : x.op.takes with
  | true => simp only [if_true, runI]; rw [ht] at h2; exact h2
  | false => simp only [Bool.false_eq_true, if_false, runI]; rw [ht] at h2; exact stp_id ht h2
end
end Go.E

/- A step of a region is borne out by the model. -/
namespace Go.E
open Go
section
variable {P : Program} {A : Nat -> Obj -> Prop} {dfs : List Deferred} {M0 : Mem} {ρ0 : Env} {w0 : World} {M : Mem} {ρ : Env} {w : World} {a : Act} {Q : Exit -> Act -> World -> Prop} {n0 : Nat}
def killF : Option Nat -> List LV -> List LV
 | none, fr => fr
 | some b, fr => fgtL (· == b) fr
structure Stands (A : Nat -> Obj -> Prop) (dfs : List Deferred) (n0 : Nat) (M0 : Mem) (ρ0 : Env) (w0 : World) (M : Mem) (ρ : Env) (σ : AState) (a : Act) (w : World) : Prop where
  inv : MInv A n0 M0 ρ0 w0 M ρ σ.hp w
  fr : FRel M ρ σ.fr a.tmps.toList
  nod : a.defers = dfs
theorem frel_put {dst : Option Nat} {fr : List LV} {v : LV} {x : Value} (hf : FRel M ρ fr a.tmps.toList) (h : LVal M ρ v x) : FRel M ρ (fpt fr dst v) (a.put dst x).tmps.toList := by
 cases dst with
 | none => exact hf
 | some d => simp only [fpt, Act.put, Array.toList_setIfInBounds]; exact hf.fset d h
theorem put_defers {dst : Option Nat} {x : Value} : (a.put dst x).defers = a.defers := by cases dst <;> rfl
theorem put_eq {fr : List LV} {H : List ABlock} {dst : Option Nat} {v : LV} {kl : Option Nat} : AState.put fr H dst v kl = ⟨fpt (killF kl fr) dst v, killH kl H⟩ := by
 cases kl <;> cases dst <;> rfl
theorem frel_kill {M' : Mem} {ρ' : Env} {kl : Option Nat} {fr : List LV} (hf : FRel M ρ fr a.tmps.toList) (h : ∀ u y, LVal M ρ u y -> LVal M' ρ' (killV kl u) y) :
  FRel M' ρ' (killF kl fr) a.tmps.toList := by
 cases kl with
 | none => have := hf.map (fun v => v) (M' := M') (ρ' := ρ') fun v x hv => h v x hv; simpa [killF] using this
 | some b => simp only [killF, fgtL_eq_map]; exact hf.map _ fun v x hv => h v x hv
theorem yielded_of {ops : Array Oper} {j g : Nat} (h : ((ops[j]?).bind (·.dst)) = some g) {v : LV} (hv : LVal M ρ v (a.tmps.toList.getD g undef)) :
  (∀ b, v = .s (.bool b) -> yielded ops a.tmps j = some b) /\ (v = .tup [] -> yielded ops a.tmps j = none) := by
 unfold yielded
 rw [h]
 simp only [Option.bind_some]
 refine ⟨fun b e => ?_, fun e => ?_⟩
 ·subst e
  have hb := lrel_bool rfl hv
  rw [List.getD_eq_getElem?_getD] at hb
  cases hg : a.tmps[g]? with
  | none => rw [Array.getElem?_toList, hg] at hb; cases hb
  | some x => rw [Array.getElem?_toList, hg] at hb; simp only [Option.getD_some] at hb; subst hb; rfl
 ·subst e
  obtain ⟨xs, hx, hxs⟩ := hv.tup
  rw [List.getD_eq_getElem?_getD] at hx
  cases hg : a.tmps[g]? with
  | none => rfl
  | some x => rw [Array.getElem?_toList, hg] at hx; simp only [Option.getD_some] at hx; subst hx; rfl
theorem stp_sound {ops : Array Oper} {id : Nat} {x : AOper} {o : Oper} {σ : AState} {F : Prop} {K : AState -> Prop -> Prop} {Kc : Act -> World -> Prop} (hS : Stands A dfs n0 M0 ρ0 w0 M ρ σ a w)
  (hid : x.op.takes = true \/ x.op.cls = 4 -> ρ0.length <= id) (hok : okOper P ops.toList x o = true) (hF : F) (h : stp P n0 id x σ F K)
  (hK : ∀ τ F' M' ρ' a' w', K τ F' -> F' -> Stands A dfs n0 M0 ρ0 w0 M' ρ' τ a' w' -> (∀ (j : Nat), j ≠ id -> ρ[j]? = some Spot.gone -> ρ'[j]? = some Spot.gone) -> Kc a' w') :
  if Region.wanted o (yielded ops a.tmps) then o.wp P a w Kc Q else Kc (a.put o.dst undef) w := by
 simp only [okOper, Bool.and_eq_true, beq_iff_eq] at hok
 obtain ⟨⟨⟨hdst, hop⟩, hokc⟩, hgd⟩ := hok
 have done : ∀ (hw : Region.wanted o (yielded ops a.tmps) = true), actO x σ.fr = some true -> if Region.wanted o (yielded ops a.tmps) then o.wp P a w Kc Q else Kc (a.put o.dst undef) w := by
  intro hw ha
  rw [if_pos hw]
  unfold stp at h
  rw [ha] at h
  simp only [stpG] at h
  refine op_sound hS.inv hS.fr hid hop h fun v H' kl f y w' hk hf hn => ?_
  obtain ⟨M', ρ', h1, h2, h3, h4⟩ := hn
  refine hK _ _ M' ρ' _ w' hk ⟨hF, hf⟩ ⟨by rw [put_eq]; exact h1, ?_, by rw [put_defers]; exact hS.nod⟩ h2
  rw [put_eq, hdst]
  exact frel_put (frel_kill hS.fr h3) h4
 have skip : ∀ (hw : Region.wanted o (yielded ops a.tmps) = false), actO x σ.fr = some false -> if Region.wanted o (yielded ops a.tmps) then o.wp P a w Kc Q else Kc (a.put o.dst undef) w := by
  intro hw ha
  rw [hw]
  simp only [Bool.false_eq_true, if_false]
  unfold stp at h
  rw [ha] at h
  simp only [stpG] at h
  refine hK _ _ M ρ _ w h hF ⟨by rw [put_eq]; exact hS.inv, ?_, by rw [put_defers]; exact hS.nod⟩ (fun _ _ h => h)
  rw [put_eq, hdst]
  exact frel_put hS.fr (lval_tup (xs := []) rfl)
 cases hxg : x.guard with
 | none =>
  rw [hxg] at hgd
  have hog : o.guard = none := by
   cases hog : o.guard with
   | none => rfl
   | some p => rw [hog] at hgd; cases hgd
  exact done (by simp [Region.wanted, hog]) (by simp [actO, hxg])
 | some p =>
  obtain ⟨g, want⟩ := p
  rw [hxg] at hgd
  cases hog : o.guard with
  | none => rw [hog] at hgd; cases hgd
  | some q =>
   obtain ⟨j, c⟩ := q
   rw [hog] at hgd
   simp only [Bool.and_eq_true, beq_iff_eq] at hgd
   obtain ⟨rfl, hj⟩ := hgd
   have hv := hS.fr.fget g
   have hy := yielded_of (ops := ops) (j := j) (g := g) (by rw [<- hj, Array.getElem?_toList]) hv
   have hact : actO x σ.fr = actG want (fget σ.fr g) := by simp [actO, hxg]
   have hwt : Region.wanted o (yielded ops a.tmps) = (yielded ops a.tmps j == some want) := by simp [Region.wanted, hog]
   cases hgv : fget σ.fr g with
   | s u =>
    cases u with
    | bool b =>
     have hyb := hy.1 b hgv
     by_cases hbw : b = want
     ·subst hbw
      exact done (by rw [hwt, hyb]; simp) (by rw [hact, hgv]; simp [actG])
     ·exact skip (by rw [hwt, hyb]; simpa using hbw) (by rw [hact, hgv]; simp [actG, hbw])
    | _ => unfold stp at h; rw [hact, hgv] at h; exact h.elim
   | tup vs =>
    cases vs with
    | nil => exact skip (by rw [hwt, hy.2 hgv]; rfl) (by rw [hact, hgv]; rfl)
    | cons => unfold stp at h; rw [hact, hgv] at h; exact h.elim
   | _ => unfold stp at h; rw [hact, hgv] at h; exact h.elim
def Fw (r : Option Nat) : Fence := { Fence.wide with round := r }
theorem callsIn_fw {r : Option Nat} {n : Nat} {f : FuncId} {args : Array Value} {R : Ending -> World -> Prop} : CallsIn (Fw r) n P f args w R ↔ Calls P f args w R := callsIn_wide
theorem okOp_nodefer {ao : AOp} {o : Op} (h : okOp P ao o = true) : ∀ c, o ≠ .defer c := by
 intro c e
 subst e
 cases ao <;> cases h
theorem wpIn_of_wp {r : Option Nat} {n : Nat} {o : Oper} {K : Act -> World -> Prop} (hnd : ∀ c, o.op ≠ .defer c) (h : o.wp P a w K (fun _ _ _ => False)) : o.wpIn (Fw r) n P a w K Q := by
 refine ⟨fun _ _ => trivial, ?_⟩
 rw [Oper.semAt_eq _ _ _ hnd]
 unfold Oper.wp at h
 generalize (execOp a.eval o).run P w = res at h
 cases res with
 | ok x w' =>
  cases x <;> simp only [Oper.upon] at h <;> simp only [Oper.uponIn] <;> first | exact h | skip
  case enter f args =>
   refine ⟨fun hh => (by cases hh), callsIn_fw.2 (Calls.mono h fun e w'' he => ?_)⟩
   cases e with
   | returned v => exact he
   | panicked c => exact he.elim
   | outgrown => obtain ⟨_, _, he⟩ := he; exact he.elim
  case row row args =>
   refine ⟨fun hh => (by cases hh), ?_⟩
   intro c cs _
   obtain ⟨v, w'', h1, h2⟩ := h c cs
   exact ⟨v, w'', h1, stepsIn_wide.2 h2⟩
 | halt x w' => cases x <;> simp only [Oper.upon] at h
theorem stp_soundIn {r : Option Nat} {n : Nat} {ops : Array Oper} {id : Nat} {x : AOper} {o : Oper} {σ : AState} {F : Prop} {K : AState -> Prop -> Prop} {Kc : Act -> World -> Prop} (hS : Stands A dfs n0 M0 ρ0 w0 M ρ σ a w)
  (hid : x.op.takes = true \/ x.op.cls = 4 -> ρ0.length <= id) (hok : okOper P ops.toList x o = true) (hF : F) (h : stp P n0 id x σ F K)
  (hK : ∀ τ F' M' ρ' a' w', K τ F' -> F' -> Stands A dfs n0 M0 ρ0 w0 M' ρ' τ a' w' -> (∀ (j : Nat), j ≠ id -> ρ[j]? = some Spot.gone -> ρ'[j]? = some Spot.gone) -> Kc a' w') :
  if Region.wanted o (yielded ops a.tmps) then o.wpIn (Fw r) n P a w Kc Q else (∀ f, o.about P w a.eval = some f -> (Fw r).fn f) /\ Kc (a.put o.dst undef) w := by
 have := stp_sound (Q := fun _ _ _ => False) hS hid hok hF h hK
 have hnd : ∀ c, o.op ≠ .defer c := by
  simp only [okOper, Bool.and_eq_true] at hok
  exact okOp_nodefer hok.1.1.2
 split
 ·rename_i hw; rw [if_pos hw] at this; exact wpIn_of_wp hnd this
 ·rename_i hw; rw [if_neg hw] at this; exact ⟨fun _ _ => trivial, this⟩
end
end Go.E

/- Regions. -/
namespace Go.E
open Go
section
variable {P : Program} {A : Nat -> Obj -> Prop} {dfs : List Deferred} {M0 : Mem} {ρ0 : Env} {w0 : World} {n0 : Nat} {Q : Exit -> Act -> World -> Prop}
theorem text_sound {r : Option Nat} {nf : Nat} {ops : Array Oper} {N : Nat} (hN : ρ0.length <= N) {k : AState -> Prop -> Prop} (hfin : ∀ τ F' M' ρ' a' w', k τ F' -> F' -> Stands A dfs n0 M0 ρ0 w0 M' ρ' τ a' w' -> Q .normal a' w') :
  ∀ (as : List AOper) (os : List Oper) (id : Nat) (σ : AState) (F : Prop) (M : Mem) (ρ : Env) (a : Act) (w : World), okOpers P ops.toList as os = true -> ρ0.length <= id -> Stands A dfs n0 M0 ρ0 w0 M ρ σ a w -> F ->
   runI P n0 (withIds N id as) σ F k -> wpListIn (Fw r) nf P ops Q os a w
 | [], [], id, σ, F, M, ρ, a, w, _, _, hS, hF, h => hfin σ F M ρ a w h hF hS
 | [], _ :: _, _, _, _, _, _, _, _, h, _, _, _, _ => by simp [okOpers] at h
 | _ :: _, [], _, _, _, _, _, _, _, h, _, _, _, _ => by simp [okOpers] at h
 | x :: as, o :: os, id, σ, F, M, ρ, a, w, hok, hid, hS, hF, h => by
  simp only [okOpers, Bool.and_eq_true] at hok
  have key : ∀ (i id' : Nat), ρ0.length <= i -> ρ0.length <= id' -> runI P n0 ((i, x) :: withIds N id' as) σ F k -> wpListIn (Fw r) nf P ops Q (o :: os) a w := by
   intro i id' hi hid' hr
   simp only [runI] at hr
   have := stp_soundIn (r := r) (n := nf) (Q := Q) (Kc := fun a w => wpListIn (Fw r) nf P ops Q os a w) hS (fun _ => hi) hok.1 hF hr (fun τ F' M' ρ' a' w' h1 h2 h3 _ => text_sound hN hfin as os id' τ F' M' ρ' a' w' hok.2 hid' h3 h2 h1)
   unfold wpListIn
   exact this
  unfold withIds at h
  cases ht : x.op.takes with
  | true => rw [ht] at h; exact key id (id + 1) hid (by omega) h
  | false => rw [ht] at h; exact key N id hN hid h
theorem okOpers_okc {ops : List Oper} : ∀ {as : List AOper} {os : List Oper}, okOpers P ops as os = true -> ∀ x ∈ as, x.op.okc = true
 | [], _, _, x, hx => by simp at hx
 | y :: as, [], h, _, _ => by simp [okOpers] at h
 | y :: as, o :: os, h, x, hx => by
  simp only [okOpers, Bool.and_eq_true] at h
  rcases List.mem_cons.1 hx with rfl | hx
  ·have := h.1; simp only [okOper, Bool.and_eq_true] at this; exact this.1.2
  ·exact okOpers_okc h.2 x hx
end
end Go.E

/- Drawn regions: what comes ahead in every order. -/
namespace Go.E
open Go
theorem binds_any {md : Region.Mode} {e : Edge} (h : Region.binds .any e = true) : Region.binds md e = true := by
 unfold Region.binds at h ⊢
 split at h <;> simp_all
def ClosedL (ops : List Oper) (L : Nat -> Prop) : Prop := ∀ (i : Nat) (o : Oper), L i -> ops[i]? = some o -> ∀ e ∈ o.after.toList, Region.binds .any e = true -> L e.on
theorem foldl_bits {L : Nat -> Prop} {acc : List Nat} : ∀ (es : List Edge) (s : Nat), (∀ i, s.testBit i = true -> L i) -> (∀ e ∈ es, Region.binds .any e = true -> L e.on /\ ∀ i, (acc.getD e.on 0).testBit i = true -> L i) ->
  ∀ i, (es.foldl (fun s e => if Region.binds .any e then s ||| 2 ^ e.on ||| acc.getD e.on 0 else s) s).testBit i = true -> L i
 | [], s, hs, _, i, h => hs i h
 | e :: es, s, hs, he, i, h => by
  rw [List.foldl_cons] at h
  refine foldl_bits es _ ?_ (fun e' h' => he e' (by simp [h'])) i h
  intro i hi
  split at hi
  ·rename_i hb
   obtain ⟨h1, h2⟩ := he e (by simp) hb
   rw [Nat.testBit_or, Nat.testBit_or, Bool.or_eq_true, Bool.or_eq_true, Nat.testBit_two_pow] at hi
   rcases hi with (hi | hi) | hi
   ·exact hs i hi
   ·have : e.on = i := by simpa using hi
    rw [<- this]; exact h1
   ·exact h2 i hi
  ·exact hs i hi
theorem befs_spec (all : List Oper) {L : Nat -> Prop} (hL : ClosedL all L) : ∀ (os : List Oper) (acc : List Nat), (∀ j, os[j]? = all[acc.length + j]?) ->
  (∀ j, j < acc.length -> (∀ o, all[j]? = some o -> ∀ e ∈ o.after.toList, Region.binds .any e = true -> L e.on) -> ∀ i, (acc.getD j 0).testBit i = true -> L i) ->
  ∀ j, (∀ o, all[j]? = some o -> ∀ e ∈ o.after.toList, Region.binds .any e = true -> L e.on) -> ∀ i, ((befs os acc).getD j 0).testBit i = true -> L i
 | [], acc, _, hacc, j, hj, i, h => by
  simp only [befs] at h
  by_cases hlt : j < acc.length
  ·exact hacc j hlt hj i h
  ·rw [List.getD_eq_getElem?_getD, List.getElem?_eq_none (by omega)] at h; simp at h
 | o :: os, acc, hos, hacc, j, hj, i, h => by
  simp only [befs] at h
  refine befs_spec all hL os _ (fun j => ?_) (fun j' hj' hp i' hi' => ?_) j hj i h
  ·have := hos (j + 1)
   simp only [List.getElem?_cons_succ] at this
   rw [this]
   simp only [List.length_append, List.length_cons, List.length_nil]
   congr 1; omega
  ·by_cases hlt : j' < acc.length
   ·rw [List.getD_eq_getElem?_getD, List.getElem?_append_left hlt, <- List.getD_eq_getElem?_getD] at hi'
    exact hacc j' hlt hp i' hi'
   ·have hje : j' = acc.length := by simp only [List.length_append, List.length_cons, List.length_nil] at hj'; omega
    subst hje
    rw [List.getD_eq_getElem?_getD, List.getElem?_append_right (Nat.le_refl _), Nat.sub_self] at hi'
    simp only [List.getElem?_cons_zero, Option.getD_some] at hi'
    have ho : all[acc.length]? = some o := by have := hos 0; simpa using this.symm
    refine foldl_bits o.after.toList 0 (fun i hi => by simp at hi) (fun e he hb => ?_) i' hi'
    have hLe := hp o ho e he hb
    refine ⟨hLe, fun i hi => ?_⟩
    by_cases hel : e.on < acc.length
    ·exact hacc e.on hel (fun o' ho' e' he' hb' => hL e.on o' hLe ho' e' he' hb') i hi
    ·rw [List.getD_eq_getElem?_getD, List.getElem?_eq_none (by omega)] at hi; simp at hi
end Go.E

/- Drawn regions: any order does. -/
namespace Go.E
open Go
section
variable {P : Program} {A : Nat -> Obj -> Prop} {dfs : List Deferred} {M0 : Mem} {ρ0 : Env} {w0 : World} {n0 : Nat} {Q : Exit -> Act -> World -> Prop}
theorem gone_fre {M : Mem} {ρ : Env} {j : Nat} (hj : ρ[j]? = some Spot.gone) : ∀ (v : LV) (us : List Value), LRel M ρ v us -> Fre j v := by
 have h : ∀ (v : LV), (∀ us, LRel M ρ v us -> Fre j v) := by
  intro v
  induction v using LV.rec (motive_2 := fun cs => ∀ uss, LRelC M ρ cs uss -> ∀ c ∈ cs, Fre j c) with
  | s v => exact fun _ _ => Fre.s
  | any => exact fun _ _ => Fre.any
  | full xs => exact fun _ _ => Fre.full
  | tup vs => exact fun _ _ => Fre.tup
  | loc b off =>
   intro us h
   simp only [LRel] at h
   obtain ⟨cb, sh, n, h1, _⟩ := h
   exact fre_loc fun e => by subst e; rw [hj] at h1; cases h1
  | sl b off len sz c =>
   intro us h
   simp only [LRel] at h
   obtain ⟨r, ad, cap, h1, h2, _⟩ := h
   exact fre_sl fun e => by subst e; rw [hj] at h1; cases h1; exact h2 rfl
  | yl l => exact fun _ _ => by simp [Fre, fgt]
  | mp b =>
   intro us h
   simp only [LRel] at h
   obtain ⟨cb, sh, n, h1, _⟩ := h
   have : b ≠ j := fun e => by subst e; rw [hj] at h1; cases h1
   simp [Fre, fgt, this]
  | agg cs ih =>
   intro us h
   simp only [LRel] at h
   exact fre_agg.2 (ih _ h)
  | fn f a b iha ihb =>
   intro us h
   simp only [LRel] at h
   obtain ⟨fs, cs, _, h1, h2⟩ := h
   exact fre_fn.2 ⟨iha _ h1, ihb _ h2⟩
  | nil => rename_i hc; simp at hc
  | cons c cs ihc ihcs =>
   rename_i h c' hc'
   simp only [LRelC] at h
   obtain ⟨u, us, _, h1, h2⟩ := h
   rcases List.mem_cons.1 hc' with rfl | hc'
   ·exact ihc _ h1
   ·exact ihcs _ h2 c' hc'
 exact fun v us hr => h v us hr
theorem gone_fresh {M : Mem} {ρ : Env} {σ : AState} {a : Act} {w : World} (hS : Stands A dfs n0 M0 ρ0 w0 M ρ σ a w) {j : Nat} (hj : ρ[j]? = some Spot.gone) : FreshAt j σ := by
 refine ⟨fun t => ?_, fun b B hb hB => ?_, ?_⟩
 ·rcases hS.fr.fget t with h | ⟨vs, xs, h, _⟩ | ⟨us, h, _⟩
  ·rw [h]; exact Fre.any
  ·rw [h]; exact Fre.tup
  ·exact gone_fre hj _ _ h
 ·obtain ⟨r, h1, h2⟩ := hS.inv.rel.spot hB
  cases B with
  | obj cs =>
   cases r <;> simp only [BRel] at h2
   obtain ⟨c, T, _, _, _, _, h3, _⟩ := h2
   refine fgtB_obj ?_
   have := gone_fre hj (.agg cs) c.toList (by simpa only [LRel] using h3)
   exact fre_agg.1 this
  | _ => rfl
 ·have hl := hS.inv.rel.len
  have hlt := (List.getElem?_eq_some_iff.1 hj).1
  have hB : σ.hp[j]? = some σ.hp[j] := List.getElem?_eq_getElem (by omega)
  have := hS.inv.rel.blk j _ _ hB hj
  rw [hB]
  cases hc : σ.hp[j] <;> rw [hc] at this <;> simp only [BRel] at this
end
end Go.E

/- Drawn regions: any order does. -/
namespace Go.E
open Go
section
variable {P : Program} {A : Nat -> Obj -> Prop} {dfs : List Deferred} {M0 : Mem} {ρ0 : Env} {w0 : World} {n0 : Nat} {Q : Exit -> Act -> World -> Prop}
def takesIn (as : List AOper) : Nat := (as.filter (·.op.takes)).length
theorem withIds_snd {N : Nat} : ∀ (as : List AOper) (id : Nat), (withIds N id as).map (·.2) = as
 | [], _ => rfl
 | x :: xs, id => by
  unfold withIds
  split <;> simp [withIds_snd xs]
theorem takesIn_cons (x : AOper) (xs : List AOper) : takesIn (x :: xs) = takesIn xs + if x.op.takes then 1 else 0 := by
 unfold takesIn
 rw [List.filter_cons]
 split <;> simp_all
theorem withIds_fst {N : Nat} : ∀ (as : List AOper) (id : Nat), ∀ p ∈ withIds N id as, (p.2.op.takes = true -> id <= p.1 /\ p.1 < id + takesIn as) /\ (p.2.op.takes = false -> p.1 = N)
 | [], _, p, hp => by simp [withIds] at hp
 | x :: xs, id, p, hp => by
  rw [takesIn_cons]
  unfold withIds at hp
  cases ht : x.op.takes with
  | true =>
   rw [ht] at hp
   simp only [if_true, List.mem_cons] at hp ⊢
   rcases hp with rfl | hp
   ·exact ⟨fun _ => ⟨Nat.le_refl _, by omega⟩, fun h => by rw [ht] at h; cases h⟩
   ·obtain ⟨h1, h2⟩ := withIds_fst xs (id + 1) p hp
    exact ⟨fun h => by have := h1 h; omega, h2⟩
  | false =>
   rw [ht] at hp
   simp only [Bool.false_eq_true, if_false, List.mem_cons] at hp ⊢
   rcases hp with rfl | hp
   ·exact ⟨fun h => absurd h (by rw [ht]; simp), fun _ => rfl⟩
   ·exact withIds_fst xs id p hp
theorem withIds_pw {N : Nat} : ∀ (as : List AOper) (id : Nat), id + takesIn as <= N -> (withIds N id as).Pairwise fun p q => (p.2.op.takes = true \/ q.2.op.takes = true) -> q.1 ≠ p.1
 | [], _, _ => by simp [withIds]
 | x :: xs, id, hN => by
  rw [takesIn_cons] at hN
  unfold withIds
  cases ht : x.op.takes with
  | true =>
   rw [ht] at hN
   simp only [if_true] at hN ⊢
   refine List.pairwise_cons.2 ⟨fun q hq _ => ?_, withIds_pw xs (id + 1) (by omega)⟩
   obtain ⟨h1, h2⟩ := withIds_fst xs (id + 1) q hq
   cases hqt : q.2.op.takes with
   | true => have := h1 hqt; simp only; omega
   | false => have := h2 hqt; simp only; omega
  | false =>
   rw [ht] at hN
   simp only [Bool.false_eq_true, if_false] at hN ⊢
   refine List.pairwise_cons.2 ⟨fun q hq hor => ?_, withIds_pw xs id (by omega)⟩
   obtain ⟨h1, h2⟩ := withIds_fst xs id q hq
   rcases hor with hor | hor
   ·rw [ht] at hor; cases hor
   ·have := h1 hor; simp only; omega
def remOf (n : Nat) (listed : Array Bool) : List Nat := (List.range n).filter fun i => !listed.getD i true
theorem mem_rem {n : Nat} {listed : Array Bool} {i : Nat} : i ∈ remOf n listed ↔ i < n /\ listed.getD i true = false := by
 simp [remOf]
theorem rem_pw (n : Nat) (listed : Array Bool) : (remOf n listed).Pairwise (· < ·) := List.pairwise_lt_range.filter _
theorem rem_split {n : Nat} {listed : Array Bool} {j : Nat} (hj : j ∈ remOf n listed) : ∃ pre post, remOf n listed = pre ++ j :: post /\ (∀ i ∈ pre, i < j) /\ remOf n (listed.setIfInBounds j true) = pre ++ post := by
 obtain ⟨pre, post, e⟩ := List.append_of_mem hj
 have hpw := rem_pw n listed
 rw [e, List.pairwise_append] at hpw
 obtain ⟨h1, h2, h3⟩ := hpw
 refine ⟨pre, post, e, fun i hi => h3 i hi j (by simp), ?_⟩
 rw [List.pairwise_cons] at h2
 have hset : remOf n (listed.setIfInBounds j true) = (remOf n listed).filter fun i => !(i == j) := by
  unfold remOf
  rw [List.filter_filter]
  apply List.filter_congr
  intro i hi
  by_cases hij : j = i
  ·subst hij
   have hlt : j < listed.size \/ listed.size <= j := by omega
   rcases hlt with hlt | hlt
   ·simp [Array.getD_eq_getD_getElem?, hlt]
   ·simp [Array.getD_eq_getD_getElem?, hlt]
  ·have : (i == j) = false := by simpa using fun e => hij e.symm
   rw [this]
   simp [Array.getD_eq_getD_getElem?, Array.getElem?_setIfInBounds, hij]
 rw [hset, e, List.filter_append, List.filter_cons]
 have hp : pre.filter (fun i => !(i == j)) = pre := List.filter_eq_self.2 fun i hi => by have := h3 i hi j (by simp); simp; omega
 have hq : post.filter (fun i => !(i == j)) = post := List.filter_eq_self.2 fun i hi => by have := h2.1 i hi; simp; omega
 rw [hp, hq]
 simp
end
end Go.E
