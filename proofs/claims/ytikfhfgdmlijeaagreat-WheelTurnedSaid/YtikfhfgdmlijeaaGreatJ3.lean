/- Each operation of the value semantics is borne out by the model: append to an own row that is not used any more behind it. -/
import Derived.Test.YtikfhfgdmlijeaaGreatJ2
import Derived.TacticsIn
import Derived.OrdersIn
import Derived.Scope

set_option linter.all false

namespace Go.E
open Go
section
variable {P : Program} {A : Nat -> Obj -> Prop} {dfs : List Deferred} {M0 : Mem} {ρ0 : Env} {w0 : World} {M : Mem} {ρ : Env} {H : List ABlock} {w : World} {o : Oper} {a : Act} {K : Act -> World -> Prop} {Q : Exit -> Act -> World -> Prop} {fr : List LV} {k : AK} {n0 id : Nat}
theorem qiz {sz bytes : Nat} {s x : AX} {o : Op} (h : okOp P (.appendZ sz bytes s x) o = true) : okOp P (.append sz bytes s x) o = true := by
 cases o <;> first | exact Bool.noConfusion (show false = true from h) | skip
 rename_i c
 obtain ⟨callee, xs, ts⟩ := c
 cases callee <;> first | exact Bool.noConfusion (show false = true from h) | skip
 rename_i b
 cases b <;> first | exact Bool.noConfusion (show false = true from h) | skip
 exact h
theorem stay_row (hI : MInv A n0 M0 ρ0 w0 M ρ H w) {xs ys : List SV} {ussx ussy : List (List Value)} {sz gc m : Nat} {z : Value} {e : TypeId} (hx : CRelC M xs ussx) (hy : CRelC M ys ussy) (hlx : ∀ u ∈ ussx, u.length = sz) (hly : ∀ u ∈ ussy, u.length = sz)
  (hgc : xs.length + ys.length <= gc) (hml : gc <= maxLen) :
  ∃ M', MInv A n0 M0 ρ0 w0 M' ρ H (w.drew.alloc (.cells ((ussx.flatten ++ ussy.flatten).toArray ++ Builtin.zeroCells z.cells m) e)) /\ M.le M' /\
   CRel M' (.slice (xs ++ ys)) [.slice (some ⟨w.heap.size, 0, none⟩) (xs.length + ys.length) gc] := by
 have hI' := hI.drew;obtain ⟨h1, h2, h3, h4⟩ := Mem.lay_spec hI'.rel.holds ((ussx.flatten ++ ussy.flatten).toArray ++ Builtin.zeroCells z.cells m) e;refine ⟨_, hI'.grow h1 (qm w.drew _) h2 h3, h1, ?_⟩;simp only [CRel];refine ⟨_, _, _, rfl, by simp, hgc, hml, .inr ⟨w.heap.size, 0, sz, ussx ++ ussy, rfl, CRelC.mono h1 _ _ (hx.append hy), fun u hu => ?_, fun j v hj => ?_⟩⟩
 ·rcases List.mem_append.1 hu with hu | hu
  ·exact hlx u hu
  ·exact hly u hu
 ·refine h4 j v ?_
  have hlt := (List.getElem?_eq_some_iff.1 hj).1;rw [List.flatten_append] at hj hlt;rw [Array.toList_append, List.getElem?_append_left (by simpa using hlt)]
  exact hj
theorem qhs (hI : MInv A n0 M0 ρ0 w0 M ρ H w) (hf : FRel M ρ fr a.tmps.toList) {sz bytes : Nat} {s x : AX} (hok : okOp P (.appendZ sz bytes s x) o.op = true) (h : aop P n0 id fr H (.appendZ sz bytes s x) k)
    (hK : ∀ v H' kl f x w', k v H' kl f -> f -> Nxt A n0 M0 ρ0 w0 M ρ id v H' kl x w' -> K (a.put o.dst x) w') : o.wp P a w K Q := by
  obtain ⟨ts, y, y', t, tx, e, e', ie, z, ho, hs, hx, hb, h0, h1, ht, hi, hsz, hbytes, hz, hzs, hk⟩ := qcH (qiz hok);simp only [aop] at h;have hv := qf hf hs;have hu := qf hf hx;generalize s.ev fr = v at h hv;generalize x.ev fr = u at h hu;unfold appendZK at h
  split at h
  next b off len sz' clip =>
    obtain ⟨rfl, h⟩ := h;obtain ⟨ys, hys, hfy, h⟩ := qd h;unfold appendZB at h
    split at h
    next cs hB =>
      obtain ⟨hend, hfb, hf60, hlen, hne, xs, hrow, hfx, hkk⟩ := h;subst hsz hbytes;have hvx : elemsOf H (.sl b off len ie.size clip) = some xs := by simp only [elemsOf, hB, blkCells, Option.bind_some]; exact hrow
      obtain ⟨adx, capx, ussx, hx0, hx1, hx2, hx3, hx4⟩ := qcF hI hv hvx;obtain ⟨ady, capy, ussy, ey, hy1, hy2, hy3, hy4, hy5, hsy⟩ := qbL (P := P) hI hk hu hys hfy;have hlx := lenL hx3 hfx;have hxl : ussx.length = xs.length := hx3.length;have hflx : ussx.flatten.length = xs.length * ie.size := by rw [qaO hlx, hxl]
      have h2 := hv.one rfl (by simp)
      simp only [LRel] at h2;obtain ⟨r, ad, cap, hρ, hg, ez, hlc, hcm, hpos, _, hcap⟩ := h2;rw [hx0] at ez;simp only [List.cons.injEq, Value.slice.injEq, and_true] at ez;obtain ⟨rfl, hxs, rfl⟩ := ez;obtain ⟨r', hr1, hr2⟩ := hI.rel.spot hB;rw [hρ] at hr1; cases hr1;have hxne : xs ≠ [] := fun e => by rw [e] at hxs; simp at hxs; omega
      obtain ⟨cb0, o0, sz0, ead, _, hcell⟩ := hx4.resolve_left hxne
      rcases hcap with hc0 | ⟨cb, sh, n, rfl, had, hfit⟩
      · omega
      rw [ead] at had;simp only [Option.some.injEq, Addr.mk.injEq, and_true] at had;obtain ⟨rfl, rfl⟩ := had;simp only [BRel] at hr2;obtain ⟨c, T, hc1, hc2, hc3, hc4, hc5⟩ := hr2;have hlp := List.length_pos_iff.2 hne;have hcl : c.toList.length = n := by simp only [Array.length_toList]; omega
      by_cases hroom : len + ys.length <= capx
      · have hmul := Nat.mul_le_mul_right ie.size hroom
        rw [Nat.add_mul] at hmul
        have hone : ∀ u ∈ ussy.flatten, u.oneCell' = true := by
          intro u hu;obtain ⟨us, hus, hu⟩ := List.mem_flatten.1 hu;exact CRelC.oneCells _ _ hy3 us hus u hu
        have hst := run_storeCells_at P cb0 (sh + off + len * ie.size) T ussy.flatten 0 c w hc1 (by simp only [Nat.add_zero]; omega) hone
        have hrun := qax (P := P) (w := w) (ty := o.type) h0 h1 ht hi (base := some ⟨cb0, sh + off, none⟩) (sLen := len) (sCap := capx) hsy hroom (fun ad had => by
          cases had; rw [Addr.add_lit]; exact hst) (fun h => by cases h)
        simp only [Nat.add_zero] at hrun;have hul : ussy.flatten.length = (flatE ys).length := by rw [hy5, qaj hfy]
        generalize hc' : (c.toList.take (sh + off + len * ie.size) ++ ussy.flatten ++ c.toList.drop (sh + off + len * ie.size + ussy.flatten.length)).toArray = c' at hrun;have hL : (cs ++ flatE ys).length = off + len * ie.size + ussy.flatten.length := by rw [List.length_append, hul, hend]
        have hus : (c'.toList.drop sh).take (cs ++ flatE ys).length = (c.toList.drop sh).take cs.length ++ ussy.flatten := by
          rw [hL, <- hend, <- hc'];have l1 : (c.toList.take (sh + off + len * ie.size)).length = sh + off + len * ie.size := by rw [List.length_take]; omega
          have l2 : ((c.toList.drop sh).take (off + len * ie.size)).length = off + len * ie.size := by rw [List.length_take, List.length_drop]; omega
          simp only [List.append_assoc];rw [List.drop_append_of_le_length (by omega), List.drop_take, show sh + off + len * ie.size - sh = off + len * ie.size by omega]
          rw [<- List.append_assoc, List.take_append_of_le_length (by rw [List.length_append, l2]; omega), List.take_of_length_le (by rw [List.length_append, l2]; omega)]
        have hrel : CRelC M (cs ++ flatE ys) (ones ((c'.toList.drop sh).take (cs ++ flatE ys).length)) := by
          rw [hus, qV];exact hc4.append (qaa hy3)
        have hle := qL (sh := sh) (us := (c'.toList.drop sh).take (cs ++ flatE ys).length) hc5
        have hfz := hI.freeze (cs' := cs ++ flatE ys) (T' := T) (c' := c') (w' := w.setRow cb0 c') hB hρ hc1 hc5
          ⟨rfl, rfl, rfl, Nat.le_refl _, by rw [setRow_size]; exact Nat.le_refl _, fun k hk hno => setRow_other w cb0 k c' fun e => hno (qhM.2 e)⟩ (setRow_heap w cb0 c c' T _ hc1) rfl (CRelC.mono hle _ _ hrel)
        have hfz2 := hfz.reblkD (b := b) (fun r hr => by
          rw [hρ] at hr; cases hr;simp only [BRel];exact ⟨[], by simp [CRelC], fun j v hj => by simp at hj⟩)
        rw [List.set_set] at hfz2;refine qc (x := .slice (some ⟨cb0, sh + off, none⟩) (len + ys.length) capx) (w' := w.setRow cb0 c') ?_ (hK _ _ _ _ _ _ hkk trivial ⟨_, ρ, hfz2, fun _ _ h => h, fun _ _ h => h.mono hle (Env.le_refl _), ?_⟩)
        · simp only [ead, hxs] at hx0
          simp [execOp, ho, resolve, invoke, builtin, hx0, hrun]
        · rw [qi]
          refine qj ?_ rfl;simp only [CRel];refine ⟨_, _, _, rfl, by simp [hxs], hroom, hcm, .inr ⟨cb0, sh + off, ie.size, ussx ++ ussy, rfl, CRelC.mono hle _ _ (hx3.append hy3), fun u hu => ?_, fun j v hj => ?_⟩⟩
          · rcases List.mem_append.1 hu with hu | hu
            · exact hlx u hu
            · exact hy4 u hu
          · rw [List.flatten_append] at hj
            simp only [Mem.layAt, if_true];rw [if_pos (by omega), hus, show sh + off + j - sh = off + j by omega]
            have l2 : ((c.toList.drop sh).take cs.length).length = off + len * ie.size := by rw [List.length_take, List.length_drop]; omega
            rw [List.getElem?_append] at hj
            split at hj
            · rename_i hlt
              have h5 := hcell j v hj;rw [heap_cell? hc1] at h5;rw [hflx, hxs] at hlt;rw [List.getElem?_append_left (by omega), List.getElem?_take, if_pos (by omega), List.getElem?_drop]
              rw [show sh + (off + j) = sh + off + j by omega]
              simpa using h5
            · rename_i hlt
              rw [hflx, hxs] at hlt hj;rw [List.getElem?_append_right (by omega), l2, show off + j - (off + len * ie.size) = j - len * ie.size by omega]
              exact hj
      · have hge := grownCap_ge w (len + ys.length) capx e
        have hml := grownCap_le_maxLen w (len + ys.length) capx e (by have : (2:Nat)^60 <= maxLen := by decide
                                                                      omega)
        have hold : (Builtin.firstCells ie.size len (.slice (some ⟨cb0, sh + off, none⟩) len capx)).run P w.drew = .ok ussx.flatten.toArray w.drew := by
          refine run_firstCells_some w.drew ie.size len _ len capx _ (by rw [hflx, hxs]) fun j v hj => ?_
          rw [Addr.add_lit, World.cell?_drew];exact hcell j v hj
        have hrun := qaf (P := P) (w := w) (ty := o.type) h0 h1 ht hi hz (base := some ⟨cb0, sh + off, none⟩) (sLen := len) (sCap := capx) hold hsy (by omega) (by
          have : (2:Nat)^60 <= 9223372036854775807 := by decide
          omega) (growslice_fits (by omega) (by have : (2:Nat)^46 <= 140737488355328 := by decide
                                                omega))
        have hle1 := qL (sh := sh) (us := (c.toList.drop sh).take cs.length) hc5
        have hfz := (hI.freeze (cs' := cs) hB hρ hc1 hc5 (Touch.refl _ w) hc1 rfl (CRelC.mono hle1 _ _ hc4)).reblkD (b := b) (fun r hr => by
          rw [hρ] at hr; cases hr;simp only [BRel];exact ⟨[], by simp [CRelC], fun j v hj => by simp at hj⟩)
        rw [List.set_set] at hfz;obtain ⟨M', g1, g2, g3⟩ := stay_row (z := z) (e := e) (m := grownCap w (len + ys.length) capx e - (len + ys.length)) (gc := grownCap w (len + ys.length) capx e) hfz (CRelC.mono hle1 _ _ hx3) (CRelC.mono hle1 _ _ hy3) hlx hy4 (by rw [hxs]; exact hge) hml
        rw [hxs] at g3;refine qc (x := .slice (some ⟨w.heap.size, 0, none⟩) (len + ys.length) (grownCap w (len + ys.length) capx e)) ?_ (hK _ _ _ _ _ _ hkk trivial ⟨M', ρ, g1, fun _ _ h => h, fun _ _ h => h.mono (Mem.le_trans hle1 g2) (Env.le_refl _), by rw [qi]; exact qj g3 rfl⟩)
        simp only [ead, hxs] at hx0;simp [execOp, ho, resolve, invoke, builtin, hx0, hrun]
    next => cases h
  next xs =>
    obtain ⟨ys, hys, hfit, hne, hkk⟩ := qd h;obtain ⟨hfx, hfy, hfb, hf60, hpos⟩ := hfit;subst hsz hbytes;obtain ⟨adx, capx, ussx, ex, hx1, hx2, hx3, hx4, hx5, hsx⟩ := qbL (P := P) hI ht hv (ys := xs) rfl hfx;obtain ⟨ady, capy, ussy, ey, hy1, hy2, hy3, hy4, hy5, hsy⟩ := qbL (P := P) hI hk hu hys hfy;have h2 := hv.one rfl (by simp)
    simp only [LRel] at h2;obtain ⟨_, n, e', _⟩ := h2;rw [ex] at e';simp only [List.cons.injEq, Value.slice.injEq, and_true] at e';have hcx : capx = xs.length := by omega
    subst hcx;have hlp := List.length_pos_iff.2 hne
    have hrun := qaf (P := P) (w := w) (ty := o.type) h0 h1 ht hi hz (base := adx) (sLen := xs.length) (sCap := xs.length) (olds := ussx.flatten) (by rw [<- ex]; exact hsx.cellsD) hsy (by omega) (by
      have : (2:Nat)^60 <= 9223372036854775807 := by decide
      omega) (growslice_fits (by omega) (by have : (2:Nat)^46 <= 140737488355328 := by decide
                                            omega))
    have hge := grownCap_ge w (xs.length + ys.length) xs.length e
    have hml := grownCap_le_maxLen w (xs.length + ys.length) xs.length e (by have : (2:Nat)^60 <= maxLen := by decide
                                                                             omega)
    obtain ⟨M', g1, g2, g3⟩ := stay_row (z := z) (e := e) (m := grownCap w (xs.length + ys.length) xs.length e - (xs.length + ys.length)) (gc := grownCap w (xs.length + ys.length) xs.length e) hI hx3 hy3 hx4 hy4 hge hml;refine qc (x := .slice (some ⟨w.heap.size, 0, none⟩) (xs.length + ys.length) (grownCap w (xs.length + ys.length) xs.length e)) ?_ (hK _ _ _ _ _ _ hkk trivial ⟨M', ρ, g1, fun _ _ h => h, fun _ _ h => h.mono g2 (Env.le_refl _), by rw [qi]; exact qj g3 rfl⟩)
    simp [execOp, ho, resolve, invoke, builtin, ex, hrun]
  next => cases h
theorem qiA {sz bytes : Nat} {s x : AX} {o : Op} (h : okOp P (.appendY sz bytes s x) o = true) : okOp P (.append sz bytes s x) o = true := by
 cases o <;> first | exact Bool.noConfusion (show false = true from h) | skip
 rename_i c
 obtain ⟨callee, xs, ts⟩ := c
 cases callee <;> first | exact Bool.noConfusion (show false = true from h) | skip
 rename_i b
 cases b <;> first | exact Bool.noConfusion (show false = true from h) | skip
 exact h
theorem qiB {u : LV} {ys : List SV} (h : stabE u = some ys) : elemsOf H u = some ys := by
 unfold stabE at h
 split at h
 ·cases h; rfl
 ·cases h; rfl
 ·cases h
theorem qfj {r : Spot} (h : r ≠ .gone) : BRel M ρ w (.frz []) r := by
 cases r with
 | gone => exact absurd rfl h
 | empty => rfl
 | here cb sh n => exact ⟨[], by simp [CRelC, ones], fun j v hj => by simp at hj⟩
theorem MInv.share (h : MInv A n0 M0 ρ0 w0 M ρ H w) {b id cb sh n sh' : Nat} {cs : List SV} {B' : ABlock} {c c' : Array Value} {T : TypeId} (hid : ρ0.length <= id) (hb0 : n0 <= b) (hg : H[id]? = some .gone) (hB : H[b]? = some (.row cs)) (hr : ρ[b]? = some (.here cb sh n))
  (hc : w.heap[cb]? = some (.cells c T (0, 0))) (hn : ∀ o, M.cell cb o = none) (hB' : BRel M (ρ.set id (.here cb sh' n)) (w.setRow cb c') B' (.here cb sh' n)) :
  MInv A n0 M0 ρ0 w0 M (ρ.set id (.here cb sh' n)) ((H.set b (.frz [])).set id B') (w.setRow cb c') /\ Env.le ρ (ρ.set id (.here cb sh' n)) := by
 have hI1 := h.reblkD (b := b) (fun r h2 => by rw [hr] at h2; cases h2; exact qfj (by simp))
 have hbl := (List.getElem?_eq_some_iff.1 hB).1;have hidl := (List.getElem?_eq_some_iff.1 hg).1;obtain ⟨r, hri, hBr⟩ := h.rel.spot hg;have hr' : r = .gone := by cases r <;> simp only [BRel] at hBr; rfl
 subst hr';have hle : Env.le ρ (ρ.set id (.here cb sh' n)) := Env.le_set hri;refine ⟨{ rel := ?_, mem := h.mem, nle := h.nle, len := by simpa using h.len, env := fun i r hi hne hr2 => ?_, gon := fun i hi hr2 => ?_, touch := ?_, newer := h.newer, fresh := fun i cb2 sh2 n2 hi hr2 => ?_, alien := fun k o ho => ?_ }, hle⟩
 ·refine SRel.turn hI1.rel (by simpa using hidl) (fun k hk _ => setRow_other w cb k c' hk) (h.rel.free hc hn) (by simp [World.setRow]) (by simpa [World.setRow] using h.rel.lt b cb sh n hr) (fun j cb2 sh2 n2 hj hj2 ha => ?_) hB' (fun j B2 hj hBj => ?_)
  ·have hjb : j ≠ b := fun e => by subst e; rw [List.getElem?_set_self hbl] at ha; exact ha rfl
   rw [List.getElem?_set_ne (Ne.symm hjb)] at ha;exact h.rel.inj j b cb2 sh2 n2 cb sh n hjb hj2 hr ha (by rw [hB]; nofun)
  ·obtain ⟨r', q1, q2⟩ := hI1.rel.spot hBj
   rw [q1];exact BRel.mono q2 (Mem.le_refl _) hle (fun _ _ _ _ => ⟨fun _ k => k, fun k => k⟩)
 ·have := h.nle
  rw [List.getElem?_set, if_neg (by omega)]; exact h.env i r hi hne hr2
 ·rw [List.getElem?_set, if_neg (by omega)]; exact h.gon i hi hr2
 ·refine ⟨h.touch.os, h.touch.tape, h.touch.output, h.touch.drawn, by rw [setRow_size]; exact h.touch.size, fun k hk hno => ?_⟩
  rw [setRow_other w cb k c' (fun e => ?_)]
  ·exact h.touch.block k hk hno
  ·subst e
   rcases h.has_old ⟨b, sh, n, hr⟩ with h1 | h1
   ·exact hno h1
   ·omega
 ·rw [List.getElem?_set] at hr2
  split at hr2
  ·split at hr2
   ·cases hr2; exact h.fresh b cb sh n hb0 hr
   ·cases hr2
  ·exact h.fresh i cb2 sh2 n2 hi hr2
 ·obtain ⟨h1, h2, h3⟩ := h.alien k o ho
  have hne : k ≠ cb := fun e => h3 (e ▸ ⟨b, sh, n, hr⟩)
  refine ⟨by rw [setRow_other w cb k c' hne]; exact h1, h2, fun hk => ?_⟩
  rcases qdP hk with hk | ⟨_, _, e⟩
  ·exact h3 hk
  ·cases e; exact hne rfl
theorem qht (hI : MInv A n0 M0 ρ0 w0 M ρ H w) (hf : FRel M ρ fr a.tmps.toList) (hid : ρ0.length <= id) {sz bytes : Nat} {s x : AX} (hok : okOp P (.appendY sz bytes s x) o.op = true) (h : aop P n0 id fr H (.appendY sz bytes s x) k)
    (hK : ∀ v H' kl f x w', k v H' kl f -> f -> Nxt A n0 M0 ρ0 w0 M ρ id v H' kl x w' -> K (a.put o.dst x) w') : o.wp P a w K Q := by
  obtain ⟨ts, y, y', t, tx, e, e', ie, z, ho, hs, hx, hb, h0, h1, ht, hi, hsz, hbytes, hz, hzs, hk⟩ := qcH (qiA hok);simp only [aop] at h;have hv := qf hf hs;have hu := qf hf hx;generalize s.ev fr = v at h hv;generalize x.ev fr = u at h hu;unfold appendYK at h
  split at h
  next b off len sz' =>
    obtain ⟨rfl, hnb, h⟩ := h;obtain ⟨ys, hys0, hfy, h⟩ := qd h;have hys : elemsOf H u = some ys := qiB hys0;unfold appendYB at h
    split at h
    next cs hB =>
      obtain ⟨hend, hfb, hf60, hnil, hgid, hkk⟩ := h;subst hsz hbytes;have h2 := hv.one rfl (by simp)
      simp only [LRel] at h2;obtain ⟨r, ad, cap, hρ, hg, ey, hlc, hcm, hpos, _, hcap⟩ := h2;have eyy : a.eval y = .slice ad len cap := by simpa using ey
      obtain ⟨ady, capy, uss, exx, hy1, hy2, hy3, hy4, hy5, hsy⟩ := qbL (P := P) hI hk hu hys hfy;obtain ⟨r', hr1, hr2⟩ := hI.rel.spot hB;rw [hρ] at hr1; cases hr1;have hbl := (List.getElem?_eq_some_iff.1 hB).1;have hbρ : b < ρ.length := by rw [hI.rel.len]; exact hbl
      have hfl : (flatE ys).length = ys.length * ie.size := qaj hfy;have hbid : b ≠ id := fun e => by subst e; rw [hgid] at hB; cases hB
      have hidl := (List.getElem?_eq_some_iff.1 hgid).1;have hidρ : id < ρ.length := by rw [hI.rel.len]; exact hidl
      have fin : ∀ {ρ' : Env} {w' : World} {ad' : Option Addr} {cap' : Nat}, (Builtin.append_ ts o.type #[.slice ad len cap, a.eval y']).run P w = .ok (.slice ad' (len + ys.length) cap') w' ->
          MInv A n0 M0 ρ0 w0 M ρ' ((H.set b (.frz [])).set id (.row (cs.drop off ++ flatE ys))) w' -> Env.le ρ ρ' -> (∀ (j : Nat), j ≠ id -> ρ[j]? = some Spot.gone -> ρ'[j]? = some Spot.gone) ->
          LRel M ρ' (.sl id 0 (len + ys.length) ie.size false) [.slice ad' (len + ys.length) cap'] -> o.wp P a w K Q := by
        intro ρ' w' ad' cap' hrun hI' hm hgn hl;refine qc ?_ (hK _ _ _ _ _ _ hkk trivial ⟨M, ρ', hI', hgn, fun _ _ h => h.mono M.le_refl hm, qh hl rfl⟩)
        simp [execOp, ho, resolve, invoke, builtin, eyy, hrun]
      have hfree : (∀ o, M.cell w.heap.size o = none) /\ M.map w.heap.size = none := ⟨fun o => by
        cases hm : M.cell w.heap.size o with
        | none => rfl
        | some v => have := hI.rel.cell_lt hm; omega, by
        cases hm : M.map w.heap.size with
        | none => rfl
        | some v => have := hI.rel.map_lt hm; omega⟩
      have hgn1 : ∀ (r : Spot) (j : Nat), j ≠ id -> ρ[j]? = some Spot.gone -> (ρ.set id r)[j]? = some Spot.gone := fun r j hj h => by rw [List.getElem?_set_ne (Ne.symm hj)]; exact h
      have anew : ∀ {N : Nat} {ob : Obj}, BRel M (ρ.set id (.here w.heap.size 0 N)) (w.drew.alloc ob) (.row (cs.drop off ++ flatE ys)) (.here w.heap.size 0 N) ->
          MInv A n0 M0 ρ0 w0 M (ρ.set id (.here w.heap.size 0 N)) ((H.set b (.frz [])).set id (.row (cs.drop off ++ flatE ys))) (w.drew.alloc ob) /\ Env.le ρ (ρ.set id (.here w.heap.size 0 N)) := by
        intro N ob hBn;obtain ⟨hL, hle⟩ := MInv.lay (cb := w.heap.size) (sh := 0) (n := N) hI.drew hid hgid M.le_refl (qm w.drew ob) (Newer.refl _ _ _) (hI.drew.rel.holds.grow (qm w.drew ob)) (Nat.le_refl _) (by simp) hfree hBn
        have hD := hL.reblkD (b := b) (fun r2 h2 => by
          rw [List.getElem?_set_ne (Ne.symm hbid), hρ] at h2
          cases h2
          exact qfj hg)
        rw [List.set_comm _ _ (Ne.symm hbid)] at hD;exact ⟨hD, hle⟩
      -- the block's cells, where it lies somewhere
      cases r with
      | gone => exact absurd rfl hg
      | empty =>
        simp only [BRel] at hr2;subst hr2
        have hc0 : cap = 0 := by
          rcases hcap with h | ⟨cb, sh, n, h, _⟩
          · exact h
          · cases h
        subst hc0;have hl0 : len = 0 := by omega
        subst hl0;have hoff : off = 0 := by simp at hend; omega
        subst hoff;have hlp := List.length_pos_iff.2 hnil;have hge := grownCap_ge w (0 + ys.length) 0 e
        have hml := grownCap_le_maxLen w (0 + ys.length) 0 e (by have : (2:Nat)^60 <= maxLen := by decide
                                                                 omega)
        have hold : (Builtin.firstCells ie.size 0 (.slice ad 0 0)).run P w.drew = .ok ([] : List Value).toArray w.drew := by
          cases ad with
          | none => exact run_firstCells_none w.drew ie.size 0 0 0
          | some ad => exact run_firstCells_some w.drew ie.size 0 ad 0 0 [] (by simp) (by simp)
        have hrun := qaf (P := P) (w := w) (ty := o.type) h0 h1 ht hi hz (base := ad) (sLen := 0) (sCap := 0) (olds := []) hold hsy (by omega) (by
          have : (2:Nat)^60 <= 9223372036854775807 := by decide
          omega) (growslice_fits (by omega) (by have : (2:Nat)^46 <= 140737488355328 := by decide
                                                omega))
        obtain ⟨hr1, hr3⟩ := grown_row (M := M) (xs := []) (ys := ys) (ussx := []) (sz := ie.size) (z := z) (need := 0 + ys.length) (by simp [CRelC]) hy3 (by simp) hy5 (by simp) hge hzs (by simpa using hfl)
        simp only [List.flatten_nil, List.nil_append] at hr1 hr3
        obtain ⟨hI', hle⟩ := anew (N := grownCap w (0 + ys.length) 0 e * ie.size) (ob := .cells ((([] : List Value) ++ uss.flatten).toArray ++ Builtin.zeroCells z.cells (grownCap w (0 + ys.length) 0 e - (0 + ys.length))) e) (by
          simp only [BRel, List.drop_zero, List.nil_append];refine ⟨_, e, qap w.drew _, ?_, ?_, ?_, fun o => hfree.1 o⟩
          · simpa using hr1
          · rw [hfl, Nat.zero_add]; exact Nat.mul_le_mul_right _ (by omega)
          · simpa using hr3)
        refine fin hrun hI' hle (hgn1 _) ?_;simp only [LRel];refine ⟨_, _, _, List.getElem?_set_self hidρ, by simp, rfl, hge, hml, hpos, by simp, .inr ⟨_, _, _, rfl, by simp, ?_⟩⟩
        omega
      | here cb sh n =>
        simp only [BRel] at hr2;obtain ⟨c, T, hc1, hc2, hc3, hc4, hc5⟩ := hr2;have hoffl : off <= cs.length := by omega
        have hcl : c.toList.length = n := by simp only [Array.length_toList]; omega
        have hdrop : (cs.drop off).length = len * ie.size := by rw [List.length_drop]; omega
        have hsub : ((c.toList.drop (sh + off)).take (len * ie.size)) = ((c.toList.drop sh).take cs.length).drop off := by
          rw [List.drop_take, List.drop_drop]; congr 1; omega
        have hsubr : CRelC M (cs.drop off) (ones ((c.toList.drop (sh + off)).take (len * ie.size))) := by
          rw [hsub, qv]; exact hc4.drop off
        have hlp := List.length_pos_iff.2 hnil
        by_cases hroom : len + ys.length <= cap
        · rcases hcap with h | ⟨cb', sh', n', h3, h4, h5⟩
          · omega
          cases h3
          subst h4;have hmul := Nat.mul_le_mul_right ie.size hroom;rw [Nat.add_mul] at hmul
          have hone : ∀ u ∈ uss.flatten, u.oneCell' = true := by
            intro u hu;obtain ⟨us, hus, hu⟩ := List.mem_flatten.1 hu;exact CRelC.oneCells _ _ hy3 us hus u hu
          have hst := run_storeCells_at P cb (sh + off + len * ie.size) T uss.flatten 0 c w hc1 (by simp only [Nat.add_zero]; omega) hone
          have hrun := qax (P := P) (w := w) (ty := o.type) h0 h1 ht hi (base := some ⟨cb, sh + off, none⟩) (sLen := len) (sCap := cap) hsy hroom (fun ad had => by
            cases had; rw [Addr.add_lit]; exact hst) (fun h => by cases h)
          obtain ⟨hI', hle⟩ := MInv.share (sh' := sh + off) (B' := .row (cs.drop off ++ flatE ys)) (c' := (c.toList.take (sh + off + len * ie.size + 0) ++ uss.flatten ++ c.toList.drop (sh + off + len * ie.size + 0 + uss.flatten.length)).toArray) hI hid hnb hgid hB hρ hc1 hc5 (by
            simp only [BRel, Nat.add_zero];have hul : uss.flatten.length = (flatE ys).length := by rw [hy5, hfl]
            have hlen : (cs.drop off ++ flatE ys).length = len * ie.size + uss.flatten.length := by rw [List.length_append, hdrop, hul]
            refine ⟨_, T, setRow_heap w cb c _ T _ hc1, ?_, by rw [hlen]; omega, ?_, hc5⟩
            · simp only [List.size_toArray, List.length_append, List.length_take, List.length_drop]; omega
            · have e1 : ((c.toList.take (sh + off + len * ie.size) ++ uss.flatten ++ c.toList.drop (sh + off + len * ie.size + uss.flatten.length)).drop (sh + off)).take (len * ie.size + uss.flatten.length) =
                  (c.toList.drop (sh + off)).take (len * ie.size) ++ uss.flatten := by
                have l1 : (c.toList.take (sh + off + len * ie.size)).length = sh + off + len * ie.size := by rw [List.length_take]; omega
                have l2 : ((c.toList.drop (sh + off)).take (len * ie.size)).length = len * ie.size := by rw [List.length_take, List.length_drop]; omega
                rw [List.append_assoc, List.drop_append_of_le_length (by omega), List.drop_take, show sh + off + len * ie.size - (sh + off) = len * ie.size by omega]
                rw [<- List.append_assoc, List.take_append_of_le_length (by rw [List.length_append, l2]; omega), List.take_of_length_le (by rw [List.length_append, l2]; omega)]
              simp only [hlen];rw [e1, qV];exact hsubr.append (qaa hy3))
          refine fin (by simpa using hrun) hI' hle (hgn1 _) ?_
          · simp only [LRel]
            exact ⟨_, _, _, List.getElem?_set_self hidρ, by simp, rfl, hroom, hcm, hpos, by simp, .inr ⟨_, _, _, rfl, by simp, by omega⟩⟩
        · have hge := grownCap_ge w (len + ys.length) cap e
          have hml := grownCap_le_maxLen w (len + ys.length) cap e (by have : (2:Nat)^60 <= maxLen := by decide
                                                                       omega)
          have hol : ((c.toList.drop (sh + off)).take (len * ie.size)).length = len * ie.size := by
            rw [List.length_take, List.length_drop];omega
          have hold : (Builtin.firstCells ie.size len (.slice ad len cap)).run P w.drew = .ok ((c.toList.drop (sh + off)).take (len * ie.size)).toArray w.drew := by
            rcases hcap with h | ⟨cb', sh', n', h3, h4, h5⟩
            · have hl0 : len = 0 := by omega
              subst hl0;simp only [Nat.zero_mul, List.take_zero]
              cases ad with
              | none => exact run_firstCells_none w.drew ie.size 0 0 cap
              | some ad => exact run_firstCells_some w.drew ie.size 0 ad 0 cap [] (by simp) (by simp)
            · cases h3
              subst h4;refine run_firstCells_some w.drew ie.size len _ len cap _ hol fun j v hj => ?_
              rw [Addr.add_lit, World.cell?_drew, heap_cell? hc1]
              simpa using qG j v hj
          have hrun := qaf (P := P) (w := w) (ty := o.type) h0 h1 ht hi hz (base := ad) (sLen := len) (sCap := cap) hold hsy (by omega) (by
            have : (2:Nat)^60 <= 9223372036854775807 := by decide
            omega) (growslice_fits (by omega) (by have : (2:Nat)^46 <= 140737488355328 := by decide
                                                  omega))
          have hzc : (Builtin.zeroCells z.cells (grownCap w (len + ys.length) cap e - (len + ys.length))).size = (grownCap w (len + ys.length) cap e - (len + ys.length)) * ie.size := by simp [Builtin.zeroCells, hzs]
          have hsize : (((c.toList.drop (sh + off)).take (len * ie.size) ++ uss.flatten).toArray ++ Builtin.zeroCells z.cells (grownCap w (len + ys.length) cap e - (len + ys.length))).size = grownCap w (len + ys.length) cap e * ie.size := by
            rw [Array.size_append, hzc];simp only [List.size_toArray, List.length_append, hol, hy5, <- Nat.add_mul]
            congr 1; omega
          have hlen : (cs.drop off ++ flatE ys).length = len * ie.size + uss.flatten.length := by rw [List.length_append, hdrop, hfl, hy5]
          have hmul := Nat.mul_le_mul_right ie.size hge;rw [Nat.add_mul] at hmul
          obtain ⟨hI', hle⟩ := anew (N := grownCap w (len + ys.length) cap e * ie.size) (ob := .cells (((c.toList.drop (sh + off)).take (len * ie.size) ++ uss.flatten).toArray ++ Builtin.zeroCells z.cells (grownCap w (len + ys.length) cap e - (len + ys.length))) e) (by
            simp only [BRel];refine ⟨_, e, qap w.drew _, hsize, ?_, ?_, fun o => ?_⟩
            · rw [hlen]; omega
            · simp only [hlen, List.drop_zero, Array.toList_append]
              rw [List.take_append_of_le_length (by simp only [List.length_append, hol]; omega), List.take_of_length_le (by simp only [List.length_append, hol]; omega), qV]
              exact hsubr.append (qaa hy3)
            · cases hm : M.cell w.heap.size o with
              | none => rfl
              | some v => have := hI.rel.cell_lt hm; omega)
          refine fin hrun hI' hle (hgn1 _) ?_
          · simp only [LRel]
            refine ⟨_, _, _, List.getElem?_set_self hidρ, by simp, rfl, hge, hml, hpos, by simp, .inr ⟨_, _, _, rfl, by simp, ?_⟩⟩
            omega
    next => cases h
  next => cases h
end
section
variable {P : Program} {A : Nat -> Obj -> Prop} {dfs : List Deferred} {M0 : Mem} {ρ0 : Env} {w0 : World} {M : Mem} {ρ : Env} {H : List ABlock} {w : World} {o : Oper} {a : Act} {K : Act -> World -> Prop} {Q : Exit -> Act -> World -> Prop} {fr : List LV} {k : AK} {n0 id : Nat}
theorem qcK {b : Nat} {B : ABlock} (h : H[b]? = some B) : H.set b B = H := by
 apply List.ext_getElem?
 intro j;rw [List.getElem?_set]
 by_cases e : b = j
 ·subst e; rw [if_pos rfl, if_pos (List.getElem?_eq_some_iff.1 h).1, h]
 ·simp [e]
theorem qbB {α : Type} (cs : List α) (off : Nat) : splice cs off [] = cs := by simp [splice]
theorem qlm (hI : MInv A n0 M0 ρ0 w0 M ρ H w) (hf : FRel M ρ fr a.tmps.toList) {sz : Nat} {d s : AX} (hok : okOp P (.copy sz d s) o.op = true) (h : aop P n0 id fr H (.copy sz d s) k)
  (hK : ∀ v H' kl f x w', k v H' kl f -> f -> Nxt A n0 M0 ρ0 w0 M ρ id v H' kl x w' -> K (a.put o.dst x) w') : o.wp P a w K Q := by
 obtain ⟨ts, y, y', t, e, ho, hd, hs, ht, hu, hsz⟩ := qk8 hok;simp only [aop] at h;have hv := qf hf hd;have hx := qf hf hs;generalize d.ev fr = v at h hv;generalize s.ev fr = u at h hx
 -- what comes
 have src : ∀ {ys : List SV} (len : Nat), elemsOf H u = some ys -> (len ≠ 0 -> ∀ y ∈ ys, y.cells.length = sz) -> ∃ uss, CRelC M (ys.take len) uss /\
   (∀ ad cap w', a.eval y = .slice ad len cap -> (∀ q, ad = some q -> (storeCells q uss.flatten).run P w = .ok () w') -> (ad = none -> w' = w) -> (execOp a.eval o).run P w = .ok (.value (.int .i64 (Nat.min ys.length len : Nat))) w') := by
  intro ys len hel hys;obtain ⟨adx, capx, uss, ex, h1, h2, h3, h4⟩ := qcF hI hx hel;have hul : uss.length = ys.length := h3.length;refine ⟨uss.take len, h3.take len, fun ad cap w' ey hst hno => ?_⟩
  have hmin : Nat.min ys.length len = (uss.take len).length := by
   rw [List.length_take, hul];exact Nat.min_comm _ _
  have hfc : (Builtin.firstCells sz (Nat.min ys.length len) (.slice adx ys.length capx)).run P w = .ok (uss.take len).flatten.toArray w := by
   by_cases hl0 : len = 0
   ·subst hl0
    have e0 : Nat.min ys.length 0 = 0 := Nat.min_zero _;rw [e0];simp only [List.take_zero, List.flatten_nil]
    cases adx with
    | none => exact run_firstCells_none w sz 0 _ _
    | some q => exact run_firstCells_some w sz 0 q _ _ [] (by simp) (by simp)
   ·have hl := lenL (h3.take len) (fun z hz => hys hl0 z (List.mem_of_mem_take hz))
    have hfl := qaO hl
    rcases h4 with rfl | ⟨b, of, sz', rfl, h5, h6⟩
    ·simp only [CRelC] at h3
     subst h3;have e0 : Nat.min ([] : List SV).length len = 0 := Nat.zero_min _;rw [e0];simp only [List.take_nil, List.flatten_nil]
     cases adx with
     | none => exact run_firstCells_none w sz 0 _ _
     | some q => exact run_firstCells_some w sz 0 q _ _ [] (by simp) (by simp)
    ·refine run_firstCells_some w sz _ _ _ _ _ (by rw [hfl, hmin]) fun j v hj => ?_
     rw [Addr.add_lit];refine h6 j v ?_;have hpre : uss.flatten = (uss.take len).flatten ++ (uss.drop len).flatten := by rw [<- List.flatten_append, List.take_append_drop]
     rw [hpre, List.getElem?_append_left (List.getElem?_eq_some_iff.1 hj).1];exact hj
  cases ad with
  | none => have := hno rfl; subst this; simp [execOp, ho, resolve, invoke, builtin, Builtin.copy_, ht, run_underlying hu, ey, ex, Builtin.lenOf, qJ hsz, hfc, goInt]
  | some q => simp [execOp, ho, resolve, invoke, builtin, Builtin.copy_, ht, run_underlying hu, ey, ex, Builtin.lenOf, qJ hsz, hfc, hst q rfl, goInt]
 unfold copyK at h
 split at h
 next b off len sz' c =>
  obtain ⟨rfl, h⟩ := h;obtain ⟨ys, hel, hys, h⟩ := qd h;obtain ⟨uss, hc, hrun⟩ := src len hel (fun _ => hys)
  have h2 := hv.one rfl (by simp)
  simp only [LRel] at h2;obtain ⟨r, ad, cap, hρ, hg, ey, hlc, hcm, hpos, _, hcap⟩ := h2;have eyy : a.eval y = .slice ad len cap := by simpa using ey
  have hfr := qaa hc
  have hflen : (flatE (ys.take len)).length <= len * sz := by
   rw [qaj (fun z hz => hys z (List.mem_of_mem_take hz)), List.length_take]
   exact Nat.mul_le_mul_right _ (Nat.min_le_left _ _)
  unfold copyB at h
  split at h
  next cs hB =>
   obtain ⟨hfit, h⟩ := h
   rcases hcap with h0 | ⟨cb, sh, n, rfl, rfl, hfit'⟩
   ·have hl0 : len = 0 := by omega
    subst hl0;simp only [List.take_zero, CRelC] at hc;subst hc;have e0 : flatE (ys.take 0) = [] := by simp [flatE]
    rw [e0, qbB, qcK hB] at h;exact qc (hrun ad cap w eyy (fun q _ => by simp [storeCells]) (fun _ => rfl)) (hK _ _ _ _ _ _ h trivial (qg hI qq))
   ·obtain ⟨w', h5, h6⟩ := write_row (P := P) (off := off) hI hB hρ hfr (by omega)
    exact qc (hrun _ cap w' eyy (fun q hq => by cases hq; exact h5) (fun h => by cases h)) (hK _ _ _ _ _ _ h trivial ⟨M, ρ, h6, fun _ _ h => h, fun _ _ h => h, qq⟩)
  next cs hB =>
   obtain ⟨hfit, h⟩ := h
   rcases hcap with h0 | ⟨cb, sh, n, rfl, rfl, hfit'⟩
   ·have hl0 : len = 0 := by omega
    subst hl0;simp only [List.take_zero, CRelC] at hc;subst hc;have e0 : (flatE (ys.take 0)).map LV.s = [] := by simp [flatE]
    rw [e0, qbB, qcK hB] at h;exact qc (hrun ad cap w eyy (fun q _ => by simp [storeCells]) (fun _ => rfl)) (hK _ _ _ _ _ _ h trivial (qg hI qq))
   ·obtain ⟨w', h5, h6⟩ := qdg (P := P) (off := off) (xs := (flatE (ys.take len)).map LV.s) hI hB hρ (qO.2 hfr) (by rw [List.length_map]; omega)
    exact qc (hrun _ cap w' eyy (fun q hq => by cases hq; exact h5) (fun h => by cases h)) (hK _ _ _ _ _ _ h trivial ⟨M, ρ, h6, fun _ _ h => h, fun _ _ h => h, qq⟩)
  next => cases h
 next =>
  obtain ⟨ys, hel, h⟩ := qd h;obtain ⟨uss, hc, hrun⟩ := src 0 hel (fun h => absurd rfl h)
  simp only [List.take_zero, CRelC] at hc;subst hc;have h2 := hv.one rfl (by simp)
  simp only [LRel, CRel] at h2;obtain ⟨ad, n, e1, _, _, _, e2, hl, _⟩ := h2;rw [e1] at e2;simp only [List.cons.injEq, Value.slice.injEq, and_true] at e2;have hn : n = 0 := by have := e2.2.1; simp at hl; omega
  subst hn;have eyy : a.eval y = .slice ad 0 0 := by simpa using e1
  have hr := hrun ad 0 w eyy (fun q _ => by simp [storeCells]) (fun _ => rfl)
  rw [show Nat.min ys.length 0 = 0 from Nat.min_zero _] at hr;exact qc hr (hK _ _ _ _ _ _ h trivial (qg hI qq))
 next => cases h
theorem qjL (hI : MInv A n0 M0 ρ0 w0 M ρ H w) (hf : FRel M ρ fr a.tmps.toList) {sz : Nat} {zero : List SV} {d : AX} (hok : okOp P (.clear sz zero d) o.op = true) (h : aop P n0 id fr H (.clear sz zero d) k)
  (hK : ∀ v H' kl f x w', k v H' kl f -> f -> Nxt A n0 M0 ρ0 w0 M ρ id v H' kl x w' -> K (a.put o.dst x) w') : o.wp P a w K Q := by
 obtain ⟨ts, y, t, e, ie, z, ho, hd, ht, hu, hi, hsz, hz, hzc⟩ := qjt hok;simp only [aop] at h;have hv := qf hf hd;generalize d.ev fr = v at h hv;have hzr : CRelC M zero (ones z.cells.toList) := qO.1 (qai (M := M) (ρ := ρ) _ _ hzc)
 have run0 : ∀ ad cap, a.eval y = .slice ad 0 cap -> (execOp a.eval o).run P w = .ok (.value (.tuple #[])) w := by
  intro ad cap ey
  cases ad <;> simp [execOp, ho, resolve, invoke, builtin, Builtin.clear_, ht, run_underlying hu, ey]
 have runS : ∀ q len cap w', a.eval y = .slice (some q) len cap -> len ≠ 0 -> (storeCells q (List.replicate len z.cells.toList).flatten).run P w = .ok () w' -> (execOp a.eval o).run P w = .ok (.value (.tuple #[])) w' := by
  intro q len cap w' ey hl hst
  cases len with
  | zero => exact absurd rfl hl
  | succ len =>
   have hzz : (Builtin.zeroCells z.cells (len + 1)).toList = (List.replicate (len + 1) z.cells.toList).flatten := qd5 z.cells (len + 1);simp [execOp, ho, resolve, invoke, builtin, Builtin.clear_, ht, run_underlying hu, ey, zeroValue, typeInfo, hi, hz, hzz, hst]
 unfold clearK at h
 split at h
 next b off len sz' c =>
  obtain ⟨rfl, hzl, h⟩ := h;have h2 := hv.one rfl (by simp)
  simp only [LRel] at h2;obtain ⟨r, ad, cap, hρ, hg, ey, hlc, hcm, hpos, _, hcap⟩ := h2;have eyy : a.eval y = .slice ad len cap := by simpa using ey
  have hfr : CRelC M (List.replicate len zero).flatten (ones (List.replicate len z.cells.toList).flatten) := by rw [qei]; exact qdh hzr _
  have hflen : ((List.replicate len zero).flatten).length = len * sz := by simp [hzl]
  unfold clearB at h
  split at h
  next cs hB =>
   obtain ⟨hfit, h⟩ := h
   by_cases hl0 : len = 0
   ·subst hl0
    simp only [List.replicate_zero, List.flatten_nil, qbB, qcK hB] at h;exact qc (run0 ad cap eyy) (hK _ _ _ _ _ _ h trivial (qg hI (qp (xs := []) rfl)))
   ·rcases hcap with h0 | ⟨cb, sh, n, rfl, rfl, hfit'⟩
    ·omega
    ·obtain ⟨w', h5, h6⟩ := write_row (P := P) (off := off) hI hB hρ hfr (by omega)
     exact qc (runS _ len cap w' eyy hl0 h5) (hK _ _ _ _ _ _ h trivial ⟨M, ρ, h6, fun _ _ h => h, fun _ _ h => h, qp (xs := []) rfl⟩)
  next cs hB =>
   obtain ⟨hfit, h⟩ := h
   by_cases hl0 : len = 0
   ·subst hl0
    simp only [List.replicate_zero, List.flatten_nil, List.map_nil, qbB, qcK hB] at h;exact qc (run0 ad cap eyy) (hK _ _ _ _ _ _ h trivial (qg hI (qp (xs := []) rfl)))
   ·rcases hcap with h0 | ⟨cb, sh, n, rfl, rfl, hfit'⟩
    ·omega
    ·obtain ⟨w', h5, h6⟩ := qdg (P := P) (off := off) (xs := (List.replicate len zero).flatten.map LV.s) hI hB hρ (qO.2 hfr) (by rw [List.length_map]; omega)
     exact qc (runS _ len cap w' eyy hl0 h5) (hK _ _ _ _ _ _ h trivial ⟨M, ρ, h6, fun _ _ h => h, fun _ _ h => h, qp (xs := []) rfl⟩)
  next => cases h
 next =>
  have h2 := hv.one rfl (by simp)
  simp only [LRel, CRel] at h2;obtain ⟨ad, n, e1, _, _, _, e2, hl, _⟩ := h2;rw [e1] at e2;simp only [List.cons.injEq, Value.slice.injEq, and_true] at e2;have hn : n = 0 := by have := e2.2.1; simp at hl; omega
  subst hn;exact qc (run0 ad 0 (by simpa using e1)) (hK _ _ _ _ _ _ h trivial (qg hI (qp (xs := []) rfl)))
 next => cases h
theorem qln (hI : MInv A n0 M0 ρ0 w0 M ρ H w) (hf : FRel M ρ fr a.tmps.toList) {op : AOp} (hid : op.takes = true \/ op.cls = 4 -> ρ0.length <= id) (hok : okOp P op o.op = true) (h : aop P n0 id fr H op k)
  (hK : ∀ v H' kl f x w', k v H' kl f -> f -> Nxt A n0 M0 ρ0 w0 M ρ id v H' kl x w' -> K (a.put o.dst x) w') : o.wp P a w K Q := by
 cases op with
 | mov => exact qmy hI hf hok h hK
 | pick => exact qkZ hI hf hok h hK
 | alloc => exact qjs hI (hid (.inl rfl)) hok h hK
 | boxM => exact qk7 hI hf (hid (.inl rfl)) hok h hK
 | boxS => exact qk3 hI hf hok h hK
 | build => exact qjg hI hf hok h hK
 | buildSl => exact qhk hI hf hok h hK
 | load => exact qcB hI hf hok h hK
 | store => exact qfe hI hf hok h hK
 | nilck => exact qja hI hf hok h hK
 | arith => exact qi8 hI hf hok h hK
 | cmp => exact qmB hI hf hok h hK
 | bits => exact qk1 hI hf hok h hK
 | div => exact qmC hI hf hok h hK
 | shift => exact qi9 hI hf hok h hK
 | eql => exact qmN hI hf hok h hK
 | not => exact qmz hI hf hok h hK
 | neg => exact qmA hI hf hok h hK
 | conv => exact qk0 hI hf hok h hK
 | mkfn => exact qk4 hI hf hok h hK
 | slice => exact qjj hI hf hok h hK
 | sliceArr => exact qge hI hf hok h hK
 | fieldAddr => exact qf0 hI hf hok h hK
 | field => exact qjc hI hf hok h hK
 | idxA => exact qk2 hI hf hok h hK
 | idxArrA => exact qhj hI hf hok h hK
 | idx => exact qmE hI hf hok h hK
 | ext => exact qmD hI hf hok h hK
 | call => exact qk5 hI hf hok h hK
 | callv => exact qjn hI hf hok h hK
 | len => exact qmI hI hf hok h hK
 | lenArr => exact qip hI hf hok h hK
 | cap => exact qmH hI hf hok h hK
 | append => exact qis hI hf (hid (.inl rfl)) hok h hK
 | appendN => exact qhq hI hf (hid (.inl rfl)) hok h hK
 | appendM => exact qhp hI hf (hid (.inl rfl)) hok h hK
 | eqNil => exact qjk hI hf hok h hK
 | callI => exact qjo hI hf hok h hK
 | callN => exact qjp hI hf (hid (.inl rfl)) hok h hK
 | copy => exact qlm hI hf hok h hK
 | clear => exact qjL hI hf hok h hK
 | max => exact qmO hI hf hok h hK
 | min => exact qmP hI hf hok h hK
 | mkslice => exact qhm hI hf (hid (.inl rfl)) hok h hK
 | loadO => exact qjw hI hf hok h hK
 | loadX => exact qjx hI hf hok h hK
 | storeR => exact qit hI hf hok h hK
 | callF => exact qjA hI hf hok h hK
 | frzv => exact qla hI hf hok h hK
 | appendZ => exact qhs hI hf hok h hK
 | appendY => exact qht hI hf (hid (.inl rfl)) hok h hK
 | mkmap => exact qjG hI (hid (.inl rfl)) hok h hK
 | mget => exact qgk hI hf hok h hK
 | mgetS => exact qjD hI hf hok h hK
 | mset => exact qlf hI hf hok h hK
 | mdel => exact qlh hI hf hok h hK
 | mlen => exact qlj hI hf hok h hK
 | sidx => exact qll hI hf hok h hK
 | rangeM => exact qiw hI hf (hid (.inl rfl)) hok h hK
 | nextM => exact qjI hI hf hok h hK
 | entryM => exact qiy hI hf hok h hK
 | callR => exact qjK hI hf hok h hK
 | loadS => exact qjy hI hf hok h hK
 | dead => simp only [aop] at h; exact h.1.elim
 | buildR => exact qir hI hf (hid (.inl rfl)) hok h hK
end
def Agree (fr fr2 : List LV) (s : List Nat) : Prop := ∀ t ∈ s, fget fr2 t = fget fr t
theorem Agree.ev {fr fr2 : List LV} {x : AX} (h : Agree fr fr2 x.slots) : x.ev fr2 = x.ev fr := by
 cases x with
 | t n => exact h n (by simp [AX.slots])
 | c v => rfl
theorem Agree.left {fr fr2 : List LV} {s t : List Nat} (h : Agree fr fr2 (s ++ t)) : Agree fr fr2 s := fun i hi => h i (List.mem_append_left _ hi)
theorem Agree.right {fr fr2 : List LV} {s t : List Nat} (h : Agree fr fr2 (s ++ t)) : Agree fr fr2 t := fun i hi => h i (List.mem_append_right _ hi)
theorem Agree.evs {fr fr2 : List LV} : ∀ {xs : List AX}, Agree fr fr2 (xs.flatMap (·.slots)) -> xs.map (·.ev fr2) = xs.map (·.ev fr)
 | [], _ => rfl
 | x :: xs, h => by
  simp only [List.flatMap_cons] at h;rw [List.map_cons, List.map_cons, h.left.ev, h.right.evs]
theorem Agree.opt {fr fr2 : List LV} {x : Option AX} (h : Agree fr fr2 (AX.slotsO x)) : optEv fr2 x = optEv fr x := by
 cases x with
 | none => rfl
 | some x => simp only [optEv]; rw [Agree.ev h]
theorem Agree.parts {fr fr2 : List LV} : ∀ {ps : List (Nat × Nat × AX)}, Agree fr fr2 (ps.flatMap fun p => p.2.2.slots) -> (ps.map fun p => (p.1, p.2.1, p.2.2.ev fr2)) = ps.map fun p => (p.1, p.2.1, p.2.2.ev fr)
 | [], _ => rfl
 | x :: xs, h => by
  simp only [List.flatMap_cons] at h;rw [List.map_cons, List.map_cons, h.left.ev, h.right.parts]
theorem Agree.parts2 {fr fr2 : List LV} : ∀ {ps : List (Nat × AX)}, Agree fr fr2 (ps.flatMap fun p => p.2.slots) -> (ps.map fun p => p.2.ev fr2) = ps.map fun p => p.2.ev fr
 | [], _ => rfl
 | x :: xs, h => by
  simp only [List.flatMap_cons] at h;rw [List.map_cons, List.map_cons, h.left.ev, h.right.parts2]
theorem qbs {P : Program} {n0 id : Nat} {fr fr2 : List LV} {H : List ABlock} {op : AOp} {k : AK} (h : Agree fr fr2 op.slots) : aop P n0 id fr2 H op k = aop P n0 id fr H op k := by
 cases op <;> simp only [AOp.slots] at h <;> simp only [aop]
 case mov => rw [h.ev]
 case pick => rw [h.left.left.ev, h.left.right.ev, h.right.ev]
 case boxM => rw [h.ev]
 case boxS => rw [h.ev]
 case build => rw [h.parts]
 case buildSl => rw [h.parts2]
 case load => rw [h.ev]
 case store => rw [h.left.ev, h.right.ev]
 case nilck => rw [h.ev]
 case arith => rw [h.left.ev, h.right.ev]
 case cmp => rw [h.left.ev, h.right.ev]
 case bits => rw [h.left.ev, h.right.ev]
 case div => rw [h.left.ev, h.right.ev]
 case shift => rw [h.left.ev, h.right.ev]
 case eql => rw [h.left.ev, h.right.ev]
 case not => rw [h.ev]
 case neg => rw [h.ev]
 case conv => rw [h.ev]
 case mkfn => rw [h.left.evs, h.right.evs]
 case slice => rw [h.left.left.left.ev, h.left.left.right.opt, h.left.right.opt, h.right.opt]
 case sliceArr => rw [h.left.left.ev, h.left.right.opt, h.right.opt]
 case fieldAddr => rw [h.ev]
 case field => rw [h.ev]
 case idxA => rw [h.left.ev, h.right.ev]
 case idxArrA => rw [h.left.ev, h.right.ev]
 case idx => rw [h.left.ev, h.right.ev]
 case ext => rw [h.ev]
 case call => rw [h.evs]
 case callv => rw [h.left.ev, h.right.evs]
 case len => rw [h.ev]
 case cap => rw [h.ev]
 case append => rw [h.left.ev, h.right.ev]
 case appendN => rw [h.left.ev, h.right.ev]
 case appendM => rw [h.left.ev, h.right.ev]
 case eqNil => rw [h.ev]
 case callI => rw [h.evs]
 case callN => rw [h.evs]
 case copy => rw [h.left.ev, h.right.ev]
 case clear => rw [h.ev]
 case max => rw [h.evs]
 case min => rw [h.evs]
 case mkslice => rw [h.left.ev, h.right.ev]
 case loadO => rw [h.ev]
 case loadX => rw [h.left.ev, h.right _ (List.mem_singleton.2 rfl)]
 case storeR => rw [h.left.ev, h.right.ev]
 case callF => rw [h.left.ev, h.right.evs]
 case frzv => rw [h.ev]
 case appendZ => rw [h.left.ev, h.right.ev]
 case appendY => rw [h.left.ev, h.right.ev]
 case mget => rw [h.left.ev, h.right.ev]
 case mgetS => rw [h.left.ev, h.right.ev]
 case mset => rw [h.left.left.ev, h.left.right.ev, h.right.ev]
 case mdel => rw [h.left.ev, h.right.ev]
 case mlen => rw [h.ev]
 case sidx => rw [h.left.ev, h.right.ev]
 case rangeM => rw [h.ev]
 case nextM => rw [h.ev]
 case entryM => rw [h.ev]
 case callR => rw [h.evs]
 case loadS => rw [h.ev]
 case buildR => rw [h.parts2]
def Clos (j : Nat) (H : List ABlock) : Prop := ∀ (b : Nat) (B : ABlock), b ≠ j -> H[b]? = some B -> fgtB (· == j) B = B
def Sim (j : Nat) (H H2 : List ABlock) : Prop := H.length = H2.length /\ ∀ b, b ≠ j -> H2[b]? = H[b]?
def Fre (j : Nat) (v : LV) : Prop := fgt (· == j) v = v
theorem Fre.loc {j b off : Nat} (h : Fre j (.loc b off)) : b ≠ j := by
 intro e; subst e; simp [Fre, fgt] at h
theorem Fre.sl {j b off len sz : Nat} {c : Bool} (h : Fre j (.sl b off len sz c)) : b ≠ j := by
 intro e; subst e; simp [Fre, fgt] at h
theorem Fre.mp {j b : Nat} (h : Fre j (.mp b)) : b ≠ j := by
 intro e; subst e; simp [Fre, fgt] at h
theorem Fre.s {j : Nat} {v : SV} : Fre j (.s v) := by simp [Fre, fgt]
theorem Fre.full {j : Nat} {v : List SV} : Fre j (.full v) := by simp [Fre, fgt]
theorem Fre.tup {j : Nat} {v : List SV} : Fre j (.tup v) := by simp [Fre, fgt]
theorem Fre.any {j : Nat} : Fre j .any := by simp [Fre, fgt]
theorem qbG {j b off : Nat} (h : b ≠ j) : Fre j (.loc b off) := by simp [Fre, fgt, h]
theorem qaw {j b off len sz : Nat} {c : Bool} (h : b ≠ j) : Fre j (.sl b off len sz c) := by simp [Fre, fgt, h]
theorem q9 {j : Nat} {cs : List LV} : Fre j (.agg cs) ↔ ∀ c ∈ cs, Fre j c := by
 simp only [Fre, fgt, LV.agg.injEq, qae];constructor
 ·intro h c hc
  obtain ⟨i, hi⟩ := List.getElem?_of_mem hc;have := congrArg (·[i]?) h;simp only [List.getElem?_map, hi, Option.map_some, Option.some.injEq] at this;exact this
 ·intro h
  conv => rhs; rw [<- List.map_id cs]
  exact List.map_congr_left h
theorem qek {j : Nat} {cs : List LV} : fgtL (· == j) cs = cs ↔ ∀ c ∈ cs, Fre j c := by
 have := q9 (j := j) (cs := cs);simp only [Fre, fgt, LV.agg.injEq] at this;exact this
theorem qck {j : Nat} {f : FuncId} {a b : List LV} : Fre j (.fn f a b) ↔ (∀ c ∈ a, Fre j c) /\ ∀ c ∈ b, Fre j c := by
 simp only [<- qek]; simp [Fre, fgt]
theorem qaF {j b : Nat} {H : List ABlock} {cs : List LV} (h : Clos j H) (hb : b ≠ j) (hc : H[b]? = some (.obj cs)) : ∀ c ∈ cs, Fre j c := by
 have := h b _ hb hc;simp only [fgtB, ABlock.obj.injEq] at this;exact qek.1 this
theorem q6 {g g' : LV -> Option SV} : ∀ {vs : List LV}, (∀ v ∈ vs, g v = g' v) -> frzAll g vs = frzAll g' vs
 | [], _ => rfl
 | v :: vs, h => by
  simp only [frzAll, h v (by simp), q6 (vs := vs) fun u hu => h u (by simp [hu])]
theorem qgp {j : Nat} {H H2 : List ABlock} (hs : Sim j H H2) (hc : Clos j H) : ∀ (n : Nat) (v : LV), Fre j v -> frzV H2 n v = frzV H n v
 | 0, _, _ => by simp [frzV]
 | n + 1, v, hv => by
  have ih := qgp hs hc n
  cases v with
  | s v => simp [frzV]
  | any => simp [frzV]
  | tup => simp [frzV]
  | full => simp [frzV]
  | agg cs => simp only [frzV]; rw [q6 fun c hcc => ih c (q9.1 hv c hcc)]
  | fn f a b => simp only [frzV]; rw [q6 fun c hcc => ih c ((qck.1 hv).1 c hcc), q6 fun c hcc => ih c ((qck.1 hv).2 c hcc)]
  | mp b => simp only [frzV]; rw [hs.2 b hv.mp]
  | yl l => simp [frzV]
  | loc b off =>
   simp only [frzV];rw [hs.2 b hv.loc]
   cases hb : H[b]? with
   | none => rfl
   | some B => cases B <;> simp only <;> rw [q6 fun c hcc => ih c (qaF hc hv.loc hb c hcc)]
  | sl b off len sz c =>
   simp only [frzV];rw [hs.2 b hv.sl]
   cases hb : H[b]? with
   | none => rfl
   | some B => cases B <;> simp only <;> rw [q6 fun c hcc => ih c (qaF hc hv.sl hb c hcc)]
def lay (id : Nat) : Option ABlock -> List ABlock -> List ABlock
 | none, H => H
 | some B, H => H.set id B
def SimO (H H2 : List ABlock) : Prop := ∀ (b : Nat) (cs : List LV), H[b]? = some (.obj cs) ↔ H2[b]? = some (.obj cs)
def Apart (op : AOp) (fr : List LV) (H H2 : List ABlock) : Prop := ∃ r b off, op.rx = some r /\ fget fr r = .loc b off /\ ∀ c, c ≠ b -> H2[c]? = H[c]?
def Like (id : Nat) (fr : List LV) (H H2 : List ABlock) (op : AOp) : Prop :=
 H2 = H \/ op.cls = 0 \/ (∃ j, j ≠ id /\ (∀ x ∈ op.axs, Fre j (x.ev fr)) /\ Clos j H /\ Sim j H H2) \/ (op.rd = true /\ (SimO H H2 \/ Apart op fr H H2))
def Fix (P : Program) (n0 id : Nat) (fr : List LV) (H : List ABlock) (op : AOp) (k : AK) : Prop :=
 ∃ v f g, k v (lay id g H) none f /\ (g.isSome = true -> op.takes = true /\ H[id]? = some .gone) /\
  (∀ j, j ≠ id -> (∀ x ∈ op.axs, Fre j (x.ev fr)) -> Clos j H -> Fre j v /\ ∀ B, g = some B -> fgtB (· == j) B = B) /\
  (∀ H2 k2, Like id fr H H2 op -> k2 v (lay id g H2) none f -> aop P n0 id fr H2 op k2)
section
variable {P : Program} {n0 id : Nat} {fr : List LV} {H : List ABlock} {op : AOp} {k : AK}
theorem fix0 {v : LV} {f : Prop} (hk : k v H none f) (hf : ∀ j, (∀ x ∈ op.axs, Fre j (x.ev fr)) -> Fre j v) (h : ∀ (H2 : List ABlock) (k2 : AK), k2 v H2 none f -> aop P n0 id fr H2 op k2) : Fix P n0 id fr H op k :=
 ⟨v, f, none, hk, by simp, fun j _ hx _ => ⟨hf j hx, by simp⟩, fun H2 k2 _ hk => h H2 k2 hk⟩
theorem fix1 {v : LV} {f : Prop} (hc : op.cls ≠ 0 /\ op.rd = false) (hk : k v H none f) (hf : ∀ j, (∀ x ∈ op.axs, Fre j (x.ev fr)) -> Clos j H -> Fre j v) (h0 : ∀ (k2 : AK), k2 v H none f -> aop P n0 id fr H op k2)
  (h : ∀ (j : Nat) (H2 : List ABlock) (k2 : AK), j ≠ id -> (∀ x ∈ op.axs, Fre j (x.ev fr)) -> Clos j H -> Sim j H H2 -> k2 v H2 none f -> aop P n0 id fr H2 op k2) : Fix P n0 id fr H op k :=
 ⟨v, f, none, hk, by simp, fun j _ hx hc => ⟨hf j hx hc, by simp⟩, fun H2 k2 hl hk2 => by
  rcases hl with rfl | hl | ⟨j, hj, hx, hcl, hs⟩ | ⟨hl, _⟩
  ·exact h0 k2 hk2
  ·exact absurd hl hc.1
  ·exact h j H2 k2 hj hx hcl hs hk2
  ·rw [hc.2] at hl; cases hl⟩
theorem fix2 {v : LV} {f : Prop} {B : ABlock} (ht : op.takes = true) (hc : op.cls ≠ 0 /\ op.rd = false) (hg : H[id]? = some .gone) (hk : k v (H.set id B) none f) (hf : ∀ j, j ≠ id -> (∀ x ∈ op.axs, Fre j (x.ev fr)) -> Clos j H -> Fre j v /\ fgtB (· == j) B = B)
  (h : ∀ (H2 : List ABlock) (k2 : AK), (H2 = H \/ ∃ j, (∀ x ∈ op.axs, Fre j (x.ev fr)) /\ Clos j H /\ Sim j H H2) -> H2[id]? = some .gone -> k2 v (H2.set id B) none f -> aop P n0 id fr H2 op k2) : Fix P n0 id fr H op k :=
 ⟨v, f, some B, hk, fun _ => ⟨ht, hg⟩, fun j hj hx hc => ⟨(hf j hj hx hc).1, fun B' e => by cases e; exact (hf j hj hx hc).2⟩, fun H2 k2 hl hk2 => by
  rcases hl with rfl | hl | ⟨j, hj, hx, hcl, hs⟩ | ⟨hl, _⟩
  ·exact h _ k2 (.inl rfl) hg hk2
  ·exact absurd hl hc.1
  rotate_left
  ·rw [hc.2] at hl; cases hl
  ·exact h H2 k2 (.inr ⟨j, hx, hcl, hs⟩) (by rw [hs.2 id (fun e => hj e.symm)]; exact hg) hk2⟩
theorem qmT {x : AX} (h : aop P n0 id fr H (.mov x) k) : Fix P n0 id fr H (.mov x) k := by
 simp only [aop] at h;exact fix0 h (fun j hx => hx x (by simp [AOp.axs])) (fun H2 k2 hk => by simp only [aop]; exact hk)
theorem qlo {c x y : AX} (h : aop P n0 id fr H (.pick c x y) k) : Fix P n0 id fr H (.pick c x y) k := by
 simp only [aop] at h;unfold pickK at h
 split at h
 next t e =>
  cases t with
  | true => exact fix0 (show k (x.ev fr) H none True from h) (fun j hx => hx x (by simp [AOp.axs])) (fun H2 k2 hk => by simp only [aop]; rw [e]; exact hk)
  | false => exact fix0 (show k (y.ev fr) H none True from h) (fun j hx => hx y (by simp [AOp.axs])) (fun H2 k2 hk => by simp only [aop]; rw [e]; exact hk)
 next => cases h
theorem qlp {x : AX} (h : aop P n0 id fr H (.boxS x) k) : Fix P n0 id fr H (.boxS x) k := by
 simp only [aop] at h;obtain ⟨v, e, h⟩ := qd h;exact fix0 h (fun _ _ => Fre.s) (fun H2 k2 hk => by simp only [aop]; rw [e]; exact hk)
theorem qfk {j : Nat} : ∀ {ps : List (Nat × Nat × LV)} {z cs : List LV}, (∀ c ∈ z, Fre j c) -> (∀ p ∈ ps, Fre j p.2.2) -> fills z ps = some cs -> ∀ c ∈ cs, Fre j c
 | [], z, cs, hz, _, h => by simp only [fills, Option.some.injEq] at h; subst h; exact hz
 | (off, n, v) :: ps, z, cs, hz, hp, h => by
  simp only [fills] at h
  split at h
  next ds hd =>
   split at h
   next =>
    refine qfk ?_ (fun p hpp => hp p (by simp [hpp])) h
    intro c hc
    rcases List.mem_append.1 hc with hc | hc
    ·rcases List.mem_append.1 hc with hc | hc
     ·exact hz c (List.mem_of_mem_take hc)
     ·have hv := hp _ (List.mem_cons_self ..)
      cases v <;> simp only [LV.cells, Option.some.injEq] at hd <;> try (cases hd; done)
      case s v => subst hd; obtain ⟨a, _, rfl⟩ := List.mem_map.1 hc; exact Fre.s
      case agg cs' => subst hd; exact q9.1 hv c hc
      all_goals (subst hd; rw [List.mem_singleton] at hc; subst hc; exact hv)
    ·exact hz c (List.mem_of_mem_drop hc)
   next => cases h
  next => cases h
theorem qbC {j : Nat} {v : LV} (h : v.noref1 = true) : Fre j v := by
 cases v <;> first | exact Fre.s | exact Fre.any | exact Fre.full | exact Fre.tup | (simp [LV.noref1] at h)
theorem qjM {j : Nat} {v : LV} (h : v.noref = true) : Fre j v := by
 cases v <;> first | exact qbC h | skip
 simp only [LV.noref, List.all_eq_true] at h;exact q9.2 fun c hc => qbC (h c hc)
theorem qjN {zero : List LV} {parts : List (Nat × Nat × AX)} (hok : AOp.okc (.build zero parts) = true) (h : aop P n0 id fr H (.build zero parts) k) : Fix P n0 id fr H (.build zero parts) k := by
 simp only [aop] at h;obtain ⟨cs, e, h⟩ := qd h;refine fix0 h (fun j hx => q9.2 (qfk (fun c hc => ?_) (fun p hp => ?_) e)) (fun H2 k2 hk => by simp only [aop]; rw [e]; exact hk)
 ·simp only [AOp.okc, Bool.and_eq_true, List.all_eq_true] at hok
  exact qbC (hok.2 c hc)
 ·obtain ⟨q, hq, rfl⟩ := List.mem_map.1 hp
  exact hx q.2.2 (by simp only [AOp.axs]; exact List.mem_map.2 ⟨q, hq, rfl⟩)
theorem qhu {sz n : Nat} {zero : SV} {parts : List (Nat × AX)} (h : aop P n0 id fr H (.buildSl sz n zero parts) k) : Fix P n0 id fr H (.buildSl sz n zero parts) k := by
 simp only [aop] at h;obtain ⟨h1, h2, h⟩ := h;obtain ⟨xs, e, h3, h4, h5, h⟩ := qd h;exact fix0 h (fun _ _ => Fre.full) (fun H2 k2 hk => by simp only [aop]; rw [e]; exact ⟨h1, h2, h3, h4, h5, hk⟩)
theorem qjO {n : Nat} {g : Bool} {x : AX} (h : aop P n0 id fr H (.loadS n g x) k) : Fix P n0 id fr H (.loadS n g x) k := by
 simp only [aop] at h;unfold ldSK at h
 split at h
 next cs e =>
  cases g with
  | true =>
   obtain ⟨h1, h2⟩ := h;exact fix0 h2 (fun _ _ => Fre.s) (fun H2 k2 hk => by simp only [aop]; rw [e]; exact ⟨h1, hk⟩)
  | false =>
   obtain ⟨c, e2, h1, h2⟩ := qd h;exact fix0 h2 (fun _ _ => Fre.s) (fun H2 k2 hk => by simp only [aop]; rw [e]; simp only [ldSK, partS, e2, exO]; exact ⟨h1, hk⟩)
 next => cases h
theorem qjP {x : AX} (h : aop P n0 id fr H (.nilck x) k) : Fix P n0 id fr H (.nilck x) k := by
 simp only [aop] at h;unfold nilckK at h
 split at h
 next cs e => exact fix0 h (fun _ _ => Fre.s) (fun H2 k2 hk => by simp only [aop]; rw [e]; exact hk)
 next b off e => exact fix0 h (fun j hx => by rw [<- e]; exact hx x (by simp [AOp.axs])) (fun H2 k2 hk => by simp only [aop]; rw [e]; exact hk)
 next => cases h
theorem qjQ {o : BinOp} {x y : AX} (h : aop P n0 id fr H (.arith o x y) k) : Fix P n0 id fr H (.arith o x y) k := by
 simp only [aop] at h;unfold arithK at h
 split at h
 next K m K' n e1 e2 =>
  obtain ⟨rfl, h⟩ := h
  cases o <;> simp only [arithI] at h
  case add => exact fix0 h.2 (fun _ _ => Fre.s) (fun H2 k2 hk => by simp only [aop]; rw [e1, e2]; exact ⟨rfl, h.1, hk⟩)
  case sub => exact fix0 h.2 (fun _ _ => Fre.s) (fun H2 k2 hk => by simp only [aop]; rw [e1, e2]; exact ⟨rfl, h.1, hk⟩)
  case mul => exact fix0 h.2 (fun _ _ => Fre.s) (fun H2 k2 hk => by simp only [aop]; rw [e1, e2]; exact ⟨rfl, h.1, hk⟩)
 next => cases h
theorem qmU {o : BinOp} {x y : AX} (h : aop P n0 id fr H (.cmp o x y) k) : Fix P n0 id fr H (.cmp o x y) k := by
 simp only [aop] at h;unfold cmpK at h
 split at h
 next K m K' n e1 e2 =>
  obtain ⟨rfl, h⟩ := h
  cases o <;> simp only [cmpI] at h
  all_goals exact fix0 h (fun _ _ => Fre.s) (fun H2 k2 hk => by simp only [aop]; rw [e1, e2]; exact ⟨rfl, hk⟩)
 next => cases h
theorem qlq {o : BinOp} {x y : AX} (h : aop P n0 id fr H (.bits o x y) k) : Fix P n0 id fr H (.bits o x y) k := by
 simp only [aop] at h;unfold bitsK at h
 split at h
 next K m K' n e1 e2 =>
  obtain ⟨rfl, h⟩ := h;exact fix0 h (fun _ _ => Fre.s) (fun H2 k2 hk => by simp only [aop]; rw [e1, e2]; exact ⟨rfl, hk⟩)
 next => cases h
theorem qmV {o : BinOp} {x y : AX} (h : aop P n0 id fr H (.div o x y) k) : Fix P n0 id fr H (.div o x y) k := by
 simp only [aop] at h;unfold divK at h
 split at h
 next K m K' n e1 e2 =>
  obtain ⟨rfl, h0, h⟩ := h
  cases o <;> simp only [divI] at h
  case quo => exact fix0 h.2 (fun _ _ => Fre.s) (fun H2 k2 hk => by simp only [aop]; rw [e1, e2]; exact ⟨rfl, h0, h.1, hk⟩)
  case rem => exact fix0 h (fun _ _ => Fre.s) (fun H2 k2 hk => by simp only [aop]; rw [e1, e2]; exact ⟨rfl, h0, hk⟩)
 next => cases h
theorem qjR {o : BinOp} {x y : AX} (h : aop P n0 id fr H (.shift o x y) k) : Fix P n0 id fr H (.shift o x y) k := by
 simp only [aop] at h;unfold shiftK at h
 split at h
 next K m K' n e1 e2 =>
  obtain ⟨h0, h1, h⟩ := h
  cases o <;> simp only [shiftI] at h
  case shl => exact fix0 h.2 (fun _ _ => Fre.s) (fun H2 k2 hk => by simp only [aop]; rw [e1, e2]; exact ⟨h0, h1, h.1, hk⟩)
  case shr => exact fix0 h (fun _ _ => Fre.s) (fun H2 k2 hk => by simp only [aop]; rw [e1, e2]; exact ⟨h0, h1, hk⟩)
 next => cases h
theorem qmW {x : AX} (h : aop P n0 id fr H (.not x) k) : Fix P n0 id fr H (.not x) k := by
 simp only [aop] at h;unfold notK at h
 split at h
 next b e => exact fix0 h (fun _ _ => Fre.s) (fun H2 k2 hk => by simp only [aop]; rw [e]; exact hk)
 next => cases h
theorem qmX {x : AX} (h : aop P n0 id fr H (.neg x) k) : Fix P n0 id fr H (.neg x) k := by
 simp only [aop] at h;unfold negK at h
 split at h
 next K n e => exact fix0 h.2 (fun _ _ => Fre.s) (fun H2 k2 hk => by simp only [aop]; rw [e]; exact ⟨h.1, hk⟩)
 next => cases h
theorem qlr {K : IntKind} {x : AX} (h : aop P n0 id fr H (.conv K x) k) : Fix P n0 id fr H (.conv K x) k := by
 simp only [aop] at h;unfold convK at h
 split at h
 next K n e => exact fix0 h.2 (fun _ _ => Fre.s) (fun H2 k2 hk => by simp only [aop]; rw [e]; exact ⟨h.1, hk⟩)
 next => cases h
theorem qls {f : FuncId} {a b : List AX} (h : aop P n0 id fr H (.mkfn f a b) k) : Fix P n0 id fr H (.mkfn f a b) k := by
 simp only [aop] at h;refine fix0 h.2 (fun j hx => qck.2 ⟨fun c hc => ?_, fun c hc => ?_⟩) (fun H2 k2 hk => by simp only [aop]; exact ⟨h.1, hk⟩)
 ·obtain ⟨x, hm, rfl⟩ := List.mem_map.1 hc; exact hx x (by simp [AOp.axs, hm])
 ·obtain ⟨x, hm, rfl⟩ := List.mem_map.1 hc; exact hx x (by simp [AOp.axs, hm])
theorem qjS {sz : Nat} {x : AX} {lo hi mx : Option AX} (h : aop P n0 id fr H (.slice sz x lo hi mx) k) : Fix P n0 id fr H (.slice sz x lo hi mx) k := by
 simp only [aop] at h
 -- the last step
 have fin : ∀ {A B : LV} {hh : Nat}, sliceM H hh A B k (optEv fr mx) -> ∃ v, k v H none True /\ (v = A \/ v = B) /\ ∀ (H2 : List ABlock) (k2 : AK), k2 v H2 none True -> sliceM H2 hh A B k2 (optEv fr mx) := by
  intro A B hh hm
  cases e : optEv fr mx with
  | none => rw [e] at hm; exact ⟨A, hm, .inl rfl, fun H2 k2 hk => hk⟩
  | some m => rw [e] at hm; exact ⟨B, hm.2, .inr rfl, fun H2 k2 hk => ⟨hm.1, hk⟩⟩
 unfold sliceK at h
 split at h
 next xs e =>
  obtain ⟨l, h1, h⟩ := qd h;obtain ⟨hh, h2, h3, h4, h5, h⟩ := qd h;obtain ⟨v, hk, hv, hall⟩ := fin h;refine fix0 hk (fun j hx => by rcases hv with rfl | rfl; exact Fre.s; exact Fre.full) (fun H2 k2 hk => ?_)
  simp only [aop, e, sliceK, h1, h2, exO];exact ⟨h3, h4, h5, hall H2 k2 hk⟩
 next xs e =>
  obtain ⟨l, h1, h⟩ := qd h;obtain ⟨hh, h2, h3, h4, h5, h⟩ := qd h;obtain ⟨v, hk, hv, hall⟩ := fin h;refine fix0 hk (fun j hx => by rcases hv with rfl | rfl; split; exact Fre.full; exact Fre.s; exact Fre.full) (fun H2 k2 hk => ?_)
  simp only [aop, e, sliceK, h1, h2, exO];exact ⟨h3, h4, h5, hall H2 k2 hk⟩
 next b off len sz' c e =>
  obtain ⟨rfl, h⟩ := h;obtain ⟨l, h1, h⟩ := qd h;obtain ⟨hh, h2, h3, h4, h⟩ := qd h;obtain ⟨v, hk, hv, hall⟩ := fin h;refine fix0 hk (fun j hx => ?_) (fun H2 k2 hk => ?_)
  ·have := hx x (by simp [AOp.axs])
   rw [e] at this
   rcases hv with rfl | rfl
   ·exact qaw this.sl
   ·exact qaw this.sl
  ·simp only [aop, e, sliceK, h1, h2, exO]
   exact ⟨trivial, h3, h4, hall H2 k2 hk⟩
 next => cases h
theorem qf3 {off : Nat} {x : AX} (h : aop P n0 id fr H (.fieldAddr off x) k) : Fix P n0 id fr H (.fieldAddr off x) k := by
 simp only [aop] at h;unfold fieldAddrK at h
 split at h
 next cs e => exact fix0 h.2 (fun _ _ => Fre.s) (fun H2 k2 hk => by simp only [aop]; rw [e]; exact ⟨h.1, hk⟩)
 next b o e => exact fix0 h (fun j hx => by have := hx x (by simp [AOp.axs]); rw [e] at this; exact qbG this.loc) (fun H2 k2 hk => by simp only [aop]; rw [e]; exact hk)
 next => cases h
theorem qfl {off n : Nat} {g : Bool} {v : LV} (h : partK H off n g k v) : ∃ u, k u H none True /\ (∀ j, Fre j v -> Fre j u) /\ ∀ (H2 : List ABlock) (k2 : AK), k2 u H2 none True -> partK H2 off n g k2 v := by
 unfold partK at h
 split at h
 next cs =>
  cases g with
  | true => simp only [partS] at h; exact ⟨_, h.2, fun _ _ => Fre.s, fun H2 k2 hk => ⟨h.1, hk⟩⟩
  | false =>
   simp only [partS] at h;obtain ⟨c, e, h1, h2⟩ := qd h;exact ⟨_, h2, fun _ _ => Fre.s, fun H2 k2 hk => by simp only [partK, partS, e, exO]; exact ⟨h1, hk⟩⟩
 next cs =>
  cases g with
  | true => simp only [partL] at h; exact ⟨_, h.2, fun j hv => q9.2 fun c hc => q9.1 hv c (List.mem_of_mem_drop (List.mem_of_mem_take hc)), fun H2 k2 hk => ⟨h.1, hk⟩⟩
  | false =>
   simp only [partL] at h;obtain ⟨c, e, h1, h2⟩ := qd h;exact ⟨_, h2, fun j hv => q9.1 hv c (List.mem_of_getElem? e), fun H2 k2 hk => by simp only [partK, partL, e, exO]; exact ⟨h1, hk⟩⟩
 next => cases h
theorem qjT {off n : Nat} {g : Bool} {x : AX} (h : aop P n0 id fr H (.field off n g x) k) : Fix P n0 id fr H (.field off n g x) k := by
 simp only [aop] at h;obtain ⟨u, h1, h2, h3⟩ := qfl h;exact fix0 h1 (fun j hx => h2 j (hx x (by simp [AOp.axs]))) (fun H2 k2 hk => by simp only [aop]; exact h3 H2 k2 hk)
theorem qmY {m sz : Nat} {g : Bool} {x i : AX} (h : aop P n0 id fr H (.idx m sz g x i) k) : Fix P n0 id fr H (.idx m sz g x i) k := by
 simp only [aop] at h;unfold idxK at h
 split at h
 next K n e =>
  obtain ⟨h0, h1, h⟩ := h;obtain ⟨u, h2, h3, h4⟩ := qfl h;exact fix0 h2 (fun j hx => h3 j (hx x (by simp [AOp.axs]))) (fun H2 k2 hk => by simp only [aop]; rw [e]; exact ⟨h0, h1, h4 H2 k2 hk⟩)
 next => cases h
theorem qlt {sz : Nat} {x i : AX} (h : aop P n0 id fr H (.idxA sz x i) k) : Fix P n0 id fr H (.idxA sz x i) k := by
 simp only [aop] at h;unfold idxAK at h
 split at h
 next K n e =>
  obtain ⟨h0, h⟩ := h;unfold idxAI at h
  split at h
  next xs e2 =>
   obtain ⟨c, e3, h1, h⟩ := qd h;exact fix0 h (fun _ _ => Fre.s) (fun H2 k2 hk => by simp only [aop]; rw [e, e2]; simp only [idxAK, idxAI, e3, exO]; exact ⟨h0, h1, hk⟩)
  next xs e2 =>
   obtain ⟨c, e3, h1, h⟩ := qd h;exact fix0 h (fun _ _ => Fre.s) (fun H2 k2 hk => by simp only [aop]; rw [e, e2]; simp only [idxAK, idxAI, e3, exO]; exact ⟨h0, h1, hk⟩)
  next b off len sz' c e2 =>
   obtain ⟨h1, h2, h⟩ := h;exact fix0 h (fun j hx => by have := hx x (by simp [AOp.axs]); rw [e2] at this; exact qbG this.sl) (fun H2 k2 hk => by simp only [aop]; rw [e, e2]; exact ⟨h0, h1, h2, hk⟩)
  next => cases h
 next => cases h
theorem qhv {m sz : Nat} {x i : AX} (h : aop P n0 id fr H (.idxArrA m sz x i) k) : Fix P n0 id fr H (.idxArrA m sz x i) k := by
 simp only [aop] at h;unfold idxArrAK at h
 split at h
 next K n e =>
  obtain ⟨h0, h1, h⟩ := h;unfold idxArrAI at h
  split at h
  next cs e2 => exact fix0 h.2 (fun _ _ => Fre.s) (fun H2 k2 hk => by simp only [aop]; rw [e, e2]; exact ⟨h0, h1, h.1, hk⟩)
  next b off e2 => exact fix0 h (fun j hx => by have := hx x (by simp [AOp.axs]); rw [e2] at this; exact qbG this.loc) (fun H2 k2 hk => by simp only [aop]; rw [e, e2]; exact ⟨h0, h1, hk⟩)
  next => cases h
 next => cases h
theorem qmZ {x : AX} {i : Nat} (h : aop P n0 id fr H (.ext x i) k) : Fix P n0 id fr H (.ext x i) k := by
 simp only [aop] at h;unfold extK at h
 split at h
 next vs e =>
  obtain ⟨c, e3, h⟩ := qd h;exact fix0 h (fun _ _ => Fre.s) (fun H2 k2 hk => by simp only [aop]; rw [e]; simp only [extK, e3, exO]; exact hk)
 next => cases h
theorem qm0 {st : Bool} {x : AX} (h : aop P n0 id fr H (.len st x) k) : Fix P n0 id fr H (.len st x) k := by
 simp only [aop] at h;unfold lenK at h
 split at h
 next xs e => exact fix0 h (fun _ _ => Fre.s) (fun H2 k2 hk => by simp only [aop]; rw [e]; exact hk)
 next xs e => exact fix0 h (fun _ _ => Fre.s) (fun H2 k2 hk => by simp only [aop]; rw [e]; exact hk)
 next b off len sz c e => exact fix0 h (fun _ _ => Fre.s) (fun H2 k2 hk => by simp only [aop]; rw [e]; exact hk)
 next s e => exact fix0 h (fun _ _ => Fre.s) (fun H2 k2 hk => by simp only [aop]; rw [e]; exact hk)
 next => cases h
theorem qm1 {x : AX} (h : aop P n0 id fr H (.cap x) k) : Fix P n0 id fr H (.cap x) k := by
 simp only [aop] at h;unfold capK at h
 split at h
 next xs e => exact fix0 h (fun _ _ => Fre.s) (fun H2 k2 hk => by simp only [aop]; rw [e]; exact hk)
 next => cases h
theorem qiC {n : Nat} (h : aop P n0 id fr H (.lenArr n) k) : Fix P n0 id fr H (.lenArr n) k := by
 simp only [aop] at h;exact fix0 h (fun _ _ => Fre.s) (fun H2 k2 hk => by simp only [aop]; exact hk)
theorem qlu {x i : AX} (h : aop P n0 id fr H (.sidx x i) k) : Fix P n0 id fr H (.sidx x i) k := by
 simp only [aop] at h;unfold sidxK at h
 split at h
 next s kd n e1 e2 =>
  obtain ⟨h0, h⟩ := h;obtain ⟨b, hb, h⟩ := qd h;exact fix0 h (fun _ _ => Fre.s) (fun H2 k2 hk => by simp only [aop]; rw [e1, e2]; simp only [sidxK, hb, exO]; exact ⟨h0, hk⟩)
 next => cases h
theorem qm2 {xs : List AX} (h : aop P n0 id fr H (.max xs) k) : Fix P n0 id fr H (.max xs) k := by
 simp only [aop] at h;obtain ⟨ns, e, h1, h⟩ := qd h;exact fix0 h (fun _ _ => Fre.s) (fun H2 k2 hk => by simp only [aop, e, exO]; exact ⟨h1, hk⟩)
theorem qm3 {xs : List AX} (h : aop P n0 id fr H (.min xs) k) : Fix P n0 id fr H (.min xs) k := by
 simp only [aop] at h;obtain ⟨ns, e, h1, h⟩ := qd h;exact fix0 h (fun _ _ => Fre.s) (fun H2 k2 hk => by simp only [aop, e, exO]; exact ⟨h1, hk⟩)
end
section
variable {P : Program} {n0 id : Nat} {fr : List LV} {H : List ABlock} {op : AOp} {k : AK}
theorem qeX {j : Nat} {H H2 : List ABlock} (hs : Sim j H H2) (hc : Clos j H) {v : LV} (hv : Fre j v) : frz H2 v = frz H v := qgp hs hc 4 v hv
theorem qcL {j : Nat} {H H2 : List ABlock} (hs : Sim j H H2) (hc : Clos j H) {vs : List LV} (hv : ∀ v ∈ vs, Fre j v) : frzAll (frz H2) vs = frzAll (frz H) vs := q6 fun v h => qeX hs hc (hv v h)
theorem qaG {j : Nat} {H H2 : List ABlock} (hs : Sim j H H2) {v : LV} (hv : Fre j v) : elemsOf H2 v = elemsOf H v := by
 cases v with
 | sl b off len sz c => simp only [elemsOf]; rw [hs.2 b hv.sl]
 | s v => cases v <;> rfl
 | _ => rfl
theorem qbZ {cs : List SV} {off n : Nat} {g : Bool} (h : partS H cs off n k g) : ∃ u, k u H none True /\ (∀ j, Fre j u) /\ ∀ (H2 : List ABlock) (k2 : AK), k2 u H2 none True -> partS H2 cs off n k2 g := by
 cases g with
 | true => simp only [partS] at h; exact ⟨_, h.2, fun _ => Fre.s, fun H2 k2 hk => ⟨h.1, hk⟩⟩
 | false =>
  simp only [partS] at h;obtain ⟨c, e, h1, h2⟩ := qd h;exact ⟨_, h2, fun _ => Fre.s, fun H2 k2 hk => by simp only [partS, e, exO]; exact ⟨h1, hk⟩⟩
theorem qdo {cs : List LV} {off n : Nat} {g : Bool} (h : partL H cs off n k g) : ∃ u, k u H none True /\ (∀ j, (∀ c ∈ cs, Fre j c) -> Fre j u) /\ ∀ (H2 : List ABlock) (k2 : AK), k2 u H2 none True -> partL H2 cs off n k2 g := by
 cases g with
 | true => simp only [partL] at h; exact ⟨_, h.2, fun j hc => q9.2 fun c h => hc c (List.mem_of_mem_drop (List.mem_of_mem_take h)), fun H2 k2 hk => ⟨h.1, hk⟩⟩
 | false =>
  simp only [partL] at h;obtain ⟨c, e, h1, h2⟩ := qd h;exact ⟨_, h2, fun j hc => hc c (List.mem_of_getElem? e), fun H2 k2 hk => by simp only [partL, e, exO]; exact ⟨h1, hk⟩⟩
theorem qm4 {off n : Nat} {g : Bool} {B : Option ABlock} (h : ldB H off n g k B) : ∃ u, k u H none True /\ (∀ j, (∀ cs, B = some (.obj cs) -> ∀ c ∈ cs, Fre j c) -> Fre j u) /\ ∀ (H2 : List ABlock) (k2 : AK), k2 u H2 none True -> ldB H2 off n g k2 B := by
 unfold ldB at h
 split at h
 next cs => obtain ⟨u, h1, h2, h3⟩ := qdo h; exact ⟨u, h1, fun j hc => h2 j (hc cs rfl), fun H2 k2 hk => h3 H2 k2 hk⟩
 next cs => obtain ⟨u, h1, h2, h3⟩ := qbZ h; exact ⟨u, h1, fun j _ => h2 j, fun H2 k2 hk => h3 H2 k2 hk⟩
 next cs => obtain ⟨u, h1, h2, h3⟩ := qbZ h; exact ⟨u, h1, fun j _ => h2 j, fun H2 k2 hk => h3 H2 k2 hk⟩
 next => cases h
theorem qlv {n : Nat} {g : Bool} {x : AX} (h : aop P n0 id fr H (.load n g x) k) : Fix P n0 id fr H (.load n g x) k := by
 simp only [aop] at h;unfold ldK at h
 split at h
 next cs e =>
  obtain ⟨u, h1, h2, h3⟩ := qbZ h;exact fix1 (by simp [AOp.cls, AOp.rd]) h1 (fun j _ _ => h2 j) (fun k2 hk => by simp only [aop]; rw [e]; exact h3 H k2 hk) (fun j H2 k2 _ _ _ _ hk => by simp only [aop]; rw [e]; exact h3 H2 k2 hk)
 next b off e =>
  obtain ⟨u, h1, h2, h3⟩ := qm4 h;have hb : ∀ j, (∀ x' ∈ AOp.axs (.load n g x), Fre j (x'.ev fr)) -> b ≠ j := fun j hx => by have := hx x (by simp [AOp.axs]); rw [e] at this; exact this.loc
  refine fix1 (by simp [AOp.cls, AOp.rd]) h1 (fun j hx hc => h2 j fun cs hcs => qaF hc (hb j hx) hcs) (fun k2 hk => by simp only [aop]; rw [e]; exact h3 H k2 hk) (fun j H2 k2 _ hx _ hs hk => ?_)
  simp only [aop];rw [e];simp only [ldK];rw [hs.2 b (hb j hx)];exact h3 H2 k2 hk
 next => cases h
theorem qm5 {ag ne : Bool} {ts : List Tag} {x y : AX} (h : aop P n0 id fr H (.eql ag ts ne x y) k) : Fix P n0 id fr H (.eql ag ts ne x y) k := by
 simp only [aop] at h;unfold eqlK at h;obtain ⟨c, hc, h⟩ := qd h;obtain ⟨d, hd, hok, h⟩ := qd h
 have fin : ∃ v, k v H none True /\ (∀ j, Fre j v) /\ ∀ (H2 : List ABlock) (k2 : AK), k2 v H2 none True -> eqlR H2 c d k2 ne := by
  cases ne with
  | true => exact ⟨_, h, fun _ => Fre.s, fun H2 k2 hk => hk⟩
  | false => exact ⟨_, h, fun _ => Fre.s, fun H2 k2 hk => hk⟩
 obtain ⟨v, h1, h2, h3⟩ := fin;refine fix1 (by simp [AOp.cls, AOp.rd]) h1 (fun j _ _ => h2 j) (fun k2 hk => ?_) (fun j H2 k2 _ hx hcl hs hk => ?_)
 ·simp only [aop, eqlK, hc, hd, exO]; exact ⟨hok, h3 H k2 hk⟩
 ·simp only [aop, eqlK]
  rw [qeX hs hcl (hx x (by simp [AOp.axs])), qeX hs hcl (hx y (by simp [AOp.axs])), hc, hd]
  simp only [exO];exact ⟨hok, h3 H2 k2 hk⟩
theorem qce {j : Nat} (rs : List SV) : Fre j (LV.ofResults rs) := by
 match rs with
 | [] => exact Fre.tup
 | [r] => exact Fre.s
 | _ :: _ :: _ => exact Fre.tup
theorem qlw {f : FuncId} {args : List AX} (h : aop P n0 id fr H (.call f args) k) : Fix P n0 id fr H (.call f args) k := by
 simp only [aop] at h;obtain ⟨as, rs, h1, h2, h3, h⟩ := h;refine fix1 (by simp [AOp.cls, AOp.rd]) h (fun j _ _ => qce rs) (fun k2 hk => ?_) (fun j H2 k2 _ hx hcl hs hk => ?_)
 ·simp only [aop]; exact ⟨as, rs, h1, h2, h3, hk⟩
 ·simp only [aop]
  refine ⟨as, rs, ?_, h2, h3, hk⟩;rw [qcL hs hcl (fun v hv => by obtain ⟨x, hm, rfl⟩ := List.mem_map.1 hv; exact hx x (by simpa [AOp.axs] using hm))]
  exact h1
theorem qjU {y : AX} {args : List AX} (h : aop P n0 id fr H (.callv y args) k) : Fix P n0 id fr H (.callv y args) k := by
 simp only [aop] at h;unfold callvK at h
 have harg : ∀ j, (∀ x ∈ AOp.axs (.callv y args), Fre j (x.ev fr)) -> ∀ v ∈ args.map (·.ev fr), Fre j v := by
  intro j hx v hv;obtain ⟨x, hm, rfl⟩ := List.mem_map.1 hv;exact hx x (by simp [AOp.axs, hm])
 split at h
 next g first caps e =>
  obtain ⟨h0, h00, as, rs, h1, h2, h3, h⟩ := h;refine fix1 (by simp [AOp.cls, AOp.rd]) h (fun j _ _ => qce rs) (fun k2 hk => ?_) (fun j H2 k2 _ hx hcl hs hk => ?_)
  ·simp only [aop]; rw [e]; exact ⟨h0, h00, as, rs, h1, h2, h3, hk⟩
  ·simp only [aop]; rw [e]
   refine ⟨h0, h00, as, rs, ?_, h2, h3, hk⟩;rw [qcL hs hcl (fun v hv => ?_)]
   ·exact h1
   ·rcases List.mem_append.1 hv with hv | hv
    ·rcases List.mem_append.1 hv with hv | hv
     ·obtain ⟨q, _, rfl⟩ := List.mem_map.1 hv; exact Fre.s
     ·exact harg j hx v hv
    ·obtain ⟨q, _, rfl⟩ := List.mem_map.1 hv; exact Fre.s
 next g first caps e =>
  obtain ⟨h0, h00, as, rs, h1, h2, h3, h⟩ := h;refine fix1 (by simp [AOp.cls, AOp.rd]) h (fun j _ _ => qce rs) (fun k2 hk => ?_) (fun j H2 k2 _ hx hcl hs hk => ?_)
  ·simp only [aop]; rw [e]; exact ⟨h0, h00, as, rs, h1, h2, h3, hk⟩
  ·simp only [aop]; rw [e]
   refine ⟨h0, h00, as, rs, ?_, h2, h3, hk⟩;have hf := hx y (by simp [AOp.axs])
   rw [e] at hf;rw [qcL hs hcl (fun v hv => ?_)]
   ·exact h1
   ·rcases List.mem_append.1 hv with hv | hv
    ·rcases List.mem_append.1 hv with hv | hv
     ·exact (qck.1 hf).1 v hv
     ·exact harg j hx v hv
    ·exact (qck.1 hf).2 v hv
 next => cases h
theorem qgq {n sz : Nat} {x : AX} {lo hi : Option AX} (h : aop P n0 id fr H (.sliceArr n sz x lo hi) k) : Fix P n0 id fr H (.sliceArr n sz x lo hi) k := by
 simp only [aop] at h;unfold sliceArrK at h;obtain ⟨l, h1, h⟩ := qd h;obtain ⟨h', h2, h3, h4, h5, h6, h7, h⟩ := qd h
 cases e : x.ev fr with
 | s v =>
  rw [e] at h
  cases v with
  | ptr cs =>
   refine fix1 (by simp [AOp.cls, AOp.rd]) h.2 (fun j _ _ => by split; exact Fre.full; exact Fre.s) (fun k2 hk => ?_) (fun j H2 k2 _ hx hcl hs hk => ?_)
   ·simp only [aop, sliceArrK, h1, h2, exO, e]; exact ⟨h3, h4, h5, h6, h7, h.1, hk⟩
   ·simp only [aop, sliceArrK, h1, h2, exO, e]; exact ⟨h3, h4, h5, h6, h7, h.1, hk⟩
  | _ => exact h.elim
 | loc b off =>
  rw [e] at h;have hb : ∀ j, (∀ x' ∈ AOp.axs (.sliceArr n sz x lo hi), Fre j (x'.ev fr)) -> b ≠ j := fun j hx => by have := hx x (by simp [AOp.axs]); rw [e] at this; exact this.loc
  refine fix1 (by simp [AOp.cls, AOp.rd]) h.2 (fun j hx _ => qaw (hb j hx)) (fun k2 hk => ?_) (fun j H2 k2 _ hx hcl hs hk => ?_)
  ·simp only [aop, sliceArrK, h1, h2, exO, e]; exact ⟨h3, h4, h5, h6, h7, h.1, hk⟩
  ·simp only [aop, sliceArrK, h1, h2, exO, e]
   rw [hs.2 b (hb j hx)];exact ⟨h3, h4, h5, h6, h7, h.1, hk⟩
 | _ => rw [e] at h; exact h.elim
theorem qaW {j : Nat} {cs : List LV} (h : ∀ c ∈ cs, Fre j c) : fgtB (· == j) (.obj cs) = .obj cs := by
 simp only [fgtB]; rw [qek.2 h]
theorem qjV {cells : List LV} (hok : AOp.okc (.alloc cells) = true) (h : aop P n0 id fr H (.alloc cells) k) : Fix P n0 id fr H (.alloc cells) k := by
 simp only [aop] at h;simp only [AOp.okc, Bool.and_eq_true, List.all_eq_true] at hok;exact fix2 rfl (by simp [AOp.cls, AOp.rd]) h.1 h.2 (fun j hj _ _ => ⟨qbG fun e => hj e.symm, qaW fun c hc => qbC (hok.2 c hc)⟩) (fun H2 k2 _ hg hk => by simp only [aop]; exact ⟨hg, hk⟩)
theorem qfm {j : Nat} {v : LV} {cs : List LV} (hv : Fre j v) (h : v.cells = some cs) : ∀ c ∈ cs, Fre j c := by
 intro c hc
 cases v <;> simp only [LV.cells, Option.some.injEq] at h <;> try (cases h; done)
 case s v => subst h; obtain ⟨a, _, rfl⟩ := List.mem_map.1 hc; exact Fre.s
 case agg cs' => subst h; exact q9.1 hv c hc
 all_goals (subst h; rw [List.mem_singleton] at hc; subst hc; exact hv)
theorem qlx {x : AX} (h : aop P n0 id fr H (.boxM x) k) : Fix P n0 id fr H (.boxM x) k := by
 simp only [aop] at h;obtain ⟨cs, e, hg, h⟩ := qd h;exact fix2 rfl (by simp [AOp.cls, AOp.rd]) hg h (fun j hj hx _ => ⟨qbG fun e => hj e.symm, qaW (qfm (hx x (by simp [AOp.axs])) e)⟩) (fun H2 k2 _ hg hk => by simp only [aop, e, exO]; exact ⟨hg, hk⟩)
theorem qhw {sz bytes : Nat} {zero : List SV} {l c : AX} (h : aop P n0 id fr H (.mkslice sz bytes zero l c) k) : Fix P n0 id fr H (.mkslice sz bytes zero l c) k := by
 simp only [aop] at h;unfold mksliceK at h
 split at h
 next n m e1 e2 =>
  obtain ⟨h1, h2, h3, h4, h5, h6, hg, h⟩ := h;exact fix2 rfl (by simp [AOp.cls, AOp.rd]) hg h (fun j hj _ _ => ⟨qaw fun e => hj e.symm, rfl⟩) (fun H2 k2 _ hg hk => by simp only [aop]; rw [e1, e2]; exact ⟨h1, h2, h3, h4, h5, h6, hg, hk⟩)
 next => cases h
theorem qiD {sz n : Nat} {zero : SV} {parts : List (Nat × AX)} (h : aop P n0 id fr H (.buildR sz n zero parts) k) : Fix P n0 id fr H (.buildR sz n zero parts) k := by
 simp only [aop] at h;obtain ⟨h1, h2, h0, h⟩ := h;obtain ⟨xs, e, h3, h4, h5, hg, h⟩ := qd h;exact fix2 rfl (by simp [AOp.cls, AOp.rd]) hg h (fun j hj _ _ => ⟨qaw fun e => hj e.symm, rfl⟩) (fun H2 k2 _ hg hk => by simp only [aop]; rw [e]; exact ⟨h1, h2, h0, h3, h4, h5, hg, hk⟩)
theorem qhx {sz bytes : Nat} {s x : AX} (h : aop P n0 id fr H (.appendM sz bytes s x) k) : Fix P n0 id fr H (.appendM sz bytes s x) k := by
 simp only [aop] at h;generalize e1 : s.ev fr = v at h;generalize e2 : x.ev fr = u at h;unfold appendMK at h
 split at h
 next m =>
  obtain ⟨h1, h2, h3, h4, hg, h⟩ := h;refine fix2 rfl (by simp [AOp.cls, AOp.rd]) hg h (fun j hj _ _ => ⟨qaw fun e => hj e.symm, rfl⟩) (fun H2 k2 hl hg hk => ?_)
  simp only [aop]; rw [e1, e2]; exact ⟨h1, h2, h3, h4, hg, hk⟩
 next => cases h
theorem qhy {sz bytes : Nat} {s x : AX} (h : aop P n0 id fr H (.appendN sz bytes s x) k) : Fix P n0 id fr H (.appendN sz bytes s x) k := by
 simp only [aop] at h;unfold appendNK at h
 split at h
 next xs e =>
  obtain ⟨ys, e2, hfit, h⟩ := qd h
  by_cases hn : ys = []
  ·refine fix1 (by simp [AOp.cls, AOp.rd]) (h.1 hn) (fun _ _ _ => Fre.full) (fun k2 hk => ?_) (fun j H2 k2 _ hx hcl hs hk => ?_)
   ·simp only [aop]; rw [e]; simp only [appendNK, e2, exO]; exact ⟨hfit, fun _ => hk, fun hne => absurd hn hne⟩
   ·simp only [aop]; rw [e]; simp only [appendNK]
    rw [qaG hs (hx x (by simp [AOp.axs])), e2]
    exact ⟨hfit, fun _ => hk, fun hne => absurd hn hne⟩
  ·obtain ⟨hg, hk0⟩ := h.2 hn
   refine fix2 rfl (by simp [AOp.cls, AOp.rd]) hg hk0 (fun j hj _ _ => ⟨qaw fun e => hj e.symm, rfl⟩) (fun H2 k2 hl hg hk => ?_)
   simp only [aop]; rw [e]; simp only [appendNK]
   rcases hl with rfl | ⟨j, hx, hcl, hs⟩
   ·rw [e2]; exact ⟨hfit, fun hne => absurd hne hn, fun _ => ⟨hg, hk⟩⟩
   ·rw [qaG hs (hx x (by simp [AOp.axs])), e2]; exact ⟨hfit, fun hne => absurd hne hn, fun _ => ⟨hg, hk⟩⟩
 next b off len sz' e =>
  obtain ⟨rfl, h⟩ := h;obtain ⟨ys, e2, h⟩ := qd h;obtain ⟨xs, e3, hfit, h⟩ := qd h;have hsf : ∀ j, (∀ x' ∈ AOp.axs (.appendN sz bytes s x), Fre j (x'.ev fr)) -> Fre j (.sl b off len sz true) := fun j hx => by have := hx s (by simp [AOp.axs]); rw [e] at this; exact this
  by_cases hn : ys = []
  ·refine fix1 (by simp [AOp.cls, AOp.rd]) (h.1 hn) (fun j hx _ => hsf j hx) (fun k2 hk => ?_) (fun j H2 k2 _ hx hcl hs hk => ?_)
   ·simp only [aop]; rw [e]; simp only [appendNK, e2, e3, exO]; exact ⟨trivial, hfit, fun _ => hk, fun hne => absurd hn hne⟩
   ·simp only [aop]; rw [e]; simp only [appendNK]
    rw [qaG hs (hx x (by simp [AOp.axs])), qaG hs (hsf j hx), e2, e3]
    exact ⟨trivial, hfit, fun _ => hk, fun hne => absurd hn hne⟩
  ·obtain ⟨hg, hk0⟩ := h.2 hn
   refine fix2 rfl (by simp [AOp.cls, AOp.rd]) hg hk0 (fun j hj _ _ => ⟨qaw fun e => hj e.symm, rfl⟩) (fun H2 k2 hl hg hk => ?_)
   simp only [aop]; rw [e]; simp only [appendNK]
   rcases hl with rfl | ⟨j, hx, hcl, hs⟩
   ·rw [e2, e3]; exact ⟨trivial, hfit, fun hne => absurd hne hn, fun _ => ⟨hg, hk⟩⟩
   ·rw [qaG hs (hx x (by simp [AOp.axs])), qaG hs (hsf j hx), e2, e3]; exact ⟨trivial, hfit, fun hne => absurd hne hn, fun _ => ⟨hg, hk⟩⟩
 next => cases h
theorem qjW {sz : Nat} {f : FuncId} {args : List AX} (h : aop P n0 id fr H (.callN sz f args) k) : Fix P n0 id fr H (.callN sz f args) k := by
 simp only [aop] at h
 rcases h with h | h
 ·obtain ⟨as, h1, h2, h3, hg, h⟩ := h
  refine fix2 rfl (by simp [AOp.cls, AOp.rd]) hg h (fun j hj _ _ => ⟨qaw fun e => hj e.symm, rfl⟩) (fun H2 k2 hl hg hk => ?_)
  simp only [aop]; exact .inl ⟨as, h1, h2, h3, hg, hk⟩
 obtain ⟨as, xs, h1, h2, h3, h4, hg, h⟩ := h
 by_cases hn : xs = []
 ·rw [if_pos hn] at h
  refine fix1 (by simp [AOp.cls, AOp.rd]) h (fun _ _ _ => Fre.full) (fun k2 hk => ?_) (fun j H2 k2 hj hx hcl hs hk => ?_)
  ·simp only [aop]; exact .inr ⟨as, xs, h1, h2, h3, h4, hg, by rw [if_pos hn]; exact hk⟩
  ·simp only [aop]; exact .inr ⟨as, xs, h1, h2, h3, h4, by rw [hs.2 id fun e => hj e.symm]; exact hg, by rw [if_pos hn]; exact hk⟩
 ·rw [if_neg hn] at h
  refine fix2 rfl (by simp [AOp.cls, AOp.rd]) hg h (fun j hj _ _ => ⟨qaw fun e => hj e.symm, rfl⟩) (fun H2 k2 hl hg hk => ?_)
  simp only [aop]; exact .inr ⟨as, xs, h1, h2, h3, h4, hg, by rw [if_neg hn]; exact hk⟩
theorem qgr {off n : Nat} {g : Bool} {B : Option ABlock} (h : ldOB H off n g k B) : ∃ cs, B = some (.obj cs) /\ partL H cs off n k g := by
 unfold ldOB at h
 split at h
 ·exact ⟨_, rfl, h⟩
 ·cases h
theorem qjX {n : Nat} {g : Bool} {x : AX} (h : aop P n0 id fr H (.loadO n g x) k) : Fix P n0 id fr H (.loadO n g x) k := by
 simp only [aop] at h;unfold ldOK at h
 split at h
 next cs e =>
  obtain ⟨u, h1, h2, h3⟩ := qbZ h;exact fix0 h1 (fun j _ => h2 j) (fun H2 k2 hk => by simp only [aop]; rw [e]; exact h3 H2 k2 hk)
 next b off e =>
  obtain ⟨cs, hB, hp⟩ := qgr h;obtain ⟨u, h1, h2, h3⟩ := qdo hp;have hb : ∀ j, (∀ x' ∈ AOp.axs (.loadO n g x), Fre j (x'.ev fr)) -> b ≠ j := fun j hx => by have := hx x (by simp [AOp.axs]); rw [e] at this; exact this.loc
  have fin : ∀ (H2 : List ABlock) (k2 : AK), H2[b]? = some (.obj cs) -> k2 u H2 none True -> aop P n0 id fr H2 (.loadO n g x) k2 := fun H2 k2 hB2 hk => by
   simp only [aop]; rw [e]; simp only [ldOK, hB2, ldOB]; exact h3 H2 k2 hk
  refine ⟨u, True, none, h1, by simp, fun j _ hx hc => ⟨h2 j (qaF hc (hb j hx) hB), by simp⟩, fun H2 k2 hl hk => ?_⟩
  rcases hl with rfl | hl | ⟨j, hj, hx, hcl, hs⟩ | ⟨_, hs⟩
  ·exact fin _ k2 hB hk
  ·simp [AOp.cls] at hl
  ·exact fin H2 k2 (by rw [hs.2 b (hb j hx)]; exact hB) hk
  ·rcases hs with hs | ⟨_, _, _, hs, _⟩
   ·exact fin H2 k2 ((hs b cs).1 hB) hk
   ·cases hs
 next => cases h
theorem qjY {n r : Nat} {g : Bool} {x : AX} (h : aop P n0 id fr H (.loadX n g x r) k) : Fix P n0 id fr H (.loadX n g x r) k := by
 simp only [aop] at h;obtain ⟨ha, h⟩ := h;generalize er : fget fr r = w at ha;unfold ldOK at h
 split at h
 next cs e =>
  rw [e] at ha
  cases w <;> exact ha.elim
 next b off e =>
  rw [e] at ha;obtain ⟨cs, hB, hp⟩ := qgr h;obtain ⟨u, h1, h2, h3⟩ := qdo hp;have hb : ∀ j, (∀ x' ∈ AOp.axs (.loadX n g x r), Fre j (x'.ev fr)) -> b ≠ j := fun j hx => by have := hx x (by simp [AOp.axs]); rw [e] at this; exact this.loc
  have fin : ∀ (H2 : List ABlock) (k2 : AK), H2[b]? = some (.obj cs) -> k2 u H2 none True -> aop P n0 id fr H2 (.loadX n g x r) k2 := fun H2 k2 hB2 hk => by
   simp only [aop]; rw [e, er]; simp only [ldOK, hB2, ldOB]; exact ⟨ha, h3 H2 k2 hk⟩
  refine ⟨u, True, none, h1, by simp, fun j _ hx hc => ⟨h2 j (qaF hc (hb j hx) hB), by simp⟩, fun H2 k2 hl hk => ?_⟩
  rcases hl with rfl | hl | ⟨j, hj, hx, hcl, hs⟩ | ⟨_, hs | ⟨r', b', off', hr, hb', hs⟩⟩
  ·exact fin _ k2 hB hk
  ·simp [AOp.cls] at hl
  ·exact fin H2 k2 (by rw [hs.2 b (hb j hx)]; exact hB) hk
  ·exact fin H2 k2 ((hs b cs).1 hB) hk
  ·cases hr
   rw [er] at hb';subst hb';exact fin H2 k2 (by rw [hs b (fun e => ha e.symm)]; exact hB) hk
 next => cases w <;> (try exact ha.elim) <;> exact h.elim
theorem qjZ {c : Bool} {ts : List Tag} {zero : SV} {m x : AX} (h : aop P n0 id fr H (.mgetS c ts zero m x) k) : Fix P n0 id fr H (.mgetS c ts zero m x) k := by
 simp only [aop] at h;unfold mgetSK at h
 split at h
 next ks vs e =>
  simp only [mgetK] at h;obtain ⟨kv, hkv, hko, hnd, h⟩ := qd h
  have fin : ∀ (u : SV) (ok : Bool), (∀ k2 : AK, ∀ H2, mgetI H2 c zero vs k2 (mFind kv ks) = mgetV H2 c u ok k2) -> Fix P n0 id fr H (.mgetS c ts zero m x) k := fun u ok hu => by
   rw [hu k H] at h
   cases c with
   | true =>
    exact fix0 h (fun _ _ => Fre.tup) (fun H2 k2 hk => by
     simp only [aop]; rw [e]; simp only [mgetSK, mgetK, hkv, exO]; exact ⟨hko, hnd, by rw [hu k2 H2]; exact hk⟩)
   | false =>
    exact fix0 h (fun _ _ => Fre.s) (fun H2 k2 hk => by
     simp only [aop]; rw [e]; simp only [mgetSK, mgetK, hkv, exO]; exact ⟨hko, hnd, by rw [hu k2 H2]; exact hk⟩)
  cases hf : mFind kv ks with
  | none => exact fin zero false fun k2 H2 => by rw [hf]; rfl
  | some i =>
   rw [hf] at h;simp only [mgetI] at h;obtain ⟨v, hv, _⟩ := qd h;exact fin v true fun k2 H2 => by rw [hf]; simp only [mgetI, hv, exO]
 next => cases h
theorem qj0 (h : aop P n0 id fr H .mkmap k) : Fix P n0 id fr H .mkmap k := by
 simp only [aop] at h;exact fix2 rfl (by simp [AOp.cls, AOp.rd]) h.1 h.2 (fun j hj _ _ => ⟨by have : id ≠ j := fun e => hj e.symm; simp [Fre, fgt, this], rfl⟩) (fun H2 k2 hl hg hk => by simp only [aop]; exact ⟨hg, hk⟩)
theorem qhN (hok : op.okc = true) (hc : op.cls <= 2) (h : aop P n0 id fr H op k) : Fix P n0 id fr H op k := by
 cases op with
 | mov => exact qmT h
 | pick => exact qlo h
 | alloc => exact qjV hok h
 | boxM => exact qlx h
 | boxS => exact qlp h
 | build => exact qjN hok h
 | buildSl => exact qhu h
 | load => exact qlv h
 | nilck => exact qjP h
 | arith => exact qjQ h
 | cmp => exact qmU h
 | bits => exact qlq h
 | div => exact qmV h
 | shift => exact qjR h
 | eql => exact qm5 h
 | not => exact qmW h
 | neg => exact qmX h
 | conv => exact qlr h
 | mkfn => exact qls h
 | slice => exact qjS h
 | sliceArr => exact qgq h
 | fieldAddr => exact qf3 h
 | field => exact qjT h
 | idxA => exact qlt h
 | idxArrA => exact qhv h
 | idx => exact qmY h
 | ext => exact qmZ h
 | call => exact qlw h
 | callv => exact qjU h
 | len => exact qm0 h
 | lenArr => exact qiC h
 | cap => exact qm1 h
 | appendN => exact qhy h
 | appendM => exact qhx h
 | callN => exact qjW h
 | max => exact qm2 h
 | min => exact qm3 h
 | mkslice => exact qhw h
 | loadO => exact qjX h
 | loadX => exact qjY h
 | mgetS => exact qjZ h
 | mkmap => exact qj0 h
 | sidx => exact qlu h
 | loadS => exact qjO h
 | dead => simp only [aop] at h; exact h.1.elim
 | buildR => exact qiD h
 | _ => simp [AOp.cls] at hc
end
theorem qcM {α : Type} {c : α} {cs xs : List α} {off : Nat} (h : c ∈ splice cs off xs) : c ∈ cs \/ c ∈ xs := by
 unfold splice at h
 rcases List.mem_append.1 h with h | h
 ·rcases List.mem_append.1 h with h | h
  ·exact .inl (List.mem_of_mem_take h)
  ·exact .inr h
 ·exact .inl (List.mem_of_mem_drop h)
theorem qar {j b : Nat} {H : List ABlock} {B : ABlock} (h : Clos j H) (hB : fgtB (· == j) B = B) : Clos j (H.set b B) := by
 intro c C hc hC;rw [List.getElem?_set] at hC
 split at hC
 ·split at hC
  ·cases hC; exact hB
  ·cases hC
 ·exact h c C hc hC
def FreshAt (j : Nat) (σ : AState) : Prop := (∀ t, Fre j (fget σ.fr t)) /\ Clos j σ.hp /\ σ.hp[j]? = some .gone
def Ste (P : Program) (n0 id : Nat) (fr : List LV) (H : List ABlock) (op : AOp) (k : AK) : Prop :=
 ∃ v f H', k v H' none f /\ H'.length = H.length /\ (∀ (k2 : AK), k2 v H' none f -> aop P n0 id fr H op k2) /\
  (∀ j, j ≠ id -> (∀ x ∈ op.axs, Fre j (x.ev fr)) -> Clos j H -> H[j]? = some .gone -> Fre j v /\ Clos j H' /\ H'[j]? = some .gone) /\ (op.wr = true -> SimO H H')
theorem SimO.refl (H : List ABlock) : SimO H H := fun _ _ => Iff.rfl
theorem SimO.symm {H H2 : List ABlock} (h : SimO H H2) : SimO H2 H := fun b cs => (h b cs).symm
theorem qaX {H : List ABlock} {b : Nat} {B B' : ABlock} (hB : H[b]? = some B) (h1 : ∀ cs, B ≠ .obj cs) (h2 : ∀ cs, B' ≠ .obj cs) : SimO H (H.set b B') := by
 intro i cs;rw [List.getElem?_set]
 by_cases e : b = i
 ·subst e
  rw [if_pos rfl, if_pos (List.getElem?_eq_some_iff.1 hB).1, hB];constructor
  ·intro h; cases h; exact absurd rfl (h1 cs)
  ·intro h; cases h; exact absurd rfl (h2 cs)
 ·rw [if_neg e]
section
variable {P : Program} {n0 id : Nat} {fr : List LV} {H : List ABlock} {op : AOp} {k : AK}
theorem qcN {g : Option ABlock} : (lay id g H).length = H.length := by cases g <;> simp [lay]
theorem qdR {g : Option ABlock} {b : Nat} (h : b ≠ id) : (lay id g H)[b]? = H[b]? := by
 cases g with
 | none => rfl
 | some B => simp only [lay]; rw [List.getElem?_set, if_neg (fun e => h e.symm)]
theorem qgs {op : AOp} (h : op.wr = true) : op.cls = 3 := by
 cases op <;> simp [AOp.wr] at h <;> rfl
theorem Fix.ste (hc2 : op.cls <= 2) (h : Fix P n0 id fr H op k) : Ste P n0 id fr H op k := by
 obtain ⟨v, f, g, hk, hg, hf, hall⟩ := h;refine ⟨v, f, lay id g H, hk, qcN, fun k2 hk2 => hall H k2 (.inl rfl) hk2, fun j hj hx hc hgone => ?_, fun hw => by have := qgs hw; omega⟩
 obtain ⟨h1, h2⟩ := hf j hj hx hc;refine ⟨h1, ?_, by rw [qdR hj]; exact hgone⟩
 cases g with
 | none => exact hc
 | some B => exact qar hc (h2 B rfl)
theorem qbH (hw : op.wr = false) {v : LV} {b : Nat} {B : ABlock} (hk : k v (H.set b B) none True) (hall : ∀ (k2 : AK), k2 v (H.set b B) none True -> aop P n0 id fr H op k2)
  (hf : ∀ j, (∀ x ∈ op.axs, Fre j (x.ev fr)) -> Clos j H -> Fre j v /\ fgtB (· == j) B = B /\ b ≠ j) : Ste P n0 id fr H op k :=
 ⟨v, True, _, hk, by simp, hall, fun j _ hx hc hg => by
  obtain ⟨h1, h2, h3⟩ := hf j hx hc;exact ⟨h1, qar hc h2, by rw [List.getElem?_set, if_neg h3]; exact hg⟩, fun h => by rw [hw] at h; cases h⟩
theorem qiE {n : Nat} {x y : AX} (h : aop P n0 id fr H (.storeR n x y) k) : Ste P n0 id fr H (.storeR n x y) k := by
 simp only [aop] at h;unfold stRK at h
 split at h
 next b off e =>
  have hb : ∀ j, (∀ x' ∈ AOp.axs (.storeR n x y), Fre j (x'.ev fr)) -> b ≠ j := fun j hx => by have := hx x (by simp [AOp.axs]); rw [e] at this; exact this.loc
  unfold stRB at h
  split at h
  next cs hB =>
   obtain ⟨sv, hsv, h1, h2, h⟩ := qd h;refine ⟨_, True, _, h, by simp, fun k2 hk => ?_, fun j _ hx hc hg => ⟨Fre.tup, qar hc rfl, by rw [List.getElem?_set, if_neg (hb j hx)]; exact hg⟩, fun _ => qaX hB (by simp) (by simp)⟩
   simp only [aop, e, stRK, hB, stRB, hsv, exO]; exact ⟨h1, h2, hk⟩
  next => cases h
 next => cases h
theorem qly {x : AX} (h : aop P n0 id fr H (.frzv x) k) : Ste P n0 id fr H (.frzv x) k := by
 simp only [aop] at h;generalize hv : x.ev fr = v at h;unfold frzvK at h
 split at h
 next b off len sz clip =>
  have hb : ∀ j, (∀ x' ∈ AOp.axs (.frzv x), Fre j (x'.ev fr)) -> b ≠ j := fun j hx => by have := hx x (by simp [AOp.axs]); rw [hv] at this; exact this.sl
  unfold frzvB at h
  split at h
  next cs hB =>
   obtain ⟨ys, h1, h5⟩ := h;refine ⟨_, True, _, h5, by simp, fun k2 hk => ?_, fun j _ hx hc hg => ⟨Fre.s, qar hc rfl, by rw [List.getElem?_set, if_neg (hb j hx)]; exact hg⟩, fun _ => qaX hB (by simp) (by simp)⟩
   simp only [aop, hv, frzvK, hB, frzvB]; exact ⟨ys, h1, hk⟩
  next => cases h
 next b =>
  unfold frzvM at h
  split at h
  next ks vs bs bm c hB =>
   refine ⟨_, True, _, h, by simp, fun k2 hk => ?_, fun j _ hx hc hg => ⟨by have := hx x (by simp [AOp.axs]); rw [hv] at this; exact this, qar hc rfl, ?_⟩, fun _ => qaX hB (by simp) (by simp)⟩
   ·simp only [aop, hv, frzvK, hB, frzvM]; exact hk
   ·rw [List.getElem?_set, if_neg (fun e => by subst e; rw [hB] at hg; cases hg)]; exact hg
  next => cases h
 next xs => exact ⟨_, True, H, h, rfl, fun k2 hk => by simp only [aop, hv, frzvK]; exact hk, fun j _ hx hc hg => ⟨Fre.s, hc, hg⟩, fun _ => SimO.refl H⟩
 next u => exact ⟨_, True, H, h, rfl, fun k2 hk => by simp only [aop, hv, frzvK]; exact hk, fun j _ hx hc hg => ⟨Fre.s, hc, hg⟩, fun _ => SimO.refl H⟩
 next => cases h
theorem qj1 {f : FuncId} {s : AX} {args : List AX} (h : aop P n0 id fr H (.callF f s args) k) : Ste P n0 id fr H (.callF f s args) k := by
 simp only [aop] at h
 have hcall : ∀ {v : LV}, s.ev fr = v -> callK P H f (v :: args.map (·.ev fr)) k -> (∀ k2 : AK, callK P H f (v :: args.map (·.ev fr)) k2 -> aop P n0 id fr H (.callF f s args) k2) -> Ste P n0 id fr H (.callF f s args) k := by
  intro v hv hc hk2;obtain ⟨as, rs, h1, h2, h3, h4⟩ := hc;refine ⟨_, True, H, h4, rfl, fun k2 hk => hk2 k2 ⟨as, rs, h1, h2, h3, hk⟩, fun j _ hx hc hg => ⟨?_, hc, hg⟩, fun _ => SimO.refl H⟩
  unfold LV.ofResults
  split <;> first | exact Fre.s | exact Fre.tup
 generalize hv : s.ev fr = v at h;unfold callFK at h
 split at h
 next b off len sz clip =>
  have hb : ∀ j, (∀ x' ∈ AOp.axs (.callF f s args), Fre j (x'.ev fr)) -> b ≠ j := fun j hx => by have := hx s (by simp [AOp.axs]); rw [hv] at this; exact this.sl
  unfold callFB at h
  split at h
  next cs hB =>
   obtain ⟨as, cs', o', l', c', ys, h1, h2, h3, h4, h5⟩ := h;refine ⟨_, True, _, h5, by simp, fun k2 hk => ?_, fun j _ hx hc hg => ⟨Fre.s, qar hc rfl, by rw [List.getElem?_set, if_neg (hb j hx)]; exact hg⟩, fun _ => qaX hB (by simp) (by simp)⟩
   simp only [aop, hv, callFK, hB, callFB]; exact ⟨as, cs', o', l', c', ys, h1, h2, h3, h4, hk⟩
  next => cases h
 next xs => exact hcall hv h fun k2 hk => by simp only [aop, hv, callFK]; exact hk
 next u => exact hcall hv h fun k2 hk => by simp only [aop, hv, callFK]; exact hk
 next => cases h
theorem qj2 {n : Nat} {x y : AX} (h : aop P n0 id fr H (.store n x y) k) : Ste P n0 id fr H (.store n x y) k := by
 simp only [aop] at h;unfold stK at h
 split at h
 next b off e =>
  have hb : ∀ j, (∀ x' ∈ AOp.axs (.store n x y), Fre j (x'.ev fr)) -> b ≠ j := fun j hx => by have := hx x (by simp [AOp.axs]); rw [e] at this; exact this.loc
  unfold stB at h
  split at h
  next cs hB =>
   obtain ⟨xs, hxs, h1, h2, h⟩ := qd h;refine qbH rfl h (fun k2 hk => ?_) (fun j hx hc => ⟨Fre.tup, qaW fun c hcc => ?_, hb j hx⟩)
   ·simp only [aop, e, stK, hB, stB, hxs, exO]; exact ⟨h1, h2, hk⟩
   ·rcases qcM hcc with hcc | hcc
    ·exact qaF hc (hb j hx) hB c hcc
    ·exact qfm (hx y (by simp [AOp.axs])) hxs c hcc
  next cs hB =>
   obtain ⟨sv, hsv, h1, h2, h⟩ := qd h;refine qbH rfl h (fun k2 hk => ?_) (fun j hx hc => ⟨Fre.tup, rfl, hb j hx⟩)
   simp only [aop, e, stK, hB, stB, hsv, exO]; exact ⟨h1, h2, hk⟩
  next => cases h
 next => cases h
theorem qfn {j : Nat} {xs : List SV} : ∀ c ∈ xs.map LV.s, Fre j c := by
 intro c hc;obtain ⟨a, _, rfl⟩ := List.mem_map.1 hc;exact Fre.s
theorem qlz {sz : Nat} {x y : AX} (h : aop P n0 id fr H (.copy sz x y) k) : Ste P n0 id fr H (.copy sz x y) k := by
 simp only [aop] at h;unfold copyK at h
 split at h
 next b off len sz' c e =>
  have hb : ∀ j, (∀ x' ∈ AOp.axs (.copy sz x y), Fre j (x'.ev fr)) -> b ≠ j := fun j hx => by have := hx x (by simp [AOp.axs]); rw [e] at this; exact this.sl
  obtain ⟨rfl, h⟩ := h;obtain ⟨ys, hys, h1, h⟩ := qd h;unfold copyB at h
  split at h
  next cs hB =>
   refine qbH rfl h.2 (fun k2 hk => ?_) (fun j hx hc => ⟨Fre.s, rfl, hb j hx⟩)
   simp only [aop, e, copyK, hys, exO, hB, copyB]; exact ⟨trivial, h1, h.1, hk⟩
  next cs hB =>
   refine qbH rfl h.2 (fun k2 hk => ?_) (fun j hx hc => ⟨Fre.s, qaW fun c hcc => ?_, hb j hx⟩)
   ·simp only [aop, e, copyK, hys, exO, hB, copyB]; exact ⟨trivial, h1, h.1, hk⟩
   ·rcases qcM hcc with hcc | hcc
    ·exact qaF hc (hb j hx) hB c hcc
    ·exact qfn c hcc
  next => cases h
 next e =>
  obtain ⟨ys, hys, h⟩ := qd h;exact ⟨_, _, H, h, rfl, fun k2 hk => by simp only [aop, e, copyK, hys, exO]; exact hk, fun j _ hx hc hg => ⟨Fre.s, hc, hg⟩, fun h => by cases h⟩
 next => cases h
theorem qj3 {sz : Nat} {zero : List SV} {x : AX} (h : aop P n0 id fr H (.clear sz zero x) k) : Ste P n0 id fr H (.clear sz zero x) k := by
 simp only [aop] at h;unfold clearK at h
 split at h
 next b off len sz' c e =>
  have hb : ∀ j, (∀ x' ∈ AOp.axs (.clear sz zero x), Fre j (x'.ev fr)) -> b ≠ j := fun j hx => by have := hx x (by simp [AOp.axs]); rw [e] at this; exact this.sl
  obtain ⟨rfl, h1, h⟩ := h;unfold clearB at h
  split at h
  next cs hB =>
   refine qbH rfl h.2 (fun k2 hk => ?_) (fun j hx hc => ⟨Fre.tup, rfl, hb j hx⟩)
   simp only [aop, e, clearK, hB, clearB]; exact ⟨trivial, h1, h.1, hk⟩
  next cs hB =>
   refine qbH rfl h.2 (fun k2 hk => ?_) (fun j hx hc => ⟨Fre.tup, qaW fun c hcc => ?_, hb j hx⟩)
   ·simp only [aop, e, clearK, hB, clearB]; exact ⟨trivial, h1, h.1, hk⟩
   ·rcases qcM hcc with hcc | hcc
    ·exact qaF hc (hb j hx) hB c hcc
    ·exact qfn c hcc
  next => cases h
 next e => exact ⟨_, _, H, h, rfl, fun k2 hk => by simp only [aop, e, clearK]; exact hk, fun j _ hx hc hg => ⟨Fre.tup, hc, hg⟩, fun h => by cases h⟩
 next => cases h
theorem qhz {sz bytes : Nat} {y x : AX} (h : aop P n0 id fr H (.appendZ sz bytes y x) k) : Ste P n0 id fr H (.appendZ sz bytes y x) k := by
 simp only [aop] at h;generalize hu : x.ev fr = u at h;generalize hv : y.ev fr = v at h;unfold appendZK at h
 split at h
 next b off len sz' clip =>
  have hb : ∀ j, (∀ x' ∈ AOp.axs (.appendZ sz bytes y x), Fre j (x'.ev fr)) -> b ≠ j := fun j hx => by have := hx y (by simp [AOp.axs]); rw [hv] at this; exact this.sl
  obtain ⟨h0, h⟩ := h;obtain ⟨ys, hys, hyl, h⟩ := qd h;unfold appendZB at h
  split at h
  next cs hB =>
   obtain ⟨h1, h2, h3, h4, h5, xs, h6, h7, h8⟩ := h;refine ⟨_, True, _, h8, by simp, fun k2 hk => ?_, fun j _ hx hc hg => ⟨Fre.s, qar hc rfl, by rw [List.getElem?_set, if_neg (hb j hx)]; exact hg⟩, fun _ => qaX hB (by simp) (by simp)⟩
   simp only [aop, hu, hv, appendZK, hys, exO, hB, appendZB]; exact ⟨h0, hyl, h1, h2, h3, h4, h5, xs, h6, h7, hk⟩
  next => cases h
 next xs =>
  obtain ⟨ys, hys, h1, h2, h3⟩ := qd h;refine ⟨_, True, H, h3, rfl, fun k2 hk => ?_, fun j _ hx hc hg => ⟨Fre.s, hc, hg⟩, fun _ => SimO.refl H⟩
  simp only [aop, hu, hv, appendZK, hys, exO]; exact ⟨h1, h2, hk⟩
 next => cases h
theorem qhA {sz bytes : Nat} {y x : AX} (h : aop P n0 id fr H (.appendY sz bytes y x) k) : Ste P n0 id fr H (.appendY sz bytes y x) k := by
 simp only [aop] at h;generalize hu : x.ev fr = u at h;generalize hv : y.ev fr = v at h;unfold appendYK at h
 split at h
 next b off len sz' =>
  have hb : ∀ j, (∀ x' ∈ AOp.axs (.appendY sz bytes y x), Fre j (x'.ev fr)) -> b ≠ j := fun j hx => by have := hx y (by simp [AOp.axs]); rw [hv] at this; exact this.sl
  obtain ⟨h0, hnb, h⟩ := h;obtain ⟨ys, hys, hyl, h⟩ := qd h;unfold appendYB at h
  split at h
  next cs hB =>
   obtain ⟨h1, h2, h3, h4, hgi, h8⟩ := h;have hbi : b ≠ id := fun e => by subst e; rw [hgi] at hB; cases hB
   refine ⟨_, True, _, h8, by simp, fun k2 hk => ?_, fun j hj hx hc hg => ⟨qaw (Ne.symm hj), qar (qar hc rfl) rfl, ?_⟩, fun _ cs' i => ?_⟩
   ·simp only [aop, hu, hv, appendYK, hys, exO, hB, appendYB]; exact ⟨h0, hnb, hyl, h1, h2, h3, h4, hgi, hk⟩
   ·rw [List.getElem?_set_ne (Ne.symm hj), List.getElem?_set_ne (hb j hx)]; exact hg
   ·exact (qaX hB (by simp) (by simp) cs' i).trans (qaX (by rw [List.getElem?_set_ne hbi]; exact hgi) (by simp) (by simp) cs' i)
  next => cases h
 next => cases h
theorem qhO (hok : op.okc = true) (hc : op.cls <= 3) (h : aop P n0 id fr H op k) : Ste P n0 id fr H op k := by
 by_cases h2 : op.cls <= 2
 ·exact (qhN hok h2 h).ste h2
 ·cases op with
  | store => exact qj2 h
  | copy => exact qlz h
  | clear => exact qj3 h
  | storeR => exact qiE h
  | callF => exact qj1 h
  | frzv => exact qly h
  | appendZ => exact qhz h
  | appendY => exact qhA h
  | mget => simp [AOp.cls] at hc
  | mset => simp [AOp.cls] at hc
  | mdel => simp [AOp.cls] at hc
  | mlen => simp [AOp.cls] at hc
  | rangeM => simp [AOp.cls] at hc
  | nextM => simp [AOp.cls] at hc
  | entryM => simp [AOp.cls] at hc
  | callR => simp [AOp.cls] at hc
  | append => simp [AOp.cls] at hc
  | eqNil => simp [AOp.cls] at hc
  | callI => simp [AOp.cls] at hc
  | _ => simp [AOp.cls] at h2
end
def actG (want : Bool) : LV -> Option Bool
 | .s (.bool b) => some (b == want)
 | .tup [] => some false
 | _ => none
def actO (x : AOper) (fr : List LV) : Option Bool :=
 match x.guard with
 | none => some true
 | some (g, want) => actG want (fget fr g)
def fpt (fr : List LV) (dst : Option Nat) (v : LV) : List LV :=
 match dst with
 | some d => fset fr d v
 | none => fr
noncomputable def stpG (P : Program) (n0 id : Nat) (x : AOper) (σ : AState) (F : Prop) (K : AState -> Prop -> Prop) : Option Bool -> Prop
 | some true => aop P n0 id σ.fr σ.hp x.op fun v H kl f => K (AState.put σ.fr H x.dst v kl) (F /\ f)
 | some false => K (AState.put σ.fr σ.hp x.dst (.tup []) none) F
 | none => False
noncomputable def stp (P : Program) (n0 id : Nat) (x : AOper) (σ : AState) (F : Prop) (K : AState -> Prop -> Prop) : Prop := stpG P n0 id x σ F K (actO x σ.fr)
noncomputable def runI (P : Program) (n0 : Nat) : List (Nat × AOper) -> AState -> Prop -> (AState -> Prop -> Prop) -> Prop
 | [], σ, F, k => k σ F
 | (id, x) :: l, σ, F, k => stp P n0 id x σ F fun τ F' => runI P n0 l τ F' k
theorem qn {fr : List LV} {H : List ABlock} {dst : Option Nat} {v : LV} : AState.put fr H dst v none = ⟨fpt fr dst v, H⟩ := by
 cases dst <;> rfl
theorem qfo : ∀ (fr : List LV) (g : Nat), fset fr g (fget fr g) = fr
 | [], _ => rfl
 | _ :: _, 0 => rfl
 | v :: vs, n + 1 => by simp only [fset, fget, qfo vs n]
theorem qbQ : ∀ (fr : List LV) {d t : Nat} (v : LV), t ≠ d -> fget (fset fr d v) t = fget fr t
 | [], _, _, _, _ => rfl
 | _ :: _, 0, 0, _, h => absurd rfl h
 | _ :: _, 0, _ + 1, _, _ => rfl
 | _ :: _, _ + 1, 0, _, _ => rfl
 | _ :: vs, d + 1, t + 1, v, h => by simp only [fset, fget]; exact qbQ vs v (by omega)
theorem qfp : ∀ (fr : List LV) (d t : Nat) (v : LV), fget (fset fr d v) t = fget fr t \/ fget (fset fr d v) t = v
 | [], _, _, _ => .inl rfl
 | _ :: _, 0, 0, _ => .inr rfl
 | _ :: _, 0, _ + 1, _ => .inl rfl
 | _ :: _, _ + 1, 0, _ => .inl rfl
 | _ :: vs, d + 1, t + 1, v => by simp only [fset, fget]; exact qfp vs d t v
theorem qfq : ∀ (fr : List LV) {d e : Nat} (v u : LV), d ≠ e -> fset (fset fr d v) e u = fset (fset fr e u) d v
 | [], _, _, _, _, _ => rfl
 | _ :: _, 0, 0, _, _, h => absurd rfl h
 | _ :: _, 0, _ + 1, _, _, _ => rfl
 | _ :: _, _ + 1, 0, _, _, _ => rfl
 | _ :: vs, d + 1, e + 1, v, u, h => by simp only [fset]; rw [qfq vs v u (by omega)]
theorem qlA {fr : List LV} {x y : Option Nat} {v u : LV} (h : ∀ d, x = some d -> y ≠ some d) : fpt (fpt fr x v) y u = fpt (fpt fr y u) x v := by
 cases x with
 | none => rfl
 | some d =>
  cases y with
  | none => rfl
  | some e => exact qfq fr v u fun h' => h d rfl (by rw [h'])
theorem qfr {fr : List LV} {x : Option Nat} {v : LV} {s : List Nat} (h : ∀ d, x = some d -> d ∉ s) : Agree fr (fpt fr x v) s := by
 intro t ht
 cases x with
 | none => rfl
 | some d => exact qbQ fr v fun e => h d rfl (e ▸ ht)
theorem Agree.symm {fr fr2 : List LV} {s : List Nat} (h : Agree fr fr2 s) : Agree fr2 fr s := fun t ht => (h t ht).symm
theorem qfs : ∀ {op : AOp} {fr fr2 : List LV}, Agree fr fr2 op.slots -> ∀ x ∈ op.axs, x.ev fr2 = x.ev fr := by
 intro op fr fr2 h x hx;have mem : ∀ {xs : List AX}, x ∈ xs -> ∀ t ∈ x.slots, t ∈ xs.flatMap (·.slots) := fun hx t ht => List.mem_flatMap.2 ⟨x, hx, ht⟩
 refine Agree.ev fun t ht => h t ?_
 have memO : ∀ {y : Option AX}, x ∈ AX.listO y -> t ∈ AX.slotsO y := by
  intro y hy
  cases y with
  | none => simp [AX.listO] at hy
  | some y => simp only [AX.listO, List.mem_singleton] at hy; subst hy; exact ht
 cases op <;> simp only [AOp.axs, AOp.slots] at hx ⊢
 case build z ps =>
  obtain ⟨p, hp, rfl⟩ := List.mem_map.1 hx;exact List.mem_flatMap.2 ⟨p, hp, ht⟩
 case buildSl a b c ps =>
  obtain ⟨p, hp, rfl⟩ := List.mem_map.1 hx;exact List.mem_flatMap.2 ⟨p, hp, ht⟩
 case buildR a b c ps =>
  obtain ⟨p, hp, rfl⟩ := List.mem_map.1 hx;exact List.mem_flatMap.2 ⟨p, hp, ht⟩
 case mkfn =>
  rcases List.mem_append.1 hx with hx | hx
  ·exact List.mem_append_left _ (mem hx t ht)
  ·exact List.mem_append_right _ (mem hx t ht)
 case slice =>
  rcases List.mem_append.1 hx with hx | hx
  ·rcases List.mem_append.1 hx with hx | hx
   ·rcases List.mem_cons.1 hx with rfl | hx
    ·simp [ht]
    ·simp [memO hx]
   ·simp [memO hx]
  ·simp [memO hx]
 case sliceArr =>
  rcases List.mem_append.1 hx with hx | hx
  ·rcases List.mem_cons.1 hx with rfl | hx
   ·simp [ht]
   ·simp [memO hx]
  ·simp [memO hx]
 case loadX =>
  simp only [List.mem_cons, List.not_mem_nil, or_false] at hx
  rcases hx with rfl | rfl
  ·simp [ht]
  ·exact List.mem_append_right _ ht
 case call => exact mem hx t ht
 case callI => exact mem hx t ht
 case callN => exact mem hx t ht
 case callR => exact mem hx t ht
 case max => exact mem hx t ht
 case min => exact mem hx t ht
 case callv =>
  rcases List.mem_cons.1 hx with rfl | hx
  ·simp [ht]
  ·exact List.mem_append_right _ (mem hx t ht)
 case callF =>
  rcases List.mem_cons.1 hx with rfl | hx
  ·simp [ht]
  ·exact List.mem_append_right _ (mem hx t ht)
 all_goals
  simp only [List.mem_cons, List.not_mem_nil, or_false] at hx <;> first
   | (subst hx; simp [ht]; done)
   | (rcases hx with rfl | rfl <;> simp [ht]; done)
   | (rcases hx with rfl | rfl | rfl <;> simp [ht]; done)
section
variable {P : Program} {n0 : Nat}
theorem qz {x : AOper} {fr fr2 : List LV} (h : Agree fr fr2 x.reads) : actO x fr2 = actO x fr := by
 unfold actO;unfold AOper.reads at h
 cases hg : x.guard with
 | none => rfl
 | some p =>
  obtain ⟨g, want⟩ := p;rw [hg] at h;simp only;rw [h g (by simp)]
theorem qag {x : AOper} {fr fr2 : List LV} (h : Agree fr fr2 x.reads) : Agree fr fr2 x.op.slots := Agree.right h
theorem qcl {op : AOp} {fr : List LV} {j : Nat} (hok : op.okc = true) (h : ∀ t, Fre j (fget fr t)) : ∀ x ∈ op.axs, Fre j (x.ev fr) := by
 intro x hx;simp only [AOp.okc, Bool.and_eq_true, List.all_eq_true] at hok;have := hok.1 x hx
 cases x with
 | t n => exact h n
 | c v => exact qjM this
theorem qhP {fr : List LV} {dst : Option Nat} {v : LV} {j : Nat} (h : ∀ t, Fre j (fget fr t)) (hv : Fre j v) : ∀ t, Fre j (fget (fpt fr dst v) t) := by
 intro t
 cases dst with
 | none => exact h t
 | some d => rcases qfp fr d t v with e | e <;> simp only [fpt] <;> rw [e]; exact h t; exact hv
theorem qcm {id : Nat} {x : AOper} {σ : AState} {F : Prop} {K : AState -> Prop -> Prop} (hok : x.op.okc = true) (hc : x.op.cls <= 3) (h : stp P n0 id x σ F K) :
  ∃ v f H', K ⟨fpt σ.fr x.dst v, H'⟩ (F /\ f) /\
   (∀ (σ2 : AState) (F2 : Prop) (K2 : AState -> Prop -> Prop), Agree σ.fr σ2.fr x.reads -> σ2.hp = σ.hp -> K2 ⟨fpt σ2.fr x.dst v, H'⟩ (F2 /\ f) -> stp P n0 id x σ2 F2 K2) /\
   (∀ j, j ≠ id -> FreshAt j σ -> FreshAt j ⟨fpt σ.fr x.dst v, H'⟩) /\ (x.op.wr = true -> SimO σ.hp H') := by
 unfold stp at h
 cases ha : actO x σ.fr with
 | none => rw [ha] at h; exact h.elim
 | some b =>
  rw [ha] at h
  cases b with
  | false =>
   simp only [stpG, qn] at h;refine ⟨.tup [], True, σ.hp, by rw [and_true]; exact h, fun σ2 F2 K2 hag hh hk => ?_, fun j _ hf => ⟨qhP hf.1 Fre.tup, hf.2⟩, fun _ => SimO.refl _⟩
   unfold stp;rw [qz hag, ha];simp only [stpG, qn];rw [and_true] at hk;rw [hh]; exact hk
  | true =>
   simp only [stpG] at h;obtain ⟨v, f, H', hk, hl, hall, hfr, hsim⟩ := qhO hok hc h;rw [qn] at hk;refine ⟨v, f, H', hk, fun σ2 F2 K2 hag hh hk2 => ?_, fun j hj hf => ?_, hsim⟩
   ·unfold stp
    rw [qz hag, ha];simp only [stpG];rw [qbs (qag hag), hh];exact hall _ (by rw [qn]; exact hk2)
   ·obtain ⟨h1, h2, h3⟩ := hfr j hj (qcl hok hf.1) hf.2.1 hf.2.2
    exact ⟨qhP hf.1 h1, h2, h3⟩
theorem qa5 {id : Nat} {x : AOper} {σ : AState} {F : Prop} {K : AState -> Prop -> Prop} (hok : x.op.okc = true) (hc : x.op.cls <= 2) (h : stp P n0 id x σ F K) :
  ∃ v f g, K ⟨fpt σ.fr x.dst v, lay id g σ.hp⟩ (F /\ f) /\ (g.isSome = true -> x.op.takes = true) /\
   (∀ (σ2 : AState) (F2 : Prop) (K2 : AState -> Prop -> Prop), Agree σ.fr σ2.fr x.reads -> (σ2.hp = σ.hp \/ x.op.cls = 0 \/ (∃ j, j ≠ id /\ (∀ a ∈ x.op.axs, Fre j (a.ev σ.fr)) /\ Clos j σ.hp /\ Sim j σ.hp σ2.hp) \/ (x.op.rd = true /\ (SimO σ.hp σ2.hp \/ Apart x.op σ.fr σ.hp σ2.hp))) ->
    K2 ⟨fpt σ2.fr x.dst v, lay id g σ2.hp⟩ (F2 /\ f) -> stp P n0 id x σ2 F2 K2) := by
 unfold stp at h
 cases ha : actO x σ.fr with
 | none => rw [ha] at h; exact h.elim
 | some b =>
  rw [ha] at h
  cases b with
  | false =>
   simp only [stpG, qn] at h;refine ⟨.tup [], True, none, by rw [and_true]; exact h, by simp, fun σ2 F2 K2 hag _ hk => ?_⟩
   unfold stp;rw [qz hag, ha];simp only [stpG, qn];rw [and_true] at hk;exact hk
  | true =>
   simp only [stpG] at h;obtain ⟨v, f, g, hk, hg, hfr, hall⟩ := qhN hok hc h;rw [qn] at hk;refine ⟨v, f, g, hk, fun h => (hg h).1, fun σ2 F2 K2 hag hl hk2 => ?_⟩
   unfold stp;rw [qz hag, ha];simp only [stpG];rw [qbs (qag hag)];exact hall _ _ hl (by rw [qn]; exact hk2)
theorem qx {F f g : Prop} : ((F /\ f) /\ g) = ((F /\ g) /\ f) := by
 apply propext; constructor <;> rintro ⟨⟨a, b⟩, c⟩ <;> exact ⟨⟨a, c⟩, b⟩
theorem qlB {i j : Nat} (h : i ≠ j) {g g' : Option ABlock} {H : List ABlock} : lay j g' (lay i g H) = lay i g (lay j g' H) := by
 cases g <;> cases g' <;> simp only [lay]
 exact List.set_comm _ _ (fun e => h e)
theorem qdp {op : AOp} (h : op.takes = true) : 2 <= op.cls := by
 cases op <;> simp only [AOp.takes] at h <;> first | (cases h; done) | simp [AOp.cls]
theorem qj4 {x y : AOper} (h : x.tied y = false) : x.op.cls ≠ 4 /\ y.op.cls ≠ 4 /\ (x.op.cls = 3 -> y.op.cls = 0 \/ (x.op.wr = true /\ y.op.rd = true) \/ x.op.part y.op = true \/ (x.op.az = true /\ y.op.al = true) \/ (x.op.ay = true /\ y.op.ay = true)) /\ (y.op.cls = 3 -> x.op.cls = 0 \/ (y.op.wr = true /\ x.op.rd = true) \/ y.op.part x.op = true \/ (x.op.ay = true /\ y.op.ay = true)) /\ (∀ d, x.dst = some d -> d ∉ y.reads /\ y.dst ≠ some d) /\ (∀ d, y.dst = some d -> d ∉ x.reads) := by
 simp only [AOper.tied, Bool.or_eq_false_iff, beq_eq_false_iff_ne, Bool.and_eq_false_iff, decide_eq_false_iff_not, Bool.not_eq_false', Bool.and_eq_true, Bool.or_eq_true] at h;obtain ⟨⟨⟨⟨⟨h1, h2⟩, h3⟩, h4⟩, h5⟩, h6⟩ := h;refine ⟨h1, h2, fun e => ?_, fun e => ?_, fun d hd => ?_, fun d hd => ?_⟩
 ·rcases h3 with (h3 | h3) | h3
  ·exact absurd e h3
  ·exact .inl (by omega)
  ·exact .inr h3
 ·rcases h4 with (h4 | h4) | h4
  ·exact .inl (by omega)
  ·exact absurd e h4
  ·exact .inr h4
 ·simp only [hd, Bool.or_eq_false_iff, beq_eq_false_iff_ne] at h5
  exact ⟨fun hm => absurd (List.contains_iff_mem.2 hm) (by rw [h5.1]; simp), h5.2⟩
 ·simp only [hd] at h6
  exact fun hm => by have := List.contains_iff_mem.2 hm; rw [h6] at this; cases this
theorem qm6 {P : Program} {id : Nat} {fr : List LV} {H : List ABlock} {n r : Nat} {y : AX} {k : AK} (h : aop P n0 id fr H (.store n (.t r) y) k) :
  ∃ H', k (.tup []) H' none True /\ (∀ k2 : AK, k2 (.tup []) H' none True -> aop P n0 id fr H (.store n (.t r) y) k2) /\ ∃ b off, fget fr r = .loc b off /\ ∀ c, c ≠ b -> H'[c]? = H[c]? := by
 simp only [aop, AX.ev] at h;unfold stK at h
 split at h
 next b off e =>
  unfold stB at h
  split at h
  next cs hB =>
   obtain ⟨xs, hxs, h1, h2, h⟩ := qd h;refine ⟨_, h, fun k2 hk => ?_, b, off, e, fun c hc => by rw [List.getElem?_set_ne (Ne.symm hc)]⟩
   simp only [aop, AX.ev, e, stK, hB, stB, hxs, exO]; exact ⟨h1, h2, hk⟩
  next cs hB =>
   obtain ⟨sv, hsv, h1, h2, h⟩ := qd h;refine ⟨_, h, fun k2 hk => ?_, b, off, e, fun c hc => by rw [List.getElem?_set_ne (Ne.symm hc)]⟩
   simp only [aop, AX.ev, e, stK, hB, stB, hsv, exO]; exact ⟨h1, h2, hk⟩
  next => cases h
 next => cases h
theorem qhQ {id r : Nat} {x : AOper} {σ : AState} {F : Prop} {K : AState -> Prop -> Prop} (hx : x.op.stx = some r) (h : stp P n0 id x σ F K) :
  ∃ v f H', K ⟨fpt σ.fr x.dst v, H'⟩ (F /\ f) /\
   (∀ (σ2 : AState) (F2 : Prop) (K2 : AState -> Prop -> Prop), Agree σ.fr σ2.fr x.reads -> σ2.hp = σ.hp -> K2 ⟨fpt σ2.fr x.dst v, H'⟩ (F2 /\ f) -> stp P n0 id x σ2 F2 K2) /\
   (H' = σ.hp \/ ∃ b off, fget σ.fr r = .loc b off /\ ∀ c, c ≠ b -> H'[c]? = σ.hp[c]?) := by
 unfold stp at h
 cases ha : actO x σ.fr with
 | none => rw [ha] at h; exact h.elim
 | some b =>
  rw [ha] at h
  cases b with
  | false =>
   simp only [stpG, qn] at h;refine ⟨.tup [], True, σ.hp, by rw [and_true]; exact h, fun σ2 F2 K2 hag hh hk => ?_, .inl rfl⟩
   unfold stp;rw [qz hag, ha];simp only [stpG, qn];rw [and_true] at hk;rw [hh]; exact hk
  | true =>
   simp only [stpG] at h
   obtain ⟨n, y, e⟩ : ∃ n y, x.op = .store n (.t r) y := by
    cases hop : x.op <;> rw [hop] at hx <;> simp only [AOp.stx] at hx <;> try (cases hx; done)
    rename_i n a y
    cases a <;> simp only [Option.some.injEq] at hx <;> try (cases hx; done)
    subst hx; exact ⟨n, y, rfl⟩
   have hs := fun (fr2 : List LV) (k2 : AK) (hag : Agree σ.fr fr2 x.reads) => qbs (P := P) (n0 := n0) (id := id) (H := σ.hp) (k := k2) (qag hag)
   rw [e] at h hs;obtain ⟨H', hk, hall, hd⟩ := qm6 h;rw [qn] at hk;refine ⟨.tup [], True, H', hk, fun σ2 F2 K2 hag hh hk2 => ?_, .inr hd⟩
   unfold stp;rw [qz hag, ha];simp only [stpG];rw [hh, e, hs _ _ hag];exact hall _ (by rw [qn]; exact hk2)
theorem qod {id : Nat} {fr : List LV} {H : List ABlock} {sz bytes : Nat} {y x : AX} {k : AK} (h : aop P n0 id fr H (.appendZ sz bytes y x) k) :
  ∃ v f H', k v H' none f /\ (∀ k2 : AK, k2 v H' none f -> aop P n0 id fr H (.appendZ sz bytes y x) k2) /\
   ∀ (j : Nat) (B : ABlock) (k2 : AK), Fre j (y.ev fr) -> Fre j (x.ev fr) -> k2 v (H'.set j B) none f -> aop P n0 id fr (H.set j B) (.appendZ sz bytes y x) k2 := by
 simp only [aop] at h;generalize hu : x.ev fr = u at h;generalize hv : y.ev fr = v at h;have hsim : ∀ (j : Nat) (B : ABlock), Fre j u -> elemsOf (H.set j B) u = elemsOf H u := fun j B hf => qaG (j := j) ⟨by simp, fun b hb => by rw [List.getElem?_set_ne (Ne.symm hb)]⟩ hf
 unfold appendZK at h
 split at h
 next b off len sz' clip =>
  obtain ⟨h0, h⟩ := h;obtain ⟨ys, hys, hyl, h⟩ := qd h;unfold appendZB at h
  split at h
  next cs hB =>
   obtain ⟨h1, h2, h3, h4, h5, xs, h6, h7, h8⟩ := h;refine ⟨_, True, _, h8, fun k2 hk => ?_, fun j B k2 hf1 hf2 hk => ?_⟩
   ·simp only [aop, hu, hv, appendZK, hys, exO, hB, appendZB]; exact ⟨h0, hyl, h1, h2, h3, h4, h5, xs, h6, h7, hk⟩
   ·have hbj : b ≠ j := hf1.sl
    have hB2 : (H.set j B)[b]? = some (.row cs) := by rw [List.getElem?_set_ne (Ne.symm hbj)]; exact hB
    simp only [aop, hu, hv, appendZK, hsim j B hf2, hys, exO, hB2, appendZB];refine ⟨h0, hyl, h1, h2, h3, h4, h5, xs, h6, h7, ?_⟩;rw [List.set_comm _ _ (Ne.symm hbj)];exact hk
  next => cases h
 next xs =>
  obtain ⟨ys, hys, h1, h2, h3⟩ := qd h;refine ⟨_, True, H, h3, fun k2 hk => ?_, fun j B k2 _ hf2 hk => ?_⟩
  ·simp only [aop, hu, hv, appendZK, hys, exO]; exact ⟨h1, h2, hk⟩
  ·simp only [aop, hu, hv, appendZK, hsim j B hf2, hys, exO]; exact ⟨h1, h2, hk⟩
 next => cases h
theorem qoe {id : Nat} {x : AOper} {σ : AState} {F : Prop} {K : AState -> Prop -> Prop} (hx : x.op.az = true) (h : stp P n0 id x σ F K) :
  ∃ v f H', K ⟨fpt σ.fr x.dst v, H'⟩ (F /\ f) /\
   (∀ (σ2 : AState) (F2 : Prop) (K2 : AState -> Prop -> Prop), Agree σ.fr σ2.fr x.reads -> σ2.hp = σ.hp -> K2 ⟨fpt σ2.fr x.dst v, H'⟩ (F2 /\ f) -> stp P n0 id x σ2 F2 K2) /\
   ∀ (j : Nat) (B : ABlock) (σ2 : AState) (F2 : Prop) (K2 : AState -> Prop -> Prop), (∀ a ∈ x.op.axs, Fre j (a.ev σ.fr)) -> Agree σ.fr σ2.fr x.reads -> σ2.hp = σ.hp.set j B -> K2 ⟨fpt σ2.fr x.dst v, H'.set j B⟩ (F2 /\ f) -> stp P n0 id x σ2 F2 K2 := by
 unfold stp at h
 cases ha : actO x σ.fr with
 | none => rw [ha] at h; exact h.elim
 | some b =>
  rw [ha] at h
  cases b with
  | false =>
   simp only [stpG, qn] at h;refine ⟨.tup [], True, σ.hp, by rw [and_true]; exact h, fun σ2 F2 K2 hag hh hk => ?_, fun j B σ2 F2 K2 _ hag hh hk => ?_⟩ <;>
   ·unfold stp
    rw [qz hag, ha];simp only [stpG, qn];rw [and_true] at hk;rw [hh]; exact hk
  | true =>
   simp only [stpG] at h
   obtain ⟨sz, bytes, y, z, e⟩ : ∃ sz bytes y z, x.op = .appendZ sz bytes y z := by
    cases hop : x.op <;> rw [hop] at hx <;> simp only [AOp.az] at hx <;> try (cases hx; done)
    exact ⟨_, _, _, _, rfl⟩
   have hs := fun (H : List ABlock) (fr2 : List LV) (k2 : AK) (hag : Agree σ.fr fr2 x.reads) => qbs (P := P) (n0 := n0) (id := id) (H := H) (k := k2) (qag hag)
   rw [e] at h hs;obtain ⟨v, f, H', hk, hall, hset⟩ := qod h;rw [qn] at hk;refine ⟨v, f, H', hk, fun σ2 F2 K2 hag hh hk2 => ?_, fun j B σ2 F2 K2 hf hag hh hk2 => ?_⟩
   ·unfold stp
    rw [qz hag, ha];simp only [stpG];rw [hh, e, hs _ _ _ hag];exact hall _ (by rw [qn]; exact hk2)
   ·unfold stp
    rw [qz hag, ha];simp only [stpG];rw [e] at hf;rw [hh, e, hs _ _ _ hag];exact hset j B _ (hf y (by simp [AOp.axs])) (hf z (by simp [AOp.axs])) (by rw [qn]; exact hk2)
def ayH (id : Nat) (o : Option (Nat × List SV)) (H : List ABlock) : List ABlock :=
 match o with
 | none => H
 | some (b, R) => (H.set b (.frz [])).set id (.row R)
theorem qj5 {id : Nat} {x : AOper} {σ : AState} {F : Prop} {K : AState -> Prop -> Prop} (hx : x.op.ay = true) (h : stp P n0 id x σ F K) :
  ∃ v f o, K ⟨fpt σ.fr x.dst v, ayH id o σ.hp⟩ (F /\ f) /\
   (∀ b R, o = some (b, R) -> (∃ cs, σ.hp[b]? = some (.row cs)) /\ σ.hp[id]? = some .gone /\ ∀ j, (∀ a ∈ x.op.axs, Fre j (a.ev σ.fr)) -> b ≠ j) /\
   (∀ (σ2 : AState) (F2 : Prop) (K2 : AState -> Prop -> Prop), Agree σ.fr σ2.fr x.reads -> (∀ b R, o = some (b, R) -> σ2.hp[b]? = σ.hp[b]? /\ σ2.hp[id]? = some .gone) -> K2 ⟨fpt σ2.fr x.dst v, ayH id o σ2.hp⟩ (F2 /\ f) -> stp P n0 id x σ2 F2 K2) := by
 unfold stp at h
 cases ha : actO x σ.fr with
 | none => rw [ha] at h; exact h.elim
 | some b =>
  rw [ha] at h
  cases b with
  | false =>
   simp only [stpG, qn] at h;refine ⟨.tup [], True, none, by rw [and_true]; exact h, fun b R e => (by cases e), fun σ2 F2 K2 hag hh hk => ?_⟩
   unfold stp;rw [qz hag, ha];simp only [stpG, qn];rw [and_true] at hk;exact hk
  | true =>
   simp only [stpG] at h
   obtain ⟨sz, bytes, y, z, e⟩ : ∃ sz bytes y z, x.op = .appendY sz bytes y z := by
    cases hop : x.op <;> rw [hop] at hx <;> simp only [AOp.ay] at hx <;> try (cases hx; done)
    exact ⟨_, _, _, _, rfl⟩
   have hs := fun (H : List ABlock) (fr2 : List LV) (k2 : AK) (hag : Agree σ.fr fr2 x.reads) => qbs (P := P) (n0 := n0) (id := id) (H := H) (k := k2) (qag hag)
   rw [e] at h hs;simp only [aop] at h hs;generalize hu : z.ev σ.fr = u at h hs;generalize hv : y.ev σ.fr = v at h hs;unfold appendYK at h
   split at h
   next b off len sz' =>
    obtain ⟨h0, hnb, h⟩ := h;obtain ⟨ys, hys, hyl, h⟩ := qd h;unfold appendYB at h
    split at h
    next cs hB =>
     obtain ⟨h1, h2, h3, h4, hgi, h8⟩ := h;rw [qn] at h8;refine ⟨_, True, some (b, cs.drop off ++ flatE ys), h8, fun b2 R e2 => ?_, fun σ2 F2 K2 hag hh hk => ?_⟩
     ·cases e2
      refine ⟨⟨cs, hB⟩, hgi, fun j hj => ?_⟩
      have := hj y (by rw [e]; simp [AOp.axs])
      rw [hv] at this;exact this.sl
     ·unfold stp
      rw [qz hag, ha];simp only [stpG];obtain ⟨q1, q2⟩ := hh _ _ rfl;rw [e];simp only [aop];rw [hs _ _ _ hag];simp only [appendYK, hys, exO];refine ⟨h0, hnb, hyl, ?_⟩;rw [q1, hB];simp only [appendYB];exact ⟨h1, h2, h3, h4, q2, by rw [qn]; exact hk⟩
    next => cases h
   next => cases h
theorem qof {id : Nat} {x : AOper} {σ : AState} {F : Prop} {K : AState -> Prop -> Prop} (hx : x.op.al = true) (h : stp P n0 id x σ F K) :
  ∃ v g, K ⟨fpt σ.fr x.dst v, lay id g σ.hp⟩ (F /\ True) /\
   (∀ (σ2 : AState) (F2 : Prop) (K2 : AState -> Prop -> Prop), Agree σ.fr σ2.fr x.reads -> σ2.hp[id]? = some .gone -> K2 ⟨fpt σ2.fr x.dst v, lay id g σ2.hp⟩ (F2 /\ True) -> stp P n0 id x σ2 F2 K2) := by
 unfold stp at h
 cases ha : actO x σ.fr with
 | none => rw [ha] at h; exact h.elim
 | some b =>
  rw [ha] at h
  cases b with
  | false =>
   simp only [stpG, qn] at h;refine ⟨.tup [], none, by rw [and_true]; exact h, fun σ2 F2 K2 hag hh hk => ?_⟩
   unfold stp;rw [qz hag, ha];simp only [stpG, qn];rw [and_true] at hk;exact hk
  | true =>
   simp only [stpG] at h
   obtain ⟨cells, e⟩ : ∃ cells, x.op = .alloc cells := by
    cases hop : x.op <;> rw [hop] at hx <;> simp only [AOp.al] at hx <;> try (cases hx; done)
    exact ⟨_, rfl⟩
   rw [e] at h;simp only [aop] at h;obtain ⟨h1, h2⟩ := h;rw [qn] at h2;refine ⟨.loc id 0, some (.obj cells), h2, fun σ2 F2 K2 hag hh hk2 => ?_⟩
   unfold stp;rw [qz hag, ha];simp only [stpG];rw [e];simp only [aop];exact ⟨hh, by rw [qn]; exact hk2⟩
theorem qlC {i j : Nat} {x y : AOper} {σ : AState} {F : Prop} {K : AState -> Prop -> Prop} (hx : x.op.okc = true) (hy : y.op.okc = true) (ht : x.tied y = false) (hcx : x.op.cls <= 4) (hcy : y.op.cls <= 4)
  (hij : x.op.takes = true \/ y.op.takes = true -> i ≠ j) (hfi : x.op.takes = true -> FreshAt i σ) (hfj : y.op.takes = true -> FreshAt j σ)
  (h : stp P n0 i x σ F fun τ F' => stp P n0 j y τ F' K) : stp P n0 j y σ F fun τ F' => stp P n0 i x τ F' K := by
 obtain ⟨hx4, hy4, h3x, h3y, hdx, hdy⟩ := qj4 ht;have hAy : ∀ v, Agree (fpt σ.fr x.dst v) σ.fr y.reads := fun v => (qfr fun d hd => (hdx d hd).1).symm
 have hAx : ∀ u, Agree σ.fr (fpt σ.fr y.dst u) x.reads := fun u => qfr hdy
 have hcomm : ∀ v u, fpt (fpt σ.fr x.dst v) y.dst u = fpt (fpt σ.fr y.dst u) x.dst v := fun v u => qlA fun d hd => (hdx d hd).2
 have rd_cls : ∀ {op : AOp}, op.rd = true -> op.cls = 1 := fun {op} h => by cases op <;> simp [AOp.rd] at h <;> rfl
 have rd_none : ∀ {op : AOp} {g : Option ABlock}, op.rd = true -> (g.isSome = true -> op.takes = true) -> g = none := fun {op g} hr hg => by
  cases g with
  | none => rfl
  | some B => have := qdp (hg rfl); have := rd_cls hr; omega
 by_cases hxy : x.op.wr = true /\ y.op.rd = true
 ·have h3 := qgs hxy.1
  have h1 := rd_cls hxy.2;obtain ⟨v, f, H', hk, hall, _, hsim⟩ := qcm hx (by omega) h
  obtain ⟨u, f', g, hk', hg, hall'⟩ := qa5 hy (by omega) hk
  have hgn := rd_none hxy.2 hg;subst hgn;refine hall' σ F _ (hAy v) (.inr (.inr (.inr ⟨hxy.2, .inl (hsim hxy.1).symm⟩))) (hall _ _ _ (hAx u) rfl ?_);simp only [lay] at hk' ⊢;rw [<- hcomm, qx];exact hk'
 by_cases hyx : y.op.wr = true /\ x.op.rd = true
 ·have h3 := qgs hyx.1
  have h1 := rd_cls hyx.2;obtain ⟨v, f, g, hk, hg, hall⟩ := qa5 hx (by omega) h
  have hgn := rd_none hyx.2 hg;subst hgn;obtain ⟨u, f', H', hk', hall', _, hsim⟩ := qcm hy (by omega) hk
  refine hall' σ F _ (hAy v) rfl (hall _ _ _ (hAx u) (.inr (.inr (.inr ⟨hyx.2, .inl (hsim hyx.1)⟩))) ?_);simp only [lay];rw [<- hcomm, qx];exact hk'
 have rx_rd : ∀ {op : AOp} {r : Nat}, op.rx = some r -> op.rd = true /\ r ∈ op.slots := fun {op r} h => by
  cases op <;> simp only [AOp.rx] at h <;> try (cases h; done)
  simp only [Option.some.injEq] at h;subst h;exact ⟨rfl, by simp [AOp.slots]⟩
 have part_get : ∀ {a b : AOp}, a.part b = true -> ∃ r, a.stx = some r /\ b.rx = some r := fun {a b} h => by
  unfold AOp.part at h;rw [Bool.and_eq_true] at h;obtain ⟨r, hr⟩ := Option.isSome_iff_exists.1 h.1;exact ⟨r, hr, by rw [<- eq_of_beq h.2, hr]⟩
 have mem_reads : ∀ {z : AOper} {r : Nat}, r ∈ z.op.slots -> r ∈ z.reads := fun {z r} h => by
  unfold AOper.reads;exact List.mem_append_right _ h
 by_cases hpx : x.op.part y.op = true
 ·obtain ⟨r, h5, h6⟩ := part_get hpx
  obtain ⟨hrd, hrs⟩ := rx_rd h6;have h1 := rd_cls hrd;obtain ⟨v, f, H', hk, hall, hd⟩ := qhQ h5 h;obtain ⟨u, f', g, hk', hg, hall'⟩ := qa5 hy (by omega) hk
  have hgn := rd_none hrd hg;subst hgn;refine hall' σ F _ (hAy v) ?_ (hall _ _ _ (hAx u) rfl ?_)
  ·rcases hd with rfl | ⟨b, off, e, hd⟩
   ·exact .inl rfl
   ·refine .inr (.inr (.inr ⟨hrd, .inr ⟨r, b, off, h6, ?_, fun c hc => (hd c hc).symm⟩⟩))
    rw [<- e];exact (hAy v r (mem_reads hrs)).symm
  ·simp only [lay] at hk' ⊢
   rw [<- hcomm, qx];exact hk'
 by_cases hpy : y.op.part x.op = true
 ·obtain ⟨r, h5, h6⟩ := part_get hpy
  obtain ⟨hrd, hrs⟩ := rx_rd h6;have h1 := rd_cls hrd;obtain ⟨v, f, g, hk, hg, hall⟩ := qa5 hx (by omega) h
  have hgn := rd_none hrd hg;subst hgn;obtain ⟨u, f', H', hk', hall', hd⟩ := qhQ h5 hk;refine hall' σ F _ (hAy v) rfl (hall _ _ _ (hAx u) ?_ ?_)
  ·simp only [lay] at hd
   rcases hd with rfl | ⟨b, off, e, hd⟩
   ·exact .inl rfl
   ·refine .inr (.inr (.inr ⟨hrd, .inr ⟨r, b, off, h6, ?_, hd⟩⟩))
    rw [<- e]
    cases hxd : x.dst with
    | none => rfl
    | some d =>
     refine (qbQ _ _ fun e2 => ?_).symm
     subst e2;refine (hdx _ hxd).1 ?_
     cases hop : y.op <;> rw [hop] at h5 <;> simp only [AOp.stx] at h5 <;> try (cases h5; done)
     rename_i n a z
     cases a <;> simp only [Option.some.injEq] at h5 <;> try (cases h5; done)
     subst h5;exact mem_reads (by rw [hop]; simp [AOp.slots, AX.slots])
  ·simp only [lay]
   rw [<- hcomm, qx];exact hk'
 by_cases haz : x.op.az = true /\ y.op.al = true
 ·obtain ⟨v, f, H', hk, hall, hset⟩ := qoe haz.1 h
  obtain ⟨u, g, hk', hall'⟩ := qof haz.2 hk
  have hyt : y.op.takes = true := by
   cases hop : y.op <;> rw [hop] at haz <;> simp only [AOp.al] at haz <;> first | rfl | (cases haz.2; done)
  obtain ⟨hf1, hf2, hf3⟩ := hfj hyt;refine hall' σ F _ (hAy v) hf3 ?_;have hc2 := hcomm v u
  cases g with
  | none =>
   refine hall _ _ _ (hAx u) rfl ?_;simp only [lay] at hk' ⊢;rw [<- hc2, qx];exact hk'
  | some B =>
   refine hset j B _ _ _ (qcl hx hf1) (hAx u) rfl ?_;simp only [lay] at hk' ⊢;rw [<- hc2, qx];exact hk'
 by_cases hay : x.op.ay = true /\ y.op.ay = true
 ·obtain ⟨v, f, o, hk, ho, hall⟩ := qj5 hay.1 h
  obtain ⟨u, f', o', hk', ho', hall'⟩ := qj5 hay.2 hk;have ay_takes : ∀ {op : AOp}, op.ay = true -> op.takes = true := fun {op} h => by cases op <;> simp [AOp.ay] at h <;> rfl
  have hxt := ay_takes hay.1;have hyt := ay_takes hay.2;have hne := hij (.inl hxt);obtain ⟨fi1, fi2, fi3⟩ := hfi hxt;obtain ⟨fj1, fj2, fj3⟩ := hfj hyt;have hc2 := hcomm v u
  have hyfre : ∀ a ∈ y.op.axs, Fre i (a.ev (fpt σ.fr x.dst v)) := fun a ha => by
   rw [<- qfs (qag (hAy v)) a ha]; exact qcl hy fi1 a ha
  have key : ∀ b R, o = some (b, R) -> ∀ b' R', o' = some (b', R') -> b ≠ b' /\ b ≠ i /\ b ≠ j /\ b' ≠ i /\ b' ≠ j /\ σ.hp[b']? = (ayH i o σ.hp)[b']? := fun b R e b' R' e' => by
   obtain ⟨⟨cs, hB⟩, hgi, _⟩ := ho b R e;obtain ⟨⟨cs', hB'⟩, _, hfr⟩ := ho' b' R' e';have hb'i := hfr i hyfre;have hbi : b ≠ i := fun e => by subst e; rw [hgi] at hB; cases hB
   have hbj : b ≠ j := fun e => by subst e; rw [fj3] at hB; cases hB
   simp only at hB';subst e;simp only [ayH] at hB' ⊢;rw [List.getElem?_set_ne (Ne.symm hb'i)] at hB' ⊢
   have hbb : b ≠ b' := fun e => by
    subst e;rw [List.getElem?_set_self (List.getElem?_eq_some_iff.1 hB).1] at hB'; cases hB'
   rw [List.getElem?_set_ne hbb] at hB' ⊢;refine ⟨hbb, hbi, hbj, hb'i, fun e => ?_, rfl⟩
   subst e; rw [fj3] at hB'; cases hB'
  have key2 : ∀ b' R', o = none -> o' = some (b', R') -> σ.hp[b']? = (ayH i o σ.hp)[b']? := fun b' R' e _ => by subst e; rfl
  refine hall' σ F _ (hAy v) (fun b' R' e' => ⟨?_, fj3⟩) ?_
  ·cases ho1 : o with
   | none => rfl
   | some p => rw [<- ho1]; exact (key p.1 p.2 ho1 b' R' e').2.2.2.2.2
  ·refine hall _ _ _ (hAx u) (fun b R e => ⟨?_, ?_⟩) ?_
   ·cases ho2 : o' with
    | none => rfl
    | some p =>
     obtain ⟨q1, q2, q3, q4, q5, _⟩ := key b R e p.1 p.2 ho2
     show ((σ.hp.set p.1 (.frz [])).set j (.row p.2))[b]? = _
     rw [List.getElem?_set_ne (Ne.symm q3), List.getElem?_set_ne (Ne.symm q1)]
   ·cases ho2 : o' with
    | none => exact fi3
    | some p =>
     obtain ⟨q1, q2, q3, q4, q5, _⟩ := key b R e p.1 p.2 ho2
     show ((σ.hp.set p.1 (.frz [])).set j (.row p.2))[i]? = _
     rw [List.getElem?_set_ne (Ne.symm hne), List.getElem?_set_ne q4];exact fi3
   ·have hmem : ayH i o (ayH j o' σ.hp) = ayH j o' (ayH i o σ.hp) := by
     cases ho1 : o with
     | none => rfl
     | some p =>
      cases ho2 : o' with
      | none => rfl
      | some q =>
       obtain ⟨q1, q2, q3, q4, q5, _⟩ := key p.1 p.2 ho1 q.1 q.2 ho2
       show (((σ.hp.set q.1 (.frz [])).set j (.row q.2)).set p.1 (.frz [])).set i (.row p.2) = (((σ.hp.set p.1 (.frz [])).set i (.row p.2)).set q.1 (.frz [])).set j (.row q.2)
       rw [List.set_comm _ _ (Ne.symm q3), List.set_comm _ _ (Ne.symm q1), List.set_comm _ _ (Ne.symm hne), List.set_comm _ _ q4]
    simp only at hk' ⊢;rw [hmem, <- hc2, qx];exact hk'
 have h3x : x.op.cls = 3 -> y.op.cls = 0 := fun e => (h3x e).resolve_right fun h => h.elim hxy fun h => h.elim hpx fun h => h.elim haz hay
 have h3y : y.op.cls = 3 -> x.op.cls = 0 := fun e => (h3y e).resolve_right fun h => h.elim hyx fun h => h.elim hpy hay
 by_cases hx0 : x.op.cls = 0
 ·obtain ⟨v, f, g, hk, hg, hall⟩ := qa5 hx (by omega) h
  have hgn : g = none := by
   cases g with
   | none => rfl
   | some B => have := qdp (hg rfl); omega
  subst hgn;obtain ⟨u, f', H', hk', hall', _, _⟩ := qcm hy (by omega) hk
  refine hall' σ F _ (hAy v) rfl (hall _ _ _ (hAx u) (.inr (.inl hx0)) ?_);simp only [lay];rw [<- hcomm, qx];exact hk'
 ·by_cases hy0 : y.op.cls = 0
  ·obtain ⟨v, f, H', hk, hall, _, _⟩ := qcm hx (by omega) h
   obtain ⟨u, f', g, hk', hg, hall'⟩ := qa5 hy (by omega) hk
   have hgn : g = none := by
    cases g with
    | none => rfl
    | some B => have := qdp (hg rfl); omega
   subst hgn;refine hall' σ F _ (hAy v) (.inr (.inl hy0)) (hall _ _ _ (hAx u) rfl ?_);simp only [lay] at hk' ⊢;rw [<- hcomm, qx];exact hk'
  ·have hx2 : x.op.cls <= 2 := by
    have : x.op.cls ≠ 3 := fun e => hy0 (h3x e)
    omega
   have hy2 : y.op.cls <= 2 := by
    have : y.op.cls ≠ 3 := fun e => hx0 (h3y e)
    omega
   obtain ⟨v, f, g, hk, hg, hall⟩ := qa5 hx hx2 h;obtain ⟨u, f', g', hk', hg', hall'⟩ := qa5 hy hy2 hk;refine hall' σ F _ (hAy v) ?_ (hall _ _ _ (hAx u) ?_ ?_)
   ·cases g with
    | none => exact .inl rfl
    | some B =>
     have hxt := hg rfl;have hne := hij (.inl hxt);obtain ⟨hf1, hf2, hf3⟩ := hfi hxt;refine .inr (.inr (.inl ⟨i, hne, fun a ha => ?_, ?_, ?_, fun b hb => ?_⟩))
     ·have := qfs (qag (hAy v)) a ha
      rw [<- this]; exact qcl hy hf1 a ha
     ·intro b B' hb hB'
      rw [qdR hb] at hB';exact hf2 b B' hb hB'
     ·show (lay i (some B) σ.hp).length = σ.hp.length
      exact qcN
     ·show σ.hp[b]? = (lay i (some B) σ.hp)[b]?
      exact (qdR hb).symm
   ·cases g' with
    | none => exact .inl rfl
    | some B =>
     have hyt := hg' rfl;have hne := hij (.inr hyt);obtain ⟨hf1, hf2, hf3⟩ := hfj hyt;exact .inr (.inr (.inl ⟨j, fun e => hne e.symm, fun a ha => qcl hx hf1 a ha, hf2, (qcN (id := j) (g := some B) (H := σ.hp)).symm, fun b hb => qdR (id := j) (g := some B) (H := σ.hp) hb⟩))
   ·have hlc : lay j g' (lay i g σ.hp) = lay i g (lay j g' σ.hp) := by
     by_cases hne : i = j
     ·have h1 : g = none := by
       cases g with
       | none => rfl
       | some B => exact absurd hne (hij (.inl (hg rfl)))
      have h2 : g' = none := by
       cases g' with
       | none => rfl
       | some B => exact absurd hne (hij (.inr (hg' rfl)))
      subst h1 h2; rfl
     ·exact qlB hne
    simp only at hk' ⊢;rw [<- hlc, <- hcomm, qx];exact hk'
theorem qeE {j : Nat} {y : AOper} (hy : y.op.okc = true) (hcy : y.op.cls <= 4) : ∀ {pre post : List (Nat × AOper)} {σ : AState} {F : Prop} {k : AState -> Prop -> Prop},
  (∀ p ∈ pre, p.2.op.okc = true /\ p.2.op.cls <= 4 /\ p.2.tied y = false /\ (p.2.op.takes = true \/ y.op.takes = true -> p.1 ≠ j) /\ (p.2.op.takes = true -> FreshAt p.1 σ)) ->
  (pre.Pairwise fun p q => q.2.op.takes = true -> q.1 ≠ p.1) -> (y.op.takes = true -> FreshAt j σ) ->
  runI P n0 (pre ++ (j, y) :: post) σ F k -> runI P n0 ((j, y) :: pre ++ post) σ F k
 | [], post, σ, F, k, _, _, _, h => h
 | (i, x) :: pre, post, σ, F, k, hp, hpw, hfj, h => by
  obtain ⟨hx, hcx, htx, hij, hfi⟩ := hp (i, x) (by simp)
  have h4 := (qj4 htx).1;simp only [List.cons_append, runI] at h;obtain ⟨v, f, H', hk, hall, hfr, _⟩ := qcm hx (by simp only at hcx h4 ⊢; omega) h
  rw [List.pairwise_cons] at hpw
  have ih := qeE hy hcy (pre := pre) (post := post) (fun p hpm => by
   obtain ⟨h1, h2, h3, h5, h6⟩ := hp p (by simp [hpm])
   exact ⟨h1, h2, h3, h5, fun ht => hfr p.1 (hpw.1 p hpm ht) (h6 ht)⟩) hpw.2 (fun ht => hfr j (fun e => hij (.inr ht) e.symm) (hfj ht)) hk
  simp only [List.cons_append, runI];exact qlC hx hy htx hcx hcy hij hfi hfj (hall σ F _ (fun _ _ => rfl) rfl ih)
end
section
variable {P : Program} {n0 : Nat}
def withIds (N : Nat) : Nat -> List AOper -> List (Nat × AOper)
 | _, [] => []
 | id, x :: xs => if x.op.takes then (id, x) :: withIds N (id + 1) xs else (N, x) :: withIds N id xs
theorem qog {id id' : Nat} {x : AOper} {σ : AState} {F : Prop} {K : AState -> Prop -> Prop} (h : x.op.takes = false) (hs : stp P n0 id x σ F K) : stp P n0 id' x σ F K := by
 unfold stp at hs ⊢
 cases ha : actO x σ.fr with
 | none => rw [ha] at hs; exact hs.elim
 | some b =>
  rw [ha] at hs
  cases b with
  | false => exact hs
  | true =>
   simp only [stpG] at hs ⊢
   have : ∀ {k : AK}, aop P n0 id σ.fr σ.hp x.op k = aop P n0 id' σ.fr σ.hp x.op k := by
    intro k;generalize x.op = op at h
    cases op <;> first | rfl | cases h
   rw [<- this]; exact hs
theorem qlD {id : Nat} {x : AOper} {xs : List AOper} {σ : AState} {F : Prop} {k : AState -> Prop -> Prop} (h : aops P n0 (x :: xs) id σ F k) :
  stp P n0 id x σ F fun τ F' => aops P n0 xs (if x.op.takes then id + 1 else id) τ F' k := by
 obtain ⟨dst, guard, op⟩ := x
 cases guard with
 | none => simp only [aops] at h; unfold stp; simp only [actO, stpG]; exact h
 | some p =>
  obtain ⟨g, want⟩ := p;simp only [aops] at h;unfold stp;simp only [actO]
  cases hv : fget σ.fr g with
  | s v =>
   rw [hv] at h
   cases v with
   | bool b =>
    have hf : fset σ.fr g (.s (.bool b)) = σ.fr := by rw [<- hv]; exact qfo _ _
    cases want <;> cases b <;> simp only [grdK, grdB, bsplit, hf] at h <;> simp only [actG, stpG] <;> exact h
   | _ => exact h.elim
  | tup vs =>
   rw [hv] at h
   cases vs with
   | nil => simp only [grdK] at h; simp only [actG, stpG]; exact h
   | cons => exact h.elim
  | _ => rw [hv] at h; exact h.elim
theorem qlE {id : Nat} {x : AOper} {σ : AState} {F : Prop} {K K' : AState -> Prop -> Prop} (h : stp P n0 id x σ F K) (hm : ∀ τ F', K τ F' -> K' τ F')
  (am : ∀ {k k' : AK}, (∀ v H kl f, k v H kl f -> k' v H kl f) -> aop P n0 id σ.fr σ.hp x.op k -> aop P n0 id σ.fr σ.hp x.op k') : stp P n0 id x σ F K' := by
 unfold stp at h ⊢
 cases ha : actO x σ.fr with
 | none => rw [ha] at h; exact h.elim
 | some b =>
  rw [ha] at h
  cases b with
  | false => exact hm _ _ h
  | true => exact am (fun v H kl f hk => hm _ _ hk) h
theorem qdq {H : List ABlock} {id sz : Nat} {v : LV} {xs ys : List SV} {k k' : AK} (hm : ∀ v H kl f, k v H kl f -> k' v H kl f) (h : newRowK H id sz v xs ys k) : newRowK H id sz v xs ys k' :=
 ⟨fun e => hm _ _ _ _ (h.1 e), fun e => ⟨(h.2 e).1, hm _ _ _ _ (h.2 e).2⟩⟩
theorem qc4 {H : List ABlock} {id sz bytes : Nat} {u v : LV} {k k' : AK} (hm : ∀ v H kl f, k v H kl f -> k' v H kl f) (h : appendNK H id sz bytes u k v) : appendNK H id sz bytes u k' v := by
 unfold appendNK at h
 split at h
 next xs =>
  obtain ⟨ys, e, h1, h2⟩ := qd h;simp only [appendNK, e, exO];exact ⟨h1, qdq hm h2⟩
 next b off len sz' =>
  obtain ⟨h0, h⟩ := h;obtain ⟨ys, e, h⟩ := qd h;obtain ⟨xs, e2, h1, h2⟩ := qd h;simp only [appendNK, e, e2, exO];exact ⟨h0, h1, qdq hm h2⟩
 next => cases h
theorem qlF {id : Nat} {fr : List LV} {H : List ABlock} {op : AOp} {k k' : AK} (hok : op.okc = true) (hm : ∀ v H kl f, k v H kl f -> k' v H kl f) (h : aop P n0 id fr H op k) : aop P n0 id fr H op k' := by
 by_cases hc : op.cls <= 3
 ·obtain ⟨v, f, H', hk, _, hall, _⟩ := qhO hok hc h
  exact hall k' (hm _ _ _ _ hk)
 ·cases op with
  | append sz bytes s x =>
   simp only [aop, appendK] at h ⊢;generalize unclip n0 (s.ev fr) = v at h ⊢;unfold appendK0 at h
   split at h
   next b off len sz' =>
    obtain ⟨h0, h1, h⟩ := h;obtain ⟨ys, e2, h2, h⟩ := qd h;unfold appendB at h
    split at h
    next cs hB =>
     obtain ⟨h3, h4, h5, h6⟩ := h;simp only [appendK0, e2, exO, hB, appendB];exact ⟨h0, h1, h2, h3, h4, h5, hm _ _ _ _ h6⟩
    next => cases h
   next b off len sz' => exact qc4 hm h
   next xs => exact qc4 hm h
   next => cases h
  | eqNil ne x =>
   simp only [aop] at h ⊢
   cases e : elemsOf H (x.ev fr) with
   | none => rw [e] at h; exact h
   | some xs => rw [e] at h; exact ⟨fun hn => hm _ _ _ _ (h.1 hn), hm _ _ _ _ h.2⟩
  | callI f args =>
   simp only [aop] at h ⊢;obtain ⟨r, H', h1, h2⟩ := h;exact ⟨r, H', h1, hm _ _ _ _ h2⟩
  | mget c ts zero m x =>
   simp only [aop] at h ⊢;unfold mgetK at h
   split at h
   ·rename_i b e
    obtain ⟨kv, e1, h⟩ := qd h;unfold mgetB at h
    split at h
    ·rename_i ks vs hB
     obtain ⟨h1, h2⟩ := h;simp only [e, mgetK, e1, exO, hB, mgetB];refine ⟨h1, ?_⟩;have gv : ∀ {v : SV} {ok : Bool}, mgetV H c v ok k -> mgetV H c v ok k' := fun {v ok} hg => by cases c <;> exact hm _ _ _ _ hg
     cases hmf : mFind kv ks with
     | none => rw [hmf] at h2; exact gv h2
     | some i =>
      rw [hmf] at h2;simp only [mgetI] at h2 ⊢;obtain ⟨v, e2, h3⟩ := qd h2;simp only [e2, exO];exact gv h3
    ·cases h
   ·rename_i ks vs e
    obtain ⟨kv, e1, h⟩ := qd h;obtain ⟨h1, h0, h2⟩ := h;simp only [e, mgetK, e1, exO];refine ⟨h1, h0, ?_⟩;have gv : ∀ {v : SV} {ok : Bool}, mgetV H c v ok k -> mgetV H c v ok k' := fun {v ok} hg => by cases c <;> exact hm _ _ _ _ hg
    cases hmf : mFind kv ks with
    | none => rw [hmf] at h2; exact gv h2
    | some i =>
     rw [hmf] at h2;simp only [mgetI] at h2 ⊢;obtain ⟨v, e2, h3⟩ := qd h2;simp only [e2, exO];exact gv h3
   ·cases h
  | mset ts m x v =>
   simp only [aop] at h ⊢;unfold msetK at h
   split at h
   ·rename_i b e
    obtain ⟨kv, e1, h⟩ := qd h;obtain ⟨sv, e2, h⟩ := qd h;unfold msetB at h
    split at h
    ·rename_i ks vs hB
     simp only [e, msetK, e1, e2, exO, hB, msetB];exact ⟨h.1, hm _ _ _ _ h.2⟩
    ·cases h
   ·cases h
  | mdel ts m x =>
   simp only [aop] at h ⊢;unfold mdelK at h
   split at h
   ·rename_i b e
    obtain ⟨kv, e1, h⟩ := qd h;unfold mdelB at h
    split at h
    ·rename_i ks vs hB
     simp only [e, mdelK, e1, exO, hB, mdelB];exact ⟨h.1, hm _ _ _ _ h.2⟩
    ·rename_i ks vs bs bm c hB
     simp only [e, mdelK, e1, exO, hB, mdelB];exact ⟨h.1, hm _ _ _ _ h.2⟩
    ·cases h
   ·cases h
  | mlen m =>
   simp only [aop] at h ⊢;unfold mlenK at h
   split at h
   ·rename_i b e
    unfold mlenB at h
    split at h
    ·rename_i ks vs hB
     simp only [e, mlenK, hB, mlenB];exact hm _ _ _ _ h
    ·cases h
   ·rename_i e
    simp only [e, mlenK];exact hm _ _ _ _ h
   ·cases h
  | rangeM m =>
   simp only [aop] at h ⊢;unfold rangeMK at h
   split at h
   ·rename_i e
    simp only [e, rangeMK];exact ⟨h.1, hm _ _ _ _ h.2⟩
   ·rename_i b e
    obtain ⟨hg, h⟩ := h;unfold rangeX at h
    split at h
    ·rename_i ks vs hB
     simp only [e, rangeMK, hB, rangeX];exact ⟨hg, fun bs bm c h1 h2 => hm _ _ _ _ (h bs bm c h1 h2)⟩
    ·cases h
   ·cases h
  | nextM it =>
   simp only [aop] at h ⊢;unfold nextMK at h
   split at h
   ·rename_i b e
    unfold nextMB at h
    split at h
    ·rename_i m bm c S hB
     unfold nextX at h
     split at h
     ·rename_i ks vs bs bm' c' hM
      simp only [e, nextMK, hB, nextMB, hM, nextX];exact ⟨h.1, h.2.1, fun h9 => hm _ _ _ _ (h.2.2.1 h9), fun i s key v h1 h2 h3 h4 => hm _ _ _ _ (h.2.2.2 i s key v h1 h2 h3 h4)⟩
     ·cases h
    ·rename_i hB
     simp only [e, nextMK, hB, nextMB];exact ⟨fun hn => hm _ _ _ _ (h.1 hn), fun l1 x l2 hx => hm _ _ _ _ (h.2 l1 x l2 hx)⟩
    ·cases h
   ·cases h
  | entryM it =>
   simp only [aop] at h ⊢;unfold entryMK at h
   split at h
   ·rename_i b e
    unfold entryMB at h
    split at h
    ·rename_i m bm c S hB
     unfold entryX at h
     split at h
     ·rename_i ks vs bs bm' c' hM
      simp only [e, entryMK, hB, entryMB, hM, entryX];obtain ⟨h1, h2, i, s, S', key, v, h3, h4, h5, h6, h7⟩ := h;exact ⟨h1, h2, i, s, S', key, v, h3, h4, h5, h6, hm _ _ _ _ h7⟩
     ·cases h
    ·rename_i hB
     simp only [e, entryMK, hB, entryMB];exact hm _ _ _ _ h
    ·cases h
   ·cases h
  | callR f args =>
   simp only [aop] at h ⊢;obtain ⟨xs, R, h1, h2, h3⟩ := h;exact ⟨xs, R, h1, h2, fun rs hr => hm _ _ _ _ (h3 rs hr)⟩
  | _ => simp [AOp.cls] at hc
theorem qb0 (N : Nat) {k : AState -> Prop -> Prop} : ∀ (as : List AOper) (id : Nat) (σ : AState) (F : Prop), (∀ x ∈ as, x.op.okc = true) -> aops P n0 as id σ F k -> runI P n0 (withIds N id as) σ F k
 | [], _, _, _, _, h => h
 | x :: xs, id, σ, F, hok, h => by
  have h1 := qlD h;have h2 := qlE h1 (fun τ F' h => qb0 N xs _ τ F' (fun y hy => hok y (by simp [hy])) h) (fun hm h => qlF (hok x (by simp)) hm h)
  unfold withIds
  cases ht : x.op.takes with
  | true => simp only [if_true, runI]; rw [ht] at h2; exact h2
  | false => simp only [Bool.false_eq_true, if_false, runI]; rw [ht] at h2; exact qog ht h2
end
section
variable {P : Program} {A : Nat -> Obj -> Prop} {dfs : List Deferred} {M0 : Mem} {ρ0 : Env} {w0 : World} {M : Mem} {ρ : Env} {w : World} {a : Act} {Q : Exit -> Act -> World -> Prop} {n0 : Nat}
def killF : Option Nat -> List LV -> List LV
 | none, fr => fr
 | some b, fr => fgtL (· == b) fr
structure Stands (A : Nat -> Obj -> Prop) (dfs : List Deferred) (n0 : Nat) (M0 : Mem) (ρ0 : Env) (w0 : World) (M : Mem) (ρ : Env) (σ : AState) (a : Act) (w : World) : Prop where
  inv : MInv A n0 M0 ρ0 w0 M ρ σ.hp w
  fr : FRel M ρ σ.fr a.tmps.toList
  nod : a.defers = dfs
theorem qel {dst : Option Nat} {fr : List LV} {v : LV} {x : Value} (hf : FRel M ρ fr a.tmps.toList) (h : LVal M ρ v x) : FRel M ρ (fpt fr dst v) (a.put dst x).tmps.toList := by
 cases dst with
 | none => exact hf
 | some d => simp only [fpt, Act.put, Array.toList_setIfInBounds]; exact hf.fset d h
theorem qcO {dst : Option Nat} {x : Value} : (a.put dst x).defers = a.defers := by cases dst <;> rfl
theorem qeF {fr : List LV} {H : List ABlock} {dst : Option Nat} {v : LV} {kl : Option Nat} : AState.put fr H dst v kl = ⟨fpt (killF kl fr) dst v, killH kl H⟩ := by
 cases kl <;> cases dst <;> rfl
theorem qj6 {M' : Mem} {ρ' : Env} {kl : Option Nat} {fr : List LV} (hf : FRel M ρ fr a.tmps.toList) (h : ∀ u y, LVal M ρ u y -> LVal M' ρ' (killV kl u) y) :
  FRel M' ρ' (killF kl fr) a.tmps.toList := by
 cases kl with
 | none => have := hf.map (fun v => v) (M' := M') (ρ' := ρ') fun v x hv => h v x hv; simpa [killF] using this
 | some b => simp only [killF, qae]; exact hf.map _ fun v x hv => h v x hv
theorem qiF {ops : Array Oper} {j g : Nat} (h : ((ops[j]?).bind (·.dst)) = some g) {v : LV} (hv : LVal M ρ v (a.tmps.toList.getD g undef)) :
  (∀ b, v = .s (.bool b) -> yielded ops a.tmps j = some b) /\ (v = .tup [] -> yielded ops a.tmps j = none) := by
 unfold yielded;rw [h];simp only [Option.bind_some];refine ⟨fun b e => ?_, fun e => ?_⟩
 ·subst e
  have hb := qa2 rfl hv;rw [List.getD_eq_getElem?_getD] at hb
  cases hg : a.tmps[g]? with
  | none => rw [Array.getElem?_toList, hg] at hb; cases hb
  | some x => rw [Array.getElem?_toList, hg] at hb; simp only [Option.getD_some] at hb; subst hb; rfl
 ·subst e
  obtain ⟨xs, hx, hxs⟩ := hv.tup;rw [List.getD_eq_getElem?_getD] at hx
  cases hg : a.tmps[g]? with
  | none => rfl
  | some x => rw [Array.getElem?_toList, hg] at hx; simp only [Option.getD_some] at hx; subst hx; rfl
theorem qj7 {ops : Array Oper} {id : Nat} {x : AOper} {o : Oper} {σ : AState} {F : Prop} {K : AState -> Prop -> Prop} {Kc : Act -> World -> Prop} (hS : Stands A dfs n0 M0 ρ0 w0 M ρ σ a w)
  (hid : x.op.takes = true \/ x.op.cls = 4 -> ρ0.length <= id) (hok : okOper P ops.toList x o = true) (hF : F) (h : stp P n0 id x σ F K)
  (hK : ∀ τ F' M' ρ' a' w', K τ F' -> F' -> Stands A dfs n0 M0 ρ0 w0 M' ρ' τ a' w' -> (∀ (j : Nat), j ≠ id -> ρ[j]? = some Spot.gone -> ρ'[j]? = some Spot.gone) -> Kc a' w') :
  if Region.wanted o (yielded ops a.tmps) then o.wp P a w Kc Q else Kc (a.put o.dst undef) w := by
 simp only [okOper, Bool.and_eq_true, beq_iff_eq] at hok;obtain ⟨⟨⟨hdst, hop⟩, hokc⟩, hgd⟩ := hok
 have done : ∀ (hw : Region.wanted o (yielded ops a.tmps) = true), actO x σ.fr = some true -> if Region.wanted o (yielded ops a.tmps) then o.wp P a w Kc Q else Kc (a.put o.dst undef) w := by
  intro hw ha;rw [if_pos hw];unfold stp at h;rw [ha] at h;simp only [stpG] at h;refine qln hS.inv hS.fr hid hop h fun v H' kl f y w' hk hf hn => ?_
  obtain ⟨M', ρ', h1, h2, h3, h4⟩ := hn;refine hK _ _ M' ρ' _ w' hk ⟨hF, hf⟩ ⟨by rw [qeF]; exact h1, ?_, by rw [qcO]; exact hS.nod⟩ h2
  rw [qeF, hdst];exact qel (qj6 hS.fr h3) h4
 have skip : ∀ (hw : Region.wanted o (yielded ops a.tmps) = false), actO x σ.fr = some false -> if Region.wanted o (yielded ops a.tmps) then o.wp P a w Kc Q else Kc (a.put o.dst undef) w := by
  intro hw ha;rw [hw];simp only [Bool.false_eq_true, if_false];unfold stp at h;rw [ha] at h;simp only [stpG] at h;refine hK _ _ M ρ _ w h hF ⟨by rw [qeF]; exact hS.inv, ?_, by rw [qcO]; exact hS.nod⟩ (fun _ _ h => h)
  rw [qeF, hdst];exact qel hS.fr (qp (xs := []) rfl)
 cases hxg : x.guard with
 | none =>
  rw [hxg] at hgd
  have hog : o.guard = none := by
   cases hog : o.guard with
   | none => rfl
   | some p => rw [hog] at hgd; cases hgd
  exact done (by simp [Region.wanted, hog]) (by simp [actO, hxg])
 | some p =>
  obtain ⟨g, want⟩ := p;rw [hxg] at hgd
  cases hog : o.guard with
  | none => rw [hog] at hgd; cases hgd
  | some q =>
   obtain ⟨j, c⟩ := q;rw [hog] at hgd;simp only [Bool.and_eq_true, beq_iff_eq] at hgd;obtain ⟨rfl, hj⟩ := hgd;have hv := hS.fr.fget g;have hy := qiF (ops := ops) (j := j) (g := g) (by rw [<- hj, Array.getElem?_toList]) hv
   have hact : actO x σ.fr = actG want (fget σ.fr g) := by simp [actO, hxg]
   have hwt : Region.wanted o (yielded ops a.tmps) = (yielded ops a.tmps j == some want) := by simp [Region.wanted, hog]
   cases hgv : fget σ.fr g with
   | s u =>
    cases u with
    | bool b =>
     have hyb := hy.1 b hgv
     by_cases hbw : b = want
     ·subst hbw
      exact done (by rw [hwt, hyb]; simp) (by rw [hact, hgv]; simp [actG])
     ·exact skip (by rw [hwt, hyb]; simpa using hbw) (by rw [hact, hgv]; simp [actG, hbw])
    | _ => unfold stp at h; rw [hact, hgv] at h; exact h.elim
   | tup vs =>
    cases vs with
    | nil => exact skip (by rw [hwt, hy.2 hgv]; rfl) (by rw [hact, hgv]; rfl)
    | cons => unfold stp at h; rw [hact, hgv] at h; exact h.elim
   | _ => unfold stp at h; rw [hact, hgv] at h; exact h.elim
def Fw (r : Option Nat) : Fence := { Fence.wide with round := r }
theorem qcP {r : Option Nat} {n : Nat} {f : FuncId} {args : Array Value} {R : Ending -> World -> Prop} : CallsIn (Fw r) n P f args w R ↔ Calls P f args w R := callsIn_wide
theorem qdr {ao : AOp} {o : Op} (h : okOp P ao o = true) : ∀ c, o ≠ .defer c := by
 intro c e;subst e
 cases ao <;> cases h
theorem qiG {r : Option Nat} {n : Nat} {o : Oper} {K : Act -> World -> Prop} (hnd : ∀ c, o.op ≠ .defer c) (h : o.wp P a w K (fun _ _ _ => False)) : o.wpIn (Fw r) n P a w K Q := by
 refine ⟨fun _ _ => trivial, ?_⟩
 rw [Oper.semAt_eq _ _ _ hnd];unfold Oper.wp at h;generalize (execOp a.eval o).run P w = res at h
 cases res with
 | ok x w' =>
  cases x <;> simp only [Oper.upon] at h <;> simp only [Oper.uponIn] <;> first | exact h | skip
  case enter f args =>
   refine ⟨fun hh => (by cases hh), qcP.2 (Calls.mono h fun e w'' he => ?_)⟩
   cases e with
   | returned v => exact he
   | panicked c => exact he.elim
   | outgrown => obtain ⟨_, _, he⟩ := he; exact he.elim
  case row row args =>
   refine ⟨fun hh => (by cases hh), ?_⟩
   intro c cs _;obtain ⟨v, w'', h1, h2⟩ := h c cs;exact ⟨v, w'', h1, stepsIn_wide.2 h2⟩
 | halt x w' => cases x <;> simp only [Oper.upon] at h
theorem qcf {r : Option Nat} {n : Nat} {ops : Array Oper} {id : Nat} {x : AOper} {o : Oper} {σ : AState} {F : Prop} {K : AState -> Prop -> Prop} {Kc : Act -> World -> Prop} (hS : Stands A dfs n0 M0 ρ0 w0 M ρ σ a w)
  (hid : x.op.takes = true \/ x.op.cls = 4 -> ρ0.length <= id) (hok : okOper P ops.toList x o = true) (hF : F) (h : stp P n0 id x σ F K)
  (hK : ∀ τ F' M' ρ' a' w', K τ F' -> F' -> Stands A dfs n0 M0 ρ0 w0 M' ρ' τ a' w' -> (∀ (j : Nat), j ≠ id -> ρ[j]? = some Spot.gone -> ρ'[j]? = some Spot.gone) -> Kc a' w') :
  if Region.wanted o (yielded ops a.tmps) then o.wpIn (Fw r) n P a w Kc Q else (∀ f, o.about P w a.eval = some f -> (Fw r).fn f) /\ Kc (a.put o.dst undef) w := by
 have := qj7 (Q := fun _ _ _ => False) hS hid hok hF h hK
 have hnd : ∀ c, o.op ≠ .defer c := by
  simp only [okOper, Bool.and_eq_true] at hok;exact qdr hok.1.1.2
 split
 ·rename_i hw; rw [if_pos hw] at this; exact qiG hnd this
 ·rename_i hw; rw [if_neg hw] at this; exact ⟨fun _ _ => trivial, this⟩
end
section
variable {P : Program} {A : Nat -> Obj -> Prop} {dfs : List Deferred} {M0 : Mem} {ρ0 : Env} {w0 : World} {n0 : Nat} {Q : Exit -> Act -> World -> Prop}
theorem qcQ {r : Option Nat} {nf : Nat} {ops : Array Oper} {N : Nat} (hN : ρ0.length <= N) {k : AState -> Prop -> Prop} (hfin : ∀ τ F' M' ρ' a' w', k τ F' -> F' -> Stands A dfs n0 M0 ρ0 w0 M' ρ' τ a' w' -> Q .normal a' w') :
  ∀ (as : List AOper) (os : List Oper) (id : Nat) (σ : AState) (F : Prop) (M : Mem) (ρ : Env) (a : Act) (w : World), okOpers P ops.toList as os = true -> ρ0.length <= id -> Stands A dfs n0 M0 ρ0 w0 M ρ σ a w -> F ->
   runI P n0 (withIds N id as) σ F k -> wpListIn (Fw r) nf P ops Q os a w
 | [], [], id, σ, F, M, ρ, a, w, _, _, hS, hF, h => hfin σ F M ρ a w h hF hS
 | [], _ :: _, _, _, _, _, _, _, _, h, _, _, _, _ => by simp [okOpers] at h
 | _ :: _, [], _, _, _, _, _, _, _, h, _, _, _, _ => by simp [okOpers] at h
 | x :: as, o :: os, id, σ, F, M, ρ, a, w, hok, hid, hS, hF, h => by
  simp only [okOpers, Bool.and_eq_true] at hok
  have key : ∀ (i id' : Nat), ρ0.length <= i -> ρ0.length <= id' -> runI P n0 ((i, x) :: withIds N id' as) σ F k -> wpListIn (Fw r) nf P ops Q (o :: os) a w := by
   intro i id' hi hid' hr;simp only [runI] at hr;have := qcf (r := r) (n := nf) (Q := Q) (Kc := fun a w => wpListIn (Fw r) nf P ops Q os a w) hS (fun _ => hi) hok.1 hF hr (fun τ F' M' ρ' a' w' h1 h2 h3 _ => qcQ hN hfin as os id' τ F' M' ρ' a' w' hok.2 hid' h3 h2 h1)
   unfold wpListIn;exact this
  unfold withIds at h
  cases ht : x.op.takes with
  | true => rw [ht] at h; exact key id (id + 1) hid (by omega) h
  | false => rw [ht] at h; exact key N id hN hid h
theorem qaz {ops : List Oper} : ∀ {as : List AOper} {os : List Oper}, okOpers P ops as os = true -> ∀ x ∈ as, x.op.okc = true
 | [], _, _, x, hx => by simp at hx
 | y :: as, [], h, _, _ => by simp [okOpers] at h
 | y :: as, o :: os, h, x, hx => by
  simp only [okOpers, Bool.and_eq_true] at h
  rcases List.mem_cons.1 hx with rfl | hx
  ·have := h.1; simp only [okOper, Bool.and_eq_true] at this; exact this.1.2
  ·exact qaz h.2 x hx
end
theorem qft {md : Region.Mode} {e : Edge} (h : Region.binds .any e = true) : Region.binds md e = true := by
 unfold Region.binds at h ⊢
 split at h <;> simp_all
def ClosedL (ops : List Oper) (L : Nat -> Prop) : Prop := ∀ (i : Nat) (o : Oper), L i -> ops[i]? = some o -> ∀ e ∈ o.after.toList, Region.binds .any e = true -> L e.on
theorem qeG {L : Nat -> Prop} {acc : List Nat} : ∀ (es : List Edge) (s : Nat), (∀ i, s.testBit i = true -> L i) -> (∀ e ∈ es, Region.binds .any e = true -> L e.on /\ ∀ i, (acc.getD e.on 0).testBit i = true -> L i) ->
  ∀ i, (es.foldl (fun s e => if Region.binds .any e then s ||| 2 ^ e.on ||| acc.getD e.on 0 else s) s).testBit i = true -> L i
 | [], s, hs, _, i, h => hs i h
 | e :: es, s, hs, he, i, h => by
  rw [List.foldl_cons] at h;refine qeG es _ ?_ (fun e' h' => he e' (by simp [h'])) i h
  intro i hi
  split at hi
  ·rename_i hb
   obtain ⟨h1, h2⟩ := he e (by simp) hb
   rw [Nat.testBit_or, Nat.testBit_or, Bool.or_eq_true, Bool.or_eq_true, Nat.testBit_two_pow] at hi
   rcases hi with (hi | hi) | hi
   ·exact hs i hi
   ·have : e.on = i := by simpa using hi
    rw [<- this]; exact h1
   ·exact h2 i hi
  ·exact hs i hi
theorem qfu (all : List Oper) {L : Nat -> Prop} (hL : ClosedL all L) : ∀ (os : List Oper) (acc : List Nat), (∀ j, os[j]? = all[acc.length + j]?) ->
  (∀ j, j < acc.length -> (∀ o, all[j]? = some o -> ∀ e ∈ o.after.toList, Region.binds .any e = true -> L e.on) -> ∀ i, (acc.getD j 0).testBit i = true -> L i) ->
  ∀ j, (∀ o, all[j]? = some o -> ∀ e ∈ o.after.toList, Region.binds .any e = true -> L e.on) -> ∀ i, ((befs os acc).getD j 0).testBit i = true -> L i
 | [], acc, _, hacc, j, hj, i, h => by
  simp only [befs] at h
  by_cases hlt : j < acc.length
  ·exact hacc j hlt hj i h
  ·rw [List.getD_eq_getElem?_getD, List.getElem?_eq_none (by omega)] at h; simp at h
 | o :: os, acc, hos, hacc, j, hj, i, h => by
  simp only [befs] at h;refine qfu all hL os _ (fun j => ?_) (fun j' hj' hp i' hi' => ?_) j hj i h
  ·have := hos (j + 1)
   simp only [List.getElem?_cons_succ] at this;rw [this];simp only [List.length_append, List.length_cons, List.length_nil]
   congr 1; omega
  ·by_cases hlt : j' < acc.length
   ·rw [List.getD_eq_getElem?_getD, List.getElem?_append_left hlt, <- List.getD_eq_getElem?_getD] at hi'
    exact hacc j' hlt hp i' hi'
   ·have hje : j' = acc.length := by simp only [List.length_append, List.length_cons, List.length_nil] at hj'; omega
    subst hje;rw [List.getD_eq_getElem?_getD, List.getElem?_append_right (Nat.le_refl _), Nat.sub_self] at hi';simp only [List.getElem?_cons_zero, Option.getD_some] at hi';have ho : all[acc.length]? = some o := by have := hos 0; simpa using this.symm
    refine qeG o.after.toList 0 (fun i hi => by simp at hi) (fun e he hb => ?_) i' hi'
    have hLe := hp o ho e he hb;refine ⟨hLe, fun i hi => ?_⟩
    by_cases hel : e.on < acc.length
    ·exact hacc e.on hel (fun o' ho' e' he' hb' => hL e.on o' hLe ho' e' he' hb') i hi
    ·rw [List.getD_eq_getElem?_getD, List.getElem?_eq_none (by omega)] at hi; simp at hi
section
variable {P : Program} {A : Nat -> Obj -> Prop} {dfs : List Deferred} {M0 : Mem} {ρ0 : Env} {w0 : World} {n0 : Nat} {Q : Exit -> Act -> World -> Prop}
theorem qgt {M : Mem} {ρ : Env} {j : Nat} (hj : ρ[j]? = some Spot.gone) : ∀ (v : LV) (us : List Value), LRel M ρ v us -> Fre j v := by
 have h : ∀ (v : LV), (∀ us, LRel M ρ v us -> Fre j v) := by
  intro v
  induction v using LV.rec (motive_2 := fun cs => ∀ uss, LRelC M ρ cs uss -> ∀ c ∈ cs, Fre j c) with
  | s v => exact fun _ _ => Fre.s
  | any => exact fun _ _ => Fre.any
  | full xs => exact fun _ _ => Fre.full
  | tup vs => exact fun _ _ => Fre.tup
  | loc b off =>
   intro us h;simp only [LRel] at h;obtain ⟨cb, sh, n, h1, _⟩ := h;exact qbG fun e => by subst e; rw [hj] at h1; cases h1
  | sl b off len sz c =>
   intro us h;simp only [LRel] at h;obtain ⟨r, ad, cap, h1, h2, _⟩ := h;exact qaw fun e => by subst e; rw [hj] at h1; cases h1; exact h2 rfl
  | yl l => exact fun _ _ => by simp [Fre, fgt]
  | mp b =>
   intro us h;simp only [LRel] at h;obtain ⟨cb, sh, n, h1, _⟩ := h;have : b ≠ j := fun e => by subst e; rw [hj] at h1; cases h1
   simp [Fre, fgt, this]
  | agg cs ih =>
   intro us h;simp only [LRel] at h;exact q9.2 (ih _ h)
  | fn f a b iha ihb =>
   intro us h;simp only [LRel] at h;obtain ⟨fs, cs, _, h1, h2⟩ := h;exact qck.2 ⟨iha _ h1, ihb _ h2⟩
  | nil => rename_i hc; simp at hc
  | cons c cs ihc ihcs =>
   rename_i h c' hc'
   simp only [LRelC] at h;obtain ⟨u, us, _, h1, h2⟩ := h
   rcases List.mem_cons.1 hc' with rfl | hc'
   ·exact ihc _ h1
   ·exact ihcs _ h2 c' hc'
 exact fun v us hr => h v us hr
theorem qeH {M : Mem} {ρ : Env} {σ : AState} {a : Act} {w : World} (hS : Stands A dfs n0 M0 ρ0 w0 M ρ σ a w) {j : Nat} (hj : ρ[j]? = some Spot.gone) : FreshAt j σ := by
 refine ⟨fun t => ?_, fun b B hb hB => ?_, ?_⟩
 ·rcases hS.fr.fget t with h | ⟨vs, xs, h, _⟩ | ⟨us, h, _⟩
  ·rw [h]; exact Fre.any
  ·rw [h]; exact Fre.tup
  ·exact qgt hj _ _ h
 ·obtain ⟨r, h1, h2⟩ := hS.inv.rel.spot hB
  cases B with
  | obj cs =>
   cases r <;> simp only [BRel] at h2
   obtain ⟨c, T, _, _, _, _, h3, _⟩ := h2;refine qaW ?_;have := qgt hj (.agg cs) c.toList (by simpa only [LRel] using h3)
   exact q9.1 this
  | _ => rfl
 ·have hl := hS.inv.rel.len
  have hlt := (List.getElem?_eq_some_iff.1 hj).1;have hB : σ.hp[j]? = some σ.hp[j] := List.getElem?_eq_getElem (by omega)
  have := hS.inv.rel.blk j _ _ hB hj;rw [hB]
  cases hc : σ.hp[j] <;> rw [hc] at this <;> simp only [BRel] at this
end
section
variable {P : Program} {A : Nat -> Obj -> Prop} {dfs : List Deferred} {M0 : Mem} {ρ0 : Env} {w0 : World} {n0 : Nat} {Q : Exit -> Act -> World -> Prop}
def takesIn (as : List AOper) : Nat := (as.filter (·.op.takes)).length
theorem qcg {N : Nat} : ∀ (as : List AOper) (id : Nat), (withIds N id as).map (·.2) = as
 | [], _ => rfl
 | x :: xs, id => by
  unfold withIds
  split <;> simp [qcg xs]
theorem qds (x : AOper) (xs : List AOper) : takesIn (x :: xs) = takesIn xs + if x.op.takes then 1 else 0 := by
 unfold takesIn;rw [List.filter_cons]
 split <;> simp_all
theorem qaA {N : Nat} : ∀ (as : List AOper) (id : Nat), ∀ p ∈ withIds N id as, (p.2.op.takes = true -> id <= p.1 /\ p.1 < id + takesIn as) /\ (p.2.op.takes = false -> p.1 = N)
 | [], _, p, hp => by simp [withIds] at hp
 | x :: xs, id, p, hp => by
  rw [qds];unfold withIds at hp
  cases ht : x.op.takes with
  | true =>
   rw [ht] at hp;simp only [if_true, List.mem_cons] at hp ⊢
   rcases hp with rfl | hp
   ·exact ⟨fun _ => ⟨Nat.le_refl _, by omega⟩, fun h => by rw [ht] at h; cases h⟩
   ·obtain ⟨h1, h2⟩ := qaA xs (id + 1) p hp
    exact ⟨fun h => by have := h1 h; omega, h2⟩
  | false =>
   rw [ht] at hp;simp only [Bool.false_eq_true, if_false, List.mem_cons] at hp ⊢
   rcases hp with rfl | hp
   ·exact ⟨fun h => absurd h (by rw [ht]; simp), fun _ => rfl⟩
   ·exact qaA xs id p hp
theorem qcR {N : Nat} : ∀ (as : List AOper) (id : Nat), id + takesIn as <= N -> (withIds N id as).Pairwise fun p q => (p.2.op.takes = true \/ q.2.op.takes = true) -> q.1 ≠ p.1
 | [], _, _ => by simp [withIds]
 | x :: xs, id, hN => by
  rw [qds] at hN;unfold withIds
  cases ht : x.op.takes with
  | true =>
   rw [ht] at hN;simp only [if_true] at hN ⊢;refine List.pairwise_cons.2 ⟨fun q hq _ => ?_, qcR xs (id + 1) (by omega)⟩
   obtain ⟨h1, h2⟩ := qaA xs (id + 1) q hq
   cases hqt : q.2.op.takes with
   | true => have := h1 hqt; simp only; omega
   | false => have := h2 hqt; simp only; omega
  | false =>
   rw [ht] at hN;simp only [Bool.false_eq_true, if_false] at hN ⊢;refine List.pairwise_cons.2 ⟨fun q hq hor => ?_, qcR xs id (by omega)⟩
   obtain ⟨h1, h2⟩ := qaA xs id q hq
   rcases hor with hor | hor
   ·rw [ht] at hor; cases hor
   ·have := h1 hor; simp only; omega
def remOf (n : Nat) (listed : Array Bool) : List Nat := (List.range n).filter fun i => !listed.getD i true
theorem qcn {n : Nat} {listed : Array Bool} {i : Nat} : i ∈ remOf n listed ↔ i < n /\ listed.getD i true = false := by
 simp [remOf]
theorem qj8 (n : Nat) (listed : Array Bool) : (remOf n listed).Pairwise (· < ·) := List.pairwise_lt_range.filter _
theorem qj9 {n : Nat} {listed : Array Bool} {j : Nat} (hj : j ∈ remOf n listed) : ∃ pre post, remOf n listed = pre ++ j :: post /\ (∀ i ∈ pre, i < j) /\ remOf n (listed.setIfInBounds j true) = pre ++ post := by
 obtain ⟨pre, post, e⟩ := List.append_of_mem hj;have hpw := qj8 n listed;rw [e, List.pairwise_append] at hpw;obtain ⟨h1, h2, h3⟩ := hpw;refine ⟨pre, post, e, fun i hi => h3 i hi j (by simp), ?_⟩
 rw [List.pairwise_cons] at h2
 have hset : remOf n (listed.setIfInBounds j true) = (remOf n listed).filter fun i => !(i == j) := by
  unfold remOf;rw [List.filter_filter]
  apply List.filter_congr
  intro i hi
  by_cases hij : j = i
  ·subst hij
   have hlt : j < listed.size \/ listed.size <= j := by omega
   rcases hlt with hlt | hlt
   ·simp [Array.getD_eq_getD_getElem?, hlt]
   ·simp [Array.getD_eq_getD_getElem?, hlt]
  ·have : (i == j) = false := by simpa using fun e => hij e.symm
   rw [this];simp [Array.getD_eq_getD_getElem?, Array.getElem?_setIfInBounds, hij]
 rw [hset, e, List.filter_append, List.filter_cons];have hp : pre.filter (fun i => !(i == j)) = pre := List.filter_eq_self.2 fun i hi => by have := h3 i hi j (by simp); simp; omega
 have hq : post.filter (fun i => !(i == j)) = post := List.filter_eq_self.2 fun i hi => by have := h2.1 i hi; simp; omega
 rw [hp, hq];simp
end
section
variable {P : Program} {A : Nat -> Obj -> Prop} {dfs : List Deferred} {M0 : Mem} {ρ0 : Env} {w0 : World} {n0 : Nat} {Q : Exit -> Act -> World -> Prop}
theorem qdt {md : Region.Mode} {ops : Array Oper} {listed : Array Bool} {j : Nat} : j ∈ Region.ready md ops listed ↔
  j < ops.size /\ listed.getD j true = false /\ ∃ o, ops[j]? = some o /\ ∀ e ∈ o.after.toList, Region.binds md e = true -> listed.getD e.on false = true := by
 unfold Region.ready;rw [List.mem_filter, List.mem_range];simp only [Bool.and_eq_true, Bool.not_eq_true'];constructor
 ·rintro ⟨h1, h2, h3⟩
  refine ⟨h1, h2, ops[j], by simp [h1], fun e he hb => ?_⟩
  simp only [h1, getElem?_pos, Option.map_some, Option.getD_some, Array.all_eq_true_iff_forall_mem] at h3;have := h3 e (by simpa using he)
  simpa [hb] using this
 ·rintro ⟨h1, h2, o, ho, h3⟩
  refine ⟨h1, h2, ?_⟩;rw [ho];simp only [Option.map_some, Option.getD_some, Array.all_eq_true_iff_forall_mem];intro e he
  cases hb : Region.binds md e with
  | false => rfl
  | true => simpa using h3 e (by simpa using he) hb
theorem qgu {md : Region.Mode} {ops : Array Oper} {listed : Array Bool} (hsz : listed.size = ops.size) : ∀ (l seen : List Nat), topoIn md ops.toList seen l = true -> (∀ s ∈ seen, listed.getD s false = true) ->
  (∃ i ∈ l, listed.getD i true = false) -> ∃ j, j ∈ Region.ready md ops listed
 | [], _, _, _, h => by obtain ⟨i, hi, _⟩ := h; simp at hi
 | i :: l, seen, ht, hs, h => by
  simp only [topoIn, Bool.and_eq_true] at ht;obtain ⟨h1, h2⟩ := ht
  split at h1
  next o ho =>
   have hlt : i < ops.size := by
    have := (List.getElem?_eq_some_iff.1 ho).1
    simpa using this
   cases hl : listed.getD i true with
   | false =>
    refine ⟨i, qdt.2 ⟨hlt, hl, o, by simpa using ho, fun e he hb => ?_⟩⟩
    have := List.all_eq_true.1 h1 e he;rw [hb] at this;simp only [Bool.not_true, Bool.false_or] at this;exact hs _ (List.contains_iff_mem.1 this)
   | true =>
    refine qgu hsz l (i :: seen) h2 (fun s hss => ?_) ?_
    ·rcases List.mem_cons.1 hss with rfl | hss
     ·have hli : s < listed.size := by omega
      simp only [Array.getD_eq_getD_getElem?, hli, getElem?_pos, Option.getD_some] at hl ⊢;exact hl
     ·exact hs s hss
    ·obtain ⟨i', hi', hn⟩ := h
     rcases List.mem_cons.1 hi' with rfl | hi'
     ·rw [hl] at hn; cases hn
     ·exact ⟨i', hi', hn⟩
  next => cases h1
theorem qbo {ops : List Oper} : ∀ {as : List AOper} {os : List Oper}, okOpers P ops as os = true -> as.length = os.length /\ ∀ (i : Nat) (x : AOper) (o : Oper), as[i]? = some x -> os[i]? = some o -> okOper P ops x o = true
 | [], [], _ => ⟨rfl, fun i x o h => by simp at h⟩
 | [], _ :: _, h => by simp [okOpers] at h
 | _ :: _, [], h => by simp [okOpers] at h
 | y :: as, o :: os, h => by
  simp only [okOpers, Bool.and_eq_true] at h;obtain ⟨h1, h2⟩ := qbo h.2;refine ⟨by simp [h1], fun i x o' hx ho => ?_⟩
  cases i with
  | zero => simp at hx ho; subst hx ho; exact h.1
  | succ i => simp at hx ho; exact h2 i x o' hx ho
theorem qiH {as : List AOper} {bs : List Nat} (h : tiedOk as bs = true) {i j : Nat} {x y : AOper} (hij : i < j) (hx : as[i]? = some x) (hy : as[j]? = some y) : x.tied y = false \/ (bs.getD j 0).testBit i = true := by
 unfold tiedOk at h;have hj := (List.getElem?_eq_some_iff.1 hy).1;have := List.all_eq_true.1 (List.all_eq_true.1 h j (List.mem_range.2 hj)) i (List.mem_range.2 hij);rw [hx, hy] at this
 simpa using this
theorem qka (op : AOp) : op.cls <= 4 := by cases op <;> simp [AOp.cls]
theorem qiI {r : Option Nat} {nf : Nat} {ops : Array Oper} {as : List AOper} {md : Region.Mode} {N id0 : Nat} (hN : id0 + takesIn as <= N) (hid0 : ρ0.length <= id0) (hok : okOpers P ops.toList as ops.toList = true)
  (htied : tiedOk as (befs ops.toList []) = true) {l : List Nat} (htopo : topoOk md ops.toList l = true) {k : AState -> Prop -> Prop} (hfin : ∀ τ F' M' ρ' a' w', k τ F' -> F' -> Stands A dfs n0 M0 ρ0 w0 M' ρ' τ a' w' -> Q .normal a' w') :
  ∀ (fuel : Nat) (listed : Array Bool) (σ : AState) (F : Prop) (M : Mem) (ρ : Env) (a : Act) (w : World), listed.size = ops.size -> (remOf ops.size listed).length <= fuel -> ClosedL ops.toList (fun i => listed.getD i false = true) ->
   Stands A dfs n0 M0 ρ0 w0 M ρ σ a w -> F -> (∀ i ∈ remOf ops.size listed, ∀ p, (withIds N id0 as)[i]? = some p -> p.2.op.takes = true -> ρ[p.1]? = some Spot.gone) ->
   runI P n0 ((remOf ops.size listed).filterMap fun i => (withIds N id0 as)[i]?) σ F k -> wpAnyIn (Fw r) nf P md ops Q fuel listed a w := by
 have hlen := (qbo hok).1;have hisnd := qcg (N := N) as id0
 have hilen : (withIds N id0 as).length = ops.size := by
  have := congrArg List.length hisnd;simp only [List.length_map] at this;rw [this, hlen]; simp
 have hias : ∀ (i : Nat) p, (withIds N id0 as)[i]? = some p -> as[i]? = some p.2 := fun i p h => by
  have := congrArg (·[i]?) hisnd;simp only [List.getElem?_map, h, Option.map_some] at this;exact this.symm
 have hne : ∀ (i j : Nat) p q, i ≠ j -> (withIds N id0 as)[i]? = some p -> (withIds N id0 as)[j]? = some q -> p.2.op.takes = true \/ q.2.op.takes = true -> p.1 ≠ q.1 := by
  intro i j p q hij hp hq hor;have hpw := qcR (N := N) as id0 hN;rw [List.pairwise_iff_getElem] at hpw;obtain ⟨hi, rfl⟩ := List.getElem?_eq_some_iff.1 hp;obtain ⟨hj, rfl⟩ := List.getElem?_eq_some_iff.1 hq
  rcases Nat.lt_or_gt_of_ne hij with h | h
  ·exact fun e => hpw i j hi hj h hor e.symm
  ·exact hpw j i hj hi h hor.symm
 have hrem0 : ∀ listed : Array Bool, listed.size = ops.size -> Region.ready md ops listed = [] -> remOf ops.size listed = [] := by
  intro listed hsz hr
  cases hrem : remOf ops.size listed with
  | nil => rfl
  | cons i rest =>
   have hi : i ∈ remOf ops.size listed := by rw [hrem]; simp
   obtain ⟨h1, h2⟩ := qcn.1 hi;unfold topoOk at htopo;simp only [Bool.and_eq_true, List.all_eq_true] at htopo;have hil : i ∈ l := List.contains_iff_mem.1 (htopo.2 i (List.mem_range.2 (by simpa using h1)))
   obtain ⟨j, hj⟩ := qgu hsz l [] htopo.1 (by simp) ⟨i, hil, h2⟩
   rw [hr] at hj; simp at hj
 intro fuel
 induction fuel with
 | zero =>
  intro listed σ F M ρ a w hsz hfl hcl hS hF hg h;have hrem : remOf ops.size listed = [] := List.eq_nil_of_length_eq_zero (by omega)
  rw [hrem] at h;refine ⟨?_, hfin σ F M ρ a w h hF hS⟩
  cases hr : Region.ready md ops listed with
  | nil => rfl
  | cons j _ =>
   have hj : j ∈ Region.ready md ops listed := by rw [hr]; simp
   obtain ⟨h1, h2, _⟩ := qdt.1 hj;have : j ∈ remOf ops.size listed := qcn.2 ⟨h1, h2⟩;rw [hrem] at this; simp at this
 | succ fuel ih =>
  intro listed σ F M ρ a w hsz hfl hcl hS hF hg h;refine ⟨fun hr => ?_, fun j hj => ?_⟩
  ·rw [hrem0 listed hsz hr] at h
   exact hfin σ F M ρ a w h hF hS
  ·obtain ⟨h1, h2, o, ho, hpre⟩ := qdt.1 hj
   obtain ⟨pre, post, e1, e2, e3⟩ := qj9 (qcn.2 ⟨h1, h2⟩);obtain ⟨p, hp⟩ : ∃ p, (withIds N id0 as)[j]? = some p := ⟨_, List.getElem?_eq_getElem (by omega)⟩
   rw [e1, List.filterMap_append, List.filterMap_cons, hp] at h;have hjrem : j ∈ remOf ops.size listed := by rw [e1]; simp
   have hyok := qaz hok p.2 (List.mem_of_getElem? (hias j p hp));have hprem : ∀ i ∈ pre, i ∈ remOf ops.size listed := fun i hi => by rw [e1]; simp [hi]
   have hfront := qeE (P := P) (n0 := n0) hyok (qka _) (pre := pre.filterMap fun i => (withIds N id0 as)[i]?) (post := post.filterMap fun i => (withIds N id0 as)[i]?) (j := p.1) (σ := σ) (F := F) (k := k) (fun q hq => by
     obtain ⟨i, hi, hqi⟩ := List.mem_filterMap.1 hq;have hij := e2 i hi;refine ⟨qaz hok q.2 (List.mem_of_getElem? (hias i q hqi)), qka _, ?_, hne i j q p (by omega) hqi hp, fun ht => qeH hS (hg i (hprem i hi) q hqi ht)⟩
     rcases qiH htied hij (hias i q hqi) (hias j p hp) with h' | h'
     ·exact h'
     ·have hli := qfu ops.toList hcl ops.toList [] (fun j => by simp) (fun j hj => by simp at hj) j (fun o' ho' e' he' hb' => by
       rw [Array.getElem?_toList, ho] at ho'
       cases ho'
       exact hpre e' he' (qft hb')) i h'
      obtain ⟨hi1, hi2⟩ := qcn.1 (hprem i hi);have hil : i < listed.size := by omega
      simp only [Array.getD_eq_getD_getElem?, hil, getElem?_pos, Option.getD_some] at hli hi2;rw [hli] at hi2; cases hi2) (by
     have hpp : pre.Pairwise (· < ·) := by
      have := qj8 ops.size listed;rw [e1, List.pairwise_append] at this;exact this.1
     rw [List.pairwise_filterMap];refine hpp.imp fun {i i'} hlt q hq q' hq' ht => ?_
     exact (hne i i' q q' (by omega) hq hq' (.inr ht)).symm) (fun ht => qeH hS (hg j hjrem p hp ht)) h
   have hstep : stp P n0 p.1 p.2 σ F fun τ F' => runI P n0 ((remOf ops.size (listed.setIfInBounds j true)).filterMap fun i => (withIds N id0 as)[i]?) τ F' k := by
    rw [e3, List.filterMap_append];exact hfront
   have hs := qcf (r := r) (n := nf) (Q := Q) (Kc := wpAnyIn (Fw r) nf P md ops Q fuel (listed.setIfInBounds j true)) hS (fun _ => by
     obtain ⟨h5, h6⟩ := qaA (N := N) as id0 p (List.mem_of_getElem? hp)
     cases ht : p.2.op.takes with
     | true => have := h5 ht; omega
     | false => have := h6 ht; omega) ((qbo hok).2 j p.2 o (hias j p hp) (by rw [Array.getElem?_toList]; exact ho)) hF hstep (fun τ F' M' ρ' a' w' hk hF' hS' hgone => by
     refine ih _ τ F' M' ρ' a' w' (by simp [hsz]) ?_ ?_ hS' hF' ?_ hk
     ·rw [e3]
      rw [e1] at hfl;simp only [List.length_append, List.length_cons] at hfl ⊢;omega
     ·intro i o' hi ho' e' he' hb'
      have key : ∀ x, listed.getD x false = true -> (listed.setIfInBounds j true).getD x false = true := fun x hx => getD_set_true hx
      by_cases hij : i = j
      ·subst hij
       rw [Array.getElem?_toList, ho] at ho'
       cases ho'
       exact key _ (hpre e' he' (qft hb'))
      ·have : listed.getD i false = true := by rw [getD_set_ne false (fun e => hij e.symm)] at hi; exact hi
       exact key _ (hcl i o' this ho' e' he' hb')
     ·intro i hi q hq ht
      have hir : i ∈ remOf ops.size listed := by
       rw [e3] at hi;rw [e1]
       rcases List.mem_append.1 hi with hi | hi <;> simp [hi]
      have hij : i ≠ j := by
       intro e;subst e;obtain ⟨_, h8⟩ := qcn.1 hi;have hil : i < listed.size := by omega
       simp [Array.getD_eq_getD_getElem?, hil] at h8
      exact hgone q.1 (hne i j q p hij hq hp (.inl ht)) (hg i hir q hq ht))
   unfold wpOpIn;rw [ho];exact hs
end
section
variable {P : Program} {A : Nat -> Obj -> Prop} {dfs : List Deferred} {M0 : Mem} {ρ0 : Env} {w0 : World} {M : Mem} {ρ : Env} {w : World} {a : Act} {n0 : Nat}
theorem Env.le_app (ρ τ : Env) : Env.le ρ (ρ ++ τ) := fun j s _ h => by
 rw [List.getElem?_append_left (List.getElem?_eq_some_iff.1 h).1]; exact h
theorem qaY {k : Nat} {r : Spot} (hr : ∀ cb sh n, r ≠ .here cb sh n) {i cb sh n : Nat} (h : (ρ ++ List.replicate k r)[i]? = some (.here cb sh n)) : ρ[i]? = some (.here cb sh n) := by
 by_cases hi : i < ρ.length
 ·rwa [List.getElem?_append_left hi] at h
 ·rw [List.getElem?_append_right (by omega), List.getElem?_replicate] at h
  split at h
  ·cases h; exact absurd rfl (hr _ _ _)
  ·cases h
theorem MInv.ext {H : List ABlock} (h : MInv A n0 M0 ρ0 w0 M ρ H w) (k : Nat) {B : ABlock} {r : Spot} (hBr : (B = .gone /\ r = .gone) \/ (B = .row [] /\ r = .empty)) :
    MInv A n0 M0 ρ0 w0 M (ρ ++ List.replicate k r) (H ++ List.replicate k B) w := by
  have hr : ∀ cb sh n, r ≠ .here cb sh n := by rcases hBr with ⟨_, rfl⟩ | ⟨_, rfl⟩ <;> intro _ _ _ h <;> cases h
  have hB : ∀ ρ', BRel M ρ' w B r := by rcases hBr with ⟨rfl, rfl⟩ | ⟨rfl, rfl⟩ <;> intro ρ' <;> simp [BRel]
  have hl := h.rel.len
  have ap : ∀ {i cb sh n : Nat}, ρ[i]? = some (.here cb sh n) -> (H ++ List.replicate k B)[i]? ≠ some (ABlock.frz []) -> H[i]? ≠ some (ABlock.frz []) := fun {i cb sh n} hi ha => by
    rwa [List.getElem?_append_left (by rw [<- hl]; exact (List.getElem?_eq_some_iff.1 hi).1)] at ha
  refine { rel := ⟨by simp [hl], fun i B' r' hB' hr' => ?_, fun i j cb sh n cb' sh' n' hij hi hj a1 a2 => h.rel.inj i j cb sh n cb' sh' n' hij (qaY hr hi) (qaY hr hj) (ap (qaY hr hi) a1) (ap (qaY hr hj) a2), fun i cb sh n hi => h.rel.lt i cb sh n (qaY hr hi), h.rel.cells, h.rel.maps⟩,
           mem := h.mem, nle := h.nle, len := by simp; have := h.len; omega, env := fun i r' hi hne h' => ?_, gon := fun i hi h' => ?_, touch := h.touch, newer := h.newer, fresh := fun i cb sh n hi h' => h.fresh i cb sh n hi (qaY hr h'), alien := fun k o ho => ⟨(h.alien k o ho).1, (h.alien k o ho).2.1, fun ⟨i, sh, n, hi⟩ => (h.alien k o ho).2.2 ⟨i, sh, n, qaY hr hi⟩⟩ }
  · by_cases hi : i < H.length
    · rw [List.getElem?_append_left hi] at hB'
      rw [List.getElem?_append_left (by omega)] at hr'
      exact BRel.mono (h.rel.blk i B' r' hB' hr') (Mem.le_refl _) (Env.le_app _ _) fun _ _ _ _ => ⟨fun _ k => k, fun k => k⟩
    · rw [List.getElem?_append_right (by omega), List.getElem?_replicate] at hB' hr'
      rw [hl] at hr'
      split at hB'
      · rename_i hlt; rw [if_pos hlt] at hr'; cases hB'; cases hr'; exact hB _
      · cases hB'
  · have := h.len
    have := h.nle;rw [List.getElem?_append_left (by omega)]; exact h.env i r' hi hne h'
  · have := h.len
    rw [List.getElem?_append_left (by omega)]; exact h.gon i hi h'
theorem MInv.reblk {H : List ABlock} (h : MInv A n0 M0 ρ0 w0 M ρ H w) {b : Nat} {B' : ABlock} (ha : H[b]? ≠ some (.frz [])) (hB : ∀ r, ρ[b]? = some r -> BRel M ρ w B' r) : MInv A n0 M0 ρ0 w0 M ρ (H.set b B') w := h.reblk0 ha hB
theorem qdu {M : Mem} {ρ : Env} : ∀ {cs : List LV} {uss : List (List Value)} {i : Nat} {v : LV}, LRelC M ρ cs uss -> cs[i]? = some v -> ∃ u, uss[i]? = some u /\ LRel M ρ v u
 | [], _, _, _, _, h => by simp at h
 | c :: cs, uss, i, v, hl, h => by
  obtain ⟨u, us, rfl, h1, h2⟩ := hl
  cases i with
  | zero => simp only [List.getElem?_cons_zero, Option.some.injEq] at h; subst h; exact ⟨u, rfl, h1⟩
  | succ i => simp only [List.getElem?_cons_succ] at h ⊢; exact qdu h2 h
theorem qdv {M : Mem} {ρ : Env} : ∀ {cs : List LV} {uss : List (List Value)} {i : Nat} {v : LV} {u : List Value}, LRelC M ρ cs uss -> uss[i]? = some u -> LRel M ρ v u -> LRelC M ρ (cs.set i v) uss
 | [], _, _, _, _, hl, _, _ => by simpa using hl
 | c :: cs, uss, i, v, u, hl, h, hv => by
  obtain ⟨u', us, rfl, h1, h2⟩ := hl
  cases i with
  | zero => simp only [List.getElem?_cons_zero, Option.some.injEq] at h; subst h; exact ⟨_, _, rfl, hv, h2⟩
  | succ i => simp only [List.getElem?_cons_succ] at h; exact ⟨_, _, rfl, h1, qdv h2 h hv⟩
theorem qfv {H : List ABlock} (hI : MInv A n0 M0 ρ0 w0 M ρ H w) {v : LV} {us : List Value} (hv : LRel M ρ v us) {k : AK} (h : frzvK H k v) :
  ∃ v' H' M', k v' H' none True /\ MInv A n0 M0 ρ0 w0 M' ρ H' w /\ M.le M' /\ LRel M' ρ v' us /\ ∀ (i : Nat) cs, H[i]? = some (.obj cs) -> H'[i]? = some (.obj cs) := by
 unfold frzvK at h
 split at h
 next b off len sz clip =>
  unfold frzvB at h
  split at h
  next cs hB =>
   obtain ⟨ys, hrow, hk⟩ := h
   have hobj : ∀ (i : Nat) ds, H[i]? = some (.obj ds) -> (H.set b (.frz cs))[i]? = some (.obj ds) := fun i ds hi => by
    rw [List.getElem?_set, if_neg (fun e => by subst e; rw [hB] at hi; cases hi)]; exact hi
   obtain ⟨r, hr, hBr⟩ := hI.rel.spot hB;have h1 := hv;simp only [LRel] at h1;obtain ⟨r', ad, cap, hr', hng, ey, hlc, hcm, hsz, hclip, hcase⟩ := h1;rw [hr] at hr'; cases hr'
   have hnil : len = 0 -> ys = [] := fun hl => by
    subst hl;unfold rowOf at hrow
    split at hrow
    ·cases hrow; unfold elems; split <;> simp [chunk]
    ·cases hrow
   cases r with
   | gone => exact absurd rfl hng
   | empty =>
    simp only [BRel] at hBr;subst hBr
    have hc0 : cap = 0 := by
     rcases hcase with h | ⟨_, _, _, h, _⟩
     ·exact h
     ·cases h
    have hys := hnil (by omega)
    subst hys;refine ⟨_, _, M, hk, hI.reblk (by rw [hB]; nofun) fun r hr2 => ?_, Mem.le_refl _, ?_, hobj⟩
    ·rw [hr] at hr2; cases hr2; simp [BRel]
    ·have hl0 : len = 0 := by omega
     subst hl0;simp only [LRel, CRel]; exact ⟨_, _, _, ey, rfl, hlc, hcm, .inl trivial⟩
   | here cb sh n =>
    simp only [BRel] at hBr;obtain ⟨c, T, hc, hcn, hfit, hcr, hno⟩ := hBr;have hfz := hI.freeze (cs' := cs) hB hr hc hno (Touch.refl _ w) hc rfl (CRelC.mono (qL hno) _ _ hcr);refine ⟨_, _, _, hk, hfz, qL hno, ?_, hobj⟩;rw [ey]
    rcases hcase with h11 | ⟨cb2, sh2, n2, e3, e4, h12⟩
    ·have hl : len = 0 := by omega
     have hys := hnil hl;subst hl;subst hys;simp only [LRel, CRel]; exact ⟨_, _, _, rfl, rfl, hlc, hcm, .inl trivial⟩
    ·cases e3
     subst e4;simp only [LRel];exact qdi hsz (CRelC.mono (qL hno) _ _ hcr) hrow rfl qbN hlc hcm
  next => cases h
 next b =>
  unfold frzvM at h
  split at h
  next ks vs bs bm c hB =>
   refine ⟨_, _, M, h, hI.reblk (by rw [hB]; nofun) fun r hr2 => ?_, Mem.le_refl _, hv, fun i ds hi => ?_⟩
   ·obtain ⟨r', hr, hBr⟩ := hI.rel.spot hB
    rw [hr] at hr2; cases hr2;exact qga hBr
   ·rw [List.getElem?_set, if_neg (fun e => by subst e; rw [hB] at hi; cases hi)]; exact hi
  next => cases h
 next xs =>
  simp only [LRel] at hv;obtain ⟨a, n, e, hv⟩ := hv;exact ⟨_, _, M, h, hI, Mem.le_refl _, by simpa only [LRel] using hv, fun _ _ h => h⟩
 next u => exact ⟨_, _, M, h, hI, Mem.le_refl _, hv, fun _ _ h => h⟩
 next => cases h
theorem qfw {H : List ABlock} (hI : MInv A n0 M0 ρ0 w0 M ρ H w) {off : Nat} {Q : List ABlock -> Prop} {v : LV} (h : zapK H off Q v) : ∃ H' M', Q H' /\ MInv A n0 M0 ρ0 w0 M' ρ H' w /\ M.le M' := by
 unfold zapK at h
 split at h
 next b o =>
  unfold zapB at h
  split at h
  next cs hB =>
   unfold zapC at h
   split at h
   next c hc =>
    obtain ⟨r, hr, hBr⟩ := hI.rel.spot hB
    cases r with
    | gone => simp [BRel] at hBr
    | empty => simp [BRel] at hBr
    | here cb sh n =>
     simp only [BRel] at hBr;obtain ⟨ce, T, h1, h2, h3, h4, h5, h6⟩ := hBr;obtain ⟨us, hu, hl⟩ := qdu h5 hc;obtain ⟨v', H', M', hk, hI', hle, hl', hobj⟩ := qfv hI hl h;refine ⟨_, M', hk, hI'.reblk (by rw [hobj b cs hB]; nofun) fun r hr2 => ?_, hle⟩
     have hB2 := hI'.rel.blk b _ _ (hobj b cs hB) hr2
     cases r with
     | gone => simp [BRel] at hB2
     | empty => simp [BRel] at hB2
     | here cb2 sh2 n2 =>
      rw [hr] at hr2
      cases hr2
      simp only [BRel] at hB2 ⊢;obtain ⟨ce2, T2, k1, k2, k3, k4, k5, k6⟩ := hB2;rw [h1] at k1
      cases k1
      exact ⟨_, _, h1, k2, by simpa using k3, k4, qdv k5 hu hl', k6⟩
   next => cases h
  next => cases h
 next => cases h
theorem qgv {M : Mem} {ρ ρ' : Env} {p : Nat -> Bool} {v' : LV} (hp : ∀ v x, LVal M ρ v x -> LVal M ρ' (fgt p v) x) : ∀ {fr : List LV} {xs : List Value} (t : Nat), FRel M ρ fr xs -> (∀ x, LVal M ρ (fget fr t) x -> LVal M ρ' v' x) -> FRel M ρ' (fset (fgtL p fr) t v') xs
 | [], xs, _, h, _ => by simpa [FRel, fgtL, fset] using h
 | v :: vs, xs, 0, h, hv => by
  obtain ⟨y, ys, rfl, h1, h2⟩ := h;refine ⟨y, ys, rfl, hv y h1, ?_⟩;have := h2.map (fgt p) hp;rw [<- qae] at this;exact this
 | v :: vs, xs, t + 1, h, hv => by
  obtain ⟨y, ys, rfl, h1, h2⟩ := h;exact ⟨y, ys, rfl, hp _ _ h1, qgv hp t h2 hv⟩
theorem qhR {M : Mem} {ρ : Env} {v' : LV} : ∀ {fr : List LV} {xs : List Value} (t : Nat), FRel M ρ fr xs -> (∀ x, xs[t]? = some x -> LVal M ρ v' x) -> FRel M ρ (fset fr t v') xs
 | [], _, _, h, _ => by simpa [fset] using h
 | v :: vs, xs, 0, h, hv => by
  obtain ⟨y, ys, rfl, h1, h2⟩ := h;exact ⟨y, ys, rfl, hv y rfl, h2⟩
 | v :: vs, xs, t + 1, h, hv => by
  obtain ⟨y, ys, rfl, h1, h2⟩ := h;exact ⟨y, ys, rfl, h1, qhR t h2 fun x hx => hv x hx⟩
theorem qfx {M : Mem} {ρ : Env} {v : LV} : ∀ {fr : List LV} {xs : List Value} (t : Nat), FRel M ρ fr xs -> fget fr t = v -> v ≠ .any -> ∃ x, xs[t]? = some x /\ LVal M ρ v x
 | [], _, t, _, h, hne => absurd (by rw [<- h]; cases t <;> rfl) hne
 | u :: vs, xs, 0, h, hv, _ => by
  obtain ⟨y, ys, rfl, h1, h2⟩ := h;exact ⟨y, rfl, by rw [<- hv]; exact h1⟩
 | u :: vs, xs, t + 1, h, hv, hne => by
  obtain ⟨y, ys, rfl, h1, h2⟩ := h;exact qfx t h2 hv hne
theorem qiJ {σ : AState} (hI : MInv A n0 M0 ρ0 w0 M ρ σ.hp w) {xs : List Value} (hf : FRel M ρ σ.fr xs) {t : Nat} {Q : AState -> Prop} {v : LV} (hv : fget σ.fr t = v) (h : frztK t σ Q v) : ∃ τ M', Q τ /\ MInv A n0 M0 ρ0 w0 M' ρ τ.hp w /\ FRel M' ρ τ.fr xs := by
 unfold frztK at h
 split at h
 next b off len sz clip =>
  obtain ⟨x, hx, hl⟩ := qfx t hf hv (by simp)
  have h' : frzvK σ.hp (fun v' H' _ _ => Q { fr := fset σ.fr t v', hp := H' } /\ ∃ ys, v' = .s (.slice ys)) (.sl b off len sz clip) := by
   simp only [frzvK] at h ⊢;unfold frzvB at h ⊢
   split at h
   ·obtain ⟨ys, h1, h2⟩ := h
    exact ⟨ys, h1, h2, ys, rfl⟩
   ·cases h
  obtain ⟨v', H', M', ⟨hk, ys, rfl⟩, hI', hle, hl', _⟩ := qfv hI (hl.one rfl (by simp)) h'
  refine ⟨_, M', hk, hI', qhR t (hf.mono hle (Env.le_refl _)) fun y hy => ?_⟩
  rw [hx] at hy
  cases hy
  exact qh hl' rfl
 next => cases h
theorem qkb {σ : AState} (hI : MInv A n0 M0 ρ0 w0 M ρ σ.hp w) {xs : List Value} (hf : FRel M ρ σ.fr xs) {j t : Nat} {Q : AState -> Prop} {v : LV} (hv : fget σ.fr t = v) (h : renK (n0 + j) t σ Q v) : ∃ τ ρ', Q τ /\ MInv A n0 M0 ρ0 w0 M ρ' τ.hp w /\ FRel M ρ' τ.fr xs := by
 unfold renK at h
 split at h
 next c =>
  obtain ⟨hbc, h⟩ := h;generalize hb : n0 + j = b at *;unfold renC at h
  split at h
  next ds cs hB hC =>
   obtain ⟨rb, hrb, hBb⟩ := hI.rel.spot hB;obtain ⟨rc, hrc, hBc⟩ := hI.rel.spot hC;have hbl := (List.getElem?_eq_some_iff.1 hrb).1;have hcl := (List.getElem?_eq_some_iff.1 hrc).1;have hHl := hI.rel.len
   have hag : ∀ k, (k == b || k == c) = false -> ((ρ.set b rc).set c Spot.gone)[k]? = ρ[k]? := fun k hk => by
    simp only [Bool.or_eq_false_iff, beq_eq_false_iff_ne] at hk;rw [List.getElem?_set_ne (Ne.symm hk.2), List.getElem?_set_ne (Ne.symm hk.1)]
   have hgb : ((ρ.set b rc).set c Spot.gone)[b]? = some rc := by
    rw [List.getElem?_set_ne (by omega), List.getElem?_set_self hbl]
   have hgc : ((ρ.set b rc).set c Spot.gone)[c]? = some .gone := by
    rw [List.getElem?_set_self (by rw [List.length_set]; exact hcl)]
   have hat : ∀ k r, ((ρ.set b rc).set c Spot.gone)[k]? = some r -> r ≠ .gone -> ∃ k', ρ[k']? = some r /\ (k' = k /\ k ≠ b /\ k ≠ c \/ k = b /\ k' = c) := fun k r hk hr => by
    by_cases e1 : k = b
    ·subst e1; rw [hgb] at hk; cases hk; exact ⟨c, hrc, .inr ⟨rfl, rfl⟩⟩
    ·by_cases e2 : k = c
     ·subst e2; rw [hgc] at hk; cases hk; exact absurd rfl hr
     ·rw [hag k (by simp [e1, e2])] at hk; exact ⟨k, hk, .inl ⟨rfl, e1, e2⟩⟩
   refine ⟨_, (ρ.set b rc).set c .gone, h, ?_, ?_⟩
   ·refine { rel := ?_, mem := hI.mem, nle := hI.nle, len := by simpa using hI.len, env := ?_, gon := ?_, touch := hI.touch, newer := hI.newer, fresh := ?_, alien := ?_ }
    ·refine { len := by simpa using hHl, blk := ?_, inj := ?_, lt := ?_, cells := hI.rel.cells, maps := hI.rel.maps }
     ·intro k B r hk hr
      by_cases e2 : k = c
      ·subst e2
       rw [List.getElem?_set_self (by simp; omega)] at hk
       rw [hgc] at hr
       cases hk; cases hr
       simp [BRel]
      ·rw [List.getElem?_set_ne (Ne.symm e2)] at hk
       by_cases e1 : k = b
       ·subst e1
        rw [List.getElem?_set_self (by simp; omega)] at hk
        rw [hgb] at hr
        cases hk; cases hr
        exact BRel.fgt (B := .obj cs) hBc hag
       ·rw [List.getElem?_set_ne (Ne.symm e1), List.getElem?_map] at hk
        rw [hag k (by simp [e1, e2])] at hr
        cases hk2 : σ.hp[k]? with
        | none => rw [hk2] at hk; cases hk
        | some B0 =>
         rw [hk2] at hk;simp only [Option.map_some, Option.some.injEq] at hk;subst hk;exact BRel.fgt (hI.rel.blk k B0 r hk2 hr) hag
     ·intro i k cb sh n cb' sh' n' hik hi hk a1 a2
      obtain ⟨i', hi2, hi3⟩ := hat i _ hi (by simp)
      obtain ⟨k', hk2, hk3⟩ := hat k _ hk (by simp)
      have al : ∀ {i i' : Nat}, (i' = i /\ i ≠ b /\ i ≠ c \/ i = b /\ i' = c) -> (((σ.hp.map (fgtB fun x => x == b || x == c)).set b (.obj (fgtL (fun x => x == b || x == c) cs))).set c .gone)[i]? ≠ some (ABlock.frz []) -> σ.hp[i']? ≠ some (ABlock.frz []) := fun {i i'} h3 ha => by
       rcases h3 with ⟨rfl, h4, h5⟩ | ⟨_, rfl⟩
       ·rw [List.getElem?_set_ne (Ne.symm h5), List.getElem?_set_ne (Ne.symm h4)] at ha
        exact qP ha
       ·rw [hC]; nofun
      exact hI.rel.inj i' k' cb sh n cb' sh' n' (by omega) hi2 hk2 (al hi3 a1) (al hk3 a2)
     ·intro i cb sh n hi
      obtain ⟨i', hi2, _⟩ := hat i _ hi (by simp)
      exact hI.rel.lt i' cb sh n hi2
    ·intro i r hi hr h0
     rw [hag i (by simp; omega)]
     exact hI.env i r hi hr h0
    ·intro i hi h0
     have hg := hI.gon i hi h0
     by_cases e1 : i = b
     ·subst e1
      rw [hrb] at hg
      cases hg
      simp [BRel] at hBb
     ·by_cases e2 : i = c
      ·subst e2; exact hgc
      ·rw [hag i (by simp [e1, e2])]; exact hg
    ·intro i cb sh n hi hk
     obtain ⟨i', hi2, hi3⟩ := hat i _ hk (by simp)
     exact hI.fresh i' cb sh n (by omega) hi2
    ·intro k o hk
     obtain ⟨h1, h2, h3⟩ := hI.alien k o hk;refine ⟨h1, h2, fun ⟨i, sh, n, hi⟩ => h3 ?_⟩
     obtain ⟨i', hi2, _⟩ := hat i _ hi (by simp)
     exact ⟨i', sh, n, hi2⟩
   ·refine qgv (fun v x hx => hx.fgt hag) t hf fun x hx => ?_
    rw [hv] at hx;have h1 := hx.one rfl (by simp) rfl
    simp only [LRel] at h1;obtain ⟨cb, sh, n, h2, h3⟩ := h1;refine qh ?_ rfl;simp only [LRel];rw [hrc] at h2;exact ⟨cb, sh, n, by rw [hgb, <- h2], h3⟩
  next => cases h
 next => cases h
theorem qiK {σ : AState} (hI : MInv A n0 M0 ρ0 w0 M ρ σ.hp w) {xs : List Value} (hf : FRel M ρ σ.fr xs) {j off : Nat} {Q : AState -> Prop} {v : LV} (h : renrK (n0 + j) off σ Q v) : ∃ τ ρ', Q τ /\ MInv A n0 M0 ρ0 w0 M ρ' τ.hp w /\ FRel M ρ' τ.fr xs := by
 unfold renrK at h
 split at h
 next x o0 =>
  unfold renrB at h
  split at h
  next cs hX =>
   generalize o0 + off = i at *;unfold renrV at h
   split at h
   next c o len sz clip hcell =>
    obtain ⟨hbc, hxb, hxc, h⟩ := h;generalize hb : n0 + j = b at *;unfold renrD at h
    split at h
    next R hB hC =>
     obtain ⟨rb, hrb, hBb⟩ := hI.rel.spot hB;obtain ⟨rc, hrc, hBc⟩ := hI.rel.spot hC;obtain ⟨rx, hrx, hBx⟩ := hI.rel.spot hX;have hbl := (List.getElem?_eq_some_iff.1 hrb).1;have hcl := (List.getElem?_eq_some_iff.1 hrc).1;have hHl := hI.rel.len;have hxl := (List.getElem?_eq_some_iff.1 hX).1
     have hag : ∀ k, (k == b || k == c) = false -> ((ρ.set b rc).set c Spot.gone)[k]? = ρ[k]? := fun k hk => by
      simp only [Bool.or_eq_false_iff, beq_eq_false_iff_ne] at hk;rw [List.getElem?_set_ne (Ne.symm hk.2), List.getElem?_set_ne (Ne.symm hk.1)]
     have hgb : ((ρ.set b rc).set c Spot.gone)[b]? = some rc := by
      rw [List.getElem?_set_ne (by omega), List.getElem?_set_self hbl]
     have hgc : ((ρ.set b rc).set c Spot.gone)[c]? = some .gone := by
      rw [List.getElem?_set_self (by rw [List.length_set]; exact hcl)]
     have hat : ∀ k r, ((ρ.set b rc).set c Spot.gone)[k]? = some r -> r ≠ .gone -> ∃ k', ρ[k']? = some r /\ (k' = k /\ k ≠ b /\ k ≠ c \/ k = b /\ k' = c) := fun k r hk hr => by
      by_cases e1 : k = b
      ·subst e1; rw [hgb] at hk; cases hk; exact ⟨c, hrc, .inr ⟨rfl, rfl⟩⟩
      ·by_cases e2 : k = c
       ·subst e2; rw [hgc] at hk; cases hk; exact absurd rfl hr
       ·rw [hag k (by simp [e1, e2])] at hk; exact ⟨k, hk, .inl ⟨rfl, e1, e2⟩⟩
     refine ⟨_, (ρ.set b rc).set c .gone, h, ?_, ?_⟩
     ·refine { rel := ?_, mem := hI.mem, nle := hI.nle, len := by simpa using hI.len, env := ?_, gon := ?_, touch := hI.touch, newer := hI.newer, fresh := ?_, alien := ?_ }
      ·refine { len := by simpa using hHl, blk := ?_, inj := ?_, lt := ?_, cells := hI.rel.cells, maps := hI.rel.maps }
       ·intro k B r hk hr
        by_cases e2 : k = c
        ·subst e2
         rw [List.getElem?_set_self (by simp; omega)] at hk
         rw [hgc] at hr
         cases hk; cases hr
         simp [BRel]
        ·rw [List.getElem?_set_ne (Ne.symm e2)] at hk
         by_cases e1 : k = b
         ·subst e1
          rw [List.getElem?_set_self (by simp; omega)] at hk
          rw [hgb] at hr
          cases hk; cases hr
          exact BRel.fgt (B := .row R) hBc hag
         ·rw [List.getElem?_set_ne (Ne.symm e1)] at hk
          rw [hag k (by simp [e1, e2])] at hr
          by_cases e3 : k = x
          ·subst e3
           rw [List.getElem?_set_self (by simp; omega)] at hk
           rw [hrx] at hr
           cases hk; cases hr
           have hx2 := BRel.fgt (B := .obj cs) (p := fun y => y == b || y == c) hBx hag
           cases rx <;> simp only [BRel, fgtB] at hx2 hBx ⊢
           obtain ⟨ce, T, h1, h2, h3, h4, h5, h6⟩ := hx2;obtain ⟨_, _, q1, _, _, _, q5, _⟩ := hBx;rw [h1] at q1
           cases q1
           obtain ⟨u, hu, hur⟩ := qdu q5 hcell;refine ⟨ce, T, h1, h2, by simpa using h3, h4, qdv h5 hu ?_, h6⟩
           simp only [LRel] at hur ⊢;obtain ⟨r2, a2, cap2, z1, z2⟩ := hur;rw [hrc] at z1
           cases z1
           exact ⟨_, a2, cap2, hgb, z2⟩
          ·rw [List.getElem?_set_ne (Ne.symm e3), List.getElem?_map] at hk
           cases hk2 : σ.hp[k]? with
           | none => rw [hk2] at hk; cases hk
           | some B0 =>
            rw [hk2] at hk;simp only [Option.map_some, Option.some.injEq] at hk;subst hk;exact BRel.fgt (hI.rel.blk k B0 r hk2 hr) hag
       ·intro i1 k cb sh n cb' sh' n' hik hi hk a1 a2
        obtain ⟨i', hi2, hi3⟩ := hat i1 _ hi (by simp)
        obtain ⟨k', hk2, hk3⟩ := hat k _ hk (by simp)
        have al : ∀ {i1 i' : Nat}, (i' = i1 /\ i1 ≠ b /\ i1 ≠ c \/ i1 = b /\ i' = c) -> ((((σ.hp.map (fgtB fun y => y == b || y == c)).set x (.obj ((fgtL (fun y => y == b || y == c) cs).set i (.sl b o len sz clip)))).set b (.row R)).set c .gone)[i1]? ≠ some (ABlock.frz []) -> σ.hp[i']? ≠ some (ABlock.frz []) := fun {i1 i'} h3 ha => by
         rcases h3 with ⟨rfl, h4, h5⟩ | ⟨_, rfl⟩
         ·rw [List.getElem?_set_ne (Ne.symm h5), List.getElem?_set_ne (Ne.symm h4)] at ha
          by_cases e3 : i' = x
          ·subst e3; rw [hX]; nofun
          ·rw [List.getElem?_set_ne (Ne.symm e3)] at ha
           exact qP ha
         ·rw [hC]; nofun
        exact hI.rel.inj i' k' cb sh n cb' sh' n' (by omega) hi2 hk2 (al hi3 a1) (al hk3 a2)
       ·intro i1 cb sh n hi
        obtain ⟨i', hi2, _⟩ := hat i1 _ hi (by simp)
        exact hI.rel.lt i' cb sh n hi2
      ·intro i1 r hi hr h0
       rw [hag i1 (by simp; omega)]
       exact hI.env i1 r hi hr h0
      ·intro i1 hi h0
       have hg := hI.gon i1 hi h0
       by_cases e1 : i1 = b
       ·subst e1
        rw [hrb] at hg
        cases hg
        simp [BRel] at hBb
       ·by_cases e2 : i1 = c
        ·subst e2; exact hgc
        ·rw [hag i1 (by simp [e1, e2])]; exact hg
      ·intro i1 cb sh n hi hk
       obtain ⟨i', hi2, hi3⟩ := hat i1 _ hk (by simp)
       exact hI.fresh i' cb sh n (by omega) hi2
      ·intro k o1 hk
       obtain ⟨h1, h2, h3⟩ := hI.alien k o1 hk;refine ⟨h1, h2, fun ⟨i1, sh, n, hi⟩ => h3 ?_⟩
       obtain ⟨i', hi2, _⟩ := hat i1 _ hi (by simp)
       exact ⟨i', sh, n, hi2⟩
     ·have := hf.map (fgt fun y => y == b || y == c) (fun v x hx => hx.fgt hag)
      rw [<- qae] at this;exact this
    next => cases h
   next => cases h
  next => cases h
 next => cases h
theorem MInv.cut {H : List ABlock} (h : MInv A n0 M0 ρ0 w0 M ρ H w) {n : Nat} (hn : ρ0.length <= n) : MInv A n0 M0 ρ0 w0 M (ρ.take n) ((H.take n).map (fgtB fun b => decide (n <= b))) w := by
  have hρ : ∀ j, decide (n <= j) = false -> (ρ.take n)[j]? = ρ[j]? := fun j hj => by
    have : j < n := by simpa using hj
    rw [List.getElem?_take, if_pos this]
  have hh : ∀ {i cb sh m : Nat}, (ρ.take n)[i]? = some (.here cb sh m) -> ρ[i]? = some (.here cb sh m) := fun {i cb sh m} hi => by
    rw [List.getElem?_take] at hi
    split at hi
    · exact hi
    · cases hi
  have al : ∀ {i cb sh m : Nat}, (ρ.take n)[i]? = some (.here cb sh m) -> ((H.take n).map (fgtB fun b => decide (n <= b)))[i]? ≠ some (ABlock.frz []) -> H[i]? ≠ some (ABlock.frz []) := fun {i cb sh m} hi ha => by
    have h1 := qP ha;rw [List.getElem?_take] at hi h1
    split at hi
    · rename_i hlt; rwa [if_pos hlt] at h1
    · cases hi
  refine { rel := ⟨by simp [h.rel.len], fun i B r hB hr => ?_, fun i j cb sh n cb' sh' n' hij hi hj a1 a2 => h.rel.inj i j cb sh n cb' sh' n' hij (hh hi) (hh hj) (al hi a1) (al hj a2), fun i cb sh n hi => h.rel.lt i cb sh n (hh hi), h.rel.cells, h.rel.maps⟩,
           mem := h.mem, nle := h.nle, len := by simp; have := h.len; omega, env := fun i r' hi hne h' => ?_, gon := fun i hi h' => ?_, touch := h.touch, newer := h.newer, fresh := fun i cb sh n hi h' => h.fresh i cb sh n hi (hh h'), alien := fun k o ho => ⟨(h.alien k o ho).1, (h.alien k o ho).2.1, fun ⟨i, sh, n, hi⟩ => (h.alien k o ho).2.2 ⟨i, sh, n, hh hi⟩⟩ }
  · rw [List.getElem?_map, List.getElem?_take] at hB
    rw [List.getElem?_take] at hr
    split at hr
    · rename_i hlt
      rw [if_pos hlt] at hB
      cases hHi : H[i]? with
      | none => rw [hHi] at hB; cases hB
      | some B0 =>
        rw [hHi] at hB
        cases hB
        exact BRel.fgt (h.rel.blk i B0 r hHi hr) hρ
    · cases hr
  · have := h.nle
    rw [List.getElem?_take, if_pos (by omega)]; exact h.env i r' hi hne h'
  · rw [List.getElem?_take, if_pos (by omega)]; exact h.gon i hi h'
theorem FRel.mask : ∀ (m : List Bool) {fr : List LV} {xs : List Value}, FRel M ρ fr xs -> FRel M ρ (fmask m fr) xs
 | [], _, _, h => by simpa [fmask] using h
 | true :: m, [], _, h => by simpa [fmask] using h
 | false :: m, [], _, h => by simpa [fmask] using h
 | true :: m, v :: vs, xs, h => by obtain ⟨y, ys, rfl, h1, h2⟩ := h; exact ⟨y, ys, rfl, h1, h2.mask m⟩
 | false :: m, v :: vs, xs, h => by obtain ⟨y, ys, rfl, h1, h2⟩ := h; exact ⟨y, ys, rfl, qcz, h2.mask m⟩
theorem Stands.norm {σ : AState} (h : Stands A dfs n0 M0 ρ0 w0 M ρ σ a w) (mask : List Bool) {n : Nat} (hn : ρ0.length <= n) : Stands A dfs n0 M0 ρ0 w0 M (ρ.take n) (norm mask n σ) a w := by
 refine ⟨h.inv.cut hn, ?_, h.nod⟩;unfold Go.E.norm;simp only;rw [qae];refine FRel.map _ (fun v x hv => LVal.fgt (fun j hj => ?_) hv) (h.fr.mask mask)
 have : j < n := by simpa using hj
 rw [List.getElem?_take, if_pos this]
theorem qgw {us : List Value} (h : LRel M ρ (.full []) us) {id sz : Nat} (hid : ρ[id]? = some .empty) : LRel M ρ (.sl id 0 0 (sz + 1) false) us := by
 simp only [LRel] at h ⊢;obtain ⟨ad, n, rfl, hc⟩ := h;simp only [CRel] at hc;obtain ⟨a', len, cap, e, hl, _, hm, _⟩ := hc;simp only [List.cons.injEq, Value.slice.injEq, and_true] at e;obtain ⟨rfl, e1, e2⟩ := e;simp at hl;subst hl;subst e1;exact ⟨_, _, _, hid, by simp, rfl, Nat.le_refl _, by simp [maxLen], by omega, by simp, .inl rfl⟩
theorem qgx {x : Value} (h : LVal M ρ (.full []) x) {id sz : Nat} (hid : ρ[id]? = some .empty) : LVal M ρ (.sl id 0 0 (sz + 1) false) x := by
 rcases h with h | ⟨vs, xs, h, _⟩ | ⟨us, hc, e⟩
 ·cases h
 ·cases h
 ·exact .inr (.inr ⟨us, qgw hc hid, by simpa [LV.isAgg] using e⟩)
theorem qgy (r : Spot) : (ρ ++ List.replicate 1 r)[ρ.length]? = some r := by simp
theorem Stands.promote1 {σ : AState} (h : Stands A dfs n0 M0 ρ0 w0 M ρ σ a w) (d : Nat) (c : Option Nat) (sz : Nat) : ∃ ρ', Stands A dfs n0 M0 ρ0 w0 M ρ' (promote1 d c sz σ) a w := by
 have hl := h.inv.rel.len;have hx := h.inv.ext 1 (B := .row []) (r := .empty) (.inr ⟨rfl, rfl⟩);have hf : FRel M (ρ ++ List.replicate 1 .empty) σ.fr a.tmps.toList := h.fr.mono (Mem.le_refl _) (Env.le_app _ _);unfold Go.E.promote1
 split
 ·rename_i hd
  refine ⟨ρ ++ List.replicate 1 .empty, ⟨hx, ?_, h.nod⟩⟩;have hv := hf.fget d;rw [hd] at hv;have := hf.fset d (qgx (id := σ.hp.length) (sz := sz) hv (by rw [<- hl]; exact qgy _))
  by_cases hlt : d < a.tmps.toList.length
  ·rwa [List.getD_eq_getElem?_getD, List.getElem?_eq_getElem hlt, Option.getD_some, List.set_getElem_self] at this
  ·rwa [List.set_eq_of_length_le (by omega)] at this
 ·rename_i off b o hd
  split
  ·rename_i cs hB
   split
   ·rename_i hc
    refine ⟨ρ ++ List.replicate 1 .empty, ⟨?_, hf, h.nod⟩⟩;have hb := (List.getElem?_eq_some_iff.1 hB).1;have := hx.reblk (b := b) (B' := .obj (cs.set (o + off) (.sl σ.hp.length 0 0 (sz + 1) false))) (by rw [List.getElem?_append_left hb, hB]; nofun) (fun r hr => ?_)
    ·rw [List.set_append_left _ _ hb] at this; exact this
    ·have hbr := hx.rel.blk b (.obj cs) r (by rw [List.getElem?_append_left hb]; exact hB) hr
     cases r <;> simp only [BRel] at hbr ⊢
     obtain ⟨ce, T, h1, h2, h3, h4, h5, h6⟩ := hbr;refine ⟨ce, T, h1, h2, by simpa using h3, h4, ?_, h6⟩
     obtain ⟨u, hu, hur⟩ := h5.get hc;have hset := h5.set (o + off) (qgw (id := σ.hp.length) (sz := sz) hur (by rw [<- hl]; exact qgy _))
     have hlt := (List.getElem?_eq_some_iff.1 hu).1;rw [List.getElem?_eq_getElem hlt] at hu
     cases hu
     rwa [List.set_getElem_self] at hset
   ·exact ⟨ρ, h⟩
  ·exact ⟨ρ, h⟩
 ·exact ⟨ρ, h⟩
theorem Stands.promote {a : Act} : ∀ (ps : List (Nat × Option Nat × Nat)) {ρ : Env} {σ : AState}, Stands A dfs n0 M0 ρ0 w0 M ρ σ a w -> ∃ ρ', Stands A dfs n0 M0 ρ0 w0 M ρ' (promote ps σ) a w
 | [], ρ, σ, h => ⟨ρ, h⟩
 | (d, c, sz) :: ps, ρ, σ, h => by
  obtain ⟨ρ', h'⟩ := h.promote1 d c sz;exact Stands.promote ps h'
end
theorem qfy (n : Nat) : remOf n (Array.replicate n false) = List.range n := by
 unfold remOf;refine List.filter_eq_self.2 fun i hi => ?_
 simp only [List.mem_range] at hi;simp [Array.getD_eq_getD_getElem?, hi]
theorem qco {α : Type} (l : List α) : ∀ n : Nat, (List.range n).filterMap (fun i => l[i]?) = l.take n
 | 0 => rfl
 | n + 1 => by
  rw [List.range_succ, List.filterMap_append, qco l n, List.take_add_one]
  cases h : l[n]? <;> simp [List.filterMap_cons, h]
def exitOf : AExit -> Exit
 | .normal => .normal
 | .exit id => .exit id
 | .ret => .ret
section
variable {P : Program} {A : Nat -> Obj -> Prop} {dfs : List Deferred} {M0 : Mem} {ρ0 : Env} {w0 : World} {n0 : Nat}
theorem qaB {b : Frame} {a : Act} {k : List Item} {cs : List Frame} {w : World} {c : Code} : step P (lone (b.atR a (.code (.scope c) :: k)) cs w) = .next (lone (b.atR a (.code c :: .inScope c :: k)) cs w) :=
 step_lone_go (by simp [stepG, stepG.exec, Frame.atR])
theorem qf4 {b : Frame} {a : Act} {k : List Item} {cs : List Frame} {w : World} {c : Code} : step P (lone (b.atR a (.inScope c :: k)) cs w) = .next (lone (b.atR a k) cs w) :=
 step_lone_go (by simp [stepG, stepG.exec, Frame.atR])
theorem qbg {r : Option Nat} {nf : Nat} {Q : Exit -> Act -> World -> Prop} {a : Act} {w : World} {c : Code} (h : c.wpIn (Fw r) nf P (Exit.noGoto Q) a w) : (Code.scope c).wpIn (Fw r) nf P Q a w := by
 intro b k cs hro hb hr;have h0 : (lone (b.atR a (.code (.scope c) :: k)) cs w).fenced P (Fw r) := fenced_calm hb hr rfl;obtain ⟨e, a₁, w₁, hq, harr⟩ := h b (.inScope c :: k) cs hro hb hr;have hx : ∀ id, exitTo id (.inScope c :: k) = exitTo id k := fun id => by simp [exitTo]
 cases e with
 | normal => exact ⟨.normal, a₁, w₁, hq, .head h0 qaB (StepsIn.trans harr (.one (fenced_calm hb hr rfl) qf4))⟩
 | exit id => exact ⟨.exit id, a₁, w₁, hq, fun k' hk => .head h0 qaB (harr.1 k' (by rw [hx]; exact hk)), fun hr' hk => let ⟨k₁, h1, h2⟩ := harr.2 hr' (by rw [hx]; exact hk); ⟨k₁, h1, .head h0 qaB h2⟩⟩
 | goto l => exact hq.elim
 | ret => exact ⟨_, a₁, w₁, hq, .of_steps (.one h0 qaB) harr⟩
 | panic ch => exact ⟨_, a₁, w₁, hq, .of_steps (.one h0 qaB) harr⟩
 | outgrown => exact ⟨_, a₁, w₁, hq, .of_steps (.one h0 qaB) harr⟩
theorem qkc {r : Option Nat} {nf : Nat} {nt id n : Nat} {as : List AOper} {ops : Array Oper} {draw : Bool} {M : Mem} {ρ : Env} {w : World} {a : Act} {σ : AState} {QA : AExit -> AState -> Prop} {Q : Exit -> Act -> World -> Prop}
  (hok : okCode P nt (.reg n as) (.region id ops draw) = true) (hS : Stands A dfs n0 M0 ρ0 w0 M ρ σ a w) (h : awp P n0 (.reg n as) σ QA)
  (hfin : ∀ τ M' ρ' a' w', QA .normal τ -> Stands A dfs n0 M0 ρ0 w0 M' ρ' τ a' w' -> Q .normal a' w') : (Code.region id ops draw).wpIn (Fw r) nf P Q a w := by
 simp only [okCode, Bool.and_eq_true, Bool.or_eq_true, Bool.not_eq_true', beq_iff_eq] at hok;obtain ⟨⟨hok, hn⟩, hd⟩ := hok;have hl := hS.inv.rel.len;have hlen := hS.inv.len;have hokc := qaz hok;simp only [awp] at h;have hr := fun N => qb0 (P := P) (n0 := n0) N as σ.hp.length _ True hokc h
 have hfin' : ∀ (τ : AState) (F' : Prop) M' ρ' a' w', (F' -> QA .normal τ) -> F' -> Stands A dfs n0 M0 ρ0 w0 M' ρ' τ a' w' -> Q .normal a' w' := fun τ F' M' ρ' a' w' hk hF hS' => hfin τ M' ρ' a' w' (hk hF) hS'
 have hS' : Stands A dfs n0 M0 ρ0 w0 M (ρ ++ List.replicate n .gone) { fr := σ.fr, hp := σ.hp ++ List.replicate n .gone } a w :=
  ⟨hS.inv.ext n (.inl ⟨rfl, rfl⟩), hS.fr.mono (Mem.le_refl _) (Env.le_app _ _), hS.nod⟩
 cases draw with
 | false =>
  exact wpIn_region_list (qcQ (N := σ.hp.length) (by omega) hfin' as ops.toList σ.hp.length _ True M _ a w hok (by omega) hS' trivial (hr _))
 | true =>
  rcases hd with hd | ⟨htied, htopo⟩
  ·cases hd
  refine wpIn_region_draw fun t => ?_
  have hw : Stands A dfs n0 M0 ρ0 w0 M (ρ ++ List.replicate n .gone) { fr := σ.fr, hp := σ.hp ++ List.replicate n .gone } a { w with drawn := w.drawn + 1 } :=
   ⟨hS'.inv.world rfl rfl rfl rfl (Nat.le_succ _), hS'.fr, hS'.nod⟩
  have any : ∀ md l t, topoOk md ops.toList l = true -> wpOpsIn (Fw r) nf P ops Q (Region.linearise md ops t) a { w with drawn := w.drawn + 1 } := fun md l t htp => by
   refine wpAnyIn_sound ops.size t _ a _ (qiI (N := σ.hp.length + takesIn as) (id0 := σ.hp.length) (Nat.le_refl _) (by omega) hok htied htp hfin' ops.size _ _ True M _ a _ (by simp) (by rw [qfy]; simp) ?_ hw trivial ?_ ?_)
   ·intro i o hi
    by_cases hlt : i < ops.size <;> simp [Array.getD_eq_getD_getElem?, hlt] at hi
   ·intro i hi p hp ht
    have := (qaA (N := σ.hp.length + takesIn as) as σ.hp.length p (List.mem_of_getElem? hp)).1 ht;have hnt : n = takesIn as := hn;rw [List.getElem?_append_right (by omega), List.getElem?_replicate, if_pos (by omega)]
   ·rw [qfy, qco, List.take_of_length_le]
    ·exact hr _
    ·have := congrArg List.length (qcg (N := σ.hp.length + takesIn as) as σ.hp.length)
     simp only [List.length_map] at this;have h2 := (qbo hok).1;simp only [Array.length_toList] at h2;omega
  unfold Region.schedule
  split
  ·rename_i hm
   rw [if_pos (by simpa using hm)] at htopo
   exact any .any _ t htopo
  ·rename_i hm
   rw [if_neg (by simpa using hm)] at htopo
   simp only [Bool.and_eq_true] at htopo
   split
   ·exact any .text _ _ htopo.1
   ·exact any .gc _ _ htopo.2
theorem qas {r : Option Nat} {nf : Nat} {nt : Nat} : ∀ (ac : ACode) (c : Code) (M : Mem) (ρ : Env) (w : World) (a : Act) (σ : AState) (QA : AExit -> AState -> Prop) (Q : Exit -> Act -> World -> Prop),
  okCode P nt ac c = true -> Stands A dfs n0 M0 ρ0 w0 M ρ σ a w -> awp P n0 ac σ QA -> (∀ e τ M' ρ' a' w', QA e τ -> Stands A dfs n0 M0 ρ0 w0 M' ρ' τ a' w' -> Q (exitOf e) a' w') -> c.wpIn (Fw r) nf P Q a w := by
 intro ac
 induction ac with
 | skip =>
  intro c M ρ w a σ QA Q hok hS h hQ
  cases c <;> simp only [okCode] at hok <;> try cases hok
  exact wpIn_skip (hQ .normal σ M ρ a w h hS)
 | reg n as =>
  intro c M ρ w a σ QA Q hok hS h hQ
  cases c <;> try (simp only [okCode] at hok; cases hok; done)
  exact qkc hok hS h (fun τ M' ρ' a' w' => hQ .normal τ M' ρ' a' w')
 | seq x y ihx ihy =>
  intro c M ρ w a σ QA Q hok hS h hQ
  cases c <;> simp only [okCode, Bool.and_eq_true] at hok <;> try cases hok
  rename_i h1 h2
  simp only [awp] at h;refine wpIn_seq (ihx _ M ρ w a σ _ _ h1 hS h fun e τ M' ρ' a' w' he hS' => ?_)
  cases e with
  | normal => exact ihy _ M' ρ' w' a' τ _ _ h2 hS' he hQ
  | exit id => exact hQ (.exit id) τ M' ρ' a' w' he hS'
  | ret => exact hQ .ret τ M' ρ' a' w' he hS'
 | cond x A B iha ihb =>
  intro c M ρ w a σ QA Q hok hS h hQ
  cases c <;> simp only [okCode, Bool.and_eq_true] at hok <;> try cases hok
  rename_i h1 h2
  obtain ⟨h1, h3⟩ := h1;have hv := qf hS.fr h1;simp only [awp] at h;unfold condK at h
  split at h
  ·rename_i t hx
   have hb := qa2 hx hv;refine wpIn_cond_split hb (fun ht => ?_) (fun ht => ?_)
   ·subst ht; exact iha _ M ρ w a σ _ _ h3 hS h hQ
   ·subst ht; exact ihb _ M ρ w a σ _ _ h2 hS h hQ
  ·cases h
 | block id x ih =>
  intro c M ρ w a σ QA Q hok hS h hQ
  cases c <;> simp only [okCode, Bool.and_eq_true, beq_iff_eq] at hok <;> try cases hok
  rename_i h1 h2
  subst h1;simp only [awp] at h;refine wpIn_block (ih _ M ρ w a σ _ _ h2 hS h fun e τ M' ρ' a' w' he hS' => ?_)
  cases e with
  | normal => exact hQ .normal τ M' ρ' a' w' he hS'
  | exit i =>
   simp only at he;simp only [exitOf, Exit.inBlock]
   split
   ·rename_i hi; rw [if_pos hi] at he; exact hQ .normal τ M' ρ' a' w' he hS'
   ·rename_i hi; rw [if_neg hi] at he; exact hQ (.exit i) τ M' ρ' a' w' he hS'
  | ret => exact hQ .ret τ M' ρ' a' w' he hS'
 | loop mask promo x ih =>
  intro c M ρ w a σ QA Q hok hS h hQ
  cases c <;> simp only [okCode] at hok <;> try cases hok
  rename_i c
  simp only [awp] at h;obtain ⟨ρ1, hS1⟩ := hS.promote promo;have hn : ρ0.length <= (promote promo σ).hp.length := by have := hS1.inv.len; have := hS1.inv.rel.len; omega
  generalize (promote promo σ).hp.length = n at h hn
  have hI := h (fun τ => ∀ M ρ a w, Stands A dfs n0 M0 ρ0 w0 M ρ τ a w -> ∀ (b : Frame) (k : List Item) (cs : List Frame), b.roundOf = (Fw r).round -> (Fw r).fn b.fn -> (Fw r).room (cs.length + 1 + nf) -> ∃ e a' w', Q e a' w' /\ ArrivesIn (Machine.fenced P (Fw r)) P (lone (b.atR a (.code c :: .inLoop c :: k)) cs w) b k cs e a' w') (by
   intro τ hb M ρ a w hS b k cs hro hfn hrm
   have hbody := ih c M ρ w a τ _ (Exit.then (fun a' w' => ∀ (b : Frame) (k : List Item) (cs : List Frame), b.roundOf = (Fw r).round -> (Fw r).fn b.fn -> (Fw r).room (cs.length + 1 + nf) -> ∃ e a'' w'', Q e a'' w'' /\ ArrivesIn (Machine.fenced P (Fw r)) P (lone (b.atR a' (.code c :: .inLoop c :: k)) cs w') b k cs e a'' w'') Q) hok hS hb (fun e τ' M' ρ' a' w' he hS' => by
    cases e with
    | normal => exact he M' _ a' w' (hS'.norm mask hn)
    | exit id => exact hQ (.exit id) τ' M' ρ' a' w' he hS'
    | ret => exact hQ .ret τ' M' ρ' a' w' he hS')
   obtain ⟨e, a₁, w₁, hq, harr⟩ := hbody b (.inLoop c :: k) cs hro hfn hrm
   cases e with
   | normal =>
    obtain ⟨e₂, a₂, w₂, hq₂, harr₂⟩ := hq b k cs hro hfn hrm;exact ⟨e₂, a₂, w₂, hq₂, .of_steps (StepsIn.trans harr (.one (fenced_calm hfn hrm rfl) stepR_inLoop)) harr₂⟩
   | exit id => exact ⟨_, a₁, w₁, hq, .pass (x := .inLoop c) rfl (fun _ _ => .inl (by simp)) harr⟩
   | goto l => exact ⟨_, a₁, w₁, hq, .pass (x := .inLoop c) rfl (fun _ _ => .inl (by simp)) harr⟩
   | ret => exact ⟨_, a₁, w₁, hq, .pass (x := .inLoop c) rfl (fun _ _ => .inl (by simp)) harr⟩
   | panic ch => exact ⟨_, a₁, w₁, hq, .pass (x := .inLoop c) rfl (fun _ _ => .inl (by simp)) harr⟩
   | outgrown => exact ⟨_, a₁, w₁, hq, .pass (x := .inLoop c) rfl (fun _ _ => .inl (by simp)) harr⟩)
  intro b k cs hro hfn hrm;obtain ⟨e, a', w', hq, harr⟩ := hI M _ a w (hS1.norm mask hn) b k cs hro hfn hrm;exact ⟨e, a', w', hq, .of_steps (.one (fenced_calm hfn hrm rfl) stepR_loop) harr⟩
 | exit id =>
  intro c M ρ w a σ QA Q hok hS h hQ
  cases c <;> simp only [okCode, beq_iff_eq] at hok <;> try cases hok
  exact wpIn_exit (hQ (.exit id) σ M ρ a w h hS)
 | ret =>
  intro c M ρ w a σ QA Q hok hS h hQ
  cases c <;> simp only [okCode] at hok <;> try cases hok
  exact wpIn_ret (hQ .ret σ M ρ a w h hS)
 | zap t off x ih =>
  intro c M ρ w a σ QA Q hok hS h hQ;simp only [okCode] at hok;simp only [awp] at h;obtain ⟨H', M', h1, h2, h3⟩ := qfw hS.inv h;exact ih _ M' ρ w a { fr := σ.fr, hp := H' } QA Q hok ⟨h2, hS.fr.mono h3 (Env.le_refl _), hS.nod⟩ h1 hQ
 | frzt t x ih =>
  intro c M ρ w a σ QA Q hok hS h hQ;simp only [okCode] at hok;simp only [awp] at h;obtain ⟨τ, M', h1, h2, h3⟩ := qiJ hS.inv hS.fr rfl h;exact ih _ M' ρ w a τ QA Q hok ⟨h2, h3, hS.nod⟩ h1 hQ
 | renr t off j x ih =>
  intro c M ρ w a σ QA Q hok hS h hQ;simp only [okCode] at hok;simp only [awp] at h;obtain ⟨τ, ρ', h1, h2, h3⟩ := qiK hS.inv hS.fr h;exact ih _ M ρ' w a τ QA Q hok ⟨h2, h3, hS.nod⟩ h1 hQ
 | ren t j x ih =>
  intro c M ρ w a σ QA Q hok hS h hQ;simp only [okCode] at hok;simp only [awp] at h;obtain ⟨τ, ρ', h1, h2, h3⟩ := qkb hS.inv hS.fr rfl h;exact ih _ M ρ' w a τ QA Q hok ⟨h2, h3, hS.nod⟩ h1 hQ
 | scope x ih =>
  intro c M ρ w a σ QA Q hok hS h hQ
  cases c <;> simp only [okCode] at hok <;> try cases hok
  refine qbg (ih _ M ρ w a σ QA _ hok hS h fun e τ M' ρ' a' w' he hS' => ?_)
  cases e with
  | normal => exact hQ .normal τ M' ρ' a' w' he hS'
  | exit id => exact hQ (.exit id) τ M' ρ' a' w' he hS'
  | ret => exact hQ .ret τ M' ρ' a' w' he hS'
 | label l =>
  intro c M ρ w a σ QA Q hok hS h hQ
  cases c <;> simp only [okCode] at hok <;> try cases hok
  exact wpIn_label (hQ .normal σ M ρ a w h hS)
end
end Go.E
