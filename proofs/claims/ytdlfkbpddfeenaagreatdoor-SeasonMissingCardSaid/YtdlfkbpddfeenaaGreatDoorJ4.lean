/- Ranges over functions. -/
import Derived.Test.YtdlfkbpddfeenaaGreatDoorJ3
import Derived.RangeFuncLeaves
import Derived.RangeFuncSeq

set_option linter.all false

namespace Go.E
open Go
def YAt (P : Program) (l : Nat) (x : Value) (A : World) (R : Bool -> World -> Prop) : Prop :=
 ∃ fn tmps assign body, (Instr.yield l #[x]).run P A = .ok (.round l fn tmps assign body) A /\ RoundIn (Fw none) 0 P l fn tmps assign body A fun e B => ∃ b, e = .returned (.bool b) /\ R b B
def Rounds (P : Program) (M : Mem) (W : World) (l : Nat) (xs : List SV) (J : List SV -> (Nat -> Prop) -> World -> Prop) (Jx : World -> Prop) : Prop :=
 ∀ pre v post x O A, xs = pre ++ v :: post -> J pre O A -> Holds M A -> VRel M v x -> YAt P l x A fun b B => A.heap.size <= B.heap.size /\ (∀ k, W.heap.size <= k -> k < A.heap.size -> ¬ O k -> B.heap[k]? = A.heap[k]?) /\ Holds M B /\
  (b = true -> ∃ O', J (pre ++ [v]) O' B /\ ∀ k, O' k -> k < B.heap.size /\ (O k \/ A.heap.size <= k)) /\ (b = false -> Jx B)
def Yields (P : Program) (g : FuncId) (caps xs : List SV) : Prop :=
 ∀ (M : Mem) (W : World) (lb : List Value) (l : Nat) (J : List SV -> (Nat -> Prop) -> World -> Prop) (Jx : World -> Prop), Holds M W -> VRelL M caps lb ->
  (∀ s O A B, J s O A -> Touch [] A B -> J s O B) -> (∀ A B, Jx A -> Touch [] A B -> Jx B) -> Rounds P M W l xs J Jx ->
  J [] (fun _ => False) W -> Calls P g (#[.func (.yield l) #[] #[]] ++ lb.toArray) W fun e W' => (∃ v, e = .returned v) /\ ((∃ O, J xs O W') \/ Jx W')
def OwnOk (W : World) (O : Nat -> Prop) (ρ : Env) : Prop := ∀ k, ρ.has k -> W.heap.size <= k /\ ¬ O k
def OwnNew (O : Nat -> Prop) (A B : World) : Nat -> Prop := fun k => O k \/ (A.heap.size <= k /\ k < B.heap.size)
structure McOk (M : Mem) (W : World) (O : Nat -> Prop) (Mc : Mem) : Prop where
  mem : M.le Mc
  newer : Newer [] W M Mc
  cell : ∀ b o v, Mc.cell b o = some v -> M.cell b o = some v \/ ¬ O b
  map : ∀ b es, Mc.map b = some es -> M.map b = some es \/ ¬ O b
def ZRounds (P : Program) (M : Mem) (W : World) (l : Nat) (xs : List SV) (J : List SV -> (Nat -> Prop) -> Mem -> World -> Prop) (Jx : (Nat -> Prop) -> Mem -> World -> Prop) : Prop :=
 ∀ pre v post x O Mc A, xs = pre ++ v :: post -> J pre O Mc A -> Holds Mc A -> McOk M W O Mc -> (∀ k, O k -> W.heap.size <= k /\ k < A.heap.size) -> W.heap.size <= A.heap.size -> VRel Mc v x ->
  YAt P l x A fun b B => A.heap.size <= B.heap.size /\ (∀ k, W.heap.size <= k -> k < A.heap.size -> ¬ O k -> B.heap[k]? = A.heap[k]?) /\ Holds M B /\ (b = true -> J (pre ++ [v]) (OwnNew O A B) Mc B) /\ (b = false -> Jx (OwnNew O A B) Mc B)
def ZStep (W : World) (J : (Nat -> Prop) -> Mem -> World -> Prop) : Prop :=
 ∀ O Mc Mc' ρ A B, J O Mc A -> Mc.le Mc' -> Holds Mc' B -> Touch ρ A B -> OwnOk W O ρ -> (∀ k, O k -> k < A.heap.size) -> J O Mc' B
def ZYields (P : Program) (g : FuncId) (caps xs : List SV) : Prop :=
 ∀ (M : Mem) (W : World) (lb : List Value) (l : Nat) (J : List SV -> (Nat -> Prop) -> Mem -> World -> Prop) (Jx : (Nat -> Prop) -> Mem -> World -> Prop), Holds M W -> VRelL M caps lb ->
  (∀ s, ZStep W (J s)) -> ZStep W Jx -> ZRounds P M W l xs J Jx ->
  J [] (fun _ => False) M W -> Calls P g (#[.func (.yield l) #[] #[]] ++ lb.toArray) W fun e W' => (∃ v, e = .returned v) /\ ∃ O Mc, J xs O Mc W' \/ Jx O Mc W'
theorem Yields.z {P : Program} {g : FuncId} {caps xs : List SV} (h : Yields P g caps xs) : ZYields P g caps xs := by
 intro M W lb l J Jx hh hv hJ hJx hR h0;have hno : ∀ O, OwnOk W O [] := fun O k hk => absurd hk (by rintro ⟨i, sh, n, hi⟩; simp at hi)
 refine (h M W lb l (fun s O A => J s O M A /\ Holds M A /\ W.heap.size <= A.heap.size /\ ∀ k, O k -> W.heap.size <= k /\ k < A.heap.size) (fun A => ∃ O, Jx O M A /\ Holds M A /\ ∀ k, O k -> k < A.heap.size) hh hv ?_ ?_ ?_ ⟨h0, hh, Nat.le_refl _, fun _ h => h.elim⟩).mono ?_
 ·rintro s O A B ⟨h1, h2, h3, h4⟩ ht
  exact ⟨hJ s O M M [] A B h1 M.le_refl (h2.grow ht) ht (hno O) fun k hk => (h4 k hk).2, h2.grow ht, Nat.le_trans h3 ht.size, fun k hk => ⟨(h4 k hk).1, Nat.lt_of_lt_of_le (h4 k hk).2 ht.size⟩⟩
 ·rintro A B ⟨O, h1, h2, h4⟩ ht
  exact ⟨O, hJx O M M [] A B h1 M.le_refl (h2.grow ht) ht (hno O) h4, h2.grow ht, fun k hk => Nat.lt_of_lt_of_le (h4 k hk) ht.size⟩
 ·rintro pre v post x O A hxs ⟨h1, h2, h3, h4⟩ _ hx
  obtain ⟨fn, tmps, as, body, hrun, hround⟩ := hR pre v post x O M A hxs h1 h2 ⟨M.le_refl, Newer.refl _ _ _, fun _ _ _ h => .inl h, fun _ _ h => .inl h⟩ h4 h3 hx
  refine ⟨fn, tmps, as, body, hrun, RoundIn.mono (n := 0) hround fun e B hB => ?_⟩
  obtain ⟨b, rfl, hsz, hsame, hHB, hb1, hb2⟩ := hB;have hO' : ∀ k, OwnNew O A B k -> k < B.heap.size /\ (O k \/ A.heap.size <= k) := fun k hk => hk.elim (fun hk => ⟨Nat.lt_of_lt_of_le (h4 k hk).2 hsz, .inl hk⟩) fun hk => ⟨hk.2, .inr hk.1⟩
  refine ⟨b, rfl, hsz, hsame, hHB, fun hb => ⟨OwnNew O A B, ⟨hb1 hb, hHB, Nat.le_trans h3 hsz, fun k hk => ⟨?_, (hO' k hk).1⟩⟩, hO'⟩, fun hb => ⟨OwnNew O A B, hb2 hb, hHB, fun k hk => (hO' k hk).1⟩⟩
  rcases hk with hk | hk
  ·exact (h4 k hk).1
  ·exact Nat.le_trans h3 hk.1
 ·rintro e W' ⟨hv, ⟨O, h1, _⟩ | ⟨O, h1, _⟩⟩
  ·exact ⟨hv, O, M, .inl h1⟩
  ·exact ⟨hv, O, M, .inr h1⟩
inductive BCode where
 | code (a : ACode)
 | seq (a b : BCode)
 | cond (x : AX) (a b : BCode)
 | block (id : Nat) (a : BCode)
 | loop (mask : List Bool) (promo : List (Nat × Option Nat × Nat)) (a : BCode)
 | scope (a : BCode)
 | rangeF (mv : Nat) (x : AX) (p : Nat) (as body : ACode)
 | pin (t : Nat) (a : BCode)
 | promo (ps : List (Nat × Option Nat × Nat)) (a : BCode)
def okB (P : Program) (nt : Nat) : BCode -> Code -> Bool
 | .code a, c => okCode P nt a c
 | .seq a b, .seq c d => okB P nt a c && okB P nt b d
 | .cond x a b, .cond y c d => okX x y && okB P nt a c && okB P nt b d
 | .block i a, .block j c => i == j && okB P nt a c
 | .loop _ _ a, .loop c => okB P nt a c
 | .scope a, .scope c => okB P nt a c
 | .rangeF _ x p as body, .rangeFunc g ps as' body' => okX x g && decide (ps = #[p]) && okCode P nt as as' && okCode P nt body body'
 | .pin _ a, c => okB P nt a c
 | .promo _ a, c => okB P nt a c
 | _, _ => false
noncomputable def rngK (P : Program) (n m : Nat) (fr : List LV) (p : Nat) (as body : ACode) (Q : AExit -> List ABlock -> Prop) : List SV -> List ABlock -> Prop
 | [], H => Q .normal H
 | v :: vs, H => awp P m as { fr := fset fr p (.s v), hp := H } fun e σ1 => e = .normal /\ awp P m body σ1 fun e2 σ2 => match e2 with
  | .normal => rngK P n m fr p as body Q vs (killed n σ2.hp)
  | e2 => Q e2 (killed n σ2.hp)
def rangeLK (P : Program) (K : List SV -> Prop) : LV -> Prop
 | .s (.fn g [] caps) => okFn P g = true /\ (caps.map LV.s).all LV.isOne = true /\ ∃ xs, ZYields P g caps xs /\ K xs
 | _ => False
def below (m : Nat) (fr : List LV) : List LV := fgtL (fun b => decide (m <= b)) fr
def pinB (H : List ABlock) (t b : Nat) (fr : List LV) (Q : AState -> Prop) : Option ABlock -> Prop
 | some (.obj cs) => exO (frzAll (frz []) cs) fun vs => Q { fr := fset fr t (.s (.ptr vs)), hp := H.set b (.frz vs) }
 | _ => False
def pinK (σ : AState) (t : Nat) (Q : AState -> Prop) : LV -> Prop
 | .loc b 0 => pinB σ.hp t b σ.fr Q σ.hp[b]?
 | _ => False
noncomputable def bwp (P : Program) (n0 : Nat) : BCode -> AState -> (AExit -> AState -> Prop) -> Prop
 | .code a, σ, Q => awp P n0 a σ Q
 | .seq a b, σ, Q => bwp P n0 a σ fun e τ => match e with
  | .normal => bwp P n0 b τ Q
  | e => Q e τ
 | .cond x a b, σ, Q => condK (bwp P n0 a σ Q) (bwp P n0 b σ Q) (x.ev σ.fr)
 | .block id a, σ, Q => bwp P n0 a σ fun e τ => match e with
  | .exit i => if i = id then Q .normal τ else Q (.exit i) τ
  | e => Q e τ
 | .loop mask promo a, σ, Q => ∀ I : AState -> Prop,
   (∀ τ, bwp P n0 a τ (fun e τ' => match e with | .normal => I (norm mask (promote promo σ).hp.length τ') | e => Q e τ') -> I τ) ->
    I (norm mask (promote promo σ).hp.length (promote promo σ))
 | .scope a, σ, Q => bwp P n0 a σ Q
 | .rangeF mv x p as body, σ, Q => rangeLK P (fun xs => n0 <= σ.hp.length - mv /\ rngK P σ.hp.length (σ.hp.length - mv) (below (σ.hp.length - mv) σ.fr) p as body (fun e H => Q e { fr := below (σ.hp.length - mv) σ.fr, hp := H }) xs σ.hp) (x.ev σ.fr)
 | .pin t a, σ, Q => pinK σ t (fun τ => bwp P n0 a τ Q) (fget σ.fr t)
 | .promo ps a, σ, Q => bwp P n0 a (promote ps σ) Q
def marks (Ds : List Nat) : List Deferred := Ds.map fun D => { target := .collected D, args := #[] }
def AMark (A : Nat -> Obj -> Prop) (Ds : List Nat) : Nat -> Obj -> Prop := fun k o => A k o \/ (k ∈ Ds /\ o = .deferred (some []))
def Mk (w0 : World) (A : Nat -> Obj -> Prop) (Ds : List Nat) : Prop := Ds.Nodup /\ ∀ D ∈ Ds, w0.heap.size <= D /\ ∀ o, ¬ A D o
theorem amark_nil (A : Nat -> Obj -> Prop) : AMark A [] = A := by funext k o; simp [AMark]
theorem amark_amark (A : Nat -> Obj -> Prop) (Ds Es : List Nat) : AMark (AMark A Ds) Es = AMark A (Es ++ Ds) := by
 funext k o
 simp only [AMark, List.mem_append, eq_iff_iff];constructor
 ·rintro ((h | h) | h)
  ·exact .inl h
  ·exact .inr ⟨.inr h.1, h.2⟩
  ·exact .inr ⟨.inl h.1, h.2⟩
 ·rintro (h | ⟨h | h, e⟩)
  ·exact .inl (.inl h)
  ·exact .inr ⟨h, e⟩
  ·exact .inl (.inr ⟨h, e⟩)
theorem marks_app (Ds Es : List Nat) (dfs : List Deferred) : marks Es ++ (marks Ds ++ dfs) = marks (Es ++ Ds) ++ dfs := by simp [marks]
theorem Mk.nil {w0 : World} {A : Nat -> Obj -> Prop} : Mk w0 A [] := ⟨List.nodup_nil, by simp⟩
theorem Mk.app {w0 : World} {A : Nat -> Obj -> Prop} {Ds Es : List Nat} (h : Mk w0 A Ds) (k : Mk w0 (AMark A Ds) Es) : Mk w0 A (Es ++ Ds) := by
 refine ⟨?_, fun D hD => ?_⟩
 ·rw [List.nodup_append]
  refine ⟨k.1, h.1, fun x hx y hy e => ?_⟩
  subst e;exact (k.2 x hx).2 (.deferred (some [])) (.inr ⟨hy, rfl⟩)
 ·rcases List.mem_append.1 hD with hD | hD
  ·exact ⟨(k.2 D hD).1, fun o ho => (k.2 D hD).2 o (.inl ho)⟩
  ·exact h.2 D hD
section
variable {P : Program} {A : Nat -> Obj -> Prop} {dfs : List Deferred} {M0 : Mem} {ρ0 : Env} {w0 : World} {M : Mem} {ρ : Env} {H : List ABlock} {w : World} {n0 : Nat}
theorem MInv.other (h : MInv A n0 M0 ρ0 w0 M ρ H w) {l : Nat} {o o' : Obj} (hl : w.heap[l]? = some o) (ho : o.isOther = true) (hn : ¬ ρ.has l) (h0 : w0.heap.size <= l) (hA : ∀ o2, ¬ A l o2) : MInv A n0 M0 ρ0 w0 M ρ H (w.putObj l o') := by
 have hoth : ∀ k, k ≠ l -> (w.putObj l o').heap[k]? = w.heap[k]? := fun k hk => World.putObj_heap_other hk
 have hsz : (w.putObj l o').heap.size = w.heap.size := by simp [World.putObj]
 refine { h with
  rel := ⟨h.rel.len, fun i B r hB hr => BRel.keep (h.rel.blk i B r hB hr) fun cb sh n e => hoth cb fun e2 => hn (by subst e; subst e2; exact ⟨i, sh, n, hr⟩), h.rel.inj, fun i cb sh n hr => by rw [hsz]; exact h.rel.lt i cb sh n hr, fun b off v hv => ?_, fun b es hv => ?_, h.rel.glb.heap fun k hk hc => hoth k fun e => by
   subst e
   cases hv : M.cell k 0 with
   | none => exact hc hv
   | some v =>
    have h1 := h.rel.cells k 0 v hv;unfold World.cell? at h1;rw [hl] at h1
    cases o <;> simp [Obj.isOther] at ho <;> simp at h1⟩
  touch := ⟨h.touch.os, h.touch.tape, h.touch.output, by rw [hsz]; exact h.touch.size, fun k hk hno => by rw [hoth k (by omega)]; exact h.touch.block k hk hno⟩
  alien := fun k o2 h2 => ?_ }
 ·have h1 := h.rel.cells b off v hv
  have hne : b ≠ l := fun e => by
   subst e;unfold World.cell? at h1;rw [hl] at h1
   cases o <;> simp [Obj.isOther] at ho <;> simp at h1
  rw [cell?_eq (hoth b hne)]; exact h1
 ·have h1 := h.rel.maps b es hv
  have hne : b ≠ l := fun e => by
   subst e;rw [hl] at h1
   cases h1
   simp [Obj.isOther] at ho
  rw [hoth b hne]; exact h1
 ·obtain ⟨h3, h4, h5⟩ := h.alien k o2 h2
  exact ⟨by rw [hoth k (fun e => hA o2 (e ▸ h2))]; exact h3, h4, h5⟩
theorem MInv.more (h : MInv A n0 M0 ρ0 w0 M ρ H w) {A' : Nat -> Obj -> Prop} (hA : ∀ k o, A' k o -> A k o \/ (w.heap[k]? = some o /\ o.isOther = true /\ ¬ ρ.has k)) : MInv A' n0 M0 ρ0 w0 M ρ H w :=
  { h with alien := fun k o ho => (hA k o ho).elim (h.alien k o) id }
theorem Holds.mono {M M' : Mem} (hle : M.le M') (h0 : ∀ g, glbB g = true -> M.cell g 0 ≠ none) (h : Holds M' w) : Holds M w := ⟨fun b o v hv => h.1 b o v (hle.1 b o v hv), fun b es hv => h.2.1 b es (hle.2 b es hv), h.2.2.down h0⟩
theorem other_not_has {ρ : Env} {M : Mem} {H : List ABlock} (h : SRel M ρ H w) {l : Nat} (hl : w.heap.size <= l) : ¬ ρ.has l := by
 rintro ⟨i, sh, n, hi⟩;have := h.lt i l sh n hi;omega
theorem MInv.agree (h : MInv A n0 M0 ρ0 w0 M ρ H w) {j : Nat} (hj : j < n0) : ρ[j]? = ρ0[j]? := by
 have hl := h.nle;have hg : ρ0[j]? = some ρ0[j] := List.getElem?_eq_getElem (by omega)
 by_cases hgone : ρ0[j] = .gone
 ·rw [hg]; rw [hgone] at hg ⊢; exact h.gon j (by omega) hg
 ·rw [h.env j _ hj hgone hg, hg]
theorem FRel.below (h : MInv A n0 M0 ρ0 w0 M ρ H w) {fr : List LV} {xs : List Value} (hf : FRel M0 ρ0 fr xs) : FRel M ρ (below n0 fr) xs := by
 unfold Go.E.below;rw [fgtL_eq_map];refine FRel.map _ (fun v x hv => (hv.mono h.mem (Env.le_refl _)).fgt (fun j hj => h.agree (by simpa using hj))) hf
def AWith (A : Nat -> Obj -> Prop) (l : Nat) (o : Obj) : Nat -> Obj -> Prop := fun k o' => A k o' \/ (k = l /\ o' = o)
def _root_.Go.E.Mem.join (M N : Mem) : Mem := ⟨fun b o => (M.cell b o).or (N.cell b o), fun b => (M.map b).or (N.map b)⟩
theorem _root_.Go.E.Mem.le_join {M N : Mem} : M.le (M.join N) := ⟨fun b o v h => by simp [Mem.join, h], fun b es h => by simp [Mem.join, h]⟩
theorem _root_.Go.E.Mem.join_cell {M N : Mem} {b o : Nat} {v : Value} (h : (M.join N).cell b o = some v) : M.cell b o = some v \/ N.cell b o = some v := by
 simp only [Mem.join] at h
 cases hm : M.cell b o with
 | none => rw [hm] at h; exact .inr (by simpa using h)
 | some u => rw [hm] at h; exact .inl (by simpa using h)
theorem _root_.Go.E.Mem.join_map {M N : Mem} {b : Nat} {es : Ents} (h : (M.join N).map b = some es) : M.map b = some es \/ N.map b = some es := by
 simp only [Mem.join] at h
 cases hm : M.map b with
 | none => rw [hm] at h; exact .inr (by simpa using h)
 | some u => rw [hm] at h; exact .inl (by simpa using h)
theorem _root_.Go.E.Mem.join_le {M N : Mem} {w : World} (h : Holds M w) (k : Holds N w) : N.le (M.join N) := by
 refine ⟨fun b o v hv => ?_, fun b es hv => ?_⟩
 ·cases hm : M.cell b o with
  | none => simp [Mem.join, hm, hv]
  | some u =>
   have h1 := h.1 b o u hm;rw [k.1 b o v hv] at h1
   cases h1
   exact Mem.le_join.1 b o v hm
 ·cases hm : M.map b with
  | none => simp [Mem.join, hm, hv]
  | some u =>
   have h1 := h.2.1 b u hm;rw [k.2.1 b es hv] at h1
   have h2 : es = u := by
    injection h1 with h1
    injection h1 with h3 h4
    exact Prod.ext h3 h4
   subst h2;exact Mem.le_join.2 b es hm
theorem MInv.foreign {w' : World} (h : MInv A n0 M0 ρ0 w0 M ρ H w) {ρc : Env} (ht : Touch ρc w w') (hc : ∀ k, ρc.has k -> w0.heap.size <= k /\ ¬ ρ.has k) (hal : ∀ k o, A k o -> ¬ ρc.has k) (hh : Holds M w') : MInv A n0 M0 ρ0 w0 M ρ H w' := by
 have hsame : ∀ k, ρ.has k -> w'.heap[k]? = w.heap[k]? := fun k ⟨i, sh, n, hi⟩ => ht.block k (h.rel.lt i k sh n hi) fun hk => (hc k hk).2 ⟨i, sh, n, hi⟩
 exact { h with
  rel := ⟨h.rel.len, fun i B r hB hr => BRel.keep (h.rel.blk i B r hB hr) fun cb sh n e => hsame cb ⟨i, sh, n, by rw [hr, e]⟩, h.rel.inj, fun i cb sh n hi => Nat.lt_of_lt_of_le (h.rel.lt i cb sh n hi) ht.size, hh.1, hh.2.1, hh.2.2⟩
  touch := ⟨ht.os.trans h.touch.os, ht.tape.trans h.touch.tape, ht.output.trans h.touch.output, Nat.le_trans h.touch.size ht.size, fun k hk hn => by
   rw [ht.block k (Nat.lt_of_lt_of_le hk h.touch.size) fun h1 => by have := (hc k h1).1; omega]
   exact h.touch.block k hk hn⟩
  alien := fun k o ho => by
   obtain ⟨h1, h2, h3⟩ := h.alien k o ho;exact ⟨by rw [ht.block k (Array.getElem?_eq_some_iff.1 h1).1 (hal k o ho)]; exact h1, h2, h3⟩ }
theorem MInv.join (h : MInv A n0 M0 ρ0 w0 M ρ H w) {Mc : Mem} (hh : Holds Mc w) (hle : Mc.le (M.join Mc)) (hn : Newer ρ0 w0 M0 Mc) (hc : ∀ b, ρ.has b -> ∀ o v, Mc.cell b o = some v -> M.cell b o = some v) (hm : ∀ b, ρ.has b -> ∀ es, Mc.map b = some es -> M.map b = some es) : MInv A n0 M0 ρ0 w0 (M.join Mc) ρ H w :=
  { h with
    rel := ⟨h.rel.len, fun i B r hB hr => BRel.mono (h.rel.blk i B r hB hr) Mem.le_join (Env.le_refl _) fun cb sh n e => ⟨fun o ho => (by
        have hb : ρ.has cb := ⟨i, sh, n, by rw [hr, e]⟩
        cases hx : (M.join Mc).cell cb o with
        | none => rfl
        | some v =>
          rcases Mem.join_cell hx with h1 | h1
          · rw [ho] at h1; cases h1
          · rw [hc cb hb o v h1] at ho; cases ho), fun ho => (by
        have hb : ρ.has cb := ⟨i, sh, n, by rw [hr, e]⟩
        cases hx : (M.join Mc).map cb with
        | none => rfl
        | some es =>
          rcases Mem.join_map hx with h1 | h1
          · rw [ho] at h1; cases h1
          · rw [hm cb hb es h1] at ho; cases ho)⟩, h.rel.inj, h.rel.lt,
      fun b o v hv => (Mem.join_cell hv).elim (h.rel.cells b o v) (hh.1 b o v), fun b es hv => (Mem.join_map hv).elim (h.rel.maps b es) (hh.2.1 b es), h.rel.glb.le Mem.le_join⟩
    mem := Mem.le_trans h.mem Mem.le_join
    newer := ⟨fun b o v hv => (Mem.join_cell hv).elim (h.newer.1 b o v) (hn.1 b o v), fun b es hv => (Mem.join_map hv).elim (h.newer.2 b es) (hn.2 b es)⟩ }
theorem range_sound {nt nf p m : Nat} {g : Operand} {as body : ACode} {as' body' : Code} {a : Act} {fr : List LV} {gf : FuncId} {caps xs : List SV} {Q : Exit -> Act -> World -> Prop} {QB : AExit -> List ABlock -> Prop}
  (hok1 : okCode P nt as as' = true) (hok2 : okCode P nt body body' = true) (hS : SRel M ρ H w) (hA : ∀ k o, A k o -> w.heap[k]? = some o /\ o.isOther = true /\ ¬ ρ.has k) (hf : FRel M ρ fr a.tmps.toList)
  (hfn : okFn P gf = true) (hone : (caps.map LV.s).all LV.isOne = true) (hg : LVal M ρ (.s (.fn gf [] caps)) (a.eval g)) (hY : ZYields P gf caps xs)
  (hm : m <= H.length) (h : rngK P H.length m (below m fr) p as body QB xs H)
  (hQ : ∀ e H' M' ρ' W D, QB e H' -> w.heap.size <= D -> MInv (AWith A D (.deferred (some []))) m M ρ w M' ρ' H' W -> Q (exitOf e) { a with defers := { target := .collected D, args := #[] } :: a.defers } W) :
  (Code.rangeFunc g #[p] as' body').wpIn (Fw none) nf P Q a w := by
 have hg1 := (lval_s.1 hg).one rfl;simp only [CRel] at hg1;obtain ⟨fs, cs, eg, hfs, hcs⟩ := hg1
 have hfs' : fs = [] := by
  cases fs with
  | nil => rfl
  | cons x fs => simp [ones, CRelC] at hfs
 subst hfs';have eg' : a.eval g = .func (.func gf) #[] cs.toArray := by simpa using eg
 have hlb : VRelL M caps cs := by
  have := frel_of_lrelC (ρ := ρ) (lrelC_map_s.2 hcs) hone
  have key : ∀ (caps : List SV) (cs : List Value), FRel M ρ (caps.map .s) cs -> VRelL M caps cs := by
   intro caps
   induction caps with
   | nil => intro cs h; simpa [FRel, VRelL] using h
   | cons c caps ih =>
    intro cs h;obtain ⟨y, ys, rfl, h1, h2⟩ := h;exact ⟨y, ys, rfl, lval_s.1 h1, ih ys h2⟩
  exact key caps cs this
 obtain ⟨fn0, hf1, hf2, hf3⟩ := okFn_inv hfn
 have ecall : ∀ args w, (callFunc gf args).run P w = .ok (.enter gf args) w := fun args w => by
  have h3' : ¬ fn0.name = "runtime.NumGoroutine" := by simpa using hf3
  have h2' : ¬ fn0.body = none := fun e => by rw [e] at hf2; cases hf2
  simp [callFunc, run_program, hf1, h2', h3']
 have hn : ρ.length = H.length := hS.len;refine wpIn_rangeFunc ?_;intro fn _;obtain ⟨rec, hrec⟩ : ∃ rec : LoopState -> Option Code -> Loop, rec = fun st pe => { state := st, pending := pe, fn, tmps := a.tmps, params := #[p], assign := as', body := body', defers := w.heap.size } := ⟨_, rfl⟩
 obtain ⟨W1, hW1⟩ : ∃ W1, (w.alloc (.deferred (some []))).alloc (.loop (rec .ready none)) = W1 := ⟨_, rfl⟩
 have hL1 : W1.heap[w.heap.size + 1]? = some (.loop (rec .ready none)) := by
  rw [<- hW1]; have := World.alloc_heap_new (w.alloc (.deferred (some []))) (.loop (rec .ready none)); rwa [World.size_alloc] at this
 have hK1 : W1.heap[w.heap.size]? = some (.deferred (some [])) := by
  rw [<- hW1]; exact (RowKit.Below.heap_alloc _ _ _ (by simp)).trans (World.alloc_heap_new w _)
 have ht1 : Touch [] w W1 := by rw [<- hW1]; exact (touch_alloc w _).trans (touch_alloc _ _)
 have hI1 := (MInv.startA hS hA (n0 := m) (by omega)).grow M.le_refl ht1 (Newer.refl _ _ _) (hS.holds.grow ht1)
 have hnD : ¬ ρ.has w.heap.size := other_not_has hS (Nat.le_refl _);have hnL : ¬ ρ.has (w.heap.size + 1) := other_not_has hS (by omega)
 have hAD : ∀ o2, ¬ AWith A w.heap.size (.deferred (some [])) (w.heap.size + 1) o2 := fun o2 h2 => by
  rcases h2 with h2 | ⟨h2, _⟩
  ·have := (Array.getElem?_eq_some_iff.1 (hA _ o2 h2).1).1; omega
  ·omega
 have hI2 : MInv (AWith A w.heap.size (.deferred (some []))) m M ρ w M ρ H W1 := hI1.more fun k o ho => by
  rcases ho with ho | ⟨rfl, rfl⟩
  ·exact .inl ho
  ·exact .inr ⟨hK1, rfl, hnD⟩
 have hW1s : W1.heap.size = w.heap.size + 2 := by rw [<- hW1]; simp
 have far : ∀ {M' : Mem} {ρ' : Env} {H' : List ABlock} {O : Nat -> Prop} {Mc Mc' : Mem} {ρc : Env} {B C : World}, MInv (AWith A w.heap.size (.deferred (some []))) m M ρ w M' ρ' H' B -> (∀ k, ρ'.has k -> W1.heap.size <= k -> O k) -> (∀ b o v, M'.cell b o = some v -> Mc.cell b o = some v \/ O b \/ b < W1.heap.size) ->
   (∀ b es, M'.map b = some es -> Mc.map b = some es \/ O b \/ b < W1.heap.size) -> Mc.le Mc' -> Holds Mc' C -> Touch ρc B C -> OwnOk W1 O ρc -> (∀ k, O k -> k < B.heap.size) ->
   MInv (AWith A w.heap.size (.deferred (some []))) m M ρ w M' ρ' H' C /\ ∀ k, k < B.heap.size -> k < W1.heap.size -> C.heap[k]? = B.heap[k]? := by
  intro M' ρ' H' O Mc Mc' ρc B C h4 h9 h10 h11 hle hh ht hc hO
  have hlow : ∀ k, k < B.heap.size -> k < W1.heap.size -> C.heap[k]? = B.heap[k]? := fun k h1 h2 => ht.block k h1 fun hk => by
   have := (hc k hk).1; omega
  have hown : ∀ k, k < B.heap.size -> O k -> C.heap[k]? = B.heap[k]? := fun k h1 h2 => ht.block k h1 fun hk => (hc k hk).2 h2
  refine ⟨h4.foreign ht (fun k hk => ⟨?_, fun h => ?_⟩) (fun k o ho hk => ?_) ⟨fun b o v hv => ?_, fun b es hv => ?_, hh.2.2.down fun g hg => (h4.rel.glb g hg).2⟩, hlow⟩
  ·have := (hc k hk).1; omega
  ·have h1 := hc k hk
   exact h1.2 (h9 k h h1.1)
  ·have h1 := (hc k hk).1
   rcases ho with ho | ⟨ho, _⟩
   ·have := (Array.getElem?_eq_some_iff.1 (hA k o ho).1).1
    omega
   ·omega
  ·have hb := World.block_lt_of_cell? B _ (h4.rel.cells b o v hv)
   rcases h10 b o v hv with h | h | h
   ·exact hh.1 b o v (hle.1 b o v h)
   ·rw [cell?_eq (hown b hb h)]; exact h4.rel.cells b o v hv
   ·rw [cell?_eq (hlow b hb h)]; exact h4.rel.cells b o v hv
  ·have h12 := h4.rel.maps b es hv
   have hb := (Array.getElem?_eq_some_iff.1 h12).1
   rcases h11 b es hv with h | h | h
   ·exact hh.2.1 b es (hle.2 b es h)
   ·rw [hown b hb h]; exact h12
   ·rw [hlow b hb h]; exact h12
 refine ⟨w.heap.size + 1, [{ target := .collected w.heap.size, args := #[] }], W1, { target := .fn (.func gf) cs.toArray, args := #[.func (.yield (w.heap.size + 1)) #[] #[]] }, W1, gf,
  #[.func (.yield (w.heap.size + 1)) #[] #[]] ++ cs.toArray, W1, ?_, ?_, fun _ _ => trivial, ?_, fun h => (by cases h), ?_⟩
 ·rw [<- hW1, hrec]; exact run_enterLoop_outer _ _ _ _ _
 ·simp only [resolve, eg']
  simp [go_sem]
 ·simp [invoke, go_sem, ecall]
 ·refine callsIn_fw.2 ?_
  refine Calls.mono (hY M W1 cs (w.heap.size + 1)
   (fun s O Mc W => ∃ vs H' M' ρ', xs = s ++ vs /\ rngK P H.length m (below m fr) p as body QB vs H' /\ MInv (AWith A w.heap.size (.deferred (some []))) m M ρ w M' ρ' H' W /\ ¬ ρ'.has (w.heap.size + 1) /\ W.heap[w.heap.size + 1]? = some (.loop (rec .ready none)) /\ ρ'.length = ρ.length /\ (∀ k, ρ'.has k -> W1.heap.size <= k -> O k) /\
    (∀ b o v, M'.cell b o = some v -> Mc.cell b o = some v \/ O b \/ b < W1.heap.size) /\ ∀ b es, M'.map b = some es -> Mc.map b = some es \/ O b \/ b < W1.heap.size)
   (fun O Mc W => ∃ e c H' M' ρ', QB e H' /\ ((e = .ret /\ c = .ret) \/ ∃ i, e = .exit i /\ c = .exit i) /\ MInv (AWith A w.heap.size (.deferred (some []))) m M ρ w M' ρ' H' W /\ ¬ ρ'.has (w.heap.size + 1) /\ W.heap[w.heap.size + 1]? = some (.loop (rec .done (some c))) /\ (∀ k, ρ'.has k -> W1.heap.size <= k -> O k) /\
    (∀ b o v, M'.cell b o = some v -> Mc.cell b o = some v \/ O b \/ b < W1.heap.size) /\ ∀ b es, M'.map b = some es -> Mc.map b = some es \/ O b \/ b < W1.heap.size)
   hI2.rel.holds hlb ?_ ?_ ?_ ⟨xs, H, M, ρ, rfl, h, hI2, hnL, hL1, rfl, fun k ⟨i, sh, n, hi⟩ hk => by
    have := hS.lt i k sh n hi;have := ht1.size;omega, fun _ _ _ h => .inl h, fun _ _ h => .inl h⟩) ?_
  ·rintro s O Mc Mc' ρc B C ⟨vs, H', M', ρ', h1, h2, h4, h6, h7, h8, h9, h10, h11⟩ hle hh ht hc hO
   obtain ⟨f1, f2⟩ := far h4 h9 h10 h11 hle hh ht hc hO;exact ⟨vs, H', M', ρ', h1, h2, f1, h6, by rw [f2 _ (Array.getElem?_eq_some_iff.1 h7).1 (by omega)]; exact h7, h8, h9, fun b o v hv => (h10 b o v hv).imp (hle.1 b o v) id, fun b es hv => (h11 b es hv).imp (hle.2 b es) id⟩
  ·rintro O Mc Mc' ρc B C ⟨e, c, H', M', ρ', h1, h2, h4, h6, h7, h9, h10, h11⟩ hle hh ht hc hO
   obtain ⟨f1, f2⟩ := far h4 h9 h10 h11 hle hh ht hc hO;exact ⟨e, c, H', M', ρ', h1, h2, f1, h6, by rw [f2 _ (Array.getElem?_eq_some_iff.1 h7).1 (by omega)]; exact h7, h9, fun b o v hv => (h10 b o v hv).imp (hle.1 b o v) id, fun b es hv => (h11 b es hv).imp (hle.2 b es) id⟩
  ·-- a round
   rintro pre v post x O Mc W hxs ⟨vs, H', M1, ρ', h1, h2, h41, h6, h7, h8, hO, hc1, hc2⟩ hHW hMc hOlt hWW hvx;have hvs : vs = v :: post := by rw [hxs] at h1; exact (List.append_cancel_left h1).symm
   subst hvs;obtain ⟨M', hM', hle1, hle2⟩ : ∃ M', M' = M1.join Mc /\ M1.le M' /\ Mc.le M' := ⟨_, rfl, Mem.le_join, Mem.join_le h41.rel.holds hHW⟩
   have h4 : MInv (AWith A w.heap.size (.deferred (some []))) m M ρ w M' ρ' H' W := by
    subst hM';refine h41.join hHW hle2 ⟨fun b o v hv => ?_, fun b es hv => ?_⟩ (fun b hb o v hv => ?_) (fun b hb es hv => ?_)
    ·rcases hMc.newer.1 b o v hv with h | h | h
     ·exact .inl h
     ·exact .inr (.inl (by omega))
     ·exact absurd h (Env.nil_has _)
    ·rcases hMc.newer.2 b es hv with h | h | h
     ·exact .inl h
     ·exact .inr (.inl (by omega))
     ·exact absurd h (Env.nil_has _)
    ·by_cases hlt : W1.heap.size <= b
     ·rcases hMc.cell b o v hv with h | h
      ·exact h41.mem.1 b o v h
      ·exact absurd (hO b hb hlt) h
     ·rcases hMc.newer.1 b o v hv with h | h | h
      ·exact h41.mem.1 b o v h
      ·exact absurd h hlt
      ·exact absurd h (Env.nil_has _)
    ·by_cases hlt : W1.heap.size <= b
     ·rcases hMc.map b es hv with h | h
      ·exact h41.mem.2 b es h
      ·exact absurd (hO b hb hlt) h
     ·rcases hMc.newer.2 b es hv with h | h | h
      ·exact h41.mem.2 b es h
      ·exact absurd h hlt
      ·exact absurd h (Env.nil_has _)
   have hj1 : ∀ b o v, M'.cell b o = some v -> Mc.cell b o = some v \/ O b \/ b < W1.heap.size := fun b o v hv => by
    subst hM'
    rcases Mem.join_cell hv with h | h
    ·exact hc1 b o v h
    ·exact .inl h
   have hj2 : ∀ b es, M'.map b = some es -> Mc.map b = some es \/ O b \/ b < W1.heap.size := fun b es hv => by
    subst hM'
    rcases Mem.join_map hv with h | h
    ·exact hc2 b es h
    ·exact .inl h
   have hvx := hvx.mono hle2;have hy := run_yield (P := P) (args := #[x]) h7 (by rw [hrec]; rfl)
   rw [hrec] at hy;refine ⟨fn, _, as', body', hy, ?_⟩;simp only [rngK] at h2;refine roundIn_of_wpIn trivial ?_
   show as'.wpIn (Fw (some (w.heap.size + 1))) 0 P _ _ W
   refine code_sound (A := AWith (AWith A w.heap.size (.deferred (some []))) (w.heap.size + 1) (.loop (rec .ready none))) (dfs := []) (n0 := m) (M0 := M') (ρ0 := ρ') (w0 := W) as as' M' ρ' W _ _ _ _ hok1 ⟨MInv.startA h4.rel (fun k o ho => ?_) (by omega), ?_, rfl⟩ h2 ?_
   ·rcases ho with ho | ⟨rfl, rfl⟩
    ·exact h4.alien k o ho
    ·exact ⟨h7, rfl, h6⟩
   ·have := (FRel.below h4 hf).fset p (v := .s v) (x := x) (lval_s.2 hvx)
    simpa using this
   ·rintro e τ M2 ρ2 a2 W2 ⟨rfl, hb⟩ hS2
    have hl2 := hS2.inv.alien (w.heap.size + 1) _ (.inr ⟨rfl, rfl⟩);refine ⟨_, run_beginRound hl2.1 (by rw [hrec]), ?_⟩
    show body'.wpIn (Fw (some (w.heap.size + 1))) 0 P _ _ _
    have hbusy : ((W2.putObj (w.heap.size + 1) (.loop { rec .ready none with state := .busy }))).heap[w.heap.size + 1]? = some (.loop { rec .ready none with state := .busy }) := World.putObj_heap_same (Array.getElem?_eq_some_iff.1 hl2.1).1;have hb0 : MInv (AWith A w.heap.size (.deferred (some []))) m M ρ w M2 ρ2 τ.hp W2 := h4.trans hS2.inv (Nat.le_refl _);have hb1 := hb0.other (o' := .loop { rec .ready none with state := .busy }) hl2.1 rfl hl2.2.2 (by omega) hAD
    refine code_sound (A := AWith (AWith A w.heap.size (.deferred (some []))) (w.heap.size + 1) (.loop { rec .ready none with state := .busy })) (dfs := []) (n0 := m) (M0 := M2) (ρ0 := ρ2) (w0 := W2.putObj (w.heap.size + 1) (.loop { rec .ready none with state := .busy })) body body' M2 ρ2 _ a2 τ _ _ hok2 ⟨MInv.startA hb1.rel (fun k o ho => ?_) (Nat.le_trans hb1.nle hb1.len), hS2.fr, hS2.nod⟩ hb ?_
    ·rcases ho with ho | ⟨rfl, rfl⟩
     ·exact hb1.alien k o ho
     ·exact ⟨hbusy, rfl, hl2.2.2⟩
    ·intro e3 τ3 M3 ρ3 a3 W3 hq hS3
     have hl3 := hS3.inv.alien (w.heap.size + 1) _ (.inr ⟨rfl, rfl⟩);have hc0 : MInv (AWith A w.heap.size (.deferred (some []))) m M ρ w M3 ρ3 τ3.hp W3 := hb1.trans hS3.inv (Nat.le_refl _)
     have hkeep : ∀ (o' : Obj) k, W1.heap.size <= k -> k < W.heap.size -> ¬ O k -> (W3.putObj (w.heap.size + 1) o').heap[k]? = W.heap[k]? := fun o' k hk1 hk2 hk3 => by
      have hnk : ¬ ρ'.has k := fun h => hk3 (hO k h hk1)
      have hkl : k ≠ w.heap.size + 1 := by omega
      have hs2 := hS2.inv.touch.size;rw [World.putObj_heap_other hkl, hS3.inv.touch.block k (by simp [World.putObj]; omega) (fun h => ?_), World.putObj_heap_other hkl, hS2.inv.touch.block k hk2 hnk]
      rcases hS2.inv.has_old h with h | h
      ·exact hnk h
      ·omega
     have hsz3 : ∀ (o' : Obj), W.heap.size <= (W3.putObj (w.heap.size + 1) o').heap.size := fun o' => by
      have h9 := hS3.inv.touch.size;have h10 := hS2.inv.touch.size;simp [World.putObj] at h9 ⊢;omega
     have htl : (ρ3.take H.length).length = ρ.length := by
      have h9 := hS3.inv.len;have h10 := hS2.inv.len;simp only [List.length_take];omega
     have fin : ∀ jump : Option Code, (Instr.endRound (w.heap.size + 1) jump).run P W3 = .ok (.bool jump.isNone) (W3.putObj (w.heap.size + 1) (.loop (rec (if jump.isNone then .ready else .done) jump))) /\
       MInv (AWith A w.heap.size (.deferred (some []))) m M ρ w M3 (ρ3.take H.length) (killed H.length τ3.hp) (W3.putObj (w.heap.size + 1) (.loop (rec (if jump.isNone then .ready else .done) jump))) /\
       ¬ Env.has (ρ3.take H.length) (w.heap.size + 1) /\ (W3.putObj (w.heap.size + 1) (.loop (rec (if jump.isNone then .ready else .done) jump))).heap[w.heap.size + 1]? = some (.loop (rec (if jump.isNone then .ready else .done) jump)) := fun jump => by
      have hr := run_endRound (P := P) jump hl3.1;rw [hrec] at hr ⊢;refine ⟨hr, (hc0.other hl3.1 rfl hl3.2.2 (by omega) hAD).cut (by omega), ?_, World.putObj_heap_same (Array.getElem?_eq_some_iff.1 hl3.1).1⟩
      rintro ⟨i, sh, m, hi⟩;rw [List.getElem?_take] at hi
      split at hi
      ·exact hl3.2.2 ⟨i, sh, m, hi⟩
      ·cases hi
     have hown : ∀ (o' : Obj) k, (Env.has (ρ3.take H.length) k) -> W1.heap.size <= k -> OwnNew O W (W3.putObj (w.heap.size + 1) o') k := fun o' k ⟨i, sh, n, hi⟩ hk => by
      rw [List.getElem?_take] at hi
      split at hi
      ·have hlt := hS3.inv.rel.lt i k sh n hi
       have hlt2 : k < (W3.putObj (w.heap.size + 1) o').heap.size := by simp [World.putObj]; exact hlt
       rcases hS3.inv.has_old ⟨i, sh, n, hi⟩ with h5 | h5
       ·rcases hS2.inv.has_old h5 with h5 | h5
        ·exact .inl (hO k h5 hk)
        ·exact .inr ⟨h5, hlt2⟩
       ·have h9 := hS2.inv.touch.size
        exact .inr ⟨by simp [World.putObj] at h5; omega, hlt2⟩
      ·cases hi
     have hown2 : ∀ (o' : Obj) k, ρ'.has k -> O k \/ k < W1.heap.size := fun o' k h => by
      by_cases hk : W1.heap.size <= k
      ·exact .inl (hO k h hk)
      ·exact .inr (by omega)
     have hcl : ∀ (o' : Obj) b o v, M3.cell b o = some v -> Mc.cell b o = some v \/ OwnNew O W (W3.putObj (w.heap.size + 1) o') b \/ b < W1.heap.size := fun o' b o v hv => by
      have hlt : b < W3.heap.size := World.block_lt_of_cell? W3 _ (hS3.inv.rel.cells b o v hv);have hlt2 : b < (W3.putObj (w.heap.size + 1) o').heap.size := by simp [World.putObj]; exact hlt
      have h9 := hS2.inv.touch.size;have up : W.heap.size <= b -> Mc.cell b o = some v \/ OwnNew O W (W3.putObj (w.heap.size + 1) o') b \/ b < W1.heap.size := fun h => .inr (.inl (.inr ⟨h, hlt2⟩))
      have two : ρ2.has b -> Mc.cell b o = some v \/ OwnNew O W (W3.putObj (w.heap.size + 1) o') b \/ b < W1.heap.size := fun h => by
       rcases hS2.inv.has_old h with h | h
       ·exact .inr ((hown2 o' b h).imp .inl id)
       ·exact up h
      rcases hS3.inv.newer.1 b o v hv with h | h | h
      ·rcases hS2.inv.newer.1 b o v h with h | h | h
       ·exact (hj1 b o v h).imp id fun h => h.imp .inl id
       ·exact up h
       ·exact .inr ((hown2 o' b h).imp .inl id)
      ·exact up (by simp [World.putObj] at h; omega)
      ·exact two h
     have hcm : ∀ (o' : Obj) b es, M3.map b = some es -> Mc.map b = some es \/ OwnNew O W (W3.putObj (w.heap.size + 1) o') b \/ b < W1.heap.size := fun o' b es hv => by
      have hlt : b < W3.heap.size := (Array.getElem?_eq_some_iff.1 (hS3.inv.rel.maps b es hv)).1;have hlt2 : b < (W3.putObj (w.heap.size + 1) o').heap.size := by simp [World.putObj]; exact hlt
      have h9 := hS2.inv.touch.size;have up : W.heap.size <= b -> Mc.map b = some es \/ OwnNew O W (W3.putObj (w.heap.size + 1) o') b \/ b < W1.heap.size := fun h => .inr (.inl (.inr ⟨h, hlt2⟩))
      have two : ρ2.has b -> Mc.map b = some es \/ OwnNew O W (W3.putObj (w.heap.size + 1) o') b \/ b < W1.heap.size := fun h => by
       rcases hS2.inv.has_old h with h | h
       ·exact .inr ((hown2 o' b h).imp .inl id)
       ·exact up h
      rcases hS3.inv.newer.2 b es hv with h | h | h
      ·rcases hS2.inv.newer.2 b es h with h | h | h
       ·exact (hj2 b es h).imp id fun h => h.imp .inl id
       ·exact up h
       ·exact .inr ((hown2 o' b h).imp .inl id)
      ·exact up (by simp [World.putObj] at h; omega)
      ·exact two h
     cases e3 with
     | normal =>
      obtain ⟨f1, f2, f3, f4⟩ := fin none;exact ⟨_, _, f1, true, rfl, hsz3 _, hkeep _, f2.rel.holds.mono f2.mem (fun g hg => (hS.glb g hg).2), fun _ => ⟨post, _, M3, _, by rw [hxs]; simp, hq, f2, f3, f4, htl, hown _, hcl _, hcm _⟩, fun h => (by cases h)⟩
     | exit i =>
      obtain ⟨f1, f2, f3, f4⟩ := fin (some (.exit i));exact ⟨_, _, f1, false, rfl, hsz3 _, hkeep _, f2.rel.holds.mono f2.mem (fun g hg => (hS.glb g hg).2), fun h => (by cases h), fun _ => ⟨.exit i, .exit i, _, M3, _, hq, .inr ⟨i, rfl, rfl⟩, f2, f3, f4, hown _, hcl _, hcm _⟩⟩
     | ret =>
      obtain ⟨f1, f2, f3, f4⟩ := fin (some .ret);exact ⟨_, _, f1, false, rfl, hsz3 _, hkeep _, f2.rel.holds.mono f2.mem (fun g hg => (hS.glb g hg).2), fun h => (by cases h), fun _ => ⟨.ret, .ret, _, M3, _, hq, .inl ⟨rfl, rfl⟩, f2, f3, f4, hown _, hcl _, hcm _⟩⟩
  ·rintro e W2 ⟨⟨v, rfl⟩, O, Mc, hcase⟩
   rcases hcase with ⟨vs, H', M', ρ', h1, h2, h4, h6, h7, h8, _⟩ | ⟨e, c, H', M', ρ', h1, h2, h4, h6, h7, _⟩
   ·have hvs : vs = [] := by have := congrArg List.length h1; simp at this; exact this
    subst hvs;refine ⟨none, _, by have := run_endLoop (P := P) h7 (by rw [hrec]; simp); rw [hrec] at this; exact this, ?_⟩
    exact hQ .normal H' M' ρ' _ _ h2 (Nat.le_refl _) (h4.other h7 rfl h6 (by omega) hAD)
   ·refine ⟨some c, _, by have := run_endLoop (P := P) h7 (by rw [hrec]; simp); rw [hrec] at this; exact this, ?_⟩
    have hfin := hQ e H' M' ρ' _ _ h1 (Nat.le_refl _) (h4.other (o' := .loop { rec .done (some c) with state := .exhausted }) h7 rfl h6 (by omega) hAD)
    rw [hrec] at hfin
    rcases h2 with ⟨rfl, rfl⟩ | ⟨i, rfl, rfl⟩
    ·exact wpIn_ret hfin
    ·exact wpIn_exit hfin
theorem frel_repl {v' : LV} : ∀ {fr : List LV} {xs : List Value} (t : Nat), FRel M ρ fr xs -> (∀ x, LVal M ρ (fget fr t) x -> LVal M ρ v' x) -> FRel M ρ (fset fr t v') xs
 | [], _, _, h, _ => by simpa [Go.E.fset] using h
 | v :: vs, xs, 0, h, hv => by
  obtain ⟨y, ys, rfl, h1, h2⟩ := h;exact ⟨y, ys, rfl, hv y h1, h2⟩
 | v :: vs, xs, t + 1, h, hv => by
  obtain ⟨y, ys, rfl, h1, h2⟩ := h;exact ⟨y, ys, rfl, h1, frel_repl t h2 hv⟩
theorem pin_sound (hI : MInv A n0 M0 ρ0 w0 M ρ H w) {fr : List LV} {xs : List Value} (hf : FRel M ρ fr xs) {t b : Nat} {cs : List LV} {vs : List SV} (ht : fget fr t = .loc b 0) (hB : H[b]? = some (.obj cs)) (hv : frzAll (frz []) cs = some vs) :
  ∃ M', MInv A n0 M0 ρ0 w0 M' ρ (H.set b (.frz vs)) w /\ FRel M' ρ (fset fr t (.s (.ptr vs))) xs := by
 obtain ⟨r, hr, hbr⟩ := hI.rel.spot hB
 cases r <;> simp only [BRel] at hbr
 rename_i cb sh n
 obtain ⟨c, T, h1, h2, h3, rfl, h5, h6⟩ := hbr;have hl : vs.length = cs.length := frzAll_length hv;have hc : CRelC M vs (ones c.toList) := frzAll_rel (g := frz []) (fun v us sv h k => frzV_rel (H := []) M.le_refl (fun i B r h => by simp at h) 4 v us sv h k) h5 hv
 have htk : (c.toList.drop 0).take vs.length = c.toList := by rw [List.drop_zero, List.take_of_length_le (by simp; omega)]
 have hb := (List.getElem?_eq_some_iff.1 hB).1
 have hI1 := hI.reblk (b := b) (B' := .row vs) fun r' hr' => by
  rw [hr] at hr'; cases hr';simp only [BRel];exact ⟨c, T, h1, h2, by omega, by rw [htk]; exact hc, h6⟩
 have hI2 := hI1.freeze (cs' := vs) (List.getElem?_set_self hb) hr h1 h6 (Touch.refl _ _) h1 (us := c.toList) htk.symm (hc.mono (layAt_le h6));rw [List.set_set] at hI2;refine ⟨_, hI2, frel_repl t (hf.mono (layAt_le h6) (Env.le_refl _)) fun x hx => ?_⟩
 rw [ht] at hx;have hy := loc0_val hx hr;subst hy;refine lval_s.2 (vrel_of_one ?_ rfl);simp only [CRel];exact ⟨cb, 0, c.toList, rfl, hc.mono (layAt_le h6), layAt_at⟩
theorem b_sound {nt nf : Nat} : ∀ (b : BCode) (c : Code) (A : Nat -> Obj -> Prop) (dfs : List Deferred) (M : Mem) (ρ : Env) (w : World) (a : Act) (σ : AState) (QA : AExit -> AState -> Prop) (Q : Exit -> Act -> World -> Prop),
  okB P nt b c = true -> Stands A dfs n0 M0 ρ0 w0 M ρ σ a w -> bwp P n0 b σ QA ->
  (∀ e τ M' ρ' a' w' Ds, QA e τ -> Mk w0 A Ds -> Stands (AMark A Ds) (marks Ds ++ dfs) n0 M0 ρ0 w0 M' ρ' τ a' w' -> Q (exitOf e) a' w') -> c.wpIn (Fw none) nf P Q a w := by
 intro b
 induction b with
 | code ac =>
  intro c A dfs M ρ w a σ QA Q hok hS h hQ;exact code_sound ac c M ρ w a σ QA Q hok hS h fun e τ M' ρ' a' w' he hS' => hQ e τ M' ρ' a' w' [] he Mk.nil (by rw [amark_nil]; exact hS')
 | seq x y ihx ihy =>
  intro c A dfs M ρ w a σ QA Q hok hS h hQ
  cases c <;> simp only [okB, Bool.and_eq_true] at hok <;> try cases hok
  rename_i h1 h2
  simp only [bwp] at h;refine wpIn_seq (ihx _ A dfs M ρ w a σ _ _ h1 hS h fun e τ M' ρ' a' w' Ds he hD hS' => ?_)
  cases e with
  | normal =>
   refine ihy _ _ _ M' ρ' w' a' τ _ _ h2 hS' he fun e2 τ2 M2 ρ2 a2 w2 Es he2 hE hS2 => ?_
   rw [amark_amark, marks_app] at hS2;exact hQ e2 τ2 M2 ρ2 a2 w2 (Es ++ Ds) he2 (hD.app hE) hS2
  | exit id => exact hQ (.exit id) τ M' ρ' a' w' Ds he hD hS'
  | ret => exact hQ .ret τ M' ρ' a' w' Ds he hD hS'
 | cond x A' B' iha ihb =>
  intro c A dfs M ρ w a σ QA Q hok hS h hQ
  cases c <;> simp only [okB, Bool.and_eq_true] at hok <;> try cases hok
  rename_i h1 h2
  obtain ⟨h1, h3⟩ := h1;have hv := okX_rel hS.fr h1;simp only [bwp] at h;unfold condK at h
  split at h
  ·rename_i t hx
   have hb := lrel_bool hx hv;refine wpIn_cond_split hb (fun ht => ?_) (fun ht => ?_)
   ·subst ht; exact iha _ A dfs M ρ w a σ _ _ h3 hS h hQ
   ·subst ht; exact ihb _ A dfs M ρ w a σ _ _ h2 hS h hQ
  ·cases h
 | block id x ih =>
  intro c A dfs M ρ w a σ QA Q hok hS h hQ
  cases c <;> simp only [okB, Bool.and_eq_true, beq_iff_eq] at hok <;> try cases hok
  rename_i h1 h2
  subst h1;simp only [bwp] at h;refine wpIn_block (ih _ A dfs M ρ w a σ _ _ h2 hS h fun e τ M' ρ' a' w' Ds he hD hS' => ?_)
  cases e with
  | normal => exact hQ .normal τ M' ρ' a' w' Ds he hD hS'
  | exit i =>
   simp only at he;simp only [exitOf, Exit.inBlock]
   split
   ·rename_i hi; rw [if_pos hi] at he; exact hQ .normal τ M' ρ' a' w' Ds he hD hS'
   ·rename_i hi; rw [if_neg hi] at he; exact hQ (.exit i) τ M' ρ' a' w' Ds he hD hS'
  | ret => exact hQ .ret τ M' ρ' a' w' Ds he hD hS'
 | loop mask promo x ih =>
  intro c A dfs M ρ w a σ QA Q hok hS h hQ
  cases c <;> simp only [okB] at hok <;> try cases hok
  rename_i c
  simp only [bwp] at h;obtain ⟨ρ1, hS1⟩ := hS.promote promo;have hn : ρ0.length <= (promote promo σ).hp.length := by have := hS1.inv.len; have := hS1.inv.rel.len; omega
  generalize (promote promo σ).hp.length = n at h hn
  have hI := h (fun τ => ∀ Ds M ρ a w, Mk w0 A Ds -> Stands (AMark A Ds) (marks Ds ++ dfs) n0 M0 ρ0 w0 M ρ τ a w -> ∀ (b : Frame) (k : List Item) (cs : List Frame), b.roundOf = (Fw none).round -> (Fw none).fn b.fn -> (Fw none).room (cs.length + 1 + nf) -> ∃ e a' w', Q e a' w' /\ ArrivesIn (Machine.fenced P (Fw none)) P (lone (b.atR a (.code c :: .inLoop c :: k)) cs w) b k cs e a' w') (by
   intro τ hb Ds M ρ a w hD hS b k cs hro hfn hrm
   have hbody := ih c (AMark A Ds) (marks Ds ++ dfs) M ρ w a τ _ (Exit.then (fun a' w' => ∀ (b : Frame) (k : List Item) (cs : List Frame), b.roundOf = (Fw none).round -> (Fw none).fn b.fn -> (Fw none).room (cs.length + 1 + nf) -> ∃ e a'' w'', Q e a'' w'' /\ ArrivesIn (Machine.fenced P (Fw none)) P (lone (b.atR a' (.code c :: .inLoop c :: k)) cs w') b k cs e a'' w'') Q) hok hS hb (fun e τ' M' ρ' a' w' Es he hE hS' => by
    rw [amark_amark, marks_app] at hS'
    cases e with
    | normal => exact he (Es ++ Ds) M' _ a' w' (hD.app hE) (hS'.norm mask hn)
    | exit id => exact hQ (.exit id) τ' M' ρ' a' w' _ he (hD.app hE) hS'
    | ret => exact hQ .ret τ' M' ρ' a' w' _ he (hD.app hE) hS')
   obtain ⟨e, a₁, w₁, hq, harr⟩ := hbody b (.inLoop c :: k) cs hro hfn hrm
   cases e with
   | normal =>
    obtain ⟨e₂, a₂, w₂, hq₂, harr₂⟩ := hq b k cs hro hfn hrm;exact ⟨e₂, a₂, w₂, hq₂, .of_steps (StepsIn.trans harr (.one (fenced_calm hfn hrm rfl) stepR_inLoop)) harr₂⟩
   | exit id => exact ⟨_, a₁, w₁, hq, .pass (x := .inLoop c) rfl (fun _ _ => .inl (by simp)) harr⟩
   | goto l => exact ⟨_, a₁, w₁, hq, .pass (x := .inLoop c) rfl (fun _ _ => .inl (by simp)) harr⟩
   | ret => exact ⟨_, a₁, w₁, hq, .pass (x := .inLoop c) rfl (fun _ _ => .inl (by simp)) harr⟩
   | panic ch => exact ⟨_, a₁, w₁, hq, .pass (x := .inLoop c) rfl (fun _ _ => .inl (by simp)) harr⟩
   | outgrown => exact ⟨_, a₁, w₁, hq, .pass (x := .inLoop c) rfl (fun _ _ => .inl (by simp)) harr⟩)
  intro b k cs hro hfn hrm;obtain ⟨e, a', w', hq, harr⟩ := hI [] M _ a w Mk.nil (by rw [amark_nil]; exact hS1.norm mask hn) b k cs hro hfn hrm
  exact ⟨e, a', w', hq, .of_steps (.one (fenced_calm hfn hrm rfl) stepR_loop) harr⟩
 | scope x ih =>
  intro c A dfs M ρ w a σ QA Q hok hS h hQ
  cases c <;> simp only [okB] at hok <;> try cases hok
  refine wpIn_scope_straight (ih _ A dfs M ρ w a σ QA _ hok hS h fun e τ M' ρ' a' w' Ds he hD hS' => ?_)
  cases e with
  | normal => exact hQ .normal τ M' ρ' a' w' Ds he hD hS'
  | exit id => exact hQ (.exit id) τ M' ρ' a' w' Ds he hD hS'
  | ret => exact hQ .ret τ M' ρ' a' w' Ds he hD hS'
 | promo ps x ih =>
  intro c A dfs M ρ w a σ QA Q hok hS h hQ;simp only [okB] at hok;simp only [bwp] at h;obtain ⟨ρ1, hS1⟩ := hS.promote ps;exact ih c A dfs M ρ1 w a (promote ps σ) QA Q hok hS1 h hQ
 | pin t x ih =>
  intro c A dfs M ρ w a σ QA Q hok hS h hQ;simp only [okB] at hok;simp only [bwp] at h;unfold pinK at h
  split at h
  ·rename_i b ht
   unfold pinB at h
   split at h
   ·rename_i cs hB
    obtain ⟨vs, hv, h⟩ := exO_inv h;obtain ⟨M', h1, h2⟩ := pin_sound hS.inv hS.fr ht hB hv;exact ih c A dfs M' ρ w a { fr := fset σ.fr t (.s (.ptr vs)), hp := σ.hp.set b (.frz vs) } QA Q hok ⟨h1, h2, hS.nod⟩ h hQ
   ·cases h
  ·cases h
 | rangeF mv x p as body =>
  intro c A dfs M ρ w a σ QA Q hok hS h hQ
  cases c <;> simp only [okB, Bool.and_eq_true, decide_eq_true_eq] at hok <;> try (cases hok; done)
  obtain ⟨⟨⟨k3, rfl⟩, k5⟩, k6⟩ := hok;simp only [bwp] at h;have hxv := okX_rel hS.fr k3;unfold rangeLK at h
  split at h
  ·rename_i gf caps hx
   rw [hx] at hxv;obtain ⟨r1, r2, xs, r3, hn0m, r5⟩ := h;refine range_sound k5 k6 hS.inv.rel hS.inv.alien hS.fr r1 r2 hxv r3 (Nat.sub_le _ _) r5 fun e H' M' ρ' W D hq hD hI => ?_
   have hl := hI.alien D _ (.inr ⟨rfl, rfl⟩);refine hQ e { fr := below (σ.hp.length - mv) σ.fr, hp := H' } M' ρ' _ W [D] hq ⟨by simp, fun D2 h2 => ?_⟩ ⟨(hS.inv.trans hI hn0m).more fun k o ho => ?_, FRel.below hI hS.fr, by simp [marks, hS.nod]⟩
   ·simp only [List.mem_singleton] at h2
    subst h2;refine ⟨Nat.le_trans hS.inv.touch.size hD, fun o ho => ?_⟩
    have := (Array.getElem?_eq_some_iff.1 (hS.inv.alien _ o ho).1).1;omega
   ·rcases ho with ho | ⟨ho, rfl⟩
    ·exact .inl ho
    ·simp only [List.mem_singleton] at ho
     subst ho;exact .inr hl
  ·cases h
end
structure BRow where
  code : BCode
  res : List ARes
  nt : Nat
def BRow.Ok (P : Program) (f : FuncId) (r : BRow) : Prop :=
 ∃ fn c, P.funcs[f]? = some fn /\ fn.body = some c /\ okB P 0 r.code c = true /\ okRes P r.res fn.results.toList = true /\ fn.ntmps = r.nt
def BRow.start (r : BRow) (args : List LV) : AState := { fr := args ++ List.replicate (r.nt - args.length) .any, hp := [] }
section
variable {P : Program}
theorem leaves_marks {fn : Func} {tmps : Array Value} {R : Ending -> World -> Prop} {n0 : Nat} {M0 : Mem} {ρ0 : Env} {w0 : World} {M : Mem} {ρ : Env} {H : List ABlock} (hR : ∀ w, MInv NoA n0 M0 ρ0 w0 M ρ H w -> ∃ v, (results fn tmps).run P w = .ok v w /\ R (.returned v) w) :
  ∀ (Ds : List Nat) (w : World), MInv NoA n0 M0 ρ0 w0 M ρ H w -> Ds.Nodup -> (∀ D ∈ Ds, w0.heap.size <= D /\ w.heap[D]? = some (.deferred (some [])) /\ ¬ ρ.has D) ->
   LeavesInM (Fw none) 0 P fn tmps R (Ds.map fun D => { target := .collected D, args := #[] }) .returning w
 | [], w, hI, _, _ => by
  obtain ⟨v, h1, h2⟩ := hR w hI;simp only [List.map_nil, LeavesInM, LeavesIn];exact ⟨v, h1, h2⟩
 | D :: Ds, w, hI, hnd, hD => by
  rw [List.nodup_cons] at hnd;obtain ⟨h1, h2, h3⟩ := hD D (by simp)
  simp only [List.map_cons, LeavesInM];refine ⟨by simp, .inl ⟨D, _, rfl, run_takeDeferred h2, ?_⟩⟩
  refine leaves_marks hR Ds _ (hI.other h2 rfl h3 h1 fun _ h => h.elim) hnd.2 fun D2 h4 => ?_
  obtain ⟨h5, h6, h7⟩ := hD D2 (by simp [h4])
  have hne : D2 ≠ D := fun e => hnd.1 (by rw [<- e]; exact h4)
  exact ⟨h5, by rw [World.putObj_heap_other hne]; exact h6, h7⟩
theorem fnR_of_brow {f : FuncId} {r : BRow} (hr : r.Ok P f) {args : List SV} {R : List SV -> Prop} (h : bwp P 0 r.code (r.start (args.map .s)) (finR r.res R)) : FnR P f args R := by
 obtain ⟨fn, c, h1, h2, h3, h4, h5⟩ := hr;intro M w vs hh hv;refine (callsIn_fw (r := none) (n := 0)).1 (callsIn_of_wp_marks h1 h2 trivial (b_sound (n0 := 0) (M0 := M) (ρ0 := []) (w0 := w) r.code c NoA [] M [] w _ _ _ _ h3 ⟨MInv.start (SRel.start hh), ?_, rfl⟩ h ?_))
 ·have := frame_rel (frel_of_vrelL (ρ := []) hv) fn.ntmps
  rw [h5] at this ⊢
  simpa [BRow.start] using this
 ·intro e τ M' ρ' a' w' Ds he hD hS
  have hI := hS.inv
  have key : resK τ.hp τ.fr r.res R -> LeavesInM (Fw none) 0 P fn a'.tmps (fun e w' => ∃ xs M' out, R out /\ e = .returned (retOf xs) /\ M.le M' /\ Holds M' w' /\ VRelL M' out xs /\ Touch [] w w' /\ Newer [] w M M') a'.defers .returning w' := by
   intro hk;rw [hS.nod, List.append_nil];refine leaves_marks (fun w2 hI2 => ?_) Ds w' (MInv.more (A' := NoA) hI fun k o (ho : False) => ho.elim) hD.1 fun D hDD => ⟨(hD.2 D hDD).1, (hI.alien D _ (.inr ⟨hDD, rfl⟩)).1, (hI.alien D _ (.inr ⟨hDD, rfl⟩)).2.2⟩
   obtain ⟨xs, vs, h1, h2, h3⟩ := res_sound hI2.rel hS.fr h4 hk;refine ⟨retOf xs, results_of h1, xs, M'.up ρ' w2, vs, h3, rfl, Mem.le_trans hI2.mem (Mem.le_up _ _ _), hI2.rel.holds_up, h2, hI2.touch, fun b o v hv => ?_, fun b es hv => ?_⟩
   ·rcases Mem.up_cell hv with h | ⟨h, _⟩
    ·exact hI2.newer.1 b o v h
    ·rcases hI2.has_old h with h | h
     ·exact absurd h (Env.nil_has _)
     ·exact .inr (.inl h)
   ·rcases Mem.up_map hv with h | ⟨h, _⟩
    ·exact hI2.newer.2 b es h
    ·rcases hI2.has_old h with h | h
     ·exact absurd h (Env.nil_has _)
     ·exact .inr (.inl h)
  cases e with
  | normal => exact key he
  | exit id => exact he.elim
  | ret => exact key he
theorem fnR_eq {f : FuncId} {args out : List SV} : FnR P f args (fun rs => rs = out) ↔ Fn P f args out :=
 ⟨fun h M w vs hM hv => (h M w vs hM hv).mono fun _ _ ⟨xs, M', rs, h1, h2⟩ => ⟨xs, M', by subst h1; exact h2⟩, fun h => h.fnR rfl⟩
theorem fn_of_brow {f : FuncId} {r : BRow} (hr : r.Ok P f) {args out : List SV} (h : bwp P 0 r.code (r.start (args.map .s)) (finR r.res (fun rs => rs = out))) : Fn P f args out := fnR_eq.1 (fnR_of_brow hr h)
theorem bwp_rangeZ {P : Program} {n0 mv p : Nat} {x : AX} {as body : ACode} {fr : List LV} {H : List ABlock} {Q : AExit -> AState -> Prop} {g : FuncId} {caps xs : List SV} (J : List SV -> List ABlock -> Prop) (hx : x.ev fr = .s (.fn g [] caps)) (hok : okFn P g = true)
  (hc : (caps.map LV.s).all LV.isOne = true) (hy : ZYields P g caps xs) (hn : n0 <= H.length - mv) (h0 : J xs H) (h1 : ∀ H', J [] H' -> Q .normal ⟨below (H.length - mv) fr, H'⟩)
  (hs : ∀ v vs H' (I : List ABlock -> Prop), J (v :: vs) H' -> (∀ H'', J vs H'' -> I H'') -> awp P (H.length - mv) as ⟨fset (below (H.length - mv) fr) p (.s v), H'⟩ fun e σ1 => e = .normal /\ awp P (H.length - mv) body σ1 fun e2 σ2 => match e2 with
   | .normal => I (killed H.length σ2.hp)
   | e2 => Q e2 ⟨below (H.length - mv) fr, killed H.length σ2.hp⟩) :
  bwp P n0 (.rangeF mv x p as body) ⟨fr, H⟩ Q := by
 simp only [bwp, hx];refine ⟨hok, hc, xs, hy, hn, ?_⟩
 have key : ∀ (vs : List SV) (H' : List ABlock), J vs H' -> rngK P H.length (H.length - mv) (below (H.length - mv) fr) p as body (fun e H' => Q e ⟨below (H.length - mv) fr, H'⟩) vs H' := by
  intro vs
  induction vs with
  | nil => intro H' hJ; exact h1 H' hJ
  | cons v vs ih => intro H' hJ; exact hs v vs H' _ hJ ih
 exact key xs H h0
theorem fn_same {f : FuncId} {args out : List SV} {R : List SV -> Prop} (h : FnR P f args R) (hr : ∀ rs, R rs -> ∀ M xs, VRelL M rs xs -> VRelL M out xs) : Fn P f args out :=
 fun M w vs hM hv => (h M w vs hM hv).mono fun _ _ ⟨xs, M', rs, h1, h2, h3, h4, h5, h6⟩ => ⟨xs, M', h2, h3, h4, hr rs h1 M' xs h5, h6⟩
end
section
variable {P : Program} {A : Nat -> Obj -> Prop} {dfs : List Deferred} {M0 : Mem} {ρ0 : Env} {w0 : World} {n0 : Nat} {Q : Exit -> Act -> World -> Prop}
end
abbrev YK := LV -> Option (List SV) -> Prop -> Prop
def yldK (v : SV) (k : YK) : Option (List SV) -> Prop
 | some (u :: r) => u = v /\ k (.s (.bool true)) (some r) True /\ k (.s (.bool false)) none True
 | _ => False
def LV.isYl : LV -> Bool
 | .yl _ => true
 | _ => false
def ylOk (fr : List LV) : AOp -> LV -> Prop
 | .mov x, v => v = x.ev fr
 | _, v => v.isYl = false
def yopV (P : Program) (rest : Option (List SV)) (x : LV) (k : YK) : LV -> Prop
 | .yl _ => exO (frz [] x) fun v => yldK v k rest
 | v => callvK P [] [x] (fun v H kl f => H = [] /\ kl = none /\ v.isYl = false /\ k v rest f) v
noncomputable def yop (P : Program) (fr : List LV) (rest : Option (List SV)) : AOp -> YK -> Prop
 | .callv f [x], k => yopV P rest (x.ev fr) k (f.ev fr)
 | op, k => aop P 0 0 fr [] op fun v H kl f => H = [] /\ kl = none /\ ylOk fr op v /\ k v rest f
noncomputable def yops (P : Program) : List AOper -> List LV -> Option (List SV) -> Prop -> (List LV -> Option (List SV) -> Prop -> Prop) -> Prop
 | [], fr, rest, F, k => k fr rest F
 | ⟨dst, none, op⟩ :: os, fr, rest, F, k => yop P fr rest op fun v rest' f => yops P os (fpt fr dst v) rest' (F /\ f) k
 | ⟨dst, some (g, want), op⟩ :: os, fr, rest, F, k => grdK want
   (fun b => yop P (fset fr g (.s (.bool b))) rest op fun v rest' f => yops P os (fpt (fset fr g (.s (.bool b))) dst v) rest' (F /\ f) k)
   (fun b => yops P os (fpt (fset fr g (.s (.bool b))) dst (.tup [])) rest F k)
   (yops P os (fpt fr dst (.tup [])) rest F k) (fget fr g)
noncomputable def ywp (P : Program) : ACode -> List LV -> Option (List SV) -> (AExit -> List LV -> Option (List SV) -> Prop) -> Prop
 | .skip, fr, rest, Q => Q .normal fr rest
 | .reg _ ops, fr, rest, Q => yops P ops fr rest True fun fr' rest' F => F -> Q .normal fr' rest'
 | .seq a b, fr, rest, Q => ywp P a fr rest fun e fr' rest' => match e with
  | .normal => ywp P b fr' rest' Q
  | e => Q e fr' rest'
 | .cond x a b, fr, rest, Q => condK (ywp P a fr rest Q) (ywp P b fr rest Q) (x.ev fr)
 | .block id a, fr, rest, Q => ywp P a fr rest fun e fr' rest' => match e with
  | .exit i => if i = id then Q .normal fr' rest' else Q (.exit i) fr' rest'
  | e => Q e fr' rest'
 | .loop mask _ a, fr, rest, Q => ∀ I : List LV -> Option (List SV) -> Prop,
   (∀ fr r, ywp P a fr r (fun e fr' r' => match e with | .normal => I (fmask mask fr') r' | e => Q e fr' r') -> I fr r) -> I (fmask mask fr) rest
 | .exit id, fr, rest, Q => Q (.exit id) fr rest
 | .ret, fr, rest, Q => Q .ret fr rest
 | .scope a, fr, rest, Q => ywp P a fr rest Q
 | .label _, fr, rest, Q => Q .normal fr rest
 | .zap _ _ _, _, _, _ => False
 | .zapb _ _, _, _, _ => False
 | .ren _ _ _, _, _, _ => False
section
variable {P : Program}
structure YInv (M : Mem) (W : World) (xs : List SV) (J : List SV -> (Nat -> Prop) -> World -> Prop) (Jx : World -> Prop) (M' : Mem) (rest : Option (List SV)) (w : World) : Prop where
  mem : M.le M'
  newer : Newer [] W M M'
  holds : Holds M' w
  gb : ∀ g, glbB g = true -> M.cell g 0 ≠ none
  size : W.heap.size <= w.heap.size
  at_ : match rest with
    | some r => ∃ pre O, xs = pre ++ r /\ J pre O w /\ (∀ k, O k -> k < w.heap.size) /\ (∀ b o v, M'.cell b o = some v -> M.cell b o = some v \/ ¬ O b) /\ ∀ b es, M'.map b = some es -> M.map b = some es \/ ¬ O b
    | none => Jx w
variable {M : Mem} {W : World} {xs : List SV} {J : List SV -> (Nat -> Prop) -> World -> Prop} {Jx : World -> Prop}
theorem YInv.step (hJ : ∀ s O A B, J s O A -> Touch [] A B -> J s O B) (hJx : ∀ A B, Jx A -> Touch [] A B -> Jx B) {M' M'' : Mem} {rest : Option (List SV)} {w w' : World} (h : YInv M W xs J Jx M' rest w)
  (hle : M'.le M'') (ht : Touch [] w w') (hn : Newer [] w M' M'') (hh : Holds M'' w') : YInv M W xs J Jx M'' rest w' := by
 refine ⟨Mem.le_trans h.mem hle, ⟨fun b o v hv => ?_, fun b es hv => ?_⟩, hh, h.gb, Nat.le_trans h.size ht.size, ?_⟩
 ·rcases hn.1 b o v hv with h1 | h1 | h1
  ·exact h.newer.1 b o v h1
  ·exact .inr (.inl (Nat.le_trans h.size h1))
  ·exact absurd h1 (Env.nil_has _)
 ·rcases hn.2 b es hv with h1 | h1 | h1
  ·exact h.newer.2 b es h1
  ·exact .inr (.inl (Nat.le_trans h.size h1))
  ·exact absurd h1 (Env.nil_has _)
 ·have := h.at_
  cases rest with
  | some r =>
   obtain ⟨pre, O, h1, h2, h3, h4, h5⟩ := this;refine ⟨pre, O, h1, hJ _ _ _ _ h2 ht, fun k hk => Nat.lt_of_lt_of_le (h3 k hk) ht.size, fun b o v hv => ?_, fun b es hv => ?_⟩
   ·rcases hn.1 b o v hv with h6 | h6 | h6
    ·exact h4 b o v h6
    ·exact .inr fun hO => by have := h3 b hO; omega
    ·exact absurd h6 (Env.nil_has _)
   ·rcases hn.2 b es hv with h6 | h6 | h6
    ·exact h5 b es h6
    ·exact .inr fun hO => by have := h3 b hO; omega
    ·exact absurd h6 (Env.nil_has _)
  | none => exact hJx _ _ this ht
structure YFr (M' : Mem) (fr : List LV) (a : Act) : Prop where
  fr : FRel M' [] fr a.tmps.toList
  nod : a.defers = []
end
section
variable {P : Program} {C : Tab}
end
end Go.E
