/- Functions are borne out by the model. -/
import Derived.Test.YtikfhfgdmlijeaaGreatJ3
import Derived.Laws.Sem
import Derived.RangeFuncLeaves
import Derived.RangeFuncSeq

set_option linter.all false

namespace Go.E
open Go
def resK (H : List ABlock) (fr : List LV) : List ARes -> (List SV -> Prop) -> Prop
 | [], Q => Q []
 | .tmp t :: rs, Q => exO (frz H (fget fr t)) fun v => resK H fr rs fun vs => Q (v :: vs)
 | .cell t n agg :: rs, Q => ldK H n agg (fun u _ _ _ => exO (frz H u) fun v => resK H fr rs fun vs => Q (v :: vs)) (fget fr t)
section
variable {P : Program} {A : Nat -> Obj -> Prop} {dfs : List Deferred} {n0 : Nat} {M0 : Mem} {ρ0 : Env} {w0 : World} {M : Mem} {ρ : Env} {H : List ABlock} {w : World} {a : Act} {k : AK}
theorem qdw {t : TypeId} {g : Bool} {n cb of : Nat} {cs : List SV} {us : List Value} (ha : aggTy P t = some g) (hs : szTy P t = some n) (hc : CRelC M cs (ones us))
  (hw : ∀ j v, us[j]? = some v -> w.cell? ⟨cb, of + j, none⟩ = some v) {off : Nat} (h : partS H cs off n k g) :
  ∃ x v, (loadVar t ⟨cb, of + off, none⟩).run P w = .ok x w /\ LVal M ρ v x /\ k v H none True := by
 have hlen : us.length = cs.length := by have := hc.length; simpa using this
 cases g with
 | true =>
  simp only [partS] at h;have hl : ((us.drop off).take n).length = n := by rw [List.length_take, List.length_drop]; omega
  refine ⟨.agg ((us.drop off).take n).toArray, _, ?_, ?_, h.2⟩
  ·refine qaD ha (by rw [hl]; exact hs) w fun j v hj => ?_
   rw [List.getElem?_take] at hj
   split at hj
   ·rw [List.getElem?_drop] at hj
    have := hw _ v hj;rw [<- Nat.add_assoc] at this;exact this
   ·cases hj
  ·rw [qi]
   exact ⟨(us.drop off).take n, by simp only [CRel, qW, qv]; exact (hc.drop off).take n, rfl⟩
 | false =>
  simp only [partS] at h;unfold exO at h
  split at h
  next c hj =>
   obtain ⟨u, hu, hcu⟩ := hc.get hj;simp only [ones_get?, Option.map_eq_some_iff] at hu;obtain ⟨x, hx, rfl⟩ := hu;exact ⟨x, _, qaE ha w (hw _ _ hx), qi.2 (qj hcu h.1), h.2⟩
  next => cases h
theorem qiL {t : TypeId} {g : Bool} {n cb : Nat} {cs : List LV} {us : List Value} (ha : aggTy P t = some g) (hs : szTy P t = some n) (hc : LRelC M ρ cs (ones us))
  (hw : ∀ j v, us[j]? = some v -> w.cell? ⟨cb, j, none⟩ = some v) {off : Nat} (h : partL H cs off n k g) :
  ∃ x v, (loadVar t ⟨cb, off, none⟩).run P w = .ok x w /\ LVal M ρ v x /\ k v H none True := by
 have hlen : us.length = cs.length := by have := hc.length; simpa using this
 cases g with
 | true =>
  simp only [partL] at h;have hl : ((us.drop off).take n).length = n := by rw [List.length_take, List.length_drop]; omega
  refine ⟨.agg ((us.drop off).take n).toArray, _, ?_, ?_, h.2⟩
  ·refine qaD ha (by rw [hl]; exact hs) w fun j v hj => ?_
   rw [List.getElem?_take] at hj
   split at hj
   ·rw [List.getElem?_drop] at hj
    exact hw _ v hj
   ·cases hj
  ·exact qbJ (by simp only [qW, qv]; exact (hc.drop off).take n)
 | false =>
  simp only [partL] at h;unfold exO at h
  split at h
  next c hj =>
   obtain ⟨u, hu, hcu⟩ := hc.get hj;simp only [ones_get?, Option.map_eq_some_iff] at hu;obtain ⟨x, hx, rfl⟩ := hu;exact ⟨x, _, qaE ha w (hw _ _ hx), qh hcu h.1, h.2⟩
  next => cases h
theorem qlG (hR : SRel M ρ H w) {t : TypeId} {n : Nat} {g : Bool} {v : LV} {y : Value} (ha : aggTy P t = some g) (hs : szTy P t = some n) (hr : LVal M ρ v y) (h : ldK H n g k v) :
  ∃ ad x u, y = .pointer (some ad) /\ (loadVar t ad).run P w = .ok x w /\ LVal M ρ u x /\ k u H none True := by
 unfold ldK at h
 split at h
 next cs =>
  rw [qi] at hr;have h1 := hr.one rfl;simp only [CRel] at h1;obtain ⟨b, of, ws, e, hc, hat⟩ := h1;simp at e;obtain ⟨x, u, h2, h3, h4⟩ := qdw (P := P) (ρ := ρ) (t := t) (off := 0) ha hs hc (hR.at_cells hat) h;exact ⟨_, x, u, e, h2, h3, h4⟩
 next b off =>
  have h1 := hr.one rfl (by simp)
  simp only [LRel] at h1;obtain ⟨cb, sh, m, hρ, e⟩ := h1;simp at e;unfold ldB at h
  split at h
  next cs hb =>
   obtain ⟨r, h2, h3⟩ := hR.spot hb;rw [hρ] at h2; cases h2;simp only [BRel] at h3;obtain ⟨c, T, h4, h5, h6, h7, h8, h9⟩ := h3;subst h7;obtain ⟨x, u, h2, h3, h4⟩ := qiL (P := P) (t := t) (cb := cb) ha hs h8 (fun j v hj => by rw [heap_cell? h4]; simpa using hj) h
   exact ⟨_, x, u, e, by simpa using h2, h3, h4⟩
  next cs hb =>
   obtain ⟨r, h2, h3⟩ := hR.spot hb;rw [hρ] at h2; cases h2;simp only [BRel] at h3;obtain ⟨c, T, h4, h5, h6, h8, h9⟩ := h3;obtain ⟨x, u, h2, h3, h4⟩ := qdw (P := P) (ρ := ρ) (t := t) ha hs h8 (fun j v hj => by rw [heap_cell? h4]; simpa using qG j v hj) h
   exact ⟨_, x, u, e, h2, h3, h4⟩
  next cs hb =>
   obtain ⟨r, h2, h3⟩ := hR.spot hb;rw [hρ] at h2; cases h2;simp only [BRel] at h3;obtain ⟨us, h8, h9⟩ := h3;obtain ⟨x, u, h2, h3, h4⟩ := qdw (P := P) (ρ := ρ) (t := t) ha hs h8 (hR.at_cells h9) h;exact ⟨_, x, u, e, h2, h3, h4⟩
  next => cases h
 next => cases h
def resRun (tmps : Array Value) : ResultVar -> Sem Value
 | .tmp t => pure (tmps.getD t undef)
 | .cell a t => do loadVar t (<- asAddr (tmps.getD a undef))
theorem qb1 (hR : SRel M ρ H w) {fr : List LV} {tmps : Array Value} (hf : FRel M ρ fr tmps.toList) : ∀ {rs : List ARes} {rvs : List ResultVar} {Q : List SV -> Prop}, okRes P rs rvs = true -> resK H fr rs Q ->
  ∃ xs vs, (rvs.mapM (resRun tmps)).run P w = .ok xs w /\ VRelL (M.up ρ w) vs xs /\ Q vs
 | [], [], Q, _, h => ⟨[], [], by simp, rfl, h⟩
 | [], _ :: _, _, h, _ => by simp [okRes] at h
 | _ :: _, [], _, h, _ => by simp [okRes] at h
 | .tmp t :: rs, .cell u ty :: rvs, _, h, _ => by simp [okRes] at h
 | .cell t n g :: rs, .tmp u :: rvs, _, h, _ => by simp [okRes] at h
 | .tmp t :: rs, .tmp u :: rvs, Q, hok, h => by
  simp only [okRes, Bool.and_eq_true, beq_iff_eq] at hok;obtain ⟨rfl, hok⟩ := hok;simp only [resK] at h;obtain ⟨v, e, h⟩ := qd h;obtain ⟨xs, vs, h1, h2, h3⟩ := qb1 hR hf hok h;have hv := qbz hR (hf.fget t) e;rw [List.getD_eq_getElem?_getD, Array.getElem?_toList, <- Array.getD_eq_getD_getElem?] at hv;exact ⟨_ :: xs, v :: vs, by simp [resRun, h1], ⟨_, _, rfl, hv, h2⟩, h3⟩
 | .cell t n g :: rs, .cell u ty :: rvs, Q, hok, h => by
  simp only [okRes, Bool.and_eq_true, Bool.or_eq_true, beq_iff_eq] at hok;obtain ⟨⟨⟨⟨rfl, ha⟩, hs⟩, hg⟩, hok⟩ := hok;simp only [resK] at h;obtain ⟨ad, x, v, e1, e2, hv, h⟩ := qlG hR ha hs (hf.fget t) h;rw [List.getD_eq_getElem?_getD, Array.getElem?_toList, <- Array.getD_eq_getD_getElem?] at e1;obtain ⟨s, e, h⟩ := qd h;obtain ⟨xs, vs, h1, h2, h3⟩ := qb1 hR hf hok h;exact ⟨x :: xs, s :: vs, by simp [resRun, h1, e1, e2, asAddr], ⟨_, _, rfl, qbz hR hv e, h2⟩, h3⟩
theorem qat {fn : Func} {tmps : Array Value} {xs : List Value} (h : (fn.results.toList.mapM (resRun tmps)).run P w = .ok xs w) : (results fn tmps).run P w = .ok (retOf xs) w := by
 have e : results fn tmps = (fn.results.mapM (resRun tmps) >>= fun (vs : Array Value) => pure (if h : vs.size = 1 then vs[0] else .tuple vs)) := rfl
 rw [e, Array.mapM_eq_mapM_toList];simp only [bind_map_left, Sem.run_bind, h]
 cases xs with
 | nil => simp [retOf]
 | cons x xs => cases xs <;> simp [retOf]
theorem VRelL.length : ∀ {vs : List SV} {xs : List Value}, VRelL M vs xs -> xs.length = vs.length
 | [], xs, h => by simp only [VRelL] at h; subst h; rfl
 | v :: vs, xs, h => by obtain ⟨y, ys, rfl, _, h2⟩ := h; simp [h2.length]
theorem qaT : ∀ {vs : List SV} {xs : List Value}, VRelL M vs xs -> FRel M ρ (vs.map .s) xs
 | [], xs, h => h
 | v :: vs, xs, h => by obtain ⟨y, ys, rfl, h1, h2⟩ := h; exact ⟨y, ys, rfl, qi.2 h1, qaT h2⟩
theorem qem : ∀ (n : Nat) (x : Value), FRel M ρ (List.replicate n .any) (List.replicate n x)
 | 0, _ => rfl
 | n + 1, x => ⟨x, _, rfl, qcz, qem n x⟩
theorem SRel.start (h : Holds M w) : SRel M [] [] w := ⟨rfl, fun i B r h => by simp at h, fun i j cb sh n cb' sh' n' _ h => by simp at h, fun i cb sh n h => by simp at h, h.1, h.2⟩
theorem qb2 {args : List LV} {vs : List Value} (h : FRel M ρ args vs) (n : Nat) : FRel M ρ (args ++ List.replicate (n - args.length) .any) (vs.toArray ++ Array.replicate (n - vs.toArray.size) undef).toList := by
 have := h.length;simp only [Array.toList_append, List.toList_toArray, Array.toList_replicate, List.size_toArray, this];exact h.append (qem _ _)
def finK (rs : List ARes) (out : List SV) (e : AExit) (τ : AState) : Prop :=
 match e with
 | .exit _ => False
 | _ => resK τ.hp τ.fr rs fun vs => vs = out
theorem qkd {f : FuncId} {fn : Func} {c : Code} {ac : ACode} {nt : Nat} {rs : List ARes} {args out : List SV} (hf : P.funcs[f]? = some fn) (hb : fn.body = some c) (hok : okCode P nt ac c = true) (hres : okRes P rs fn.results.toList = true)
  (h : awp P 0 ac { fr := args.map .s ++ List.replicate (fn.ntmps - args.length) .any, hp := [] } (finK rs out)) : Fn P f args out := by
 intro M w vs hh hv;refine calls_of_wp hf hb ((wpIn_wide (n := 0)).1 <| qas (A := NoA) (dfs := []) (r := none) (nf := 0) (P := P) (n0 := 0) (ρ0 := []) (M0 := M) (w0 := w) (nt := nt) ac c M [] w _ _ _ _ hok ⟨MInv.start (SRel.start hh), ?_, rfl⟩ h ?_)
 ·have := qb2 (qaT (ρ := []) hv) fn.ntmps
  simpa using this
 ·intro e τ M' ρ' a' w' he hS
  have key : resK τ.hp τ.fr rs (fun vs => vs = out) -> ∃ v, (results fn a'.tmps).run P w' = .ok v w' /\ ∃ xs M'', Ending.returned v = .returned (retOf xs) /\ M.le M'' /\ Holds M'' w' /\ VRelL M'' out xs /\ Touch [] w w' /\ Newer [] w M M'' := by
   intro hk;obtain ⟨xs, vs, h1, h2, rfl⟩ := qb1 hS.inv.rel hS.fr hres hk;refine ⟨retOf xs, qat h1, xs, M'.up ρ' w', rfl, Mem.le_trans hS.inv.mem (Mem.le_up _ _ _), hS.inv.rel.holds_up, h2, hS.inv.touch, fun b o v hv => ?_, fun b es hv => ?_⟩
   ·rcases Mem.up_cell hv with h | ⟨h, _⟩
    ·exact hS.inv.newer.1 b o v h
    ·rcases hS.inv.has_old h with h | h
     ·exact absurd h (Env.nil_has _)
     ·exact .inr (.inl h)
   ·rcases Mem.up_map hv with h | ⟨h, _⟩
    ·exact hS.inv.newer.2 b es h
    ·rcases hS.inv.has_old h with h | h
     ·exact absurd h (Env.nil_has _)
     ·exact .inr (.inl h)
  cases e with
  | normal => exact ⟨hS.nod, key he⟩
  | exit id => exact he.elim
  | ret => exact ⟨hS.nod, key he⟩
def finR (rs : List ARes) (R : List SV -> Prop) (e : AExit) (τ : AState) : Prop :=
 match e with
 | .exit _ => False
 | _ => resK τ.hp τ.fr rs R
end
abbrev ERes := Option (LV × List ABlock × Option Nat)
def stX (H : List ABlock) (n : Nat) (x : LV) : LV -> ERes
 | .loc b off => match H[b]? with
  | some (.obj cs) => x.cells.bind fun xs => if xs.length = n /\ off + n <= cs.length then some (.tup [], H.set b (.obj (splice cs off xs)), none) else none
  | some (.row cs) => (frz [] x).bind fun v => if v.cells.length = n /\ off + n <= cs.length then some (.tup [], H.set b (.row (splice cs off v.cells)), none) else none
  | _ => none
 | _ => none
end Go.E
namespace Go.E
open Go
structure Tab where
  fn : FuncId -> List SV -> Option (List SV)
  nw : FuncId -> Nat -> List LV -> Option (List SV)
  im : FuncId -> List LV -> List ABlock -> Option (LV × List ABlock)
  ok : FuncId -> Bool
structure Tab.Ok (P : Program) (C : Tab) : Prop where
  fn : ∀ f as rs, C.fn f as = some rs -> Fn P f as rs
  nw : ∀ f sz as xs, C.nw f sz as = some xs -> FnNew P f sz as xs
  im : ∀ f args H r H', C.im f args H = some (r, H') -> CSem P f args H r H'
  ok : ∀ f, C.ok f = true -> okFn P f = true
section
variable {P : Program} {C : Tab}
/-! What is reckoned is written out at once: so that it is reckoned once. -/
end
structure FRow where
  code : ACode
  res : List ARes
  nt : Nat
def FRow.Ok (P : Program) (f : FuncId) (r : FRow) : Prop :=
 ∃ fn c, P.funcs[f]? = some fn /\ fn.body = some c /\ okCode P 0 r.code c = true /\ okRes P r.res fn.results.toList = true /\ fn.ntmps = r.nt
def FRow.start (r : FRow) (args : List LV) (H : List ABlock) : AState := { fr := args ++ List.replicate (r.nt - args.length) .any, hp := H }
theorem fn_of_row {P : Program} {f : FuncId} {r : FRow} (hr : r.Ok P f) {args out : List SV} (h : awp P 0 r.code (r.start (args.map .s) []) (finK r.res out)) : Fn P f args out := by
 obtain ⟨fn, c, h1, h2, h3, h4, h5⟩ := hr;refine qkd h1 h2 h3 h4 ?_;rw [h5]
 simpa [FRow.start] using h
def newOf (H : List ABlock) (sz : Nat) (xs : List SV) : LV -> Prop
 | .full [] => xs = []
 | .sl b off len sz' clip => (len = 0 /\ clip = true /\ xs = []) \/ sz = sz' /\ ∃ cs, H[b]? = some (.row cs) /\ xs.length = len /\ xs ≠ [] /\ (flatE xs).length = len * sz /\ off + len * sz <= cs.length /\ flatE xs = (cs.drop off).take (len * sz)
 | _ => False
def finN (rs : List ARes) (sz : Nat) (xs : List SV) (e : AExit) (τ : AState) : Prop :=
 match e with
 | .exit _ => False
 | _ => match rs with
  | [.tmp t] => newOf τ.hp sz xs (fget τ.fr t)
  | _ => False
theorem qm7 {P : Program} {fn : Func} {rs : List ARes} {sz : Nat} {xs : List SV} {M M' : Mem} {ρ' : Env} {w w' : World} {τ : AState} {a' : Act} (h4 : okRes P rs fn.results.toList = true) (hI : MInv NoA 0 M [] w M' ρ' τ.hp w') (hf : FRel M' ρ' τ.fr a'.tmps.toList)
  (hk : finN rs sz xs .ret τ) : ∃ v, (results fn a'.tmps).run P w' = .ok v w' /\ ∃ a cap M'', Ending.returned v = .returned (.slice a xs.length cap) /\ M.le M'' /\ Holds M'' w' /\ Touch [] w w' /\ Newer [] w M M'' /\ xs.length <= cap /\ cap <= maxLen /\ (xs = [] -> cap = 0) /\
   (cap = 0 \/ ∃ cb sh c T, a = some ⟨cb, sh, none⟩ /\ w.heap.size <= cb /\ w'.heap[cb]? = some (.cells c T (0, 0)) /\ sh + cap * sz <= c.size /\ (∀ o, M''.cell cb o = none) /\
    CRelC M'' (flatE xs) (ones ((c.toList.drop sh).take (flatE xs).length))) := by
 cases hrs : rs with
 | nil => simp only [finN, hrs] at hk
 | cons x rest =>
  cases x with
  | cell => simp only [finN, hrs] at hk
  | tmp t =>
   cases rest with
   | cons => simp only [finN, hrs] at hk
   | nil =>
    rw [hrs] at h4
    have hres : fn.results.toList = [.tmp t] := by
     cases hr : fn.results.toList with
     | nil => rw [hr] at h4; simp [okRes] at h4
     | cons y ys =>
      rw [hr] at h4
      cases y with
      | cell => simp [okRes] at h4
      | tmp u =>
       simp only [okRes, Bool.and_eq_true, beq_iff_eq] at h4
       cases ys with
       | nil => rw [h4.1]
       | cons => simp [okRes] at h4
    have hv := hf.fget t;rw [List.getD_eq_getElem?_getD, Array.getElem?_toList, <- Array.getD_eq_getD_getElem?] at hv;simp only [finN, hrs] at hk;unfold newOf at hk
    split at hk
    ·rename_i hg
     subst hk;rw [hg] at hv;have h6 := hv.one rfl (by simp)
     simp only [LRel, CRel] at h6;obtain ⟨ad, n, e1, ad', l', c', e2, hl, _⟩ := h6;rw [e1] at e2;simp only [List.cons.injEq, Value.slice.injEq, and_true, List.length_nil] at e2 hl e1;have hn : n = 0 := by omega
     subst hn;refine ⟨_, qat (xs := [a'.tmps.getD t undef]) (by rw [hres]; simp [resRun]), ad, 0, M', by simp [retOf, e1], hI.mem, hI.rel.holds, hI.touch, hI.newer, Nat.le_refl _, by simp [maxLen], fun _ => rfl, .inl rfl⟩
    ·rename_i b off len sz' clip hg
     rw [hg] at hv
     rcases hk with ⟨rfl, rfl, rfl⟩ | ⟨rfl, cs, hB, hlen, hne, hfl, hfit, hfe⟩
     ·have h6 := hv.one rfl (by simp)
      simp only [LRel] at h6;obtain ⟨sp, ad, cap, h7, h8, e1, h9, h10, h11, h12, h13⟩ := h6;simp only [List.cons.injEq, and_true] at e1;have hc := h12 trivial;subst hc;exact ⟨_, qat (xs := [a'.tmps.getD t undef]) (by rw [hres]; simp [resRun]), ad, 0, M', by simp [retOf, e1], hI.mem, hI.rel.holds, hI.touch, hI.newer, Nat.le_refl _, by simp [maxLen], fun _ => rfl, .inl rfl⟩
     have h6 := hv.one rfl (by simp)
     simp only [LRel] at h6;obtain ⟨sp, ad, cap, h7, h8, e1, h9, h10, h11, h12, h13⟩ := h6;simp only [List.cons.injEq, and_true] at e1;have hxl : xs.length ≠ 0 := fun e => hne (List.length_eq_zero_iff.1 e)
     rcases h13 with h13 | ⟨cb, sh, n, rfl, rfl, h14⟩
     ·omega
     obtain ⟨sp', h15, h16⟩ := hI.rel.spot hB;rw [h7] at h15; cases h15;simp only [BRel] at h16;obtain ⟨ce, T, h17, h18, h19, h20, h21⟩ := h16;refine ⟨_, qat (xs := [a'.tmps.getD t undef]) (by rw [hres]; simp [resRun]), _, cap, M', by simp only [retOf, e1, hlen], hI.mem, hI.rel.holds, hI.touch, hI.newer, by omega, h10, fun e => absurd e hne, .inr ⟨cb, sh + off, ce, T, rfl, (hI.fresh b cb sh n (Nat.zero_le _) h7).resolve_left (Env.nil_has _), h17, by omega, h21, ?_⟩⟩
     rw [hfl, hfe];have := (h20.drop off).take (len * sz);rw [<- qv, <- qW] at this;rw [List.drop_take, List.drop_drop, List.take_take, Nat.min_eq_left (by omega)] at this
     exact this
    ·exact hk.elim
def finG (rs : List ARes) (sz : Nat) (e : AExit) (τ : AState) : Prop :=
 match e with
 | .exit _ => False
 | _ => match rs with
  | [.tmp t] => match fget τ.fr t with
   | .sl b _ len sz' _ => sz = sz' /\ len = 0 /\ ∃ cs, τ.hp[b]? = some (.row cs)
   | _ => False
  | _ => False
theorem qlH {P : Program} {fn : Func} {rs : List ARes} {sz : Nat} {M M' : Mem} {ρ' : Env} {w w' : World} {τ : AState} {a' : Act} (h4 : okRes P rs fn.results.toList = true) (hI : MInv NoA 0 M [] w M' ρ' τ.hp w') (hf : FRel M' ρ' τ.fr a'.tmps.toList)
  (hk : finG rs sz .ret τ) : ∃ v, (results fn a'.tmps).run P w' = .ok v w' /\ ∃ a cap M'', Ending.returned v = .returned (.slice a 0 cap) /\ M.le M'' /\ Holds M'' w' /\ Touch [] w w' /\ Newer [] w M M'' /\ cap <= maxLen /\
   (cap = 0 \/ ∃ cb sh c T, a = some ⟨cb, sh, none⟩ /\ w.heap.size <= cb /\ w'.heap[cb]? = some (.cells c T (0, 0)) /\ sh + cap * sz <= c.size /\ ∀ o, M''.cell cb o = none) := by
 cases hrs : rs with
 | nil => simp only [finG, hrs] at hk
 | cons x rest =>
  cases x with
  | cell => simp only [finG, hrs] at hk
  | tmp t =>
   cases rest with
   | cons => simp only [finG, hrs] at hk
   | nil =>
    rw [hrs] at h4
    have hres : fn.results.toList = [.tmp t] := by
     cases hr : fn.results.toList with
     | nil => rw [hr] at h4; simp [okRes] at h4
     | cons y ys =>
      rw [hr] at h4
      cases y with
      | cell => simp [okRes] at h4
      | tmp u =>
       simp only [okRes, Bool.and_eq_true, beq_iff_eq] at h4
       cases ys with
       | nil => rw [h4.1]
       | cons => simp [okRes] at h4
    have hv := hf.fget t;rw [List.getD_eq_getElem?_getD, Array.getElem?_toList, <- Array.getD_eq_getD_getElem?] at hv;simp only [finG, hrs] at hk
    split at hk
    ·rename_i b off len sz' clip hg
     obtain ⟨rfl, rfl, cs, hB⟩ := hk;rw [hg] at hv;have h6 := hv.one rfl (by simp)
     simp only [LRel] at h6;obtain ⟨sp, ad, cap, h7, h8, e1, h9, h10, h11, h12, h13⟩ := h6;simp only [List.cons.injEq, and_true] at e1;refine ⟨_, qat (xs := [a'.tmps.getD t undef]) (by rw [hres]; simp [resRun]), ad, cap, M', by simp [retOf, e1], hI.mem, hI.rel.holds, hI.touch, hI.newer, h10, ?_⟩
     rcases h13 with h13 | ⟨cb, sh, n, rfl, rfl, h14⟩
     ·exact .inl h13
     ·obtain ⟨sp', h15, h16⟩ := hI.rel.spot hB
      rw [h7] at h15; cases h15;simp only [BRel] at h16;obtain ⟨ce, T, h17, h18, h19, h20, h21⟩ := h16;exact .inr ⟨cb, sh + off, ce, T, rfl, (hI.fresh b cb sh n (Nat.zero_le _) h7).resolve_left (Env.nil_has _), h17, by omega, h21⟩
    ·exact hk.elim
theorem room_of_row {P : Program} {f : FuncId} {r : FRow} (hr : r.Ok P f) {sz : Nat} {args : List LV} (h : awp P 0 r.code (r.start args []) (finG r.res sz)) : FnRoom P f sz args := by
 obtain ⟨fn, c, h1, h2, h3, h4, h5⟩ := hr;intro M w vs hh hv;refine calls_of_wp h1 h2 ((wpIn_wide (n := 0)).1 <| qas (A := NoA) (dfs := []) (r := none) (nf := 0) (P := P) (n0 := 0) (ρ0 := []) (M0 := M) (w0 := w) (nt := 0) r.code c M [] w _ _ _ _ h3 ⟨MInv.start (SRel.start hh), ?_, rfl⟩ h ?_)
 ·have := qb2 hv fn.ntmps
  rw [h5] at this ⊢
  simpa [FRow.start] using this
 ·intro e τ M' ρ' a' w' he hS
  have key : finG r.res sz .ret τ -> _ := fun hk => qlH (w := w) h4 hS.inv hS.fr hk
  cases e with
  | normal => exact ⟨hS.nod, key he⟩
  | exit id => exact he.elim
  | ret => exact ⟨hS.nod, key he⟩
theorem new_of_row {P : Program} {f : FuncId} {r : FRow} (hr : r.Ok P f) {sz : Nat} {args : List LV} {xs : List SV} (h : awp P 0 r.code (r.start args []) (finN r.res sz xs)) : FnNew P f sz args xs := by
 obtain ⟨fn, c, h1, h2, h3, h4, h5⟩ := hr;intro M w vs hh hv;refine calls_of_wp h1 h2 ((wpIn_wide (n := 0)).1 <| qas (A := NoA) (dfs := []) (r := none) (nf := 0) (P := P) (n0 := 0) (ρ0 := []) (M0 := M) (w0 := w) (nt := 0) r.code c M [] w _ _ _ _ h3 ⟨MInv.start (SRel.start hh), ?_, rfl⟩ h ?_)
 ·have := qb2 hv fn.ntmps
  rw [h5] at this ⊢
  simpa [FRow.start] using this
 ·intro e τ M' ρ' a' w' he hS
  have key : finN r.res sz xs .ret τ -> _ := fun hk => qm7 (w := w) h4 hS.inv hS.fr hk
  cases e with
  | normal => exact ⟨hS.nod, key he⟩
  | exit id => exact he.elim
  | ret => exact ⟨hS.nod, key he⟩
theorem qlI {P : Program} {n0 : Nat} {mask : List Bool} {promo : List (Nat × Option Nat × Nat)} {a : ACode} {σ : AState} {Q : AExit -> AState -> Prop} (J : Nat -> AState -> Prop) (m : Nat)
  (h0 : J m (norm mask (promote promo σ).hp.length (promote promo σ)))
  (hs : ∀ (I : AState -> Prop) n τ, J n τ -> (∀ n' τ'', n' < n -> J n' τ'' -> I τ'') -> awp P n0 a τ (fun e τ' => match e with | .normal => I (norm mask (promote promo σ).hp.length τ') | e => Q e τ')) :
  awp P n0 (.loop mask promo a) σ Q := by
 simp only [awp];intro I hI
 have key : ∀ n τ, J n τ -> I τ := by
  intro n
  induction n using Nat.strongRecOn with
  | _ n ih => exact fun τ hJ => hI τ (hs I n τ hJ fun n' τ'' hlt hJ' => ih n' hlt τ'' hJ')
 exact key _ _ h0
def killed (n : Nat) (H : List ABlock) : List ABlock := (H.take n).map (fgtB fun b => decide (n <= b))
def YAt (P : Program) (l : Nat) (x : Value) (A : World) (R : Bool -> World -> Prop) : Prop :=
 ∃ fn tmps assign body, (Instr.yield l #[x]).run P A = .ok (.round l fn tmps assign body) A /\ RoundIn (Fw none) 0 P l fn tmps assign body A fun e B => ∃ b, e = .returned (.bool b) /\ R b B
def Rounds (P : Program) (M : Mem) (W : World) (l : Nat) (xs : List SV) (J : List SV -> (Nat -> Prop) -> World -> Prop) (Jx : World -> Prop) : Prop :=
 ∀ pre v post x O A, xs = pre ++ v :: post -> J pre O A -> Holds M A -> VRel M v x -> YAt P l x A fun b B => A.heap.size <= B.heap.size /\ (∀ k, W.heap.size <= k -> k < A.heap.size -> ¬ O k -> B.heap[k]? = A.heap[k]?) /\ Holds M B /\
  (b = true -> ∃ O', J (pre ++ [v]) O' B /\ ∀ k, O' k -> k < B.heap.size /\ (O k \/ A.heap.size <= k)) /\ (b = false -> Jx B)
def Yields (P : Program) (g : FuncId) (caps xs : List SV) : Prop :=
 ∀ (M : Mem) (W : World) (lb : List Value) (l : Nat) (J : List SV -> (Nat -> Prop) -> World -> Prop) (Jx : World -> Prop), Holds M W -> VRelL M caps lb ->
  (∀ s O A B, J s O A -> Touch [] A B -> J s O B) -> (∀ A B, Jx A -> Touch [] A B -> Jx B) -> Rounds P M W l xs J Jx ->
  J [] (fun _ => False) W -> Calls P g (#[.func (.yield l) #[] #[]] ++ lb.toArray) W fun e W' => (∃ v, e = .returned v) /\ ((∃ O, J xs O W') \/ Jx W')
def OwnOk (W : World) (O : Nat -> Prop) (ρ : Env) : Prop := ∀ k, ρ.has k -> W.heap.size <= k /\ ¬ O k
def OwnNew (O : Nat -> Prop) (A B : World) : Nat -> Prop := fun k => O k \/ (A.heap.size <= k /\ k < B.heap.size)
structure McOk (M : Mem) (W : World) (O : Nat -> Prop) (Mc : Mem) : Prop where
  mem : M.le Mc
  newer : Newer [] W M Mc
  cell : ∀ b o v, Mc.cell b o = some v -> M.cell b o = some v \/ ¬ O b
  map : ∀ b es, Mc.map b = some es -> M.map b = some es \/ ¬ O b
def ZRounds (P : Program) (M : Mem) (W : World) (l : Nat) (xs : List SV) (J : List SV -> (Nat -> Prop) -> Mem -> World -> Prop) (Jx : (Nat -> Prop) -> Mem -> World -> Prop) : Prop :=
 ∀ pre v post x O Mc A, xs = pre ++ v :: post -> J pre O Mc A -> Holds Mc A -> McOk M W O Mc -> (∀ k, O k -> W.heap.size <= k /\ k < A.heap.size) -> W.heap.size <= A.heap.size -> VRel Mc v x ->
  YAt P l x A fun b B => A.heap.size <= B.heap.size /\ (∀ k, W.heap.size <= k -> k < A.heap.size -> ¬ O k -> B.heap[k]? = A.heap[k]?) /\ Holds M B /\ (b = true -> J (pre ++ [v]) (OwnNew O A B) Mc B) /\ (b = false -> Jx (OwnNew O A B) Mc B)
def ZStep (W : World) (J : (Nat -> Prop) -> Mem -> World -> Prop) : Prop :=
 ∀ O Mc Mc' ρ A B, J O Mc A -> Mc.le Mc' -> Holds Mc' B -> Touch ρ A B -> OwnOk W O ρ -> (∀ k, O k -> k < A.heap.size) -> J O Mc' B
def ZYields (P : Program) (g : FuncId) (caps xs : List SV) : Prop :=
 ∀ (M : Mem) (W : World) (lb : List Value) (l : Nat) (J : List SV -> (Nat -> Prop) -> Mem -> World -> Prop) (Jx : (Nat -> Prop) -> Mem -> World -> Prop), Holds M W -> VRelL M caps lb ->
  (∀ s, ZStep W (J s)) -> ZStep W Jx -> ZRounds P M W l xs J Jx ->
  J [] (fun _ => False) M W -> Calls P g (#[.func (.yield l) #[] #[]] ++ lb.toArray) W fun e W' => (∃ v, e = .returned v) /\ ∃ O Mc, J xs O Mc W' \/ Jx O Mc W'
theorem Yields.z {P : Program} {g : FuncId} {caps xs : List SV} (h : Yields P g caps xs) : ZYields P g caps xs := by
 intro M W lb l J Jx hh hv hJ hJx hR h0;have hno : ∀ O, OwnOk W O [] := fun O k hk => absurd hk (by rintro ⟨i, sh, n, hi⟩; simp at hi)
 refine (h M W lb l (fun s O A => J s O M A /\ Holds M A /\ W.heap.size <= A.heap.size /\ ∀ k, O k -> W.heap.size <= k /\ k < A.heap.size) (fun A => ∃ O, Jx O M A /\ Holds M A /\ ∀ k, O k -> k < A.heap.size) hh hv ?_ ?_ ?_ ⟨h0, hh, Nat.le_refl _, fun _ h => h.elim⟩).mono ?_
 ·rintro s O A B ⟨h1, h2, h3, h4⟩ ht
  exact ⟨hJ s O M M [] A B h1 M.le_refl (h2.grow ht) ht (hno O) fun k hk => (h4 k hk).2, h2.grow ht, Nat.le_trans h3 ht.size, fun k hk => ⟨(h4 k hk).1, Nat.lt_of_lt_of_le (h4 k hk).2 ht.size⟩⟩
 ·rintro A B ⟨O, h1, h2, h4⟩ ht
  exact ⟨O, hJx O M M [] A B h1 M.le_refl (h2.grow ht) ht (hno O) h4, h2.grow ht, fun k hk => Nat.lt_of_lt_of_le (h4 k hk) ht.size⟩
 ·rintro pre v post x O A hxs ⟨h1, h2, h3, h4⟩ _ hx
  obtain ⟨fn, tmps, as, body, hrun, hround⟩ := hR pre v post x O M A hxs h1 h2 ⟨M.le_refl, Newer.refl _ _ _, fun _ _ _ h => .inl h, fun _ _ h => .inl h⟩ h4 h3 hx
  refine ⟨fn, tmps, as, body, hrun, RoundIn.mono (n := 0) hround fun e B hB => ?_⟩
  obtain ⟨b, rfl, hsz, hsame, hHB, hb1, hb2⟩ := hB;have hO' : ∀ k, OwnNew O A B k -> k < B.heap.size /\ (O k \/ A.heap.size <= k) := fun k hk => hk.elim (fun hk => ⟨Nat.lt_of_lt_of_le (h4 k hk).2 hsz, .inl hk⟩) fun hk => ⟨hk.2, .inr hk.1⟩
  refine ⟨b, rfl, hsz, hsame, hHB, fun hb => ⟨OwnNew O A B, ⟨hb1 hb, hHB, Nat.le_trans h3 hsz, fun k hk => ⟨?_, (hO' k hk).1⟩⟩, hO'⟩, fun hb => ⟨OwnNew O A B, hb2 hb, hHB, fun k hk => (hO' k hk).1⟩⟩
  rcases hk with hk | hk
  ·exact (h4 k hk).1
  ·exact Nat.le_trans h3 hk.1
 ·rintro e W' ⟨hv, ⟨O, h1, _⟩ | ⟨O, h1, _⟩⟩
  ·exact ⟨hv, O, M, .inl h1⟩
  ·exact ⟨hv, O, M, .inr h1⟩
inductive BCode where
 | code (a : ACode)
 | seq (a b : BCode)
 | cond (x : AX) (a b : BCode)
 | block (id : Nat) (a : BCode)
 | loop (mask : List Bool) (promo : List (Nat × Option Nat × Nat)) (a : BCode)
 | scope (a : BCode)
 | rangeF (mv : Nat) (x : AX) (p : Nat) (as body : ACode)
 | pin (t : Nat) (a : BCode)
 | promo (ps : List (Nat × Option Nat × Nat)) (a : BCode)
def okB (P : Program) (nt : Nat) : BCode -> Code -> Bool
 | .code a, c => okCode P nt a c
 | .seq a b, .seq c d => okB P nt a c && okB P nt b d
 | .cond x a b, .cond y c d => okX x y && okB P nt a c && okB P nt b d
 | .block i a, .block j c => i == j && okB P nt a c
 | .loop _ _ a, .loop c => okB P nt a c
 | .scope a, .scope c => okB P nt a c
 | .rangeF _ x p as body, .rangeFunc g ps as' body' => okX x g && decide (ps = #[p]) && okCode P nt as as' && okCode P nt body body'
 | .pin _ a, c => okB P nt a c
 | .promo _ a, c => okB P nt a c
 | _, _ => false
noncomputable def rngK (P : Program) (n m : Nat) (fr : List LV) (p : Nat) (as body : ACode) (Q : AExit -> List ABlock -> Prop) : List SV -> List ABlock -> Prop
 | [], H => Q .normal H
 | v :: vs, H => awp P m as { fr := fset fr p (.s v), hp := H } fun e σ1 => e = .normal /\ awp P m body σ1 fun e2 σ2 => match e2 with
  | .normal => rngK P n m fr p as body Q vs (killed n σ2.hp)
  | e2 => Q e2 (killed n σ2.hp)
def rangeLK (P : Program) (K : List SV -> Prop) : LV -> Prop
 | .s (.fn g [] caps) => okFn P g = true /\ (caps.map LV.s).all LV.isOne = true /\ ∃ xs, ZYields P g caps xs /\ K xs
 | _ => False
def below (m : Nat) (fr : List LV) : List LV := fgtL (fun b => decide (m <= b)) fr
def pinB (H : List ABlock) (t b : Nat) (fr : List LV) (Q : AState -> Prop) : Option ABlock -> Prop
 | some (.obj cs) => exO (frzAll (frz []) cs) fun vs => Q { fr := fset fr t (.s (.ptr vs)), hp := H.set b (.frz vs) }
 | _ => False
def pinK (σ : AState) (t : Nat) (Q : AState -> Prop) : LV -> Prop
 | .loc b 0 => pinB σ.hp t b σ.fr Q σ.hp[b]?
 | _ => False
noncomputable def bwp (P : Program) (n0 : Nat) : BCode -> AState -> (AExit -> AState -> Prop) -> Prop
 | .code a, σ, Q => awp P n0 a σ Q
 | .seq a b, σ, Q => bwp P n0 a σ fun e τ => match e with
  | .normal => bwp P n0 b τ Q
  | e => Q e τ
 | .cond x a b, σ, Q => condK (bwp P n0 a σ Q) (bwp P n0 b σ Q) (x.ev σ.fr)
 | .block id a, σ, Q => bwp P n0 a σ fun e τ => match e with
  | .exit i => if i = id then Q .normal τ else Q (.exit i) τ
  | e => Q e τ
 | .loop mask promo a, σ, Q => ∀ I : AState -> Prop,
   (∀ τ, bwp P n0 a τ (fun e τ' => match e with | .normal => I (norm mask (promote promo σ).hp.length τ') | e => Q e τ') -> I τ) ->
    I (norm mask (promote promo σ).hp.length (promote promo σ))
 | .scope a, σ, Q => bwp P n0 a σ Q
 | .rangeF mv x p as body, σ, Q => rangeLK P (fun xs => n0 <= σ.hp.length - mv /\ rngK P σ.hp.length (σ.hp.length - mv) (below (σ.hp.length - mv) σ.fr) p as body (fun e H => Q e { fr := below (σ.hp.length - mv) σ.fr, hp := H }) xs σ.hp) (x.ev σ.fr)
 | .pin t a, σ, Q => pinK σ t (fun τ => bwp P n0 a τ Q) (fget σ.fr t)
 | .promo ps a, σ, Q => bwp P n0 a (promote ps σ) Q
def marks (Ds : List Nat) : List Deferred := Ds.map fun D => { target := .collected D, args := #[] }
def AMark (A : Nat -> Obj -> Prop) (Ds : List Nat) : Nat -> Obj -> Prop := fun k o => A k o \/ (k ∈ Ds /\ o = .deferred (some []))
def Mk (w0 : World) (A : Nat -> Obj -> Prop) (Ds : List Nat) : Prop := Ds.Nodup /\ ∀ D ∈ Ds, w0.heap.size <= D /\ ∀ o, ¬ A D o
theorem qfz (A : Nat -> Obj -> Prop) : AMark A [] = A := by funext k o; simp [AMark]
theorem qd7 (A : Nat -> Obj -> Prop) (Ds Es : List Nat) : AMark (AMark A Ds) Es = AMark A (Es ++ Ds) := by
 funext k o
 simp only [AMark, List.mem_append, eq_iff_iff];constructor
 ·rintro ((h | h) | h)
  ·exact .inl h
  ·exact .inr ⟨.inr h.1, h.2⟩
  ·exact .inr ⟨.inl h.1, h.2⟩
 ·rintro (h | ⟨h | h, e⟩)
  ·exact .inl (.inl h)
  ·exact .inr ⟨h, e⟩
  ·exact .inl (.inr ⟨h, e⟩)
theorem qfA (Ds Es : List Nat) (dfs : List Deferred) : marks Es ++ (marks Ds ++ dfs) = marks (Es ++ Ds) ++ dfs := by simp [marks]
theorem Mk.nil {w0 : World} {A : Nat -> Obj -> Prop} : Mk w0 A [] := ⟨List.nodup_nil, by simp⟩
theorem Mk.app {w0 : World} {A : Nat -> Obj -> Prop} {Ds Es : List Nat} (h : Mk w0 A Ds) (k : Mk w0 (AMark A Ds) Es) : Mk w0 A (Es ++ Ds) := by
 refine ⟨?_, fun D hD => ?_⟩
 ·rw [List.nodup_append]
  refine ⟨k.1, h.1, fun x hx y hy e => ?_⟩
  subst e;exact (k.2 x hx).2 (.deferred (some [])) (.inr ⟨hy, rfl⟩)
 ·rcases List.mem_append.1 hD with hD | hD
  ·exact ⟨(k.2 D hD).1, fun o ho => (k.2 D hD).2 o (.inl ho)⟩
  ·exact h.2 D hD
section
variable {P : Program} {A : Nat -> Obj -> Prop} {dfs : List Deferred} {M0 : Mem} {ρ0 : Env} {w0 : World} {M : Mem} {ρ : Env} {H : List ABlock} {w : World} {n0 : Nat}
theorem MInv.other (h : MInv A n0 M0 ρ0 w0 M ρ H w) {l : Nat} {o o' : Obj} (hl : w.heap[l]? = some o) (ho : o.isOther = true) (hn : ¬ ρ.has l) (h0 : w0.heap.size <= l) (hA : ∀ o2, ¬ A l o2) : MInv A n0 M0 ρ0 w0 M ρ H (w.putObj l o') := by
 have hoth : ∀ k, k ≠ l -> (w.putObj l o').heap[k]? = w.heap[k]? := fun k hk => World.putObj_heap_other hk
 have hsz : (w.putObj l o').heap.size = w.heap.size := by simp [World.putObj]
 refine { h with
  rel := ⟨h.rel.len, fun i B r hB hr => BRel.keep (h.rel.blk i B r hB hr) fun cb sh n e => hoth cb fun e2 => hn (by subst e; subst e2; exact ⟨i, sh, n, hr⟩), h.rel.inj, fun i cb sh n hr => by rw [hsz]; exact h.rel.lt i cb sh n hr, fun b off v hv => ?_, fun b es hv => ?_⟩
  touch := ⟨h.touch.os, h.touch.tape, h.touch.output, h.touch.drawn, by rw [hsz]; exact h.touch.size, fun k hk hno => by rw [hoth k (by omega)]; exact h.touch.block k hk hno⟩
  alien := fun k o2 h2 => ?_ }
 ·have h1 := h.rel.cells b off v hv
  have hne : b ≠ l := fun e => by
   subst e;unfold World.cell? at h1;rw [hl] at h1
   cases o <;> simp [Obj.isOther] at ho <;> simp at h1
  rw [cell?_eq (hoth b hne)]; exact h1
 ·have h1 := h.rel.maps b es hv
  have hne : b ≠ l := fun e => by
   subst e;rw [hl] at h1
   cases h1
   simp [Obj.isOther] at ho
  rw [hoth b hne]; exact h1
 ·obtain ⟨h3, h4, h5⟩ := h.alien k o2 h2
  exact ⟨by rw [hoth k (fun e => hA o2 (e ▸ h2))]; exact h3, h4, h5⟩
theorem MInv.more (h : MInv A n0 M0 ρ0 w0 M ρ H w) {A' : Nat -> Obj -> Prop} (hA : ∀ k o, A' k o -> A k o \/ (w.heap[k]? = some o /\ o.isOther = true /\ ¬ ρ.has k)) : MInv A' n0 M0 ρ0 w0 M ρ H w :=
  { h with alien := fun k o ho => (hA k o ho).elim (h.alien k o) id }
theorem Holds.mono {M M' : Mem} (hle : M.le M') (h : Holds M' w) : Holds M w := ⟨fun b o v hv => h.1 b o v (hle.1 b o v hv), fun b es hv => h.2 b es (hle.2 b es hv)⟩
theorem qc5 {ρ : Env} {M : Mem} {H : List ABlock} (h : SRel M ρ H w) {l : Nat} (hl : w.heap.size <= l) : ¬ ρ.has l := by
 rintro ⟨i, sh, n, hi⟩;have := h.lt i l sh n hi;omega
theorem MInv.agree (h : MInv A n0 M0 ρ0 w0 M ρ H w) {j : Nat} (hj : j < n0) : ρ[j]? = ρ0[j]? := by
 have hl := h.nle;have hg : ρ0[j]? = some ρ0[j] := List.getElem?_eq_getElem (by omega)
 by_cases hgone : ρ0[j] = .gone
 ·rw [hg]; rw [hgone] at hg ⊢; exact h.gon j (by omega) hg
 ·rw [h.env j _ hj hgone hg, hg]
theorem FRel.below (h : MInv A n0 M0 ρ0 w0 M ρ H w) {fr : List LV} {xs : List Value} (hf : FRel M0 ρ0 fr xs) : FRel M ρ (below n0 fr) xs := by
 unfold Go.E.below;rw [qae];refine FRel.map _ (fun v x hv => (hv.mono h.mem (Env.le_refl _)).fgt (fun j hj => h.agree (by simpa using hj))) hf
def AWith (A : Nat -> Obj -> Prop) (l : Nat) (o : Obj) : Nat -> Obj -> Prop := fun k o' => A k o' \/ (k = l /\ o' = o)
def _root_.Go.E.Mem.join (M N : Mem) : Mem := ⟨fun b o => (M.cell b o).or (N.cell b o), fun b => (M.map b).or (N.map b)⟩
theorem _root_.Go.E.Mem.le_join {M N : Mem} : M.le (M.join N) := ⟨fun b o v h => by simp [Mem.join, h], fun b es h => by simp [Mem.join, h]⟩
theorem _root_.Go.E.Mem.join_cell {M N : Mem} {b o : Nat} {v : Value} (h : (M.join N).cell b o = some v) : M.cell b o = some v \/ N.cell b o = some v := by
 simp only [Mem.join] at h
 cases hm : M.cell b o with
 | none => rw [hm] at h; exact .inr (by simpa using h)
 | some u => rw [hm] at h; exact .inl (by simpa using h)
theorem _root_.Go.E.Mem.join_map {M N : Mem} {b : Nat} {es : Ents} (h : (M.join N).map b = some es) : M.map b = some es \/ N.map b = some es := by
 simp only [Mem.join] at h
 cases hm : M.map b with
 | none => rw [hm] at h; exact .inr (by simpa using h)
 | some u => rw [hm] at h; exact .inl (by simpa using h)
theorem _root_.Go.E.Mem.join_le {M N : Mem} {w : World} (h : Holds M w) (k : Holds N w) : N.le (M.join N) := by
 refine ⟨fun b o v hv => ?_, fun b es hv => ?_⟩
 ·cases hm : M.cell b o with
  | none => simp [Mem.join, hm, hv]
  | some u =>
   have h1 := h.1 b o u hm;rw [k.1 b o v hv] at h1
   cases h1
   exact Mem.le_join.1 b o v hm
 ·cases hm : M.map b with
  | none => simp [Mem.join, hm, hv]
  | some u =>
   have h1 := h.2 b u hm;rw [k.2 b es hv] at h1
   have h2 : es = u := by
    injection h1 with h1
    injection h1 with h3 h4
    exact Prod.ext h3 h4
   subst h2;exact Mem.le_join.2 b es hm
theorem MInv.foreign {w' : World} (h : MInv A n0 M0 ρ0 w0 M ρ H w) {ρc : Env} (ht : Touch ρc w w') (hc : ∀ k, ρc.has k -> w0.heap.size <= k /\ ¬ ρ.has k) (hal : ∀ k o, A k o -> ¬ ρc.has k) (hh : Holds M w') : MInv A n0 M0 ρ0 w0 M ρ H w' := by
 have hsame : ∀ k, ρ.has k -> w'.heap[k]? = w.heap[k]? := fun k ⟨i, sh, n, hi⟩ => ht.block k (h.rel.lt i k sh n hi) fun hk => (hc k hk).2 ⟨i, sh, n, hi⟩
 exact { h with
  rel := ⟨h.rel.len, fun i B r hB hr => BRel.keep (h.rel.blk i B r hB hr) fun cb sh n e => hsame cb ⟨i, sh, n, by rw [hr, e]⟩, h.rel.inj, fun i cb sh n hi => Nat.lt_of_lt_of_le (h.rel.lt i cb sh n hi) ht.size, hh.1, hh.2⟩
  touch := ⟨ht.os.trans h.touch.os, ht.tape.trans h.touch.tape, ht.output.trans h.touch.output, Nat.le_trans h.touch.drawn ht.drawn, Nat.le_trans h.touch.size ht.size, fun k hk hn => by
   rw [ht.block k (Nat.lt_of_lt_of_le hk h.touch.size) fun h1 => by have := (hc k h1).1; omega]
   exact h.touch.block k hk hn⟩
  alien := fun k o ho => by
   obtain ⟨h1, h2, h3⟩ := h.alien k o ho;exact ⟨by rw [ht.block k (Array.getElem?_eq_some_iff.1 h1).1 (hal k o ho)]; exact h1, h2, h3⟩ }
theorem MInv.join (h : MInv A n0 M0 ρ0 w0 M ρ H w) {Mc : Mem} (hh : Holds Mc w) (hle : Mc.le (M.join Mc)) (hn : Newer ρ0 w0 M0 Mc) (hc : ∀ b, ρ.has b -> ∀ o v, Mc.cell b o = some v -> M.cell b o = some v) (hm : ∀ b, ρ.has b -> ∀ es, Mc.map b = some es -> M.map b = some es) : MInv A n0 M0 ρ0 w0 (M.join Mc) ρ H w :=
  { h with
    rel := ⟨h.rel.len, fun i B r hB hr => BRel.mono (h.rel.blk i B r hB hr) Mem.le_join (Env.le_refl _) fun cb sh n e => ⟨fun o ho => (by
        have hb : ρ.has cb := ⟨i, sh, n, by rw [hr, e]⟩
        cases hx : (M.join Mc).cell cb o with
        | none => rfl
        | some v =>
          rcases Mem.join_cell hx with h1 | h1
          · rw [ho] at h1; cases h1
          · rw [hc cb hb o v h1] at ho; cases ho), fun ho => (by
        have hb : ρ.has cb := ⟨i, sh, n, by rw [hr, e]⟩
        cases hx : (M.join Mc).map cb with
        | none => rfl
        | some es =>
          rcases Mem.join_map hx with h1 | h1
          · rw [ho] at h1; cases h1
          · rw [hm cb hb es h1] at ho; cases ho)⟩, h.rel.inj, h.rel.lt,
      fun b o v hv => (Mem.join_cell hv).elim (h.rel.cells b o v) (hh.1 b o v), fun b es hv => (Mem.join_map hv).elim (h.rel.maps b es) (hh.2 b es)⟩
    mem := Mem.le_trans h.mem Mem.le_join
    newer := ⟨fun b o v hv => (Mem.join_cell hv).elim (h.newer.1 b o v) (hn.1 b o v), fun b es hv => (Mem.join_map hv).elim (h.newer.2 b es) (hn.2 b es)⟩ }
theorem qhB {nt nf p m : Nat} {g : Operand} {as body : ACode} {as' body' : Code} {a : Act} {fr : List LV} {gf : FuncId} {caps xs : List SV} {Q : Exit -> Act -> World -> Prop} {QB : AExit -> List ABlock -> Prop}
  (hok1 : okCode P nt as as' = true) (hok2 : okCode P nt body body' = true) (hS : SRel M ρ H w) (hA : ∀ k o, A k o -> w.heap[k]? = some o /\ o.isOther = true /\ ¬ ρ.has k) (hf : FRel M ρ fr a.tmps.toList)
  (hfn : okFn P gf = true) (hone : (caps.map LV.s).all LV.isOne = true) (hg : LVal M ρ (.s (.fn gf [] caps)) (a.eval g)) (hY : ZYields P gf caps xs)
  (hm : m <= H.length) (h : rngK P H.length m (below m fr) p as body QB xs H)
  (hQ : ∀ e H' M' ρ' W D, QB e H' -> w.heap.size <= D -> MInv (AWith A D (.deferred (some []))) m M ρ w M' ρ' H' W -> Q (exitOf e) { a with defers := { target := .collected D, args := #[] } :: a.defers } W) :
  (Code.rangeFunc g #[p] as' body').wpIn (Fw none) nf P Q a w := by
 have hg1 := (qi.1 hg).one rfl;simp only [CRel] at hg1;obtain ⟨fs, cs, eg, hfs, hcs⟩ := hg1
 have hfs' : fs = [] := by
  cases fs with
  | nil => rfl
  | cons x fs => simp [ones, CRelC] at hfs
 subst hfs';have eg' : a.eval g = .func (.func gf) #[] cs.toArray := by simpa using eg
 have hlb : VRelL M caps cs := by
  have := q8 (ρ := ρ) (qO.2 hcs) hone
  have key : ∀ (caps : List SV) (cs : List Value), FRel M ρ (caps.map .s) cs -> VRelL M caps cs := by
   intro caps
   induction caps with
   | nil => intro cs h; simpa [FRel, VRelL] using h
   | cons c caps ih =>
    intro cs h;obtain ⟨y, ys, rfl, h1, h2⟩ := h;exact ⟨y, ys, rfl, qi.1 h1, ih ys h2⟩
  exact key caps cs this
 obtain ⟨fn0, hf1, hf2, hf3⟩ := qgh hfn
 have ecall : ∀ args w, (callFunc gf args).run P w = .ok (.enter gf args) w := fun args w => by
  have h3' : ¬ fn0.name = "runtime.NumGoroutine" := by simpa using hf3
  have h2' : ¬ fn0.body = none := fun e => by rw [e] at hf2; cases hf2
  simp [callFunc, run_program, hf1, h2', h3']
 have hn : ρ.length = H.length := hS.len;refine wpIn_rangeFunc ?_;intro fn _;obtain ⟨rec, hrec⟩ : ∃ rec : LoopState -> Option Code -> Loop, rec = fun st pe => { state := st, pending := pe, fn, tmps := a.tmps, params := #[p], assign := as', body := body', defers := w.heap.size } := ⟨_, rfl⟩
 obtain ⟨W1, hW1⟩ : ∃ W1, (w.alloc (.deferred (some []))).alloc (.loop (rec .ready none)) = W1 := ⟨_, rfl⟩
 have hL1 : W1.heap[w.heap.size + 1]? = some (.loop (rec .ready none)) := by
  rw [<- hW1]; have := World.alloc_heap_new (w.alloc (.deferred (some []))) (.loop (rec .ready none)); rwa [World.size_alloc] at this
 have hK1 : W1.heap[w.heap.size]? = some (.deferred (some [])) := by
  rw [<- hW1]; exact (RowKit.Below.heap_alloc _ _ _ (by simp)).trans (World.alloc_heap_new w _)
 have ht1 : Touch [] w W1 := by rw [<- hW1]; exact (qm w _).trans (qm _ _)
 have hI1 := (MInv.startA hS hA (n0 := m) (by omega)).grow M.le_refl ht1 (Newer.refl _ _ _) (hS.holds.grow ht1)
 have hnD : ¬ ρ.has w.heap.size := qc5 hS (Nat.le_refl _);have hnL : ¬ ρ.has (w.heap.size + 1) := qc5 hS (by omega)
 have hAD : ∀ o2, ¬ AWith A w.heap.size (.deferred (some [])) (w.heap.size + 1) o2 := fun o2 h2 => by
  rcases h2 with h2 | ⟨h2, _⟩
  ·have := (Array.getElem?_eq_some_iff.1 (hA _ o2 h2).1).1; omega
  ·omega
 have hI2 : MInv (AWith A w.heap.size (.deferred (some []))) m M ρ w M ρ H W1 := hI1.more fun k o ho => by
  rcases ho with ho | ⟨rfl, rfl⟩
  ·exact .inl ho
  ·exact .inr ⟨hK1, rfl, hnD⟩
 have hW1s : W1.heap.size = w.heap.size + 2 := by rw [<- hW1]; simp
 have far : ∀ {M' : Mem} {ρ' : Env} {H' : List ABlock} {O : Nat -> Prop} {Mc Mc' : Mem} {ρc : Env} {B C : World}, MInv (AWith A w.heap.size (.deferred (some []))) m M ρ w M' ρ' H' B -> (∀ k, ρ'.has k -> W1.heap.size <= k -> O k) -> (∀ b o v, M'.cell b o = some v -> Mc.cell b o = some v \/ O b \/ b < W1.heap.size) ->
   (∀ b es, M'.map b = some es -> Mc.map b = some es \/ O b \/ b < W1.heap.size) -> Mc.le Mc' -> Holds Mc' C -> Touch ρc B C -> OwnOk W1 O ρc -> (∀ k, O k -> k < B.heap.size) ->
   MInv (AWith A w.heap.size (.deferred (some []))) m M ρ w M' ρ' H' C /\ ∀ k, k < B.heap.size -> k < W1.heap.size -> C.heap[k]? = B.heap[k]? := by
  intro M' ρ' H' O Mc Mc' ρc B C h4 h9 h10 h11 hle hh ht hc hO
  have hlow : ∀ k, k < B.heap.size -> k < W1.heap.size -> C.heap[k]? = B.heap[k]? := fun k h1 h2 => ht.block k h1 fun hk => by
   have := (hc k hk).1; omega
  have hown : ∀ k, k < B.heap.size -> O k -> C.heap[k]? = B.heap[k]? := fun k h1 h2 => ht.block k h1 fun hk => (hc k hk).2 h2
  refine ⟨h4.foreign ht (fun k hk => ⟨?_, fun h => ?_⟩) (fun k o ho hk => ?_) ⟨fun b o v hv => ?_, fun b es hv => ?_⟩, hlow⟩
  ·have := (hc k hk).1; omega
  ·have h1 := hc k hk
   exact h1.2 (h9 k h h1.1)
  ·have h1 := (hc k hk).1
   rcases ho with ho | ⟨ho, _⟩
   ·have := (Array.getElem?_eq_some_iff.1 (hA k o ho).1).1
    omega
   ·omega
  ·have hb := World.block_lt_of_cell? B _ (h4.rel.cells b o v hv)
   rcases h10 b o v hv with h | h | h
   ·exact hh.1 b o v (hle.1 b o v h)
   ·rw [cell?_eq (hown b hb h)]; exact h4.rel.cells b o v hv
   ·rw [cell?_eq (hlow b hb h)]; exact h4.rel.cells b o v hv
  ·have h12 := h4.rel.maps b es hv
   have hb := (Array.getElem?_eq_some_iff.1 h12).1
   rcases h11 b es hv with h | h | h
   ·exact hh.2 b es (hle.2 b es h)
   ·rw [hown b hb h]; exact h12
   ·rw [hlow b hb h]; exact h12
 refine ⟨w.heap.size + 1, [{ target := .collected w.heap.size, args := #[] }], W1, { target := .fn (.func gf) cs.toArray, args := #[.func (.yield (w.heap.size + 1)) #[] #[]] }, W1, gf,
  #[.func (.yield (w.heap.size + 1)) #[] #[]] ++ cs.toArray, W1, ?_, ?_, fun _ _ => trivial, ?_, fun h => (by cases h), ?_⟩
 ·rw [<- hW1, hrec]; exact run_enterLoop_outer _ _ _ _ _
 ·simp only [resolve, eg']
  simp [go_sem]
 ·simp [invoke, go_sem, ecall]
 ·refine qcP.2 ?_
  refine Calls.mono (hY M W1 cs (w.heap.size + 1)
   (fun s O Mc W => ∃ vs H' M' ρ', xs = s ++ vs /\ rngK P H.length m (below m fr) p as body QB vs H' /\ MInv (AWith A w.heap.size (.deferred (some []))) m M ρ w M' ρ' H' W /\ ¬ ρ'.has (w.heap.size + 1) /\ W.heap[w.heap.size + 1]? = some (.loop (rec .ready none)) /\ ρ'.length = ρ.length /\ (∀ k, ρ'.has k -> W1.heap.size <= k -> O k) /\
    (∀ b o v, M'.cell b o = some v -> Mc.cell b o = some v \/ O b \/ b < W1.heap.size) /\ ∀ b es, M'.map b = some es -> Mc.map b = some es \/ O b \/ b < W1.heap.size)
   (fun O Mc W => ∃ e c H' M' ρ', QB e H' /\ ((e = .ret /\ c = .ret) \/ ∃ i, e = .exit i /\ c = .exit i) /\ MInv (AWith A w.heap.size (.deferred (some []))) m M ρ w M' ρ' H' W /\ ¬ ρ'.has (w.heap.size + 1) /\ W.heap[w.heap.size + 1]? = some (.loop (rec .done (some c))) /\ (∀ k, ρ'.has k -> W1.heap.size <= k -> O k) /\
    (∀ b o v, M'.cell b o = some v -> Mc.cell b o = some v \/ O b \/ b < W1.heap.size) /\ ∀ b es, M'.map b = some es -> Mc.map b = some es \/ O b \/ b < W1.heap.size)
   hI2.rel.holds hlb ?_ ?_ ?_ ⟨xs, H, M, ρ, rfl, h, hI2, hnL, hL1, rfl, fun k ⟨i, sh, n, hi⟩ hk => by
    have := hS.lt i k sh n hi;have := ht1.size;omega, fun _ _ _ h => .inl h, fun _ _ h => .inl h⟩) ?_
  ·rintro s O Mc Mc' ρc B C ⟨vs, H', M', ρ', h1, h2, h4, h6, h7, h8, h9, h10, h11⟩ hle hh ht hc hO
   obtain ⟨f1, f2⟩ := far h4 h9 h10 h11 hle hh ht hc hO;exact ⟨vs, H', M', ρ', h1, h2, f1, h6, by rw [f2 _ (Array.getElem?_eq_some_iff.1 h7).1 (by omega)]; exact h7, h8, h9, fun b o v hv => (h10 b o v hv).imp (hle.1 b o v) id, fun b es hv => (h11 b es hv).imp (hle.2 b es) id⟩
  ·rintro O Mc Mc' ρc B C ⟨e, c, H', M', ρ', h1, h2, h4, h6, h7, h9, h10, h11⟩ hle hh ht hc hO
   obtain ⟨f1, f2⟩ := far h4 h9 h10 h11 hle hh ht hc hO;exact ⟨e, c, H', M', ρ', h1, h2, f1, h6, by rw [f2 _ (Array.getElem?_eq_some_iff.1 h7).1 (by omega)]; exact h7, h9, fun b o v hv => (h10 b o v hv).imp (hle.1 b o v) id, fun b es hv => (h11 b es hv).imp (hle.2 b es) id⟩
  ·-- a round
   rintro pre v post x O Mc W hxs ⟨vs, H', M1, ρ', h1, h2, h41, h6, h7, h8, hO, hc1, hc2⟩ hHW hMc hOlt hWW hvx;have hvs : vs = v :: post := by rw [hxs] at h1; exact (List.append_cancel_left h1).symm
   subst hvs;obtain ⟨M', hM', hle1, hle2⟩ : ∃ M', M' = M1.join Mc /\ M1.le M' /\ Mc.le M' := ⟨_, rfl, Mem.le_join, Mem.join_le h41.rel.holds hHW⟩
   have h4 : MInv (AWith A w.heap.size (.deferred (some []))) m M ρ w M' ρ' H' W := by
    subst hM';refine h41.join hHW hle2 ⟨fun b o v hv => ?_, fun b es hv => ?_⟩ (fun b hb o v hv => ?_) (fun b hb es hv => ?_)
    ·rcases hMc.newer.1 b o v hv with h | h | h
     ·exact .inl h
     ·exact .inr (.inl (by omega))
     ·exact absurd h (Env.nil_has _)
    ·rcases hMc.newer.2 b es hv with h | h | h
     ·exact .inl h
     ·exact .inr (.inl (by omega))
     ·exact absurd h (Env.nil_has _)
    ·by_cases hlt : W1.heap.size <= b
     ·rcases hMc.cell b o v hv with h | h
      ·exact h41.mem.1 b o v h
      ·exact absurd (hO b hb hlt) h
     ·rcases hMc.newer.1 b o v hv with h | h | h
      ·exact h41.mem.1 b o v h
      ·exact absurd h hlt
      ·exact absurd h (Env.nil_has _)
    ·by_cases hlt : W1.heap.size <= b
     ·rcases hMc.map b es hv with h | h
      ·exact h41.mem.2 b es h
      ·exact absurd (hO b hb hlt) h
     ·rcases hMc.newer.2 b es hv with h | h | h
      ·exact h41.mem.2 b es h
      ·exact absurd h hlt
      ·exact absurd h (Env.nil_has _)
   have hj1 : ∀ b o v, M'.cell b o = some v -> Mc.cell b o = some v \/ O b \/ b < W1.heap.size := fun b o v hv => by
    subst hM'
    rcases Mem.join_cell hv with h | h
    ·exact hc1 b o v h
    ·exact .inl h
   have hj2 : ∀ b es, M'.map b = some es -> Mc.map b = some es \/ O b \/ b < W1.heap.size := fun b es hv => by
    subst hM'
    rcases Mem.join_map hv with h | h
    ·exact hc2 b es h
    ·exact .inl h
   have hvx := hvx.mono hle2;have hy := run_yield (P := P) (args := #[x]) h7 (by rw [hrec]; rfl)
   rw [hrec] at hy;refine ⟨fn, _, as', body', hy, ?_⟩;simp only [rngK] at h2;refine roundIn_of_wpIn trivial ?_
   show as'.wpIn (Fw (some (w.heap.size + 1))) 0 P _ _ W
   refine qas (A := AWith (AWith A w.heap.size (.deferred (some []))) (w.heap.size + 1) (.loop (rec .ready none))) (dfs := []) (n0 := m) (M0 := M') (ρ0 := ρ') (w0 := W) as as' M' ρ' W _ _ _ _ hok1 ⟨MInv.startA h4.rel (fun k o ho => ?_) (by omega), ?_, rfl⟩ h2 ?_
   ·rcases ho with ho | ⟨rfl, rfl⟩
    ·exact h4.alien k o ho
    ·exact ⟨h7, rfl, h6⟩
   ·have := (FRel.below h4 hf).fset p (v := .s v) (x := x) (qi.2 hvx)
    simpa using this
   ·rintro e τ M2 ρ2 a2 W2 ⟨rfl, hb⟩ hS2
    have hl2 := hS2.inv.alien (w.heap.size + 1) _ (.inr ⟨rfl, rfl⟩);refine ⟨_, run_beginRound hl2.1 (by rw [hrec]), ?_⟩
    show body'.wpIn (Fw (some (w.heap.size + 1))) 0 P _ _ _
    have hbusy : ((W2.putObj (w.heap.size + 1) (.loop { rec .ready none with state := .busy }))).heap[w.heap.size + 1]? = some (.loop { rec .ready none with state := .busy }) := World.putObj_heap_same (Array.getElem?_eq_some_iff.1 hl2.1).1;have hb0 : MInv (AWith A w.heap.size (.deferred (some []))) m M ρ w M2 ρ2 τ.hp W2 := h4.trans hS2.inv (Nat.le_refl _);have hb1 := hb0.other (o' := .loop { rec .ready none with state := .busy }) hl2.1 rfl hl2.2.2 (by omega) hAD
    refine qas (A := AWith (AWith A w.heap.size (.deferred (some []))) (w.heap.size + 1) (.loop { rec .ready none with state := .busy })) (dfs := []) (n0 := m) (M0 := M2) (ρ0 := ρ2) (w0 := W2.putObj (w.heap.size + 1) (.loop { rec .ready none with state := .busy })) body body' M2 ρ2 _ a2 τ _ _ hok2 ⟨MInv.startA hb1.rel (fun k o ho => ?_) (Nat.le_trans hb1.nle hb1.len), hS2.fr, hS2.nod⟩ hb ?_
    ·rcases ho with ho | ⟨rfl, rfl⟩
     ·exact hb1.alien k o ho
     ·exact ⟨hbusy, rfl, hl2.2.2⟩
    ·intro e3 τ3 M3 ρ3 a3 W3 hq hS3
     have hl3 := hS3.inv.alien (w.heap.size + 1) _ (.inr ⟨rfl, rfl⟩);have hc0 : MInv (AWith A w.heap.size (.deferred (some []))) m M ρ w M3 ρ3 τ3.hp W3 := hb1.trans hS3.inv (Nat.le_refl _)
     have hkeep : ∀ (o' : Obj) k, W1.heap.size <= k -> k < W.heap.size -> ¬ O k -> (W3.putObj (w.heap.size + 1) o').heap[k]? = W.heap[k]? := fun o' k hk1 hk2 hk3 => by
      have hnk : ¬ ρ'.has k := fun h => hk3 (hO k h hk1)
      have hkl : k ≠ w.heap.size + 1 := by omega
      have hs2 := hS2.inv.touch.size;rw [World.putObj_heap_other hkl, hS3.inv.touch.block k (by simp [World.putObj]; omega) (fun h => ?_), World.putObj_heap_other hkl, hS2.inv.touch.block k hk2 hnk]
      rcases hS2.inv.has_old h with h | h
      ·exact hnk h
      ·omega
     have hsz3 : ∀ (o' : Obj), W.heap.size <= (W3.putObj (w.heap.size + 1) o').heap.size := fun o' => by
      have h9 := hS3.inv.touch.size;have h10 := hS2.inv.touch.size;simp [World.putObj] at h9 ⊢;omega
     have htl : (ρ3.take H.length).length = ρ.length := by
      have h9 := hS3.inv.len;have h10 := hS2.inv.len;simp only [List.length_take];omega
     have fin : ∀ jump : Option Code, (Instr.endRound (w.heap.size + 1) jump).run P W3 = .ok (.bool jump.isNone) (W3.putObj (w.heap.size + 1) (.loop (rec (if jump.isNone then .ready else .done) jump))) /\
       MInv (AWith A w.heap.size (.deferred (some []))) m M ρ w M3 (ρ3.take H.length) (killed H.length τ3.hp) (W3.putObj (w.heap.size + 1) (.loop (rec (if jump.isNone then .ready else .done) jump))) /\
       ¬ Env.has (ρ3.take H.length) (w.heap.size + 1) /\ (W3.putObj (w.heap.size + 1) (.loop (rec (if jump.isNone then .ready else .done) jump))).heap[w.heap.size + 1]? = some (.loop (rec (if jump.isNone then .ready else .done) jump)) := fun jump => by
      have hr := run_endRound (P := P) jump hl3.1;rw [hrec] at hr ⊢;refine ⟨hr, (hc0.other hl3.1 rfl hl3.2.2 (by omega) hAD).cut (by omega), ?_, World.putObj_heap_same (Array.getElem?_eq_some_iff.1 hl3.1).1⟩
      rintro ⟨i, sh, m, hi⟩;rw [List.getElem?_take] at hi
      split at hi
      ·exact hl3.2.2 ⟨i, sh, m, hi⟩
      ·cases hi
     have hown : ∀ (o' : Obj) k, (Env.has (ρ3.take H.length) k) -> W1.heap.size <= k -> OwnNew O W (W3.putObj (w.heap.size + 1) o') k := fun o' k ⟨i, sh, n, hi⟩ hk => by
      rw [List.getElem?_take] at hi
      split at hi
      ·have hlt := hS3.inv.rel.lt i k sh n hi
       have hlt2 : k < (W3.putObj (w.heap.size + 1) o').heap.size := by simp [World.putObj]; exact hlt
       rcases hS3.inv.has_old ⟨i, sh, n, hi⟩ with h5 | h5
       ·rcases hS2.inv.has_old h5 with h5 | h5
        ·exact .inl (hO k h5 hk)
        ·exact .inr ⟨h5, hlt2⟩
       ·have h9 := hS2.inv.touch.size
        exact .inr ⟨by simp [World.putObj] at h5; omega, hlt2⟩
      ·cases hi
     have hown2 : ∀ (o' : Obj) k, ρ'.has k -> O k \/ k < W1.heap.size := fun o' k h => by
      by_cases hk : W1.heap.size <= k
      ·exact .inl (hO k h hk)
      ·exact .inr (by omega)
     have hcl : ∀ (o' : Obj) b o v, M3.cell b o = some v -> Mc.cell b o = some v \/ OwnNew O W (W3.putObj (w.heap.size + 1) o') b \/ b < W1.heap.size := fun o' b o v hv => by
      have hlt : b < W3.heap.size := World.block_lt_of_cell? W3 _ (hS3.inv.rel.cells b o v hv);have hlt2 : b < (W3.putObj (w.heap.size + 1) o').heap.size := by simp [World.putObj]; exact hlt
      have h9 := hS2.inv.touch.size;have up : W.heap.size <= b -> Mc.cell b o = some v \/ OwnNew O W (W3.putObj (w.heap.size + 1) o') b \/ b < W1.heap.size := fun h => .inr (.inl (.inr ⟨h, hlt2⟩))
      have two : ρ2.has b -> Mc.cell b o = some v \/ OwnNew O W (W3.putObj (w.heap.size + 1) o') b \/ b < W1.heap.size := fun h => by
       rcases hS2.inv.has_old h with h | h
       ·exact .inr ((hown2 o' b h).imp .inl id)
       ·exact up h
      rcases hS3.inv.newer.1 b o v hv with h | h | h
      ·rcases hS2.inv.newer.1 b o v h with h | h | h
       ·exact (hj1 b o v h).imp id fun h => h.imp .inl id
       ·exact up h
       ·exact .inr ((hown2 o' b h).imp .inl id)
      ·exact up (by simp [World.putObj] at h; omega)
      ·exact two h
     have hcm : ∀ (o' : Obj) b es, M3.map b = some es -> Mc.map b = some es \/ OwnNew O W (W3.putObj (w.heap.size + 1) o') b \/ b < W1.heap.size := fun o' b es hv => by
      have hlt : b < W3.heap.size := (Array.getElem?_eq_some_iff.1 (hS3.inv.rel.maps b es hv)).1;have hlt2 : b < (W3.putObj (w.heap.size + 1) o').heap.size := by simp [World.putObj]; exact hlt
      have h9 := hS2.inv.touch.size;have up : W.heap.size <= b -> Mc.map b = some es \/ OwnNew O W (W3.putObj (w.heap.size + 1) o') b \/ b < W1.heap.size := fun h => .inr (.inl (.inr ⟨h, hlt2⟩))
      have two : ρ2.has b -> Mc.map b = some es \/ OwnNew O W (W3.putObj (w.heap.size + 1) o') b \/ b < W1.heap.size := fun h => by
       rcases hS2.inv.has_old h with h | h
       ·exact .inr ((hown2 o' b h).imp .inl id)
       ·exact up h
      rcases hS3.inv.newer.2 b es hv with h | h | h
      ·rcases hS2.inv.newer.2 b es h with h | h | h
       ·exact (hj2 b es h).imp id fun h => h.imp .inl id
       ·exact up h
       ·exact .inr ((hown2 o' b h).imp .inl id)
      ·exact up (by simp [World.putObj] at h; omega)
      ·exact two h
     cases e3 with
     | normal =>
      obtain ⟨f1, f2, f3, f4⟩ := fin none;exact ⟨_, _, f1, true, rfl, hsz3 _, hkeep _, f2.rel.holds.mono f2.mem, fun _ => ⟨post, _, M3, _, by rw [hxs]; simp, hq, f2, f3, f4, htl, hown _, hcl _, hcm _⟩, fun h => (by cases h)⟩
     | exit i =>
      obtain ⟨f1, f2, f3, f4⟩ := fin (some (.exit i));exact ⟨_, _, f1, false, rfl, hsz3 _, hkeep _, f2.rel.holds.mono f2.mem, fun h => (by cases h), fun _ => ⟨.exit i, .exit i, _, M3, _, hq, .inr ⟨i, rfl, rfl⟩, f2, f3, f4, hown _, hcl _, hcm _⟩⟩
     | ret =>
      obtain ⟨f1, f2, f3, f4⟩ := fin (some .ret);exact ⟨_, _, f1, false, rfl, hsz3 _, hkeep _, f2.rel.holds.mono f2.mem, fun h => (by cases h), fun _ => ⟨.ret, .ret, _, M3, _, hq, .inl ⟨rfl, rfl⟩, f2, f3, f4, hown _, hcl _, hcm _⟩⟩
  ·rintro e W2 ⟨⟨v, rfl⟩, O, Mc, hcase⟩
   rcases hcase with ⟨vs, H', M', ρ', h1, h2, h4, h6, h7, h8, _⟩ | ⟨e, c, H', M', ρ', h1, h2, h4, h6, h7, _⟩
   ·have hvs : vs = [] := by have := congrArg List.length h1; simp at this; exact this
    subst hvs;refine ⟨none, _, by have := run_endLoop (P := P) h7 (by rw [hrec]; simp); rw [hrec] at this; exact this, ?_⟩
    exact hQ .normal H' M' ρ' _ _ h2 (Nat.le_refl _) (h4.other h7 rfl h6 (by omega) hAD)
   ·refine ⟨some c, _, by have := run_endLoop (P := P) h7 (by rw [hrec]; simp); rw [hrec] at this; exact this, ?_⟩
    have hfin := hQ e H' M' ρ' _ _ h1 (Nat.le_refl _) (h4.other (o' := .loop { rec .done (some c) with state := .exhausted }) h7 rfl h6 (by omega) hAD)
    rw [hrec] at hfin
    rcases h2 with ⟨rfl, rfl⟩ | ⟨i, rfl, rfl⟩
    ·exact wpIn_ret hfin
    ·exact wpIn_exit hfin
theorem qfB {v' : LV} : ∀ {fr : List LV} {xs : List Value} (t : Nat), FRel M ρ fr xs -> (∀ x, LVal M ρ (fget fr t) x -> LVal M ρ v' x) -> FRel M ρ (fset fr t v') xs
 | [], _, _, h, _ => by simpa [Go.E.fset] using h
 | v :: vs, xs, 0, h, hv => by
  obtain ⟨y, ys, rfl, h1, h2⟩ := h;exact ⟨y, ys, rfl, hv y h1, h2⟩
 | v :: vs, xs, t + 1, h, hv => by
  obtain ⟨y, ys, rfl, h1, h2⟩ := h;exact ⟨y, ys, rfl, h1, qfB t h2 hv⟩
theorem qke (hI : MInv A n0 M0 ρ0 w0 M ρ H w) {fr : List LV} {xs : List Value} (hf : FRel M ρ fr xs) {t b : Nat} {cs : List LV} {vs : List SV} (ht : fget fr t = .loc b 0) (hB : H[b]? = some (.obj cs)) (hv : frzAll (frz []) cs = some vs) :
  ∃ M', MInv A n0 M0 ρ0 w0 M' ρ (H.set b (.frz vs)) w /\ FRel M' ρ (fset fr t (.s (.ptr vs))) xs := by
 obtain ⟨r, hr, hbr⟩ := hI.rel.spot hB
 cases r <;> simp only [BRel] at hbr
 rename_i cb sh n
 obtain ⟨c, T, h1, h2, h3, rfl, h5, h6⟩ := hbr;have hl : vs.length = cs.length := qaR hv;have hc : CRelC M vs (ones c.toList) := qby (g := frz []) (fun v us sv h k => qef (H := []) M.le_refl (fun i B r h => by simp at h) 4 v us sv h k) h5 hv
 have htk : (c.toList.drop 0).take vs.length = c.toList := by rw [List.drop_zero, List.take_of_length_le (by simp; omega)]
 have hb := (List.getElem?_eq_some_iff.1 hB).1
 have hI1 := hI.reblk (b := b) (B' := .row vs) (by rw [hB]; nofun) fun r' hr' => by
  rw [hr] at hr'; cases hr';simp only [BRel];exact ⟨c, T, h1, h2, by omega, by rw [htk]; exact hc, h6⟩
 have hI2 := hI1.freeze (cs' := vs) (List.getElem?_set_self hb) hr h1 h6 (Touch.refl _ _) h1 (us := c.toList) htk.symm (hc.mono (qL h6));rw [List.set_set] at hI2;refine ⟨_, hI2, qfB t (hf.mono (qL h6) (Env.le_refl _)) fun x hx => ?_⟩
 rw [ht] at hx;have hy := qbP hx hr;subst hy;refine qi.2 (qj ?_ rfl);simp only [CRel];exact ⟨cb, 0, c.toList, rfl, hc.mono (qL h6), qbN⟩
theorem qm8 {nt nf : Nat} : ∀ (b : BCode) (c : Code) (A : Nat -> Obj -> Prop) (dfs : List Deferred) (M : Mem) (ρ : Env) (w : World) (a : Act) (σ : AState) (QA : AExit -> AState -> Prop) (Q : Exit -> Act -> World -> Prop),
  okB P nt b c = true -> Stands A dfs n0 M0 ρ0 w0 M ρ σ a w -> bwp P n0 b σ QA ->
  (∀ e τ M' ρ' a' w' Ds, QA e τ -> Mk w0 A Ds -> Stands (AMark A Ds) (marks Ds ++ dfs) n0 M0 ρ0 w0 M' ρ' τ a' w' -> Q (exitOf e) a' w') -> c.wpIn (Fw none) nf P Q a w := by
 intro b
 induction b with
 | code ac =>
  intro c A dfs M ρ w a σ QA Q hok hS h hQ;exact qas ac c M ρ w a σ QA Q hok hS h fun e τ M' ρ' a' w' he hS' => hQ e τ M' ρ' a' w' [] he Mk.nil (by rw [qfz]; exact hS')
 | seq x y ihx ihy =>
  intro c A dfs M ρ w a σ QA Q hok hS h hQ
  cases c <;> simp only [okB, Bool.and_eq_true] at hok <;> try cases hok
  rename_i h1 h2
  simp only [bwp] at h;refine wpIn_seq (ihx _ A dfs M ρ w a σ _ _ h1 hS h fun e τ M' ρ' a' w' Ds he hD hS' => ?_)
  cases e with
  | normal =>
   refine ihy _ _ _ M' ρ' w' a' τ _ _ h2 hS' he fun e2 τ2 M2 ρ2 a2 w2 Es he2 hE hS2 => ?_
   rw [qd7, qfA] at hS2;exact hQ e2 τ2 M2 ρ2 a2 w2 (Es ++ Ds) he2 (hD.app hE) hS2
  | exit id => exact hQ (.exit id) τ M' ρ' a' w' Ds he hD hS'
  | ret => exact hQ .ret τ M' ρ' a' w' Ds he hD hS'
 | cond x A' B' iha ihb =>
  intro c A dfs M ρ w a σ QA Q hok hS h hQ
  cases c <;> simp only [okB, Bool.and_eq_true] at hok <;> try cases hok
  rename_i h1 h2
  obtain ⟨h1, h3⟩ := h1;have hv := qf hS.fr h1;simp only [bwp] at h;unfold condK at h
  split at h
  ·rename_i t hx
   have hb := qa2 hx hv;refine wpIn_cond_split hb (fun ht => ?_) (fun ht => ?_)
   ·subst ht; exact iha _ A dfs M ρ w a σ _ _ h3 hS h hQ
   ·subst ht; exact ihb _ A dfs M ρ w a σ _ _ h2 hS h hQ
  ·cases h
 | block id x ih =>
  intro c A dfs M ρ w a σ QA Q hok hS h hQ
  cases c <;> simp only [okB, Bool.and_eq_true, beq_iff_eq] at hok <;> try cases hok
  rename_i h1 h2
  subst h1;simp only [bwp] at h;refine wpIn_block (ih _ A dfs M ρ w a σ _ _ h2 hS h fun e τ M' ρ' a' w' Ds he hD hS' => ?_)
  cases e with
  | normal => exact hQ .normal τ M' ρ' a' w' Ds he hD hS'
  | exit i =>
   simp only at he;simp only [exitOf, Exit.inBlock]
   split
   ·rename_i hi; rw [if_pos hi] at he; exact hQ .normal τ M' ρ' a' w' Ds he hD hS'
   ·rename_i hi; rw [if_neg hi] at he; exact hQ (.exit i) τ M' ρ' a' w' Ds he hD hS'
  | ret => exact hQ .ret τ M' ρ' a' w' Ds he hD hS'
 | loop mask promo x ih =>
  intro c A dfs M ρ w a σ QA Q hok hS h hQ
  cases c <;> simp only [okB] at hok <;> try cases hok
  rename_i c
  simp only [bwp] at h;obtain ⟨ρ1, hS1⟩ := hS.promote promo;have hn : ρ0.length <= (promote promo σ).hp.length := by have := hS1.inv.len; have := hS1.inv.rel.len; omega
  generalize (promote promo σ).hp.length = n at h hn
  have hI := h (fun τ => ∀ Ds M ρ a w, Mk w0 A Ds -> Stands (AMark A Ds) (marks Ds ++ dfs) n0 M0 ρ0 w0 M ρ τ a w -> ∀ (b : Frame) (k : List Item) (cs : List Frame), b.roundOf = (Fw none).round -> (Fw none).fn b.fn -> (Fw none).room (cs.length + 1 + nf) -> ∃ e a' w', Q e a' w' /\ ArrivesIn (Machine.fenced P (Fw none)) P (lone (b.atR a (.code c :: .inLoop c :: k)) cs w) b k cs e a' w') (by
   intro τ hb Ds M ρ a w hD hS b k cs hro hfn hrm
   have hbody := ih c (AMark A Ds) (marks Ds ++ dfs) M ρ w a τ _ (Exit.then (fun a' w' => ∀ (b : Frame) (k : List Item) (cs : List Frame), b.roundOf = (Fw none).round -> (Fw none).fn b.fn -> (Fw none).room (cs.length + 1 + nf) -> ∃ e a'' w'', Q e a'' w'' /\ ArrivesIn (Machine.fenced P (Fw none)) P (lone (b.atR a' (.code c :: .inLoop c :: k)) cs w') b k cs e a'' w'') Q) hok hS hb (fun e τ' M' ρ' a' w' Es he hE hS' => by
    rw [qd7, qfA] at hS'
    cases e with
    | normal => exact he (Es ++ Ds) M' _ a' w' (hD.app hE) (hS'.norm mask hn)
    | exit id => exact hQ (.exit id) τ' M' ρ' a' w' _ he (hD.app hE) hS'
    | ret => exact hQ .ret τ' M' ρ' a' w' _ he (hD.app hE) hS')
   obtain ⟨e, a₁, w₁, hq, harr⟩ := hbody b (.inLoop c :: k) cs hro hfn hrm
   cases e with
   | normal =>
    obtain ⟨e₂, a₂, w₂, hq₂, harr₂⟩ := hq b k cs hro hfn hrm;exact ⟨e₂, a₂, w₂, hq₂, .of_steps (StepsIn.trans harr (.one (fenced_calm hfn hrm rfl) stepR_inLoop)) harr₂⟩
   | exit id => exact ⟨_, a₁, w₁, hq, .pass (x := .inLoop c) rfl (fun _ _ => .inl (by simp)) harr⟩
   | goto l => exact ⟨_, a₁, w₁, hq, .pass (x := .inLoop c) rfl (fun _ _ => .inl (by simp)) harr⟩
   | ret => exact ⟨_, a₁, w₁, hq, .pass (x := .inLoop c) rfl (fun _ _ => .inl (by simp)) harr⟩
   | panic ch => exact ⟨_, a₁, w₁, hq, .pass (x := .inLoop c) rfl (fun _ _ => .inl (by simp)) harr⟩
   | outgrown => exact ⟨_, a₁, w₁, hq, .pass (x := .inLoop c) rfl (fun _ _ => .inl (by simp)) harr⟩)
  intro b k cs hro hfn hrm;obtain ⟨e, a', w', hq, harr⟩ := hI [] M _ a w Mk.nil (by rw [qfz]; exact hS1.norm mask hn) b k cs hro hfn hrm
  exact ⟨e, a', w', hq, .of_steps (.one (fenced_calm hfn hrm rfl) stepR_loop) harr⟩
 | scope x ih =>
  intro c A dfs M ρ w a σ QA Q hok hS h hQ
  cases c <;> simp only [okB] at hok <;> try cases hok
  refine qbg (ih _ A dfs M ρ w a σ QA _ hok hS h fun e τ M' ρ' a' w' Ds he hD hS' => ?_)
  cases e with
  | normal => exact hQ .normal τ M' ρ' a' w' Ds he hD hS'
  | exit id => exact hQ (.exit id) τ M' ρ' a' w' Ds he hD hS'
  | ret => exact hQ .ret τ M' ρ' a' w' Ds he hD hS'
 | promo ps x ih =>
  intro c A dfs M ρ w a σ QA Q hok hS h hQ;simp only [okB] at hok;simp only [bwp] at h;obtain ⟨ρ1, hS1⟩ := hS.promote ps;exact ih c A dfs M ρ1 w a (promote ps σ) QA Q hok hS1 h hQ
 | pin t x ih =>
  intro c A dfs M ρ w a σ QA Q hok hS h hQ;simp only [okB] at hok;simp only [bwp] at h;unfold pinK at h
  split at h
  ·rename_i b ht
   unfold pinB at h
   split at h
   ·rename_i cs hB
    obtain ⟨vs, hv, h⟩ := qd h;obtain ⟨M', h1, h2⟩ := qke hS.inv hS.fr ht hB hv;exact ih c A dfs M' ρ w a { fr := fset σ.fr t (.s (.ptr vs)), hp := σ.hp.set b (.frz vs) } QA Q hok ⟨h1, h2, hS.nod⟩ h hQ
   ·cases h
  ·cases h
 | rangeF mv x p as body =>
  intro c A dfs M ρ w a σ QA Q hok hS h hQ
  cases c <;> simp only [okB, Bool.and_eq_true, decide_eq_true_eq] at hok <;> try (cases hok; done)
  obtain ⟨⟨⟨k3, rfl⟩, k5⟩, k6⟩ := hok;simp only [bwp] at h;have hxv := qf hS.fr k3;unfold rangeLK at h
  split at h
  ·rename_i gf caps hx
   rw [hx] at hxv;obtain ⟨r1, r2, xs, r3, hn0m, r5⟩ := h;refine qhB k5 k6 hS.inv.rel hS.inv.alien hS.fr r1 r2 hxv r3 (Nat.sub_le _ _) r5 fun e H' M' ρ' W D hq hD hI => ?_
   have hl := hI.alien D _ (.inr ⟨rfl, rfl⟩);refine hQ e { fr := below (σ.hp.length - mv) σ.fr, hp := H' } M' ρ' _ W [D] hq ⟨by simp, fun D2 h2 => ?_⟩ ⟨(hS.inv.trans hI hn0m).more fun k o ho => ?_, FRel.below hI hS.fr, by simp [marks, hS.nod]⟩
   ·simp only [List.mem_singleton] at h2
    subst h2;refine ⟨Nat.le_trans hS.inv.touch.size hD, fun o ho => ?_⟩
    have := (Array.getElem?_eq_some_iff.1 (hS.inv.alien _ o ho).1).1;omega
   ·rcases ho with ho | ⟨ho, rfl⟩
    ·exact .inl ho
    ·simp only [List.mem_singleton] at ho
     subst ho;exact .inr hl
  ·cases h
end
structure BRow where
  code : BCode
  res : List ARes
  nt : Nat
def BRow.Ok (P : Program) (f : FuncId) (r : BRow) : Prop :=
 ∃ fn c, P.funcs[f]? = some fn /\ fn.body = some c /\ okB P 0 r.code c = true /\ okRes P r.res fn.results.toList = true /\ fn.ntmps = r.nt
def BRow.start (r : BRow) (args : List LV) : AState := { fr := args ++ List.replicate (r.nt - args.length) .any, hp := [] }
section
variable {P : Program}
theorem qdx {fn : Func} {tmps : Array Value} {R : Ending -> World -> Prop} {n0 : Nat} {M0 : Mem} {ρ0 : Env} {w0 : World} {M : Mem} {ρ : Env} {H : List ABlock} (hR : ∀ w, MInv NoA n0 M0 ρ0 w0 M ρ H w -> ∃ v, (results fn tmps).run P w = .ok v w /\ R (.returned v) w) :
  ∀ (Ds : List Nat) (w : World), MInv NoA n0 M0 ρ0 w0 M ρ H w -> Ds.Nodup -> (∀ D ∈ Ds, w0.heap.size <= D /\ w.heap[D]? = some (.deferred (some [])) /\ ¬ ρ.has D) ->
   LeavesInM (Fw none) 0 P fn tmps R (Ds.map fun D => { target := .collected D, args := #[] }) .returning w
 | [], w, hI, _, _ => by
  obtain ⟨v, h1, h2⟩ := hR w hI;simp only [List.map_nil, LeavesInM, LeavesIn];exact ⟨v, h1, h2⟩
 | D :: Ds, w, hI, hnd, hD => by
  rw [List.nodup_cons] at hnd;obtain ⟨h1, h2, h3⟩ := hD D (by simp)
  simp only [List.map_cons, LeavesInM];refine ⟨by simp, .inl ⟨D, _, rfl, run_takeDeferred h2, ?_⟩⟩
  refine qdx hR Ds _ (hI.other h2 rfl h3 h1 fun _ h => h.elim) hnd.2 fun D2 h4 => ?_
  obtain ⟨h5, h6, h7⟩ := hD D2 (by simp [h4])
  have hne : D2 ≠ D := fun e => hnd.1 (by rw [<- e]; exact h4)
  exact ⟨h5, by rw [World.putObj_heap_other hne]; exact h6, h7⟩
theorem qhC {f : FuncId} {r : BRow} (hr : r.Ok P f) {args : List SV} {R : List SV -> Prop} (h : bwp P 0 r.code (r.start (args.map .s)) (finR r.res R)) : FnR P f args R := by
 obtain ⟨fn, c, h1, h2, h3, h4, h5⟩ := hr;intro M w vs hh hv;refine (qcP (r := none) (n := 0)).1 (callsIn_of_wp_marks h1 h2 trivial (qm8 (n0 := 0) (M0 := M) (ρ0 := []) (w0 := w) r.code c NoA [] M [] w _ _ _ _ h3 ⟨MInv.start (SRel.start hh), ?_, rfl⟩ h ?_))
 ·have := qb2 (qaT (ρ := []) hv) fn.ntmps
  rw [h5] at this ⊢
  simpa [BRow.start] using this
 ·intro e τ M' ρ' a' w' Ds he hD hS
  have hI := hS.inv
  have key : resK τ.hp τ.fr r.res R -> LeavesInM (Fw none) 0 P fn a'.tmps (fun e w' => ∃ xs M' out, R out /\ e = .returned (retOf xs) /\ M.le M' /\ Holds M' w' /\ VRelL M' out xs /\ Touch [] w w' /\ Newer [] w M M') a'.defers .returning w' := by
   intro hk;rw [hS.nod, List.append_nil];refine qdx (fun w2 hI2 => ?_) Ds w' (MInv.more (A' := NoA) hI fun k o (ho : False) => ho.elim) hD.1 fun D hDD => ⟨(hD.2 D hDD).1, (hI.alien D _ (.inr ⟨hDD, rfl⟩)).1, (hI.alien D _ (.inr ⟨hDD, rfl⟩)).2.2⟩
   obtain ⟨xs, vs, h1, h2, h3⟩ := qb1 hI2.rel hS.fr h4 hk;refine ⟨retOf xs, qat h1, xs, M'.up ρ' w2, vs, h3, rfl, Mem.le_trans hI2.mem (Mem.le_up _ _ _), hI2.rel.holds_up, h2, hI2.touch, fun b o v hv => ?_, fun b es hv => ?_⟩
   ·rcases Mem.up_cell hv with h | ⟨h, _⟩
    ·exact hI2.newer.1 b o v h
    ·rcases hI2.has_old h with h | h
     ·exact absurd h (Env.nil_has _)
     ·exact .inr (.inl h)
   ·rcases Mem.up_map hv with h | ⟨h, _⟩
    ·exact hI2.newer.2 b es h
    ·rcases hI2.has_old h with h | h
     ·exact absurd h (Env.nil_has _)
     ·exact .inr (.inl h)
  cases e with
  | normal => exact key he
  | exit id => exact he.elim
  | ret => exact key he
theorem qoh {f : FuncId} {args out : List SV} : FnR P f args (fun rs => rs = out) ↔ Fn P f args out :=
 ⟨fun h M w vs hM hv => (h M w vs hM hv).mono fun _ _ ⟨xs, M', rs, h1, h2⟩ => ⟨xs, M', by subst h1; exact h2⟩, fun h => h.fnR rfl⟩
theorem qiM {f : FuncId} {r : BRow} (hr : r.Ok P f) {args out : List SV} (h : bwp P 0 r.code (r.start (args.map .s)) (finR r.res (fun rs => rs = out))) : Fn P f args out := qoh.1 (qhC hr h)
theorem qiN {P : Program} {n0 mv p : Nat} {x : AX} {as body : ACode} {fr : List LV} {H : List ABlock} {Q : AExit -> AState -> Prop} {g : FuncId} {caps xs : List SV} (J : List SV -> List ABlock -> Prop) (hx : x.ev fr = .s (.fn g [] caps)) (hok : okFn P g = true)
  (hc : (caps.map LV.s).all LV.isOne = true) (hy : ZYields P g caps xs) (hn : n0 <= H.length - mv) (h0 : J xs H) (h1 : ∀ H', J [] H' -> Q .normal ⟨below (H.length - mv) fr, H'⟩)
  (hs : ∀ v vs H' (I : List ABlock -> Prop), J (v :: vs) H' -> (∀ H'', J vs H'' -> I H'') -> awp P (H.length - mv) as ⟨fset (below (H.length - mv) fr) p (.s v), H'⟩ fun e σ1 => e = .normal /\ awp P (H.length - mv) body σ1 fun e2 σ2 => match e2 with
   | .normal => I (killed H.length σ2.hp)
   | e2 => Q e2 ⟨below (H.length - mv) fr, killed H.length σ2.hp⟩) :
  bwp P n0 (.rangeF mv x p as body) ⟨fr, H⟩ Q := by
 simp only [bwp, hx];refine ⟨hok, hc, xs, hy, hn, ?_⟩
 have key : ∀ (vs : List SV) (H' : List ABlock), J vs H' -> rngK P H.length (H.length - mv) (below (H.length - mv) fr) p as body (fun e H' => Q e ⟨below (H.length - mv) fr, H'⟩) vs H' := by
  intro vs
  induction vs with
  | nil => intro H' hJ; exact h1 H' hJ
  | cons v vs ih => intro H' hJ; exact hs v vs H' _ hJ ih
 exact key xs H h0
end
section
variable {P : Program} {A : Nat -> Obj -> Prop} {dfs : List Deferred} {M0 : Mem} {ρ0 : Env} {w0 : World} {n0 : Nat} {Q : Exit -> Act -> World -> Prop}
end
abbrev YK := LV -> Option (List SV) -> Prop -> Prop
def yldK (v : SV) (k : YK) : Option (List SV) -> Prop
 | some (u :: r) => u = v /\ k (.s (.bool true)) (some r) True /\ k (.s (.bool false)) none True
 | _ => False
def LV.isYl : LV -> Bool
 | .yl _ => true
 | _ => false
def ylOk (fr : List LV) : AOp -> LV -> Prop
 | .mov x, v => v = x.ev fr
 | _, v => v.isYl = false
def yopV (P : Program) (rest : Option (List SV)) (x : LV) (k : YK) : LV -> Prop
 | .yl _ => exO (frz [] x) fun v => yldK v k rest
 | v => callvK P [] [x] (fun v H kl f => H = [] /\ kl = none /\ v.isYl = false /\ k v rest f) v
noncomputable def yop (P : Program) (fr : List LV) (rest : Option (List SV)) : AOp -> YK -> Prop
 | .callv f [x], k => yopV P rest (x.ev fr) k (f.ev fr)
 | op, k => aop P 0 0 fr [] op fun v H kl f => H = [] /\ kl = none /\ ylOk fr op v /\ k v rest f
noncomputable def yops (P : Program) : List AOper -> List LV -> Option (List SV) -> Prop -> (List LV -> Option (List SV) -> Prop -> Prop) -> Prop
 | [], fr, rest, F, k => k fr rest F
 | ⟨dst, none, op⟩ :: os, fr, rest, F, k => yop P fr rest op fun v rest' f => yops P os (fpt fr dst v) rest' (F /\ f) k
 | ⟨dst, some (g, want), op⟩ :: os, fr, rest, F, k => grdK want
   (fun b => yop P (fset fr g (.s (.bool b))) rest op fun v rest' f => yops P os (fpt (fset fr g (.s (.bool b))) dst v) rest' (F /\ f) k)
   (fun b => yops P os (fpt (fset fr g (.s (.bool b))) dst (.tup [])) rest F k)
   (yops P os (fpt fr dst (.tup [])) rest F k) (fget fr g)
noncomputable def ywp (P : Program) : ACode -> List LV -> Option (List SV) -> (AExit -> List LV -> Option (List SV) -> Prop) -> Prop
 | .skip, fr, rest, Q => Q .normal fr rest
 | .reg _ ops, fr, rest, Q => yops P ops fr rest True fun fr' rest' F => F -> Q .normal fr' rest'
 | .seq a b, fr, rest, Q => ywp P a fr rest fun e fr' rest' => match e with
  | .normal => ywp P b fr' rest' Q
  | e => Q e fr' rest'
 | .cond x a b, fr, rest, Q => condK (ywp P a fr rest Q) (ywp P b fr rest Q) (x.ev fr)
 | .block id a, fr, rest, Q => ywp P a fr rest fun e fr' rest' => match e with
  | .exit i => if i = id then Q .normal fr' rest' else Q (.exit i) fr' rest'
  | e => Q e fr' rest'
 | .loop mask _ a, fr, rest, Q => ∀ I : List LV -> Option (List SV) -> Prop,
   (∀ fr r, ywp P a fr r (fun e fr' r' => match e with | .normal => I (fmask mask fr') r' | e => Q e fr' r') -> I fr r) -> I (fmask mask fr) rest
 | .exit id, fr, rest, Q => Q (.exit id) fr rest
 | .ret, fr, rest, Q => Q .ret fr rest
 | .scope a, fr, rest, Q => ywp P a fr rest Q
 | .label _, fr, rest, Q => Q .normal fr rest
 | .zap _ _ _, _, _, _ => False
 | .frzt _ _, _, _, _ => False
 | .renr _ _ _ _, _, _, _ => False
 | .ren _ _ _, _, _, _ => False
section
variable {P : Program}
structure YInv (M : Mem) (W : World) (xs : List SV) (J : List SV -> (Nat -> Prop) -> World -> Prop) (Jx : World -> Prop) (M' : Mem) (rest : Option (List SV)) (w : World) : Prop where
  mem : M.le M'
  newer : Newer [] W M M'
  holds : Holds M' w
  size : W.heap.size <= w.heap.size
  at_ : match rest with
    | some r => ∃ pre O, xs = pre ++ r /\ J pre O w /\ (∀ k, O k -> k < w.heap.size) /\ (∀ b o v, M'.cell b o = some v -> M.cell b o = some v \/ ¬ O b) /\ ∀ b es, M'.map b = some es -> M.map b = some es \/ ¬ O b
    | none => Jx w
variable {M : Mem} {W : World} {xs : List SV} {J : List SV -> (Nat -> Prop) -> World -> Prop} {Jx : World -> Prop}
theorem YInv.step (hJ : ∀ s O A B, J s O A -> Touch [] A B -> J s O B) (hJx : ∀ A B, Jx A -> Touch [] A B -> Jx B) {M' M'' : Mem} {rest : Option (List SV)} {w w' : World} (h : YInv M W xs J Jx M' rest w)
  (hle : M'.le M'') (ht : Touch [] w w') (hn : Newer [] w M' M'') (hh : Holds M'' w') : YInv M W xs J Jx M'' rest w' := by
 refine ⟨Mem.le_trans h.mem hle, ⟨fun b o v hv => ?_, fun b es hv => ?_⟩, hh, Nat.le_trans h.size ht.size, ?_⟩
 ·rcases hn.1 b o v hv with h1 | h1 | h1
  ·exact h.newer.1 b o v h1
  ·exact .inr (.inl (Nat.le_trans h.size h1))
  ·exact absurd h1 (Env.nil_has _)
 ·rcases hn.2 b es hv with h1 | h1 | h1
  ·exact h.newer.2 b es h1
  ·exact .inr (.inl (Nat.le_trans h.size h1))
  ·exact absurd h1 (Env.nil_has _)
 ·have := h.at_
  cases rest with
  | some r =>
   obtain ⟨pre, O, h1, h2, h3, h4, h5⟩ := this;refine ⟨pre, O, h1, hJ _ _ _ _ h2 ht, fun k hk => Nat.lt_of_lt_of_le (h3 k hk) ht.size, fun b o v hv => ?_, fun b es hv => ?_⟩
   ·rcases hn.1 b o v hv with h6 | h6 | h6
    ·exact h4 b o v h6
    ·exact .inr fun hO => by have := h3 b hO; omega
    ·exact absurd h6 (Env.nil_has _)
   ·rcases hn.2 b es hv with h6 | h6 | h6
    ·exact h5 b es h6
    ·exact .inr fun hO => by have := h3 b hO; omega
    ·exact absurd h6 (Env.nil_has _)
  | none => exact hJx _ _ this ht
structure YFr (M' : Mem) (fr : List LV) (a : Act) : Prop where
  fr : FRel M' [] fr a.tmps.toList
  nod : a.defers = []
end
section
variable {P : Program} {C : Tab}
end
end Go.E
