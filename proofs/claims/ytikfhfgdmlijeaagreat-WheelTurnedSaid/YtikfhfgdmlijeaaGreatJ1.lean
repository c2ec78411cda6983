/- A value semantics for the walk: stable values, local values, and how they stand to a world. -/
import Derived.WalkKit
import Derived.Maps.RangeRun
import Derived.Orders
import Derived.Deep.AppendSrc
import Derived.Great.BuildSlice

set_option linter.all false

namespace Go.E
open Go
inductive SV where
 | bool (b : Bool)
 | int (k : IntKind) (n : Int)
 | str (s : ByteArray)
 | agg (cs : List SV)
 | slice (xs : List SV)
 | ptr (cs : List SV)
 | nilp
 | fn (f : FuncId) (first caps : List SV)
 | map (ks vs : List SV)
 | nili
 deriving Inhabited
abbrev Ents := Array MapEntry × Nat
def ents (p : Ents) : List (Value × Value) := p.1.toList.map fun e => (e.key, e.val)
def wfm (p : Ents) : Prop := (p.1.toList.map (·.born)).Nodup /\ ∀ e ∈ p.1.toList, e.born < p.2
structure Mem where
  cell : Nat -> Nat -> Option Value
  map : Nat -> Option Ents
def Mem.le (M M' : Mem) : Prop :=
 (∀ b o v, M.cell b o = some v -> M'.cell b o = some v) /\ (∀ b es, M.map b = some es -> M'.map b = some es)
theorem Mem.le_refl (M : Mem) : M.le M := ⟨fun _ _ _ h => h, fun _ _ h => h⟩
theorem Mem.le_trans {A B C : Mem} (h : A.le B) (k : B.le C) : A.le C :=
 ⟨fun b o v x => k.1 b o v (h.1 b o v x), fun b es x => k.2 b es (h.2 b es x)⟩
def Mem.At (M : Mem) (b o : Nat) (us : List Value) : Prop := ∀ j v, us[j]? = some v -> M.cell b (o + j) = some v
theorem Mem.At.mono {M M' : Mem} (h : M.le M') {b o : Nat} {us : List Value} (k : M.At b o us) : M'.At b o us :=
 fun j v hv => h.1 _ _ _ (k j v hv)
def SV.isAgg : SV -> Bool
 | .agg _ => true
 | _ => false
def SV.mk (v : SV) (us : List Value) : Value := if v.isAgg then .agg us.toArray else us.headD undef
def ones (us : List Value) : List (List Value) := us.map fun u => [u]
mutual
def CRel (M : Mem) : SV -> List Value -> Prop
 | .bool b, us => us = [.bool b]
 | .int k n, us => us = [.int k n]
 | .str s, us => us = [.string s]
 | .agg cs, us => CRelC M cs (ones us)
 | .slice xs, us => ∃ a len cap, us = [.slice a len cap] /\ len = xs.length /\ len <= cap /\ cap <= maxLen /\
   (xs = [] \/ ∃ b o sz uss, a = some ⟨b, o, none⟩ /\ CRelC M xs uss /\ (∀ u ∈ uss, u.length = sz) /\ M.At b o uss.flatten)
 | .ptr cs, us => ∃ b o ws, us = [.pointer (some ⟨b, o, none⟩)] /\ CRelC M cs (ones ws) /\ M.At b o ws
 | .nilp, us => us = [.pointer none]
 | .fn f first caps, us => ∃ fs cs, us = [.func (.func f) fs.toArray cs.toArray] /\ CRelC M first (ones fs) /\ CRelC M caps (ones cs)
 | .map ks vs, us => ∃ r, us = [.map r] /\ ((r = none /\ ks = [] /\ vs = []) \/ ∃ b es kus vus, r = some b /\ M.map b = some es /\ CRelC M ks kus /\ CRelC M vs vus /\
   (ents es).Perm (List.zip (List.zipWith SV.mk ks kus) (List.zipWith SV.mk vs vus)) /\ ks.length = vs.length /\ wfm es)
 | .nili, us => us = [.nilIface]
def CRelC (M : Mem) : List SV -> List (List Value) -> Prop
 | [], uss => uss = []
 | c :: cs, uss => ∃ u us, uss = u :: us /\ CRel M c u /\ CRelC M cs us
end
mutual
theorem CRel.mono {M M' : Mem} (h : M.le M') : ∀ (v : SV) (us : List Value), CRel M v us -> CRel M' v us
 | .bool _, _, k | .int _ _, _, k | .str _, _, k | .nilp, _, k | .nili, _, k => by simpa [CRel] using k
 | .agg cs, us, k => by simp only [CRel] at *; exact CRelC.mono h cs _ k
 | .slice xs, us, k => by
  simp only [CRel] at *;obtain ⟨a, len, cap, e, hl, hc, hm, hx⟩ := k;refine ⟨a, len, cap, e, hl, hc, hm, ?_⟩
  rcases hx with hx | ⟨b, o, sz, uss, ha, hr, hs, hat⟩
  ·exact .inl hx
  ·exact .inr ⟨b, o, sz, uss, ha, CRelC.mono h xs _ hr, hs, hat.mono h⟩
 | .ptr cs, us, k => by
  simp only [CRel] at *;obtain ⟨b, o, ws, e, hr, hat⟩ := k;exact ⟨b, o, ws, e, CRelC.mono h cs _ hr, hat.mono h⟩
 | .fn f first caps, us, k => by
  simp only [CRel] at *;obtain ⟨fs, cs, e, hr, hr'⟩ := k;exact ⟨fs, cs, e, CRelC.mono h first _ hr, CRelC.mono h caps _ hr'⟩
 | .map ks vs, us, k => by
  simp only [CRel] at *;obtain ⟨r, e, hx⟩ := k;refine ⟨r, e, ?_⟩
  rcases hx with hx | ⟨b, es, kus, vus, hr, hm, hk, hv, hes, hl⟩
  ·exact .inl hx
  ·exact .inr ⟨b, es, kus, vus, hr, h.2 _ _ hm, CRelC.mono h ks _ hk, CRelC.mono h vs _ hv, hes, hl⟩
theorem CRelC.mono {M M' : Mem} (h : M.le M') : ∀ (cs : List SV) (uss : List (List Value)), CRelC M cs uss -> CRelC M' cs uss
 | [], _, k => by simpa [CRelC] using k
 | c :: cs, uss, k => by
  simp only [CRelC] at *;obtain ⟨u, us, e, hc, hr⟩ := k;exact ⟨u, us, e, CRel.mono h c u hc, CRelC.mono h cs us hr⟩
end
mutual
theorem CRel.oneCells {M : Mem} : ∀ (v : SV) (us : List Value), CRel M v us -> ∀ u ∈ us, u.oneCell' = true
 | .bool _, _, h | .int _ _, _, h | .str _, _, h | .nilp, _, h | .nili, _, h => by simp only [CRel] at h; subst h; simp [Value.oneCell']
 | .agg cs, us, h => by simp only [CRel] at h; exact fun u hu => CRelC.oneCells cs _ h [u] (by simpa [ones] using hu) u (by simp)
 | .slice xs, us, h => by simp only [CRel] at h; obtain ⟨a, len, cap, rfl, _⟩ := h; simp [Value.oneCell']
 | .ptr cs, us, h => by simp only [CRel] at h; obtain ⟨b, o, ws, rfl, _⟩ := h; simp [Value.oneCell']
 | .fn f first caps, us, h => by simp only [CRel] at h; obtain ⟨fs, cs, rfl, _⟩ := h; simp [Value.oneCell']
 | .map ks vs, us, h => by simp only [CRel] at h; obtain ⟨r, rfl, _⟩ := h; simp [Value.oneCell']
theorem CRelC.oneCells {M : Mem} : ∀ (cs : List SV) (uss : List (List Value)), CRelC M cs uss -> ∀ us ∈ uss, ∀ u ∈ us, u.oneCell' = true
 | [], _, h => by simp only [CRelC] at h; subst h; simp
 | c :: cs, uss, h => by
  simp only [CRelC] at h;obtain ⟨u, us, rfl, hc, hr⟩ := h;intro us' hus
  rcases List.mem_cons.1 hus with rfl | hus
  ·exact CRel.oneCells c _ hc
  ·exact CRelC.oneCells cs us hr us' hus
end
theorem CRelC.length {M : Mem} : ∀ {cs : List SV} {uss : List (List Value)}, CRelC M cs uss -> uss.length = cs.length
 | [], _, h => by simp [CRelC] at h; simp [h]
 | c :: cs, uss, h => by
  simp only [CRelC] at h;obtain ⟨u, us, rfl, _, hr⟩ := h;simp [hr.length]
theorem CRelC.get {M : Mem} : ∀ {cs : List SV} {uss : List (List Value)}, CRelC M cs uss -> ∀ {i : Nat} {c : SV}, cs[i]? = some c -> ∃ u, uss[i]? = some u /\ CRel M c u
 | [], _, _, i, c, hc => by simp at hc
 | c :: cs, uss, h, i, d, hd => by
  simp only [CRelC] at h;obtain ⟨u, us, rfl, hc, hr⟩ := h
  cases i with
  | zero => simp at hd; subst hd; exact ⟨u, by simp, hc⟩
  | succ i => simp at hd; obtain ⟨u', h1, h2⟩ := hr.get hd; exact ⟨u', by simpa using h1, h2⟩
theorem CRelC.get' {M : Mem} : ∀ {cs : List SV} {uss : List (List Value)}, CRelC M cs uss -> ∀ {i : Nat} {u : List Value}, uss[i]? = some u -> ∃ c, cs[i]? = some c /\ CRel M c u
 | [], _, h, i, u, hu => by simp [CRelC] at h; subst h; simp at hu
 | c :: cs, uss, h, i, d, hd => by
  simp only [CRelC] at h;obtain ⟨u, us, rfl, hc, hr⟩ := h
  cases i with
  | zero => simp at hd; subst hd; exact ⟨c, by simp, hc⟩
  | succ i => simp at hd; obtain ⟨u', h1, h2⟩ := hr.get' hd; exact ⟨u', by simpa using h1, h2⟩
theorem CRelC.append {M : Mem} : ∀ {cs ds : List SV} {uss vss : List (List Value)}, CRelC M cs uss -> CRelC M ds vss -> CRelC M (cs ++ ds) (uss ++ vss)
 | [], ds, uss, vss, h, k => by simp [CRelC] at h; subst h; simpa using k
 | c :: cs, ds, uss, vss, h, k => by
  simp only [CRelC] at h;obtain ⟨u, us, rfl, hc, hr⟩ := h;simp only [List.cons_append, CRelC];exact ⟨u, us ++ vss, rfl, hc, hr.append k⟩
theorem CRelC.drop {M : Mem} : ∀ {cs : List SV} {uss : List (List Value)} (n : Nat), CRelC M cs uss -> CRelC M (cs.drop n) (uss.drop n)
 | cs, uss, 0, h => by simpa using h
 | [], uss, n + 1, h => by simp [CRelC] at h; subst h; simp [CRelC]
 | c :: cs, uss, n + 1, h => by
  simp only [CRelC] at h;obtain ⟨u, us, rfl, hc, hr⟩ := h
  simpa using hr.drop n
theorem CRelC.take {M : Mem} : ∀ {cs : List SV} {uss : List (List Value)} (n : Nat), CRelC M cs uss -> CRelC M (cs.take n) (uss.take n)
 | cs, uss, 0, h => by simp [CRelC]
 | [], uss, n + 1, h => by simp [CRelC] at h; subst h; simp [CRelC]
 | c :: cs, uss, n + 1, h => by
  simp only [CRelC] at h;obtain ⟨u, us, rfl, hc, hr⟩ := h;simp only [List.take_succ_cons, CRelC];exact ⟨u, us.take n, rfl, hc, hr.take n⟩
theorem CRelC.set {M : Mem} : ∀ {cs : List SV} {uss : List (List Value)} (i : Nat) {c : SV} {u : List Value}, CRelC M cs uss -> CRel M c u -> CRelC M (cs.set i c) (uss.set i u)
 | [], uss, i, c, u, h, _ => by simp [CRelC] at h; subst h; simp [CRelC]
 | d :: cs, uss, i, c, u, h, k => by
  simp only [CRelC] at h;obtain ⟨u', us, rfl, hc, hr⟩ := h
  cases i with
  | zero => simp only [List.set_cons_zero, CRelC]; exact ⟨u, us, rfl, k, hr⟩
  | succ i => simp only [List.set_cons_succ, CRelC]; exact ⟨u', us.set i u, rfl, hc, hr.set i k⟩
@[simp] theorem qN (us : List Value) : (ones us).length = us.length := by simp [ones]
@[simp] theorem qf8 : ones [] = [] := rfl
@[simp] theorem qak (u : Value) (us : List Value) : ones (u :: us) = [u] :: ones us := rfl
@[simp] theorem qV (us vs : List Value) : ones (us ++ vs) = ones us ++ ones vs := by simp [ones]
@[simp] theorem qv (us : List Value) (n : Nat) : ones (us.drop n) = (ones us).drop n := by simp [ones]
@[simp] theorem qW (us : List Value) (n : Nat) : ones (us.take n) = (ones us).take n := by simp [ones]
@[simp] theorem ones_get? (us : List Value) (i : Nat) : (ones us)[i]? = (us[i]?).map fun u => [u] := by simp [ones]
@[simp] theorem qc9 (us : List Value) : (ones us).flatten = us := by
 induction us with
 | nil => rfl
 | cons u us ih => simp [ih]
theorem qbT {M : Mem} : CRelC M [] [] := by simp [CRelC]
theorem qaL {M : Mem} {c : SV} {cs : List SV} {u : List Value} {us : List (List Value)} (h : CRel M c u) (k : CRelC M cs us) : CRelC M (c :: cs) (u :: us) := by
 simp only [CRelC]; exact ⟨u, us, rfl, h, k⟩
theorem CRel.one {M : Mem} {v : SV} {us : List Value} (h : CRel M v us) (ha : v.isAgg = false) : ∃ x, us = [x] /\ x.cells = #[x] := by
 cases v <;> simp only [CRel] at h
 case agg => simp [SV.isAgg] at ha
 case slice => obtain ⟨a, len, cap, e, _⟩ := h; exact ⟨_, e, rfl⟩
 case ptr => obtain ⟨b, o, ws, e, _⟩ := h; exact ⟨_, e, rfl⟩
 case fn => obtain ⟨fs, cs, e, _⟩ := h; exact ⟨_, e, rfl⟩
 case map => obtain ⟨r, e, _⟩ := h; exact ⟨_, e, rfl⟩
 all_goals exact ⟨_, h, rfl⟩
def VRel (M : Mem) (v : SV) (x : Value) : Prop := ∃ us, CRel M v us /\ x = v.mk us
theorem VRel.mono {M M' : Mem} (h : M.le M') {v : SV} {x : Value} (k : VRel M v x) : VRel M' v x := by
 obtain ⟨us, hc, e⟩ := k; exact ⟨us, hc.mono h, e⟩
theorem VRel.cells {M : Mem} {v : SV} {x : Value} (h : VRel M v x) : CRel M v x.cells.toList := by
 obtain ⟨us, hc, rfl⟩ := h;unfold SV.mk
 cases ha : v.isAgg with
 | true => simpa [Value.cells] using hc
 | false =>
  obtain ⟨x, rfl, hx⟩ := hc.one ha;simp [hx]; exact hc
theorem qj {M : Mem} {v : SV} {x : Value} (h : CRel M v [x]) (ha : v.isAgg = false) : VRel M v x := ⟨[x], h, by simp [SV.mk, ha]⟩
theorem VRel.one {M : Mem} {v : SV} {x : Value} (h : VRel M v x) (ha : v.isAgg = false) : CRel M v [x] := by
 obtain ⟨us, hc, rfl⟩ := h;obtain ⟨y, rfl, hy⟩ := hc.one ha
 simpa [SV.mk, ha] using hc
theorem VRel.agg {M : Mem} {cs : List SV} {x : Value} (h : VRel M (.agg cs) x) : ∃ us, x = .agg us.toArray /\ CRelC M cs (ones us) := by
 obtain ⟨us, hc, rfl⟩ := h;exact ⟨us, rfl, by simpa only [CRel] using hc⟩
def SV.flat1 : SV -> Bool
 | .bool _ | .int _ _ | .str _ | .nilp | .nili | .slice [] => true
 | _ => false
def SV.flat : SV -> Bool
 | .bool _ | .int _ _ | .str _ | .nilp | .nili | .slice [] => true
 | .agg cs => cs.all SV.flat1
 | _ => false
theorem qf9 {M : Mem} {us : List Value} (M' : Mem) (h : CRel M (.slice []) us) : CRel M' (.slice []) us := by
 simp only [CRel] at *;obtain ⟨a, len, cap, h1, h2, h3, h4, _⟩ := h;exact ⟨a, len, cap, h1, h2, h3, h4, .inl (by trivial)⟩
theorem CRel.flat1 {M : Mem} {v : SV} {us : List Value} (M' : Mem) (h : CRel M v us) (hf : v.flat1 = true) : CRel M' v us := by
 cases v
 case slice xs =>
  cases xs with
  | nil => exact qf9 M' h
  | cons => simp [SV.flat1] at hf
 all_goals (simp only [CRel] at * <;> first | exact h | simp [SV.flat1] at hf)
theorem CRelC.flat {M : Mem} (M' : Mem) : ∀ {cs : List SV} {uss : List (List Value)}, CRelC M cs uss -> cs.all SV.flat1 = true -> CRelC M' cs uss
 | [], uss, h, _ => by simpa [CRelC] using h
 | c :: cs, uss, h, hf => by
  simp only [CRelC] at *;simp only [List.all_cons, Bool.and_eq_true] at hf;obtain ⟨u, us, e, hc, hr⟩ := h;exact ⟨u, us, e, hc.flat1 M' hf.1, hr.flat M' hf.2⟩
theorem CRel.flat {M : Mem} {v : SV} {us : List Value} (M' : Mem) (h : CRel M v us) (hf : v.flat = true) : CRel M' v us := by
 cases v
 case slice xs =>
  cases xs with
  | nil => exact qf9 M' h
  | cons => simp [SV.flat] at hf
 case agg cs => simp only [SV.flat] at hf; simp only [CRel] at *; exact h.flat M' hf
 all_goals (simp only [SV.flat] at hf; first | (simp at hf; done) | (simp only [CRel] at *; exact h))
theorem VRel.flat {M : Mem} {v : SV} {x : Value} (M' : Mem) (h : VRel M v x) (hf : v.flat = true) : VRel M' v x := by
 obtain ⟨us, hc, e⟩ := h; exact ⟨us, hc.flat M' hf, e⟩
inductive LV where
 | s (v : SV)
 | any
 | loc (b off : Nat)
 | sl (b off len sz : Nat) (clip : Bool)
 | full (xs : List SV)
 | agg (cs : List LV)
 | fn (f : FuncId) (first caps : List LV)
 | tup (vs : List SV)
 | mp (b : Nat)
 | yl (l : Nat)
 deriving Inhabited
inductive ABlock where
 | obj (cs : List LV)
 | row (cs : List SV)
 | frz (cs : List SV)
 | map (ks vs : List SV)
 | frzm (ks vs : List SV)
 | mit (left : List (SV × SV)) (last : Option (SV × SV))
 | mapc (ks vs : List SV) (bs : List Nat) (bm c : Nat)
 | mitx (m bm c : Nat) (S : List Nat)
 | gone
 deriving Inhabited
inductive Spot where
 | gone
 | empty
 | here (cb sh n : Nat)
abbrev Env := List Spot
def LV.isAgg : LV -> Bool
 | .s v => v.isAgg
 | .agg _ => true
 | _ => false
def VRelL (M : Mem) : List SV -> List Value -> Prop
 | [], xs => xs = []
 | v :: vs, xs => ∃ y ys, xs = y :: ys /\ VRel M v y /\ VRelL M vs ys
theorem VRelL.mono {M M' : Mem} (h : M.le M') : ∀ {vs : List SV} {xs : List Value}, VRelL M vs xs -> VRelL M' vs xs
 | [], _, k => k
 | v :: vs, xs, k => by
  obtain ⟨y, ys, e, h1, h2⟩ := k;exact ⟨y, ys, e, h1.mono h, h2.mono h⟩
mutual
def LRel (M : Mem) (ρ : Env) : LV -> List Value -> Prop
 | .s v, us => CRel M v us
 | .any, us => ∀ u ∈ us, u.oneCell' = true
 | .loc b off, us => ∃ cb sh n, ρ[b]? = some (.here cb sh n) /\ us = [.pointer (some ⟨cb, sh + off, none⟩)]
 | .sl b off len sz clip, us => ∃ r a cap, ρ[b]? = some r /\ r ≠ .gone /\ us = [.slice a len cap] /\ len <= cap /\ cap <= maxLen /\ 0 < sz /\ (clip = true -> cap = len) /\
   (cap = 0 \/ ∃ cb sh n, r = .here cb sh n /\ a = some ⟨cb, sh + off, none⟩ /\ sh + off + cap * sz <= n)
 | .full xs, us => ∃ a n, us = [.slice a n n] /\ CRel M (.slice xs) us
 | .agg cs, us => LRelC M ρ cs (ones us)
 | .fn f first caps, us => ∃ fs cs, us = [.func (.func f) fs.toArray cs.toArray] /\ LRelC M ρ first (ones fs) /\ LRelC M ρ caps (ones cs)
 | .tup _, _ => False
 | .mp b, us => ∃ cb sh n, ρ[b]? = some (.here cb sh n) /\ us = [.map (some cb)]
 | .yl l, us => us = [.func (.yield l) #[] #[]]
def LRelC (M : Mem) (ρ : Env) : List LV -> List (List Value) -> Prop
 | [], uss => uss = []
 | c :: cs, uss => ∃ u us, uss = u :: us /\ LRel M ρ c u /\ LRelC M ρ cs us
end
def Env.le (ρ ρ' : Env) : Prop := ∀ (i : Nat) (r : Spot), r ≠ .gone -> ρ[i]? = some r -> ρ'[i]? = some r
theorem Env.le_refl (ρ : Env) : Env.le ρ ρ := fun _ _ _ h => h
theorem Env.le_trans {a b c : Env} (h : Env.le a b) (k : Env.le b c) : Env.le a c := fun i r g x => k i r g (h i r g x)
mutual
theorem LRel.mono {M M' : Mem} {ρ ρ' : Env} (h : M.le M') (hρ : Env.le ρ ρ') : ∀ (v : LV) (us : List Value), LRel M ρ v us -> LRel M' ρ' v us
 | .s v, us, k => by simp only [LRel] at *; exact k.mono h
 | .any, us, k => by simpa only [LRel] using k
 | .loc b off, us, k => by
  simp only [LRel] at *;obtain ⟨cb, sh, n, h1, h2⟩ := k;exact ⟨cb, sh, n, hρ _ _ (by simp) h1, h2⟩
 | .sl b off len sz clip, us, k => by
  simp only [LRel] at *;obtain ⟨r, a, cap, h1, h0, h2⟩ := k;exact ⟨r, a, cap, hρ _ _ h0 h1, h0, h2⟩
 | .full xs, us, k => by
  simp only [LRel] at *;obtain ⟨a, n, e, h1⟩ := k;exact ⟨a, n, e, h1.mono h⟩
 | .agg cs, us, k => by simp only [LRel] at *; exact LRelC.mono h hρ cs _ k
 | .fn f first caps, us, k => by
  simp only [LRel] at *;obtain ⟨fs, cs, e, h1, h2⟩ := k;exact ⟨fs, cs, e, LRelC.mono h hρ first _ h1, LRelC.mono h hρ caps _ h2⟩
 | .tup vs, us, k => by simp only [LRel] at k
 | .yl l, us, k => by simpa only [LRel] using k
 | .mp b, us, k => by
  simp only [LRel] at *;obtain ⟨cb, sh, n, h1, h2⟩ := k;exact ⟨cb, sh, n, hρ _ _ (by simp) h1, h2⟩
theorem LRelC.mono {M M' : Mem} {ρ ρ' : Env} (h : M.le M') (hρ : Env.le ρ ρ') : ∀ (cs : List LV) (uss : List (List Value)), LRelC M ρ cs uss -> LRelC M' ρ' cs uss
 | [], _, k => by simpa [LRelC] using k
 | c :: cs, uss, k => by
  simp only [LRelC] at *;obtain ⟨u, us, e, hc, hr⟩ := k;exact ⟨u, us, e, LRel.mono h hρ c u hc, LRelC.mono h hρ cs us hr⟩
end
theorem LRelC.length {M : Mem} {ρ : Env} : ∀ {cs : List LV} {uss : List (List Value)}, LRelC M ρ cs uss -> uss.length = cs.length
 | [], _, h => by simp [LRelC] at h; simp [h]
 | c :: cs, uss, h => by
  simp only [LRelC] at h;obtain ⟨u, us, rfl, _, hr⟩ := h;simp [hr.length]
theorem LRelC.get {M : Mem} {ρ : Env} : ∀ {cs : List LV} {uss : List (List Value)}, LRelC M ρ cs uss -> ∀ {i : Nat} {c : LV}, cs[i]? = some c -> ∃ u, uss[i]? = some u /\ LRel M ρ c u
 | [], _, _, i, c, hc => by simp at hc
 | c :: cs, uss, h, i, d, hd => by
  simp only [LRelC] at h;obtain ⟨u, us, rfl, hc, hr⟩ := h
  cases i with
  | zero => simp at hd; subst hd; exact ⟨u, by simp, hc⟩
  | succ i => simp at hd; obtain ⟨u', h1, h2⟩ := hr.get hd; exact ⟨u', by simpa using h1, h2⟩
theorem LRelC.append {M : Mem} {ρ : Env} : ∀ {cs ds : List LV} {uss vss : List (List Value)}, LRelC M ρ cs uss -> LRelC M ρ ds vss -> LRelC M ρ (cs ++ ds) (uss ++ vss)
 | [], ds, uss, vss, h, k => by simp [LRelC] at h; subst h; simpa using k
 | c :: cs, ds, uss, vss, h, k => by
  simp only [LRelC] at h;obtain ⟨u, us, rfl, hc, hr⟩ := h;simp only [List.cons_append, LRelC];exact ⟨u, us ++ vss, rfl, hc, hr.append k⟩
theorem LRelC.drop {M : Mem} {ρ : Env} : ∀ {cs : List LV} {uss : List (List Value)} (n : Nat), LRelC M ρ cs uss -> LRelC M ρ (cs.drop n) (uss.drop n)
 | cs, uss, 0, h => by simpa using h
 | [], uss, n + 1, h => by simp [LRelC] at h; subst h; simp [LRelC]
 | c :: cs, uss, n + 1, h => by
  simp only [LRelC] at h;obtain ⟨u, us, rfl, hc, hr⟩ := h
  simpa using hr.drop n
theorem LRelC.take {M : Mem} {ρ : Env} : ∀ {cs : List LV} {uss : List (List Value)} (n : Nat), LRelC M ρ cs uss -> LRelC M ρ (cs.take n) (uss.take n)
 | cs, uss, 0, h => by simp [LRelC]
 | [], uss, n + 1, h => by simp [LRelC] at h; subst h; simp [LRelC]
 | c :: cs, uss, n + 1, h => by
  simp only [LRelC] at h;obtain ⟨u, us, rfl, hc, hr⟩ := h;simp only [List.take_succ_cons, LRelC];exact ⟨u, us.take n, rfl, hc, hr.take n⟩
theorem LRelC.set {M : Mem} {ρ : Env} : ∀ {cs : List LV} {uss : List (List Value)} (i : Nat) {c : LV} {u : List Value}, LRelC M ρ cs uss -> LRel M ρ c u -> LRelC M ρ (cs.set i c) (uss.set i u)
 | [], uss, i, c, u, h, _ => by simp [LRelC] at h; subst h; simp [LRelC]
 | d :: cs, uss, i, c, u, h, k => by
  simp only [LRelC] at h;obtain ⟨u', us, rfl, hc, hr⟩ := h
  cases i with
  | zero => simp only [List.set_cons_zero, LRelC]; exact ⟨u, us, rfl, k, hr⟩
  | succ i => simp only [List.set_cons_succ, LRelC]; exact ⟨u', us.set i u, rfl, hc, hr.set i k⟩
theorem qO {M : Mem} {ρ : Env} : ∀ {cs : List SV} {uss : List (List Value)}, LRelC M ρ (cs.map .s) uss ↔ CRelC M cs uss
 | [], uss => by simp [LRelC, CRelC]
 | c :: cs, uss => by simp only [List.map_cons, LRelC, CRelC, LRel, qO]
theorem LRel.one {M : Mem} {ρ : Env} {v : LV} {us : List Value} (h : LRel M ρ v us) (ha : v.isAgg = false) (hn : v ≠ .any) : ∃ x, us = [x] /\ x.cells = #[x] := by
 cases v <;> simp only [LRel] at h
 case s v => exact h.one (by simpa [LV.isAgg] using ha)
 case agg => simp [LV.isAgg] at ha
 case any => exact absurd rfl hn
 case loc => obtain ⟨cb, sh, n, _, e⟩ := h; exact ⟨_, e, rfl⟩
 case sl => obtain ⟨r, a, cap, _, _, e, _⟩ := h; exact ⟨_, e, rfl⟩
 case full => obtain ⟨a, n, e, _⟩ := h; exact ⟨_, e, rfl⟩
 case fn => obtain ⟨fs, cs, e, _⟩ := h; exact ⟨_, e, rfl⟩
 case mp => obtain ⟨cb, sh, n, _, e⟩ := h; exact ⟨_, e, rfl⟩
 case yl => exact ⟨_, h, rfl⟩
def LVal (M : Mem) (ρ : Env) (v : LV) (x : Value) : Prop :=
 v = .any \/ (∃ (vs : List SV) (xs : List Value), v = .tup vs /\ x = .tuple xs.toArray /\ VRelL M vs xs) \/ ∃ us, LRel M ρ v us /\ x = if v.isAgg then .agg us.toArray else us.headD undef
theorem LVal.mono {M M' : Mem} {ρ ρ' : Env} (h : M.le M') (hρ : Env.le ρ ρ') {v : LV} {x : Value} (k : LVal M ρ v x) : LVal M' ρ' v x := by
 rcases k with k | ⟨vs, xs, e, e', hv⟩ | ⟨us, hc, e⟩
 ·exact .inl k
 ·exact .inr (.inl ⟨vs, xs, e, e', hv.mono h⟩)
 ·exact .inr (.inr ⟨us, hc.mono h hρ, e⟩)
theorem qcz {M : Mem} {ρ : Env} {x : Value} : LVal M ρ .any x := .inl rfl
theorem qi {M : Mem} {ρ : Env} {v : SV} {x : Value} : LVal M ρ (.s v) x ↔ VRel M v x := by
 constructor
 ·rintro (h | ⟨vs, xs, h, _⟩ | ⟨us, h, e⟩)
  ·cases h
  ·cases h
  ·exact ⟨us, by simpa only [LRel] using h, by simpa [SV.mk, LV.isAgg] using e⟩
 ·rintro ⟨us, h, e⟩
  exact .inr (.inr ⟨us, by simpa only [LRel] using h, by simpa [SV.mk, LV.isAgg] using e⟩)
def LV.isTup : LV -> Bool
 | .tup _ => true
 | _ => false
theorem LVal.cells {M : Mem} {ρ : Env} {v : LV} {x : Value} (h : LVal M ρ v x) (hn : v ≠ .any) (ht : v.isTup = false) : LRel M ρ v x.cells.toList := by
 rcases h with h | ⟨vs, xs, rfl, _⟩ | ⟨us, hc, rfl⟩
 ·exact absurd h hn
 ·cases ht
 ·cases ha : v.isAgg with
  | true => simpa [Value.cells] using hc
  | false =>
   obtain ⟨y, rfl, hy⟩ := hc.one ha hn
   simpa [hy] using hc
theorem LVal.one {M : Mem} {ρ : Env} {v : LV} {x : Value} (h : LVal M ρ v x) (ha : v.isAgg = false) (hn : v ≠ .any) (ht : v.isTup = false := by rfl) : LRel M ρ v [x] := by
 rcases h with h | ⟨vs, xs, rfl, _⟩ | ⟨us, hc, rfl⟩
 ·exact absurd h hn
 ·cases ht
 ·obtain ⟨y, rfl, hy⟩ := hc.one ha hn
  simpa [ha] using hc
theorem qh {M : Mem} {ρ : Env} {v : LV} {x : Value} (h : LRel M ρ v [x]) (ha : v.isAgg = false) : LVal M ρ v x := .inr (.inr ⟨[x], h, by simp [ha]⟩)
theorem LVal.agg {M : Mem} {ρ : Env} {cs : List LV} {x : Value} (h : LVal M ρ (.agg cs) x) : ∃ us, x = .agg us.toArray /\ LRelC M ρ cs (ones us) := by
 rcases h with h | ⟨vs, xs, h, _⟩ | ⟨us, hc, rfl⟩
 ·cases h
 ·cases h
 ·exact ⟨us, rfl, by simpa only [LRel] using hc⟩
theorem qbJ {M : Mem} {ρ : Env} {cs : List LV} {us : List Value} (h : LRelC M ρ cs (ones us)) : LVal M ρ (.agg cs) (.agg us.toArray) :=
 .inr (.inr ⟨us, by simpa only [LRel] using h, by simp [LV.isAgg]⟩)
theorem LVal.tup {M : Mem} {ρ : Env} {vs : List SV} {x : Value} (h : LVal M ρ (.tup vs) x) : ∃ xs : List Value, x = .tuple xs.toArray /\ VRelL M vs xs := by
 rcases h with h | ⟨vs', xs, h, e, hv⟩ | ⟨us, hc, _⟩
 ·cases h
 ·cases h; exact ⟨xs, e, hv⟩
 ·simp only [LRel] at hc
theorem qp {M : Mem} {ρ : Env} {vs : List SV} {xs : List Value} (h : VRelL M vs xs) : LVal M ρ (.tup vs) (.tuple xs.toArray) := .inr (.inl ⟨vs, xs, rfl, rfl, h⟩)
mutual
theorem LRel.oneCells {M : Mem} {ρ : Env} : ∀ (v : LV) (us : List Value), LRel M ρ v us -> ∀ u ∈ us, u.oneCell' = true
 | .s v, us, h => by simp only [LRel] at h; exact CRel.oneCells v us h
 | .any, us, h => by simpa only [LRel] using h
 | .loc b off, us, h => by simp only [LRel] at h; obtain ⟨cb, sh, n, _, rfl⟩ := h; simp [Value.oneCell']
 | .sl b off len sz clip, us, h => by simp only [LRel] at h; obtain ⟨r, a, cap, _, _, rfl, _⟩ := h; simp [Value.oneCell']
 | .full xs, us, h => by simp only [LRel] at h; obtain ⟨a, n, rfl, _⟩ := h; simp [Value.oneCell']
 | .agg cs, us, h => by simp only [LRel] at h; exact fun u hu => LRelC.oneCells cs _ h [u] (by simpa [ones] using hu) u (by simp)
 | .fn f first caps, us, h => by simp only [LRel] at h; obtain ⟨fs, cs, rfl, _⟩ := h; simp [Value.oneCell']
 | .tup vs, us, h => by simp only [LRel] at h
 | .mp b, us, h => by simp only [LRel] at h; obtain ⟨cb, sh, n, _, rfl⟩ := h; simp [Value.oneCell']
 | .yl l, us, h => by simp only [LRel] at h; subst h; simp [Value.oneCell']
theorem LRelC.oneCells {M : Mem} {ρ : Env} : ∀ (cs : List LV) (uss : List (List Value)), LRelC M ρ cs uss -> ∀ us ∈ uss, ∀ u ∈ us, u.oneCell' = true
 | [], _, h => by simp only [LRelC] at h; subst h; simp
 | c :: cs, uss, h => by
  simp only [LRelC] at h;obtain ⟨u, us, rfl, hc, hr⟩ := h;intro us' hus
  rcases List.mem_cons.1 hus with rfl | hus
  ·exact LRel.oneCells c _ hc
  ·exact LRelC.oneCells cs us hr us' hus
end
def FRel (M : Mem) (ρ : Env) : List LV -> List Value -> Prop
 | [], xs => xs = []
 | v :: vs, xs => ∃ y ys, xs = y :: ys /\ LVal M ρ v y /\ FRel M ρ vs ys
theorem FRel.mono {M M' : Mem} {ρ ρ' : Env} (h : M.le M') (hρ : Env.le ρ ρ') : ∀ {vs : List LV} {xs : List Value}, FRel M ρ vs xs -> FRel M' ρ' vs xs
 | [], _, k => k
 | v :: vs, xs, k => by
  obtain ⟨y, ys, e, h1, h2⟩ := k;exact ⟨y, ys, e, h1.mono h hρ, h2.mono h hρ⟩
theorem FRel.length {M : Mem} {ρ : Env} : ∀ {vs : List LV} {xs : List Value}, FRel M ρ vs xs -> xs.length = vs.length
 | [], xs, k => by simp [FRel] at k; simp [k]
 | v :: vs, xs, k => by
  obtain ⟨y, ys, rfl, _, h2⟩ := k;simp [h2.length]
theorem FRel.get {M : Mem} {ρ : Env} : ∀ {vs : List LV} {xs : List Value}, FRel M ρ vs xs -> ∀ {i : Nat} {v : LV}, vs[i]? = some v -> ∃ x, xs[i]? = some x /\ LVal M ρ v x
 | [], _, _, i, c, hc => by simp at hc
 | c :: cs, uss, h, i, d, hd => by
  obtain ⟨u, us, rfl, hc, hr⟩ := h
  cases i with
  | zero => simp at hd; subst hd; exact ⟨u, by simp, hc⟩
  | succ i => simp at hd; obtain ⟨u', h1, h2⟩ := hr.get hd; exact ⟨u', by simpa using h1, h2⟩
theorem FRel.set {M : Mem} {ρ : Env} : ∀ {vs : List LV} {xs : List Value} (i : Nat) {v : LV} {x : Value}, FRel M ρ vs xs -> LVal M ρ v x -> FRel M ρ (vs.set i v) (xs.set i x)
 | [], xs, i, c, u, h, _ => by simp [FRel] at h; subst h; simp [FRel]
 | d :: cs, xs, i, c, u, h, k => by
  obtain ⟨u', us, rfl, hc, hr⟩ := h
  cases i with
  | zero => exact ⟨u, us, rfl, k, hr⟩
  | succ i => exact ⟨u', us.set i u, rfl, hc, hr.set i k⟩
theorem FRel.append {M : Mem} {ρ : Env} : ∀ {vs ws : List LV} {xs ys : List Value}, FRel M ρ vs xs -> FRel M ρ ws ys -> FRel M ρ (vs ++ ws) (xs ++ ys)
 | [], ws, xs, ys, h, k => by simp [FRel] at h; subst h; simpa using k
 | v :: vs, ws, xs, ys, h, k => by
  obtain ⟨y, ys', rfl, h1, h2⟩ := h;exact ⟨y, ys' ++ ys, rfl, h1, h2.append k⟩
theorem FRel.map {M : Mem} {ρ : Env} {M' : Mem} {ρ' : Env} (g : LV -> LV) (hg : ∀ v x, LVal M ρ v x -> LVal M' ρ' (g v) x) : ∀ {vs : List LV} {xs : List Value}, FRel M ρ vs xs -> FRel M' ρ' (vs.map g) xs
 | [], xs, h => by simpa [FRel] using h
 | v :: vs, xs, h => by
  obtain ⟨y, ys, rfl, h1, h2⟩ := h;exact ⟨y, ys, rfl, hg _ _ h1, h2.map g hg⟩
def EntsRel (M : Mem) : List (SV × SV) -> List MapEntry -> Prop
 | [], es => es = []
 | x :: l, es => ∃ e es', es = e :: es' /\ VRel M x.1 e.key /\ VRel M x.2 e.val /\ EntsRel M l es'
theorem EntsRel.mono {M M' : Mem} (h : M.le M') : ∀ {l : List (SV × SV)} {es : List MapEntry}, EntsRel M l es -> EntsRel M' l es
 | [], _, k => k
 | x :: l, es, k => by
  obtain ⟨e, es', h1, h2, h3, h4⟩ := k;exact ⟨e, es', h1, h2.mono h, h3.mono h, h4.mono h⟩
def MitRel (M : Mem) (left : List (SV × SV)) (last : Option (SV × SV)) (o : Option Obj) : Prop :=
 (left = [] /\ last = none /\ o = some (.mapIter none 0 #[] 0)) \/
 ∃ bm p seen, M.map bm = some p /\ wfm p /\ o = some (.mapIter (some bm) p.2 seen p.2) /\ (∃ l', l'.Perm left /\ EntsRel M l' (leftOf p.1 seen).toList) /\
  ∀ x, last = some x -> ∃ e ∈ p.1.toList, seen.back? = some e.born /\ VRel M x.1 e.key /\ VRel M x.2 e.val
theorem MitRel.mono {M M' : Mem} (h : M.le M') {left : List (SV × SV)} {last : Option (SV × SV)} {o : Option Obj} (k : MitRel M left last o) : MitRel M' left last o := by
 rcases k with k | ⟨bm, p, seen, h1, h2, h3, h4, h5⟩
 ·exact .inl k
 ·obtain ⟨l', h4, h6⟩ := h4
  refine .inr ⟨bm, p, seen, h.2 _ _ h1, h2, h3, ⟨l', h4, h6.mono h⟩, fun x hx => ?_⟩
  obtain ⟨e, he, hb, hk, hv⟩ := h5 x hx;exact ⟨e, he, hb, hk.mono h, hv.mono h⟩
def BRel (M : Mem) (ρ : Env) (w : World) : ABlock -> Spot -> Prop
 | .obj cs, .here cb sh n => ∃ c T, w.heap[cb]? = some (.cells c T (0, 0)) /\ c.size = n /\ n = cs.length /\ sh = 0 /\ LRelC M ρ cs (ones c.toList) /\ ∀ o, M.cell cb o = none
 | .row cs, .empty => cs = []
 | .row cs, .here cb sh n => ∃ c T, w.heap[cb]? = some (.cells c T (0, 0)) /\ c.size = n /\ sh + cs.length <= n /\ CRelC M cs (ones ((c.toList.drop sh).take cs.length)) /\ ∀ o, M.cell cb o = none
 | .frz cs, .empty => cs = []
 | .frz cs, .here cb sh _ => ∃ us, CRelC M cs (ones us) /\ M.At cb sh us
 | .map ks vs, .here cb _ _ => ∃ es clock kus vus, w.heap[cb]? = some (.map es clock) /\ CRelC M ks kus /\ CRelC M vs vus /\ ks.length = vs.length /\
   es.toList.map (fun e => (e.key, e.val)) = List.zip (List.zipWith SV.mk ks kus) (List.zipWith SV.mk vs vus) /\ M.map cb = none /\ wfm (es, clock)
 | .frzm ks vs, .here cb _ _ => ∃ kus vus es, CRelC M ks kus /\ CRelC M vs vus /\ ks.length = vs.length /\ M.map cb = some es /\ ents es = List.zip (List.zipWith SV.mk ks kus) (List.zipWith SV.mk vs vus) /\ wfm es
 | .mit left last, .here cb sh _ => sh = 0 /\ MitRel M left last w.heap[cb]?
 | .mapc ks vs bs bm clock, .here cb _ _ => cb = bm /\ ∃ es kus vus, es.toList.map (·.born) = bs /\ w.heap[cb]? = some (.map es clock) /\ CRelC M ks kus /\ CRelC M vs vus /\ ks.length = vs.length /\
   es.toList.map (fun e => (e.key, e.val)) = List.zip (List.zipWith SV.mk ks kus) (List.zipWith SV.mk vs vus) /\ M.map cb = none /\ wfm (es, clock)
 | .mitx _ bm c S, .here cb sh _ => sh = 0 /\ ∃ seen : Array Nat, w.heap[cb]? = some (.mapIter (some bm) c seen c) /\ seen.toList.reverse = S
 | .gone, .gone => True
 | _, _ => False
structure SRel (M : Mem) (ρ : Env) (H : List ABlock) (w : World) : Prop where
  len : ρ.length = H.length
  blk : ∀ (i : Nat) (B : ABlock) (r : Spot), H[i]? = some B -> ρ[i]? = some r -> BRel M ρ w B r
  inj : ∀ (i j : Nat) cb sh n cb' sh' n', i ≠ j -> ρ[i]? = some (.here cb sh n) -> ρ[j]? = some (.here cb' sh' n') -> H[i]? ≠ some (.frz []) -> H[j]? ≠ some (.frz []) -> cb ≠ cb'
  lt : ∀ (i : Nat) cb sh n, ρ[i]? = some (.here cb sh n) -> cb < w.heap.size
  cells : ∀ b o v, M.cell b o = some v -> w.cell? ⟨b, o, none⟩ = some v
  maps : ∀ b es, M.map b = some es -> w.heap[b]? = some (.map es.1 es.2)
def Env.has (ρ : Env) (b : Nat) : Prop := ∃ (i sh n : Nat), ρ[i]? = some (.here b sh n)
structure Touch (ρ : Env) (w w' : World) : Prop where
  os : w'.os = w.os
  tape : w'.tape = w.tape
  output : w'.output = w.output
  drawn : w.drawn <= w'.drawn
  size : w.heap.size <= w'.heap.size
  block : ∀ k, k < w.heap.size -> ¬ ρ.has k -> w'.heap[k]? = w.heap[k]?
theorem Touch.refl (ρ : Env) (w : World) : Touch ρ w w := ⟨rfl, rfl, rfl, Nat.le_refl _, Nat.le_refl _, fun _ _ _ => rfl⟩
def Newer (ρ : Env) (w : World) (M M' : Mem) : Prop :=
 (∀ b o v, M'.cell b o = some v -> M.cell b o = some v \/ w.heap.size <= b \/ ρ.has b) /\
 (∀ b es, M'.map b = some es -> M.map b = some es \/ w.heap.size <= b \/ ρ.has b)
theorem Newer.refl (ρ : Env) (w : World) (M : Mem) : Newer ρ w M M := ⟨fun _ _ _ h => .inl h, fun _ _ h => .inl h⟩
def _root_.Go.Obj.isOther : Obj -> Bool
 | .loop _ => true
 | .deferred _ => true
 | _ => false
def NoA : Nat -> Obj -> Prop := fun _ _ => False
structure MInv (A : Nat -> Obj -> Prop) (n0 : Nat) (M0 : Mem) (ρ0 : Env) (w0 : World) (M : Mem) (ρ : Env) (H : List ABlock) (w : World) : Prop where
  rel : SRel M ρ H w
  mem : M0.le M
  nle : n0 <= ρ0.length
  len : ρ0.length <= ρ.length
  env : ∀ i r, i < n0 -> r ≠ .gone -> ρ0[i]? = some r -> ρ[i]? = some r
  gon : ∀ i, i < ρ0.length -> ρ0[i]? = some .gone -> ρ[i]? = some .gone
  touch : Touch ρ0 w0 w
  newer : Newer ρ0 w0 M0 M
  fresh : ∀ i cb sh n, n0 <= i -> ρ[i]? = some (.here cb sh n) -> ρ0.has cb \/ w0.heap.size <= cb
  alien : ∀ k o, A k o -> w.heap[k]? = some o /\ o.isOther = true /\ ¬ ρ.has k
def CSem (P : Program) (f : FuncId) (args : List LV) (H : List ABlock) (r : LV) (H' : List ABlock) : Prop :=
 ∀ (M : Mem) (ρ : Env) (w : World) (vs : List Value), SRel M ρ H w -> FRel M ρ args vs ->
  Calls P f vs.toArray w fun e w' => ∃ v M' ρ', e = .returned v /\ MInv NoA ρ.length M ρ w M' ρ' H' w' /\ LVal M' ρ' r v
/-! ### Frames -/
def fget : List LV -> Nat -> LV
 | [], _ => .any
 | v :: _, 0 => v
 | _ :: vs, n + 1 => fget vs n
def fset : List LV -> Nat -> LV -> List LV
 | [], _, _ => []
 | _ :: vs, 0, x => x :: vs
 | v :: vs, n + 1, x => v :: fset vs n x
def fmask : List Bool -> List LV -> List LV
 | true :: m, v :: vs => v :: fmask m vs
 | false :: m, _ :: vs => .any :: fmask m vs
 | [], vs => vs
 | _, [] => []
/-! References to some blocks are forgotten. -/
mutual
def fgt (p : Nat -> Bool) : LV -> LV
 | .loc b off => if p b then .any else .loc b off
 | .sl b off len sz clip => if p b then .any else .sl b off len sz clip
 | .mp b => if p b then .any else .mp b
 | .yl l => .yl l
 | .agg cs => .agg (fgtL p cs)
 | .fn f first caps => .fn f (fgtL p first) (fgtL p caps)
 | .s v => .s v
 | .any => .any
 | .full xs => .full xs
 | .tup vs => .tup vs
def fgtL (p : Nat -> Bool) : List LV -> List LV
 | [] => []
 | c :: cs => fgt p c :: fgtL p cs
end
def fgtB (p : Nat -> Bool) : ABlock -> ABlock
 | .obj cs => .obj (fgtL p cs)
 | b => b
/-! ### What a value reads as -/
def frzAll (g : LV -> Option SV) : List LV -> Option (List SV)
 | [] => some []
 | c :: cs => match g c with
  | some a => match frzAll g cs with
   | some as => some (a :: as)
   | none => none
  | none => none
def chunk (sz : Nat) : Nat -> List SV -> List SV
 | 0, _ => []
 | n + 1, cs => .agg (cs.take sz) :: chunk sz n (cs.drop sz)
def elems (sz n : Nat) (cs : List SV) : List SV := if sz = 1 then cs.take n else chunk sz n cs
def frzV (H : List ABlock) : Nat -> LV -> Option SV
 | 0, _ => none
 | n + 1, v => match v with
  | .s v => some v
  | .full xs => some (.slice xs)
  | .any => none
  | .tup _ => none
  | .agg cs => (frzAll (frzV H n) cs).map .agg
  | .fn f first caps => match frzAll (frzV H n) first, frzAll (frzV H n) caps with
   | some a, some b => some (.fn f a b)
   | _, _ => none
  | .loc b off => match H[b]? with
   | some (.obj cs) => match frzAll (frzV H n) cs with
    | some cs => if off <= cs.length then some (.ptr (cs.drop off)) else none
    | none => none
   | some (.row cs) | some (.frz cs) => if off <= cs.length then some (.ptr (cs.drop off)) else none
   | _ => none
  | .sl b off len sz _ => match H[b]? with
   | some (.obj cs) => match frzAll (frzV H n) cs with
    | some cs => if off + len * sz <= cs.length then some (.slice (elems sz len (cs.drop off))) else none
    | none => none
   | some (.row cs) | some (.frz cs) => if off + len * sz <= cs.length then some (.slice (elems sz len (cs.drop off))) else none
   | _ => none
  | .yl _ => none
  | .mp b => match H[b]? with
   | some (.map ks vs) | some (.frzm ks vs) => some (.map ks vs)
   | _ => none
def frz (H : List ABlock) (v : LV) : Option SV := frzV H 4 v
def blkCells (g : LV -> Option SV) : Option ABlock -> Option (List SV)
 | some (.obj cs) => frzAll g cs
 | some (.row cs) => some cs
 | some (.frz cs) => some cs
 | _ => none
def SV.cells : SV -> List SV
 | .agg cs => cs
 | v => [v]
def LV.cells : LV -> Option (List LV)
 | .s v => some (v.cells.map .s)
 | .agg cs => some cs
 | .any => none
 | .tup _ => none
 | v => some [v]
def LV.isOne : LV -> Bool
 | .s v => !v.isAgg
 | .agg _ => false
 | .any => false
 | .tup _ => false
 | _ => true
def LV.ofResults : List SV -> LV
 | [v] => .s v
 | vs => .tup vs
/-! ### The kinds of stable values, for '==' -/
inductive Tag where
 | bool | int (k : IntKind) | str | other
 deriving DecidableEq
def SV.tag : SV -> Tag
 | .bool _ => .bool
 | .int k _ => .int k
 | .str _ => .str
 | _ => .other
def eqOk (ts : List Tag) : Bool -> SV -> SV -> Prop
 | true, .agg cs, .agg ds => cs.map SV.tag = ts /\ ds.map SV.tag = ts
 | false, a, b => [a.tag] = ts /\ [b.tag] = ts
 | _, _, _ => False
def inR (k : IntKind) (n : Int) : Prop := k.wrap n = n
/-! ### Operations -/
inductive AX where
 | t (n : Nat)
 | c (v : LV)
def AX.ev (fr : List LV) : AX -> LV
 | .t n => fget fr n
 | .c v => v
inductive AOp where
 | mov (x : AX)
 | pick (c a b : AX)
 | alloc (cells : List LV)
 | boxM (x : AX)
 | boxS (x : AX)
 | build (zero : List LV) (parts : List (Nat × Nat × AX))
 | buildSl (sz n : Nat) (zero : SV) (parts : List (Nat × AX))
 | load (n : Nat) (agg : Bool) (a : AX)
 | store (n : Nat) (a x : AX)
 | nilck (x : AX)
 | arith (op : BinOp) (x y : AX)
 | cmp (op : BinOp) (x y : AX)
 | bits (op : BinOp) (x y : AX)
 | div (op : BinOp) (x y : AX)
 | shift (op : BinOp) (x y : AX)
 | eql (ag : Bool) (ts : List Tag) (ne : Bool) (x y : AX)
 | not (x : AX)
 | neg (x : AX)
 | conv (k : IntKind) (x : AX)
 | mkfn (f : FuncId) (first caps : List AX)
 | slice (sz : Nat) (x : AX) (lo hi mx : Option AX)
 | sliceArr (n sz : Nat) (x : AX) (lo hi : Option AX)
 | fieldAddr (off : Nat) (x : AX)
 | field (off n : Nat) (agg : Bool) (x : AX)
 | idxA (sz : Nat) (x i : AX)
 | idxArrA (n sz : Nat) (x i : AX)
 | idx (n sz : Nat) (agg : Bool) (x i : AX)
 | ext (x : AX) (j : Nat)
 | call (f : FuncId) (args : List AX)
 | callv (f : AX) (args : List AX)
 | len (st : Bool) (x : AX)
 | lenArr (n : Nat)
 | cap (x : AX)
 | append (sz bytes : Nat) (s x : AX)
 | appendN (sz bytes : Nat) (s x : AX)
 | appendM (sz bytes : Nat) (s n : AX)
 | eqNil (ne : Bool) (x : AX)
 | callI (f : FuncId) (args : List AX)
 | callN (sz : Nat) (f : FuncId) (args : List AX)
 | copy (sz : Nat) (d s : AX)
 | clear (sz : Nat) (zero : List SV) (d : AX)
 | max (args : List AX)
 | min (args : List AX)
 | mkslice (sz bytes : Nat) (zero : List SV) (l c : AX)
 | loadO (n : Nat) (agg : Bool) (a : AX)
 | loadX (n : Nat) (agg : Bool) (a : AX) (r : Nat)
 | storeR (n : Nat) (a x : AX)
 | callF (f : FuncId) (s : AX) (args : List AX)
 | frzv (x : AX)
 | appendZ (sz bytes : Nat) (s x : AX)
 | appendY (sz bytes : Nat) (s x : AX)
 | mkmap
 | mget (c : Bool) (ts : List Tag) (zero : SV) (m k : AX)
 | mgetS (c : Bool) (ts : List Tag) (zero : SV) (m k : AX)
 | mset (ts : List Tag) (m k x : AX)
 | mdel (ts : List Tag) (m k : AX)
 | mlen (m : AX)
 | sidx (x i : AX)
 | rangeM (m : AX)
 | nextM (it : AX)
 | entryM (it : AX)
 | callR (f : FuncId) (args : List AX)
 | loadS (n : Nat) (agg : Bool) (a : AX)
 | dead
 | buildR (sz n : Nat) (zero : SV) (parts : List (Nat × AX))
structure AOper where
  dst : Option Nat
  guard : Option (Nat × Bool)
  op : AOp
abbrev AK := LV -> List ABlock -> Option Nat -> Prop -> Prop
def fills : List LV -> List (Nat × Nat × LV) -> Option (List LV)
 | z, [] => some z
 | z, (off, n, v) :: ps => match v.cells with
  | some cs => if cs.length = n /\ off + n <= z.length then fills (z.take off ++ cs ++ z.drop (off + n)) ps else none
  | none => none
def splice {α : Type} (l : List α) (off : Nat) (xs : List α) : List α := l.take off ++ xs ++ l.drop (off + xs.length)
def optEv (fr : List LV) : Option AX -> Option LV
 | some x => some (x.ev fr)
 | none => none
def exO {α : Type} (o : Option α) (f : α -> Prop) : Prop :=
 match o with
 | some a => f a
 | none => False
def boolK (b : Bool) (H : List ABlock) (k : AK) : Prop := k (.s (.bool b)) H none True
def intK (K : IntKind) (n : Int) (H : List ABlock) (k : AK) : Prop := k (.s (.int K n)) H none True
def partS (H : List ABlock) (cs : List SV) (off n : Nat) (k : AK) : Bool -> Prop
 | true => off + n <= cs.length /\ k (.s (.agg ((cs.drop off).take n))) H none True
 | false => exO cs[off]? fun c => c.isAgg = false /\ k (.s c) H none True
def partL (H : List ABlock) (cs : List LV) (off n : Nat) (k : AK) : Bool -> Prop
 | true => off + n <= cs.length /\ k (.agg ((cs.drop off).take n)) H none True
 | false => exO cs[off]? fun c => c.isAgg = false /\ k c H none True
def ldB (H : List ABlock) (off n : Nat) (agg : Bool) (k : AK) : Option ABlock -> Prop
 | some (.obj cs) => partL H cs off n k agg
 | some (.row cs) => partS H cs off n k agg
 | some (.frz cs) => partS H cs off n k agg
 | _ => False
def ldK (H : List ABlock) (n : Nat) (agg : Bool) (k : AK) : LV -> Prop
 | .s (.ptr cs) => partS H cs 0 n k agg
 | .loc b off => ldB H off n agg k H[b]?
 | _ => False
def ldSK (H : List ABlock) (n : Nat) (agg : Bool) (k : AK) : LV -> Prop
 | .s (.ptr cs) => partS H cs 0 n k agg
 | _ => False
def stB (H : List ABlock) (b off n : Nat) (x : LV) (k : AK) : Option ABlock -> Prop
 | some (.obj cs) => exO x.cells fun xs => xs.length = n /\ off + n <= cs.length /\ k (.tup []) (H.set b (.obj (splice cs off xs))) none True
 | some (.row cs) => exO (frz [] x) fun v => v.cells.length = n /\ off + n <= cs.length /\ k (.tup []) (H.set b (.row (splice cs off v.cells))) none True
 | _ => False
def stK (H : List ABlock) (n : Nat) (x : LV) (k : AK) : LV -> Prop
 | .loc b off => stB H b off n x k H[b]?
 | _ => False
def bsplit (A B : Prop) : Bool -> Prop
 | true => A
 | false => B
def pickK (H : List ABlock) (a b : LV) (k : AK) : LV -> Prop
 | .s (.bool t) => bsplit (k a H none True) (k b H none True) t
 | _ => False
def nilckK (H : List ABlock) (k : AK) : LV -> Prop
 | .s (.ptr cs) => k (.s (.ptr cs)) H none True
 | .loc b off => k (.loc b off) H none True
 | _ => False
def arithI (H : List ABlock) (K : IntKind) (a b : Int) (k : AK) : BinOp -> Prop
 | .add => inR K (a + b) /\ intK K (a + b) H k
 | .sub => inR K (a - b) /\ intK K (a - b) H k
 | .mul => inR K (a * b) /\ intK K (a * b) H k
 | _ => False
def arithK (H : List ABlock) (op : BinOp) (k : AK) : LV -> LV -> Prop
 | .s (.int K a), .s (.int K' b) => K = K' /\ arithI H K a b k op
 | _, _ => False
def divI (H : List ABlock) (K : IntKind) (a b : Int) (k : AK) : BinOp -> Prop
 | .quo => inR K (a.tdiv b) /\ intK K (a.tdiv b) H k
 | .rem => intK K (a.tmod b) H k
 | _ => False
def divK (H : List ABlock) (op : BinOp) (k : AK) : LV -> LV -> Prop
 | .s (.int K a), .s (.int K' b) => K = K' /\ b ≠ 0 /\ divI H K a b k op
 | _, _ => False
def bitOf (K : IntKind) (a b : Int) : BinOp -> Int
 | .and => K.wrap ((BitVec.ofInt K.bits a &&& BitVec.ofInt K.bits b).toNat : Int)
 | .or => K.wrap ((BitVec.ofInt K.bits a ||| BitVec.ofInt K.bits b).toNat : Int)
 | .xor => K.wrap ((BitVec.ofInt K.bits a ^^^ BitVec.ofInt K.bits b).toNat : Int)
 | _ => K.wrap ((BitVec.ofInt K.bits a &&& ~~~ BitVec.ofInt K.bits b).toNat : Int)
def bitsK (H : List ABlock) (op : BinOp) (k : AK) : LV -> LV -> Prop
 | .s (.int K a), .s (.int K' b) => K = K' /\ intK K (bitOf K a b op) H k
 | _, _ => False
def shiftI (H : List ABlock) (K : IntKind) (a b : Int) (k : AK) : BinOp -> Prop
 | .shl => inR K (a * 2 ^ b.toNat) /\ intK K (a * 2 ^ b.toNat) H k
 | .shr => intK K (a.fdiv (2 ^ b.toNat)) H k
 | _ => False
def shiftK (H : List ABlock) (op : BinOp) (k : AK) : LV -> LV -> Prop
 | .s (.int K a), .s (.int _ b) => 0 <= b /\ b < K.bits /\ shiftI H K a b k op
 | _, _ => False
def cmpI (H : List ABlock) (a b : Int) (k : AK) : BinOp -> Prop
 | .lss => boolK (decide (a < b)) H k
 | .leq => boolK (decide (a <= b)) H k
 | .gtr => boolK (decide (b < a)) H k
 | .geq => boolK (decide (b <= a)) H k
 | .eql => boolK (decide (a = b)) H k
 | .neq => boolK (!decide (a = b)) H k
 | _ => False
def cmpK (H : List ABlock) (op : BinOp) (k : AK) : LV -> LV -> Prop
 | .s (.int K a), .s (.int K' b) => K = K' /\ cmpI H a b k op
 | _, _ => False
open Classical in
noncomputable def eqlR (H : List ABlock) (a b : SV) (k : AK) : Bool -> Prop
 | true => boolK (!decide (a = b)) H k
 | false => boolK (decide (a = b)) H k
noncomputable def eqlK (H : List ABlock) (ag : Bool) (ts : List Tag) (ne : Bool) (k : AK) (x y : LV) : Prop :=
 exO (frz H x) fun a => exO (frz H y) fun b => eqOk ts ag a b /\ eqlR H a b k ne
def notK (H : List ABlock) (k : AK) : LV -> Prop
 | .s (.bool b) => boolK (!b) H k
 | _ => False
def negK (H : List ABlock) (k : AK) : LV -> Prop
 | .s (.int K n) => inR K (0 - n) /\ intK K (-n) H k
 | _ => False
def convK (H : List ABlock) (K : IntKind) (k : AK) : LV -> Prop
 | .s (.int _ n) => inR K n /\ intK K n H k
 | _ => False
def boundOf (d : Nat) : Option LV -> Option Nat
 | none => some d
 | some (.s (.int _ n)) => if 0 <= n then some n.toNat else none
 | _ => none
def sliceM (H : List ABlock) (h : Nat) (a b : LV) (k : AK) : Option LV -> Prop
 | none => k a H none True
 | some m => boundOf 0 (some m) = some h /\ k b H none True
def szAt (sz l : Nat) (xs : List SV) : Prop := l = 0 \/ ∀ e ∈ xs, e.cells.length = sz
open Classical in
noncomputable def sliceK (H : List ABlock) (sz : Nat) (lo hi mx : Option LV) (k : AK) : LV -> Prop
 | .s (.slice xs) => exO (boundOf 0 lo) fun l => exO (boundOf xs.length hi) fun h => l <= h /\ h <= xs.length /\ szAt sz l xs /\
   sliceM H h (.s (.slice ((xs.drop l).take (h - l)))) (.full ((xs.drop l).take (h - l))) k mx
 | .full xs => exO (boundOf 0 lo) fun l => exO (boundOf xs.length hi) fun h => l <= h /\ h <= xs.length /\ szAt sz l xs /\
   sliceM H h (if h = xs.length then .full (xs.drop l) else .s (.slice ((xs.drop l).take (h - l)))) (.full ((xs.drop l).take (h - l))) k mx
 | .sl b off len sz' clip => sz = sz' /\ exO (boundOf 0 lo) fun l => exO (boundOf len hi) fun h => l <= h /\ h <= len /\
   sliceM H h (.sl b (off + l * sz) (h - l) sz (clip && decide (h = len))) (.sl b (off + l * sz) (h - l) sz true) k mx
 | _ => False
def arrFits (n : Nat) : Option ABlock -> Prop
 | some (.obj cs) => n <= cs.length
 | some (.row cs) => n <= cs.length
 | _ => False
noncomputable def sliceArrK (H : List ABlock) (n sz : Nat) (lo hi : Option LV) (k : AK) (x : LV) : Prop :=
  exO (boundOf 0 lo) fun l => exO (boundOf n hi) fun h => l <= h /\ h <= n /\ 0 < n /\ 0 < sz /\ n <= maxLen /\
  match x with
   | .s (.ptr cs) => n * sz <= cs.length /\ k (if h = n then .full (elems sz (h - l) (cs.drop (l * sz))) else .s (.slice (elems sz (h - l) (cs.drop (l * sz))))) H none True
   | .loc b off => arrFits (off + n * sz) H[b]? /\ k (.sl b (off + l * sz) (h - l) sz (decide (h = n))) H none True
   | _ => False
def idxAI (H : List ABlock) (sz : Nat) (n : Int) (k : AK) : LV -> Prop
 | .s (.slice xs) => exO xs[n.toNat]? fun e => e.cells.length = sz /\ k (.s (.ptr e.cells)) H none True
 | .full xs => exO xs[n.toNat]? fun e => e.cells.length = sz /\ k (.s (.ptr e.cells)) H none True
 | .sl b off len sz' _ => sz = sz' /\ n < len /\ k (.loc b (off + n.toNat * sz)) H none True
 | _ => False
def idxAK (H : List ABlock) (sz : Nat) (x : LV) (k : AK) : LV -> Prop
 | .s (.int _ n) => 0 <= n /\ idxAI H sz n k x
 | _ => False
def idxArrAI (H : List ABlock) (sz : Nat) (n : Int) (k : AK) : LV -> Prop
 | .s (.ptr cs) => n.toNat * sz <= cs.length /\ k (.s (.ptr (cs.drop (n.toNat * sz)))) H none True
 | .loc b off => k (.loc b (off + n.toNat * sz)) H none True
 | _ => False
def idxArrAK (H : List ABlock) (m sz : Nat) (x : LV) (k : AK) : LV -> Prop
 | .s (.int _ n) => 0 <= n /\ n < m /\ idxArrAI H sz n k x
 | _ => False
def fieldAddrK (H : List ABlock) (off : Nat) (k : AK) : LV -> Prop
 | .s (.ptr cs) => off <= cs.length /\ k (.s (.ptr (cs.drop off))) H none True
 | .loc b o => k (.loc b (o + off)) H none True
 | _ => False
def partK (H : List ABlock) (off n : Nat) (agg : Bool) (k : AK) : LV -> Prop
 | .s (.agg cs) => partS H cs off n k agg
 | .agg cs => partL H cs off n k agg
 | _ => False
def idxK (H : List ABlock) (m sz : Nat) (agg : Bool) (x : LV) (k : AK) : LV -> Prop
 | .s (.int _ n) => 0 <= n /\ n < m /\ partK H (n.toNat * sz) sz agg k x
 | _ => False
def extK (H : List ABlock) (j : Nat) (k : AK) : LV -> Prop
 | .tup vs => exO vs[j]? fun v => k (.s v) H none True
 | _ => False
def lenK (H : List ABlock) (k : AK) : Bool -> LV -> Prop
 | false, .s (.slice xs) => k (.s (.int .i64 xs.length)) H none (xs.length <= maxLen)
 | false, .full xs => k (.s (.int .i64 xs.length)) H none (xs.length <= maxLen)
 | false, .sl _ _ len _ _ => k (.s (.int .i64 len)) H none (len <= maxLen)
 | true, .s (.str s) => k (.s (.int .i64 s.size)) H none True
 | _, _ => False
def rowOf (off len sz : Nat) (cs : List SV) : Option (List SV) := if off + len * sz <= cs.length then some (elems sz len (cs.drop off)) else none
def elemsOf (H : List ABlock) : LV -> Option (List SV)
 | .s (.slice xs) => some xs
 | .full xs => some xs
 | .sl b off len sz _ => (blkCells (frz []) H[b]?).bind (rowOf off len sz)
 | _ => none
def flatE (xs : List SV) : List SV := (xs.map SV.cells).flatten
def newRowK (H : List ABlock) (id sz : Nat) (s : LV) (xs ys : List SV) (k : AK) : Prop :=
 (ys = [] -> k s H none True) /\ (ys ≠ [] -> H[id]? = some .gone /\ k (.sl id 0 (xs.length + ys.length) sz false) (H.set id (.row (flatE (xs ++ ys)))) none True)
def fitsE (sz bytes : Nat) (xs ys : List SV) : Prop :=
 (∀ y ∈ xs, y.cells.length = sz) /\ (∀ y ∈ ys, y.cells.length = sz) /\ (xs.length + ys.length) * bytes <= 2 ^ 46 /\ xs.length + ys.length < 2 ^ 60 /\ 0 < sz
def appendNK (H : List ABlock) (id sz bytes : Nat) (x : LV) (k : AK) : LV -> Prop
 | .full xs => exO (elemsOf H x) fun ys => fitsE sz bytes xs ys /\ newRowK H id sz (.full xs) xs ys k
 | .sl b off len sz' true => sz = sz' /\ exO (elemsOf H x) fun ys => exO (elemsOf H (.sl b off len sz' true)) fun xs => fitsE sz bytes xs ys /\
   newRowK H id sz (.sl b off len sz' true) xs ys k
 | _ => False
def appendB (H : List ABlock) (b off len sz bytes : Nat) (ys : List SV) (k : AK) : Option ABlock -> Prop
 | some (.row cs) => off + len * sz = cs.length /\ (len + ys.length) * bytes <= 2 ^ 46 /\ len + ys.length < 2 ^ 60 /\
   k (.sl b 0 (len + ys.length) sz false) (H.set b (.row (cs.drop off ++ flatE ys))) (some b) True
 | _ => False
def appendK0 (H : List ABlock) (n0 id sz bytes : Nat) (x : LV) (k : AK) : LV -> Prop
 | .sl b off len sz' false => sz = sz' /\ n0 <= b /\ exO (elemsOf H x) fun ys => (∀ y ∈ ys, y.cells.length = sz) /\ appendB H b off len sz bytes ys k H[b]?
 | .sl b off len sz' true => appendNK H id sz bytes x k (.sl b off len sz' true)
 | .full xs => appendNK H id sz bytes x k (.full xs)
 | _ => False
def unclip (n0 : Nat) : LV -> LV
 | .sl b off len sz true => if n0 <= b then .sl b off len sz false else .sl b off len sz true
 | v => v
def appendK (H : List ABlock) (n0 id sz bytes : Nat) (x : LV) (k : AK) (v : LV) : Prop := appendK0 H n0 id sz bytes x k (unclip n0 v)
theorem LVal.unclip {M : Mem} {ρ : Env} {v : LV} {y : Value} (n0 : Nat) (h : LVal M ρ v y) : LVal M ρ (unclip n0 v) y := by
 unfold E.unclip
 split
 ·rename_i b off len sz
  split
  ·rcases h with h | ⟨vs, xs, e, _⟩ | ⟨us, h1, h2⟩
   ·cases h
   ·cases e
   ·refine .inr (.inr ⟨us, ?_, h2⟩)
    simp only [LRel] at h1 ⊢;obtain ⟨r, a, cap, g1, g2, g3, g4, g5, g6, _, g7⟩ := h1;exact ⟨r, a, cap, g1, g2, g3, g4, g5, g6, fun e => (by cases e), g7⟩
  ·exact h
 ·exact h
def copyB (H : List ABlock) (b off len sz : Nat) (ys : List SV) (k : AK) : Option ABlock -> Prop
 | some (.row cs) => off + len * sz <= cs.length /\ k (.s (.int .i64 (Nat.min ys.length len : Nat))) (H.set b (.row (splice cs off (flatE (ys.take len))))) none True
 | some (.obj cs) => off + len * sz <= cs.length /\ k (.s (.int .i64 (Nat.min ys.length len : Nat))) (H.set b (.obj (splice cs off ((flatE (ys.take len)).map .s)))) none True
 | _ => False
def copyK (H : List ABlock) (sz : Nat) (s : LV) (k : AK) : LV -> Prop
 | .sl b off len sz' _ => sz = sz' /\ exO (elemsOf H s) fun ys => (∀ y ∈ ys, y.cells.length = sz) /\ copyB H b off len sz ys k H[b]?
 | .full [] => exO (elemsOf H s) fun _ => k (.s (.int .i64 0)) H none True
 | _ => False
def clearB (H : List ABlock) (b off len sz : Nat) (zero : List SV) (k : AK) : Option ABlock -> Prop
 | some (.row cs) => off + len * sz <= cs.length /\ k (.tup []) (H.set b (.row (splice cs off (List.replicate len zero).flatten))) none True
 | some (.obj cs) => off + len * sz <= cs.length /\ k (.tup []) (H.set b (.obj (splice cs off ((List.replicate len zero).flatten.map .s)))) none True
 | _ => False
def clearK (H : List ABlock) (sz : Nat) (zero : List SV) (k : AK) : LV -> Prop
 | .sl b off len sz' _ => sz = sz' /\ zero.length = sz /\ clearB H b off len sz zero k H[b]?
 | .full [] => k (.tup []) H none True
 | _ => False
def kindOf : List LV -> IntKind
 | .s (.int K _) :: _ => K
 | _ => .i64
def intsOf (K : IntKind) : List LV -> Option (List Int)
 | [] => some []
 | .s (.int K' n) :: vs => if K' = K then (match intsOf K vs with
  | some ns => some (n :: ns)
  | none => none) else none
 | _ => none
def maxL : List Int -> Int
 | [] => 0
 | n :: ns => ns.foldl (fun a b => if b > a then b else a) n
def minL : List Int -> Int
 | [] => 0
 | n :: ns => ns.foldl (fun a b => if b < a then b else a) n
def mksliceK (H : List ABlock) (id sz bytes : Nat) (zero : List SV) (k : AK) : LV -> LV -> Prop
 | .s (.int .i64 n), .s (.int .i64 m) => 0 <= n /\ n <= m /\ m * bytes <= 2 ^ 46 /\ m < 2 ^ 60 /\ zero.length = sz /\ 0 < sz /\
   H[id]? = some .gone /\ k (.sl id 0 n.toNat sz (decide (n = m))) (H.set id (.row (List.replicate n.toNat zero).flatten)) none True
 | _, _ => False
def eqNilK (H : List ABlock) (ne : Bool) (k : AK) : Option (List SV) -> Prop
 | some xs => (xs = [] -> boolK (!ne) H k) /\ boolK ne H k
 | none => False
def retOf : List Value -> Value
 | [x] => x
 | xs => .tuple xs.toArray
def Holds (M : Mem) (w : World) : Prop :=
 (∀ b o v, M.cell b o = some v -> w.cell? ⟨b, o, none⟩ = some v) /\
 (∀ b es, M.map b = some es -> w.heap[b]? = some (.map es.1 es.2))
def Fn (P : Program) (f : FuncId) (args rs : List SV) : Prop :=
 ∀ (M : Mem) (w : World) (vs : List Value), Holds M w -> VRelL M args vs ->
  Calls P f vs.toArray w fun e w' => ∃ xs M', e = .returned (retOf xs) /\ M.le M' /\ Holds M' w' /\ VRelL M' rs xs /\ Touch [] w w' /\ Newer [] w M M'
def FnNew (P : Program) (f : FuncId) (sz : Nat) (args : List LV) (xs : List SV) : Prop :=
 ∀ (M : Mem) (w : World) (vs : List Value), Holds M w -> FRel M [] args vs ->
  Calls P f vs.toArray w fun e w' => ∃ a cap M', e = .returned (.slice a xs.length cap) /\ M.le M' /\ Holds M' w' /\ Touch [] w w' /\ Newer [] w M M' /\ xs.length <= cap /\ cap <= maxLen /\ (xs = [] -> cap = 0) /\
   (cap = 0 \/ ∃ cb sh c T, a = some ⟨cb, sh, none⟩ /\ w.heap.size <= cb /\ w'.heap[cb]? = some (.cells c T (0, 0)) /\ sh + cap * sz <= c.size /\ (∀ o, M'.cell cb o = none) /\
    CRelC M' (flatE xs) (ones ((c.toList.drop sh).take (flatE xs).length)))
def freshR (P : Program) (f : FuncId) (as rs : List SV) : Prop :=
 ∃ xs, rs = [.slice xs] /\ FnNew P f 1 (as.map .s) xs /\ flatE xs = xs /\ xs.all SV.flat1 = true
def callK (P : Program) (H : List ABlock) (f : FuncId) (args : List LV) (k : AK) : Prop :=
 ∃ as rs, frzAll (frz H) args = some as /\ Fn P f as rs /\ (rs.all SV.flat = true \/ frzAll (frz []) args = some as \/ freshR P f as rs) /\ k (LV.ofResults rs) H none True
def LV.isSF : LV -> Bool
 | .s _ | .full _ => true
 | _ => false
def argsN (args as : List LV) : Prop := (as = args /\ args.all LV.isSF = true) \/ ∃ vs, frzAll (frz []) args = some vs /\ as = vs.map .s
def FnRoom (P : Program) (f : FuncId) (sz : Nat) (args : List LV) : Prop :=
 ∀ (M : Mem) (w : World) (vs : List Value), Holds M w -> FRel M [] args vs ->
  Calls P f vs.toArray w fun e w' => ∃ a cap M', e = .returned (.slice a 0 cap) /\ M.le M' /\ Holds M' w' /\ Touch [] w w' /\ Newer [] w M M' /\ cap <= maxLen /\
   (cap = 0 \/ ∃ cb sh c T, a = some ⟨cb, sh, none⟩ /\ w.heap.size <= cb /\ w'.heap[cb]? = some (.cells c T (0, 0)) /\ sh + cap * sz <= c.size /\ ∀ o, M'.cell cb o = none)
def roomK (P : Program) (H : List ABlock) (id sz : Nat) (f : FuncId) (args : List LV) (k : AK) : Prop :=
 ∃ as, FnRoom P f sz as /\ argsN args as /\ 0 < sz /\ H[id]? = some .gone /\ k (.sl id 0 0 sz false) (H.set id (.row [])) none True
def callNK (P : Program) (H : List ABlock) (id sz : Nat) (f : FuncId) (args : List LV) (k : AK) : Prop :=
 roomK P H id sz f args k \/
 ∃ as xs, FnNew P f sz as xs /\ argsN args as /\ 0 < sz /\ (∀ x ∈ xs, x.cells.length = sz) /\
  H[id]? = some .gone /\ (if xs = [] then k (.full []) H none True else k (.sl id 0 xs.length sz false) (H.set id (.row (flatE xs))) none True)
def okFn (P : Program) (f : FuncId) : Bool :=
 match P.funcs[f]? with
 | some fn => fn.body.isSome && !(fn.name == "runtime.NumGoroutine")
 | none => false
def callvK (P : Program) (H : List ABlock) (args : List LV) (k : AK) : LV -> Prop
 | .s (.fn g first caps) => okFn P g = true /\ ((first.map LV.s).all LV.isOne && (caps.map LV.s).all LV.isOne) = true /\ callK P H g (first.map .s ++ args ++ caps.map .s) k
 | .fn g first caps => okFn P g = true /\ (first.all LV.isOne && caps.all LV.isOne) = true /\ callK P H g (first ++ args ++ caps) k
 | _ => False
def ldOB (H : List ABlock) (off n : Nat) (agg : Bool) (k : AK) : Option ABlock -> Prop
 | some (.obj cs) => partL H cs off n k agg
 | _ => False
def ldOK (H : List ABlock) (n : Nat) (agg : Bool) (k : AK) : LV -> Prop
 | .s (.ptr cs) => partS H cs 0 n k agg
 | .loc b off => ldOB H off n agg k H[b]?
 | _ => False
def stRB (H : List ABlock) (b off n : Nat) (x : LV) (k : AK) : Option ABlock -> Prop
 | some (.row cs) => exO (frz [] x) fun v => v.cells.length = n /\ off + n <= cs.length /\ k (.tup []) (H.set b (.row (splice cs off v.cells))) none True
 | _ => False
def stRK (H : List ABlock) (n : Nat) (x : LV) (k : AK) : LV -> Prop
 | .loc b off => stRB H b off n x k H[b]?
 | _ => False
def callFB (P : Program) (H : List ABlock) (f : FuncId) (b off len sz : Nat) (clip : Bool) (args : List LV) (k : AK) : Option ABlock -> Prop
 | some (.row cs) => ∃ as cs' o' l' c' ys, frzAll (frz (H.set b .gone)) args = some as /\ CSem P f (.sl 0 off len sz clip :: as.map .s) [.row cs] (.sl 0 o' l' sz c') [.row cs'] /\
   rowOf o' l' sz cs' = some ys /\ cs'.all SV.flat1 = true /\ k (.s (.slice ys)) (H.set b (.frz cs')) none True
 | _ => False
def callFK (P : Program) (H : List ABlock) (f : FuncId) (args : List LV) (k : AK) : LV -> Prop
 | .sl b off len sz clip => callFB P H f b off len sz clip args k H[b]?
 | .full xs => callK P H f (.full xs :: args) k
 | .s v => callK P H f (.s v :: args) k
 | _ => False
def frzvB (H : List ABlock) (b off len sz : Nat) (k : AK) : Option ABlock -> Prop
 | some (.row cs) => ∃ ys, rowOf off len sz cs = some ys /\ k (.s (.slice ys)) (H.set b (.frz cs)) none True
 | _ => False
def frzvM (H : List ABlock) (b : Nat) (k : AK) : Option ABlock -> Prop
 | some (.mapc ks vs _ _ _) => k (.mp b) (H.set b (.map ks vs)) none True
 | _ => False
def frzvK (H : List ABlock) (k : AK) : LV -> Prop
 | .sl b off len sz _ => frzvB H b off len sz k H[b]?
 | .mp b => frzvM H b k H[b]?
 | .full xs => k (.s (.slice xs)) H none True
 | .s v => k (.s v) H none True
 | _ => False
/-! Maps whose keys are structs of numbers. -/
open Classical in
noncomputable def mFind (kv : SV) : List SV -> Option Nat
 | [] => none
 | k :: ks => if kv = k then some 0 else (mFind kv ks).map (· + 1)
def keyOk (ts : List Tag) (kv : SV) (ks : List SV) : Prop := eqOk ts true kv kv /\ ∀ x ∈ ks, eqOk ts true kv x
def mgetV (H : List ABlock) (c : Bool) (v : SV) (ok : Bool) (k : AK) : Prop :=
 bsplit (k (.tup [v, .bool ok]) H none True) (k (.s v) H none True) c
def mgetI (H : List ABlock) (c : Bool) (zero : SV) (vs : List SV) (k : AK) : Option Nat -> Prop
 | some i => exO vs[i]? fun v => mgetV H c v true k
 | none => mgetV H c zero false k
noncomputable def mgetB (H : List ABlock) (c : Bool) (ts : List Tag) (zero kv : SV) (k : AK) : Option ABlock -> Prop
 | some (.map ks vs) => keyOk ts kv ks /\ mgetI H c zero vs k (mFind kv ks)
 | _ => False
noncomputable def mgetK (H : List ABlock) (c : Bool) (ts : List Tag) (zero : SV) (kx : LV) (k : AK) : LV -> Prop
 | .mp b => exO (frz [] kx) fun kv => mgetB H c ts zero kv k H[b]?
 | .s (.map ks vs) => exO (frz [] kx) fun kv => keyOk ts kv ks /\ ks.Nodup /\ mgetI H c zero vs k (mFind kv ks)
 | _ => False
noncomputable def mgetSK (H : List ABlock) (c : Bool) (ts : List Tag) (zero : SV) (kx : LV) (k : AK) : LV -> Prop
 | .s (.map ks vs) => mgetK H c ts zero kx k (.s (.map ks vs))
 | _ => False
def mPut (kv v : SV) (ks vs : List SV) : Option Nat -> ABlock
 | some i => .map ks (vs.set i v)
 | none => .map (ks ++ [kv]) (vs ++ [v])
noncomputable def msetB (H : List ABlock) (b : Nat) (ts : List Tag) (kv v : SV) (k : AK) : Option ABlock -> Prop
 | some (.map ks vs) => keyOk ts kv ks /\ k (.tup []) (H.set b (mPut kv v ks vs (mFind kv ks))) none True
 | _ => False
noncomputable def msetK (H : List ABlock) (ts : List Tag) (kx x : LV) (k : AK) : LV -> Prop
 | .mp b => exO (frz [] kx) fun kv => exO (frz [] x) fun v => msetB H b ts kv v k H[b]?
 | _ => False
def mCut (ks vs : List SV) : Option Nat -> ABlock
 | some i => .map (ks.eraseIdx i) (vs.eraseIdx i)
 | none => .map ks vs
def mCutC (ks vs : List SV) (bs : List Nat) (bm c : Nat) : Option Nat -> ABlock
 | some i => .mapc (ks.eraseIdx i) (vs.eraseIdx i) (bs.eraseIdx i) bm c
 | none => .mapc ks vs bs bm c
noncomputable def mdelB (H : List ABlock) (b : Nat) (ts : List Tag) (kv : SV) (k : AK) : Option ABlock -> Prop
 | some (.map ks vs) => keyOk ts kv ks /\ k (.tup []) (H.set b (mCut ks vs (mFind kv ks))) none True
 | some (.mapc ks vs bs bm c) => keyOk ts kv ks /\ k (.tup []) (H.set b (mCutC ks vs bs bm c (mFind kv ks))) none True
 | _ => False
noncomputable def mdelK (H : List ABlock) (ts : List Tag) (kx : LV) (k : AK) : LV -> Prop
 | .mp b => exO (frz [] kx) fun kv => mdelB H b ts kv k H[b]?
 | _ => False
def mlenB (H : List ABlock) (k : AK) : Option ABlock -> Prop
 | some (.map ks _) => intK .i64 ks.length H k
 | _ => False
def mlenK (H : List ABlock) (k : AK) : LV -> Prop
 | .mp b => mlenB H k H[b]?
 | .s (.map ks _) => intK .i64 ks.length H k
 | _ => False
/-! Ranges over stable maps: any order. Ranges over own maps, too: each entry has a stamp, and those that came are kept. -/
def rangeX (H : List ABlock) (id b : Nat) (k : AK) : Option ABlock -> Prop
 | some (.map ks vs) => ∀ (bs : List Nat) (bm c : Nat), bs.length = ks.length -> bs.Nodup -> k (.loc id 0) ((H.set b (.mapc ks vs bs bm c)).set id (.mitx b bm c [])) none True
 | _ => False
def rangeMK (H : List ABlock) (id : Nat) (k : AK) : LV -> Prop
 | .s (.map ks vs) => H[id]? = some .gone /\ k (.loc id 0) (H.set id (.mit (ks.zip vs) none)) none True
 | .mp b => H[id]? = some .gone /\ rangeX H id b k H[b]?
 | _ => False
def nextX (H : List ABlock) (b m bm c : Nat) (S : List Nat) (k : AK) : Option ABlock -> Prop
 | some (.mapc ks vs bs bm' c') => bm' = bm /\ c' = c /\ ((∀ s ∈ bs, s ∈ S) -> k (.tup [.bool false]) H none True) /\
   ∀ (i s : Nat) key v, ks[i]? = some key -> vs[i]? = some v -> bs[i]? = some s -> s ∉ S -> k (.tup [.bool true, key, v]) (H.set b (.mitx m bm c (s :: S))) none True
 | _ => False
def nextMB (H : List ABlock) (b : Nat) (k : AK) : Option ABlock -> Prop
 | some (.mitx m bm c S) => nextX H b m bm c S k H[m]?
 | some (.mit left _) => (left = [] -> k (.tup [.bool false]) H none True) /\
   ∀ l1 e l2, left = l1 ++ e :: l2 -> k (.tup [.bool true, e.1, e.2]) (H.set b (.mit (l1 ++ l2) (some e))) none True
 | _ => False
def nextMK (H : List ABlock) (k : AK) : LV -> Prop
 | .loc b 0 => nextMB H b k H[b]?
 | _ => False
def entryX (H : List ABlock) (bm c : Nat) (S : List Nat) (k : AK) : Option ABlock -> Prop
 | some (.mapc ks vs bs bm' c') => bm' = bm /\ c' = c /\ ∃ (i s : Nat) (S' : List Nat) (key v : SV), S = s :: S' /\ ks[i]? = some key /\ vs[i]? = some v /\ bs[i]? = some s /\ k (.tup [key, v]) H none True
 | _ => False
def entryMB (H : List ABlock) (k : AK) : Option ABlock -> Prop
 | some (.mitx m bm c S) => entryX H bm c S k H[m]?
 | some (.mit _ (some e)) => k (.tup [e.1, e.2]) H none True
 | _ => False
def entryMK (H : List ABlock) (k : AK) : LV -> Prop
 | .loc b 0 => entryMB H k H[b]?
 | _ => False
def FnR (P : Program) (f : FuncId) (args : List SV) (R : List SV -> Prop) : Prop :=
 ∀ (M : Mem) (w : World) (vs : List Value), Holds M w -> VRelL M args vs ->
  Calls P f vs.toArray w fun e w' => ∃ xs M' rs, R rs /\ e = .returned (retOf xs) /\ M.le M' /\ Holds M' w' /\ VRelL M' rs xs /\ Touch [] w w' /\ Newer [] w M M'
theorem Fn.fnR {P : Program} {f : FuncId} {args rs : List SV} {R : List SV -> Prop} (h : Fn P f args rs) (hr : R rs) : FnR P f args R :=
 fun M w vs hM hv => (h M w vs hM hv).mono fun _ _ ⟨xs, M', h1, h2⟩ => ⟨xs, M', rs, hr, h1, h2⟩
def callRK (P : Program) (H : List ABlock) (f : FuncId) (args : List LV) (k : AK) : Prop :=
 ∃ as R, FnR P f as R /\ frzAll (frz []) args = some as /\ ∀ rs, R rs -> k (LV.ofResults rs) H none True
def sidxK (H : List ABlock) (k : AK) : LV -> LV -> Prop
 | .s (.str s), .s (.int _ n) => 0 <= n /\ exO s.data[n.toNat]? fun b => intK .u8 b.toNat H k
 | _, _ => False
def stabE : LV -> Option (List SV)
 | .full ys => some ys
 | .s (.slice ys) => some ys
 | _ => none
def appendYB (H : List ABlock) (id b off len sz bytes : Nat) (ys : List SV) (k : AK) : Option ABlock -> Prop
 | some (.row cs) => off + len * sz = cs.length /\ (len + ys.length) * bytes <= 2 ^ 46 /\ len + ys.length < 2 ^ 60 /\ ys ≠ [] /\ H[id]? = some .gone /\
   k (.sl id 0 (len + ys.length) sz false) ((H.set b (.frz [])).set id (.row (cs.drop off ++ flatE ys))) none True
 | _ => False
def appendYK (H : List ABlock) (n0 id sz bytes : Nat) (x : LV) (k : AK) : LV -> Prop
 | .sl b off len sz' false => sz = sz' /\ n0 <= b /\ exO (stabE x) fun ys => (∀ y ∈ ys, y.cells.length = sz) /\ appendYB H id b off len sz bytes ys k H[b]?
 | _ => False
def appendZB (H : List ABlock) (b off len sz bytes : Nat) (ys : List SV) (k : AK) : Option ABlock -> Prop
 | some (.row cs) => off + len * sz = cs.length /\ (len + ys.length) * bytes <= 2 ^ 46 /\ len + ys.length < 2 ^ 60 /\ 0 < len /\ ys ≠ [] /\
   ∃ xs, rowOf off len sz cs = some xs /\ (∀ x ∈ xs, x.cells.length = sz) /\ k (.s (.slice (xs ++ ys))) (H.set b (.frz [])) none True
 | _ => False
def appendZK (H : List ABlock) (sz bytes : Nat) (x : LV) (k : AK) : LV -> Prop
 | .sl b off len sz' _ => sz = sz' /\ exO (elemsOf H x) fun ys => (∀ y ∈ ys, y.cells.length = sz) /\ appendZB H b off len sz bytes ys k H[b]?
 | .full xs => exO (elemsOf H x) fun ys => fitsE sz bytes xs ys /\ ys ≠ [] /\ k (.s (.slice (xs ++ ys))) H none True
 | _ => False
def apX : LV -> LV -> Prop
 | .loc b _, .loc c _ => b ≠ c
 | _, _ => False
def capK (H : List ABlock) (k : AK) : LV -> Prop
 | .full xs => k (.s (.int .i64 xs.length)) H none (xs.length <= maxLen)
 | _ => False
def appendMK (H : List ABlock) (id sz bytes : Nat) (k : AK) : LV -> LV -> Prop
 | .full [], .s (.int .i64 m) => 0 < m /\ m.toNat * bytes <= 2 ^ 46 /\ m < 2 ^ 60 /\ 0 < sz /\ H[id]? = some .gone /\ k (.sl id 0 m.toNat sz false) (H.set id (.row [])) none True
 | _, _ => False
noncomputable def aop (P : Program) (n0 id : Nat) (fr : List LV) (H : List ABlock) : AOp -> AK -> Prop
 | .mov x, k => k (x.ev fr) H none True
 | .pick c a b, k => pickK H (a.ev fr) (b.ev fr) k (c.ev fr)
 | .alloc cells, k => H[id]? = some .gone /\ k (.loc id 0) (H.set id (.obj cells)) none True
 | .boxM x, k => exO (x.ev fr).cells fun cs => H[id]? = some .gone /\ k (.loc id 0) (H.set id (.obj cs)) none True
 | .boxS x, k => exO (frz [] (x.ev fr)) fun v => k (.s (.ptr v.cells)) H none True
 | .build zero parts, k => exO (fills zero (parts.map fun p => (p.1, p.2.1, p.2.2.ev fr))) fun cs => k (.agg cs) H none True
 | .buildSl sz n zero parts, k => n <= 2 ^ 20 /\ n * sz <= 2 ^ 24 /\ exO (frzAll (frz []) (parts.map fun p => p.2.ev fr)) fun xs => parts.map (·.1) = List.range n /\ (∀ e ∈ xs, e.cells.length = sz) /\ zero.cells.length = sz /\
   k (.full xs) H none True
 | .load n agg a, k => ldK H n agg k (a.ev fr)
 | .store n a x, k => stK H n (x.ev fr) k (a.ev fr)
 | .nilck x, k => nilckK H k (x.ev fr)
 | .arith op x y, k => arithK H op k (x.ev fr) (y.ev fr)
 | .cmp op x y, k => cmpK H op k (x.ev fr) (y.ev fr)
 | .bits op x y, k => bitsK H op k (x.ev fr) (y.ev fr)
 | .div op x y, k => divK H op k (x.ev fr) (y.ev fr)
 | .shift op x y, k => shiftK H op k (x.ev fr) (y.ev fr)
 | .eql ag ts ne x y, k => eqlK H ag ts ne k (x.ev fr) (y.ev fr)
 | .not x, k => notK H k (x.ev fr)
 | .neg x, k => negK H k (x.ev fr)
 | .conv K x, k => convK H K k (x.ev fr)
 | .mkfn f first caps, k => ((first.map (·.ev fr)).all LV.isOne && (caps.map (·.ev fr)).all LV.isOne) = true /\ k (.fn f (first.map (·.ev fr)) (caps.map (·.ev fr))) H none True
 | .slice sz x lo hi mx, k => sliceK H sz (optEv fr lo) (optEv fr hi) (optEv fr mx) k (x.ev fr)
 | .sliceArr n sz x lo hi, k => sliceArrK H n sz (optEv fr lo) (optEv fr hi) k (x.ev fr)
 | .fieldAddr off x, k => fieldAddrK H off k (x.ev fr)
 | .field off n agg x, k => partK H off n agg k (x.ev fr)
 | .idxA sz x i, k => idxAK H sz (x.ev fr) k (i.ev fr)
 | .idxArrA n sz x i, k => idxArrAK H n sz (x.ev fr) k (i.ev fr)
 | .idx n sz agg x i, k => idxK H n sz agg (x.ev fr) k (i.ev fr)
 | .ext x j, k => extK H j k (x.ev fr)
 | .call f args, k => callK P H f (args.map (·.ev fr)) k
 | .callv f args, k => callvK P H (args.map (·.ev fr)) k (f.ev fr)
 | .callN sz f args, k => callNK P H id sz f (args.map (·.ev fr)) k
 | .callI f args, k => ∃ r H', CSem P f (args.map (·.ev fr)) H r H' /\ k r H' none True
 | .len st x, k => lenK H k st (x.ev fr)
 | .lenArr n, k => k (.s (.int .i64 n)) H none True
 | .cap x, k => capK H k (x.ev fr)
 | .append sz bytes s x, k => appendK H n0 id sz bytes (x.ev fr) k (s.ev fr)
 | .appendN sz bytes s x, k => appendNK H id sz bytes (x.ev fr) k (s.ev fr)
 | .appendM sz bytes s x, k => appendMK H id sz bytes k (s.ev fr) (x.ev fr)
 | .eqNil ne x, k => eqNilK H ne k (elemsOf H (x.ev fr))
 | .copy sz d s, k => copyK H sz (s.ev fr) k (d.ev fr)
 | .clear sz zero d, k => clearK H sz zero k (d.ev fr)
 | .max args, k => exO (intsOf (kindOf (args.map (·.ev fr))) (args.map (·.ev fr))) fun ns => ns ≠ [] /\ intK (kindOf (args.map (·.ev fr))) (maxL ns) H k
 | .min args, k => exO (intsOf (kindOf (args.map (·.ev fr))) (args.map (·.ev fr))) fun ns => ns ≠ [] /\ intK (kindOf (args.map (·.ev fr))) (minL ns) H k
 | .mkslice sz bytes zero l c, k => mksliceK H id sz bytes zero k (l.ev fr) (c.ev fr)
 | .loadO n agg a, k => ldOK H n agg k (a.ev fr)
 | .loadX n agg a r, k => apX (fget fr r) (a.ev fr) /\ ldOK H n agg k (a.ev fr)
 | .storeR n a x, k => stRK H n (x.ev fr) k (a.ev fr)
 | .callF f s args, k => callFK P H f (args.map (·.ev fr)) k (s.ev fr)
 | .frzv x, k => frzvK H k (x.ev fr)
 | .appendZ sz bytes s x, k => appendZK H sz bytes (x.ev fr) k (s.ev fr)
 | .appendY sz bytes s x, k => appendYK H n0 id sz bytes (x.ev fr) k (s.ev fr)
 | .mkmap, k => H[id]? = some .gone /\ k (.mp id) (H.set id (.map [] [])) none True
 | .mget c ts zero m kx, k => mgetK H c ts zero (kx.ev fr) k (m.ev fr)
 | .mgetS c ts zero m kx, k => mgetSK H c ts zero (kx.ev fr) k (m.ev fr)
 | .mset ts m kx x, k => msetK H ts (kx.ev fr) (x.ev fr) k (m.ev fr)
 | .mdel ts m kx, k => mdelK H ts (kx.ev fr) k (m.ev fr)
 | .mlen m, k => mlenK H k (m.ev fr)
 | .sidx x i, k => sidxK H k (x.ev fr) (i.ev fr)
 | .rangeM m, k => rangeMK H id k (m.ev fr)
 | .nextM it, k => nextMK H k (it.ev fr)
 | .entryM it, k => entryMK H k (it.ev fr)
 | .callR f args, k => callRK P H f (args.map (·.ev fr)) k
 | .loadS n agg a, k => ldSK H n agg k (a.ev fr)
 | .dead, k => False /\ k (.tup []) H none True
 | .buildR sz n zero parts, k => n <= 2 ^ 20 /\ n * sz <= 2 ^ 24 /\ 0 < sz /\ exO (frzAll (frz []) (parts.map fun p => p.2.ev fr)) fun xs => parts.map (·.1) = List.range n /\ (∀ e ∈ xs, e.cells.length = sz) /\ zero.cells.length = sz /\
   H[id]? = some .gone /\ k (.sl id 0 n sz false) (H.set id (.row (flatE xs))) none True
structure AState where
  fr : List LV
  hp : List ABlock
def AState.put (fr : List LV) (H : List ABlock) (dst : Option Nat) (v : LV) (kl : Option Nat) : AState :=
  let fr := match kl with
    | some b => fgtL (· == b) fr
    | none => fr
  let H := match kl with
    | some b => H.map (fgtB (· == b))
    | none => H
  { fr := match dst with
      | some d => fset fr d v
      | none => fr, hp := H }
def AOp.takes : AOp -> Bool
 | .alloc _ | .boxM _ | .mkslice .. | .append .. | .appendN .. | .appendM .. | .callN .. | .mkmap | .rangeM _ | .buildR .. | .appendY .. => true
 | _ => false
def grdB (go no : Bool -> Prop) (b : Bool) : Bool -> Prop
 | true => bsplit (go true) (no false) b
 | false => bsplit (no true) (go false) b
def grdK (want : Bool) (go no : Bool -> Prop) (no0 : Prop) : LV -> Prop
 | .s (.bool b) => grdB go no b want
 | .tup [] => no0
 | _ => False
noncomputable def aops (P : Program) (n0 : Nat) : List AOper -> Nat -> AState -> Prop -> (AState -> Prop -> Prop) -> Prop
 | [], _, σ, F, k => k σ F
 | ⟨dst, none, op⟩ :: os, id, σ, F, k => aop P n0 id σ.fr σ.hp op fun v H kl f => aops P n0 os (if op.takes then id + 1 else id) (AState.put σ.fr H dst v kl) (F /\ f) k
 | ⟨dst, some (g, want), op⟩ :: os, id, σ, F, k => grdK want
   (fun b => aop P n0 id (fset σ.fr g (.s (.bool b))) σ.hp op fun v H kl f => aops P n0 os (if op.takes then id + 1 else id) (AState.put (fset σ.fr g (.s (.bool b))) H dst v kl) (F /\ f) k)
   (fun b => aops P n0 os (if op.takes then id + 1 else id) (AState.put (fset σ.fr g (.s (.bool b))) σ.hp dst (.tup []) none) F k)
   (aops P n0 os (if op.takes then id + 1 else id) (AState.put σ.fr σ.hp dst (.tup []) none) F k) (fget σ.fr g)
inductive ACode where
 | skip
 | reg (n : Nat) (ops : List AOper)
 | seq (a b : ACode)
 | cond (x : AX) (a b : ACode)
 | block (id : Nat) (a : ACode)
 | loop (mask : List Bool) (promo : List (Nat × Option Nat × Nat)) (a : ACode)
 | exit (id : Nat)
 | ret
 | scope (a : ACode)
 | label (l : Nat)
 | zap (t off : Nat) (a : ACode)
 | frzt (t : Nat) (a : ACode)
 | renr (t off j : Nat) (a : ACode)
 | ren (t j : Nat) (a : ACode)
inductive AExit where
 | normal | exit (id : Nat) | ret
def promote1 (d : Nat) (c : Option Nat) (sz : Nat) (σ : AState) : AState :=
 match c, fget σ.fr d with
 | none, .full [] => { fr := fset σ.fr d (.sl σ.hp.length 0 0 (sz + 1) false), hp := σ.hp ++ [.row []] }
 | some off, .loc b o => match σ.hp[b]? with
  | some (.obj cs) => match cs[o + off]? with
   | some (.full []) => { fr := σ.fr, hp := σ.hp.set b (.obj (cs.set (o + off) (.sl σ.hp.length 0 0 (sz + 1) false))) ++ [.row []] }
   | _ => σ
  | _ => σ
 | _, _ => σ
def promote : List (Nat × Option Nat × Nat) -> AState -> AState
 | [], σ => σ
 | (d, c, sz) :: ps, σ => promote ps (promote1 d c sz σ)
def norm (mask : List Bool) (n : Nat) (σ : AState) : AState :=
  { fr := fgtL (fun b => decide (n <= b)) (fmask mask σ.fr), hp := (σ.hp.take n).map (fgtB fun b => decide (n <= b)) }
def condK (A B : Prop) : LV -> Prop
 | .s (.bool t) => bsplit A B t
 | _ => False
def zapC (H : List ABlock) (b i : Nat) (cs : List LV) (Q : List ABlock -> Prop) : Option LV -> Prop
 | some c => frzvK H (fun v H' _ _ => Q (H'.set b (.obj (cs.set i v)))) c
 | none => False
def zapB (H : List ABlock) (b i : Nat) (Q : List ABlock -> Prop) : Option ABlock -> Prop
 | some (.obj cs) => zapC H b i cs Q cs[i]?
 | _ => False
def zapK (H : List ABlock) (off : Nat) (Q : List ABlock -> Prop) : LV -> Prop
 | .loc b o => zapB H b (o + off) Q H[b]?
 | _ => False
def frztK (t : Nat) (σ : AState) (Q : AState -> Prop) : LV -> Prop
 | .sl b off len sz clip => frzvK σ.hp (fun v H' _ _ => Q { fr := fset σ.fr t v, hp := H' }) (.sl b off len sz clip)
 | _ => False
def renrD (b c x i o len sz : Nat) (clip : Bool) (cs : List LV) (fr : List LV) (H : List ABlock) (Q : AState -> Prop) : Option ABlock -> Option ABlock -> Prop
 | some (.frz []), some (.row R) => Q { fr := fgtL (fun y => y == b || y == c) fr, hp := (((H.map (fgtB fun y => y == b || y == c)).set x (.obj ((fgtL (fun y => y == b || y == c) cs).set i (.sl b o len sz clip)))).set b (.row R)).set c .gone }
 | _, _ => False
def renrV (b x i : Nat) (cs : List LV) (σ : AState) (Q : AState -> Prop) : Option LV -> Prop
 | some (.sl c o len sz clip) => b < c /\ x ≠ b /\ x ≠ c /\ renrD b c x i o len sz clip cs σ.fr σ.hp Q σ.hp[b]? σ.hp[c]?
 | _ => False
def renrB (b x i : Nat) (σ : AState) (Q : AState -> Prop) : Option ABlock -> Prop
 | some (.obj cs) => renrV b x i cs σ Q cs[i]?
 | _ => False
def renrK (b off : Nat) (σ : AState) (Q : AState -> Prop) : LV -> Prop
 | .loc x o => renrB b x (o + off) σ Q σ.hp[x]?
 | _ => False
def renC (b c t : Nat) (fr : List LV) (H : List ABlock) (Q : AState -> Prop) : Option ABlock -> Option ABlock -> Prop
 | some (.obj _), some (.obj cs) => Q { fr := fset (fgtL (fun x => x == b || x == c) fr) t (.loc b 0), hp := ((H.map (fgtB fun x => x == b || x == c)).set b (.obj (fgtL (fun x => x == b || x == c) cs))).set c .gone }
 | _, _ => False
def renK (b t : Nat) (σ : AState) (Q : AState -> Prop) : LV -> Prop
 | .loc c 0 => b < c /\ renC b c t σ.fr σ.hp Q σ.hp[b]? σ.hp[c]?
 | _ => False
noncomputable def awp (P : Program) (n0 : Nat) : ACode -> AState -> (AExit -> AState -> Prop) -> Prop
 | .skip, σ, Q => Q .normal σ
 | .reg n ops, σ, Q => aops P n0 ops σ.hp.length { fr := σ.fr, hp := σ.hp ++ List.replicate n .gone } True fun τ F => F -> Q .normal τ
 | .seq a b, σ, Q => awp P n0 a σ fun e τ => match e with
  | .normal => awp P n0 b τ Q
  | e => Q e τ
 | .cond x a b, σ, Q => condK (awp P n0 a σ Q) (awp P n0 b σ Q) (x.ev σ.fr)
 | .block id a, σ, Q => awp P n0 a σ fun e τ => match e with
  | .exit i => if i = id then Q .normal τ else Q (.exit i) τ
  | e => Q e τ
 | .loop mask promo a, σ, Q => ∀ I : AState -> Prop,
   (∀ τ, awp P n0 a τ (fun e τ' => match e with | .normal => I (norm mask (promote promo σ).hp.length τ') | e => Q e τ') -> I τ) ->
    I (norm mask (promote promo σ).hp.length (promote promo σ))
 | .exit id, σ, Q => Q (.exit id) σ
 | .ret, σ, Q => Q .ret σ
 | .scope a, σ, Q => awp P n0 a σ Q
 | .label _, σ, Q => Q .normal σ
 | .renr t off j a, σ, Q => renrK (n0 + j) off σ (fun τ => awp P n0 a τ Q) (fget σ.fr t)
 | .frzt t a, σ, Q => frztK t σ (fun τ => awp P n0 a τ Q) (fget σ.fr t)
 | .zap t off a, σ, Q => zapK σ.hp off (fun H' => awp P n0 a { fr := σ.fr, hp := H' } Q) (fget σ.fr t)
 | .ren t j a, σ, Q => renK (n0 + j) t σ (fun τ => awp P n0 a τ Q) (fget σ.fr t)
def okConst1 : LV -> Value -> Bool
 | .s (.bool b), .bool c => b == c
 | .s (.int k n), .int j m => k == j && n == m
 | .s (.str s), .string t => decide (s = t)
 | .s .nilp, .pointer none => true
 | .s .nili, .nilIface => true
 | .s (.map [] []), .map none => true
 | .full [], .slice none 0 0 => true
 | .s (.slice []), .slice none 0 0 => true
 | .any, v => v.oneCell'
 | .tup [], .tuple vs => vs.isEmpty
 | _, _ => false
def okConstL : List LV -> List Value -> Bool
 | [], [] => true
 | c :: cs, v :: vs => okConst1 c v && !c.isTup && okConstL cs vs
 | _, _ => false
def okConst : LV -> Value -> Bool
 | .agg cs, .agg vs => okConstL cs vs.toList
 | c, v => okConst1 c v
def okX : AX -> Operand -> Bool
 | .t n, .tmp m => n == m
 | .c (.s (.fn f [] [])), .func g => f == g
 | .c .any, .const _ => true
 | .c v, .const x => okConst v x
 | _, _ => false
def okXs : List AX -> List Operand -> Bool
 | [], [] => true
 | a :: as, x :: xs => okX a x && okXs as xs
 | _, _ => false
def okXo : Option AX -> Option Operand -> Bool
 | none, none => true
 | some a, some x => okX a x
 | _, _ => false
def slSz (P : Program) (t : TypeId) : Option Nat :=
 match P.underlying t with
 | some (.slice e) => (P.info? e).map (·.size)
 | _ => none
def slBytes (P : Program) (t : TypeId) : Option Nat :=
 match P.underlying t with
 | some (.slice e) => (P.info? e).map (·.bytes)
 | _ => none
def arrSz (P : Program) (t : TypeId) : Option (Nat × Nat) :=
 match P.underlying t with
 | some (.array n e) => (P.info? e).map fun i => (n, i.size)
 | _ => none
def ptrArrSz (P : Program) (t : TypeId) : Option (Nat × Nat) :=
 match P.underlying t with
 | some (.pointer a) => arrSz P a
 | _ => none
def aggTy (P : Program) (t : TypeId) : Option Bool :=
 match P.underlying t with
 | some (.struct _) | some (.array _ _) => some true
 | some _ => some false
 | none => none
def szTy (P : Program) (t : TypeId) : Option Nat := (P.info? t).map (·.size)
def fieldOf (P : Program) (t : TypeId) (i : Nat) : Option (Nat × Nat × TypeId) :=
 match P.underlying t with
 | some (.struct fs) => (fs[i]?).bind fun f => (szTy P f.type).map fun n => (f.offset, n, f.type)
 | _ => none
def tagOf (P : Program) (t : TypeId) : Option Tag :=
 match P.underlying t with
 | some .bool => some .bool
 | some (.int k) => some (.int k)
 | some .string => some .str
 | _ => none
def tagsF (P : Program) : Nat -> List Field -> Option (List Tag)
 | _, [] => some []
 | n, f :: fs => match tagOf P f.type with
  | some t => if f.offset = n /\ f.name ≠ "_" then (tagsF P (n + 1) fs).map (t :: ·) else none
  | none => none
def tagsOf (P : Program) (t : TypeId) : Option (Bool × List Tag) :=
 match P.underlying t with
 | some .bool | some (.int _) | some .string => (tagOf P t).map fun g => (false, [g])
 | some (.array n e) => match tagOf P e with
  | some g => if szTy P e = some 1 then some (true, List.replicate n g) else none
  | none => none
 | some (.struct fs) => (tagsF P 0 fs.toList).map fun ts => (true, ts)
 | _ => none
def okEq (P : Program) (t : TypeId) (ag : Bool) (ts : List Tag) : Bool :=
 !P.eqGuardType P.depth t && !P.stoodInHeld t && decide (tagsOf P t = some (ag, ts))
def okMap (P : Program) (t : TypeId) (ts : List Tag) : Bool :=
 match P.underlying t with
 | some (.map k _) => !P.eqGuardType P.depth k && !P.stoodInHeld k && (match P.underlying k with | some (.struct _) => decide (tagsOf P k = some (true, ts)) | _ => false)
 | _ => false
def okZero (P : Program) (t : TypeId) (cells : List LV) : Bool :=
 match (P.info? t).bind (·.zero) with
 | some z => okConstL cells z.cells.toList
 | none => false
def okParts (P : Program) (place : Nat -> Option (Nat × Nat)) : List (Nat × Nat × AX) -> List (Nat × Operand) -> Bool
 | [], [] => true
 | (off, n, x) :: ps, (i, y) :: qs => place i == some (off, n) && okX x y && okParts P place ps qs
 | _, _ => false
def okParts2 : List (Nat × AX) -> List (Nat × Operand) -> Bool
 | [], [] => true
 | (i, x) :: ps, (j, y) :: qs => i == j && okX x y && okParts2 ps qs
 | _, _ => false
def okOp (P : Program) (ao : AOp) (o : Op) : Bool :=
  match ao, o with
  | .mov x, .move y => okX x y
  | .mov x, .assign y => okX x y
  | .pick c a b, .pick c' a' b' => okX c c' && okX a a' && okX b b'
  | .alloc cells, .alloc t => okZero P t cells
  | .boxM x, .box _ y => okX x y
  | .boxS x, .box _ y => okX x y
  | .build zero parts, .build t ps => okZero P t zero &&
      (match P.underlying t with
       | some (.struct _) => okParts P (fun i => (fieldOf P t i).map fun p => (p.1, p.2.1)) parts ps.toList
       | some (.array _ e) => okParts P (fun i => (szTy P e).map fun n => (i * n, n)) parts ps.toList
       | _ => false) && (match P.underlying t with
       | some (.struct fs) => fs.toList.all fun f => (szTy P f.type).isSome
       | some (.array _ e) => (szTy P e).isSome
       | _ => false)
  | .buildSl sz n zero parts, .buildSlice t m ps => n == m && slSz P t == some sz && decide (0 < sz) && okParts2 parts ps.toList &&
      (match P.underlying t with | some (.slice e) => okZero P e (zero.cells.map .s) | _ => false)
  | .dead, .panic _ => true
  | .dead, .makeInterface _ _ => true
  | .buildR sz n zero parts, .buildSlice t m ps => n == m && slSz P t == some sz && decide (0 < sz) && okParts2 parts ps.toList &&
      (match P.underlying t with | some (.slice e) => okZero P e (zero.cells.map .s) | _ => false)
  | .loadS n agg a, .load t y => okX a y && aggTy P t == some agg && szTy P t == some n && (agg || n == 1)
  | .load n agg a, .load t y => okX a y && aggTy P t == some agg && szTy P t == some n && (agg || n == 1)
  | .store n a x, .store t y z => okX a y && okX x z && szTy P t == some n
  | .nilck x, .nilCheck y => okX x y
  | .arith op x y, .binOp op' _ x' y' _ => decide (op = op') && okX x x' && okX y y' && (match op with | .add | .sub | .mul => true | _ => false)
  | .cmp op x y, .binOp op' _ x' y' _ => decide (op = op') && okX x x' && okX y y' && (match op with | .eql | .neq | .lss | .leq | .gtr | .geq => true | _ => false)
  | .bits op x y, .binOp op' _ x' y' _ => decide (op = op') && okX x x' && okX y y' && (match op with | .and | .or | .xor | .andNot => true | _ => false)
  | .div op x y, .binOp op' _ x' y' _ => decide (op = op') && okX x x' && okX y y' && (match op with | .quo | .rem => true | _ => false)
  | .shift op x y, .binOp op' _ x' y' _ => decide (op = op') && okX x x' && okX y y' && (match op with | .shl | .shr => true | _ => false)
  | .eql ag ts ne x y, .binOp op' t x' y' _ => decide (op' = if ne then .neq else .eql) && okX x x' && okX y y' && okEq P t ag ts
  | .not x, .unOp .not _ y => okX x y
  | .neg x, .unOp .neg _ y => okX x y
  | .conv k x, .convert s d y => okX x y && (P.underlying s).isSome && (match P.underlying d with | some (.int k') => decide (k = k') | _ => false)
  | .mkfn f first caps, .makeFunc (.func g) fs cs => f == g && okXs first fs.toList && okXs caps cs.toList
  | .slice sz x lo hi mx, .slice t y lo' hi' mx' => slSz P t == some sz && okX x y && okXo lo lo' && okXo hi hi' && okXo mx mx' && (mx.isNone || hi.isSome)
  | .sliceArr n sz x lo hi, .slice t y lo' hi' none => (arrSz P t == some (n, sz) || ptrArrSz P t == some (n, sz)) && okX x y && okXo lo lo' && okXo hi hi'
  | .fieldAddr off x, .fieldAddr t y i => okX x y && (match fieldOf P t i with | some (o, n, _) => o == off && n != 0 | none => false)
  | .field off n agg x, .field t y i => okX x y && (match fieldOf P t i with | some (o, m, ft) => o == off && m == n && aggTy P ft == some agg | none => false)
  | .idxA sz x i, .indexAddr t y j => okX x y && okX i j && slSz P t == some sz
  | .idxArrA n sz x i, .indexAddr t y j => okX x y && okX i j && arrSz P t == some (n, sz)
  | .idx n sz agg x i, .index t y j => okX x y && okX i j && arrSz P t == some (n, sz) && (match P.underlying t with | some (.array _ e) => aggTy P e == some agg | _ => false)
  | .ext x j, .extract y k => okX x y && j == k
  | .call f args, .call { callee := .value (.func g), args := xs, .. } => f == g && okXs args xs.toList && okFn P f
  | .callN _ f args, .call { callee := .value (.func g), args := xs, .. } => f == g && okXs args xs.toList && okFn P f
  | .callI f args, .call { callee := .value (.func g), args := xs, .. } => f == g && okXs args xs.toList && okFn P f
  | .eqNil ne x, .binOp op' t x' y' _ => decide (op' = if ne then .neq else .eql) && okX x x' && (match y' with | .const (.slice none 0 0) => true | _ => false) && (match P.underlying t with | some (.slice _) => true | _ => false)
  | .callv x args, .call { callee := .value y, args := xs, .. } => okX x y && okXs args xs.toList
  | .len st x, .call { callee := .builtin .len, args := xs, argTypes := ts } => okXs [x] xs.toList && (match ts[0]? with
      | some t => (match P.underlying t with | some (.slice _) => !st | some .string => st | _ => false) | none => false)
  | .cap x, .call { callee := .builtin .cap, args := xs, argTypes := ts } => okXs [x] xs.toList && (match ts[0]? with
      | some t => (match P.underlying t with | some (.slice _) => true | _ => false) | none => false)
  | .lenArr n, .call { callee := .builtin .len, args := xs, argTypes := ts } => decide (xs.size = 1) && (match ts[0]? with
      | some t => (match P.underlying t with
        | some (.array m _) => n == m
        | some (.pointer a) => (match P.underlying a with | some (.array m _) => n == m | _ => false)
        | _ => false)
      | none => false)
  | .append sz bytes s x, .call { callee := .builtin .append, args := xs, argTypes := ts } => okXs [s, x] xs.toList && decide (0 < bytes) &&
      (match ts[0]? with | some t => slSz P t == some sz && slBytes P t == some bytes && (match P.underlying t with | some (.slice e) => ((P.info? e).bind (·.zero)).any (fun z => z.cells.size == sz) | _ => false) | none => false) &&
      (match ts[1]? with | some t => (match P.underlying t with | some (.slice _) => true | _ => false) | none => false)
  | .appendN sz bytes s x, .call { callee := .builtin .append, args := xs, argTypes := ts } => okXs [s, x] xs.toList && decide (0 < bytes) &&
      (match ts[0]? with | some t => slSz P t == some sz && slBytes P t == some bytes && (match P.underlying t with | some (.slice e) => ((P.info? e).bind (·.zero)).any (fun z => z.cells.size == sz) | _ => false) | none => false) &&
      (match ts[1]? with | some t => (match P.underlying t with | some (.slice _) => true | _ => false) | none => false)
  | .appendM sz bytes s x, .call { callee := .builtin .append, args := xs, argTypes := ts } => okXs [s, x] xs.toList && decide (0 < bytes) &&
      (match ts[0]? with | some t => slSz P t == some sz && slBytes P t == some bytes && (match P.underlying t with | some (.slice e) => ((P.info? e).bind (·.zero)).any (fun z => z.cells.size == sz) | _ => false) | none => false) &&
      (match ts[1]? with | some t => (match P.underlying t with | some (.int _) => true | _ => false) | none => false)
  | .appendZ sz bytes s x, .call { callee := .builtin .append, args := xs, argTypes := ts } => okXs [s, x] xs.toList && decide (0 < bytes) &&
      (match ts[0]? with | some t => slSz P t == some sz && slBytes P t == some bytes && (match P.underlying t with | some (.slice e) => ((P.info? e).bind (·.zero)).any (fun z => z.cells.size == sz) | _ => false) | none => false) &&
      (match ts[1]? with | some t => (match P.underlying t with | some (.slice _) => true | _ => false) | none => false)
  | .appendY sz bytes s x, .call { callee := .builtin .append, args := xs, argTypes := ts } => okXs [s, x] xs.toList && decide (0 < bytes) &&
      (match ts[0]? with | some t => slSz P t == some sz && slBytes P t == some bytes && (match P.underlying t with | some (.slice e) => ((P.info? e).bind (·.zero)).any (fun z => z.cells.size == sz) | _ => false) | none => false) &&
      (match ts[1]? with | some t => (match P.underlying t with | some (.slice _) => true | _ => false) | none => false)
  | .copy sz d s, .call { callee := .builtin .copy, args := xs, argTypes := ts } => okXs [d, s] xs.toList && (match ts[0]? with | some t => slSz P t == some sz | none => false)
  | .clear sz zero d, .call { callee := .builtin .clear, args := xs, argTypes := ts } => okXs [d] xs.toList && (match ts[0]? with
      | some t => slSz P t == some sz && (match P.underlying t with | some (.slice e) => okZero P e (zero.map .s) | _ => false) | none => false)
  | .max args, .call { callee := .builtin .max, args := xs, .. } => okXs args xs.toList
  | .min args, .call { callee := .builtin .min, args := xs, .. } => okXs args xs.toList
  | .mkslice sz bytes zero l c, .makeSlice t l' c' => okX l l' && okX c c' && slSz P t == some sz && slBytes P t == some bytes &&
      (match P.underlying t with | some (.slice e) => okZero P e (zero.map .s) | _ => false)
  | .loadO n agg a, .load t y => okX a y && aggTy P t == some agg && szTy P t == some n && (agg || n == 1)
  | .loadX n agg a _, .load t y => okX a y && aggTy P t == some agg && szTy P t == some n && (agg || n == 1)
  | .storeR n a x, .store t y z => okX a y && okX x z && szTy P t == some n
  | .frzv x, .move y => okX x y
  | .frzv x, .assign y => okX x y
  | .callF f s args, .call { callee := .value (.func g), args := xs, .. } => f == g && okXs (s :: args) xs.toList && okFn P f
  | .mkmap, .makeMap _ none => true
  | .mget c ts zero m k, .lookup t x y c' => c == c' && okX m x && okX k y && okMap P t ts && (match P.underlying t with
      | some (.map _ e) => ((P.info? e).bind (·.zero)).any (okConst (.s zero)) | _ => false)
  | .mgetS c ts zero m k, .lookup t x y c' => c == c' && okX m x && okX k y && okMap P t ts && (match P.underlying t with
      | some (.map _ e) => ((P.info? e).bind (·.zero)).any (okConst (.s zero)) | _ => false)
  | .mset ts m k v, .mapUpdate t x y z => okX m x && okX k y && okX v z && okMap P t ts
  | .mset ts m k v, .insert t x y z => okX m x && okX k y && okX v z && okMap P t ts
  | .mdel ts m k, .call { callee := .builtin .delete, args := xs, argTypes := ats } => okXs [m, k] xs.toList && (match ats[0]? with | some t => okMap P t ts | none => false)
  | .rangeM m, .range t x => okX m x && (match P.underlying t with | some (.map _ _) => true | _ => false)
  | .nextM i, .next x st => !st && okX i x
  | .entryM i, .entry x => okX i x
  | .callR f args, .call { callee := .value (.func g), args := xs, .. } => f == g && okXs args xs.toList && okFn P f
  | .sidx x i, .index t y j => okX x y && okX i j && (match P.underlying t with | some .string => true | _ => false)
  | .mlen m, .call { callee := .builtin .len, args := xs, argTypes := ats } => okXs [m] xs.toList && (match ats[0]? with
      | some t => (match P.underlying t with | some (.map _ _) => true | _ => false) | none => false)
  | _, _ => false
def AOp.cls : AOp -> Nat
 | .load .. | .eql .. | .call .. | .callv .. | .sliceArr .. => 1
 | .alloc _ | .boxM _ | .mkslice .. => 2
 | .store .. | .copy .. | .clear .. => 3
 | .append .. => 4
 | .appendN .. | .appendM .. | .callN .. => 2
 | .eqNil .. => 4
 | .callI .. => 4
 | .loadO .. | .loadX .. => 1
 | .storeR .. | .callF .. | .frzv .. | .appendZ .. | .appendY .. => 3
 | .mkmap | .buildR .. => 2
 | .mget .. | .mset .. | .mdel .. | .mlen .. => 4
 | .rangeM .. | .nextM .. | .entryM .. | .callR .. => 4
 | _ => 0
def AOp.rd : AOp -> Bool
 | .loadO .. | .loadX .. => true
 | _ => false
def AOp.wr : AOp -> Bool
 | .storeR .. | .callF .. | .frzv .. | .appendZ .. | .appendY .. => true
 | _ => false
def AX.slots : AX -> List Nat
 | .t n => [n]
 | .c _ => []
def AX.slotsO : Option AX -> List Nat
 | some x => x.slots
 | none => []
def AOp.slots : AOp -> List Nat
 | .mov x | .boxM x | .boxS x | .load _ _ x | .nilck x | .not x | .neg x | .conv _ x | .fieldAddr _ x | .field _ _ _ x | .ext x _ | .len _ x | .cap x | .clear _ _ x | .eqNil _ x | .loadO _ _ x | .loadS _ _ x | .mlen x | .frzv x | .rangeM x | .nextM x | .entryM x => x.slots
 | .pick c a b => c.slots ++ a.slots ++ b.slots
 | .loadX _ _ x r => x.slots ++ [r]
 | .alloc _ | .lenArr _ | .mkmap | .dead => []
 | .build _ ps => ps.flatMap fun p => p.2.2.slots
 | .buildSl _ _ _ ps | .buildR _ _ _ ps => ps.flatMap fun p => p.2.slots
 | .store _ a x | .arith _ a x | .cmp _ a x | .bits _ a x | .div _ a x | .shift _ a x | .eql _ _ _ a x | .idxA _ a x | .idxArrA _ _ a x | .idx _ _ _ a x | .append _ _ a x | .appendN _ _ a x | .appendM _ _ a x | .appendZ _ _ a x | .appendY _ _ a x | .copy _ a x | .mkslice _ _ _ a x | .storeR _ a x | .mget _ _ _ a x | .mgetS _ _ _ a x | .mdel _ a x | .sidx a x => a.slots ++ x.slots
 | .mset _ a x y => a.slots ++ x.slots ++ y.slots
 | .mkfn _ fs cs => fs.flatMap (·.slots) ++ cs.flatMap (·.slots)
 | .slice _ x lo hi mx => x.slots ++ AX.slotsO lo ++ AX.slotsO hi ++ AX.slotsO mx
 | .sliceArr _ _ x lo hi => x.slots ++ AX.slotsO lo ++ AX.slotsO hi
 | .call _ args | .callI _ args | .callN _ _ args | .callR _ args | .max args | .min args => args.flatMap (·.slots)
 | .callv f args | .callF _ f args => f.slots ++ args.flatMap (·.slots)
def LV.noref1 : LV -> Bool
 | .s _ | .any | .full _ | .tup _ => true
 | _ => false
def LV.noref : LV -> Bool
 | .agg cs => cs.all LV.noref1
 | v => v.noref1
def AX.okc : AX -> Bool
 | .t _ => true
 | .c v => v.noref
def AX.listO : Option AX -> List AX
 | some x => [x]
 | none => []
def AOp.axs : AOp -> List AX
 | .mov x | .boxM x | .boxS x | .load _ _ x | .nilck x | .not x | .neg x | .conv _ x | .fieldAddr _ x | .field _ _ _ x | .ext x _ | .len _ x | .cap x | .clear _ _ x | .eqNil _ x | .loadO _ _ x | .loadS _ _ x | .mlen x | .frzv x | .rangeM x | .nextM x | .entryM x => [x]
 | .pick c a b => [c, a, b]
 | .loadX _ _ x r => [x, .t r]
 | .alloc _ | .lenArr _ | .mkmap | .dead => []
 | .build _ ps => ps.map fun p => p.2.2
 | .buildSl _ _ _ ps | .buildR _ _ _ ps => ps.map fun p => p.2
 | .store _ a x | .arith _ a x | .cmp _ a x | .bits _ a x | .div _ a x | .shift _ a x | .eql _ _ _ a x | .idxA _ a x | .idxArrA _ _ a x | .idx _ _ _ a x | .append _ _ a x | .appendN _ _ a x | .appendM _ _ a x | .appendZ _ _ a x | .appendY _ _ a x | .copy _ a x | .mkslice _ _ _ a x | .storeR _ a x | .mget _ _ _ a x | .mgetS _ _ _ a x | .mdel _ a x | .sidx a x => [a, x]
 | .mset _ a x y => [a, x, y]
 | .mkfn _ fs cs => fs ++ cs
 | .slice _ x lo hi mx => x :: AX.listO lo ++ AX.listO hi ++ AX.listO mx
 | .sliceArr _ _ x lo hi => x :: AX.listO lo ++ AX.listO hi
 | .call _ args | .callI _ args | .callN _ _ args | .callR _ args | .max args | .min args => args
 | .callv f args | .callF _ f args => f :: args
def AOp.okc (op : AOp) : Bool := op.axs.all AX.okc && (match op with
 | .alloc cells => cells.all LV.noref1
 | .build zero _ => zero.all LV.noref1
 | _ => true)
def AOper.reads (o : AOper) : List Nat := (match o.guard with | some (g, _) => [g] | none => []) ++ o.op.slots
def AOper.writes (o : AOper) (t : Nat) : Bool := o.dst == some t || o.op.cls == 4
def AOp.stx : AOp -> Option Nat
 | .store _ (.t r) _ => some r
 | _ => none
def AOp.rx : AOp -> Option Nat
 | .loadX _ _ _ r => some r
 | _ => none
def AOp.part (x y : AOp) : Bool := x.stx.isSome && x.stx == y.rx
def AOp.az : AOp -> Bool
 | .appendZ .. => true
 | _ => false
def AOp.ay : AOp -> Bool
 | .appendY .. => true
 | _ => false
def AOp.al : AOp -> Bool
 | .alloc _ => true
 | _ => false
def AOper.tied (x y : AOper) : Bool :=
 x.op.cls == 4 || y.op.cls == 4 || (x.op.cls == 3 && decide (1 <= y.op.cls) && !((x.op.wr && y.op.rd) || (x.op.part y.op || ((x.op.az && y.op.al) || (x.op.ay && y.op.ay))))) || (decide (1 <= x.op.cls) && y.op.cls == 3 && !((y.op.wr && x.op.rd) || (y.op.part x.op || (x.op.ay && y.op.ay)))) ||
 (match x.dst with | some d => y.reads.contains d || y.dst == some d | none => false) ||
 (match y.dst with | some d => x.reads.contains d | none => false)
def befs : List Oper -> List Nat -> List Nat
 | [], acc => acc
 | o :: os, acc => befs os (acc ++ [o.after.toList.foldl (fun s e => if Region.binds .any e then s ||| 2 ^ e.on ||| acc.getD e.on 0 else s) 0])
def topoIn (md : Region.Mode) (ops : List Oper) : List Nat -> List Nat -> Bool
 | _, [] => true
 | seen, i :: is => (match ops[i]? with
  | some o => o.after.toList.all fun e => !Region.binds md e || seen.contains e.on
  | none => false) && topoIn md ops (i :: seen) is
def topoOk (md : Region.Mode) (ops : List Oper) (l : List Nat) : Bool := topoIn md ops [] l && (List.range ops.length).all l.contains
def tiedOk (aops : List AOper) (bs : List Nat) : Bool :=
 (List.range aops.length).all fun j => (List.range j).all fun i =>
  match aops[i]?, aops[j]? with
  | some x, some y => !x.tied y || (bs.getD j 0).testBit i
  | _, _ => true
def okOper (P : Program) (ops : List Oper) (ao : AOper) (o : Oper) : Bool :=
  ao.dst == o.dst && okOp P ao.op o.op && ao.op.okc &&
  (match ao.guard, o.guard with
   | none, none => true
   | some (g, b), some (j, c) => b == c && ((ops[j]?).bind (·.dst)) == some g
   | _, _ => false)
def okOpers (P : Program) (ops : List Oper) : List AOper -> List Oper -> Bool
 | [], [] => true
 | a :: as, o :: os => okOper P ops a o && okOpers P ops as os
 | _, _ => false
def okCode (P : Program) (nt : Nat) : ACode -> Code -> Bool
 | .skip, .skip => true
 | .reg n as, .region _ ops draw => okOpers P ops.toList as ops.toList && n == (as.filter (·.op.takes)).length &&
   (!draw || (tiedOk as (befs ops.toList []) && (if P.follows .mixedOrders || !Region.departs ops then topoOk .any ops.toList (List.range ops.size)
    else topoOk .text ops.toList (List.range ops.size) && topoOk .gc ops.toList (Region.linearise .gc ops 0))))
 | .seq a b, .seq c d => okCode P nt a c && okCode P nt b d
 | .scope a, .scope c => okCode P nt a c
 | .label l, .label m => l == m
 | .cond x a b, .cond y c d => okX x y && okCode P nt a c && okCode P nt b d
 | .block i a, .block j c => i == j && okCode P nt a c
 | .loop _ _ a, .loop c => okCode P nt a c
 | .exit i, .exit j => i == j
 | .ret, .ret => true
 | .zap _ _ a, c => okCode P nt a c
 | .frzt _ a, c => okCode P nt a c
 | .renr _ _ _ a, c => okCode P nt a c
 | .ren _ _ a, c => okCode P nt a c
 | _, _ => false
inductive ARes where
 | tmp (t : Nat)
 | cell (t n : Nat) (agg : Bool)
def okRes (P : Program) : List ARes -> List ResultVar -> Bool
 | [], [] => true
 | .tmp t :: as, .tmp u :: rs => t == u && okRes P as rs
 | .cell t n agg :: as, .cell u ty :: rs => t == u && aggTy P ty == some agg && szTy P ty == some n && (agg || n == 1) && okRes P as rs
 | _, _ => false
theorem Env.le_set {ρ : Env} {i : Nat} {r : Spot} (h : ρ[i]? = some .gone) : Env.le ρ (ρ.set i r) := fun j s hs hj => by
 rw [List.getElem?_set]
 split
 ·rename_i e; subst e; rw [h] at hj; cases hj; exact absurd rfl hs
 ·exact hj
def Env.but (b : Nat) (ρ ρ' : Env) : Prop := ∀ j, j ≠ b -> ρ'[j]? = ρ[j]?
theorem Env.but_set (ρ : Env) (b : Nat) (r : Spot) : Env.but b ρ (ρ.set b r) := fun j hj => by
 rw [List.getElem?_set, if_neg (fun e => hj e.symm)]
mutual
theorem LRel.fgt {M : Mem} {ρ ρ' : Env} {p : Nat -> Bool} (h : ∀ j, p j = false -> ρ'[j]? = ρ[j]?) : ∀ (v : LV) (us : List Value), LRel M ρ v us -> LRel M ρ' (fgt p v) us
 | .s v, us, k => by simpa only [Go.E.fgt, LRel] using k
 | .any, us, k => by simpa only [Go.E.fgt, LRel] using k
 | .loc b off, us, k => by
  simp only [Go.E.fgt]
  cases hp : p b with
  | true => simp only [if_true, LRel]; exact LRel.oneCells _ _ k
  | false => simp only [LRel] at k ⊢; rw [if_neg (by simp)]; simp only [LRel]; rw [h b hp]; exact k
 | .sl b off len sz clip, us, k => by
  simp only [Go.E.fgt]
  cases hp : p b with
  | true => simp only [if_true, LRel]; exact LRel.oneCells _ _ k
  | false => simp only [LRel] at k ⊢; rw [if_neg (by simp)]; simp only [LRel]; rw [h b hp]; exact k
 | .full xs, us, k => by simpa only [Go.E.fgt, LRel] using k
 | .agg cs, us, k => by simp only [Go.E.fgt, LRel] at *; exact LRelC.fgt h cs _ k
 | .fn f first caps, us, k => by
  simp only [Go.E.fgt, LRel] at *;obtain ⟨fs, cs, e, h1, h2⟩ := k;exact ⟨fs, cs, e, LRelC.fgt h first _ h1, LRelC.fgt h caps _ h2⟩
 | .tup vs, us, k => by simp only [LRel] at k
 | .yl l, us, k => by simpa only [Go.E.fgt, LRel] using k
 | .mp b, us, k => by
  simp only [Go.E.fgt]
  cases hp : p b with
  | true => simp only [if_true, LRel]; exact LRel.oneCells _ _ k
  | false => simp only [LRel] at k ⊢; rw [if_neg (by simp)]; simp only [LRel]; rw [h b hp]; exact k
theorem LRelC.fgt {M : Mem} {ρ ρ' : Env} {p : Nat -> Bool} (h : ∀ j, p j = false -> ρ'[j]? = ρ[j]?) : ∀ (cs : List LV) (uss : List (List Value)), LRelC M ρ cs uss -> LRelC M ρ' (fgtL p cs) uss
 | [], _, k => by simpa [Go.E.fgtL, LRelC] using k
 | c :: cs, uss, k => by
  simp only [fgtL, LRelC] at *;obtain ⟨u, us, e, hc, hr⟩ := k;exact ⟨u, us, e, LRel.fgt h c u hc, LRelC.fgt h cs us hr⟩
end
theorem qi3 (p : Nat -> Bool) (v : LV) (hn : fgt p v ≠ .any) : (fgt p v).isAgg = v.isAgg := by
 cases v <;> simp only [fgt] at * <;> try rfl
 all_goals (split at hn <;> first | exact absurd rfl hn | (rename_i hp; simp [hp, LV.isAgg]))
theorem LVal.fgt {M : Mem} {ρ ρ' : Env} {p : Nat -> Bool} (h : ∀ j, p j = false -> ρ'[j]? = ρ[j]?) {v : LV} {x : Value} (k : LVal M ρ v x) : LVal M ρ' (fgt p v) x := by
 rcases k with rfl | ⟨vs, xs, rfl, e, hv⟩ | ⟨us, hc, e⟩
 ·exact .inl rfl
 ·exact .inr (.inl ⟨vs, xs, rfl, e, hv⟩)
 ·by_cases hn : Go.E.fgt p v = .any
  ·exact .inl hn
  ·exact .inr (.inr ⟨us, hc.fgt h, by rw [qi3 p v hn]; exact e⟩)
theorem qd0 (p : Nat -> Bool) : ∀ (cs : List LV), (fgtL p cs).length = cs.length
 | [] => rfl
 | c :: cs => by simp [fgtL, qd0 p cs]
theorem qae (p : Nat -> Bool) : ∀ (cs : List LV), fgtL p cs = cs.map (fgt p)
 | [] => rfl
 | c :: cs => by simp [fgtL, qae p cs]
theorem BRel.keep {M : Mem} {ρ : Env} {w w' : World} {B : ABlock} {r : Spot} (h : BRel M ρ w B r) (hb : ∀ cb sh n, r = .here cb sh n -> w'.heap[cb]? = w.heap[cb]?) : BRel M ρ w' B r := by
 cases B <;> cases r <;> simp only [BRel] at * <;> try exact h
 case obj.here cs cb sh n => rw [hb cb sh n rfl]; exact h
 case row.here cs cb sh n => rw [hb cb sh n rfl]; exact h
 case map.here ks vs cb sh n => rw [hb cb sh n rfl]; exact h
 case mit.here l x cb sh n => rw [hb cb sh n rfl]; exact h
 case mapc.here ks vs bs bm c cb sh n => rw [hb cb sh n rfl]; exact h
 case mitx.here m bm c n cb sh n' => rw [hb cb sh n' rfl]; exact h
theorem BRel.keepA {M : Mem} {ρ : Env} {w w' : World} {B : ABlock} {r : Spot} (h : BRel M ρ w B r) (hb : ∀ cb sh n, r = .here cb sh n -> B ≠ .frz [] -> w'.heap[cb]? = w.heap[cb]?) : BRel M ρ w' B r := by
 by_cases hd : B = .frz []
 ·subst hd; cases r <;> exact h
 ·exact h.keep fun cb sh n e => hb cb sh n e hd
theorem qP {H : List ABlock} {p : Nat -> Bool} {j : Nat} (h : (H.map (fgtB p))[j]? ≠ some (.frz [])) : H[j]? ≠ some (.frz []) := fun e => h (by rw [List.getElem?_map, e]; rfl)
theorem BRel.mono {M M' : Mem} {ρ ρ' : Env} {w : World} {B : ABlock} {r : Spot} (h : BRel M ρ w B r) (hM : M.le M') (hρ : Env.le ρ ρ')
  (hn : ∀ cb sh n, r = .here cb sh n -> (∀ o, M.cell cb o = none -> M'.cell cb o = none) /\ (M.map cb = none -> M'.map cb = none)) : BRel M' ρ' w B r := by
 cases B <;> cases r <;> simp only [BRel] at * <;> try exact h
 case obj.here cs cb sh n =>
  obtain ⟨c, T, h1, h2, h3, h4, h5, h6⟩ := h;exact ⟨c, T, h1, h2, h3, h4, h5.mono hM hρ, fun o => (hn cb sh n rfl).1 o (h6 o)⟩
 case row.here cs cb sh n =>
  obtain ⟨c, T, h1, h2, h3, h5, h6⟩ := h;exact ⟨c, T, h1, h2, h3, h5.mono hM, fun o => (hn cb sh n rfl).1 o (h6 o)⟩
 case frz.here cs cb sh n =>
  obtain ⟨us, h1, h2⟩ := h;exact ⟨us, h1.mono hM, h2.mono hM⟩
 case map.here ks vs cb sh n =>
  obtain ⟨es, clock, kus, vus, h1, h2, h3, h4, h5, h6⟩ := h;exact ⟨es, clock, kus, vus, h1, h2.mono hM, h3.mono hM, h4, h5, (hn cb sh n rfl).2 h6.1, h6.2⟩
 case frzm.here ks vs cb sh n =>
  obtain ⟨kus, vus, es, h2, h3, h4, h5, h6⟩ := h;exact ⟨kus, vus, es, h2.mono hM, h3.mono hM, h4, hM.2 _ _ h5, h6⟩
 case mit.here l x cb sh n => exact ⟨h.1, h.2.mono hM⟩
 case mapc.here ks vs bs bm c cb sh n =>
  obtain ⟨h0, es, kus, vus, h9, h1, h2, h3, h4, h5, h6⟩ := h;exact ⟨h0, es, kus, vus, h9, h1, h2.mono hM, h3.mono hM, h4, h5, (hn cb sh n rfl).2 h6.1, h6.2⟩
theorem qga {M : Mem} {ρ : Env} {w : World} {ks vs : List SV} {bs : List Nat} {bm c : Nat} {r : Spot} (h : BRel M ρ w (.mapc ks vs bs bm c) r) : BRel M ρ w (.map ks vs) r := by
 cases r <;> simp only [BRel] at *
 obtain ⟨_, es, kus, vus, _, h1, h2, h3, h4, h5, h6⟩ := h;exact ⟨es, c, kus, vus, h1, h2, h3, h4, h5, h6⟩
theorem BRel.fgt {M : Mem} {ρ ρ' : Env} {w : World} {B : ABlock} {r : Spot} {p : Nat -> Bool} (h : BRel M ρ w B r) (hρ : ∀ j, p j = false -> ρ'[j]? = ρ[j]?) : BRel M ρ' w (fgtB p B) r := by
 cases B <;> cases r <;> simp only [fgtB, BRel] at * <;> try exact h
 case obj.here cs cb sh n =>
  obtain ⟨c, T, h1, h2, h3, h4, h5, h6⟩ := h;exact ⟨c, T, h1, h2, by rw [qd0]; exact h3, h4, h5.fgt hρ, h6⟩
theorem qik {p : Nat -> Bool} {B : ABlock} : (∀ cs, B ≠ .obj cs) -> fgtB p B = B := by
 intro h; cases B <;> first | rfl | exact absurd rfl (h _)
theorem MInv.startA {A : Nat -> Obj -> Prop} {n0 : Nat} {M : Mem} {ρ : Env} {H : List ABlock} {w : World} (h : SRel M ρ H w) (hA : ∀ k o, A k o -> w.heap[k]? = some o /\ o.isOther = true /\ ¬ ρ.has k) (hn : n0 <= ρ.length) : MInv A n0 M ρ w M ρ H w :=
 ⟨h, M.le_refl, hn, Nat.le_refl _, fun _ _ _ _ h => h, fun _ _ h => h, Touch.refl _ _, Newer.refl _ _ _, fun i _ sh n _ hr => .inl ⟨i, sh, n, hr⟩, hA⟩
theorem MInv.start {M : Mem} {ρ : Env} {H : List ABlock} {w : World} (h : SRel M ρ H w) : MInv NoA ρ.length M ρ w M ρ H w := MInv.startA h (fun _ _ h => h.elim) (Nat.le_refl _)
theorem qdP {ρ : Env} {b : Nat} {r : Spot} {k : Nat} (h : Env.has (ρ.set b r) k) : ρ.has k \/ ∃ sh n, r = .here k sh n := by
 obtain ⟨i, sh, n, hi⟩ := h;rw [List.getElem?_set] at hi
 split at hi
 ·split at hi
  ·cases hi; exact .inr ⟨sh, n, rfl⟩
  ·cases hi
 ·exact .inl ⟨i, sh, n, hi⟩
theorem SRel.cell_lt {M : Mem} {ρ : Env} {H : List ABlock} {w : World} (h : SRel M ρ H w) {b o : Nat} {v : Value} (hc : M.cell b o = some v) : b < w.heap.size := by
 have := h.cells b o v hc;unfold World.cell? at this
 rcases hb : w.heap[b]? with _ | ob
 ·simp [hb] at this
 ·exact (Array.getElem?_eq_some_iff.1 hb).1
theorem SRel.map_lt {M : Mem} {ρ : Env} {H : List ABlock} {w : World} (h : SRel M ρ H w) {b : Nat} {es : Ents} (hc : M.map b = some es) : b < w.heap.size := by
 have hb := h.maps b es hc;exact (Array.getElem?_eq_some_iff.1 hb).1
theorem cell?_eq {w w' : World} {b o : Nat} (h : w'.heap[b]? = w.heap[b]?) : w'.cell? ⟨b, o, none⟩ = w.cell? ⟨b, o, none⟩ := by
 simp [World.cell?, h]
theorem SRel.turn {M : Mem} {ρ : Env} {H : List ABlock} {w w' : World} (h : SRel M ρ H w) {b cb sh n : Nat} {B : ABlock} (hb : b < H.length)
  (hother : ∀ k, k ≠ cb -> k < w.heap.size -> w'.heap[k]? = w.heap[k]?) (hfree : (∀ o, M.cell cb o = none) /\ M.map cb = none)
  (hsz : w.heap.size <= w'.heap.size) (hlt : cb < w'.heap.size) (hcb : ∀ j cb' sh' n', j ≠ b -> ρ[j]? = some (.here cb' sh' n') -> H[j]? ≠ some (.frz []) -> cb' ≠ cb)
  (hB : BRel M (ρ.set b (.here cb sh n)) w' B (.here cb sh n)) (hg : ∀ j B', j ≠ b -> H[j]? = some B' -> BRel M (ρ.set b (.here cb sh n)) w B' (ρ[j]?.getD .gone)) :
  SRel M (ρ.set b (.here cb sh n)) (H.set b B) w' := by
 have hl := h.len;refine ⟨by simp [hl], ?_, ?_, ?_, ?_, ?_⟩
 ·intro i B' r hB' hr
  rw [List.getElem?_set] at hB' hr
  by_cases e : b = i
  ·subst e
   rw [if_pos rfl, if_pos hb] at hB';rw [if_pos rfl, if_pos (by omega)] at hr
   cases hB'; cases hr
   exact hB
  ·rw [if_neg e] at hB' hr
   have hk := hg i B' (fun h => e h.symm) hB'
   rw [hr] at hk;refine BRel.keepA hk fun cb' sh' n' hr' hd => ?_
   subst hr';exact hother cb' (hcb i cb' sh' n' (fun h => e h.symm) hr (by rw [hB']; exact fun e => hd (Option.some.inj e))) (h.lt i cb' sh' n' hr)
 ·intro i j c1 s1 n1 c2 s2 n2 hij h1 h2 a1 a2
  rw [List.getElem?_set] at h1 h2
  by_cases e1 : b = i
  ·subst e1
   rw [if_pos rfl, if_pos (by omega)] at h1
   rw [if_neg hij] at h2;rw [List.getElem?_set_ne hij] at a2
   cases h1
   exact fun e => hcb j c2 s2 n2 (fun h => hij h.symm) h2 a2 e.symm
  ·rw [if_neg e1] at h1
   rw [List.getElem?_set_ne e1] at a1
   by_cases e2 : b = j
   ·subst e2
    rw [if_pos rfl, if_pos (by omega)] at h2
    cases h2
    exact hcb i c1 s1 n1 (fun h => e1 h.symm) h1 a1
   ·rw [if_neg e2] at h2
    rw [List.getElem?_set_ne e2] at a2;exact h.inj i j c1 s1 n1 c2 s2 n2 hij h1 h2 a1 a2
 ·intro i c1 s1 n1 h1
  rw [List.getElem?_set] at h1
  by_cases e1 : b = i
  ·subst e1
   rw [if_pos rfl, if_pos (by omega)] at h1
   cases h1
   exact hlt
  ·rw [if_neg e1] at h1
   exact Nat.lt_of_lt_of_le (h.lt i c1 s1 n1 h1) hsz
 ·intro b' o v hv
  have hne : b' ≠ cb := fun e => by subst e; rw [hfree.1 o] at hv; cases hv
  rw [cell?_eq (hother b' hne (h.cell_lt hv))];exact h.cells b' o v hv
 ·intro b' es hv
  have hne : b' ≠ cb := fun e => by subst e; rw [hfree.2] at hv; cases hv
  rw [hother b' hne (h.map_lt hv)]; exact h.maps b' es hv
theorem SRel.spot {M : Mem} {ρ : Env} {H : List ABlock} {w : World} (h : SRel M ρ H w) {b : Nat} {B : ABlock} (hB : H[b]? = some B) : ∃ r, ρ[b]? = some r /\ BRel M ρ w B r := by
 have hb := (List.getElem?_eq_some_iff.1 hB).1;have hl := h.len;refine ⟨ρ[b], List.getElem?_eq_getElem (by omega), ?_⟩
 exact h.blk b B _ hB (List.getElem?_eq_getElem (by omega))
theorem SRel.free {M : Mem} {ρ : Env} {H : List ABlock} {w : World} (h : SRel M ρ H w) {cb : Nat} {c : Array Value} {T : TypeId} (hc : w.heap[cb]? = some (.cells c T (0, 0))) (hn : ∀ o, M.cell cb o = none) :
  (∀ o, M.cell cb o = none) /\ M.map cb = none := by
 refine ⟨hn, ?_⟩
 cases hm : M.map cb with
 | none => rfl
 | some es =>
  have h1 := h.maps cb es hm;rw [hc] at h1; cases h1
theorem SRel.write {M : Mem} {ρ : Env} {H : List ABlock} {w : World} (h : SRel M ρ H w) {b cb sh n : Nat} {B B' : ABlock} {c c' : Array Value} {T : TypeId} (hB : H[b]? = some B) (hd : B ≠ .frz []) (hr : ρ[b]? = some (.here cb sh n))
  (hc : w.heap[cb]? = some (.cells c T (0, 0))) (hn : ∀ o, M.cell cb o = none) (hB' : BRel M ρ (w.setRow cb c') B' (.here cb sh n)) :
  SRel M ρ (H.set b B') (w.setRow cb c') := by
 have hb := (List.getElem?_eq_some_iff.1 hB).1
 have hρ : ρ.set b (.here cb sh n) = ρ := by
  apply List.ext_getElem?
  intro j;rw [List.getElem?_set]
  split
  ·rename_i e; subst e; rw [hr]; simp [h.len, hb]
  ·rfl
 have hk := SRel.turn (w' := w.setRow cb c') h (b := b) (cb := cb) (sh := sh) (n := n) (B := B') hb (fun k hk _ => setRow_other w cb k c' hk) (h.free hc hn) (by simp [World.setRow]) (by simpa [World.setRow] using h.lt b cb sh n hr)
  (fun j cb' sh' n' hj hj' ha => h.inj j b cb' sh' n' cb sh n hj hj' hr ha (by rw [hB]; exact fun e => hd (Option.some.inj e))) (by rw [hρ]; exact hB') (fun j B'' hj hBj => by
   obtain ⟨r, h1, h2⟩ := h.spot hBj;rw [hρ, h1]; exact h2)
 rw [hρ] at hk;exact hk
theorem SRel.lay {M : Mem} {ρ : Env} {H : List ABlock} {w w' : World} (h : SRel M ρ H w) {id sh n : Nat} {B : ABlock} (hg : H[id]? = some .gone)
  (hother : ∀ k, k < w.heap.size -> w'.heap[k]? = w.heap[k]?) {cb : Nat} (hcb : w.heap.size <= cb) (hlt : cb < w'.heap.size) (hsz : w.heap.size <= w'.heap.size)
  (hB : BRel M (ρ.set id (.here cb sh n)) w' B (.here cb sh n)) :
  SRel M (ρ.set id (.here cb sh n)) (H.set id B) w' /\ Env.le ρ (ρ.set id (.here cb sh n)) := by
 have hb := (List.getElem?_eq_some_iff.1 hg).1;obtain ⟨r, hr, hBr⟩ := h.spot hg;have hr' : r = .gone := by cases r <;> simp only [BRel] at hBr; rfl
 subst hr';have hle : Env.le ρ (ρ.set id (.here cb sh n)) := Env.le_set hr
 have hnc : ∀ o, M.cell cb o = none := fun o => by
  cases hm : M.cell cb o with
  | none => rfl
  | some v => have := h.cell_lt hm; omega
 have hnm : M.map cb = none := by
  cases hm : M.map cb with
  | none => rfl
  | some v => have := h.map_lt hm; omega
 refine ⟨SRel.turn h hb (fun k _ hk => hother k hk) ⟨hnc, hnm⟩ hsz hlt (fun j cb' sh' n' hj hj' _ => ?_) hB (fun j B' hj hBj => ?_), hle⟩
 ·have := h.lt j cb' sh' n' hj'; omega
 ·obtain ⟨r', h1, h2⟩ := h.spot hBj
  rw [h1];exact BRel.mono h2 M.le_refl hle (fun _ _ _ _ => ⟨fun _ k => k, fun k => k⟩)
theorem SRel.move {M : Mem} {ρ : Env} {H : List ABlock} {w w' : World} (h : SRel M ρ H w) {b cb sh n : Nat} {B : ABlock} (hb : b < H.length)
  (hother : ∀ k, k ≠ cb -> k < w.heap.size -> w'.heap[k]? = w.heap[k]?) (hfree : (∀ o, M.cell cb o = none) /\ M.map cb = none) (hlt : cb < w'.heap.size) (hsz : w.heap.size <= w'.heap.size)
  (hcb : ∀ j cb' sh' n', j ≠ b -> ρ[j]? = some (.here cb' sh' n') -> H[j]? ≠ some (.frz []) -> cb' ≠ cb)
  (hB : BRel M (ρ.set b (.here cb sh n)) w' B (.here cb sh n)) (hBo : ∀ cs, B ≠ .obj cs) :
  SRel M (ρ.set b (.here cb sh n)) ((H.set b B).map (fgtB (· == b))) w' := by
 have hρ : ∀ j, (j == b) = false -> (ρ.set b (.here cb sh n))[j]? = ρ[j]? := fun j hj => Env.but_set ρ b _ j (by simpa using hj)
 have hmap : (H.set b B).map (fgtB (· == b)) = (H.map (fgtB (· == b))).set b B := by
  rw [List.map_set, qik hBo]
 rw [hmap];have h2 : SRel M ρ H w := h;have hl := h.len;refine ⟨by simp [hl], ?_, ?_, ?_, ?_, ?_⟩
 ·intro i B' r hB' hr
  rw [List.getElem?_set] at hB' hr
  by_cases e : b = i
  ·subst e
   rw [if_pos rfl, if_pos (by simpa using hb)] at hB'
   rw [if_pos rfl, if_pos (by omega)] at hr
   cases hB'; cases hr
   exact hB
  ·rw [if_neg e] at hB' hr
   rw [List.getElem?_map] at hB'
   cases hBi : H[i]? with
   | none => rw [hBi] at hB'; cases hB'
   | some Bi =>
    rw [hBi] at hB'; cases hB';have hk := (h.blk i Bi r hBi hr).fgt (p := (· == b)) hρ;refine BRel.keepA hk fun cb' sh' n' hr' hd => ?_
    subst hr';exact hother cb' (hcb i cb' sh' n' (fun h => e h.symm) hr (by rw [hBi]; exact fun e => hd (by rw [Option.some.inj e]; rfl))) (h.lt i cb' sh' n' hr)
 ·intro i j c1 s1 n1 c2 s2 n2 hij h1 h2 a1 a2
  rw [List.getElem?_set] at h1 h2
  by_cases e1 : b = i
  ·subst e1
   rw [if_pos rfl, if_pos (by omega)] at h1
   rw [if_neg hij] at h2;rw [List.getElem?_set_ne hij] at a2; have a2 := qP a2
   cases h1
   exact fun e => hcb j c2 s2 n2 (fun h => hij h.symm) h2 a2 e.symm
  ·rw [if_neg e1] at h1
   rw [List.getElem?_set_ne e1] at a1; have a1 := qP a1
   by_cases e2 : b = j
   ·subst e2
    rw [if_pos rfl, if_pos (by omega)] at h2
    cases h2
    exact hcb i c1 s1 n1 (fun h => e1 h.symm) h1 a1
   ·rw [if_neg e2] at h2
    rw [List.getElem?_set_ne e2] at a2; have a2 := qP a2;exact h.inj i j c1 s1 n1 c2 s2 n2 hij h1 h2 a1 a2
 ·intro i c1 s1 n1 h1
  rw [List.getElem?_set] at h1
  by_cases e1 : b = i
  ·subst e1
   rw [if_pos rfl, if_pos (by omega)] at h1
   cases h1
   exact hlt
  ·rw [if_neg e1] at h1
   exact Nat.lt_of_lt_of_le (h.lt i c1 s1 n1 h1) hsz
 ·intro b' o v hv
  have hne : b' ≠ cb := fun e => by subst e; rw [hfree.1 o] at hv; cases hv
  rw [cell?_eq (hother b' hne (h.cell_lt hv))];exact h.cells b' o v hv
 ·intro b' es hv
  have hne : b' ≠ cb := fun e => by subst e; rw [hfree.2] at hv; cases hv
  rw [hother b' hne (h.map_lt hv)]; exact h.maps b' es hv
theorem qda {M : Mem} {ρ : Env} {v : LV} {x : Value} (h : okConst1 v x = true) (ht : v.isTup = false) : LRel M ρ v [x] /\ v.isAgg = false := by
 unfold okConst1 at h
 split at h
 ·have e := eq_of_beq h; subst e; exact ⟨by simp only [LRel, CRel], rfl⟩
 ·simp only [Bool.and_eq_true, beq_iff_eq] at h
  obtain ⟨rfl, rfl⟩ := h; exact ⟨by simp only [LRel, CRel], rfl⟩
 ·have e := of_decide_eq_true h; subst e; exact ⟨by simp only [LRel, CRel], rfl⟩
 ·exact ⟨by simp only [LRel, CRel], rfl⟩
 ·exact ⟨by simp only [LRel, CRel], rfl⟩
 ·exact ⟨by simp only [LRel, CRel]; exact ⟨none, rfl, .inl ⟨rfl, by simp, by simp⟩⟩, rfl⟩
 ·refine ⟨?_, rfl⟩
  simp only [LRel];exact ⟨none, 0, rfl, by simp only [CRel]; exact ⟨none, 0, 0, rfl, rfl, Nat.le_refl _, by simp [maxLen], .inl (by simp)⟩⟩
 ·exact ⟨by simp only [LRel, CRel]; exact ⟨none, 0, 0, rfl, rfl, Nat.le_refl _, by simp [maxLen], .inl (by simp)⟩, rfl⟩
 ·refine ⟨?_, rfl⟩
  simp only [LRel];intro u hu;simp only [List.mem_singleton] at hu;subst hu; exact h
 ·rename_i vs
  have e : vs = #[] := by simpa using h
  cases ht
 ·cases h
theorem qai {M : Mem} {ρ : Env} : ∀ (cs : List LV) (vs : List Value), okConstL cs vs = true -> LRelC M ρ cs (ones vs)
 | [], [], _ => by simp [LRelC]
 | [], _ :: _, h => by simp [okConstL] at h
 | _ :: _, [], h => by simp [okConstL] at h
 | c :: cs, v :: vs, h => by
  simp only [okConstL, Bool.and_eq_true, Bool.not_eq_true'] at h;simp only [qak, LRelC];exact ⟨[v], ones vs, rfl, (qda h.1.1 h.1.2).1, qai cs vs h.2⟩
theorem qd1 {M : Mem} {ρ : Env} (v : LV) (x : Value) (h : okConst v x = true) : LVal M ρ v x := by
 unfold okConst at h
 split at h
 ·rename_i cs vs
  have := qai (M := M) (ρ := ρ) cs vs.toList h
  simpa using qbJ this
 ·cases ht : v.isTup with
  | false =>
   obtain ⟨h1, h2⟩ := qda (M := M) (ρ := ρ) h ht;exact qh h1 h2
  | true =>
   cases v with
   | tup vs =>
    cases vs with
    | cons => simp [okConst1] at h
    | nil =>
     cases x <;> simp [okConst1] at h
     subst h;exact qp (xs := []) rfl
   | _ => cases ht
theorem FRel.fget {M : Mem} {ρ : Env} : ∀ {fr : List LV} {xs : List Value} (n : Nat), FRel M ρ fr xs -> LVal M ρ (fget fr n) (xs.getD n undef)
 | [], _, _, _ => qcz
 | v :: vs, xs, 0, h => by obtain ⟨y, ys, rfl, h1, _⟩ := h; simpa [Go.E.fget] using h1
 | v :: vs, xs, n + 1, h => by obtain ⟨y, ys, rfl, _, h2⟩ := h; simpa [Go.E.fget] using h2.fget n
theorem FRel.fset {M : Mem} {ρ : Env} : ∀ {fr : List LV} {xs : List Value} (n : Nat) {v : LV} {x : Value}, FRel M ρ fr xs -> LVal M ρ v x -> FRel M ρ (fset fr n v) (xs.set n x)
 | [], xs, n, v, x, h, _ => by simp [FRel] at h; subst h; simp [Go.E.fset, FRel]
 | d :: vs, xs, 0, v, x, h, k => by obtain ⟨y, ys, rfl, _, h2⟩ := h; exact ⟨x, ys, rfl, k, h2⟩
 | d :: vs, xs, n + 1, v, x, h, k => by obtain ⟨y, ys, rfl, h1, h2⟩ := h; exact ⟨y, ys.set n x, rfl, h1, h2.fset n k⟩
theorem qf {M : Mem} {ρ : Env} {fr : List LV} {a : Act} (hf : FRel M ρ fr a.tmps.toList) {x : AX} {y : Operand} (h : okX x y = true) : LVal M ρ (x.ev fr) (a.eval y) := by
 unfold okX at h
 split at h
 next n m =>
  have e : n = m := by simpa using h
  subst e;have hk := hf.fget n
  simpa [AX.ev, Act.eval, Array.getD_eq_getD_getElem?, List.getD_eq_getElem?_getD] using hk
 next f g =>
  have e : f = g := by simpa using h
  subst e;rw [AX.ev, qi];exact qj (by simp only [CRel]; exact ⟨[], [], rfl, by simp [CRelC], by simp [CRelC]⟩) rfl
 next => exact qcz
 next => exact qd1 _ _ h
 next => cases h
theorem qE {M : Mem} {ρ : Env} {fr : List LV} {a : Act} (hf : FRel M ρ fr a.tmps.toList) : ∀ {xs : List AX} {ys : List Operand}, okXs xs ys = true -> FRel M ρ (xs.map (·.ev fr)) (ys.map a.eval)
 | [], [], _ => rfl
 | [], _ :: _, h => by simp [okXs] at h
 | _ :: _, [], h => by simp [okXs] at h
 | x :: xs, y :: ys, h => by
  simp only [okXs, Bool.and_eq_true] at h;exact ⟨_, _, rfl, qf hf h.1, qE hf h.2⟩
def killV : Option Nat -> LV -> LV
 | none, v => v
 | some b, v => fgt (· == b) v
def killH : Option Nat -> List ABlock -> List ABlock
 | none, H => H
 | some b, H => H.map (fgtB (· == b))
def Nxt (A : Nat -> Obj -> Prop) (n0 : Nat) (M0 : Mem) (ρ0 : Env) (w0 : World) (M : Mem) (ρ : Env) (id : Nat) (v : LV) (H' : List ABlock) (kl : Option Nat) (x : Value) (w' : World) : Prop :=
 ∃ M' ρ', MInv A n0 M0 ρ0 w0 M' ρ' (killH kl H') w' /\ (∀ (j : Nat), j ≠ id -> ρ[j]? = some Spot.gone -> ρ'[j]? = some Spot.gone) /\ (∀ u y, LVal M ρ u y -> LVal M' ρ' (killV kl u) y) /\ LVal M' ρ' v x
section
variable {P : Program} {A : Nat -> Obj -> Prop} {dfs : List Deferred} {n0 : Nat} {M0 : Mem} {ρ0 : Env} {w0 : World} {M : Mem} {ρ : Env} {H : List ABlock} {w : World} {o : Oper} {a : Act} {K : Act -> World -> Prop} {Q : Exit -> Act -> World -> Prop}
theorem qg {id : Nat} (hI : MInv A n0 M0 ρ0 w0 M ρ H w) {v : LV} {x : Value} (h : LVal M ρ v x) : Nxt A n0 M0 ρ0 w0 M ρ id v H none x w := ⟨M, ρ, hI, fun _ _ h => h, fun _ _ k => k, h⟩
theorem qc {x : Value} {w' : World} (h : (execOp a.eval o).run P w = .ok (.value x) w') (hk : K (a.put o.dst x) w') : o.wp P a w K Q := by
 unfold Oper.wp; rw [h]; exact hk
theorem qed {w' : World} (h : (execOp a.eval o).run P w = .ok .skip w') (hk : K (a.put o.dst undef) w') : o.wp P a w K Q := by
 unfold Oper.wp; rw [h]; exact hk
theorem qQ {t : TypeId} {b : Bool} (h : aggTy P t = some b) (w : World) : (isAgg t).run P w = .ok b w := by
 unfold aggTy at h
 cases hu : P.underlying t with
 | none => rw [hu] at h; cases h
 | some d => rw [hu] at h; cases d <;> simp at h <;> subst h <;> simp [isAgg, run_underlying hu]
theorem qJ {t : TypeId} {n : Nat} (h : szTy P t = some n) (w : World) : (sizeOf t).run P w = .ok n w := by
 unfold szTy at h
 cases hu : P.info? t with
 | none => rw [hu] at h; cases h
 | some d => rw [hu] at h; simp at h; subst h; simp [sizeOf, typeInfo, hu]
theorem qaD {t : TypeId} {b o : Nat} {us : List Value} (ha : aggTy P t = some true) (hs : szTy P t = some us.length) (w : World) (h : ∀ j v, us[j]? = some v -> w.cell? ⟨b, o + j, none⟩ = some v) :
  (loadVar t ⟨b, o, none⟩).run P w = .ok (.agg us.toArray) w := by
 have hc := run_loadCells_list (P := P) w ⟨b, o, none⟩ us (fun j v hv => by rw [Addr.add_lit]; exact h j v hv)
 simp [loadVar, qQ ha, qJ hs, hc]
theorem qaE {t : TypeId} {b o : Nat} {u : Value} (ha : aggTy P t = some false) (w : World) (h : w.cell? ⟨b, o, none⟩ = some u) :
  (loadVar t ⟨b, o, none⟩).run P w = .ok u w := by
 simp [loadVar, qQ ha, h]
end
section inversion
variable {P : Program} {o : Op}
theorem qmr {x : AX} (h : okOp P (.mov x) o = true) : ∃ y, (o = .move y \/ o = .assign y) /\ okX x y = true := by
 cases o <;> first | exact ⟨_, .inl rfl, h⟩ | exact ⟨_, .inr rfl, h⟩ | exact Bool.noConfusion (show false = true from h)
theorem qkS {c a b : AX} (h : okOp P (.pick c a b) o = true) : ∃ c' a' b', o = .pick c' a' b' /\ okX c c' = true /\ okX a a' = true /\ okX b b' = true := by
 cases o <;> first | exact Bool.noConfusion (show false = true from h) | (simp only [okOp, Bool.and_eq_true] at h; exact ⟨_, _, _, rfl, h.1.1, h.1.2, h.2⟩)
theorem qkT {n : Nat} {g : Bool} {x : AX} (h : okOp P (.load n g x) o = true) : ∃ t y, o = .load t y /\ okX x y = true /\ aggTy P t = some g /\ szTy P t = some n /\ (g = true \/ n = 1) := by
 cases o <;> first | exact Bool.noConfusion (show false = true from h) | (simp only [okOp, Bool.and_eq_true, beq_iff_eq, Bool.or_eq_true] at h; exact ⟨_, _, rfl, h.1.1.1, h.1.1.2, h.1.2, h.2⟩)
theorem qi4 {x : AX} (h : okOp P (.nilck x) o = true) : ∃ y, o = .nilCheck y /\ okX x y = true := by
 cases o <;> first | exact Bool.noConfusion (show false = true from h) | exact ⟨_, rfl, h⟩
theorem qkU {x : AX} (h : okOp P (.boxS x) o = true) : ∃ t y, o = .box t y /\ okX x y = true := by
 cases o <;> first | exact Bool.noConfusion (show false = true from h) | exact ⟨_, _, rfl, h⟩
theorem qms {x : AX} (h : okOp P (.not x) o = true) : ∃ t y, o = .unOp .not t y /\ okX x y = true := by
 cases o <;> try exact Bool.noConfusion (show false = true from h)
 rename_i u t y
 cases u <;> first | exact Bool.noConfusion (show false = true from h) | exact ⟨_, _, rfl, h⟩
theorem qmt {x : AX} (h : okOp P (.neg x) o = true) : ∃ t y, o = .unOp .neg t y /\ okX x y = true := by
 cases o <;> try exact Bool.noConfusion (show false = true from h)
 rename_i u t y
 cases u <;> first | exact Bool.noConfusion (show false = true from h) | exact ⟨_, _, rfl, h⟩
theorem qkV {k : IntKind} {x : AX} (h : okOp P (.conv k x) o = true) : ∃ s d y d', o = .convert s d y /\ okX x y = true /\ P.underlying s = some d' /\ P.underlying d = some (.int k) := by
 cases o <;> first | exact Bool.noConfusion (show false = true from h) | skip
 rename_i s d y
 simp only [okOp, Bool.and_eq_true, Option.isSome_iff_exists] at h;obtain ⟨⟨h1, d', h2⟩, h3⟩ := h
 split at h3
 ·rename_i k' hk; have e := of_decide_eq_true h3; subst e; exact ⟨s, d, y, d', rfl, h1, h2, hk⟩
 ·cases h3
theorem qfZ {off : Nat} {x : AX} (h : okOp P (.fieldAddr off x) o = true) : ∃ t y i n ft, o = .fieldAddr t y i /\ okX x y = true /\ fieldOf P t i = some (off, n, ft) /\ n ≠ 0 := by
 cases o <;> first | exact Bool.noConfusion (show false = true from h) | skip
 rename_i t y i
 simp only [okOp, Bool.and_eq_true] at h;obtain ⟨h1, h2⟩ := h
 split at h2
 ·rename_i o' n ft hk
  simp only [Bool.and_eq_true, beq_iff_eq, bne_iff_ne] at h2;obtain ⟨rfl, h3⟩ := h2;exact ⟨t, y, i, n, ft, rfl, h1, hk, h3⟩
 ·cases h2
theorem qi5 {off n : Nat} {g : Bool} {x : AX} (h : okOp P (.field off n g x) o = true) : ∃ t y i ft, o = .field t y i /\ okX x y = true /\ fieldOf P t i = some (off, n, ft) /\ aggTy P ft = some g := by
 cases o <;> first | exact Bool.noConfusion (show false = true from h) | skip
 rename_i t y i
 simp only [okOp, Bool.and_eq_true] at h;obtain ⟨h1, h2⟩ := h
 split at h2
 ·rename_i o' m ft hk
  simp only [Bool.and_eq_true, beq_iff_eq] at h2;obtain ⟨⟨rfl, rfl⟩, h3⟩ := h2;exact ⟨t, y, i, ft, rfl, h1, hk, h3⟩
 ·cases h2
theorem qkW {sz : Nat} {x i : AX} (h : okOp P (.idxA sz x i) o = true) : ∃ t y j, o = .indexAddr t y j /\ okX x y = true /\ okX i j = true /\ slSz P t = some sz := by
 cases o <;> first | exact Bool.noConfusion (show false = true from h) | (simp only [okOp, Bool.and_eq_true, beq_iff_eq] at h; exact ⟨_, _, _, rfl, h.1.1, h.1.2, h.2⟩)
theorem qhi {n sz : Nat} {x i : AX} (h : okOp P (.idxArrA n sz x i) o = true) : ∃ t y j, o = .indexAddr t y j /\ okX x y = true /\ okX i j = true /\ arrSz P t = some (n, sz) := by
 cases o <;> first | exact Bool.noConfusion (show false = true from h) | (simp only [okOp, Bool.and_eq_true, beq_iff_eq] at h; exact ⟨_, _, _, rfl, h.1.1, h.1.2, h.2⟩)
theorem qmu {n sz : Nat} {g : Bool} {x i : AX} (h : okOp P (.idx n sz g x i) o = true) : ∃ t y j e ie, o = .index t y j /\ okX x y = true /\ okX i j = true /\ P.underlying t = some (.array n e) /\ P.info? e = some ie /\ ie.size = sz /\ aggTy P e = some g := by
 cases o <;> first | exact Bool.noConfusion (show false = true from h) | skip
 rename_i t y j
 simp only [okOp, Bool.and_eq_true, beq_iff_eq] at h;obtain ⟨⟨⟨h1, h2⟩, h3⟩, h4⟩ := h
 split at h4
 ·rename_i m e hu
  simp only [arrSz, hu] at h3
  cases hi : P.info? e with
  | none => rw [hi] at h3; cases h3
  | some ie => rw [hi] at h3; simp at h3; obtain ⟨rfl, rfl⟩ := h3; exact ⟨t, y, j, e, ie, rfl, h1, h2, hu, hi, rfl, by simpa using h4⟩
 ·cases h4
theorem qmv {x : AX} {j : Nat} (h : okOp P (.ext x j) o = true) : ∃ y, o = .extract y j /\ okX x y = true := by
 cases o <;> first | exact Bool.noConfusion (show false = true from h) | (simp only [okOp, Bool.and_eq_true, beq_iff_eq] at h; obtain ⟨h1, rfl⟩ := h; exact ⟨_, rfl, h1⟩)
theorem qkX {f : FuncId} {first caps : List AX} (h : okOp P (.mkfn f first caps) o = true) : ∃ fs cs, o = .makeFunc (.func f) fs cs /\ okXs first fs.toList = true /\ okXs caps cs.toList = true := by
 cases o <;> try exact Bool.noConfusion (show false = true from h)
 rename_i g fs cs
 cases g <;> first | exact Bool.noConfusion (show false = true from h) | (simp only [okOp, Bool.and_eq_true, beq_iff_eq] at h; obtain ⟨⟨rfl, h1⟩, h2⟩ := h; exact ⟨_, _, rfl, h1, h2⟩)
theorem qi6 {op : BinOp} {x y : AX} (h : okOp P (.arith op x y) o = true) : ∃ t x' y' u, o = .binOp op t x' y' u /\ okX x x' = true /\ okX y y' = true := by
 cases o <;> first | exact Bool.noConfusion (show false = true from h) | (simp only [okOp, Bool.and_eq_true, decide_eq_true_eq] at h; obtain ⟨⟨⟨rfl, h1⟩, h2⟩, _⟩ := h; exact ⟨_, _, _, _, rfl, h1, h2⟩)
theorem qmw {op : BinOp} {x y : AX} (h : okOp P (.cmp op x y) o = true) : ∃ t x' y' u, o = .binOp op t x' y' u /\ okX x x' = true /\ okX y y' = true := by
 cases o <;> first | exact Bool.noConfusion (show false = true from h) | (simp only [okOp, Bool.and_eq_true, decide_eq_true_eq] at h; obtain ⟨⟨⟨rfl, h1⟩, h2⟩, _⟩ := h; exact ⟨_, _, _, _, rfl, h1, h2⟩)
theorem qkY {op : BinOp} {x y : AX} (h : okOp P (.bits op x y) o = true) : ∃ t x' y' u, o = .binOp op t x' y' u /\ okX x x' = true /\ okX y y' = true /\ (op = .and \/ op = .or \/ op = .xor \/ op = .andNot) := by
 cases o <;> first | exact Bool.noConfusion (show false = true from h) | (simp only [okOp, Bool.and_eq_true, decide_eq_true_eq] at h; obtain ⟨⟨⟨rfl, h1⟩, h2⟩, h3⟩ := h; exact ⟨_, _, _, _, rfl, h1, h2, by cases op <;> simp at h3 ⊢⟩)
theorem qmx {op : BinOp} {x y : AX} (h : okOp P (.div op x y) o = true) : ∃ t x' y' u, o = .binOp op t x' y' u /\ okX x x' = true /\ okX y y' = true := by
 cases o <;> first | exact Bool.noConfusion (show false = true from h) | (simp only [okOp, Bool.and_eq_true, decide_eq_true_eq] at h; obtain ⟨⟨⟨rfl, h1⟩, h2⟩, _⟩ := h; exact ⟨_, _, _, _, rfl, h1, h2⟩)
theorem qi7 {op : BinOp} {x y : AX} (h : okOp P (.shift op x y) o = true) : ∃ t x' y' u, o = .binOp op t x' y' u /\ okX x x' = true /\ okX y y' = true := by
 cases o <;> first | exact Bool.noConfusion (show false = true from h) | (simp only [okOp, Bool.and_eq_true, decide_eq_true_eq] at h; obtain ⟨⟨⟨rfl, h1⟩, h2⟩, _⟩ := h; exact ⟨_, _, _, _, rfl, h1, h2⟩)
end inversion
section
variable {P : Program} {A : Nat -> Obj -> Prop} {dfs : List Deferred} {M0 : Mem} {ρ0 : Env} {w0 : World} {M : Mem} {ρ : Env} {H : List ABlock} {w : World} {o : Oper} {a : Act} {K : Act -> World -> Prop} {Q : Exit -> Act -> World -> Prop} {fr : List LV} {k : AK} {n0 id : Nat}
theorem qu {v : LV} {x : Value} {K : IntKind} {n : Int} (hv : v = .s (.int K n)) (h : LVal M ρ v x) : x = .int K n := by
 subst hv; rw [qi] at h; have := h.one rfl; simpa [CRel] using this
theorem qa2 {v : LV} {x : Value} {b : Bool} (hv : v = .s (.bool b)) (h : LVal M ρ v x) : x = .bool b := by
 subst hv; rw [qi] at h; have := h.one rfl; simpa [CRel] using this
theorem qq {K : IntKind} {n : Int} : LVal M ρ (.s (.int K n)) (.int K n) := by rw [qi]; exact qj (by simp [CRel]) rfl
theorem qal {b : Bool} : LVal M ρ (.s (.bool b)) (.bool b) := by rw [qi]; exact qj (by simp [CRel]) rfl
theorem qmy (hI : MInv A n0 M0 ρ0 w0 M ρ H w) (hf : FRel M ρ fr a.tmps.toList) {x : AX} (hok : okOp P (.mov x) o.op = true) (h : aop P n0 id fr H (.mov x) k)
  (hK : ∀ v H' kl f x w', k v H' kl f -> f -> Nxt A n0 M0 ρ0 w0 M ρ id v H' kl x w' -> K (a.put o.dst x) w') : o.wp P a w K Q := by
 obtain ⟨y, hy, hx⟩ := qmr hok;refine qc (x := a.eval y) (w' := w) ?_ (hK _ _ _ _ _ _ h trivial (qg hI (qf hf hx)))
 rcases hy with hy | hy <;> simp [execOp, hy]
theorem qkZ (hI : MInv A n0 M0 ρ0 w0 M ρ H w) (hf : FRel M ρ fr a.tmps.toList) {c x y : AX} (hok : okOp P (.pick c x y) o.op = true) (h : aop P n0 id fr H (.pick c x y) k)
  (hK : ∀ v H' kl f x w', k v H' kl f -> f -> Nxt A n0 M0 ρ0 w0 M ρ id v H' kl x w' -> K (a.put o.dst x) w') : o.wp P a w K Q := by
 obtain ⟨c', x', y', ho, hc, hx, hy⟩ := qkS hok;simp only [aop] at h;have hcr := qf hf hc;generalize hcv : c.ev fr = cv at h hcr;unfold pickK at h
 split at h
 next t =>
  have hb := qa2 rfl hcr
  cases t with
  | true =>
   refine qc (x := a.eval x') (w' := w) ?_ (hK _ _ _ _ _ _ h trivial (qg hI (qf hf hx)));simp [execOp, ho, hb, asBool]
  | false =>
   refine qc (x := a.eval y') (w' := w) ?_ (hK _ _ _ _ _ _ h trivial (qg hI (qf hf hy)));simp [execOp, ho, hb, asBool]
 next => cases h
theorem qmz (hI : MInv A n0 M0 ρ0 w0 M ρ H w) (hf : FRel M ρ fr a.tmps.toList) {x : AX} (hok : okOp P (.not x) o.op = true) (h : aop P n0 id fr H (.not x) k)
  (hK : ∀ v H' kl f x w', k v H' kl f -> f -> Nxt A n0 M0 ρ0 w0 M ρ id v H' kl x w' -> K (a.put o.dst x) w') : o.wp P a w K Q := by
 obtain ⟨t, y, ho, hx⟩ := qms hok;simp only [aop] at h;have hr := qf hf hx;generalize x.ev fr = v at h hr;unfold notK at h
 split at h
 next b =>
  have hb := qa2 rfl hr;refine qc (x := .bool (!b)) (w' := w) ?_ (hK _ _ _ _ _ _ h trivial (qg hI qal));simp [execOp, ho, hb, Op.unary]
 next => cases h
theorem qmA (hI : MInv A n0 M0 ρ0 w0 M ρ H w) (hf : FRel M ρ fr a.tmps.toList) {x : AX} (hok : okOp P (.neg x) o.op = true) (h : aop P n0 id fr H (.neg x) k)
  (hK : ∀ v H' kl f x w', k v H' kl f -> f -> Nxt A n0 M0 ρ0 w0 M ρ id v H' kl x w' -> K (a.put o.dst x) w') : o.wp P a w K Q := by
 obtain ⟨t, y, ho, hx⟩ := qmt hok;simp only [aop] at h;have hr := qf hf hx;generalize x.ev fr = v at h hr;unfold negK at h
 split at h
 next K n =>
  obtain ⟨h1, h2⟩ := h;have hb := qu rfl hr;refine qc (x := .int K (-n)) (w' := w) ?_ (hK _ _ _ _ _ _ h2 trivial (qg hI qq));unfold inR at h1;simp only [Int.zero_sub] at h1;simp [execOp, ho, hb, Op.unary, Op.intArith, h1]
 next => cases h
theorem qk0 (hI : MInv A n0 M0 ρ0 w0 M ρ H w) (hf : FRel M ρ fr a.tmps.toList) {kd : IntKind} {x : AX} (hok : okOp P (.conv kd x) o.op = true) (h : aop P n0 id fr H (.conv kd x) k)
  (hK : ∀ v H' kl f x w', k v H' kl f -> f -> Nxt A n0 M0 ρ0 w0 M ρ id v H' kl x w' -> K (a.put o.dst x) w') : o.wp P a w K Q := by
 obtain ⟨s, d, y, d', ho, hx, hs, hd⟩ := qkV hok;simp only [aop] at h;have hr := qf hf hx;generalize x.ev fr = v at h hr;unfold convK at h
 split at h
 next K n =>
  obtain ⟨h1, h2⟩ := h;have hb := qu rfl hr;refine qc (x := .int kd n) (w' := w) ?_ (hK _ _ _ _ _ _ h2 trivial (qg hI qq));unfold inR at h1;simp [execOp, ho, hb, convert, run_underlying hs, run_underlying hd, Conv.intToInt, h1]
 next => cases h
theorem qB {op : BinOp} {t : TypeId} {x y : Operand} {K K' : IntKind} {a b : Int} (w : World) : (eqGuard op t x y (.int K a) (.int K' b)).run P w = .ok () w := by
 unfold eqGuard
 split <;> simp
theorem qi8 (hI : MInv A n0 M0 ρ0 w0 M ρ H w) (hf : FRel M ρ fr a.tmps.toList) {op : BinOp} {x y : AX} (hok : okOp P (.arith op x y) o.op = true) (h : aop P n0 id fr H (.arith op x y) k)
  (hK : ∀ v H' kl f x w', k v H' kl f -> f -> Nxt A n0 M0 ρ0 w0 M ρ id v H' kl x w' -> K (a.put o.dst x) w') : o.wp P a w K Q := by
 obtain ⟨t, x', y', u, ho, hx, hy⟩ := qi6 hok;simp only [aop] at h;have hr := qf hf hx;have hr' := qf hf hy;generalize x.ev fr = v at h hr;generalize y.ev fr = v' at h hr';unfold arithK at h
 split at h
 next K m K' n =>
  obtain ⟨rfl, h⟩ := h;have hb := qu rfl hr;have hb' := qu rfl hr'
  cases op <;> simp only [arithI] at h
  case add =>
   refine qc (x := .int K (m + n)) (w' := w) ?_ (hK _ _ _ _ _ _ h.2 trivial (qg hI qq));have h1 := h.1; unfold inR at h1;simp [execOp, ho, hb, hb', qB, binOp, Op.intArith, h1]
  case sub =>
   refine qc (x := .int K (m - n)) (w' := w) ?_ (hK _ _ _ _ _ _ h.2 trivial (qg hI qq));have h1 := h.1; unfold inR at h1;simp [execOp, ho, hb, hb', qB, binOp, Op.intArith, h1]
  case mul =>
   refine qc (x := .int K (m * n)) (w' := w) ?_ (hK _ _ _ _ _ _ h.2 trivial (qg hI qq));have h1 := h.1; unfold inR at h1;simp [execOp, ho, hb, hb', qB, binOp, Op.intArith, h1]
 next => cases h
theorem qmB (hI : MInv A n0 M0 ρ0 w0 M ρ H w) (hf : FRel M ρ fr a.tmps.toList) {op : BinOp} {x y : AX} (hok : okOp P (.cmp op x y) o.op = true) (h : aop P n0 id fr H (.cmp op x y) k)
  (hK : ∀ v H' kl f x w', k v H' kl f -> f -> Nxt A n0 M0 ρ0 w0 M ρ id v H' kl x w' -> K (a.put o.dst x) w') : o.wp P a w K Q := by
 obtain ⟨t, x', y', u, ho, hx, hy⟩ := qmw hok;simp only [aop] at h;have hr := qf hf hx;have hr' := qf hf hy;generalize x.ev fr = v at h hr;generalize y.ev fr = v' at h hr';unfold cmpK at h
 split at h
 next K m K' n =>
  obtain ⟨rfl, h⟩ := h;have hb := qu rfl hr;have hb' := qu rfl hr'
  cases op <;> simp only [cmpI] at h
  case eql =>
   refine qc (x := .bool (decide (m = n))) (w' := w) ?_ (hK _ _ _ _ _ _ h trivial (qg hI qal));have hbe : (m == n) = decide (m = n) := by rw [Bool.eq_iff_iff]; simp
   simp [execOp, ho, hb, hb', qB, binOp, Op.intCmp, hbe]
  case neq =>
   refine qc (x := .bool (!decide (m = n))) (w' := w) ?_ (hK _ _ _ _ _ _ h trivial (qg hI qal));have hbe : (m == n) = decide (m = n) := by rw [Bool.eq_iff_iff]; simp
   simp [execOp, ho, hb, hb', qB, binOp, Op.intCmp, bne, hbe]
  all_goals
   refine qc (x := .bool _) (w' := w) ?_ (hK _ _ _ _ _ _ h trivial (qg hI qal));simp [execOp, ho, hb, hb', qB, binOp, Op.intCmp]
 next => cases h
theorem qmC (hI : MInv A n0 M0 ρ0 w0 M ρ H w) (hf : FRel M ρ fr a.tmps.toList) {op : BinOp} {x y : AX} (hok : okOp P (.div op x y) o.op = true) (h : aop P n0 id fr H (.div op x y) k)
  (hK : ∀ v H' kl f x w', k v H' kl f -> f -> Nxt A n0 M0 ρ0 w0 M ρ id v H' kl x w' -> K (a.put o.dst x) w') : o.wp P a w K Q := by
 obtain ⟨t, x', y', u, ho, hx, hy⟩ := qmx hok;simp only [aop] at h;have hr := qf hf hx;have hr' := qf hf hy;generalize x.ev fr = v at h hr;generalize y.ev fr = v' at h hr';unfold divK at h
 split at h
 next K m K' n =>
  obtain ⟨rfl, h0, h⟩ := h;have hb := qu rfl hr;have hb' := qu rfl hr'
  cases op <;> simp only [divI] at h
  case quo =>
   refine qc (x := .int K (m.tdiv n)) (w' := w) ?_ (hK _ _ _ _ _ _ h.2 trivial (qg hI qq));have h1 := h.1; unfold inR at h1;simp [execOp, ho, hb, hb', qB, binOp, Op.intDiv, h0, h1]
  case rem =>
   refine qc (x := .int K (m.tmod n)) (w' := w) ?_ (hK _ _ _ _ _ _ h trivial (qg hI qq));simp [execOp, ho, hb, hb', qB, binOp, Op.intDiv, h0]
 next => cases h
theorem qk1 (hI : MInv A n0 M0 ρ0 w0 M ρ H w) (hf : FRel M ρ fr a.tmps.toList) {op : BinOp} {x y : AX} (hok : okOp P (.bits op x y) o.op = true) (h : aop P n0 id fr H (.bits op x y) k)
  (hK : ∀ v H' kl f x w', k v H' kl f -> f -> Nxt A n0 M0 ρ0 w0 M ρ id v H' kl x w' -> K (a.put o.dst x) w') : o.wp P a w K Q := by
 obtain ⟨t, x', y', u, ho, hx, hy, hop⟩ := qkY hok;simp only [aop] at h;have hr := qf hf hx;have hr' := qf hf hy;generalize x.ev fr = v at h hr;generalize y.ev fr = v' at h hr';unfold bitsK at h
 split at h
 next K m K' n =>
  obtain ⟨rfl, h⟩ := h;have hb := qu rfl hr;have hb' := qu rfl hr';refine qc (x := .int K (bitOf K m n op)) (w' := w) ?_ (hK _ _ _ _ _ _ h trivial (qg hI qq))
  rcases hop with rfl | rfl | rfl | rfl <;> simp [execOp, ho, hb, hb', qB, binOp, Op.intBits, bitOf]
 next => cases h
theorem qi9 (hI : MInv A n0 M0 ρ0 w0 M ρ H w) (hf : FRel M ρ fr a.tmps.toList) {op : BinOp} {x y : AX} (hok : okOp P (.shift op x y) o.op = true) (h : aop P n0 id fr H (.shift op x y) k)
  (hK : ∀ v H' kl f x w', k v H' kl f -> f -> Nxt A n0 M0 ρ0 w0 M ρ id v H' kl x w' -> K (a.put o.dst x) w') : o.wp P a w K Q := by
 obtain ⟨t, x', y', u, ho, hx, hy⟩ := qi7 hok;simp only [aop] at h;have hr := qf hf hx;have hr' := qf hf hy;generalize x.ev fr = v at h hr;generalize y.ev fr = v' at h hr';unfold shiftK at h
 split at h
 next K m K' n =>
  obtain ⟨h0, hlt, h⟩ := h;have hb := qu rfl hr;have hb' := qu rfl hr';have hn : ¬ n < 0 := by omega
  have hmin : min n.toNat K.bits = n.toNat := by omega
  cases op <;> simp only [shiftI] at h
  case shl =>
   refine qc (x := .int K (m * 2 ^ n.toNat)) (w' := w) ?_ (hK _ _ _ _ _ _ h.2 trivial (qg hI qq));have h1 := h.1; unfold inR at h1;simp [execOp, ho, hb, hb', qB, binOp, Op.shift, hn, hmin, h1]
  case shr =>
   refine qc (x := .int K (m.fdiv (2 ^ n.toNat))) (w' := w) ?_ (hK _ _ _ _ _ _ h trivial (qg hI qq));simp [execOp, ho, hb, hb', qB, binOp, Op.shift, hn, hmin]
 next => cases h
theorem qja (hI : MInv A n0 M0 ρ0 w0 M ρ H w) (hf : FRel M ρ fr a.tmps.toList) {x : AX} (hok : okOp P (.nilck x) o.op = true) (h : aop P n0 id fr H (.nilck x) k)
  (hK : ∀ v H' kl f x w', k v H' kl f -> f -> Nxt A n0 M0 ρ0 w0 M ρ id v H' kl x w' -> K (a.put o.dst x) w') : o.wp P a w K Q := by
 obtain ⟨y, ho, hx⟩ := qi4 hok;simp only [aop] at h;have hr := qf hf hx;generalize x.ev fr = v at h hr;unfold nilckK at h
 split at h
 next cs =>
  have hr1 := hr;rw [qi] at hr1;have h1 := hr1.one rfl;simp only [CRel] at h1;obtain ⟨b, of, ws, e, _⟩ := h1;refine qc (x := a.eval y) (w' := w) ?_ (hK _ _ _ _ _ _ h trivial (qg hI hr));simp at e;simp [execOp, ho, e]
 next b off =>
  have h1 := hr.one rfl (by simp)
  simp only [LRel] at h1;obtain ⟨cb, sh, n, _, e⟩ := h1;refine qc (x := a.eval y) (w' := w) ?_ (hK _ _ _ _ _ _ h trivial (qg hI hr));simp at e;simp [execOp, ho, e]
 next => cases h
theorem qmD (hI : MInv A n0 M0 ρ0 w0 M ρ H w) (hf : FRel M ρ fr a.tmps.toList) {x : AX} {j : Nat} (hok : okOp P (.ext x j) o.op = true) (h : aop P n0 id fr H (.ext x j) k)
  (hK : ∀ v H' kl f x w', k v H' kl f -> f -> Nxt A n0 M0 ρ0 w0 M ρ id v H' kl x w' -> K (a.put o.dst x) w') : o.wp P a w K Q := by
 obtain ⟨y, ho, hx⟩ := qmv hok;simp only [aop] at h;have hr := qf hf hx;generalize x.ev fr = v at h hr;unfold extK at h
 split at h
 next vs =>
  obtain ⟨xs, e, hv⟩ := hr.tup;unfold exO at h
  split at h
  next v hj =>
   have hget : ∀ {vs : List SV} {xs : List Value}, VRelL M vs xs -> ∀ {j : Nat} {v : SV}, vs[j]? = some v -> ∃ x, xs[j]? = some x /\ VRel M v x := by
    intro vs
    induction vs with
    | nil => intro xs _ j v hj; simp at hj
    | cons c cs ih =>
     intro xs h j v hj;obtain ⟨y, ys, rfl, h1, h2⟩ := h
     cases j with
     | zero => simp at hj; subst hj; exact ⟨y, by simp, h1⟩
     | succ j => simp at hj; obtain ⟨z, h3, h4⟩ := ih h2 hj; exact ⟨z, by simpa using h3, h4⟩
   obtain ⟨z, hz, hzr⟩ := hget hv hj;refine qc (x := z) (w' := w) ?_ (hK _ _ _ _ _ _ h trivial (qg hI (qi.2 hzr)));simp [execOp, ho, e, Instr.extract, hz]
  next => cases h
 next => cases h
theorem qjb {v : LV} {x : Value} (h : LVal M ρ v x) (ho : v.isOne = true) : LRel M ρ v [x] :=
 h.one (by cases v <;> simp_all [LV.isOne, LV.isAgg]) (by rintro rfl; simp [LV.isOne] at ho) (by cases v <;> simp_all [LV.isOne, LV.isTup])
theorem qcA : ∀ {vs : List LV} {xs : List Value}, FRel M ρ vs xs -> vs.all LV.isOne = true -> LRelC M ρ vs (ones xs)
 | [], xs, h, _ => by simp [FRel] at h; subst h; simp [LRelC]
 | v :: vs, xs, h, hn => by
  obtain ⟨y, ys, rfl, h1, h2⟩ := h;simp only [List.all_cons, Bool.and_eq_true] at hn;simp only [qak, LRelC];exact ⟨[y], ones ys, rfl, qjb h1 hn.1, qcA h2 hn.2⟩
end
section
variable {P : Program} {A : Nat -> Obj -> Prop} {dfs : List Deferred} {M0 : Mem} {ρ0 : Env} {w0 : World} {M : Mem} {ρ : Env} {H : List ABlock} {w : World} {o : Oper} {a : Act} {K : Act -> World -> Prop} {Q : Exit -> Act -> World -> Prop} {fr : List LV} {k : AK} {n0 id : Nat}
theorem SRel.at_cells (h : SRel M ρ H w) {b o : Nat} {us : List Value} (k : M.At b o us) : ∀ j v, us[j]? = some v -> w.cell? ⟨b, o + j, none⟩ = some v := fun j v hj => h.cells b _ v (k j v hj)
theorem heap_cell? {c : Array Value} {T : TypeId} {f : Nat × Nat} {b : Nat} (h : w.heap[b]? = some (.cells c T f)) (j : Nat) : w.cell? ⟨b, j, none⟩ = c[j]? := by simp [World.cell?, h]
theorem qdQ {b o n : Nat} {us : List Value} (h : M.At b o us) : M.At b o (us.take n) := fun j v hj => by
 rw [List.getElem?_take] at hj; split at hj
 ·exact h j v hj
 ·cases hj
theorem qbh {b o n : Nat} {us : List Value} (h : M.At b o us) : M.At b (o + n) (us.drop n) := fun j v hj => by
 rw [List.getElem?_drop] at hj; have := h _ _ hj; rwa [<- Nat.add_assoc] at this
theorem qdb {t : TypeId} {g : Bool} {n cb of : Nat} {cs : List SV} {us : List Value} (hI : MInv A n0 M0 ρ0 w0 M ρ H w) (ha : aggTy P t = some g) (hs : szTy P t = some n) (hg : g = true \/ n = 1) (hc : CRelC M cs (ones us))
  (hw : ∀ j v, us[j]? = some v -> w.cell? ⟨cb, of + j, none⟩ = some v) {off : Nat} (h : partS H cs off n k g) {Kx : Value -> World -> Prop} (hK : ∀ v H' kl f x w', k v H' kl f -> f -> Nxt A n0 M0 ρ0 w0 M ρ id v H' kl x w' -> Kx x w') :
  ∃ x, (loadVar t ⟨cb, of + off, none⟩).run P w = .ok x w /\ Kx x w := by
 have hlen : us.length = cs.length := by have := hc.length; simpa using this
 cases g with
 | true =>
  simp only [partS] at h;have hl : ((us.drop off).take n).length = n := by rw [List.length_take, List.length_drop]; omega
  refine ⟨.agg ((us.drop off).take n).toArray, ?_, hK _ _ _ _ _ _ h.2 trivial (qg hI ?_)⟩
  ·refine qaD ha (by rw [hl]; exact hs) w fun j v hj => ?_
   rw [List.getElem?_take] at hj
   split at hj
   ·rw [List.getElem?_drop] at hj
    have := hw _ v hj;rw [<- Nat.add_assoc] at this;exact this
   ·cases hj
  ·rw [qi]
   exact ⟨(us.drop off).take n, by simp only [CRel, qW, qv]; exact (hc.drop off).take n, rfl⟩
 | false =>
  simp only [partS] at h;unfold exO at h
  split at h
  next c hj =>
   obtain ⟨u, hu, hcu⟩ := hc.get hj;simp only [ones_get?, Option.map_eq_some_iff] at hu;obtain ⟨x, hx, rfl⟩ := hu;exact ⟨x, qaE ha w (hw _ _ hx), hK _ _ _ _ _ _ h.2 trivial (qg hI (qi.2 (qj hcu h.1)))⟩
  next => cases h
theorem qil {t : TypeId} {g : Bool} {n cb : Nat} {cs : List LV} {us : List Value} (hI : MInv A n0 M0 ρ0 w0 M ρ H w) (ha : aggTy P t = some g) (hs : szTy P t = some n) (hc : LRelC M ρ cs (ones us))
  (hw : ∀ j v, us[j]? = some v -> w.cell? ⟨cb, j, none⟩ = some v) {off : Nat} (h : partL H cs off n k g) {Kx : Value -> World -> Prop} (hK : ∀ v H' kl f x w', k v H' kl f -> f -> Nxt A n0 M0 ρ0 w0 M ρ id v H' kl x w' -> Kx x w') :
  ∃ x, (loadVar t ⟨cb, off, none⟩).run P w = .ok x w /\ Kx x w := by
 have hlen : us.length = cs.length := by have := hc.length; simpa using this
 cases g with
 | true =>
  simp only [partL] at h;have hl : ((us.drop off).take n).length = n := by rw [List.length_take, List.length_drop]; omega
  refine ⟨.agg ((us.drop off).take n).toArray, ?_, hK _ _ _ _ _ _ h.2 trivial (qg hI ?_)⟩
  ·refine qaD ha (by rw [hl]; exact hs) w fun j v hj => ?_
   rw [List.getElem?_take] at hj
   split at hj
   ·rw [List.getElem?_drop] at hj
    exact hw _ v hj
   ·cases hj
  ·exact qbJ (by simp only [qW, qv]; exact (hc.drop off).take n)
 | false =>
  simp only [partL] at h;unfold exO at h
  split at h
  next c hj =>
   obtain ⟨u, hu, hcu⟩ := hc.get hj;simp only [ones_get?, Option.map_eq_some_iff] at hu;obtain ⟨x, hx, rfl⟩ := hu;exact ⟨x, qaE ha w (hw _ _ hx), hK _ _ _ _ _ _ h.2 trivial (qg hI (qh hcu h.1))⟩
  next => cases h
theorem qG {us : List Value} {sh m : Nat} (j : Nat) (v : Value) (hj : ((us.drop sh).take m)[j]? = some v) : us[sh + j]? = some v := by
 rw [List.getElem?_take] at hj
 split at hj
 ·rw [List.getElem?_drop] at hj; exact hj
 ·cases hj
theorem qcB (hI : MInv A n0 M0 ρ0 w0 M ρ H w) (hf : FRel M ρ fr a.tmps.toList) {n : Nat} {g : Bool} {x : AX} (hok : okOp P (.load n g x) o.op = true) (h : aop P n0 id fr H (.load n g x) k)
  (hK : ∀ v H' kl f x w', k v H' kl f -> f -> Nxt A n0 M0 ρ0 w0 M ρ id v H' kl x w' -> K (a.put o.dst x) w') : o.wp P a w K Q := by
 obtain ⟨t, y, ho, hx, ha, hs, hg⟩ := qkT hok;simp only [aop] at h;have hr := qf hf hx;generalize x.ev fr = v at h hr
 have fin : ∀ ad : Addr, a.eval y = .pointer (some ad) -> (∃ x, (loadVar t ad).run P w = .ok x w /\ K (a.put o.dst x) w) -> o.wp P a w K Q := by
  rintro ad e ⟨x, hx, hk⟩;refine qc (x := x) (w' := w) ?_ hk;simp [execOp, ho, Instr.loadAt, e, Instr.sureAddr, hx]
 unfold ldK at h
 split at h
 next cs =>
  rw [qi] at hr;have h1 := hr.one rfl;simp only [CRel] at h1;obtain ⟨b, of, ws, e, hc, hat⟩ := h1;simp at e;refine fin _ e ?_;have := qdb (P := P) (t := t) (off := 0) hI ha hs hg hc (hI.rel.at_cells hat) h (Kx := fun x w' => K (a.put o.dst x) w') hK
  simpa using this
 next b off =>
  have h1 := hr.one rfl (by simp)
  simp only [LRel] at h1;obtain ⟨cb, sh, m, hρ, e⟩ := h1;simp at e;refine fin _ e ?_;unfold ldB at h
  split at h
  next cs hb =>
   obtain ⟨r, h2, h3⟩ := hI.rel.spot hb;rw [hρ] at h2; cases h2;simp only [BRel] at h3;obtain ⟨c, T, h4, h5, h6, h7, h8, h9⟩ := h3;subst h7;have := qil (P := P) (t := t) (cb := cb) hI ha hs h8 (fun j v hj => by rw [heap_cell? h4]; simpa using hj) h (Kx := fun x w' => K (a.put o.dst x) w') hK
   simpa using this
  next cs hb =>
   obtain ⟨r, h2, h3⟩ := hI.rel.spot hb;rw [hρ] at h2; cases h2;simp only [BRel] at h3;obtain ⟨c, T, h4, h5, h6, h8, h9⟩ := h3;exact qdb (P := P) (t := t) hI ha hs hg h8 (fun j v hj => by rw [heap_cell? h4]; simpa using qG j v hj) h (Kx := fun x w' => K (a.put o.dst x) w') hK
  next cs hb =>
   obtain ⟨r, h2, h3⟩ := hI.rel.spot hb;rw [hρ] at h2; cases h2;simp only [BRel] at h3;obtain ⟨us, h8, h9⟩ := h3;exact qdb (P := P) (t := t) hI ha hs hg h8 (hI.rel.at_cells h9) h (Kx := fun x w' => K (a.put o.dst x) w') hK
  next => cases h
 next => cases h
theorem qd2 {t : TypeId} {i off n : Nat} {ft : TypeId} (h : fieldOf P t i = some (off, n, ft)) : ∃ fs f, P.underlying t = some (.struct fs) /\ fs[i]? = some f /\ f.offset = off /\ f.type = ft /\ szTy P ft = some n := by
 unfold fieldOf at h
 split at h
 next fs hu =>
  cases hf : fs[i]? with
  | none => rw [hf] at h; cases h
  | some f =>
   rw [hf] at h;simp only [Option.bind_some, Option.map_eq_some_iff] at h;obtain ⟨m, h1, h2⟩ := h
   cases h2
   exact ⟨fs, f, hu, hf, rfl, rfl, h1⟩
 next => cases h
theorem qf0 (hI : MInv A n0 M0 ρ0 w0 M ρ H w) (hf : FRel M ρ fr a.tmps.toList) {off : Nat} {x : AX} (hok : okOp P (.fieldAddr off x) o.op = true) (h : aop P n0 id fr H (.fieldAddr off x) k)
  (hK : ∀ v H' kl f x w', k v H' kl f -> f -> Nxt A n0 M0 ρ0 w0 M ρ id v H' kl x w' -> K (a.put o.dst x) w') : o.wp P a w K Q := by
 obtain ⟨t, y, i, n, ft, ho, hx, hfo, hn⟩ := qfZ hok;obtain ⟨fs, f, hu, hfi, rfl, rfl, hsz⟩ := qd2 hfo;simp only [aop] at h;have hr := qf hf hx;generalize x.ev fr = v at h hr
 have run : ∀ b of, a.eval y = .pointer (some ⟨b, of, none⟩) -> (execOp a.eval o).run P w = .ok (.value (.pointer (some ⟨b, of + f.offset, none⟩))) w := by
  intro b of e;simp [execOp, ho, Instr.fieldAt, run_underlying hu, hfi, e, Instr.sureAddr, fieldPlace, qJ hsz, hn, Addr.add_lit]
 unfold fieldAddrK at h
 split at h
 next cs =>
  rw [qi] at hr;have h1 := hr.one rfl;simp only [CRel] at h1;obtain ⟨b, of, ws, e, hc, hat⟩ := h1;simp at e;refine qc (run b of e) (hK _ _ _ _ _ _ h.2 trivial (qg hI ?_));rw [qi];exact qj (by simp only [CRel]; exact ⟨b, of + f.offset, ws.drop f.offset, rfl, by rw [qv]; exact hc.drop _, qbh hat⟩) rfl
 next b off =>
  have h1 := hr.one rfl (by simp)
  simp only [LRel] at h1;obtain ⟨cb, sh, m, hρ, e⟩ := h1;simp at e;refine qc (run cb _ e) (hK _ _ _ _ _ _ h trivial (qg hI ?_));exact qh (by simp only [LRel]; exact ⟨cb, sh, m, hρ, by simp [Nat.add_assoc]⟩) rfl
 next => cases h
theorem qgb {t : TypeId} {g : Bool} {n off : Nat} {v : LV} {x : Value} (hI : MInv A n0 M0 ρ0 w0 M ρ H w) (ha : aggTy P t = some g) (hs : szTy P t = some n) (hr : LVal M ρ v x) (h : partK H off n g k v)
  {Kx : Value -> World -> Prop} (hK : ∀ v H' kl f x w', k v H' kl f -> f -> Nxt A n0 M0 ρ0 w0 M ρ id v H' kl x w' -> Kx x w') : ∃ cs z, x = .agg cs /\ (part t cs off).run P w = .ok z w /\ Kx z w := by
 unfold partK at h
 split at h
 next cs =>
  rw [qi] at hr;obtain ⟨us, rfl, hc⟩ := hr.agg;have hlen : us.length = cs.length := by have := hc.length; simpa using this
  refine ⟨us.toArray, ?_⟩
  cases g with
  | true =>
   simp only [partS] at h;refine ⟨.agg ((us.drop off).take n).toArray, rfl, ?_, hK _ _ _ _ _ _ h.2 trivial (qg hI ?_)⟩
   ·simp [part, qQ ha, qJ hs, List.extract_eq_take_drop]
   ·rw [qi]; exact ⟨(us.drop off).take n, by simp only [CRel, qW, qv]; exact (hc.drop off).take n, rfl⟩
  | false =>
   simp only [partS] at h;unfold exO at h
   split at h
   next c hj =>
    obtain ⟨u, hu, hcu⟩ := hc.get hj;simp only [ones_get?, Option.map_eq_some_iff] at hu;obtain ⟨z, hz, rfl⟩ := hu;exact ⟨z, rfl, by simp [part, qQ ha, hz], hK _ _ _ _ _ _ h.2 trivial (qg hI (qi.2 (qj hcu h.1)))⟩
   next => cases h
 next cs =>
  obtain ⟨us, rfl, hc⟩ := hr.agg;have hlen : us.length = cs.length := by have := hc.length; simpa using this
  refine ⟨us.toArray, ?_⟩
  cases g with
  | true =>
   simp only [partL] at h;refine ⟨.agg ((us.drop off).take n).toArray, rfl, ?_, hK _ _ _ _ _ _ h.2 trivial (qg hI ?_)⟩
   ·simp [part, qQ ha, qJ hs, List.extract_eq_take_drop]
   ·exact qbJ (by simp only [qW, qv]; exact (hc.drop off).take n)
  | false =>
   simp only [partL] at h;unfold exO at h
   split at h
   next c hj =>
    obtain ⟨u, hu, hcu⟩ := hc.get hj;simp only [ones_get?, Option.map_eq_some_iff] at hu;obtain ⟨z, hz, rfl⟩ := hu;exact ⟨z, rfl, by simp [part, qQ ha, hz], hK _ _ _ _ _ _ h.2 trivial (qg hI (qh hcu h.1))⟩
   next => cases h
 next => cases h
theorem qjc (hI : MInv A n0 M0 ρ0 w0 M ρ H w) (hf : FRel M ρ fr a.tmps.toList) {off n : Nat} {g : Bool} {x : AX} (hok : okOp P (.field off n g x) o.op = true) (h : aop P n0 id fr H (.field off n g x) k)
  (hK : ∀ v H' kl f x w', k v H' kl f -> f -> Nxt A n0 M0 ρ0 w0 M ρ id v H' kl x w' -> K (a.put o.dst x) w') : o.wp P a w K Q := by
 obtain ⟨t, y, i, ft, ho, hx, hfo, ha⟩ := qi5 hok;obtain ⟨fs, f, hu, hfi, rfl, rfl, hsz⟩ := qd2 hfo;simp only [aop] at h;obtain ⟨cs, z, e, hrun, hk⟩ := qgb (P := P) hI ha hsz (qf hf hx) h (Kx := fun x w' => K (a.put o.dst x) w') hK
 refine qc (x := z) (w' := w) ?_ hk;simp [execOp, ho, Instr.field, run_underlying hu, hfi, e, asAgg, hrun]
theorem qmE (hI : MInv A n0 M0 ρ0 w0 M ρ H w) (hf : FRel M ρ fr a.tmps.toList) {n sz : Nat} {g : Bool} {x i : AX} (hok : okOp P (.idx n sz g x i) o.op = true) (h : aop P n0 id fr H (.idx n sz g x i) k)
  (hK : ∀ v H' kl f x w', k v H' kl f -> f -> Nxt A n0 M0 ρ0 w0 M ρ id v H' kl x w' -> K (a.put o.dst x) w') : o.wp P a w K Q := by
 obtain ⟨t, y, j, e, ie, ho, hx, hi, hu, hie, hsz, ha⟩ := qmu hok;simp only [aop] at h;have hr := qf hf hi;generalize i.ev fr = v at h hr;unfold idxK at h
 split at h
 next K' m =>
  have hb := qu rfl hr;obtain ⟨h0, h1, h2⟩ := h;have hs : szTy P e = some sz := by simp [szTy, hie, hsz]
  obtain ⟨cs, z, ex, hrun, hk⟩ := qgb (P := P) hI ha hs (qf hf hx) h2 (Kx := fun x w' => K (a.put o.dst x) w') hK
  refine qc (x := z) (w' := w) ?_ hk;have hnn : ¬ m < 0 := by omega
  simp [execOp, ho, Instr.index, hb, asIntOf, run_underlying hu, ex, h0, h1, qJ hs, hrun]
 next => cases h
theorem qee {t : TypeId} {sz : Nat} (h : slSz P t = some sz) : ∃ e, P.underlying t = some (.slice e) /\ szTy P e = some sz := by
 unfold slSz at h
 split at h
 next e hu => exact ⟨e, hu, h⟩
 next => cases h
theorem qdc {t : TypeId} {n sz : Nat} (h : arrSz P t = some (n, sz)) : ∃ e, P.underlying t = some (.array n e) /\ szTy P e = some sz := by
 unfold arrSz at h
 split at h
 next m e hu =>
  cases hi : P.info? e with
  | none => rw [hi] at h; cases h
  | some i => rw [hi] at h; simp at h; obtain ⟨rfl, rfl⟩ := h; exact ⟨e, hu, by simp [szTy, hi]⟩
 next => cases h
theorem qao {e : SV} {u : List Value} (h : CRel M e u) : CRelC M e.cells (ones u) := by
 cases e
 case agg cs => simpa only [SV.cells, CRel] using h
 all_goals
  obtain ⟨x, rfl, _⟩ := h.one rfl;simp only [SV.cells, qak, qf8];exact qaL h qbT
theorem qim {uss : List (List Value)} {sz : Nat} (hs : ∀ u ∈ uss, u.length = sz) : ∀ {i : Nat} {u : List Value}, uss[i]? = some u -> ∀ j v, u[j]? = some v -> uss.flatten[i * sz + j]? = some v := by
 induction uss with
 | nil => intro i u h; simp at h
 | cons c cs ih =>
  intro i u h j v hj;have hc := hs c (by simp)
  cases i with
  | zero =>
   simp at h; subst h;rw [List.flatten_cons, Nat.zero_mul, Nat.zero_add, List.getElem?_append_left (List.getElem?_eq_some_iff.1 hj).1];exact hj
  | succ i =>
   simp at h;have := ih (fun u hu => hs u (by simp [hu])) h j v hj
   rw [List.flatten_cons, List.getElem?_append_right (by rw [hc, Nat.succ_mul]; omega), hc]
   rw [show (i + 1) * sz + j - sz = i * sz + j by rw [Nat.succ_mul]; omega]
   exact this
theorem qin {xs : List SV} {x : Value} (h : CRel M (.slice xs) [x]) {i : Nat} {e : SV} (he : xs[i]? = some e) :
  ∃ b of cap sz us, x = .slice (some ⟨b, of, none⟩) xs.length cap /\ us.length = sz /\ CRelC M e.cells (ones us) /\ M.At b (of + i * sz) us := by
 simp only [CRel] at h;obtain ⟨ad, len, cap, ex, hl, _, _, hx⟩ := h
 rcases hx with rfl | ⟨b, of, sz, uss, ha, hc, hs, hat⟩
 ·simp at he
 ·obtain ⟨u, hu, hcu⟩ := hc.get he
  have ex' : x = .slice ad len cap := by simpa using ex
  refine ⟨b, of, cap, sz, u, by rw [ex', ha, hl], hs u (List.mem_of_getElem? hu), qao hcu, fun j v hj => ?_⟩
  have := hat _ v (qim hs hu j v hj)
  rwa [<- Nat.add_assoc] at this
theorem qk2 (hI : MInv A n0 M0 ρ0 w0 M ρ H w) (hf : FRel M ρ fr a.tmps.toList) {sz : Nat} {x i : AX} (hok : okOp P (.idxA sz x i) o.op = true) (h : aop P n0 id fr H (.idxA sz x i) k)
  (hK : ∀ v H' kl f x w', k v H' kl f -> f -> Nxt A n0 M0 ρ0 w0 M ρ id v H' kl x w' -> K (a.put o.dst x) w') : o.wp P a w K Q := by
 obtain ⟨t, y, j, ho, hx, hi, hsl⟩ := qkW hok;obtain ⟨e, hu, hsz⟩ := qee hsl;simp only [aop] at h;have hr := qf hf hi;have hr' := qf hf hx;generalize i.ev fr = v at h hr;generalize x.ev fr = v' at h hr';unfold idxAK at h
 split at h
 next K' m =>
  have hb := qu rfl hr;obtain ⟨h0, h⟩ := h
  have run : ∀ b of len cap, a.eval y = .slice (some ⟨b, of, none⟩) len cap -> m < len -> (execOp a.eval o).run P w = .ok (.value (.pointer (some ⟨b, of + m.toNat * sz, none⟩))) w := by
   intro b of len cap ey hm;simp [execOp, ho, Instr.indexAt, hb, asIntOf, run_underlying hu, ey, h0, hm, qJ hsz, Addr.add_lit]
  have stab : ∀ xs : List SV, CRel M (.slice xs) [a.eval y] -> exO xs[m.toNat]? (fun e => e.cells.length = sz /\ k (.s (.ptr e.cells)) H none True) -> o.wp P a w K Q := by
   intro xs hc hx;unfold exO at hx
   split at hx
   next e he =>
    obtain ⟨b, of, cap, sz', us, ey, hl, hce, hat⟩ := qin hc he;have hlen : us.length = e.cells.length := by have := hce.length; simpa using this
    have hs : sz' = sz := by rw [<- hl, hlen, hx.1]
    subst hs;have hm : m < xs.length := by have := (List.getElem?_eq_some_iff.1 he).1; omega
    refine qc (run b of _ cap ey hm) (hK _ _ _ _ _ _ hx.2 trivial (qg hI ?_));rw [qi];exact qj (by simp only [CRel]; exact ⟨b, of + m.toNat * sz', us, rfl, hce, hat⟩) rfl
   next => cases hx
  unfold idxAI at h
  split at h
  next xs => rw [qi] at hr'; exact stab xs (hr'.one rfl) h
  next xs =>
   have h1 := hr'.one rfl (by simp)
   simp only [LRel] at h1;obtain ⟨_, _, _, h2⟩ := h1;exact stab xs h2 h
  next b off len sz' c =>
   obtain ⟨rfl, hm, h⟩ := h;have h1 := hr'.one rfl (by simp)
   simp only [LRel] at h1;obtain ⟨r, ad, cap, hρ, hg, ey, hlc, hcm, hpos, hclip, hcap⟩ := h1
   rcases hcap with hcap | ⟨cb, sh, n, rfl, rfl, hfit⟩
   ·omega
   ·refine qc (run cb (sh + off) len cap (by simpa using ey) hm) (hK _ _ _ _ _ _ h trivial (qg hI ?_))
    exact qh (by simp only [LRel]; exact ⟨cb, sh, n, hρ, by simp [Nat.add_assoc]⟩) rfl
  next => cases h
 next => cases h
theorem qhj (hI : MInv A n0 M0 ρ0 w0 M ρ H w) (hf : FRel M ρ fr a.tmps.toList) {n sz : Nat} {x i : AX} (hok : okOp P (.idxArrA n sz x i) o.op = true) (h : aop P n0 id fr H (.idxArrA n sz x i) k)
  (hK : ∀ v H' kl f x w', k v H' kl f -> f -> Nxt A n0 M0 ρ0 w0 M ρ id v H' kl x w' -> K (a.put o.dst x) w') : o.wp P a w K Q := by
 obtain ⟨t, y, j, ho, hx, hi, hsl⟩ := qhi hok;obtain ⟨e, hu, hsz⟩ := qdc hsl;simp only [aop] at h;have hr := qf hf hi;have hr' := qf hf hx;generalize i.ev fr = v at h hr;generalize x.ev fr = v' at h hr';unfold idxArrAK at h
 split at h
 next K' m =>
  have hb := qu rfl hr;obtain ⟨h0, hm, h⟩ := h
  have run : ∀ b of, a.eval y = .pointer (some ⟨b, of, none⟩) -> (execOp a.eval o).run P w = .ok (.value (.pointer (some ⟨b, of + m.toNat * sz, none⟩))) w := by
   intro b of ey;simp [execOp, ho, Instr.indexAt, hb, asIntOf, run_underlying hu, ey, Instr.sureAddr, h0, hm, qJ hsz, Addr.add_lit]
  unfold idxArrAI at h
  split at h
  next cs =>
   rw [qi] at hr';have h1 := hr'.one rfl;simp only [CRel] at h1;obtain ⟨b, of, ws, ey, hc, hat⟩ := h1;refine qc (run b of (by simpa using ey)) (hK _ _ _ _ _ _ h.2 trivial (qg hI ?_))
   rw [qi];exact qj (by simp only [CRel]; exact ⟨b, of + m.toNat * sz, ws.drop (m.toNat * sz), rfl, by rw [qv]; exact hc.drop _, qbh hat⟩) rfl
  next b off =>
   have h1 := hr'.one rfl (by simp)
   simp only [LRel] at h1;obtain ⟨cb, sh, m', hρ, ey⟩ := h1;refine qc (run cb (sh + off) (by simpa using ey)) (hK _ _ _ _ _ _ h trivial (qg hI ?_))
   exact qh (by simp only [LRel]; exact ⟨cb, sh, m', hρ, by simp [Nat.add_assoc]⟩) rfl
  next => cases h
 next => cases h
end
noncomputable def Mem.up (M : Mem) (ρ : Env) (w : World) : Mem :=
  open Classical in
  { cell := fun b o => match M.cell b o with
      | some v => some v
      | none => if ρ.has b then w.cell? ⟨b, o, none⟩ else none
    map := fun b => match M.map b with
      | some es => some es
      | none => if ρ.has b then (match w.heap[b]? with | some (.map ms clock) => some (ms, clock) | _ => none) else none }
theorem Mem.le_up (M : Mem) (ρ : Env) (w : World) : M.le (M.up ρ w) :=
 ⟨fun b o v h => by simp only [Mem.up, h], fun b es h => by simp only [Mem.up, h]⟩
theorem Mem.up_cell {M : Mem} {ρ : Env} {w : World} {b o : Nat} {v : Value} (h : (M.up ρ w).cell b o = some v) : M.cell b o = some v \/ (ρ.has b /\ w.cell? ⟨b, o, none⟩ = some v) := by
 simp only [Mem.up] at h
 split at h
 ·exact .inl (by simp_all)
 ·split at h
  ·exact .inr ⟨by assumption, h⟩
  ·cases h
theorem Mem.up_map {M : Mem} {ρ : Env} {w : World} {b : Nat} {es : Ents} (h : (M.up ρ w).map b = some es) :
  M.map b = some es \/ (ρ.has b /\ w.heap[b]? = some (.map es.1 es.2)) := by
 simp only [Mem.up] at h
 split at h
 ·exact .inl (by simp_all)
 ·split at h
  ·split at h
   ·rename_i ms clock hm; cases h; exact .inr ⟨by assumption, hm⟩
   ·cases h
  ·cases h
theorem Mem.up_own {M : Mem} {ρ : Env} {w : World} {b o : Nat} {v : Value} (hb : ρ.has b) (hn : M.cell b o = none) (hc : w.cell? ⟨b, o, none⟩ = some v) : (M.up ρ w).cell b o = some v := by
 simp only [Mem.up, hn, if_pos hb, hc]
theorem SRel.holds {M : Mem} {ρ : Env} {H : List ABlock} {w : World} (h : SRel M ρ H w) : Holds M w := ⟨h.cells, h.maps⟩
theorem SRel.holds_up {M : Mem} {ρ : Env} {H : List ABlock} {w : World} (h : SRel M ρ H w) : Holds (M.up ρ w) w :=
  ⟨fun b o v hv => by rcases Mem.up_cell hv with hv | ⟨_, hv⟩; exact h.cells b o v hv; exact hv,
   fun b es hv => by rcases Mem.up_map hv with hv | ⟨_, hv⟩; exact h.maps b es hv; exact hv⟩
def BStab (M M' : Mem) (ρ : Env) : ABlock -> Spot -> Prop
 | .obj cs, .here cb sh _ => ∃ us, LRelC M ρ cs (ones us) /\ M'.At cb sh us
 | .row cs, .here cb sh _ => ∃ us, CRelC M cs (ones us) /\ M'.At cb sh us
 | .frz cs, .here cb sh _ => ∃ us, CRelC M cs (ones us) /\ M'.At cb sh us
 | .row cs, .empty => cs = []
 | .frz cs, .empty => cs = []
 | .map ks vs, .here cb _ _ => ∃ kus vus es, CRelC M ks kus /\ CRelC M vs vus /\ ks.length = vs.length /\ M'.map cb = some es /\ ents es = List.zip (List.zipWith SV.mk ks kus) (List.zipWith SV.mk vs vus) /\ wfm es
 | .frzm ks vs, .here cb _ _ => ∃ kus vus es, CRelC M ks kus /\ CRelC M vs vus /\ ks.length = vs.length /\ M'.map cb = some es /\ ents es = List.zip (List.zipWith SV.mk ks kus) (List.zipWith SV.mk vs vus) /\ wfm es
 | .mit _ _, _ => True
 | .mapc .., _ => True
 | .mitx .., _ => True
 | .gone, _ => True
 | _, _ => False
theorem SRel.stab {M : Mem} {ρ : Env} {H : List ABlock} {w : World} (h : SRel M ρ H w) {i : Nat} {B : ABlock} {r : Spot} (hB : H[i]? = some B) (hr : ρ[i]? = some r) : BStab M (M.up ρ w) ρ B r := by
 have hb := h.blk i B r hB hr;have hhas : ∀ cb sh n, r = .here cb sh n -> ρ.has cb := fun cb sh n e => ⟨i, sh, n, by rw [hr, e]⟩
 cases B <;> cases r <;> simp only [BRel, BStab] at * <;> try exact hb
 case obj.here cs cb sh n =>
  obtain ⟨c, T, h1, h2, h3, h4, h5, h6⟩ := hb;subst h4;exact ⟨c.toList, h5, fun j v hj => Mem.up_own (hhas cb 0 n rfl) (h6 _) (by rw [heap_cell? h1]; simpa using hj)⟩
 case row.here cs cb sh n =>
  obtain ⟨c, T, h1, h2, h3, h5, h6⟩ := hb;exact ⟨_, h5, fun j v hj => Mem.up_own (hhas cb sh n rfl) (h6 _) (by rw [heap_cell? h1]; simpa using qG j v hj)⟩
 case frz.here cs cb sh n =>
  obtain ⟨us, h1, h2⟩ := hb;exact ⟨us, h1, h2.mono (Mem.le_up M ρ w)⟩
 case map.here ks vs cb sh n =>
  obtain ⟨es, clock, kus, vus, h1, h2, h3, h4, h5, h6⟩ := hb;refine ⟨kus, vus, (es, clock), h2, h3, h4, ?_, h5, h6.2⟩;simp only [Mem.up, h6.1, if_pos (hhas cb sh n rfl), h1]
 case frzm.here ks vs cb sh n =>
  obtain ⟨kus, vus, es, h1, h2, h3, h4, h5⟩ := hb;exact ⟨kus, vus, es, h1, h2, h3, (Mem.le_up M ρ w).2 _ _ h4, h5⟩
theorem qbU {M : Mem} {sz : Nat} (hsz : 0 < sz) : ∀ {len : Nat} {cs : List SV} {us : List Value}, CRelC M cs (ones us) -> len * sz <= cs.length ->
  ∃ uss, CRelC M (elems sz len cs) uss /\ (∀ u ∈ uss, u.length = sz) /\ uss.flatten = us.take (len * sz) := by
 intro len cs us hc hl;unfold elems
 split
 ·rename_i e
  subst e;refine ⟨ones (us.take len), by rw [qW]; exact hc.take len, fun u hu => ?_, by rw [Nat.mul_one, qc9]⟩
  simp only [ones, List.mem_map] at hu;obtain ⟨x, _, rfl⟩ := hu;rfl
 ·induction len generalizing cs us with
  | zero => exact ⟨[], by simp [chunk, CRelC], fun u hu => by simp at hu, by simp⟩
  | succ n ih =>
   rw [Nat.succ_mul] at hl;have hus : us.length = cs.length := by have := hc.length; simpa using this
   obtain ⟨uss, h1, h2, h3⟩ := ih (cs := cs.drop sz) (us := us.drop sz) (by rw [qv]; exact hc.drop sz) (by rw [List.length_drop]; omega)
   refine ⟨us.take sz :: uss, ?_, ?_, ?_⟩
   ·simp only [chunk]
    exact qaL (by simp only [CRel, qW]; exact hc.take sz) h1
   ·intro u hu
    rcases List.mem_cons.1 hu with rfl | hu
    ·rw [List.length_take]; omega
    ·exact h2 u hu
   ·rw [List.flatten_cons, h3, Nat.succ_mul, Nat.add_comm (n * sz) sz, List.take_add]
theorem qby {M M' : Mem} {ρ : Env} {g : LV -> Option SV} (hg : ∀ v us sv, LRel M ρ v us -> g v = some sv -> CRel M' sv us) : ∀ {cs : List LV} {uss : List (List Value)} {ss : List SV}, LRelC M ρ cs uss -> frzAll g cs = some ss -> CRelC M' ss uss
 | [], uss, ss, h, hs => by simp [LRelC] at h; simp [frzAll] at hs; subst h; subst hs; exact qbT
 | c :: cs, uss, ss, h, hs => by
  simp only [LRelC] at h;obtain ⟨u, us, rfl, h1, h2⟩ := h;simp only [frzAll] at hs
  split at hs
  ·rename_i a ha
   split at hs
   ·rename_i as has
    cases hs
    exact qaL (hg c u a h1 ha) (qby hg h2 has)
   ·cases hs
  ·cases hs
theorem qef {M M' : Mem} {ρ : Env} {H : List ABlock} (hle : M.le M') (hB : ∀ (i : Nat) (B : ABlock) (r : Spot), H[i]? = some B -> ρ[i]? = some r -> BStab M M' ρ B r) :
  ∀ (n : Nat) (v : LV) (us : List Value) (sv : SV), LRel M ρ v us -> frzV H n v = some sv -> CRel M' sv us := by
 intro n
 induction n with
 | zero => intro v us sv _ h; simp [frzV] at h
 | succ n ih =>
  intro v us sv hr h;have all : ∀ {cs : List LV} {uss : List (List Value)} {ss : List SV}, LRelC M ρ cs uss -> frzAll (frzV H n) cs = some ss -> CRelC M' ss uss := fun h1 h2 => qby ih h1 h2
  -- the cells of a block
  have blk : ∀ (b : Nat) (r : Spot) (cs : List SV), ρ[b]? = some r -> (match H[b]? with | some (.obj cs) => frzAll (frzV H n) cs | some (.row cs) | some (.frz cs) => some cs | _ => none) = some cs ->
    (r = .empty /\ cs = []) \/ ∃ cb sh m ws, r = .here cb sh m /\ CRelC M' cs (ones ws) /\ M'.At cb sh ws := by
   intro b r cs hρ hc
   cases hb : H[b]? with
   | none => rw [hb] at hc; cases hc
   | some B =>
    rw [hb] at hc;have hst := hB b B r hb hρ
    cases B <;> cases r <;> simp only [BStab] at hst hc <;> first | (exact hst.elim) | (cases hc; done) | skip
    case obj.here cs' cb sh m => obtain ⟨ws, h1, h2⟩ := hst; exact .inr ⟨cb, sh, m, ws, rfl, all h1 hc, h2⟩
    case row.empty cs' => cases hc; exact .inl ⟨rfl, hst⟩
    case row.here cs' cb sh m => cases hc; obtain ⟨ws, h1, h2⟩ := hst; exact .inr ⟨cb, sh, m, ws, rfl, h1.mono hle, h2⟩
    case frz.empty cs' => cases hc; exact .inl ⟨rfl, hst⟩
    case frz.here cs' cb sh m => cases hc; obtain ⟨ws, h1, h2⟩ := hst; exact .inr ⟨cb, sh, m, ws, rfl, h1.mono hle, h2⟩
  cases v with
  | s v => simp only [frzV] at h; cases h; simp only [LRel] at hr; exact hr.mono hle
  | any => simp [frzV] at h
  | tup vs => simp [frzV] at h
  | full xs => simp only [frzV] at h; cases h; simp only [LRel] at hr; obtain ⟨_, _, _, h1⟩ := hr; exact h1.mono hle
  | agg cs =>
   simp only [frzV, Option.map_eq_some_iff] at h;obtain ⟨ss, h1, rfl⟩ := h;simp only [LRel] at hr;simp only [CRel];exact all hr h1
  | fn f first caps =>
   simp only [frzV] at h
   split at h
   ·rename_i a b ha hb
    cases h
    simp only [LRel] at hr;obtain ⟨fs, cs, e, h1, h2⟩ := hr;simp only [CRel];exact ⟨fs, cs, e, all h1 ha, all h2 hb⟩
   ·cases h
  | loc b off =>
   simp only [LRel] at hr;obtain ⟨cb, sh, m, hρ, e⟩ := hr
   have hx : ∃ cs, (match H[b]? with | some (.obj cs) => frzAll (frzV H n) cs | some (.row cs) | some (.frz cs) => some cs | _ => none) = some cs /\ off <= cs.length /\ sv = .ptr (cs.drop off) := by
    simp only [frzV] at h
    cases hb : H[b]? with
    | none => rw [hb] at h; cases h
    | some B =>
     rw [hb] at h
     cases B <;> simp only at h ⊢ <;> try (cases h; done)
     case obj cs =>
      split at h
      ·rename_i cs' hcs
       split at h
       ·cases h; exact ⟨cs', hcs, by assumption, rfl⟩
       ·cases h
      ·cases h
     all_goals
      split at h
      ·cases h; exact ⟨_, rfl, by assumption, rfl⟩
      ·cases h
   obtain ⟨cs, hc, hoff, rfl⟩ := hx
   rcases blk b _ cs hρ hc with ⟨e', _⟩ | ⟨cb', sh', m', ws, e', h1, h2⟩
   ·cases e'
   ·cases e'
    simp only [CRel];exact ⟨cb, sh + off, ws.drop off, e, by rw [qv]; exact h1.drop off, qbh h2⟩
  | sl b off len sz clip =>
   simp only [LRel] at hr;obtain ⟨r, ad, cap, hρ, hg, e, hlc, hcm, hpos, _, hcap⟩ := hr
   have hx : ∃ cs, (match H[b]? with | some (.obj cs) => frzAll (frzV H n) cs | some (.row cs) | some (.frz cs) => some cs | _ => none) = some cs /\ off + len * sz <= cs.length /\ sv = .slice (elems sz len (cs.drop off)) := by
    simp only [frzV] at h
    cases hb : H[b]? with
    | none => rw [hb] at h; cases h
    | some B =>
     rw [hb] at h
     cases B <;> simp only at h ⊢ <;> try (cases h; done)
     case obj cs =>
      split at h
      ·rename_i cs' hcs
       split at h
       ·cases h; exact ⟨cs', hcs, by assumption, rfl⟩
       ·cases h
      ·cases h
     all_goals
      split at h
      ·cases h; exact ⟨_, rfl, by assumption, rfl⟩
      ·cases h
   obtain ⟨cs, hc, hoff, rfl⟩ := hx
   have hlenE : ∀ (cs : List SV), len * sz <= cs.length -> (elems sz len cs).length = len := by
    intro cs hl
    have : ∀ (n : Nat) (cs : List SV), (chunk sz n cs).length = n := by intro n; induction n with
     | zero => intro cs; rfl
     | succ n ih => intro cs; simp [chunk, ih]
    unfold elems; split
    ·rename_i e; subst e; rw [List.length_take]; omega
    ·exact this _ _
   have hdl : len * sz <= (cs.drop off).length := by rw [List.length_drop]; omega
   simp only [CRel];refine ⟨ad, len, cap, e, (hlenE _ hdl).symm, hlc, hcm, ?_⟩
   rcases hcap with h0 | ⟨cb, sh, m, rfl, rfl, hfit⟩
   ·left
    have : len = 0 := by omega
    subst this;exact List.eq_nil_of_length_eq_zero (hlenE _ hdl)
   ·right
    rcases blk b _ cs hρ hc with ⟨e', _⟩ | ⟨cb', sh', m', ws, e', h1, h2⟩
    ·cases e'
    ·cases e'
     obtain ⟨uss, h3, h4, h5⟩ := qbU hpos (len := len) (cs := cs.drop off) (us := ws.drop off) (by rw [qv]; exact h1.drop off) hdl
     exact ⟨cb, sh + off, sz, uss, rfl, h3, h4, by rw [h5]; exact qdQ (qbh h2)⟩
  | yl l => simp [frzV] at h
  | mp b =>
   simp only [LRel] at hr;obtain ⟨cb, sh, m, hρ, e⟩ := hr;simp only [frzV] at h
   cases hb : H[b]? with
   | none => rw [hb] at h; cases h
   | some B =>
    rw [hb] at h;have hst := hB b B _ hb hρ
    cases B <;> simp only at h <;> try (cases h; done)
    all_goals
     cases h
     simp only [BStab] at hst;obtain ⟨kus, vus, es, h1, h2, h3, h4, h5, h6⟩ := hst;simp only [CRel];exact ⟨some cb, e, .inr ⟨cb, _, kus, vus, rfl, h4, h1.mono hle, h2.mono hle, List.Perm.of_eq h5, h3, h6⟩⟩
theorem qjd {H : List ABlock} {n : Nat} {v : LV} {sv : SV} (h : frzV H n v = some sv) : sv.isAgg = v.isAgg /\ v ≠ .any := by
 cases n with
 | zero => simp [frzV] at h
 | succ n =>
  cases v <;> simp only [frzV] at h <;> try (cases h; done)
  case s v => cases h; exact ⟨rfl, by simp⟩
  case full xs => cases h; exact ⟨rfl, by simp⟩
  case agg cs =>
   simp only [Option.map_eq_some_iff] at h;obtain ⟨ss, _, rfl⟩ := h;exact ⟨rfl, by simp⟩
  all_goals
   refine ⟨?_, by simp⟩
   split at h <;> (try split at h) <;> (try split at h) <;> (try (cases h; done)) <;> (cases h; rfl)
theorem qeV {M M' : Mem} {ρ : Env} {H : List ABlock} (hle : M.le M') (hB : ∀ (i : Nat) (B : ABlock) (r : Spot), H[i]? = some B -> ρ[i]? = some r -> BStab M M' ρ B r) {n : Nat} {v : LV} {x : Value} {sv : SV} (hr : LVal M ρ v x) (h : frzV H n v = some sv) : VRel M' sv x := by
 obtain ⟨h1, h2⟩ := qjd h
 rcases hr with e | ⟨vs, xs, rfl, _⟩ | ⟨us, hu, rfl⟩
 ·exact absurd e h2
 ·cases n <;> simp [frzV] at h
 ·exact ⟨us, qef hle hB n v us sv hu h, by rw [SV.mk, h1]⟩
theorem qX {M : Mem} {ρ : Env} {n : Nat} {v : LV} {x : Value} {sv : SV} (hr : LVal M ρ v x) (h : frzV [] n v = some sv) : VRel M sv x :=
 qeV M.le_refl (fun i B r h => by simp at h) hr h
theorem qbz {M : Mem} {ρ : Env} {H : List ABlock} {w : World} (hS : SRel M ρ H w) {n : Nat} {v : LV} {x : Value} {sv : SV} (hr : LVal M ρ v x) (h : frzV H n v = some sv) : VRel (M.up ρ w) sv x :=
 qeV (Mem.le_up M ρ w) (fun _ _ _ hB hρ => hS.stab hB hρ) hr h
theorem qS {M M' : Mem} {ρ : Env} {H : List ABlock} (hle : M.le M') (hB : ∀ (i : Nat) (B : ABlock) (r : Spot), H[i]? = some B -> ρ[i]? = some r -> BStab M M' ρ B r) {n : Nat} : ∀ {vs : List LV} {xs : List Value} {ss : List SV}, FRel M ρ vs xs -> frzAll (frzV H n) vs = some ss -> VRelL M' ss xs
 | [], xs, ss, h, hs => by simp [FRel] at h; simp [frzAll] at hs; subst h; subst hs; rfl
 | c :: cs, xs, ss, h, hs => by
  obtain ⟨y, ys, rfl, h1, h2⟩ := h;simp only [frzAll] at hs
  split at hs
  ·rename_i a ha
   split at hs
   ·rename_i as has
    cases hs
    exact ⟨y, ys, rfl, qeV hle hB h1 ha, qS hle hB h2 has⟩
   ·cases hs
  ·cases hs
theorem SRel.world {M : Mem} {ρ : Env} {H : List ABlock} {w w' : World} (h : SRel M ρ H w) (hh : w'.heap = w.heap) : SRel M ρ H w' := by
 refine ⟨h.len, fun i B r hB hr => BRel.keep (h.blk i B r hB hr) fun cb sh n _ => by rw [hh], h.inj, fun i cb sh n hr => by rw [hh]; exact h.lt i cb sh n hr, fun b o v hv => ?_, fun b es hv => ?_⟩
 ·rw [cell?_eq (w := w) (by rw [hh])]; exact h.cells b o v hv
 ·rw [hh]; exact h.maps b es hv
theorem Touch.trans {ρ : Env} {w w' w'' : World} (h : Touch ρ w w') (k : Touch ρ w' w'') : Touch ρ w w'' :=
 ⟨k.os.trans h.os, k.tape.trans h.tape, k.output.trans h.output, Nat.le_trans h.drawn k.drawn, Nat.le_trans h.size k.size, fun b hb hn => (k.block b (Nat.lt_of_lt_of_le hb h.size) hn).trans (h.block b hb hn)⟩
theorem Env.nil_has (b : Nat) : ¬ Env.has [] b := fun ⟨i, sh, n, h⟩ => by simp at h
theorem Touch.of_nil {ρ : Env} {w w' : World} (h : Touch [] w w') : Touch ρ w w' :=
 ⟨h.os, h.tape, h.output, h.drawn, h.size, fun b hb _ => h.block b hb (Env.nil_has b)⟩
theorem SRel.grow {M M' : Mem} {ρ : Env} {H : List ABlock} {w w' : World} (h : SRel M ρ H w) (hle : M.le M') (ht : Touch [] w w') (hn : Newer [] w M M') (hh : Holds M' w') : SRel M' ρ H w' := by
 refine ⟨h.len, fun i B r hB hr => ?_, h.inj, fun i cb sh n hr => Nat.lt_of_lt_of_le (h.lt i cb sh n hr) ht.size, hh.1, hh.2⟩
 refine BRel.keep (BRel.mono (h.blk i B r hB hr) hle (Env.le_refl _) fun cb sh n e => ?_) fun cb sh n e => ?_
 ·subst e
  have hlt := h.lt i cb sh n hr;refine ⟨fun o hno => ?_, fun hno => ?_⟩
  ·cases hc : M'.cell cb o with
   | none => rfl
   | some v =>
    rcases hn.1 cb o v hc with h1 | h1 | h1
    ·rw [hno] at h1; cases h1
    ·omega
    ·exact absurd h1 (Env.nil_has _)
  ·cases hc : M'.map cb with
   | none => rfl
   | some v =>
    rcases hn.2 cb v hc with h1 | h1 | h1
    ·rw [hno] at h1; cases h1
    ·omega
    ·exact absurd h1 (Env.nil_has _)
 ·subst e
  exact ht.block cb (h.lt i cb sh n hr) (Env.nil_has _)
section
variable {A : Nat -> Obj -> Prop} {dfs : List Deferred} {n0 : Nat} {M0 : Mem} {ρ0 : Env} {w0 : World} {M : Mem} {ρ : Env} {H : List ABlock} {w : World}
theorem MInv.world {w' : World} (h : MInv A n0 M0 ρ0 w0 M ρ H w) (hh : w'.heap = w.heap) (ho : w'.os = w.os) (ht : w'.tape = w.tape) (hp : w'.output = w.output) (hd : w.drawn <= w'.drawn) : MInv A n0 M0 ρ0 w0 M ρ H w' :=
  { h with
    rel := h.rel.world hh
    touch := h.touch.trans ⟨ho, ht, hp, hd, by rw [hh]; exact Nat.le_refl _, fun b _ _ => by rw [hh]⟩
    alien := fun k o ho => by rw [hh]; exact h.alien k o ho }
theorem MInv.has_old (h : MInv A n0 M0 ρ0 w0 M ρ H w) {k : Nat} (hk : ρ.has k) : ρ0.has k \/ w0.heap.size <= k := by
 obtain ⟨i, sh, n, hi⟩ := hk
 by_cases hlt : i < n0
 ·left
  have hl := h.nle;have hg : ρ0[i]? = some ρ0[i] := List.getElem?_eq_getElem (by omega)
  by_cases hgone : ρ0[i] = .gone
  ·rw [hgone] at hg; have := h.gon i (by omega) hg; rw [hi] at this; cases this
  ·have := h.env i _ hlt hgone hg; rw [hi] at this; exact ⟨i, sh, n, by rw [hg, <- this]⟩
 ·exact h.fresh i k sh n (by omega) hi
theorem MInv.grow {M' : Mem} {w' : World} (h : MInv A n0 M0 ρ0 w0 M ρ H w) (hle : M.le M') (ht : Touch [] w w') (hn : Newer [] w M M') (hh : Holds M' w') : MInv A n0 M0 ρ0 w0 M' ρ H w' :=
  { rel := h.rel.grow hle ht hn hh
    mem := Mem.le_trans h.mem hle
    nle := h.nle
    len := h.len
    env := h.env
    gon := h.gon
    touch := h.touch.trans ht.of_nil
    newer := ⟨fun b o v hv => by
        rcases hn.1 b o v hv with h1 | h1 | h1
        · exact h.newer.1 b o v h1
        · exact .inr (.inl (Nat.le_trans h.touch.size h1))
        · exact absurd h1 (Env.nil_has _),
      fun b es hv => by
        rcases hn.2 b es hv with h1 | h1 | h1
        · exact h.newer.2 b es h1
        · exact .inr (.inl (Nat.le_trans h.touch.size h1))
        · exact absurd h1 (Env.nil_has _)⟩
    fresh := h.fresh
    alien := fun k o ho => by
      obtain ⟨h1, h2, h3⟩ := h.alien k o ho;exact ⟨by rw [ht.block k (Array.getElem?_eq_some_iff.1 h1).1 (Env.nil_has _)]; exact h1, h2, h3⟩ }
theorem MInv.lay {M' : Mem} {w' : World} (h : MInv A n0 M0 ρ0 w0 M ρ H w) {id cb sh n : Nat} {B : ABlock} (hid : ρ0.length <= id) (hg : H[id]? = some .gone) (hle : M.le M') (ht : Touch [] w w') (hn : Newer [] w M M') (hh : Holds M' w')
    (hcb : w.heap.size <= cb) (hlt : cb < w'.heap.size) (hfree : (∀ o, M'.cell cb o = none) /\ M'.map cb = none) (hB : BRel M' (ρ.set id (.here cb sh n)) w' B (.here cb sh n)) :
    MInv A n0 M0 ρ0 w0 M' (ρ.set id (.here cb sh n)) (H.set id B) w' /\ Env.le ρ (ρ.set id (.here cb sh n)) := by
  have h' := h.grow hle ht hn hh;have hb := (List.getElem?_eq_some_iff.1 hg).1;obtain ⟨r, hr, hBr⟩ := h.rel.spot hg;have hr' : r = .gone := by cases r <;> simp only [BRel] at hBr; rfl
  subst hr';have hle' : Env.le ρ (ρ.set id (.here cb sh n)) := Env.le_set hr
  refine ⟨{ rel := ?_, mem := h'.mem, nle := h.nle, len := by simpa using h.len, env := fun i r hi hne hr => ?_, gon := fun i hi hr => ?_, touch := h'.touch, newer := h'.newer, fresh := fun i cb' sh' n' hi hr => ?_, alien := fun k o ho => ⟨(h'.alien k o ho).1, (h.alien k o ho).2.1, fun hk => by
    rcases qdP hk with hk | ⟨_, _, e⟩
    · exact (h.alien k o ho).2.2 hk
    · cases e; have := (Array.getElem?_eq_some_iff.1 (h.alien _ o ho).1).1; omega⟩ }, hle'⟩
  · refine SRel.turn h'.rel hb (fun _ _ _ => rfl) hfree (Nat.le_refl _) hlt (fun j cb' sh' n' hj hj' _ => ?_) hB (fun j B' hj hBj => ?_)
    · have := h.rel.lt j cb' sh' n' hj'; omega
    · obtain ⟨r', h1, h2⟩ := h'.rel.spot hBj
      rw [h1];exact BRel.mono h2 (Mem.le_refl _) hle' (fun _ _ _ _ => ⟨fun _ k => k, fun k => k⟩)
  · have := h.nle
    rw [List.getElem?_set, if_neg (by omega)]; exact h.env i r hi hne hr
  · rw [List.getElem?_set, if_neg (by omega)]; exact h.gon i hi hr
  · rw [List.getElem?_set] at hr
    split at hr
    · split at hr
      · cases hr; exact .inr (Nat.le_trans h.touch.size hcb)
      · cases hr
    · exact h.fresh i cb' sh' n' hi hr
theorem MInv.write (h : MInv A n0 M0 ρ0 w0 M ρ H w) {b cb sh n : Nat} {B B' : ABlock} {c c' : Array Value} {T : TypeId} (hB : H[b]? = some B) (hr : ρ[b]? = some (.here cb sh n))
    (hc : w.heap[cb]? = some (.cells c T (0, 0))) (hn : ∀ o, M.cell cb o = none) (hB' : BRel M ρ (w.setRow cb c') B' (.here cb sh n)) (hd : B ≠ .frz [] := by nofun) : MInv A n0 M0 ρ0 w0 M ρ (H.set b B') (w.setRow cb c') :=
  { h with
    rel := h.rel.write hB hd hr hc hn hB'
    touch := by
      refine ⟨h.touch.os, h.touch.tape, h.touch.output, h.touch.drawn, by rw [setRow_size]; exact h.touch.size, fun k hk hno => ?_⟩
      rw [setRow_other w cb k c' (fun e => ?_)]
      · exact h.touch.block k hk hno
      · subst e
        rcases h.has_old ⟨b, sh, n, hr⟩ with h1 | h1
        · exact hno h1
        · omega
    alien := fun k o ho => by
      obtain ⟨h1, h2, h3⟩ := h.alien k o ho;exact ⟨by rw [setRow_other w cb k c' (fun e => h3 (e ▸ ⟨b, sh, n, hr⟩))]; exact h1, h2, h3⟩ }
theorem MInv.move {w' : World} (h : MInv A n0 M0 ρ0 w0 M ρ H w) {b cb sh n : Nat} {B : ABlock} (hb0 : n0 <= b) (hng : ρ[b]? ≠ some .gone) (hb : b < H.length)
  (ht : Touch [] w w') (hh : Holds M w') (hcb : w.heap.size <= cb) (hlt : cb < w'.heap.size)
  (hB : BRel M (ρ.set b (.here cb sh n)) w' B (.here cb sh n)) (hBo : ∀ cs, B ≠ .obj cs) :
  MInv A n0 M0 ρ0 w0 M (ρ.set b (.here cb sh n)) (killH (some b) (H.set b B)) w' := by
 have h' := h.grow (Mem.le_refl M) ht (Newer.refl _ _ _) hh
 have hnc : ∀ o, M.cell cb o = none := fun o => by
  cases hm : M.cell cb o with
  | none => rfl
  | some v => have := h.rel.cell_lt hm; omega
 have hnm : M.map cb = none := by
  cases hm : M.map cb with
  | none => rfl
  | some v => have := h.rel.map_lt hm; omega
 refine { rel := ?_, mem := h'.mem, nle := h.nle, len := by simpa using h.len, env := fun i r hi hne hr => ?_, gon := fun i hi hr => ?_, touch := h'.touch, newer := h'.newer, fresh := fun i cb' sh' n' hi hr => ?_, alien := fun k o ho => ⟨(h'.alien k o ho).1, (h.alien k o ho).2.1, fun hk => by
  rcases qdP hk with hk | ⟨_, _, e⟩
  ·exact (h.alien k o ho).2.2 hk
  ·cases e; have := (Array.getElem?_eq_some_iff.1 (h.alien _ o ho).1).1; omega⟩ }
 ·refine SRel.move h'.rel hb (fun _ _ _ => rfl) ⟨hnc, hnm⟩ hlt (Nat.le_refl _) (fun j cb' sh' n' hj hj' _ => ?_) hB hBo
  have := h.rel.lt j cb' sh' n' hj'; omega
 ·have := h.nle
  rw [List.getElem?_set, if_neg (by omega)]; exact h.env i r hi hne hr
 ·rw [List.getElem?_set, if_neg (by rintro rfl; exact hng (h.gon _ hi hr))]; exact h.gon i hi hr
 ·rw [List.getElem?_set] at hr
  split at hr
  ·split at hr
   ·cases hr; exact .inr (Nat.le_trans h.touch.size hcb)
   ·cases hr
  ·exact h.fresh i cb' sh' n' hi hr
theorem MInv.trans {M' : Mem} {ρ' : Env} {H' : List ABlock} {w' : World} (h : MInv A n0 M0 ρ0 w0 M ρ H w) {A' : Nat -> Obj -> Prop} {n1 : Nat} (k : MInv A' n1 M ρ w M' ρ' H' w') (hnn : n0 <= n1) : MInv A n0 M0 ρ0 w0 M' ρ' H' w' :=
  { rel := k.rel
    mem := Mem.le_trans h.mem k.mem
    nle := h.nle
    len := Nat.le_trans h.len k.len
    env := fun i r hi hne hr => k.env i r (Nat.lt_of_lt_of_le hi hnn) hne (h.env i r hi hne hr)
    gon := fun i hi hr => k.gon i (Nat.lt_of_lt_of_le hi h.len) (h.gon i hi hr)
    touch := ⟨k.touch.os.trans h.touch.os, k.touch.tape.trans h.touch.tape, k.touch.output.trans h.touch.output, Nat.le_trans h.touch.drawn k.touch.drawn, Nat.le_trans h.touch.size k.touch.size, fun b hb hno => by
      rw [k.touch.block b (Nat.lt_of_lt_of_le hb h.touch.size) (fun hh => by rcases h.has_old hh with h1 | h1; exact hno h1; omega)]
      exact h.touch.block b hb hno⟩
    newer := ⟨fun b o v hv => by
        rcases k.newer.1 b o v hv with h1 | h1 | h1
        · exact h.newer.1 b o v h1
        · exact .inr (.inl (Nat.le_trans h.touch.size h1))
        · rcases h.has_old h1 with h2 | h2
          · exact .inr (.inr h2)
          · exact .inr (.inl h2),
      fun b es hv => by
        rcases k.newer.2 b es hv with h1 | h1 | h1
        · exact h.newer.2 b es h1
        · exact .inr (.inl (Nat.le_trans h.touch.size h1))
        · rcases h.has_old h1 with h2 | h2
          · exact .inr (.inr h2)
          · exact .inr (.inl h2)⟩
    fresh := fun i cb sh n hi hr => by
      have hkl := k.nle
      by_cases hlt : i < n1
      · have hg : ρ[i]? = some ρ[i] := List.getElem?_eq_getElem (by omega)
        by_cases hgone : ρ[i] = .gone
        · rw [hgone] at hg; have := k.gon i (by omega) hg; rw [hr] at this; cases this
        · have := k.env i _ hlt hgone hg; rw [hr] at this; exact h.fresh i cb sh n hi (by rw [hg, <- this])
      · rcases k.fresh i cb sh n (by omega) hr with h1 | h1
        · exact h.has_old h1
        · exact .inr (Nat.le_trans h.touch.size h1)
    alien := fun j o ho => by
      obtain ⟨h1, h2, h3⟩ := h.alien j o ho;have hj := (Array.getElem?_eq_some_iff.1 h1).1;refine ⟨by rw [k.touch.block j hj h3]; exact h1, h2, fun hk => ?_⟩
      rcases k.has_old hk with h4 | h4
      · exact h3 h4
      · omega }
theorem MInv.le (h : MInv A n0 M0 ρ0 w0 M ρ H w) (hn : ρ0.length <= n0) : Env.le ρ0 ρ := fun i r hne hr => h.env i r (Nat.lt_of_lt_of_le (List.getElem?_eq_some_iff.1 hr).1 hn) hne hr
def Mem.lay (M : Mem) (cb : Nat) (us : List Value) : Mem := { cell := fun b o => if b = cb then us[o]? else M.cell b o, map := M.map }
theorem qm (w : World) (o : Obj) : Touch [] w (w.alloc o) :=
 ⟨rfl, rfl, rfl, Nat.le_refl _, by simp, fun k hk _ => by show (w.heap.push o)[k]? = w.heap[k]?; rw [Array.getElem?_push, if_neg (by omega)]⟩
theorem qap (w : World) (o : Obj) : (w.alloc o).heap[w.heap.size]? = some o := by show (w.heap.push o)[w.heap.size]? = some o; simp
theorem Holds.grow {M : Mem} {w w' : World} (h : Holds M w) (ht : Touch [] w w') : Holds M w' := by
 have lt : ∀ b o v, w.cell? ⟨b, o, none⟩ = some v -> b < w.heap.size := fun b o v hv => World.block_lt_of_cell? w _ hv
 refine ⟨fun b o v hv => ?_, fun b es hv => ?_⟩
 ·have h1 := h.1 b o v hv
  rw [cell?_eq (ht.block b (lt b o v h1) (Env.nil_has b))]; exact h1
 ·have h1 := h.2 b es hv
  rw [ht.block b (Array.getElem?_eq_some_iff.1 h1).1 (Env.nil_has b)]; exact h1
theorem Mem.lay_spec {M : Mem} {w : World} (hh : Holds M w) (c : Array Value) (T : TypeId) :
  M.le (M.lay w.heap.size c.toList) /\ Newer [] w M (M.lay w.heap.size c.toList) /\ Holds (M.lay w.heap.size c.toList) (w.alloc (.cells c T)) /\ (M.lay w.heap.size c.toList).At w.heap.size 0 c.toList := by
 have hne : ∀ b o v, M.cell b o = some v -> b ≠ w.heap.size := fun b o v hv => Nat.ne_of_lt (World.block_lt_of_cell? w _ (hh.1 b o v hv))
 refine ⟨⟨fun b o v hv => by simp only [Mem.lay, if_neg (hne b o v hv)]; exact hv, fun _ _ h => h⟩, ⟨fun b o v hv => ?_, fun _ _ h => .inl h⟩, ⟨fun b o v hv => ?_, (hh.grow (qm w _)).2⟩, fun j v hv => by simpa [Mem.lay] using hv⟩
 ·simp only [Mem.lay] at hv
  split at hv
  ·rename_i e; subst e; exact .inr (.inl (Nat.le_refl _))
  ·exact .inl hv
 ·simp only [Mem.lay] at hv
  split at hv
  ·rename_i e; subst e; rw [World.cell?_alloc_new]; simpa using hv
  ·exact (hh.grow (qm w _)).1 b o v hv
end
section inversion
variable {P : Program} {o : Op}
theorem qje {zero : List LV} {parts : List (Nat × Nat × AX)} (h : okOp P (.build zero parts) o = true) : ∃ t ps z it, o = .build t ps /\ P.info? t = some it /\ it.zero = some z /\ okConstL zero z.cells.toList = true /\
    ((∃ fs, P.underlying t = some (.struct fs) /\ okParts P (fun i => (fieldOf P t i).map fun p => (p.1, p.2.1)) parts ps.toList = true /\ ∀ f ∈ fs.toList, (szTy P f.type).isSome = true) \/
     (∃ n e ie, P.underlying t = some (.array n e) /\ P.info? e = some ie /\ okParts P (fun i => some (i * ie.size, ie.size)) parts ps.toList = true)) := by
  cases o <;> first | exact Bool.noConfusion (show false = true from h) | skip
  rename_i t ps
  simp only [okOp, Bool.and_eq_true] at h;obtain ⟨⟨h1, h2⟩, h3⟩ := h;unfold okZero at h1
  split at h1
  next z hz =>
    cases hi : P.info? t with
    | none => rw [hi] at hz; cases hz
    | some it =>
      rw [hi] at hz;refine ⟨t, ps, z, it, rfl, hi, hz, h1, ?_⟩
      split at h2
      next fs hu =>
        rw [hu] at h3;exact .inl ⟨fs, hu, h2, by rw [List.all_eq_true] at h3; exact h3⟩
      next n e hu =>
        rw [hu] at h3;simp only [szTy] at h2 h3
        cases he : P.info? e with
        | none => rw [he] at h3; cases h3
        | some ie =>
          rw [he] at h2;exact .inr ⟨n, e, ie, hu, he, h2⟩
      next => cases h2
  next => cases h1
theorem qd3 {sz n : Nat} {zero : SV} {parts : List (Nat × AX)} (h : okOp P (.buildSl sz n zero parts) o = true) : ∃ t ps e ie z, o = .buildSlice t n ps /\ P.underlying t = some (.slice e) /\ P.info? e = some ie /\ ie.size = sz /\ 0 < sz /\ ie.zero = some z /\ okParts2 parts ps.toList = true := by
 cases o <;> first | exact Bool.noConfusion (show false = true from h) | skip
 rename_i t m ps
 simp only [okOp, Bool.and_eq_true, beq_iff_eq, decide_eq_true_eq] at h;obtain ⟨⟨⟨⟨rfl, h1⟩, h2⟩, h3⟩, h4⟩ := h
 split at h4
 next e hu =>
  simp only [slSz, hu] at h1
  cases hi : P.info? e with
  | none => rw [hi] at h1; cases h1
  | some ie =>
   rw [hi] at h1;unfold okZero at h4
   split at h4
   next z hz => rw [hi] at hz; exact ⟨t, ps, e, ie, z, rfl, hu, hi, by simpa using h1, h2, hz, h3⟩
   next => cases h4
 next => cases h4
theorem qcC {x : AX} {ys : List Operand} (h : okXs [x] ys = true) : ∃ y, ys = [y] /\ okX x y = true := by
 match ys, h with
 | [y], h => exact ⟨y, rfl, by simpa [okXs] using h⟩
 | [], h => simp [okXs] at h
 | _ :: _ :: _, h => simp [okXs] at h
theorem qcD {x x' : AX} {ys : List Operand} (h : okXs [x, x'] ys = true) : ∃ y y', ys = [y, y'] /\ okX x y = true /\ okX x' y' = true := by
 match ys, h with
 | [y, y'], h => exact ⟨y, y', rfl, by simpa [okXs] using h⟩
 | [_], h => simp [okXs] at h
 | [], h => simp [okXs] at h
 | _ :: _ :: _ :: _, h => simp [okXs] at h
theorem qmF {st : Bool} {x : AX} (h : okOp P (.len st x) o = true) : ∃ xs ts y t d, o = .call { callee := .builtin .len, args := xs, argTypes := ts } /\ xs.toList = [y] /\ okX x y = true /\ ts[0]? = some t /\ P.underlying t = some d /\ ((st = false /\ ∃ e, d = .slice e) \/ (st = true /\ d = .string)) := by
 cases o <;> first | exact Bool.noConfusion (show false = true from h) | skip
 rename_i c
 obtain ⟨callee, xs, ts⟩ := c
 cases callee <;> first | exact Bool.noConfusion (show false = true from h) | skip
 rename_i b
 cases b <;> first | exact Bool.noConfusion (show false = true from h) | skip
 simp only [okOp, Bool.and_eq_true] at h;obtain ⟨h1, h2⟩ := h;obtain ⟨y, hy, hx⟩ := qcC h1
 split at h2
 next t ht =>
  split at h2
  next e hu => exact ⟨xs, ts, y, t, _, rfl, hy, hx, ht, hu, .inl ⟨by simpa using h2, e, rfl⟩⟩
  next hu => exact ⟨xs, ts, y, t, _, rfl, hy, hx, ht, hu, .inr ⟨h2, rfl⟩⟩
  next => cases h2
 next => cases h2
theorem qio {n : Nat} (h : okOp P (.lenArr n) o = true) : ∃ xs ts y t d, o = .call { callee := .builtin .len, args := xs, argTypes := ts } /\ xs = #[y] /\ ts[0]? = some t /\ P.underlying t = some d /\ ((∃ e, d = .array n e) \/ ∃ a e, d = .pointer a /\ P.underlying a = some (.array n e)) := by
  cases o <;> first | exact Bool.noConfusion (show false = true from h) | skip
  rename_i c
  obtain ⟨callee, xs, ts⟩ := c
  cases callee <;> first | exact Bool.noConfusion (show false = true from h) | skip
  rename_i b
  cases b <;> first | exact Bool.noConfusion (show false = true from h) | skip
  simp only [okOp, Bool.and_eq_true, decide_eq_true_eq] at h;obtain ⟨h1, h2⟩ := h;obtain ⟨y, hy⟩ := Array.size_eq_one_iff.1 h1
  split at h2
  next t ht =>
    split at h2
    next m e hu => have e' : n = m := by simpa using h2
                   subst e'; exact ⟨xs, ts, y, t, _, rfl, hy, ht, hu, .inl ⟨e, rfl⟩⟩
    next a hu =>
      split at h2
      next m e hu' => have e' : n = m := by simpa using h2
                      subst e'; exact ⟨xs, ts, y, t, _, rfl, hy, ht, hu, .inr ⟨a, e, rfl, hu'⟩⟩
      next => cases h2
    next => cases h2
  next => cases h2
end inversion
section
variable {P : Program} {A : Nat -> Obj -> Prop} {dfs : List Deferred} {M0 : Mem} {ρ0 : Env} {w0 : World} {M : Mem} {ρ : Env} {H : List ABlock} {w : World} {o : Oper} {a : Act} {K : Act -> World -> Prop} {Q : Exit -> Act -> World -> Prop} {fr : List LV} {k : AK} {n0 id : Nat}
theorem qk3 (hI : MInv A n0 M0 ρ0 w0 M ρ H w) (hf : FRel M ρ fr a.tmps.toList) {x : AX} (hok : okOp P (.boxS x) o.op = true) (h : aop P n0 id fr H (.boxS x) k)
  (hK : ∀ v H' kl f x w', k v H' kl f -> f -> Nxt A n0 M0 ρ0 w0 M ρ id v H' kl x w' -> K (a.put o.dst x) w') : o.wp P a w K Q := by
 obtain ⟨t, y, ho, hx⟩ := qkU hok;simp only [aop] at h;have hr := qf hf hx;generalize x.ev fr = v at h hr;unfold exO at h
 split at h
 next sv hs =>
  have hv := qX hr hs;obtain ⟨h1, h2, h3, h4⟩ := Mem.lay_spec hI.rel.holds (a.eval y).cells t;refine qc (x := .pointer (some ⟨w.heap.size, 0, none⟩)) (w' := w.alloc (.cells (a.eval y).cells t)) ?_ (hK _ _ _ _ _ _ h trivial ⟨_, ρ, hI.grow h1 (qm w _) h2 h3, fun _ _ h => h, fun u z hz => hz.mono h1 (Env.le_refl _), ?_⟩)
  ·simp [execOp, ho, Instr.box, newVar, newRow]
  ·rw [qi]
   exact qj (by simp only [CRel]; exact ⟨w.heap.size, 0, (a.eval y).cells.toList, rfl, (qao hv.cells).mono h1, h4⟩) rfl
 next => cases h
theorem qk4 (hI : MInv A n0 M0 ρ0 w0 M ρ H w) (hf : FRel M ρ fr a.tmps.toList) {f : FuncId} {first caps : List AX} (hok : okOp P (.mkfn f first caps) o.op = true) (h : aop P n0 id fr H (.mkfn f first caps) k)
  (hK : ∀ v H' kl f x w', k v H' kl f -> f -> Nxt A n0 M0 ρ0 w0 M ρ id v H' kl x w' -> K (a.put o.dst x) w') : o.wp P a w K Q := by
 obtain ⟨fs, cs, ho, h1, h2⟩ := qkX hok;simp only [aop, Bool.and_eq_true] at h;obtain ⟨⟨h3, h4⟩, h⟩ := h;refine qc (x := .func (.func f) (fs.map a.eval) (cs.map a.eval)) (w' := w) ?_ (hK _ _ _ _ _ _ h trivial (qg hI (qh ?_ rfl)))
 ·simp [execOp, ho, Instr.makeFunc]
 ·simp only [LRel]
  exact ⟨fs.toList.map a.eval, cs.toList.map a.eval, by simp [<- Array.toList_map], qcA (qE hf h1) h3, qcA (qE hf h2) h4⟩
theorem LV.cells_rel {v : LV} {x : Value} {cs : List LV} (h : LVal M ρ v x) (hc : v.cells = some cs) : LRelC M ρ cs (ones x.cells.toList) := by
 cases v with
 | s v =>
  simp only [LV.cells, Option.some.injEq] at hc;subst hc;rw [qi] at h;exact qO.2 (qao h.cells)
 | agg cs' =>
  simp only [LV.cells, Option.some.injEq] at hc;subst hc;obtain ⟨us, rfl, hu⟩ := h.agg
  simpa [Value.cells] using hu
 | any => simp [LV.cells] at hc
 | tup => simp [LV.cells] at hc
 | _ =>
  simp only [LV.cells, Option.some.injEq] at hc;subst hc;have h1 := h.one rfl (by simp)
  obtain ⟨y, e, hy⟩ := h1.one rfl (by simp)
  cases e
  rw [hy];simp only [qak, qf8, LRelC];exact ⟨_, _, rfl, h1, rfl⟩
theorem qgc (cs : List Value) (off : Nat) (z : Array Value) (hfit : off + cs.length <= z.size) :
  ((cs.zipIdx 0).foldl (fun cs (x : Value × Nat) => cs.setIfInBounds (off + x.2) x.1) z).toList = z.toList.take off ++ cs ++ z.toList.drop (off + cs.length) := by
 obtain ⟨h1, h2⟩ := Great.foldl_set off cs 0 z
 apply List.ext_getElem?
 intro j;rw [Array.getElem?_toList, h2 j];rw [List.append_assoc];have hlt : (List.take off z.toList).length = off := by simp; omega
 by_cases hj : j < off
 ·rw [if_neg (by omega), List.getElem?_append_left (by omega)]
  simp [hj]
 ·rw [List.getElem?_append_right (by omega), hlt]
  by_cases hj2 : j < off + cs.length
  ·rw [if_pos (by omega), List.getElem?_append_left (by omega)]; simp
  ·rw [if_neg (by omega), List.getElem?_append_right (by omega), List.getElem?_drop]
   simp only [Array.getElem?_toList]
   congr 1; omega
theorem qdd {place : Nat -> Option (Nat × Nat)} {place' : Nat -> Option (Nat × Nat)} (hp : ∀ i p, place i = some p -> place' i = some p) (hf : FRel M ρ fr a.tmps.toList) :
  ∀ {parts : List (Nat × Nat × AX)} {ps : List (Nat × Operand)} {z : List LV} {zs : Array Value} {cs : List LV}, okParts P place parts ps = true -> LRelC M ρ z (ones zs.toList) ->
   fills z (parts.map fun p => (p.1, p.2.1, p.2.2.ev fr)) = some cs -> ∃ r, Instr.fill place' zs (ps.map fun p => (p.1, a.eval p.2)) = some r /\ LRelC M ρ cs (ones r.toList)
 | [], [], z, zs, cs, _, hz, h => by simp only [List.map_nil, fills, Option.some.injEq] at h; subst h; exact ⟨zs, rfl, hz⟩
 | [], _ :: _, _, _, _, h, _, _ => by simp [okParts] at h
 | _ :: _, [], _, _, _, h, _, _ => by simp [okParts] at h
 | (off, n, x) :: parts, (i, y) :: ps, z, zs, cs, hok, hz, h => by
  simp only [okParts, Bool.and_eq_true, beq_iff_eq] at hok;obtain ⟨⟨h1, h2⟩, h3⟩ := hok;simp only [List.map_cons, fills] at h
  split at h
  next ds hd =>
   split at h
   next hfit =>
    have hr := LV.cells_rel (qf hf h2) hd;have hlen : (a.eval y).cells.size = ds.length := by have := hr.length; simpa using this
    have hzl : zs.size = z.length := by have := hz.length; simpa using this
    obtain ⟨r, hr1, hr2⟩ := qdd hp hf (parts := parts) (ps := ps) (zs := ((a.eval y).cells.toList.zipIdx 0).foldl (fun cs (x : Value × Nat) => cs.setIfInBounds (off + x.2) x.1) zs) h3 (by
     rw [qgc _ _ _ (by simp only [Array.length_toList]; omega)]
     simp only [qV, qW, qv];have e : (a.eval y).cells.toList.length = n := by simp only [Array.length_toList]; omega
     rw [e];exact ((hz.take off).append hr).append (hz.drop (off + n))) h
    refine ⟨r, ?_, hr2⟩;simp only [List.map_cons];unfold Instr.fill;simp only [hp _ _ h1];rw [if_neg (by simp; omega)]
    rw [<- hr1]
    congr 1
    rw [<- Array.foldl_toList, Array.toList_zipIdx]
   next => cases h
  next => cases h
theorem qjf {fs : List Field} (h : ∀ f ∈ fs, (szTy P f.type).isSome = true) : ∃ places, fs.mapM (fun f => (P.info? f.type).map fun i => (f.offset, i.size)) = some places /\
  ∀ i : Nat, places[i]? = (fs[i]?).bind fun (f : Field) => (szTy P f.type).map fun n => (f.offset, n) := by
 induction fs with
 | nil => exact ⟨[], by simp, by simp⟩
 | cons f fs ih =>
  obtain ⟨ps, h1, h2⟩ := ih fun g hg => h g (by simp [hg])
  have hf := h f (by simp)
  unfold szTy at hf
  cases hi : P.info? f.type with
  | none => rw [hi] at hf; cases hf
  | some it =>
   refine ⟨(f.offset, it.size) :: ps, by simp [hi, h1], fun i => ?_⟩
   cases i with
   | zero => simp [szTy, hi]
   | succ i => simpa using h2 i
theorem qjg (hI : MInv A n0 M0 ρ0 w0 M ρ H w) (hf : FRel M ρ fr a.tmps.toList) {zero : List LV} {parts : List (Nat × Nat × AX)} (hok : okOp P (.build zero parts) o.op = true) (h : aop P n0 id fr H (.build zero parts) k)
  (hK : ∀ v H' kl f x w', k v H' kl f -> f -> Nxt A n0 M0 ρ0 w0 M ρ id v H' kl x w' -> K (a.put o.dst x) w') : o.wp P a w K Q := by
 obtain ⟨t, ps, z, it, ho, hi, hz, hzc, hps⟩ := qje hok;simp only [aop] at h;unfold exO at h
 split at h
 next cs hcs =>
  have fin : ∀ r : Array Value, P.built t (ps.map fun p => (p.1, a.eval p.2)).toList = some r -> LRelC M ρ cs (ones r.toList) -> o.wp P a w K Q := by
   intro r hb hr;refine qc (x := .agg r) (w' := w) ?_ (hK _ _ _ _ _ _ h trivial (qg hI (by simpa using qbJ hr)))
   have hrun := run_build (P := P) w t (ps.map fun p => (p.1, a.eval p.2)) r hb
   simp [execOp, ho, hrun]
  have hz0 := qai (M := M) (ρ := ρ) _ _ hzc
  rcases hps with ⟨fs, hu, hpp, hsz⟩ | ⟨n, e, ie, hu, hie, hpp⟩
  ·obtain ⟨places, hp1, hp2⟩ := qjf hsz
   obtain ⟨r, hr1, hr2⟩ := qdd (place' := fun i => places.toArray[i]?) (fun i p hp => by
    simp only [fieldOf, hu] at hp;simp only [List.getElem?_toArray, hp2]
    cases hfi : fs[i]? with
    | none => rw [hfi] at hp; cases hp
    | some f =>
     rw [hfi] at hp;simp only [Array.getElem?_toList, hfi, Option.bind_some];simp only [Option.bind_some, Option.map_map, Option.map_eq_some_iff, Function.comp] at hp;obtain ⟨n, hn, rfl⟩ := hp;rw [hn]; rfl) hf hpp hz0 hcs
   refine fin r ?_ hr2;unfold Program.built;rw [hi, hu];simp only [hz, hp1, Array.toList_map];exact hr1
  ·obtain ⟨r, hr1, hr2⟩ := qdd (place' := fun i => some (i * ie.size, ie.size)) (fun i p hp => hp) hf hpp hz0 hcs
   refine fin r ?_ hr2;unfold Program.built;rw [hi, hu];simp only [hz, hie, Array.toList_map];exact hr1
 next => cases h
end
theorem VRelL.cells {M : Mem} : ∀ {xs : List SV} {vs : List Value}, VRelL M xs vs -> CRelC M xs (vs.map fun v => v.cells.toList)
 | [], vs, h => by simp [VRelL] at h; subst h; simp [CRelC]
 | x :: xs, vs, h => by
  obtain ⟨y, ys, rfl, h1, h2⟩ := h;exact qaL h1.cells h2.cells
theorem qcE {α : Type} : ∀ (l : List (Nat × α)) (s : Nat), l.map (·.1) = List.range' s l.length -> l = ((l.map (·.2)).zipIdx s).map fun x => (x.2, x.1)
 | [], _, _ => rfl
 | (i, v) :: l, s, h => by
  simp only [List.map_cons, List.length_cons, List.range'_succ, List.cons.injEq] at h;simp only [List.map_cons, List.zipIdx_cons, List.cons.injEq, Prod.mk.injEq, and_true];exact ⟨h.1, qcE l (s + 1) h.2⟩
theorem qbx : ∀ {parts : List (Nat × AX)} {ps : List (Nat × Operand)}, okParts2 parts ps = true -> ps.map (·.1) = parts.map (·.1) /\ okXs (parts.map (·.2)) (ps.map (·.2)) = true
 | [], [], _ => ⟨rfl, rfl⟩
 | [], _ :: _, h => by simp [okParts2] at h
 | _ :: _, [], h => by simp [okParts2] at h
 | (i, x) :: parts, (j, y) :: ps, h => by
  simp only [okParts2, Bool.and_eq_true, beq_iff_eq] at h;obtain ⟨⟨rfl, h1⟩, h2⟩ := h;obtain ⟨h3, h4⟩ := qbx h2;exact ⟨by simp [h3], by simp [okXs, h1, h4]⟩
section
variable {P : Program} {A : Nat -> Obj -> Prop} {dfs : List Deferred} {M0 : Mem} {ρ0 : Env} {w0 : World} {M : Mem} {ρ : Env} {H : List ABlock} {w : World} {o : Oper} {a : Act} {K : Act -> World -> Prop} {Q : Exit -> Act -> World -> Prop} {fr : List LV} {k : AK} {n0 id : Nat}
theorem qaR {g : LV -> Option SV} : ∀ {vs : List LV} {xs : List SV}, frzAll g vs = some xs -> xs.length = vs.length
 | [], xs, h => by simp [frzAll] at h; subst h; rfl
 | v :: vs, xs, h => by
  simp only [frzAll] at h
  split at h
  ·split at h
   ·rename_i as has; cases h; simp [qaR has]
   ·cases h
  ·cases h
theorem lenL {sz : Nat} {xs : List SV} {uss : List (List Value)} (h : CRelC M xs uss) (hs : ∀ e ∈ xs, e.cells.length = sz) : ∀ u ∈ uss, u.length = sz := by
 intro u hu;obtain ⟨i, hi⟩ := List.getElem?_of_mem hu;obtain ⟨c, hc, hcu⟩ := h.get' hi;have := (qao hcu).length;rw [qN] at this;rw [this]; exact hs c (List.mem_of_getElem? hc)
theorem qaO {uss : List (List Value)} {sz : Nat} (hs : ∀ u ∈ uss, u.length = sz) : uss.flatten.length = uss.length * sz := by
 induction uss with
 | nil => simp
 | cons u us ih => rw [List.flatten_cons, List.length_append, hs u (by simp), ih (fun u hu => hs u (by simp [hu])), List.length_cons, Nat.succ_mul, Nat.add_comm]
theorem qhk (hI : MInv A n0 M0 ρ0 w0 M ρ H w) (hf : FRel M ρ fr a.tmps.toList) {sz n : Nat} {zero : SV} {parts : List (Nat × AX)} (hok : okOp P (.buildSl sz n zero parts) o.op = true) (h : aop P n0 id fr H (.buildSl sz n zero parts) k)
    (hK : ∀ v H' kl f x w', k v H' kl f -> f -> Nxt A n0 M0 ρ0 w0 M ρ id v H' kl x w' -> K (a.put o.dst x) w') : o.wp P a w K Q := by
  obtain ⟨t, ps, e, ie, z, ho, hu, hie, hsz, hpos, hz, hps⟩ := qd3 hok;subst hsz;simp only [aop] at h;obtain ⟨hn20, hn24, h⟩ := h;unfold exO at h
  split at h
  next xs hxs =>
    obtain ⟨hidx, hel, _, h⟩ := h;obtain ⟨hp1, hp2⟩ := qbx hps;have hv := qS (H := []) (M.le_refl) (fun i B r h => by simp at h) (qE hf hp2) (by rw [List.map_map]; exact hxs)
    have hc := hv.cells;have hsl := lenL hc hel
    have hxl : xs.length = n := by
      have h1 := qaR hxs;have h2 : parts.length = n := by have := congrArg List.length hidx; simpa using this
      rw [h1, List.length_map, h2]
    have hpl : ps.toList.length = n := by
      have h1 := congrArg List.length hp1;have h2 : parts.length = n := by have := congrArg List.length hidx; simpa using this
      simpa [h2] using h1
    -- the values
    let vs : List Value := ps.toList.map fun p => a.eval p.2
    have hvs : (ps.map fun p => (p.1, a.eval p.2)).toList = (vs.zipIdx 0).map fun x => (x.2, x.1) := by
      have := qcE (ps.toList.map fun p => (p.1, a.eval p.2)) 0 (by
        simp only [List.map_map, List.length_map, hpl];rw [show ((fun x : Nat × Value => x.1) ∘ fun p : Nat × Operand => (p.1, a.eval p.2)) = (fun p => p.1) from rfl, hp1, hidx, List.range_eq_range'])
      rw [Array.toList_map, this];simp only [List.map_map];rfl
    have hcell : ∀ v ∈ vs, v.cells.size = ie.size := by
      intro v hv
      have := hsl v.cells.toList (by
        simp only [vs, List.mem_map] at hv ⊢;obtain ⟨p, hp, rfl⟩ := hv;exact ⟨_, ⟨_, ⟨p, hp, rfl⟩, rfl⟩, rfl⟩)
      simpa using this
    have hrun : (Instr.buildSlice t n (ps.map fun p => (p.1, a.eval p.2))).run P w = .ok (.slice (some ⟨w.heap.size, 0, none⟩) n n) (w.alloc (.cells (vs.flatMap fun v => v.cells.toList).toArray e)) := by
      by_cases hn0 : n = 0
      · subst hn0
        have hvn : vs = [] := List.eq_nil_of_length_eq_zero (by simp only [vs, List.length_map]; exact hpl)
        have hpn : (ps.map fun p => (p.1, a.eval p.2)).toList = [] := by rw [hvs, hvn]; rfl
        have hpn' : (ps.map fun p => (p.1, a.eval p.2)) = #[] := by simpa using hpn
        rw [hpn', hvn];simp [Instr.buildSlice, run_underlying hu, sizeOf, typeInfo, hie, Instr.fill, newRow, Array.range_zero']
      · refine run_buildSlice w t e n _ _ ie z hu hie hz (by omega) (by
          have : 0 < n * ie.size := Nat.mul_pos (by omega) hpos
          omega) ?_
        rw [hvs];exact Great.fill_whole hpos vs _ hcell (by simp [vs, hpl])
    obtain ⟨h1, h2, h3, h4⟩ := Mem.lay_spec hI.rel.holds (vs.flatMap fun v => v.cells.toList).toArray e
    refine qc (x := .slice (some ⟨w.heap.size, 0, none⟩) n n) (w' := w.alloc (.cells (vs.flatMap fun v => v.cells.toList).toArray e)) ?_ (hK _ _ _ _ _ _ h trivial ⟨_, ρ, hI.grow h1 (qm w _) h2 h3, fun _ _ h => h, fun u y hy => hy.mono h1 (Env.le_refl _), ?_⟩)
    · simp [execOp, ho, hrun]
    · refine qh ?_ rfl
      simp only [LRel, CRel]
      refine ⟨some ⟨w.heap.size, 0, none⟩, n, rfl, some ⟨w.heap.size, 0, none⟩, n, n, rfl, hxl.symm, Nat.le_refl _, by have : (2:Nat) ^ 20 <= maxLen := by decide
                                                                                                                       omega, .inr ⟨w.heap.size, 0, ie.size, _, rfl, hc.mono h1, hsl, ?_⟩⟩
      have e1 : (List.map (fun v : Value => v.cells.toList) (List.map a.eval (List.map (fun x => x.2) ps.toList))).flatten = vs.flatMap fun v => v.cells.toList := by
        simp only [vs, List.flatMap_def, List.map_map];rfl
      rw [e1];exact h4
  next => cases h
theorem qmG {x : AX} {o : Op} (h : okOp P (.cap x) o = true) : ∃ xs ts y t e, o = .call { callee := .builtin .cap, args := xs, argTypes := ts } /\ xs = #[y] /\ okX x y = true /\ ts[0]? = some t /\ P.underlying t = some (.slice e) := by
 cases o <;> first | exact Bool.noConfusion (show false = true from h) | skip
 rename_i c
 obtain ⟨callee, xs, ts⟩ := c
 cases callee <;> first | exact Bool.noConfusion (show false = true from h) | skip
 rename_i b
 cases b <;> first | exact Bool.noConfusion (show false = true from h) | skip
 simp only [okOp, Bool.and_eq_true] at h;obtain ⟨h1, h2⟩ := h
 cases hx : xs.toList with
 | nil => rw [hx] at h1; simp [okXs] at h1
 | cons y ys =>
  rw [hx] at h1
  cases ys with
  | cons => simp [okXs] at h1
  | nil =>
   simp only [okXs, Bool.and_true] at h1
   split at h2
   ·rename_i t ht
    split at h2
    ·rename_i e he
     exact ⟨xs, ts, y, t, e, rfl, by simpa using congrArg List.toArray hx, h1, ht, he⟩
    ·cases h2
   ·cases h2
theorem qmH (hI : MInv A n0 M0 ρ0 w0 M ρ H w) (hf : FRel M ρ fr a.tmps.toList) {x : AX} (hok : okOp P (.cap x) o.op = true) (h : aop P n0 id fr H (.cap x) k)
  (hK : ∀ v H' kl f x w', k v H' kl f -> f -> Nxt A n0 M0 ρ0 w0 M ρ id v H' kl x w' -> K (a.put o.dst x) w') : o.wp P a w K Q := by
 obtain ⟨xs, ts, y, t, el, ho, hxs, hx, ht, hu⟩ := qmG hok;simp only [aop] at h;have hr := qf hf hx;generalize x.ev fr = v at h hr;unfold capK at h
 split at h
 next ys =>
  have h1 := hr.one rfl (by simp)
  simp only [LRel] at h1;obtain ⟨ad, n, e1, h2⟩ := h1;simp only [CRel] at h2;obtain ⟨ad', len, cap, e2, hlen, hlc, hcm, _⟩ := h2;rw [e1] at e2;simp only [List.cons.injEq, Value.slice.injEq, and_true] at e1 e2;have hn : n = ys.length := by omega
  subst hn;refine qc (x := .int .i64 ys.length) (w' := w) ?_ (hK _ _ _ _ _ _ h (by omega) (qg hI qq))
  simp [execOp, ho, resolve, invoke, builtin, Builtin.cap_, hxs, e1, ht, run_underlying hu, goInt]
 next => cases h
theorem qmI (hI : MInv A n0 M0 ρ0 w0 M ρ H w) (hf : FRel M ρ fr a.tmps.toList) {st : Bool} {x : AX} (hok : okOp P (.len st x) o.op = true) (h : aop P n0 id fr H (.len st x) k)
  (hK : ∀ v H' kl f x w', k v H' kl f -> f -> Nxt A n0 M0 ρ0 w0 M ρ id v H' kl x w' -> K (a.put o.dst x) w') : o.wp P a w K Q := by
 obtain ⟨xs, ts, y, t, d, ho, hxs, hx, ht, hu, hd⟩ := qmF hok;simp only [aop] at h;have hr := qf hf hx;have hxs' : xs = #[y] := by simpa using congrArg List.toArray hxs
 have run : ∀ ad len cap, a.eval y = .slice ad len cap -> (∃ e, d = .slice e) -> (execOp a.eval o).run P w = .ok (.value (.int .i64 len)) w := by
  rintro ad len cap e ⟨el, rfl⟩;simp [execOp, ho, resolve, invoke, builtin, Builtin.len_, hxs', e, ht, run_underlying hu, goInt]
 have sl : ∀ ys : List SV, CRel M (.slice ys) [a.eval y] -> (∃ e, d = .slice e) -> k (.s (.int .i64 ys.length)) H none (ys.length <= maxLen) -> o.wp P a w K Q := by
  intro ys hc hd hk;simp only [CRel] at hc;obtain ⟨ad, len, cap, e, rfl, hlc, hcm, _⟩ := hc;have e' : a.eval y = .slice ad ys.length cap := by simpa using e
  exact qc (run _ _ _ e' hd) (hK _ _ _ _ _ _ hk (by omega) (qg hI qq))
 generalize x.ev fr = v at h hr;unfold lenK at h
 split at h
 next ys =>
  rcases hd with ⟨_, hd⟩ | ⟨e, _⟩
  ·rw [qi] at hr; exact sl ys (hr.one rfl) hd h
  ·cases e
 next ys =>
  rcases hd with ⟨_, hd⟩ | ⟨e, _⟩
  ·have h1 := hr.one rfl (by simp)
   simp only [LRel] at h1;obtain ⟨_, _, _, h2⟩ := h1;exact sl ys h2 hd h
  ·cases e
 next b off len sz c =>
  rcases hd with ⟨_, hd⟩ | ⟨e, _⟩
  ·have h1 := hr.one rfl (by simp)
   simp only [LRel] at h1;obtain ⟨r, ad, cap, hρ, hg, e, hlc, hcm, _⟩ := h1;have e' : a.eval y = .slice ad len cap := by simpa using e
   exact qc (run _ _ _ e' hd) (hK _ _ _ _ _ _ h (by omega) (qg hI qq))
  ·cases e
 next s =>
  rcases hd with ⟨e, _⟩ | ⟨_, rfl⟩
  ·cases e
  ·rw [qi] at hr
   have h1 := hr.one rfl;simp only [CRel] at h1;have e' : a.eval y = .string s := by simpa using h1
   exact qc (x := .int .i64 s.size) (w' := w) (by simp [execOp, ho, resolve, invoke, builtin, Builtin.len_, hxs', e', ht, run_underlying hu, goInt]) (hK _ _ _ _ _ _ h trivial (qg hI qq))
 next => cases h
theorem qip (hI : MInv A n0 M0 ρ0 w0 M ρ H w) (hf : FRel M ρ fr a.tmps.toList) {n : Nat} (hok : okOp P (.lenArr n) o.op = true) (h : aop P n0 id fr H (.lenArr n) k)
  (hK : ∀ v H' kl f x w', k v H' kl f -> f -> Nxt A n0 M0 ρ0 w0 M ρ id v H' kl x w' -> K (a.put o.dst x) w') : o.wp P a w K Q := by
 obtain ⟨xs, ts, y, t, d, ho, hxs, ht, hu, hd⟩ := qio hok;simp only [aop] at h;refine qc (x := .int .i64 n) (w' := w) ?_ (hK _ _ _ _ _ _ h trivial (qg hI qq))
 rcases hd with ⟨e, rfl⟩ | ⟨b, e, rfl, hu'⟩
 ·simp [execOp, ho, resolve, invoke, builtin, Builtin.len_, hxs, ht, run_underlying hu, goInt]
 ·simp [execOp, ho, resolve, invoke, builtin, Builtin.len_, hxs, ht, run_underlying hu, run_underlying hu', goInt]
def ORel (M : Mem) (ρ : Env) : Option LV -> Option Value -> Prop
 | none, x => x = none
 | some v, x => ∃ y, x = some y /\ LVal M ρ v y
theorem qbK (hf : FRel M ρ fr a.tmps.toList) : ∀ {x : Option AX} {y : Option Operand}, okXo x y = true -> ORel M ρ (optEv fr x) (y.map a.eval)
 | none, none, _ => rfl
 | none, some _, h => by simp [okXo] at h
 | some _, none, h => by simp [okXo] at h
 | some x, some y, h => ⟨_, rfl, qf hf h⟩
theorem qa3 {v : Option LV} {x : Option Value} {d l : Nat} (hr : ORel M ρ v x) (hb : boundOf d v = some l) : (v = none /\ x = none /\ l = d) \/ ∃ K, v.isSome = true /\ x = some (.int K l) := by
 unfold boundOf at hb
 split at hb
 ·simp only [ORel] at hr; cases hb; exact .inl ⟨rfl, hr, rfl⟩
 ·rename_i K n
  simp only [ORel] at hr;obtain ⟨y, rfl, hy⟩ := hr
  split at hb
  ·cases hb
   rename_i h0
   refine .inr ⟨K, rfl, ?_⟩;rw [qu rfl hy, Int.toNat_of_nonneg h0]
  ·cases hb
 ·cases hb
theorem qeC {b : Bool} {len cap l h m : Nat} {lo hi mx : Option LV} {xlo xhi xmx : Option Value} (hlo : ORel M ρ lo xlo) (hhi : ORel M ρ hi xhi) (hmx : ORel M ρ mx xmx)
  (h1 : boundOf 0 lo = some l) (h2 : boundOf len hi = some h) (h3 : boundOf cap mx = some m) (hs : mx.isSome = true -> hi.isSome = true) (hl : l <= h) (hm : h <= m) (hc : m <= cap) :
  (Instr.sliceBounds b len cap xlo xhi xmx).run P w = .ok (l, h, m) w := by
 rcases qa3 hmx h3 with ⟨rfl, rfl, rfl⟩ | ⟨K3, hm1, rfl⟩
 ·rcases qa3 hhi h2 with ⟨rfl, rfl, rfl⟩ | ⟨K2, _, rfl⟩
  ·rcases qa3 hlo h1 with ⟨rfl, rfl, rfl⟩ | ⟨K1, _, rfl⟩
   ·simp [Instr.sliceBounds]
   ·have : (l : Int) <= h := by omega
    simp [Instr.sliceBounds, run_sliceBound, this]
  ·have hh : (h : Int) <= m := by omega
   rcases qa3 hlo h1 with ⟨rfl, rfl, rfl⟩ | ⟨K1, _, rfl⟩
   ·simp [Instr.sliceBounds, run_sliceBound, hh]
   ·have : (l : Int) <= h := by omega
    simp [Instr.sliceBounds, run_sliceBound, hh, this]
 ·have hs := hs hm1
  rcases qa3 hhi h2 with ⟨rfl, _, _⟩ | ⟨K2, _, rfl⟩
  ·cases hs
  ·have hh : (h : Int) <= m := by omega
   have hcc : (m : Int) <= cap := by omega
   rcases qa3 hlo h1 with ⟨rfl, rfl, rfl⟩ | ⟨K1, _, rfl⟩
   ·simp [Instr.sliceBounds, run_sliceBound, hh, hcc]
   ·have : (l : Int) <= h := by omega
    simp [Instr.sliceBounds, run_sliceBound, hh, hcc, this]
end
end Go.E
