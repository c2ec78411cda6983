/- A value semantics for the walk: stable values, local values, and how they stand to a world. -/
import Derived.WalkKit
import Derived.Maps.RangeRun
import Derived.Orders

set_option linter.all false

namespace Go.E
open Go
inductive SV where
 | bool (b : Bool)
 | int (k : IntKind) (n : Int)
 | str (s : ByteArray)
 | agg (cs : List SV)
 | slice (xs : List SV)
 | ptr (cs : List SV)
 | nilp
 | fn (f : FuncId) (first caps : List SV)
 | map (ks vs : List SV)
 | nili
 deriving Inhabited
abbrev Ents := Array MapEntry × Nat
def ents (p : Ents) : List (Value × Value) := p.1.toList.map fun e => (e.key, e.val)
def wfm (p : Ents) : Prop := (p.1.toList.map (·.born)).Nodup /\ ∀ e ∈ p.1.toList, e.born < p.2
structure Mem where
  cell : Nat -> Nat -> Option Value
  map : Nat -> Option Ents
def Mem.le (M M' : Mem) : Prop :=
 (∀ b o v, M.cell b o = some v -> M'.cell b o = some v) /\ (∀ b es, M.map b = some es -> M'.map b = some es)
theorem Mem.le_refl (M : Mem) : M.le M := ⟨fun _ _ _ h => h, fun _ _ h => h⟩
theorem Mem.le_trans {A B C : Mem} (h : A.le B) (k : B.le C) : A.le C :=
 ⟨fun b o v x => k.1 b o v (h.1 b o v x), fun b es x => k.2 b es (h.2 b es x)⟩
def Mem.At (M : Mem) (b o : Nat) (us : List Value) : Prop := ∀ j v, us[j]? = some v -> M.cell b (o + j) = some v
theorem Mem.At.mono {M M' : Mem} (h : M.le M') {b o : Nat} {us : List Value} (k : M.At b o us) : M'.At b o us :=
 fun j v hv => h.1 _ _ _ (k j v hv)
def SV.isAgg : SV -> Bool
 | .agg _ => true
 | _ => false
def SV.mk (v : SV) (us : List Value) : Value := if v.isAgg then .agg us.toArray else us.headD undef
def ones (us : List Value) : List (List Value) := us.map fun u => [u]
mutual
def CRel (M : Mem) : SV -> List Value -> Prop
 | .bool b, us => us = [.bool b]
 | .int k n, us => us = [.int k n]
 | .str s, us => us = [.string s]
 | .agg cs, us => CRelC M cs (ones us)
 | .slice xs, us => ∃ a len cap, us = [.slice a len cap] /\ len = xs.length /\ len <= cap /\ cap <= maxLen /\
   (xs = [] \/ ∃ b o sz uss, a = some ⟨b, o, none⟩ /\ CRelC M xs uss /\ (∀ u ∈ uss, u.length = sz) /\ M.At b o uss.flatten)
 | .ptr cs, us => ∃ b o ws, us = [.pointer (some ⟨b, o, none⟩)] /\ CRelC M cs (ones ws) /\ M.At b o ws
 | .nilp, us => us = [.pointer none]
 | .fn f first caps, us => ∃ fs cs, us = [.func (.func f) fs.toArray cs.toArray] /\ CRelC M first (ones fs) /\ CRelC M caps (ones cs)
 | .map ks vs, us => ∃ r, us = [.map r] /\ ((r = none /\ ks = [] /\ vs = []) \/ ∃ b es kus vus, r = some b /\ M.map b = some es /\ CRelC M ks kus /\ CRelC M vs vus /\
   (ents es).Perm (List.zip (List.zipWith SV.mk ks kus) (List.zipWith SV.mk vs vus)) /\ ks.length = vs.length /\ wfm es)
 | .nili, us => us = [.nilIface]
def CRelC (M : Mem) : List SV -> List (List Value) -> Prop
 | [], uss => uss = []
 | c :: cs, uss => ∃ u us, uss = u :: us /\ CRel M c u /\ CRelC M cs us
end
mutual
theorem CRel.mono {M M' : Mem} (h : M.le M') : ∀ (v : SV) (us : List Value), CRel M v us -> CRel M' v us
 | .bool _, _, k | .int _ _, _, k | .str _, _, k | .nilp, _, k | .nili, _, k => by simpa [CRel] using k
 | .agg cs, us, k => by simp only [CRel] at *; exact CRelC.mono h cs _ k
 | .slice xs, us, k => by
  simp only [CRel] at *
  obtain ⟨a, len, cap, e, hl, hc, hm, hx⟩ := k
  refine ⟨a, len, cap, e, hl, hc, hm, ?_⟩
  rcases hx with hx | ⟨b, o, sz, uss, ha, hr, hs, hat⟩
  ·exact .inl hx
  ·exact .inr ⟨b, o, sz, uss, ha, CRelC.mono h xs _ hr, hs, hat.mono h⟩
 | .ptr cs, us, k => by
  simp only [CRel] at *
  obtain ⟨b, o, ws, e, hr, hat⟩ := k
  exact ⟨b, o, ws, e, CRelC.mono h cs _ hr, hat.mono h⟩
 | .fn f first caps, us, k => by
  simp only [CRel] at *
  obtain ⟨fs, cs, e, hr, hr'⟩ := k
  exact ⟨fs, cs, e, CRelC.mono h first _ hr, CRelC.mono h caps _ hr'⟩
 | .map ks vs, us, k => by
  simp only [CRel] at *
  obtain ⟨r, e, hx⟩ := k
  refine ⟨r, e, ?_⟩
  rcases hx with hx | ⟨b, es, kus, vus, hr, hm, hk, hv, hes, hl⟩
  ·exact .inl hx
  ·exact .inr ⟨b, es, kus, vus, hr, h.2 _ _ hm, CRelC.mono h ks _ hk, CRelC.mono h vs _ hv, hes, hl⟩
theorem CRelC.mono {M M' : Mem} (h : M.le M') : ∀ (cs : List SV) (uss : List (List Value)), CRelC M cs uss -> CRelC M' cs uss
 | [], _, k => by simpa [CRelC] using k
 | c :: cs, uss, k => by
  simp only [CRelC] at *
  obtain ⟨u, us, e, hc, hr⟩ := k
  exact ⟨u, us, e, CRel.mono h c u hc, CRelC.mono h cs us hr⟩
end
mutual
theorem CRel.oneCells {M : Mem} : ∀ (v : SV) (us : List Value), CRel M v us -> ∀ u ∈ us, u.oneCell' = true
 | .bool _, _, h | .int _ _, _, h | .str _, _, h | .nilp, _, h | .nili, _, h => by simp only [CRel] at h; subst h; simp [Value.oneCell']
 | .agg cs, us, h => by simp only [CRel] at h; exact fun u hu => CRelC.oneCells cs _ h [u] (by simpa [ones] using hu) u (by simp)
 | .slice xs, us, h => by simp only [CRel] at h; obtain ⟨a, len, cap, rfl, _⟩ := h; simp [Value.oneCell']
 | .ptr cs, us, h => by simp only [CRel] at h; obtain ⟨b, o, ws, rfl, _⟩ := h; simp [Value.oneCell']
 | .fn f first caps, us, h => by simp only [CRel] at h; obtain ⟨fs, cs, rfl, _⟩ := h; simp [Value.oneCell']
 | .map ks vs, us, h => by simp only [CRel] at h; obtain ⟨r, rfl, _⟩ := h; simp [Value.oneCell']
theorem CRelC.oneCells {M : Mem} : ∀ (cs : List SV) (uss : List (List Value)), CRelC M cs uss -> ∀ us ∈ uss, ∀ u ∈ us, u.oneCell' = true
 | [], _, h => by simp only [CRelC] at h; subst h; simp
 | c :: cs, uss, h => by
  simp only [CRelC] at h
  obtain ⟨u, us, rfl, hc, hr⟩ := h
  intro us' hus
  rcases List.mem_cons.1 hus with rfl | hus
  ·exact CRel.oneCells c _ hc
  ·exact CRelC.oneCells cs us hr us' hus
end
theorem CRelC.length {M : Mem} : ∀ {cs : List SV} {uss : List (List Value)}, CRelC M cs uss -> uss.length = cs.length
 | [], _, h => by simp [CRelC] at h; simp [h]
 | c :: cs, uss, h => by
  simp only [CRelC] at h
  obtain ⟨u, us, rfl, _, hr⟩ := h
  simp [hr.length]
theorem CRelC.get {M : Mem} : ∀ {cs : List SV} {uss : List (List Value)}, CRelC M cs uss -> ∀ {i : Nat} {c : SV}, cs[i]? = some c -> ∃ u, uss[i]? = some u /\ CRel M c u
 | [], _, _, i, c, hc => by simp at hc
 | c :: cs, uss, h, i, d, hd => by
  simp only [CRelC] at h
  obtain ⟨u, us, rfl, hc, hr⟩ := h
  cases i with
  | zero => simp at hd; subst hd; exact ⟨u, by simp, hc⟩
  | succ i => simp at hd; obtain ⟨u', h1, h2⟩ := hr.get hd; exact ⟨u', by simpa using h1, h2⟩
theorem CRelC.get' {M : Mem} : ∀ {cs : List SV} {uss : List (List Value)}, CRelC M cs uss -> ∀ {i : Nat} {u : List Value}, uss[i]? = some u -> ∃ c, cs[i]? = some c /\ CRel M c u
 | [], _, h, i, u, hu => by simp [CRelC] at h; subst h; simp at hu
 | c :: cs, uss, h, i, d, hd => by
  simp only [CRelC] at h
  obtain ⟨u, us, rfl, hc, hr⟩ := h
  cases i with
  | zero => simp at hd; subst hd; exact ⟨c, by simp, hc⟩
  | succ i => simp at hd; obtain ⟨u', h1, h2⟩ := hr.get' hd; exact ⟨u', by simpa using h1, h2⟩
theorem CRelC.append {M : Mem} : ∀ {cs ds : List SV} {uss vss : List (List Value)}, CRelC M cs uss -> CRelC M ds vss -> CRelC M (cs ++ ds) (uss ++ vss)
 | [], ds, uss, vss, h, k => by simp [CRelC] at h; subst h; simpa using k
 | c :: cs, ds, uss, vss, h, k => by
  simp only [CRelC] at h
  obtain ⟨u, us, rfl, hc, hr⟩ := h
  simp only [List.cons_append, CRelC]
  exact ⟨u, us ++ vss, rfl, hc, hr.append k⟩
theorem CRelC.drop {M : Mem} : ∀ {cs : List SV} {uss : List (List Value)} (n : Nat), CRelC M cs uss -> CRelC M (cs.drop n) (uss.drop n)
 | cs, uss, 0, h => by simpa using h
 | [], uss, n + 1, h => by simp [CRelC] at h; subst h; simp [CRelC]
 | c :: cs, uss, n + 1, h => by
  simp only [CRelC] at h
  obtain ⟨u, us, rfl, hc, hr⟩ := h
  simpa using hr.drop n
theorem CRelC.take {M : Mem} : ∀ {cs : List SV} {uss : List (List Value)} (n : Nat), CRelC M cs uss -> CRelC M (cs.take n) (uss.take n)
 | cs, uss, 0, h => by simp [CRelC]
 | [], uss, n + 1, h => by simp [CRelC] at h; subst h; simp [CRelC]
 | c :: cs, uss, n + 1, h => by
  simp only [CRelC] at h
  obtain ⟨u, us, rfl, hc, hr⟩ := h
  simp only [List.take_succ_cons, CRelC]
  exact ⟨u, us.take n, rfl, hc, hr.take n⟩
theorem CRelC.set {M : Mem} : ∀ {cs : List SV} {uss : List (List Value)} (i : Nat) {c : SV} {u : List Value}, CRelC M cs uss -> CRel M c u -> CRelC M (cs.set i c) (uss.set i u)
 | [], uss, i, c, u, h, _ => by simp [CRelC] at h; subst h; simp [CRelC]
 | d :: cs, uss, i, c, u, h, k => by
  simp only [CRelC] at h
  obtain ⟨u', us, rfl, hc, hr⟩ := h
  cases i with
  | zero => simp only [List.set_cons_zero, CRelC]; exact ⟨u, us, rfl, k, hr⟩
  | succ i => simp only [List.set_cons_succ, CRelC]; exact ⟨u', us.set i u, rfl, hc, hr.set i k⟩
@[simp] theorem ones_length (us : List Value) : (ones us).length = us.length := by simp [ones]
@[simp] theorem ones_nil : ones [] = [] := rfl
@[simp] theorem ones_cons (u : Value) (us : List Value) : ones (u :: us) = [u] :: ones us := rfl
@[simp] theorem ones_append (us vs : List Value) : ones (us ++ vs) = ones us ++ ones vs := by simp [ones]
@[simp] theorem ones_drop (us : List Value) (n : Nat) : ones (us.drop n) = (ones us).drop n := by simp [ones]
@[simp] theorem ones_take (us : List Value) (n : Nat) : ones (us.take n) = (ones us).take n := by simp [ones]
@[simp] theorem ones_set (us : List Value) (i : Nat) (u : Value) : ones (us.set i u) = (ones us).set i [u] := by simp [ones]
@[simp] theorem ones_get? (us : List Value) (i : Nat) : (ones us)[i]? = (us[i]?).map fun u => [u] := by simp [ones]
@[simp] theorem ones_flatten (us : List Value) : (ones us).flatten = us := by
 induction us with
 | nil => rfl
 | cons u us ih => simp [ih]
theorem crelC_nil {M : Mem} : CRelC M [] [] := by simp [CRelC]
theorem crelC_cons {M : Mem} {c : SV} {cs : List SV} {u : List Value} {us : List (List Value)} (h : CRel M c u) (k : CRelC M cs us) : CRelC M (c :: cs) (u :: us) := by
 simp only [CRelC]; exact ⟨u, us, rfl, h, k⟩
theorem CRel.one {M : Mem} {v : SV} {us : List Value} (h : CRel M v us) (ha : v.isAgg = false) : ∃ x, us = [x] /\ x.cells = #[x] := by
 cases v <;> simp only [CRel] at h
 case agg => simp [SV.isAgg] at ha
 case slice => obtain ⟨a, len, cap, e, _⟩ := h; exact ⟨_, e, rfl⟩
 case ptr => obtain ⟨b, o, ws, e, _⟩ := h; exact ⟨_, e, rfl⟩
 case fn => obtain ⟨fs, cs, e, _⟩ := h; exact ⟨_, e, rfl⟩
 case map => obtain ⟨r, e, _⟩ := h; exact ⟨_, e, rfl⟩
 all_goals exact ⟨_, h, rfl⟩
def VRel (M : Mem) (v : SV) (x : Value) : Prop := ∃ us, CRel M v us /\ x = v.mk us
theorem VRel.mono {M M' : Mem} (h : M.le M') {v : SV} {x : Value} (k : VRel M v x) : VRel M' v x := by
 obtain ⟨us, hc, e⟩ := k; exact ⟨us, hc.mono h, e⟩
theorem VRel.cells {M : Mem} {v : SV} {x : Value} (h : VRel M v x) : CRel M v x.cells.toList := by
 obtain ⟨us, hc, rfl⟩ := h
 unfold SV.mk
 cases ha : v.isAgg with
 | true => simpa [Value.cells] using hc
 | false =>
  obtain ⟨x, rfl, hx⟩ := hc.one ha
  simp [hx]; exact hc
theorem vrel_of_one {M : Mem} {v : SV} {x : Value} (h : CRel M v [x]) (ha : v.isAgg = false) : VRel M v x := ⟨[x], h, by simp [SV.mk, ha]⟩
theorem VRel.one {M : Mem} {v : SV} {x : Value} (h : VRel M v x) (ha : v.isAgg = false) : CRel M v [x] := by
 obtain ⟨us, hc, rfl⟩ := h
 obtain ⟨y, rfl, hy⟩ := hc.one ha
 simpa [SV.mk, ha] using hc
theorem VRel.agg {M : Mem} {cs : List SV} {x : Value} (h : VRel M (.agg cs) x) : ∃ us, x = .agg us.toArray /\ CRelC M cs (ones us) := by
 obtain ⟨us, hc, rfl⟩ := h
 exact ⟨us, rfl, by simpa only [CRel] using hc⟩
def SV.flat1 : SV -> Bool
 | .bool _ | .int _ _ | .str _ | .nilp | .nili | .slice [] => true
 | _ => false
def SV.flat : SV -> Bool
 | .bool _ | .int _ _ | .str _ | .nilp | .nili | .slice [] => true
 | .agg cs => cs.all SV.flat1
 | _ => false
theorem crel_nil {M : Mem} {us : List Value} (M' : Mem) (h : CRel M (.slice []) us) : CRel M' (.slice []) us := by
 simp only [CRel] at *
 obtain ⟨a, len, cap, h1, h2, h3, h4, _⟩ := h
 exact ⟨a, len, cap, h1, h2, h3, h4, .inl (by trivial)⟩
theorem CRel.flat1 {M : Mem} {v : SV} {us : List Value} (M' : Mem) (h : CRel M v us) (hf : v.flat1 = true) : CRel M' v us := by
 cases v
 case slice xs =>
  cases xs with
  | nil => exact crel_nil M' h
  | cons => simp [SV.flat1] at hf
 all_goals (simp only [CRel] at * <;> first | exact h | simp [SV.flat1] at hf)
theorem CRelC.flat {M : Mem} (M' : Mem) : ∀ {cs : List SV} {uss : List (List Value)}, CRelC M cs uss -> cs.all SV.flat1 = true -> CRelC M' cs uss
 | [], uss, h, _ => by simpa [CRelC] using h
 | c :: cs, uss, h, hf => by
  simp only [CRelC] at *
  simp only [List.all_cons, Bool.and_eq_true] at hf
  obtain ⟨u, us, e, hc, hr⟩ := h
  exact ⟨u, us, e, hc.flat1 M' hf.1, hr.flat M' hf.2⟩
theorem CRel.flat {M : Mem} {v : SV} {us : List Value} (M' : Mem) (h : CRel M v us) (hf : v.flat = true) : CRel M' v us := by
 cases v
 case slice xs =>
  cases xs with
  | nil => exact crel_nil M' h
  | cons => simp [SV.flat] at hf
 case agg cs => simp only [SV.flat] at hf; simp only [CRel] at *; exact h.flat M' hf
 all_goals (simp only [SV.flat] at hf; first | (simp at hf; done) | (simp only [CRel] at *; exact h))
theorem VRel.flat {M : Mem} {v : SV} {x : Value} (M' : Mem) (h : VRel M v x) (hf : v.flat = true) : VRel M' v x := by
 obtain ⟨us, hc, e⟩ := h; exact ⟨us, hc.flat M' hf, e⟩
end Go.E

/- Local values and blocks, and how a state of the value semantics stands to a world. -/
namespace Go.E
open Go
inductive LV where
 | s (v : SV)
 | any
 | loc (b off : Nat)
 | sl (b off len sz : Nat) (clip : Bool)
 | full (xs : List SV)
 | agg (cs : List LV)
 | fn (f : FuncId) (first caps : List LV)
 | tup (vs : List SV)
 | mp (b : Nat)
 | yl (l : Nat)
 deriving Inhabited
inductive ABlock where
 | obj (cs : List LV)
 | row (cs : List SV)
 | frz (cs : List SV)
 | map (ks vs : List SV)
 | frzm (ks vs : List SV)
 | mit (left : List (SV × SV)) (last : Option (SV × SV))
 | gone
 deriving Inhabited
inductive Spot where
 | gone
 | empty
 | here (cb sh n : Nat)
abbrev Env := List Spot
def LV.isAgg : LV -> Bool
 | .s v => v.isAgg
 | .agg _ => true
 | _ => false
def VRelL (M : Mem) : List SV -> List Value -> Prop
 | [], xs => xs = []
 | v :: vs, xs => ∃ y ys, xs = y :: ys /\ VRel M v y /\ VRelL M vs ys
theorem VRelL.mono {M M' : Mem} (h : M.le M') : ∀ {vs : List SV} {xs : List Value}, VRelL M vs xs -> VRelL M' vs xs
 | [], _, k => k
 | v :: vs, xs, k => by
  obtain ⟨y, ys, e, h1, h2⟩ := k
  exact ⟨y, ys, e, h1.mono h, h2.mono h⟩
mutual
def LRel (M : Mem) (ρ : Env) : LV -> List Value -> Prop
 | .s v, us => CRel M v us
 | .any, us => ∀ u ∈ us, u.oneCell' = true
 | .loc b off, us => ∃ cb sh n, ρ[b]? = some (.here cb sh n) /\ us = [.pointer (some ⟨cb, sh + off, none⟩)]
 | .sl b off len sz clip, us => ∃ r a cap, ρ[b]? = some r /\ r ≠ .gone /\ us = [.slice a len cap] /\ len <= cap /\ cap <= maxLen /\ 0 < sz /\ (clip = true -> cap = len) /\
   (cap = 0 \/ ∃ cb sh n, r = .here cb sh n /\ a = some ⟨cb, sh + off, none⟩ /\ sh + off + cap * sz <= n)
 | .full xs, us => ∃ a n, us = [.slice a n n] /\ CRel M (.slice xs) us
 | .agg cs, us => LRelC M ρ cs (ones us)
 | .fn f first caps, us => ∃ fs cs, us = [.func (.func f) fs.toArray cs.toArray] /\ LRelC M ρ first (ones fs) /\ LRelC M ρ caps (ones cs)
 | .tup _, _ => False
 | .mp b, us => ∃ cb sh n, ρ[b]? = some (.here cb sh n) /\ us = [.map (some cb)]
 | .yl l, us => us = [.func (.yield l) #[] #[]]
def LRelC (M : Mem) (ρ : Env) : List LV -> List (List Value) -> Prop
 | [], uss => uss = []
 | c :: cs, uss => ∃ u us, uss = u :: us /\ LRel M ρ c u /\ LRelC M ρ cs us
end
def Env.le (ρ ρ' : Env) : Prop := ∀ (i : Nat) (r : Spot), r ≠ .gone -> ρ[i]? = some r -> ρ'[i]? = some r
theorem Env.le_refl (ρ : Env) : Env.le ρ ρ := fun _ _ _ h => h
theorem Env.le_trans {a b c : Env} (h : Env.le a b) (k : Env.le b c) : Env.le a c := fun i r g x => k i r g (h i r g x)
mutual
theorem LRel.mono {M M' : Mem} {ρ ρ' : Env} (h : M.le M') (hρ : Env.le ρ ρ') : ∀ (v : LV) (us : List Value), LRel M ρ v us -> LRel M' ρ' v us
 | .s v, us, k => by simp only [LRel] at *; exact k.mono h
 | .any, us, k => by simpa only [LRel] using k
 | .loc b off, us, k => by
  simp only [LRel] at *
  obtain ⟨cb, sh, n, h1, h2⟩ := k
  exact ⟨cb, sh, n, hρ _ _ (by simp) h1, h2⟩
 | .sl b off len sz clip, us, k => by
  simp only [LRel] at *
  obtain ⟨r, a, cap, h1, h0, h2⟩ := k
  exact ⟨r, a, cap, hρ _ _ h0 h1, h0, h2⟩
 | .full xs, us, k => by
  simp only [LRel] at *
  obtain ⟨a, n, e, h1⟩ := k
  exact ⟨a, n, e, h1.mono h⟩
 | .agg cs, us, k => by simp only [LRel] at *; exact LRelC.mono h hρ cs _ k
 | .fn f first caps, us, k => by
  simp only [LRel] at *
  obtain ⟨fs, cs, e, h1, h2⟩ := k
  exact ⟨fs, cs, e, LRelC.mono h hρ first _ h1, LRelC.mono h hρ caps _ h2⟩
 | .tup vs, us, k => by simp only [LRel] at k
 | .yl l, us, k => by simpa only [LRel] using k
 | .mp b, us, k => by
  simp only [LRel] at *
  obtain ⟨cb, sh, n, h1, h2⟩ := k
  exact ⟨cb, sh, n, hρ _ _ (by simp) h1, h2⟩
theorem LRelC.mono {M M' : Mem} {ρ ρ' : Env} (h : M.le M') (hρ : Env.le ρ ρ') : ∀ (cs : List LV) (uss : List (List Value)), LRelC M ρ cs uss -> LRelC M' ρ' cs uss
 | [], _, k => by simpa [LRelC] using k
 | c :: cs, uss, k => by
  simp only [LRelC] at *
  obtain ⟨u, us, e, hc, hr⟩ := k
  exact ⟨u, us, e, LRel.mono h hρ c u hc, LRelC.mono h hρ cs us hr⟩
end
theorem LRelC.length {M : Mem} {ρ : Env} : ∀ {cs : List LV} {uss : List (List Value)}, LRelC M ρ cs uss -> uss.length = cs.length
 | [], _, h => by simp [LRelC] at h; simp [h]
 | c :: cs, uss, h => by
  simp only [LRelC] at h
  obtain ⟨u, us, rfl, _, hr⟩ := h
  simp [hr.length]
theorem LRelC.get {M : Mem} {ρ : Env} : ∀ {cs : List LV} {uss : List (List Value)}, LRelC M ρ cs uss -> ∀ {i : Nat} {c : LV}, cs[i]? = some c -> ∃ u, uss[i]? = some u /\ LRel M ρ c u
 | [], _, _, i, c, hc => by simp at hc
 | c :: cs, uss, h, i, d, hd => by
  simp only [LRelC] at h
  obtain ⟨u, us, rfl, hc, hr⟩ := h
  cases i with
  | zero => simp at hd; subst hd; exact ⟨u, by simp, hc⟩
  | succ i => simp at hd; obtain ⟨u', h1, h2⟩ := hr.get hd; exact ⟨u', by simpa using h1, h2⟩
theorem LRelC.append {M : Mem} {ρ : Env} : ∀ {cs ds : List LV} {uss vss : List (List Value)}, LRelC M ρ cs uss -> LRelC M ρ ds vss -> LRelC M ρ (cs ++ ds) (uss ++ vss)
 | [], ds, uss, vss, h, k => by simp [LRelC] at h; subst h; simpa using k
 | c :: cs, ds, uss, vss, h, k => by
  simp only [LRelC] at h
  obtain ⟨u, us, rfl, hc, hr⟩ := h
  simp only [List.cons_append, LRelC]
  exact ⟨u, us ++ vss, rfl, hc, hr.append k⟩
theorem LRelC.drop {M : Mem} {ρ : Env} : ∀ {cs : List LV} {uss : List (List Value)} (n : Nat), LRelC M ρ cs uss -> LRelC M ρ (cs.drop n) (uss.drop n)
 | cs, uss, 0, h => by simpa using h
 | [], uss, n + 1, h => by simp [LRelC] at h; subst h; simp [LRelC]
 | c :: cs, uss, n + 1, h => by
  simp only [LRelC] at h
  obtain ⟨u, us, rfl, hc, hr⟩ := h
  simpa using hr.drop n
theorem LRelC.take {M : Mem} {ρ : Env} : ∀ {cs : List LV} {uss : List (List Value)} (n : Nat), LRelC M ρ cs uss -> LRelC M ρ (cs.take n) (uss.take n)
 | cs, uss, 0, h => by simp [LRelC]
 | [], uss, n + 1, h => by simp [LRelC] at h; subst h; simp [LRelC]
 | c :: cs, uss, n + 1, h => by
  simp only [LRelC] at h
  obtain ⟨u, us, rfl, hc, hr⟩ := h
  simp only [List.take_succ_cons, LRelC]
  exact ⟨u, us.take n, rfl, hc, hr.take n⟩
theorem LRelC.set {M : Mem} {ρ : Env} : ∀ {cs : List LV} {uss : List (List Value)} (i : Nat) {c : LV} {u : List Value}, LRelC M ρ cs uss -> LRel M ρ c u -> LRelC M ρ (cs.set i c) (uss.set i u)
 | [], uss, i, c, u, h, _ => by simp [LRelC] at h; subst h; simp [LRelC]
 | d :: cs, uss, i, c, u, h, k => by
  simp only [LRelC] at h
  obtain ⟨u', us, rfl, hc, hr⟩ := h
  cases i with
  | zero => simp only [List.set_cons_zero, LRelC]; exact ⟨u, us, rfl, k, hr⟩
  | succ i => simp only [List.set_cons_succ, LRelC]; exact ⟨u', us.set i u, rfl, hc, hr.set i k⟩
theorem lrelC_map_s {M : Mem} {ρ : Env} : ∀ {cs : List SV} {uss : List (List Value)}, LRelC M ρ (cs.map .s) uss ↔ CRelC M cs uss
 | [], uss => by simp [LRelC, CRelC]
 | c :: cs, uss => by simp only [List.map_cons, LRelC, CRelC, LRel, lrelC_map_s]
theorem LRel.one {M : Mem} {ρ : Env} {v : LV} {us : List Value} (h : LRel M ρ v us) (ha : v.isAgg = false) (hn : v ≠ .any) : ∃ x, us = [x] /\ x.cells = #[x] := by
 cases v <;> simp only [LRel] at h
 case s v => exact h.one (by simpa [LV.isAgg] using ha)
 case agg => simp [LV.isAgg] at ha
 case any => exact absurd rfl hn
 case loc => obtain ⟨cb, sh, n, _, e⟩ := h; exact ⟨_, e, rfl⟩
 case sl => obtain ⟨r, a, cap, _, _, e, _⟩ := h; exact ⟨_, e, rfl⟩
 case full => obtain ⟨a, n, e, _⟩ := h; exact ⟨_, e, rfl⟩
 case fn => obtain ⟨fs, cs, e, _⟩ := h; exact ⟨_, e, rfl⟩
 case mp => obtain ⟨cb, sh, n, _, e⟩ := h; exact ⟨_, e, rfl⟩
 case yl => exact ⟨_, h, rfl⟩
def LVal (M : Mem) (ρ : Env) (v : LV) (x : Value) : Prop :=
 v = .any \/ (∃ (vs : List SV) (xs : List Value), v = .tup vs /\ x = .tuple xs.toArray /\ VRelL M vs xs) \/ ∃ us, LRel M ρ v us /\ x = if v.isAgg then .agg us.toArray else us.headD undef
theorem LVal.mono {M M' : Mem} {ρ ρ' : Env} (h : M.le M') (hρ : Env.le ρ ρ') {v : LV} {x : Value} (k : LVal M ρ v x) : LVal M' ρ' v x := by
 rcases k with k | ⟨vs, xs, e, e', hv⟩ | ⟨us, hc, e⟩
 ·exact .inl k
 ·exact .inr (.inl ⟨vs, xs, e, e', hv.mono h⟩)
 ·exact .inr (.inr ⟨us, hc.mono h hρ, e⟩)
theorem lval_any {M : Mem} {ρ : Env} {x : Value} : LVal M ρ .any x := .inl rfl
theorem lval_s {M : Mem} {ρ : Env} {v : SV} {x : Value} : LVal M ρ (.s v) x ↔ VRel M v x := by
 constructor
 ·rintro (h | ⟨vs, xs, h, _⟩ | ⟨us, h, e⟩)
  ·cases h
  ·cases h
  ·exact ⟨us, by simpa only [LRel] using h, by simpa [SV.mk, LV.isAgg] using e⟩
 ·rintro ⟨us, h, e⟩
  exact .inr (.inr ⟨us, by simpa only [LRel] using h, by simpa [SV.mk, LV.isAgg] using e⟩)
def LV.isTup : LV -> Bool
 | .tup _ => true
 | _ => false
theorem LVal.cells {M : Mem} {ρ : Env} {v : LV} {x : Value} (h : LVal M ρ v x) (hn : v ≠ .any) (ht : v.isTup = false) : LRel M ρ v x.cells.toList := by
 rcases h with h | ⟨vs, xs, rfl, _⟩ | ⟨us, hc, rfl⟩
 ·exact absurd h hn
 ·cases ht
 ·cases ha : v.isAgg with
  | true => simpa [Value.cells] using hc
  | false =>
   obtain ⟨y, rfl, hy⟩ := hc.one ha hn
   simpa [hy] using hc
theorem LVal.one {M : Mem} {ρ : Env} {v : LV} {x : Value} (h : LVal M ρ v x) (ha : v.isAgg = false) (hn : v ≠ .any) (ht : v.isTup = false := by rfl) : LRel M ρ v [x] := by
 rcases h with h | ⟨vs, xs, rfl, _⟩ | ⟨us, hc, rfl⟩
 ·exact absurd h hn
 ·cases ht
 ·obtain ⟨y, rfl, hy⟩ := hc.one ha hn
  simpa [ha] using hc
theorem lval_of_one {M : Mem} {ρ : Env} {v : LV} {x : Value} (h : LRel M ρ v [x]) (ha : v.isAgg = false) : LVal M ρ v x := .inr (.inr ⟨[x], h, by simp [ha]⟩)
theorem LVal.agg {M : Mem} {ρ : Env} {cs : List LV} {x : Value} (h : LVal M ρ (.agg cs) x) : ∃ us, x = .agg us.toArray /\ LRelC M ρ cs (ones us) := by
 rcases h with h | ⟨vs, xs, h, _⟩ | ⟨us, hc, rfl⟩
 ·cases h
 ·cases h
 ·exact ⟨us, rfl, by simpa only [LRel] using hc⟩
theorem lval_agg {M : Mem} {ρ : Env} {cs : List LV} {us : List Value} (h : LRelC M ρ cs (ones us)) : LVal M ρ (.agg cs) (.agg us.toArray) :=
 .inr (.inr ⟨us, by simpa only [LRel] using h, by simp [LV.isAgg]⟩)
theorem LVal.tup {M : Mem} {ρ : Env} {vs : List SV} {x : Value} (h : LVal M ρ (.tup vs) x) : ∃ xs : List Value, x = .tuple xs.toArray /\ VRelL M vs xs := by
 rcases h with h | ⟨vs', xs, h, e, hv⟩ | ⟨us, hc, _⟩
 ·cases h
 ·cases h; exact ⟨xs, e, hv⟩
 ·simp only [LRel] at hc
theorem lval_tup {M : Mem} {ρ : Env} {vs : List SV} {xs : List Value} (h : VRelL M vs xs) : LVal M ρ (.tup vs) (.tuple xs.toArray) := .inr (.inl ⟨vs, xs, rfl, rfl, h⟩)
mutual
theorem LRel.oneCells {M : Mem} {ρ : Env} : ∀ (v : LV) (us : List Value), LRel M ρ v us -> ∀ u ∈ us, u.oneCell' = true
 | .s v, us, h => by simp only [LRel] at h; exact CRel.oneCells v us h
 | .any, us, h => by simpa only [LRel] using h
 | .loc b off, us, h => by simp only [LRel] at h; obtain ⟨cb, sh, n, _, rfl⟩ := h; simp [Value.oneCell']
 | .sl b off len sz clip, us, h => by simp only [LRel] at h; obtain ⟨r, a, cap, _, _, rfl, _⟩ := h; simp [Value.oneCell']
 | .full xs, us, h => by simp only [LRel] at h; obtain ⟨a, n, rfl, _⟩ := h; simp [Value.oneCell']
 | .agg cs, us, h => by simp only [LRel] at h; exact fun u hu => LRelC.oneCells cs _ h [u] (by simpa [ones] using hu) u (by simp)
 | .fn f first caps, us, h => by simp only [LRel] at h; obtain ⟨fs, cs, rfl, _⟩ := h; simp [Value.oneCell']
 | .tup vs, us, h => by simp only [LRel] at h
 | .mp b, us, h => by simp only [LRel] at h; obtain ⟨cb, sh, n, _, rfl⟩ := h; simp [Value.oneCell']
 | .yl l, us, h => by simp only [LRel] at h; subst h; simp [Value.oneCell']
theorem LRelC.oneCells {M : Mem} {ρ : Env} : ∀ (cs : List LV) (uss : List (List Value)), LRelC M ρ cs uss -> ∀ us ∈ uss, ∀ u ∈ us, u.oneCell' = true
 | [], _, h => by simp only [LRelC] at h; subst h; simp
 | c :: cs, uss, h => by
  simp only [LRelC] at h
  obtain ⟨u, us, rfl, hc, hr⟩ := h
  intro us' hus
  rcases List.mem_cons.1 hus with rfl | hus
  ·exact LRel.oneCells c _ hc
  ·exact LRelC.oneCells cs us hr us' hus
end
def FRel (M : Mem) (ρ : Env) : List LV -> List Value -> Prop
 | [], xs => xs = []
 | v :: vs, xs => ∃ y ys, xs = y :: ys /\ LVal M ρ v y /\ FRel M ρ vs ys
theorem FRel.mono {M M' : Mem} {ρ ρ' : Env} (h : M.le M') (hρ : Env.le ρ ρ') : ∀ {vs : List LV} {xs : List Value}, FRel M ρ vs xs -> FRel M' ρ' vs xs
 | [], _, k => k
 | v :: vs, xs, k => by
  obtain ⟨y, ys, e, h1, h2⟩ := k
  exact ⟨y, ys, e, h1.mono h hρ, h2.mono h hρ⟩
theorem FRel.length {M : Mem} {ρ : Env} : ∀ {vs : List LV} {xs : List Value}, FRel M ρ vs xs -> xs.length = vs.length
 | [], xs, k => by simp [FRel] at k; simp [k]
 | v :: vs, xs, k => by
  obtain ⟨y, ys, rfl, _, h2⟩ := k
  simp [h2.length]
theorem FRel.get {M : Mem} {ρ : Env} : ∀ {vs : List LV} {xs : List Value}, FRel M ρ vs xs -> ∀ {i : Nat} {v : LV}, vs[i]? = some v -> ∃ x, xs[i]? = some x /\ LVal M ρ v x
 | [], _, _, i, c, hc => by simp at hc
 | c :: cs, uss, h, i, d, hd => by
  obtain ⟨u, us, rfl, hc, hr⟩ := h
  cases i with
  | zero => simp at hd; subst hd; exact ⟨u, by simp, hc⟩
  | succ i => simp at hd; obtain ⟨u', h1, h2⟩ := hr.get hd; exact ⟨u', by simpa using h1, h2⟩
theorem FRel.set {M : Mem} {ρ : Env} : ∀ {vs : List LV} {xs : List Value} (i : Nat) {v : LV} {x : Value}, FRel M ρ vs xs -> LVal M ρ v x -> FRel M ρ (vs.set i v) (xs.set i x)
 | [], xs, i, c, u, h, _ => by simp [FRel] at h; subst h; simp [FRel]
 | d :: cs, xs, i, c, u, h, k => by
  obtain ⟨u', us, rfl, hc, hr⟩ := h
  cases i with
  | zero => exact ⟨u, us, rfl, k, hr⟩
  | succ i => exact ⟨u', us.set i u, rfl, hc, hr.set i k⟩
theorem FRel.append {M : Mem} {ρ : Env} : ∀ {vs ws : List LV} {xs ys : List Value}, FRel M ρ vs xs -> FRel M ρ ws ys -> FRel M ρ (vs ++ ws) (xs ++ ys)
 | [], ws, xs, ys, h, k => by simp [FRel] at h; subst h; simpa using k
 | v :: vs, ws, xs, ys, h, k => by
  obtain ⟨y, ys', rfl, h1, h2⟩ := h
  exact ⟨y, ys' ++ ys, rfl, h1, h2.append k⟩
theorem FRel.map {M : Mem} {ρ : Env} {M' : Mem} {ρ' : Env} (g : LV -> LV) (hg : ∀ v x, LVal M ρ v x -> LVal M' ρ' (g v) x) : ∀ {vs : List LV} {xs : List Value}, FRel M ρ vs xs -> FRel M' ρ' (vs.map g) xs
 | [], xs, h => by simpa [FRel] using h
 | v :: vs, xs, h => by
  obtain ⟨y, ys, rfl, h1, h2⟩ := h
  exact ⟨y, ys, rfl, hg _ _ h1, h2.map g hg⟩
def EntsRel (M : Mem) : List (SV × SV) -> List MapEntry -> Prop
 | [], es => es = []
 | x :: l, es => ∃ e es', es = e :: es' /\ VRel M x.1 e.key /\ VRel M x.2 e.val /\ EntsRel M l es'
theorem EntsRel.mono {M M' : Mem} (h : M.le M') : ∀ {l : List (SV × SV)} {es : List MapEntry}, EntsRel M l es -> EntsRel M' l es
 | [], _, k => k
 | x :: l, es, k => by
  obtain ⟨e, es', h1, h2, h3, h4⟩ := k
  exact ⟨e, es', h1, h2.mono h, h3.mono h, h4.mono h⟩
def MitRel (M : Mem) (left : List (SV × SV)) (last : Option (SV × SV)) (o : Option Obj) : Prop :=
 (left = [] /\ last = none /\ o = some (.mapIter none 0 #[] 0)) \/
 ∃ bm p seen, M.map bm = some p /\ wfm p /\ o = some (.mapIter (some bm) p.2 seen p.2) /\ (∃ l', l'.Perm left /\ EntsRel M l' (leftOf p.1 seen).toList) /\
  ∀ x, last = some x -> ∃ e ∈ p.1.toList, seen.back? = some e.born /\ VRel M x.1 e.key /\ VRel M x.2 e.val
theorem MitRel.mono {M M' : Mem} (h : M.le M') {left : List (SV × SV)} {last : Option (SV × SV)} {o : Option Obj} (k : MitRel M left last o) : MitRel M' left last o := by
 rcases k with k | ⟨bm, p, seen, h1, h2, h3, h4, h5⟩
 ·exact .inl k
 ·obtain ⟨l', h4, h6⟩ := h4
  refine .inr ⟨bm, p, seen, h.2 _ _ h1, h2, h3, ⟨l', h4, h6.mono h⟩, fun x hx => ?_⟩
  obtain ⟨e, he, hb, hk, hv⟩ := h5 x hx
  exact ⟨e, he, hb, hk.mono h, hv.mono h⟩
def BRel (M : Mem) (ρ : Env) (w : World) : ABlock -> Spot -> Prop
 | .obj cs, .here cb sh n => ∃ c T, w.heap[cb]? = some (.cells c T (0, 0)) /\ c.size = n /\ n = cs.length /\ sh = 0 /\ LRelC M ρ cs (ones c.toList) /\ ∀ o, M.cell cb o = none
 | .row cs, .empty => cs = []
 | .row cs, .here cb sh n => ∃ c T, w.heap[cb]? = some (.cells c T (0, 0)) /\ c.size = n /\ sh + cs.length <= n /\ CRelC M cs (ones ((c.toList.drop sh).take cs.length)) /\ ∀ o, M.cell cb o = none
 | .frz cs, .empty => cs = []
 | .frz cs, .here cb sh _ => ∃ us, CRelC M cs (ones us) /\ M.At cb sh us
 | .map ks vs, .here cb _ _ => ∃ es clock kus vus, w.heap[cb]? = some (.map es clock) /\ CRelC M ks kus /\ CRelC M vs vus /\ ks.length = vs.length /\
   es.toList.map (fun e => (e.key, e.val)) = List.zip (List.zipWith SV.mk ks kus) (List.zipWith SV.mk vs vus) /\ M.map cb = none /\ wfm (es, clock)
 | .frzm ks vs, .here cb _ _ => ∃ kus vus es, CRelC M ks kus /\ CRelC M vs vus /\ ks.length = vs.length /\ M.map cb = some es /\ ents es = List.zip (List.zipWith SV.mk ks kus) (List.zipWith SV.mk vs vus) /\ wfm es
 | .mit left last, .here cb sh _ => sh = 0 /\ MitRel M left last w.heap[cb]?
 | .gone, .gone => True
 | _, _ => False
structure SRel (M : Mem) (ρ : Env) (H : List ABlock) (w : World) : Prop where
  len : ρ.length = H.length
  blk : ∀ (i : Nat) (B : ABlock) (r : Spot), H[i]? = some B -> ρ[i]? = some r -> BRel M ρ w B r
  inj : ∀ (i j : Nat) cb sh n cb' sh' n', i ≠ j -> ρ[i]? = some (.here cb sh n) -> ρ[j]? = some (.here cb' sh' n') -> cb ≠ cb'
  lt : ∀ (i : Nat) cb sh n, ρ[i]? = some (.here cb sh n) -> cb < w.heap.size
  cells : ∀ b o v, M.cell b o = some v -> w.cell? ⟨b, o, none⟩ = some v
  maps : ∀ b es, M.map b = some es -> w.heap[b]? = some (.map es.1 es.2)
def Env.has (ρ : Env) (b : Nat) : Prop := ∃ (i sh n : Nat), ρ[i]? = some (.here b sh n)
structure Touch (ρ : Env) (w w' : World) : Prop where
  os : w'.os = w.os
  tape : w'.tape = w.tape
  output : w'.output = w.output
  drawn : w.drawn <= w'.drawn
  size : w.heap.size <= w'.heap.size
  block : ∀ k, k < w.heap.size -> ¬ ρ.has k -> w'.heap[k]? = w.heap[k]?
theorem Touch.refl (ρ : Env) (w : World) : Touch ρ w w := ⟨rfl, rfl, rfl, Nat.le_refl _, Nat.le_refl _, fun _ _ _ => rfl⟩
def Newer (ρ : Env) (w : World) (M M' : Mem) : Prop :=
 (∀ b o v, M'.cell b o = some v -> M.cell b o = some v \/ w.heap.size <= b \/ ρ.has b) /\
 (∀ b es, M'.map b = some es -> M.map b = some es \/ w.heap.size <= b \/ ρ.has b)
theorem Newer.refl (ρ : Env) (w : World) (M : Mem) : Newer ρ w M M := ⟨fun _ _ _ h => .inl h, fun _ _ h => .inl h⟩
def _root_.Go.Obj.isOther : Obj -> Bool
 | .loop _ => true
 | .deferred _ => true
 | _ => false
def NoA : Nat -> Obj -> Prop := fun _ _ => False
structure MInv (A : Nat -> Obj -> Prop) (n0 : Nat) (M0 : Mem) (ρ0 : Env) (w0 : World) (M : Mem) (ρ : Env) (H : List ABlock) (w : World) : Prop where
  rel : SRel M ρ H w
  mem : M0.le M
  nle : n0 <= ρ0.length
  len : ρ0.length <= ρ.length
  env : ∀ i r, i < n0 -> r ≠ .gone -> ρ0[i]? = some r -> ρ[i]? = some r
  gon : ∀ i, i < ρ0.length -> ρ0[i]? = some .gone -> ρ[i]? = some .gone
  touch : Touch ρ0 w0 w
  newer : Newer ρ0 w0 M0 M
  fresh : ∀ i cb sh n, n0 <= i -> ρ[i]? = some (.here cb sh n) -> ρ0.has cb \/ w0.heap.size <= cb
  alien : ∀ k o, A k o -> w.heap[k]? = some o /\ o.isOther = true /\ ¬ ρ.has k
def CSem (P : Program) (f : FuncId) (args : List LV) (H : List ABlock) (r : LV) (H' : List ABlock) : Prop :=
 ∀ (M : Mem) (ρ : Env) (w : World) (vs : List Value), SRel M ρ H w -> FRel M ρ args vs ->
  Calls P f vs.toArray w fun e w' => ∃ v M' ρ', e = .returned v /\ MInv NoA ρ.length M ρ w M' ρ' H' w' /\ LVal M' ρ' r v
end Go.E

/- The code of the value semantics, and what it does. -/
namespace Go.E
open Go
/-! ### Frames -/
def fget : List LV -> Nat -> LV
 | [], _ => .any
 | v :: _, 0 => v
 | _ :: vs, n + 1 => fget vs n
def fset : List LV -> Nat -> LV -> List LV
 | [], _, _ => []
 | _ :: vs, 0, x => x :: vs
 | v :: vs, n + 1, x => v :: fset vs n x
def fmask : List Bool -> List LV -> List LV
 | true :: m, v :: vs => v :: fmask m vs
 | false :: m, _ :: vs => .any :: fmask m vs
 | [], vs => vs
 | _, [] => []
/-! References to some blocks are forgotten. -/
mutual
def fgt (p : Nat -> Bool) : LV -> LV
 | .loc b off => if p b then .any else .loc b off
 | .sl b off len sz clip => if p b then .any else .sl b off len sz clip
 | .mp b => if p b then .any else .mp b
 | .yl l => .yl l
 | .agg cs => .agg (fgtL p cs)
 | .fn f first caps => .fn f (fgtL p first) (fgtL p caps)
 | .s v => .s v
 | .any => .any
 | .full xs => .full xs
 | .tup vs => .tup vs
def fgtL (p : Nat -> Bool) : List LV -> List LV
 | [] => []
 | c :: cs => fgt p c :: fgtL p cs
end
def fgtB (p : Nat -> Bool) : ABlock -> ABlock
 | .obj cs => .obj (fgtL p cs)
 | b => b
/-! ### What a value reads as -/
def frzAll (g : LV -> Option SV) : List LV -> Option (List SV)
 | [] => some []
 | c :: cs => match g c with
  | some a => match frzAll g cs with
   | some as => some (a :: as)
   | none => none
  | none => none
def chunk (sz : Nat) : Nat -> List SV -> List SV
 | 0, _ => []
 | n + 1, cs => .agg (cs.take sz) :: chunk sz n (cs.drop sz)
def elems (sz n : Nat) (cs : List SV) : List SV := if sz = 1 then cs.take n else chunk sz n cs
def frzV (H : List ABlock) : Nat -> LV -> Option SV
 | 0, _ => none
 | n + 1, v => match v with
  | .s v => some v
  | .full xs => some (.slice xs)
  | .any => none
  | .tup _ => none
  | .agg cs => (frzAll (frzV H n) cs).map .agg
  | .fn f first caps => match frzAll (frzV H n) first, frzAll (frzV H n) caps with
   | some a, some b => some (.fn f a b)
   | _, _ => none
  | .loc b off => match H[b]? with
   | some (.obj cs) => match frzAll (frzV H n) cs with
    | some cs => if off <= cs.length then some (.ptr (cs.drop off)) else none
    | none => none
   | some (.row cs) | some (.frz cs) => if off <= cs.length then some (.ptr (cs.drop off)) else none
   | _ => none
  | .sl b off len sz _ => match H[b]? with
   | some (.obj cs) => match frzAll (frzV H n) cs with
    | some cs => if off + len * sz <= cs.length then some (.slice (elems sz len (cs.drop off))) else none
    | none => none
   | some (.row cs) | some (.frz cs) => if off + len * sz <= cs.length then some (.slice (elems sz len (cs.drop off))) else none
   | _ => none
  | .yl _ => none
  | .mp b => match H[b]? with
   | some (.map ks vs) | some (.frzm ks vs) => some (.map ks vs)
   | _ => none
def frz (H : List ABlock) (v : LV) : Option SV := frzV H 4 v
def blkCells (g : LV -> Option SV) : Option ABlock -> Option (List SV)
 | some (.obj cs) => frzAll g cs
 | some (.row cs) => some cs
 | some (.frz cs) => some cs
 | _ => none
def SV.cells : SV -> List SV
 | .agg cs => cs
 | v => [v]
def LV.cells : LV -> Option (List LV)
 | .s v => some (v.cells.map .s)
 | .agg cs => some cs
 | .any => none
 | .tup _ => none
 | v => some [v]
def LV.isOne : LV -> Bool
 | .s v => !v.isAgg
 | .agg _ => false
 | .any => false
 | .tup _ => false
 | _ => true
def LV.ofResults : List SV -> LV
 | [v] => .s v
 | vs => .tup vs
/-! ### The kinds of stable values, for '==' -/
inductive Tag where
 | bool | int (k : IntKind) | str | other
 deriving DecidableEq
def SV.tag : SV -> Tag
 | .bool _ => .bool
 | .int k _ => .int k
 | .str _ => .str
 | _ => .other
def eqOk (ts : List Tag) : Bool -> SV -> SV -> Prop
 | true, .agg cs, .agg ds => cs.map SV.tag = ts /\ ds.map SV.tag = ts
 | false, a, b => [a.tag] = ts /\ [b.tag] = ts
 | _, _, _ => False
def inR (k : IntKind) (n : Int) : Prop := k.wrap n = n
/-! ### Operations -/
inductive AX where
 | t (n : Nat)
 | c (v : LV)
def AX.ev (fr : List LV) : AX -> LV
 | .t n => fget fr n
 | .c v => v
inductive AOp where
 | mov (x : AX)
 | pick (c a b : AX)
 | alloc (cells : List LV)
 | boxM (x : AX)
 | boxS (x : AX)
 | build (zero : List LV) (parts : List (Nat × Nat × AX))
 | buildSl (sz n : Nat) (zero : SV) (parts : List (Nat × AX))
 | load (n : Nat) (agg : Bool) (a : AX)
 | store (n : Nat) (a x : AX)
 | nilck (x : AX)
 | arith (op : BinOp) (x y : AX)
 | cmp (op : BinOp) (x y : AX)
 | bits (op : BinOp) (x y : AX)
 | div (op : BinOp) (x y : AX)
 | shift (op : BinOp) (x y : AX)
 | eql (ag : Bool) (ts : List Tag) (ne : Bool) (x y : AX)
 | not (x : AX)
 | neg (x : AX)
 | conv (k : IntKind) (x : AX)
 | mkfn (f : FuncId) (first caps : List AX)
 | slice (sz : Nat) (x : AX) (lo hi mx : Option AX)
 | sliceArr (n sz : Nat) (x : AX) (lo hi : Option AX)
 | fieldAddr (off : Nat) (x : AX)
 | field (off n : Nat) (agg : Bool) (x : AX)
 | idxA (sz : Nat) (x i : AX)
 | idxArrA (n sz : Nat) (x i : AX)
 | idx (n sz : Nat) (agg : Bool) (x i : AX)
 | ext (x : AX) (j : Nat)
 | call (f : FuncId) (args : List AX)
 | callv (f : AX) (args : List AX)
 | len (st : Bool) (x : AX)
 | lenArr (n : Nat)
 | append (sz bytes : Nat) (s x : AX)
 | appendN (sz bytes : Nat) (s x : AX)
 | eqNil (ne : Bool) (x : AX)
 | callI (f : FuncId) (args : List AX)
 | callN (sz : Nat) (f : FuncId) (args : List AX)
 | copy (sz : Nat) (d s : AX)
 | clear (sz : Nat) (zero : List SV) (d : AX)
 | max (args : List AX)
 | min (args : List AX)
 | mkslice (sz bytes : Nat) (zero : List SV) (l c : AX)
 | loadO (n : Nat) (agg : Bool) (a : AX)
 | loadX (n : Nat) (agg : Bool) (a : AX) (r : Nat)
 | storeR (n : Nat) (a x : AX)
 | callF (f : FuncId) (s : AX) (args : List AX)
 | frzv (x : AX)
 | appendZ (sz bytes : Nat) (s x : AX)
 | mkmap
 | mget (c : Bool) (ts : List Tag) (zero : SV) (m k : AX)
 | mset (ts : List Tag) (m k x : AX)
 | mdel (ts : List Tag) (m k : AX)
 | mlen (m : AX)
 | sidx (x i : AX)
 | rangeM (m : AX)
 | nextM (it : AX)
 | entryM (it : AX)
 | callR (f : FuncId) (args : List AX)
 | loadS (n : Nat) (agg : Bool) (a : AX)
 | dead
 | buildR (sz n : Nat) (zero : SV) (parts : List (Nat × AX))
structure AOper where
  dst : Option Nat
  guard : Option (Nat × Bool)
  op : AOp
abbrev AK := LV -> List ABlock -> Option Nat -> Prop -> Prop
def fills : List LV -> List (Nat × Nat × LV) -> Option (List LV)
 | z, [] => some z
 | z, (off, n, v) :: ps => match v.cells with
  | some cs => if cs.length = n /\ off + n <= z.length then fills (z.take off ++ cs ++ z.drop (off + n)) ps else none
  | none => none
def splice {α : Type} (l : List α) (off : Nat) (xs : List α) : List α := l.take off ++ xs ++ l.drop (off + xs.length)
def optEv (fr : List LV) : Option AX -> Option LV
 | some x => some (x.ev fr)
 | none => none
def exO {α : Type} (o : Option α) (f : α -> Prop) : Prop :=
 match o with
 | some a => f a
 | none => False
def boolK (b : Bool) (H : List ABlock) (k : AK) : Prop := k (.s (.bool b)) H none True
def intK (K : IntKind) (n : Int) (H : List ABlock) (k : AK) : Prop := k (.s (.int K n)) H none True
def partS (H : List ABlock) (cs : List SV) (off n : Nat) (k : AK) : Bool -> Prop
 | true => off + n <= cs.length /\ k (.s (.agg ((cs.drop off).take n))) H none True
 | false => exO cs[off]? fun c => c.isAgg = false /\ k (.s c) H none True
def partL (H : List ABlock) (cs : List LV) (off n : Nat) (k : AK) : Bool -> Prop
 | true => off + n <= cs.length /\ k (.agg ((cs.drop off).take n)) H none True
 | false => exO cs[off]? fun c => c.isAgg = false /\ k c H none True
def ldB (H : List ABlock) (off n : Nat) (agg : Bool) (k : AK) : Option ABlock -> Prop
 | some (.obj cs) => partL H cs off n k agg
 | some (.row cs) => partS H cs off n k agg
 | some (.frz cs) => partS H cs off n k agg
 | _ => False
def ldK (H : List ABlock) (n : Nat) (agg : Bool) (k : AK) : LV -> Prop
 | .s (.ptr cs) => partS H cs 0 n k agg
 | .loc b off => ldB H off n agg k H[b]?
 | _ => False
def ldSK (H : List ABlock) (n : Nat) (agg : Bool) (k : AK) : LV -> Prop
 | .s (.ptr cs) => partS H cs 0 n k agg
 | _ => False
def stB (H : List ABlock) (b off n : Nat) (x : LV) (k : AK) : Option ABlock -> Prop
 | some (.obj cs) => exO x.cells fun xs => xs.length = n /\ off + n <= cs.length /\ k (.tup []) (H.set b (.obj (splice cs off xs))) none True
 | some (.row cs) => exO (frz [] x) fun v => v.cells.length = n /\ off + n <= cs.length /\ k (.tup []) (H.set b (.row (splice cs off v.cells))) none True
 | _ => False
def stK (H : List ABlock) (n : Nat) (x : LV) (k : AK) : LV -> Prop
 | .loc b off => stB H b off n x k H[b]?
 | _ => False
def bsplit (A B : Prop) : Bool -> Prop
 | true => A
 | false => B
def pickK (H : List ABlock) (a b : LV) (k : AK) : LV -> Prop
 | .s (.bool t) => bsplit (k a H none True) (k b H none True) t
 | _ => False
def nilckK (H : List ABlock) (k : AK) : LV -> Prop
 | .s (.ptr cs) => k (.s (.ptr cs)) H none True
 | .loc b off => k (.loc b off) H none True
 | _ => False
def arithI (H : List ABlock) (K : IntKind) (a b : Int) (k : AK) : BinOp -> Prop
 | .add => inR K (a + b) /\ intK K (a + b) H k
 | .sub => inR K (a - b) /\ intK K (a - b) H k
 | .mul => inR K (a * b) /\ intK K (a * b) H k
 | _ => False
def arithK (H : List ABlock) (op : BinOp) (k : AK) : LV -> LV -> Prop
 | .s (.int K a), .s (.int K' b) => K = K' /\ arithI H K a b k op
 | _, _ => False
def divI (H : List ABlock) (K : IntKind) (a b : Int) (k : AK) : BinOp -> Prop
 | .quo => inR K (a.tdiv b) /\ intK K (a.tdiv b) H k
 | .rem => intK K (a.tmod b) H k
 | _ => False
def divK (H : List ABlock) (op : BinOp) (k : AK) : LV -> LV -> Prop
 | .s (.int K a), .s (.int K' b) => K = K' /\ b ≠ 0 /\ divI H K a b k op
 | _, _ => False
def bitOf (K : IntKind) (a b : Int) : BinOp -> Int
 | .and => K.wrap ((BitVec.ofInt K.bits a &&& BitVec.ofInt K.bits b).toNat : Int)
 | .or => K.wrap ((BitVec.ofInt K.bits a ||| BitVec.ofInt K.bits b).toNat : Int)
 | .xor => K.wrap ((BitVec.ofInt K.bits a ^^^ BitVec.ofInt K.bits b).toNat : Int)
 | _ => K.wrap ((BitVec.ofInt K.bits a &&& ~~~ BitVec.ofInt K.bits b).toNat : Int)
def bitsK (H : List ABlock) (op : BinOp) (k : AK) : LV -> LV -> Prop
 | .s (.int K a), .s (.int K' b) => K = K' /\ intK K (bitOf K a b op) H k
 | _, _ => False
def shiftI (H : List ABlock) (K : IntKind) (a b : Int) (k : AK) : BinOp -> Prop
 | .shl => inR K (a * 2 ^ b.toNat) /\ intK K (a * 2 ^ b.toNat) H k
 | .shr => intK K (a.fdiv (2 ^ b.toNat)) H k
 | _ => False
def shiftK (H : List ABlock) (op : BinOp) (k : AK) : LV -> LV -> Prop
 | .s (.int K a), .s (.int _ b) => 0 <= b /\ b < K.bits /\ shiftI H K a b k op
 | _, _ => False
def cmpI (H : List ABlock) (a b : Int) (k : AK) : BinOp -> Prop
 | .lss => boolK (decide (a < b)) H k
 | .leq => boolK (decide (a <= b)) H k
 | .gtr => boolK (decide (b < a)) H k
 | .geq => boolK (decide (b <= a)) H k
 | .eql => boolK (decide (a = b)) H k
 | .neq => boolK (!decide (a = b)) H k
 | _ => False
def cmpK (H : List ABlock) (op : BinOp) (k : AK) : LV -> LV -> Prop
 | .s (.int K a), .s (.int K' b) => K = K' /\ cmpI H a b k op
 | _, _ => False
open Classical in
noncomputable def eqlR (H : List ABlock) (a b : SV) (k : AK) : Bool -> Prop
 | true => boolK (!decide (a = b)) H k
 | false => boolK (decide (a = b)) H k
noncomputable def eqlK (H : List ABlock) (ag : Bool) (ts : List Tag) (ne : Bool) (k : AK) (x y : LV) : Prop :=
 exO (frz H x) fun a => exO (frz H y) fun b => eqOk ts ag a b /\ eqlR H a b k ne
def notK (H : List ABlock) (k : AK) : LV -> Prop
 | .s (.bool b) => boolK (!b) H k
 | _ => False
def negK (H : List ABlock) (k : AK) : LV -> Prop
 | .s (.int K n) => inR K (0 - n) /\ intK K (-n) H k
 | _ => False
def convK (H : List ABlock) (K : IntKind) (k : AK) : LV -> Prop
 | .s (.int _ n) => inR K n /\ intK K n H k
 | _ => False
def boundOf (d : Nat) : Option LV -> Option Nat
 | none => some d
 | some (.s (.int _ n)) => if 0 <= n then some n.toNat else none
 | _ => none
def sliceM (H : List ABlock) (h : Nat) (a b : LV) (k : AK) : Option LV -> Prop
 | none => k a H none True
 | some m => boundOf 0 (some m) = some h /\ k b H none True
def szAt (sz l : Nat) (xs : List SV) : Prop := l = 0 \/ ∀ e ∈ xs, e.cells.length = sz
open Classical in
noncomputable def sliceK (H : List ABlock) (sz : Nat) (lo hi mx : Option LV) (k : AK) : LV -> Prop
 | .s (.slice xs) => exO (boundOf 0 lo) fun l => exO (boundOf xs.length hi) fun h => l <= h /\ h <= xs.length /\ szAt sz l xs /\
   sliceM H h (.s (.slice ((xs.drop l).take (h - l)))) (.full ((xs.drop l).take (h - l))) k mx
 | .full xs => exO (boundOf 0 lo) fun l => exO (boundOf xs.length hi) fun h => l <= h /\ h <= xs.length /\ szAt sz l xs /\
   sliceM H h (if h = xs.length then .full (xs.drop l) else .s (.slice ((xs.drop l).take (h - l)))) (.full ((xs.drop l).take (h - l))) k mx
 | .sl b off len sz' clip => sz = sz' /\ exO (boundOf 0 lo) fun l => exO (boundOf len hi) fun h => l <= h /\ h <= len /\
   sliceM H h (.sl b (off + l * sz) (h - l) sz (clip && decide (h = len))) (.sl b (off + l * sz) (h - l) sz true) k mx
 | _ => False
def arrFits (n : Nat) : Option ABlock -> Prop
 | some (.obj cs) => n <= cs.length
 | some (.row cs) => n <= cs.length
 | _ => False
noncomputable def sliceArrK (H : List ABlock) (n sz : Nat) (lo hi : Option LV) (k : AK) (x : LV) : Prop :=
  exO (boundOf 0 lo) fun l => exO (boundOf n hi) fun h => l <= h /\ h <= n /\ 0 < n /\ 0 < sz /\ n <= maxLen /\
  match x with
   | .s (.ptr cs) => n * sz <= cs.length /\ k (if h = n then .full (elems sz (h - l) (cs.drop (l * sz))) else .s (.slice (elems sz (h - l) (cs.drop (l * sz))))) H none True
   | .loc b off => arrFits (off + n * sz) H[b]? /\ k (.sl b (off + l * sz) (h - l) sz (decide (h = n))) H none True
   | _ => False
def idxAI (H : List ABlock) (sz : Nat) (n : Int) (k : AK) : LV -> Prop
 | .s (.slice xs) => exO xs[n.toNat]? fun e => e.cells.length = sz /\ k (.s (.ptr e.cells)) H none True
 | .full xs => exO xs[n.toNat]? fun e => e.cells.length = sz /\ k (.s (.ptr e.cells)) H none True
 | .sl b off len sz' _ => sz = sz' /\ n < len /\ k (.loc b (off + n.toNat * sz)) H none True
 | _ => False
def idxAK (H : List ABlock) (sz : Nat) (x : LV) (k : AK) : LV -> Prop
 | .s (.int _ n) => 0 <= n /\ idxAI H sz n k x
 | _ => False
def idxArrAI (H : List ABlock) (sz : Nat) (n : Int) (k : AK) : LV -> Prop
 | .s (.ptr cs) => n.toNat * sz <= cs.length /\ k (.s (.ptr (cs.drop (n.toNat * sz)))) H none True
 | .loc b off => k (.loc b (off + n.toNat * sz)) H none True
 | _ => False
def idxArrAK (H : List ABlock) (m sz : Nat) (x : LV) (k : AK) : LV -> Prop
 | .s (.int _ n) => 0 <= n /\ n < m /\ idxArrAI H sz n k x
 | _ => False
def fieldAddrK (H : List ABlock) (off : Nat) (k : AK) : LV -> Prop
 | .s (.ptr cs) => off <= cs.length /\ k (.s (.ptr (cs.drop off))) H none True
 | .loc b o => k (.loc b (o + off)) H none True
 | _ => False
def partK (H : List ABlock) (off n : Nat) (agg : Bool) (k : AK) : LV -> Prop
 | .s (.agg cs) => partS H cs off n k agg
 | .agg cs => partL H cs off n k agg
 | _ => False
def idxK (H : List ABlock) (m sz : Nat) (agg : Bool) (x : LV) (k : AK) : LV -> Prop
 | .s (.int _ n) => 0 <= n /\ n < m /\ partK H (n.toNat * sz) sz agg k x
 | _ => False
def extK (H : List ABlock) (j : Nat) (k : AK) : LV -> Prop
 | .tup vs => exO vs[j]? fun v => k (.s v) H none True
 | _ => False
def lenK (H : List ABlock) (k : AK) : Bool -> LV -> Prop
 | false, .s (.slice xs) => k (.s (.int .i64 xs.length)) H none (xs.length <= maxLen)
 | false, .full xs => k (.s (.int .i64 xs.length)) H none (xs.length <= maxLen)
 | false, .sl _ _ len _ _ => k (.s (.int .i64 len)) H none (len <= maxLen)
 | true, .s (.str s) => k (.s (.int .i64 s.size)) H none True
 | _, _ => False
def rowOf (off len sz : Nat) (cs : List SV) : Option (List SV) := if off + len * sz <= cs.length then some (elems sz len (cs.drop off)) else none
def elemsOf (H : List ABlock) : LV -> Option (List SV)
 | .s (.slice xs) => some xs
 | .full xs => some xs
 | .sl b off len sz _ => (blkCells (frz []) H[b]?).bind (rowOf off len sz)
 | _ => none
def flatE (xs : List SV) : List SV := (xs.map SV.cells).flatten
def newRowK (H : List ABlock) (id sz : Nat) (s : LV) (xs ys : List SV) (k : AK) : Prop :=
 (ys = [] -> k s H none True) /\ (ys ≠ [] -> H[id]? = some .gone /\ k (.sl id 0 (xs.length + ys.length) sz false) (H.set id (.row (flatE (xs ++ ys)))) none True)
def fitsE (sz bytes : Nat) (xs ys : List SV) : Prop :=
 (∀ y ∈ xs, y.cells.length = sz) /\ (∀ y ∈ ys, y.cells.length = sz) /\ (xs.length + ys.length) * bytes <= 2 ^ 46 /\ xs.length + ys.length < 2 ^ 60 /\ 0 < sz
def appendNK (H : List ABlock) (id sz bytes : Nat) (x : LV) (k : AK) : LV -> Prop
 | .full xs => exO (elemsOf H x) fun ys => fitsE sz bytes xs ys /\ newRowK H id sz (.full xs) xs ys k
 | .sl b off len sz' true => sz = sz' /\ exO (elemsOf H x) fun ys => exO (elemsOf H (.sl b off len sz' true)) fun xs => fitsE sz bytes xs ys /\
   newRowK H id sz (.sl b off len sz' true) xs ys k
 | _ => False
def appendB (H : List ABlock) (b off len sz bytes : Nat) (ys : List SV) (k : AK) : Option ABlock -> Prop
 | some (.row cs) => off + len * sz = cs.length /\ (len + ys.length) * bytes <= 2 ^ 46 /\ len + ys.length < 2 ^ 60 /\
   k (.sl b 0 (len + ys.length) sz false) (H.set b (.row (cs.drop off ++ flatE ys))) (some b) True
 | _ => False
def appendK0 (H : List ABlock) (n0 id sz bytes : Nat) (x : LV) (k : AK) : LV -> Prop
 | .sl b off len sz' false => sz = sz' /\ n0 <= b /\ exO (elemsOf H x) fun ys => (∀ y ∈ ys, y.cells.length = sz) /\ appendB H b off len sz bytes ys k H[b]?
 | .sl b off len sz' true => appendNK H id sz bytes x k (.sl b off len sz' true)
 | .full xs => appendNK H id sz bytes x k (.full xs)
 | _ => False
def unclip (n0 : Nat) : LV -> LV
 | .sl b off len sz true => if n0 <= b then .sl b off len sz false else .sl b off len sz true
 | v => v
def appendK (H : List ABlock) (n0 id sz bytes : Nat) (x : LV) (k : AK) (v : LV) : Prop := appendK0 H n0 id sz bytes x k (unclip n0 v)
theorem LVal.unclip {M : Mem} {ρ : Env} {v : LV} {y : Value} (n0 : Nat) (h : LVal M ρ v y) : LVal M ρ (unclip n0 v) y := by
 unfold E.unclip
 split
 ·rename_i b off len sz
  split
  ·rcases h with h | ⟨vs, xs, e, _⟩ | ⟨us, h1, h2⟩
   ·cases h
   ·cases e
   ·refine .inr (.inr ⟨us, ?_, h2⟩)
    simp only [LRel] at h1 ⊢
    obtain ⟨r, a, cap, g1, g2, g3, g4, g5, g6, _, g7⟩ := h1
    exact ⟨r, a, cap, g1, g2, g3, g4, g5, g6, fun e => (by cases e), g7⟩
  ·exact h
 ·exact h
def copyB (H : List ABlock) (b off len sz : Nat) (ys : List SV) (k : AK) : Option ABlock -> Prop
 | some (.row cs) => off + len * sz <= cs.length /\ k (.s (.int .i64 (Nat.min ys.length len : Nat))) (H.set b (.row (splice cs off (flatE (ys.take len))))) none True
 | some (.obj cs) => off + len * sz <= cs.length /\ k (.s (.int .i64 (Nat.min ys.length len : Nat))) (H.set b (.obj (splice cs off ((flatE (ys.take len)).map .s)))) none True
 | _ => False
def copyK (H : List ABlock) (sz : Nat) (s : LV) (k : AK) : LV -> Prop
 | .sl b off len sz' _ => sz = sz' /\ exO (elemsOf H s) fun ys => (∀ y ∈ ys, y.cells.length = sz) /\ copyB H b off len sz ys k H[b]?
 | .full [] => exO (elemsOf H s) fun _ => k (.s (.int .i64 0)) H none True
 | _ => False
def clearB (H : List ABlock) (b off len sz : Nat) (zero : List SV) (k : AK) : Option ABlock -> Prop
 | some (.row cs) => off + len * sz <= cs.length /\ k (.tup []) (H.set b (.row (splice cs off (List.replicate len zero).flatten))) none True
 | some (.obj cs) => off + len * sz <= cs.length /\ k (.tup []) (H.set b (.obj (splice cs off ((List.replicate len zero).flatten.map .s)))) none True
 | _ => False
def clearK (H : List ABlock) (sz : Nat) (zero : List SV) (k : AK) : LV -> Prop
 | .sl b off len sz' _ => sz = sz' /\ zero.length = sz /\ clearB H b off len sz zero k H[b]?
 | .full [] => k (.tup []) H none True
 | _ => False
def kindOf : List LV -> IntKind
 | .s (.int K _) :: _ => K
 | _ => .i64
def intsOf (K : IntKind) : List LV -> Option (List Int)
 | [] => some []
 | .s (.int K' n) :: vs => if K' = K then (match intsOf K vs with
  | some ns => some (n :: ns)
  | none => none) else none
 | _ => none
def maxL : List Int -> Int
 | [] => 0
 | n :: ns => ns.foldl (fun a b => if b > a then b else a) n
def minL : List Int -> Int
 | [] => 0
 | n :: ns => ns.foldl (fun a b => if b < a then b else a) n
def mksliceK (H : List ABlock) (id sz bytes : Nat) (zero : List SV) (k : AK) : LV -> LV -> Prop
 | .s (.int .i64 n), .s (.int .i64 m) => 0 <= n /\ n <= m /\ m * bytes <= 2 ^ 46 /\ m < 2 ^ 60 /\ zero.length = sz /\ 0 < sz /\
   H[id]? = some .gone /\ k (.sl id 0 n.toNat sz (decide (n = m))) (H.set id (.row (List.replicate n.toNat zero).flatten)) none True
 | _, _ => False
def eqNilK (H : List ABlock) (ne : Bool) (k : AK) : Option (List SV) -> Prop
 | some xs => (xs = [] -> boolK (!ne) H k) /\ boolK ne H k
 | none => False
def retOf : List Value -> Value
 | [x] => x
 | xs => .tuple xs.toArray
def Holds (M : Mem) (w : World) : Prop :=
 (∀ b o v, M.cell b o = some v -> w.cell? ⟨b, o, none⟩ = some v) /\
 (∀ b es, M.map b = some es -> w.heap[b]? = some (.map es.1 es.2))
def Fn (P : Program) (f : FuncId) (args rs : List SV) : Prop :=
 ∀ (M : Mem) (w : World) (vs : List Value), Holds M w -> VRelL M args vs ->
  Calls P f vs.toArray w fun e w' => ∃ xs M', e = .returned (retOf xs) /\ M.le M' /\ Holds M' w' /\ VRelL M' rs xs /\ Touch [] w w' /\ Newer [] w M M'
def callK (P : Program) (H : List ABlock) (f : FuncId) (args : List LV) (k : AK) : Prop :=
 ∃ as rs, frzAll (frz H) args = some as /\ Fn P f as rs /\ (rs.all SV.flat = true \/ frzAll (frz []) args = some as) /\ k (LV.ofResults rs) H none True
def FnNew (P : Program) (f : FuncId) (sz : Nat) (args : List LV) (xs : List SV) : Prop :=
 ∀ (M : Mem) (w : World) (vs : List Value), Holds M w -> FRel M [] args vs ->
  Calls P f vs.toArray w fun e w' => ∃ a cap M', e = .returned (.slice a xs.length cap) /\ M.le M' /\ Holds M' w' /\ Touch [] w w' /\ Newer [] w M M' /\ xs.length <= cap /\ cap <= maxLen /\ (xs = [] -> cap = 0) /\
   (cap = 0 \/ ∃ cb sh c T, a = some ⟨cb, sh, none⟩ /\ w.heap.size <= cb /\ w'.heap[cb]? = some (.cells c T (0, 0)) /\ sh + cap * sz <= c.size /\ (∀ o, M'.cell cb o = none) /\
    CRelC M' (flatE xs) (ones ((c.toList.drop sh).take (flatE xs).length)))
def LV.isSF : LV -> Bool
 | .s _ | .full _ => true
 | _ => false
def argsN (args as : List LV) : Prop := (as = args /\ args.all LV.isSF = true) \/ ∃ vs, frzAll (frz []) args = some vs /\ as = vs.map .s
def callNK (P : Program) (H : List ABlock) (id sz : Nat) (f : FuncId) (args : List LV) (k : AK) : Prop :=
 ∃ as xs, FnNew P f sz as xs /\ argsN args as /\ 0 < sz /\ (∀ x ∈ xs, x.cells.length = sz) /\
  H[id]? = some .gone /\ (if xs = [] then k (.full []) H none True else k (.sl id 0 xs.length sz false) (H.set id (.row (flatE xs))) none True)
def okFn (P : Program) (f : FuncId) : Bool :=
 match P.funcs[f]? with
 | some fn => fn.body.isSome && !(fn.name == "runtime.NumGoroutine")
 | none => false
def callvK (P : Program) (H : List ABlock) (args : List LV) (k : AK) : LV -> Prop
 | .s (.fn g first caps) => okFn P g = true /\ ((first.map LV.s).all LV.isOne && (caps.map LV.s).all LV.isOne) = true /\ callK P H g (first.map .s ++ args ++ caps.map .s) k
 | .fn g first caps => okFn P g = true /\ (first.all LV.isOne && caps.all LV.isOne) = true /\ callK P H g (first ++ args ++ caps) k
 | _ => False
def ldOB (H : List ABlock) (off n : Nat) (agg : Bool) (k : AK) : Option ABlock -> Prop
 | some (.obj cs) => partL H cs off n k agg
 | _ => False
def ldOK (H : List ABlock) (n : Nat) (agg : Bool) (k : AK) : LV -> Prop
 | .s (.ptr cs) => partS H cs 0 n k agg
 | .loc b off => ldOB H off n agg k H[b]?
 | _ => False
def stRB (H : List ABlock) (b off n : Nat) (x : LV) (k : AK) : Option ABlock -> Prop
 | some (.row cs) => exO (frz [] x) fun v => v.cells.length = n /\ off + n <= cs.length /\ k (.tup []) (H.set b (.row (splice cs off v.cells))) none True
 | _ => False
def stRK (H : List ABlock) (n : Nat) (x : LV) (k : AK) : LV -> Prop
 | .loc b off => stRB H b off n x k H[b]?
 | _ => False
def callFB (P : Program) (H : List ABlock) (f : FuncId) (b off len sz : Nat) (clip : Bool) (args : List LV) (k : AK) : Option ABlock -> Prop
 | some (.row cs) => ∃ as cs' o' l' c' ys, frzAll (frz (H.set b .gone)) args = some as /\ CSem P f (.sl 0 off len sz clip :: as.map .s) [.row cs] (.sl 0 o' l' sz c') [.row cs'] /\
   rowOf o' l' sz cs' = some ys /\ cs'.all SV.flat1 = true /\ k (.s (.slice ys)) (H.set b (.frz cs')) none True
 | _ => False
def callFK (P : Program) (H : List ABlock) (f : FuncId) (args : List LV) (k : AK) : LV -> Prop
 | .sl b off len sz clip => callFB P H f b off len sz clip args k H[b]?
 | .full xs => callK P H f (.full xs :: args) k
 | .s v => callK P H f (.s v :: args) k
 | _ => False
def frzvB (H : List ABlock) (b off len sz : Nat) (k : AK) : Option ABlock -> Prop
 | some (.row cs) => ∃ ys, rowOf off len sz cs = some ys /\ k (.s (.slice ys)) (H.set b (.frz cs)) none True
 | _ => False
def frzvK (H : List ABlock) (k : AK) : LV -> Prop
 | .sl b off len sz _ => frzvB H b off len sz k H[b]?
 | .full xs => k (.s (.slice xs)) H none True
 | .s v => k (.s v) H none True
 | _ => False
/-! Maps whose keys are structs of numbers. -/
open Classical in
noncomputable def mFind (kv : SV) : List SV -> Option Nat
 | [] => none
 | k :: ks => if kv = k then some 0 else (mFind kv ks).map (· + 1)
def keyOk (ts : List Tag) (kv : SV) (ks : List SV) : Prop := eqOk ts true kv kv /\ ∀ x ∈ ks, eqOk ts true kv x
def mgetV (H : List ABlock) (c : Bool) (v : SV) (ok : Bool) (k : AK) : Prop :=
 bsplit (k (.tup [v, .bool ok]) H none True) (k (.s v) H none True) c
def mgetI (H : List ABlock) (c : Bool) (zero : SV) (vs : List SV) (k : AK) : Option Nat -> Prop
 | some i => exO vs[i]? fun v => mgetV H c v true k
 | none => mgetV H c zero false k
noncomputable def mgetB (H : List ABlock) (c : Bool) (ts : List Tag) (zero kv : SV) (k : AK) : Option ABlock -> Prop
 | some (.map ks vs) => keyOk ts kv ks /\ mgetI H c zero vs k (mFind kv ks)
 | _ => False
noncomputable def mgetK (H : List ABlock) (c : Bool) (ts : List Tag) (zero : SV) (kx : LV) (k : AK) : LV -> Prop
 | .mp b => exO (frz [] kx) fun kv => mgetB H c ts zero kv k H[b]?
 | .s (.map ks vs) => exO (frz [] kx) fun kv => keyOk ts kv ks /\ ks.Nodup /\ mgetI H c zero vs k (mFind kv ks)
 | _ => False
def mPut (kv v : SV) (ks vs : List SV) : Option Nat -> ABlock
 | some i => .map ks (vs.set i v)
 | none => .map (ks ++ [kv]) (vs ++ [v])
noncomputable def msetB (H : List ABlock) (b : Nat) (ts : List Tag) (kv v : SV) (k : AK) : Option ABlock -> Prop
 | some (.map ks vs) => keyOk ts kv ks /\ k (.tup []) (H.set b (mPut kv v ks vs (mFind kv ks))) none True
 | _ => False
noncomputable def msetK (H : List ABlock) (ts : List Tag) (kx x : LV) (k : AK) : LV -> Prop
 | .mp b => exO (frz [] kx) fun kv => exO (frz [] x) fun v => msetB H b ts kv v k H[b]?
 | _ => False
def mCut (ks vs : List SV) : Option Nat -> ABlock
 | some i => .map (ks.eraseIdx i) (vs.eraseIdx i)
 | none => .map ks vs
noncomputable def mdelB (H : List ABlock) (b : Nat) (ts : List Tag) (kv : SV) (k : AK) : Option ABlock -> Prop
 | some (.map ks vs) => keyOk ts kv ks /\ k (.tup []) (H.set b (mCut ks vs (mFind kv ks))) none True
 | _ => False
noncomputable def mdelK (H : List ABlock) (ts : List Tag) (kx : LV) (k : AK) : LV -> Prop
 | .mp b => exO (frz [] kx) fun kv => mdelB H b ts kv k H[b]?
 | _ => False
def mlenB (H : List ABlock) (k : AK) : Option ABlock -> Prop
 | some (.map ks _) => intK .i64 ks.length H k
 | _ => False
def mlenK (H : List ABlock) (k : AK) : LV -> Prop
 | .mp b => mlenB H k H[b]?
 | .s (.map ks _) => intK .i64 ks.length H k
 | _ => False
/-! Ranges over stable maps: any order. -/
def rangeMK (H : List ABlock) (id : Nat) (k : AK) : LV -> Prop
 | .s (.map ks vs) => H[id]? = some .gone /\ k (.loc id 0) (H.set id (.mit (ks.zip vs) none)) none True
 | _ => False
def nextMB (H : List ABlock) (b : Nat) (k : AK) : Option ABlock -> Prop
 | some (.mit left _) => (left = [] -> k (.tup [.bool false]) H none True) /\
   ∀ l1 e l2, left = l1 ++ e :: l2 -> k (.tup [.bool true, e.1, e.2]) (H.set b (.mit (l1 ++ l2) (some e))) none True
 | _ => False
def nextMK (H : List ABlock) (k : AK) : LV -> Prop
 | .loc b 0 => nextMB H b k H[b]?
 | _ => False
def entryMB (H : List ABlock) (k : AK) : Option ABlock -> Prop
 | some (.mit _ (some e)) => k (.tup [e.1, e.2]) H none True
 | _ => False
def entryMK (H : List ABlock) (k : AK) : LV -> Prop
 | .loc b 0 => entryMB H k H[b]?
 | _ => False
def FnR (P : Program) (f : FuncId) (args : List SV) (R : List SV -> Prop) : Prop :=
 ∀ (M : Mem) (w : World) (vs : List Value), Holds M w -> VRelL M args vs ->
  Calls P f vs.toArray w fun e w' => ∃ xs M' rs, R rs /\ e = .returned (retOf xs) /\ M.le M' /\ Holds M' w' /\ VRelL M' rs xs /\ Touch [] w w' /\ Newer [] w M M'
theorem Fn.fnR {P : Program} {f : FuncId} {args rs : List SV} {R : List SV -> Prop} (h : Fn P f args rs) (hr : R rs) : FnR P f args R :=
 fun M w vs hM hv => (h M w vs hM hv).mono fun _ _ ⟨xs, M', h1, h2⟩ => ⟨xs, M', rs, hr, h1, h2⟩
def callRK (P : Program) (H : List ABlock) (f : FuncId) (args : List LV) (k : AK) : Prop :=
 ∃ as R, FnR P f as R /\ frzAll (frz []) args = some as /\ ∀ rs, R rs -> k (LV.ofResults rs) H none True
def sidxK (H : List ABlock) (k : AK) : LV -> LV -> Prop
 | .s (.str s), .s (.int _ n) => 0 <= n /\ exO s.data[n.toNat]? fun b => intK .u8 b.toNat H k
 | _, _ => False
def appendZB (H : List ABlock) (b off len sz bytes : Nat) (ys : List SV) (k : AK) : Option ABlock -> Prop
 | some (.row cs) => off + len * sz = cs.length /\ (len + ys.length) * bytes <= 2 ^ 46 /\ len + ys.length < 2 ^ 60 /\ 0 < len /\ ys ≠ [] /\
   ∃ xs, rowOf off len sz cs = some xs /\ (∀ x ∈ xs, x.cells.length = sz) /\ k (.s (.slice (xs ++ ys))) (H.set b (.frz [])) none True
 | _ => False
def appendZK (H : List ABlock) (sz bytes : Nat) (x : LV) (k : AK) : LV -> Prop
 | .sl b off len sz' _ => sz = sz' /\ exO (elemsOf H x) fun ys => (∀ y ∈ ys, y.cells.length = sz) /\ appendZB H b off len sz bytes ys k H[b]?
 | .full xs => exO (elemsOf H x) fun ys => fitsE sz bytes xs ys /\ ys ≠ [] /\ k (.s (.slice (xs ++ ys))) H none True
 | _ => False
def apX : LV -> LV -> Prop
 | .loc b _, .loc c _ => b ≠ c
 | _, _ => False
noncomputable def aop (P : Program) (n0 id : Nat) (fr : List LV) (H : List ABlock) : AOp -> AK -> Prop
 | .mov x, k => k (x.ev fr) H none True
 | .pick c a b, k => pickK H (a.ev fr) (b.ev fr) k (c.ev fr)
 | .alloc cells, k => H[id]? = some .gone /\ k (.loc id 0) (H.set id (.obj cells)) none True
 | .boxM x, k => exO (x.ev fr).cells fun cs => H[id]? = some .gone /\ k (.loc id 0) (H.set id (.obj cs)) none True
 | .boxS x, k => exO (frz [] (x.ev fr)) fun v => k (.s (.ptr v.cells)) H none True
 | .build zero parts, k => exO (fills zero (parts.map fun p => (p.1, p.2.1, p.2.2.ev fr))) fun cs => k (.agg cs) H none True
 | .buildSl sz n zero parts, k => n <= 2 ^ 20 /\ n * sz <= 2 ^ 24 /\ exO (frzAll (frz []) (parts.map fun p => p.2.ev fr)) fun xs => parts.map (·.1) = List.range n /\ (∀ e ∈ xs, e.cells.length = sz) /\ zero.cells.length = sz /\
   k (.full xs) H none True
 | .load n agg a, k => ldK H n agg k (a.ev fr)
 | .store n a x, k => stK H n (x.ev fr) k (a.ev fr)
 | .nilck x, k => nilckK H k (x.ev fr)
 | .arith op x y, k => arithK H op k (x.ev fr) (y.ev fr)
 | .cmp op x y, k => cmpK H op k (x.ev fr) (y.ev fr)
 | .bits op x y, k => bitsK H op k (x.ev fr) (y.ev fr)
 | .div op x y, k => divK H op k (x.ev fr) (y.ev fr)
 | .shift op x y, k => shiftK H op k (x.ev fr) (y.ev fr)
 | .eql ag ts ne x y, k => eqlK H ag ts ne k (x.ev fr) (y.ev fr)
 | .not x, k => notK H k (x.ev fr)
 | .neg x, k => negK H k (x.ev fr)
 | .conv K x, k => convK H K k (x.ev fr)
 | .mkfn f first caps, k => ((first.map (·.ev fr)).all LV.isOne && (caps.map (·.ev fr)).all LV.isOne) = true /\ k (.fn f (first.map (·.ev fr)) (caps.map (·.ev fr))) H none True
 | .slice sz x lo hi mx, k => sliceK H sz (optEv fr lo) (optEv fr hi) (optEv fr mx) k (x.ev fr)
 | .sliceArr n sz x lo hi, k => sliceArrK H n sz (optEv fr lo) (optEv fr hi) k (x.ev fr)
 | .fieldAddr off x, k => fieldAddrK H off k (x.ev fr)
 | .field off n agg x, k => partK H off n agg k (x.ev fr)
 | .idxA sz x i, k => idxAK H sz (x.ev fr) k (i.ev fr)
 | .idxArrA n sz x i, k => idxArrAK H n sz (x.ev fr) k (i.ev fr)
 | .idx n sz agg x i, k => idxK H n sz agg (x.ev fr) k (i.ev fr)
 | .ext x j, k => extK H j k (x.ev fr)
 | .call f args, k => callK P H f (args.map (·.ev fr)) k
 | .callv f args, k => callvK P H (args.map (·.ev fr)) k (f.ev fr)
 | .callN sz f args, k => callNK P H id sz f (args.map (·.ev fr)) k
 | .callI f args, k => ∃ r H', CSem P f (args.map (·.ev fr)) H r H' /\ k r H' none True
 | .len st x, k => lenK H k st (x.ev fr)
 | .lenArr n, k => k (.s (.int .i64 n)) H none True
 | .append sz bytes s x, k => appendK H n0 id sz bytes (x.ev fr) k (s.ev fr)
 | .appendN sz bytes s x, k => appendNK H id sz bytes (x.ev fr) k (s.ev fr)
 | .eqNil ne x, k => eqNilK H ne k (elemsOf H (x.ev fr))
 | .copy sz d s, k => copyK H sz (s.ev fr) k (d.ev fr)
 | .clear sz zero d, k => clearK H sz zero k (d.ev fr)
 | .max args, k => exO (intsOf (kindOf (args.map (·.ev fr))) (args.map (·.ev fr))) fun ns => ns ≠ [] /\ intK (kindOf (args.map (·.ev fr))) (maxL ns) H k
 | .min args, k => exO (intsOf (kindOf (args.map (·.ev fr))) (args.map (·.ev fr))) fun ns => ns ≠ [] /\ intK (kindOf (args.map (·.ev fr))) (minL ns) H k
 | .mkslice sz bytes zero l c, k => mksliceK H id sz bytes zero k (l.ev fr) (c.ev fr)
 | .loadO n agg a, k => ldOK H n agg k (a.ev fr)
 | .loadX n agg a r, k => apX (fget fr r) (a.ev fr) /\ ldOK H n agg k (a.ev fr)
 | .storeR n a x, k => stRK H n (x.ev fr) k (a.ev fr)
 | .callF f s args, k => callFK P H f (args.map (·.ev fr)) k (s.ev fr)
 | .frzv x, k => frzvK H k (x.ev fr)
 | .appendZ sz bytes s x, k => appendZK H sz bytes (x.ev fr) k (s.ev fr)
 | .mkmap, k => H[id]? = some .gone /\ k (.mp id) (H.set id (.map [] [])) none True
 | .mget c ts zero m kx, k => mgetK H c ts zero (kx.ev fr) k (m.ev fr)
 | .mset ts m kx x, k => msetK H ts (kx.ev fr) (x.ev fr) k (m.ev fr)
 | .mdel ts m kx, k => mdelK H ts (kx.ev fr) k (m.ev fr)
 | .mlen m, k => mlenK H k (m.ev fr)
 | .sidx x i, k => sidxK H k (x.ev fr) (i.ev fr)
 | .rangeM m, k => rangeMK H id k (m.ev fr)
 | .nextM it, k => nextMK H k (it.ev fr)
 | .entryM it, k => entryMK H k (it.ev fr)
 | .callR f args, k => callRK P H f (args.map (·.ev fr)) k
 | .loadS n agg a, k => ldSK H n agg k (a.ev fr)
 | .dead, k => False /\ k (.tup []) H none True
 | .buildR sz n zero parts, k => n <= 2 ^ 20 /\ n * sz <= 2 ^ 24 /\ 0 < sz /\ exO (frzAll (frz []) (parts.map fun p => p.2.ev fr)) fun xs => parts.map (·.1) = List.range n /\ (∀ e ∈ xs, e.cells.length = sz) /\ zero.cells.length = sz /\
   H[id]? = some .gone /\ k (.sl id 0 n sz false) (H.set id (.row (flatE xs))) none True
structure AState where
  fr : List LV
  hp : List ABlock
def AState.put (fr : List LV) (H : List ABlock) (dst : Option Nat) (v : LV) (kl : Option Nat) : AState :=
  let fr := match kl with
    | some b => fgtL (· == b) fr
    | none => fr
  let H := match kl with
    | some b => H.map (fgtB (· == b))
    | none => H
  { fr := match dst with
      | some d => fset fr d v
      | none => fr, hp := H }
def AOp.takes : AOp -> Bool
 | .alloc _ | .boxM _ | .mkslice .. | .append .. | .appendN .. | .callN .. | .mkmap | .rangeM _ | .buildR .. => true
 | _ => false
def grdB (go no : Bool -> Prop) (b : Bool) : Bool -> Prop
 | true => bsplit (go true) (no false) b
 | false => bsplit (no true) (go false) b
def grdK (want : Bool) (go no : Bool -> Prop) (no0 : Prop) : LV -> Prop
 | .s (.bool b) => grdB go no b want
 | .tup [] => no0
 | _ => False
noncomputable def aops (P : Program) (n0 : Nat) : List AOper -> Nat -> AState -> Prop -> (AState -> Prop -> Prop) -> Prop
 | [], _, σ, F, k => k σ F
 | ⟨dst, none, op⟩ :: os, id, σ, F, k => aop P n0 id σ.fr σ.hp op fun v H kl f => aops P n0 os (if op.takes then id + 1 else id) (AState.put σ.fr H dst v kl) (F /\ f) k
 | ⟨dst, some (g, want), op⟩ :: os, id, σ, F, k => grdK want
   (fun b => aop P n0 id (fset σ.fr g (.s (.bool b))) σ.hp op fun v H kl f => aops P n0 os (if op.takes then id + 1 else id) (AState.put (fset σ.fr g (.s (.bool b))) H dst v kl) (F /\ f) k)
   (fun b => aops P n0 os (if op.takes then id + 1 else id) (AState.put (fset σ.fr g (.s (.bool b))) σ.hp dst (.tup []) none) F k)
   (aops P n0 os (if op.takes then id + 1 else id) (AState.put σ.fr σ.hp dst (.tup []) none) F k) (fget σ.fr g)
inductive ACode where
 | skip
 | reg (n : Nat) (ops : List AOper)
 | seq (a b : ACode)
 | cond (x : AX) (a b : ACode)
 | block (id : Nat) (a : ACode)
 | loop (mask : List Bool) (promo : List (Nat × Option Nat × Nat)) (a : ACode)
 | exit (id : Nat)
 | ret
 | scope (a : ACode)
 | label (l : Nat)
 | zap (t off : Nat) (a : ACode)
 | ren (t j : Nat) (a : ACode)
inductive AExit where
 | normal | exit (id : Nat) | ret
def promote1 (d : Nat) (c : Option Nat) (sz : Nat) (σ : AState) : AState :=
 match c, fget σ.fr d with
 | none, .full [] => { fr := fset σ.fr d (.sl σ.hp.length 0 0 (sz + 1) false), hp := σ.hp ++ [.row []] }
 | some off, .loc b o => match σ.hp[b]? with
  | some (.obj cs) => match cs[o + off]? with
   | some (.full []) => { fr := σ.fr, hp := σ.hp.set b (.obj (cs.set (o + off) (.sl σ.hp.length 0 0 (sz + 1) false))) ++ [.row []] }
   | _ => σ
  | _ => σ
 | _, _ => σ
def promote : List (Nat × Option Nat × Nat) -> AState -> AState
 | [], σ => σ
 | (d, c, sz) :: ps, σ => promote ps (promote1 d c sz σ)
def norm (mask : List Bool) (n : Nat) (σ : AState) : AState :=
  { fr := fgtL (fun b => decide (n <= b)) (fmask mask σ.fr), hp := (σ.hp.take n).map (fgtB fun b => decide (n <= b)) }
def condK (A B : Prop) : LV -> Prop
 | .s (.bool t) => bsplit A B t
 | _ => False
def zapC (H : List ABlock) (b i : Nat) (cs : List LV) (Q : List ABlock -> Prop) : Option LV -> Prop
 | some c => frzvK H (fun v H' _ _ => Q (H'.set b (.obj (cs.set i v)))) c
 | none => False
def zapB (H : List ABlock) (b i : Nat) (Q : List ABlock -> Prop) : Option ABlock -> Prop
 | some (.obj cs) => zapC H b i cs Q cs[i]?
 | _ => False
def zapK (H : List ABlock) (off : Nat) (Q : List ABlock -> Prop) : LV -> Prop
 | .loc b o => zapB H b (o + off) Q H[b]?
 | _ => False
def renC (b c t : Nat) (fr : List LV) (H : List ABlock) (Q : AState -> Prop) : Option ABlock -> Option ABlock -> Prop
 | some (.obj _), some (.obj cs) => Q { fr := fset (fgtL (fun x => x == b || x == c) fr) t (.loc b 0), hp := ((H.map (fgtB fun x => x == b || x == c)).set b (.obj (fgtL (fun x => x == b || x == c) cs))).set c .gone }
 | _, _ => False
def renK (b t : Nat) (σ : AState) (Q : AState -> Prop) : LV -> Prop
 | .loc c 0 => b < c /\ renC b c t σ.fr σ.hp Q σ.hp[b]? σ.hp[c]?
 | _ => False
noncomputable def awp (P : Program) (n0 : Nat) : ACode -> AState -> (AExit -> AState -> Prop) -> Prop
 | .skip, σ, Q => Q .normal σ
 | .reg n ops, σ, Q => aops P n0 ops σ.hp.length { fr := σ.fr, hp := σ.hp ++ List.replicate n .gone } True fun τ F => F -> Q .normal τ
 | .seq a b, σ, Q => awp P n0 a σ fun e τ => match e with
  | .normal => awp P n0 b τ Q
  | e => Q e τ
 | .cond x a b, σ, Q => condK (awp P n0 a σ Q) (awp P n0 b σ Q) (x.ev σ.fr)
 | .block id a, σ, Q => awp P n0 a σ fun e τ => match e with
  | .exit i => if i = id then Q .normal τ else Q (.exit i) τ
  | e => Q e τ
 | .loop mask promo a, σ, Q => ∀ I : AState -> Prop,
   (∀ τ, awp P n0 a τ (fun e τ' => match e with | .normal => I (norm mask (promote promo σ).hp.length τ') | e => Q e τ') -> I τ) ->
    I (norm mask (promote promo σ).hp.length (promote promo σ))
 | .exit id, σ, Q => Q (.exit id) σ
 | .ret, σ, Q => Q .ret σ
 | .scope a, σ, Q => awp P n0 a σ Q
 | .label _, σ, Q => Q .normal σ
 | .zap t off a, σ, Q => zapK σ.hp off (fun H' => awp P n0 a { fr := σ.fr, hp := H' } Q) (fget σ.fr t)
 | .ren t j a, σ, Q => renK (n0 + j) t σ (fun τ => awp P n0 a τ Q) (fget σ.fr t)
end Go.E

/- When a piece of the value semantics' code stands for a piece of the model's. -/
namespace Go.E
open Go
def okConst1 : LV -> Value -> Bool
 | .s (.bool b), .bool c => b == c
 | .s (.int k n), .int j m => k == j && n == m
 | .s (.str s), .string t => decide (s = t)
 | .s .nilp, .pointer none => true
 | .s .nili, .nilIface => true
 | .s (.map [] []), .map none => true
 | .full [], .slice none 0 0 => true
 | .s (.slice []), .slice none 0 0 => true
 | .any, v => v.oneCell'
 | .tup [], .tuple vs => vs.isEmpty
 | _, _ => false
def okConstL : List LV -> List Value -> Bool
 | [], [] => true
 | c :: cs, v :: vs => okConst1 c v && !c.isTup && okConstL cs vs
 | _, _ => false
def okConst : LV -> Value -> Bool
 | .agg cs, .agg vs => okConstL cs vs.toList
 | c, v => okConst1 c v
def okX : AX -> Operand -> Bool
 | .t n, .tmp m => n == m
 | .c (.s (.fn f [] [])), .func g => f == g
 | .c .any, .const _ => true
 | .c v, .const x => okConst v x
 | _, _ => false
def okXs : List AX -> List Operand -> Bool
 | [], [] => true
 | a :: as, x :: xs => okX a x && okXs as xs
 | _, _ => false
def okXo : Option AX -> Option Operand -> Bool
 | none, none => true
 | some a, some x => okX a x
 | _, _ => false
def slSz (P : Program) (t : TypeId) : Option Nat :=
 match P.underlying t with
 | some (.slice e) => (P.info? e).map (·.size)
 | _ => none
def slBytes (P : Program) (t : TypeId) : Option Nat :=
 match P.underlying t with
 | some (.slice e) => (P.info? e).map (·.bytes)
 | _ => none
def arrSz (P : Program) (t : TypeId) : Option (Nat × Nat) :=
 match P.underlying t with
 | some (.array n e) => (P.info? e).map fun i => (n, i.size)
 | _ => none
def ptrArrSz (P : Program) (t : TypeId) : Option (Nat × Nat) :=
 match P.underlying t with
 | some (.pointer a) => arrSz P a
 | _ => none
def aggTy (P : Program) (t : TypeId) : Option Bool :=
 match P.underlying t with
 | some (.struct _) | some (.array _ _) => some true
 | some _ => some false
 | none => none
def szTy (P : Program) (t : TypeId) : Option Nat := (P.info? t).map (·.size)
def fieldOf (P : Program) (t : TypeId) (i : Nat) : Option (Nat × Nat × TypeId) :=
 match P.underlying t with
 | some (.struct fs) => (fs[i]?).bind fun f => (szTy P f.type).map fun n => (f.offset, n, f.type)
 | _ => none
def tagOf (P : Program) (t : TypeId) : Option Tag :=
 match P.underlying t with
 | some .bool => some .bool
 | some (.int k) => some (.int k)
 | some .string => some .str
 | _ => none
def tagsF (P : Program) : Nat -> List Field -> Option (List Tag)
 | _, [] => some []
 | n, f :: fs => match tagOf P f.type with
  | some t => if f.offset = n /\ f.name ≠ "_" then (tagsF P (n + 1) fs).map (t :: ·) else none
  | none => none
def tagsOf (P : Program) (t : TypeId) : Option (Bool × List Tag) :=
 match P.underlying t with
 | some .bool | some (.int _) | some .string => (tagOf P t).map fun g => (false, [g])
 | some (.array n e) => match tagOf P e with
  | some g => if szTy P e = some 1 then some (true, List.replicate n g) else none
  | none => none
 | some (.struct fs) => (tagsF P 0 fs.toList).map fun ts => (true, ts)
 | _ => none
def okEq (P : Program) (t : TypeId) (ag : Bool) (ts : List Tag) : Bool :=
 !P.eqGuardType P.depth t && !P.stoodInHeld t && decide (tagsOf P t = some (ag, ts))
def okMap (P : Program) (t : TypeId) (ts : List Tag) : Bool :=
 match P.underlying t with
 | some (.map k _) => !P.eqGuardType P.depth k && !P.stoodInHeld k && (match P.underlying k with | some (.struct _) => decide (tagsOf P k = some (true, ts)) | _ => false)
 | _ => false
def okZero (P : Program) (t : TypeId) (cells : List LV) : Bool :=
 match (P.info? t).bind (·.zero) with
 | some z => okConstL cells z.cells.toList
 | none => false
def okParts (P : Program) (place : Nat -> Option (Nat × Nat)) : List (Nat × Nat × AX) -> List (Nat × Operand) -> Bool
 | [], [] => true
 | (off, n, x) :: ps, (i, y) :: qs => place i == some (off, n) && okX x y && okParts P place ps qs
 | _, _ => false
def okParts2 : List (Nat × AX) -> List (Nat × Operand) -> Bool
 | [], [] => true
 | (i, x) :: ps, (j, y) :: qs => i == j && okX x y && okParts2 ps qs
 | _, _ => false
def okOp (P : Program) (ao : AOp) (o : Op) : Bool :=
  match ao, o with
  | .mov x, .move y => okX x y
  | .mov x, .assign y => okX x y
  | .pick c a b, .pick c' a' b' => okX c c' && okX a a' && okX b b'
  | .alloc cells, .alloc t => okZero P t cells
  | .boxM x, .box _ y => okX x y
  | .boxS x, .box _ y => okX x y
  | .build zero parts, .build t ps => okZero P t zero &&
      (match P.underlying t with
       | some (.struct _) => okParts P (fun i => (fieldOf P t i).map fun p => (p.1, p.2.1)) parts ps.toList
       | some (.array _ e) => okParts P (fun i => (szTy P e).map fun n => (i * n, n)) parts ps.toList
       | _ => false) && (match P.underlying t with
       | some (.struct fs) => fs.toList.all fun f => (szTy P f.type).isSome
       | some (.array _ e) => (szTy P e).isSome
       | _ => false)
  | .buildSl sz n zero parts, .buildSlice t m ps => n == m && slSz P t == some sz && decide (0 < sz) && okParts2 parts ps.toList &&
      (match P.underlying t with | some (.slice e) => okZero P e (zero.cells.map .s) | _ => false)
  | .dead, .panic _ => true
  | .dead, .makeInterface _ _ => true
  | .buildR sz n zero parts, .buildSlice t m ps => n == m && slSz P t == some sz && decide (0 < sz) && okParts2 parts ps.toList &&
      (match P.underlying t with | some (.slice e) => okZero P e (zero.cells.map .s) | _ => false)
  | .loadS n agg a, .load t y => okX a y && aggTy P t == some agg && szTy P t == some n && (agg || n == 1)
  | .load n agg a, .load t y => okX a y && aggTy P t == some agg && szTy P t == some n && (agg || n == 1)
  | .store n a x, .store t y z => okX a y && okX x z && szTy P t == some n
  | .nilck x, .nilCheck y => okX x y
  | .arith op x y, .binOp op' _ x' y' _ => decide (op = op') && okX x x' && okX y y' && (match op with | .add | .sub | .mul => true | _ => false)
  | .cmp op x y, .binOp op' _ x' y' _ => decide (op = op') && okX x x' && okX y y' && (match op with | .eql | .neq | .lss | .leq | .gtr | .geq => true | _ => false)
  | .bits op x y, .binOp op' _ x' y' _ => decide (op = op') && okX x x' && okX y y' && (match op with | .and | .or | .xor | .andNot => true | _ => false)
  | .div op x y, .binOp op' _ x' y' _ => decide (op = op') && okX x x' && okX y y' && (match op with | .quo | .rem => true | _ => false)
  | .shift op x y, .binOp op' _ x' y' _ => decide (op = op') && okX x x' && okX y y' && (match op with | .shl | .shr => true | _ => false)
  | .eql ag ts ne x y, .binOp op' t x' y' _ => decide (op' = if ne then .neq else .eql) && okX x x' && okX y y' && okEq P t ag ts
  | .not x, .unOp .not _ y => okX x y
  | .neg x, .unOp .neg _ y => okX x y
  | .conv k x, .convert s d y => okX x y && (P.underlying s).isSome && (match P.underlying d with | some (.int k') => decide (k = k') | _ => false)
  | .mkfn f first caps, .makeFunc (.func g) fs cs => f == g && okXs first fs.toList && okXs caps cs.toList
  | .slice sz x lo hi mx, .slice t y lo' hi' mx' => slSz P t == some sz && okX x y && okXo lo lo' && okXo hi hi' && okXo mx mx' && (mx.isNone || hi.isSome)
  | .sliceArr n sz x lo hi, .slice t y lo' hi' none => (arrSz P t == some (n, sz) || ptrArrSz P t == some (n, sz)) && okX x y && okXo lo lo' && okXo hi hi'
  | .fieldAddr off x, .fieldAddr t y i => okX x y && (match fieldOf P t i with | some (o, n, _) => o == off && n != 0 | none => false)
  | .field off n agg x, .field t y i => okX x y && (match fieldOf P t i with | some (o, m, ft) => o == off && m == n && aggTy P ft == some agg | none => false)
  | .idxA sz x i, .indexAddr t y j => okX x y && okX i j && slSz P t == some sz
  | .idxArrA n sz x i, .indexAddr t y j => okX x y && okX i j && arrSz P t == some (n, sz)
  | .idx n sz agg x i, .index t y j => okX x y && okX i j && arrSz P t == some (n, sz) && (match P.underlying t with | some (.array _ e) => aggTy P e == some agg | _ => false)
  | .ext x j, .extract y k => okX x y && j == k
  | .call f args, .call { callee := .value (.func g), args := xs, .. } => f == g && okXs args xs.toList && okFn P f
  | .callN _ f args, .call { callee := .value (.func g), args := xs, .. } => f == g && okXs args xs.toList && okFn P f
  | .callI f args, .call { callee := .value (.func g), args := xs, .. } => f == g && okXs args xs.toList && okFn P f
  | .eqNil ne x, .binOp op' t x' y' _ => decide (op' = if ne then .neq else .eql) && okX x x' && (match y' with | .const (.slice none 0 0) => true | _ => false) && (match P.underlying t with | some (.slice _) => true | _ => false)
  | .callv x args, .call { callee := .value y, args := xs, .. } => okX x y && okXs args xs.toList
  | .len st x, .call { callee := .builtin .len, args := xs, argTypes := ts } => okXs [x] xs.toList && (match ts[0]? with
      | some t => (match P.underlying t with | some (.slice _) => !st | some .string => st | _ => false) | none => false)
  | .lenArr n, .call { callee := .builtin .len, args := xs, argTypes := ts } => decide (xs.size = 1) && (match ts[0]? with
      | some t => (match P.underlying t with
        | some (.array m _) => n == m
        | some (.pointer a) => (match P.underlying a with | some (.array m _) => n == m | _ => false)
        | _ => false)
      | none => false)
  | .append sz bytes s x, .call { callee := .builtin .append, args := xs, argTypes := ts } => okXs [s, x] xs.toList && decide (0 < bytes) &&
      (match ts[0]? with | some t => slSz P t == some sz && slBytes P t == some bytes && (match P.underlying t with | some (.slice e) => ((P.info? e).bind (·.zero)).any (fun z => z.cells.size == sz) | _ => false) | none => false) &&
      (match ts[1]? with | some t => (match P.underlying t with | some (.slice _) => true | _ => false) | none => false)
  | .appendN sz bytes s x, .call { callee := .builtin .append, args := xs, argTypes := ts } => okXs [s, x] xs.toList && decide (0 < bytes) &&
      (match ts[0]? with | some t => slSz P t == some sz && slBytes P t == some bytes && (match P.underlying t with | some (.slice e) => ((P.info? e).bind (·.zero)).any (fun z => z.cells.size == sz) | _ => false) | none => false) &&
      (match ts[1]? with | some t => (match P.underlying t with | some (.slice _) => true | _ => false) | none => false)
  | .appendZ sz bytes s x, .call { callee := .builtin .append, args := xs, argTypes := ts } => okXs [s, x] xs.toList && decide (0 < bytes) &&
      (match ts[0]? with | some t => slSz P t == some sz && slBytes P t == some bytes && (match P.underlying t with | some (.slice e) => ((P.info? e).bind (·.zero)).any (fun z => z.cells.size == sz) | _ => false) | none => false) &&
      (match ts[1]? with | some t => (match P.underlying t with | some (.slice _) => true | _ => false) | none => false)
  | .copy sz d s, .call { callee := .builtin .copy, args := xs, argTypes := ts } => okXs [d, s] xs.toList && (match ts[0]? with | some t => slSz P t == some sz | none => false)
  | .clear sz zero d, .call { callee := .builtin .clear, args := xs, argTypes := ts } => okXs [d] xs.toList && (match ts[0]? with
      | some t => slSz P t == some sz && (match P.underlying t with | some (.slice e) => okZero P e (zero.map .s) | _ => false) | none => false)
  | .max args, .call { callee := .builtin .max, args := xs, .. } => okXs args xs.toList
  | .min args, .call { callee := .builtin .min, args := xs, .. } => okXs args xs.toList
  | .mkslice sz bytes zero l c, .makeSlice t l' c' => okX l l' && okX c c' && slSz P t == some sz && slBytes P t == some bytes &&
      (match P.underlying t with | some (.slice e) => okZero P e (zero.map .s) | _ => false)
  | .loadO n agg a, .load t y => okX a y && aggTy P t == some agg && szTy P t == some n && (agg || n == 1)
  | .loadX n agg a _, .load t y => okX a y && aggTy P t == some agg && szTy P t == some n && (agg || n == 1)
  | .storeR n a x, .store t y z => okX a y && okX x z && szTy P t == some n
  | .frzv x, .move y => okX x y
  | .frzv x, .assign y => okX x y
  | .callF f s args, .call { callee := .value (.func g), args := xs, .. } => f == g && okXs (s :: args) xs.toList && okFn P f
  | .mkmap, .makeMap _ none => true
  | .mget c ts zero m k, .lookup t x y c' => c == c' && okX m x && okX k y && okMap P t ts && (match P.underlying t with
      | some (.map _ e) => ((P.info? e).bind (·.zero)).any (okConst (.s zero)) | _ => false)
  | .mset ts m k v, .mapUpdate t x y z => okX m x && okX k y && okX v z && okMap P t ts
  | .mset ts m k v, .insert t x y z => okX m x && okX k y && okX v z && okMap P t ts
  | .mdel ts m k, .call { callee := .builtin .delete, args := xs, argTypes := ats } => okXs [m, k] xs.toList && (match ats[0]? with | some t => okMap P t ts | none => false)
  | .rangeM m, .range t x => okX m x && (match P.underlying t with | some (.map _ _) => true | _ => false)
  | .nextM i, .next x st => !st && okX i x
  | .entryM i, .entry x => okX i x
  | .callR f args, .call { callee := .value (.func g), args := xs, .. } => f == g && okXs args xs.toList && okFn P f
  | .sidx x i, .index t y j => okX x y && okX i j && (match P.underlying t with | some .string => true | _ => false)
  | .mlen m, .call { callee := .builtin .len, args := xs, argTypes := ats } => okXs [m] xs.toList && (match ats[0]? with
      | some t => (match P.underlying t with | some (.map _ _) => true | _ => false) | none => false)
  | _, _ => false
def AOp.cls : AOp -> Nat
 | .load .. | .eql .. | .call .. | .callv .. | .sliceArr .. => 1
 | .alloc _ | .boxM _ | .mkslice .. => 2
 | .store .. | .copy .. | .clear .. => 3
 | .append .. => 4
 | .appendN .. | .callN .. => 2
 | .eqNil .. => 4
 | .callI .. => 4
 | .loadO .. | .loadX .. => 1
 | .storeR .. | .callF .. | .frzv .. | .appendZ .. => 3
 | .mkmap | .buildR .. => 2
 | .mget .. | .mset .. | .mdel .. | .mlen .. => 4
 | .rangeM .. | .nextM .. | .entryM .. | .callR .. => 4
 | _ => 0
def AOp.rd : AOp -> Bool
 | .loadO .. | .loadX .. => true
 | _ => false
def AOp.wr : AOp -> Bool
 | .storeR .. | .callF .. | .frzv .. | .appendZ .. => true
 | _ => false
def AX.slots : AX -> List Nat
 | .t n => [n]
 | .c _ => []
def AX.slotsO : Option AX -> List Nat
 | some x => x.slots
 | none => []
def AOp.slots : AOp -> List Nat
 | .mov x | .boxM x | .boxS x | .load _ _ x | .nilck x | .not x | .neg x | .conv _ x | .fieldAddr _ x | .field _ _ _ x | .ext x _ | .len _ x | .clear _ _ x | .eqNil _ x | .loadO _ _ x | .loadS _ _ x | .mlen x | .frzv x | .rangeM x | .nextM x | .entryM x => x.slots
 | .pick c a b => c.slots ++ a.slots ++ b.slots
 | .loadX _ _ x r => x.slots ++ [r]
 | .alloc _ | .lenArr _ | .mkmap | .dead => []
 | .build _ ps => ps.flatMap fun p => p.2.2.slots
 | .buildSl _ _ _ ps | .buildR _ _ _ ps => ps.flatMap fun p => p.2.slots
 | .store _ a x | .arith _ a x | .cmp _ a x | .bits _ a x | .div _ a x | .shift _ a x | .eql _ _ _ a x | .idxA _ a x | .idxArrA _ _ a x | .idx _ _ _ a x | .append _ _ a x | .appendN _ _ a x | .appendZ _ _ a x | .copy _ a x | .mkslice _ _ _ a x | .storeR _ a x | .mget _ _ _ a x | .mdel _ a x | .sidx a x => a.slots ++ x.slots
 | .mset _ a x y => a.slots ++ x.slots ++ y.slots
 | .mkfn _ fs cs => fs.flatMap (·.slots) ++ cs.flatMap (·.slots)
 | .slice _ x lo hi mx => x.slots ++ AX.slotsO lo ++ AX.slotsO hi ++ AX.slotsO mx
 | .sliceArr _ _ x lo hi => x.slots ++ AX.slotsO lo ++ AX.slotsO hi
 | .call _ args | .callI _ args | .callN _ _ args | .callR _ args | .max args | .min args => args.flatMap (·.slots)
 | .callv f args | .callF _ f args => f.slots ++ args.flatMap (·.slots)
def LV.noref1 : LV -> Bool
 | .s _ | .any | .full _ | .tup _ => true
 | _ => false
def LV.noref : LV -> Bool
 | .agg cs => cs.all LV.noref1
 | v => v.noref1
def AX.okc : AX -> Bool
 | .t _ => true
 | .c v => v.noref
def AX.listO : Option AX -> List AX
 | some x => [x]
 | none => []
def AOp.axs : AOp -> List AX
 | .mov x | .boxM x | .boxS x | .load _ _ x | .nilck x | .not x | .neg x | .conv _ x | .fieldAddr _ x | .field _ _ _ x | .ext x _ | .len _ x | .clear _ _ x | .eqNil _ x | .loadO _ _ x | .loadS _ _ x | .mlen x | .frzv x | .rangeM x | .nextM x | .entryM x => [x]
 | .pick c a b => [c, a, b]
 | .loadX _ _ x r => [x, .t r]
 | .alloc _ | .lenArr _ | .mkmap | .dead => []
 | .build _ ps => ps.map fun p => p.2.2
 | .buildSl _ _ _ ps | .buildR _ _ _ ps => ps.map fun p => p.2
 | .store _ a x | .arith _ a x | .cmp _ a x | .bits _ a x | .div _ a x | .shift _ a x | .eql _ _ _ a x | .idxA _ a x | .idxArrA _ _ a x | .idx _ _ _ a x | .append _ _ a x | .appendN _ _ a x | .appendZ _ _ a x | .copy _ a x | .mkslice _ _ _ a x | .storeR _ a x | .mget _ _ _ a x | .mdel _ a x | .sidx a x => [a, x]
 | .mset _ a x y => [a, x, y]
 | .mkfn _ fs cs => fs ++ cs
 | .slice _ x lo hi mx => x :: AX.listO lo ++ AX.listO hi ++ AX.listO mx
 | .sliceArr _ _ x lo hi => x :: AX.listO lo ++ AX.listO hi
 | .call _ args | .callI _ args | .callN _ _ args | .callR _ args | .max args | .min args => args
 | .callv f args | .callF _ f args => f :: args
def AOp.okc (op : AOp) : Bool := op.axs.all AX.okc && (match op with
 | .alloc cells => cells.all LV.noref1
 | .build zero _ => zero.all LV.noref1
 | _ => true)
def AOper.reads (o : AOper) : List Nat := (match o.guard with | some (g, _) => [g] | none => []) ++ o.op.slots
def AOper.writes (o : AOper) (t : Nat) : Bool := o.dst == some t || o.op.cls == 4
def AOp.stx : AOp -> Option Nat
 | .store _ (.t r) _ => some r
 | _ => none
def AOp.rx : AOp -> Option Nat
 | .loadX _ _ _ r => some r
 | _ => none
def AOp.part (x y : AOp) : Bool := x.stx.isSome && x.stx == y.rx
def AOp.az : AOp -> Bool
 | .appendZ .. => true
 | _ => false
def AOp.al : AOp -> Bool
 | .alloc _ => true
 | _ => false
def AOper.tied (x y : AOper) : Bool :=
 x.op.cls == 4 || y.op.cls == 4 || (x.op.cls == 3 && decide (1 <= y.op.cls) && !((x.op.wr && y.op.rd) || (x.op.part y.op || (x.op.az && y.op.al)))) || (decide (1 <= x.op.cls) && y.op.cls == 3 && !((y.op.wr && x.op.rd) || y.op.part x.op)) ||
 (match x.dst with | some d => y.reads.contains d || y.dst == some d | none => false) ||
 (match y.dst with | some d => x.reads.contains d | none => false)
def befs : List Oper -> List Nat -> List Nat
 | [], acc => acc
 | o :: os, acc => befs os (acc ++ [o.after.toList.foldl (fun s e => if Region.binds .any e then s ||| 2 ^ e.on ||| acc.getD e.on 0 else s) 0])
def topoIn (md : Region.Mode) (ops : List Oper) : List Nat -> List Nat -> Bool
 | _, [] => true
 | seen, i :: is => (match ops[i]? with
  | some o => o.after.toList.all fun e => !Region.binds md e || seen.contains e.on
  | none => false) && topoIn md ops (i :: seen) is
def topoOk (md : Region.Mode) (ops : List Oper) (l : List Nat) : Bool := topoIn md ops [] l && (List.range ops.length).all l.contains
def tiedOk (aops : List AOper) (bs : List Nat) : Bool :=
 (List.range aops.length).all fun j => (List.range j).all fun i =>
  match aops[i]?, aops[j]? with
  | some x, some y => !x.tied y || (bs.getD j 0).testBit i
  | _, _ => true
def okOper (P : Program) (ops : List Oper) (ao : AOper) (o : Oper) : Bool :=
  ao.dst == o.dst && okOp P ao.op o.op && ao.op.okc &&
  (match ao.guard, o.guard with
   | none, none => true
   | some (g, b), some (j, c) => b == c && ((ops[j]?).bind (·.dst)) == some g
   | _, _ => false)
def okOpers (P : Program) (ops : List Oper) : List AOper -> List Oper -> Bool
 | [], [] => true
 | a :: as, o :: os => okOper P ops a o && okOpers P ops as os
 | _, _ => false
def okCode (P : Program) (nt : Nat) : ACode -> Code -> Bool
 | .skip, .skip => true
 | .reg n as, .region _ ops draw => okOpers P ops.toList as ops.toList && n == (as.filter (·.op.takes)).length &&
   (!draw || (tiedOk as (befs ops.toList []) && (if P.follows .mixedOrders || !Region.departs ops then topoOk .any ops.toList (List.range ops.size)
    else topoOk .text ops.toList (List.range ops.size) && topoOk .gc ops.toList (Region.linearise .gc ops 0))))
 | .seq a b, .seq c d => okCode P nt a c && okCode P nt b d
 | .scope a, .scope c => okCode P nt a c
 | .label l, .label m => l == m
 | .cond x a b, .cond y c d => okX x y && okCode P nt a c && okCode P nt b d
 | .block i a, .block j c => i == j && okCode P nt a c
 | .loop _ _ a, .loop c => okCode P nt a c
 | .exit i, .exit j => i == j
 | .ret, .ret => true
 | .zap _ _ a, c => okCode P nt a c
 | .ren _ _ a, c => okCode P nt a c
 | _, _ => false
inductive ARes where
 | tmp (t : Nat)
 | cell (t n : Nat) (agg : Bool)
def okRes (P : Program) : List ARes -> List ResultVar -> Bool
 | [], [] => true
 | .tmp t :: as, .tmp u :: rs => t == u && okRes P as rs
 | .cell t n agg :: as, .cell u ty :: rs => t == u && aggTy P ty == some agg && szTy P ty == some n && (agg || n == 1) && okRes P as rs
 | _, _ => false
end Go.E
