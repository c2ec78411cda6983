/- Each operation of the value semantics is borne out by the model: slice expressions, comparisons, max and min. -/
import Derived.Test.YtikfhfgdmlijeaaGreatJ1
import Derived.DeepKeys
import Derived.Laws.Cover3
import Derived.MapKept

set_option linter.all false

namespace Go.E
open Go
section inversion
variable {P : Program} {o : Op}
theorem qjh {sz : Nat} {x : AX} {lo hi mx : Option AX} (h : okOp P (.slice sz x lo hi mx) o = true) : ∃ t y lo' hi' mx', o = .slice t y lo' hi' mx' /\ slSz P t = some sz /\ okX x y = true /\ okXo lo lo' = true /\ okXo hi hi' = true /\ okXo mx mx' = true /\ (mx = none \/ hi.isSome = true) := by
 cases o <;> first | exact Bool.noConfusion (show false = true from h) | skip
 simp only [okOp, Bool.and_eq_true, beq_iff_eq, Bool.or_eq_true, Option.isNone_iff_eq_none] at h;exact ⟨_, _, _, _, _, rfl, h.1.1.1.1.1, h.1.1.1.1.2, h.1.1.1.2, h.1.1.2, h.1.2, h.2⟩
theorem qgd {n sz : Nat} {x : AX} {lo hi : Option AX} (h : okOp P (.sliceArr n sz x lo hi) o = true) : ∃ t y lo' hi', o = .slice t y lo' hi' none /\ (arrSz P t = some (n, sz) \/ ptrArrSz P t = some (n, sz)) /\ okX x y = true /\ okXo lo lo' = true /\ okXo hi hi' = true := by
 cases o <;> first | exact Bool.noConfusion (show false = true from h) | skip
 rename_i t y lo' hi' mx'
 cases mx' <;> first | exact Bool.noConfusion (show false = true from h) | skip
 simp only [okOp, Bool.and_eq_true, beq_iff_eq, Bool.or_eq_true] at h;exact ⟨_, _, _, _, rfl, h.1.1.1, h.1.1.2, h.1.2, h.2⟩
theorem qmJ {ag ne : Bool} {ts : List Tag} {x y : AX} (h : okOp P (.eql ag ts ne x y) o = true) : ∃ t x' y' u, o = .binOp (if ne then .neq else .eql) t x' y' u /\ okX x x' = true /\ okX y y' = true /\ P.eqGuardType P.depth t = false /\ P.stoodInHeld t = false /\ tagsOf P t = some (ag, ts) := by
 cases o <;> first | exact Bool.noConfusion (show false = true from h) | skip
 simp only [okOp, okEq, Bool.and_eq_true, decide_eq_true_eq, Bool.not_eq_true'] at h;obtain ⟨⟨⟨rfl, h1⟩, h2⟩, ⟨h3, h4⟩, h5⟩ := h;exact ⟨_, _, _, _, rfl, h1, h2, h3, h4, h5⟩
theorem qji {ne : Bool} {x : AX} (h : okOp P (.eqNil ne x) o = true) : ∃ t x' u e, o = .binOp (if ne then .neq else .eql) t x' (.const (.slice none 0 0)) u /\ okX x x' = true /\ P.underlying t = some (.slice e) := by
 cases o <;> first | exact Bool.noConfusion (show false = true from h) | skip
 simp only [okOp, Bool.and_eq_true, decide_eq_true_eq] at h;obtain ⟨⟨⟨rfl, h1⟩, h2⟩, h3⟩ := h
 split at h2
 ·split at h3
  ·rename_i e hu; exact ⟨_, _, _, e, rfl, h1, hu⟩
  ·cases h3
 ·cases h2
theorem qmK {args : List AX} (h : okOp P (.max args) o = true) : ∃ xs ts, o = .call { callee := .builtin .max, args := xs, argTypes := ts } /\ okXs args xs.toList = true := by
 cases o <;> first | exact Bool.noConfusion (show false = true from h) | skip
 rename_i c
 obtain ⟨callee, xs, ts⟩ := c
 cases callee <;> first | exact Bool.noConfusion (show false = true from h) | skip
 rename_i b
 cases b <;> first | exact Bool.noConfusion (show false = true from h) | exact ⟨xs, ts, rfl, h⟩
theorem qmL {args : List AX} (h : okOp P (.min args) o = true) : ∃ xs ts, o = .call { callee := .builtin .min, args := xs, argTypes := ts } /\ okXs args xs.toList = true := by
 cases o <;> first | exact Bool.noConfusion (show false = true from h) | skip
 rename_i c
 obtain ⟨callee, xs, ts⟩ := c
 cases callee <;> first | exact Bool.noConfusion (show false = true from h) | skip
 rename_i b
 cases b <;> first | exact Bool.noConfusion (show false = true from h) | exact ⟨xs, ts, rfl, h⟩
end inversion
section
variable {P : Program} {A : Nat -> Obj -> Prop} {dfs : List Deferred} {M0 : Mem} {ρ0 : Env} {w0 : World} {M : Mem} {ρ : Env} {H : List ABlock} {w : World} {o : Oper} {a : Act} {K : Act -> World -> Prop} {Q : Exit -> Act -> World -> Prop} {fr : List LV} {k : AK} {n0 id : Nat}
theorem qeg {t e : TypeId} {sz : Nat} (hu : P.underlying t = some (.slice e)) (hs : szTy P e = some sz) {ad : Option Addr} {len cap l h m : Nat} {lo hi mx : Option Value}
  (hb : (Instr.sliceBounds true len cap lo hi mx).run P w = .ok (l, h, m) w) :
  (Instr.sliceAt t (.slice ad len cap) lo hi mx).run P w = .ok (.slice (if m = l then ad else ad.map (·.add (l * sz))) (h - l) (m - l)) w := by
 simp [Instr.sliceAt, run_underlying hu, Instr.slice, hb, qJ hs]
theorem qbb {xs : List SV} {ad : Option Addr} {len cap sz l h m : Nat} (hc : CRel M (.slice xs) [.slice ad len cap]) (hl : l <= h) (hh : h <= xs.length) (hz : szAt sz l xs) (hm : m = cap \/ m = h) :
  CRel M (.slice ((xs.drop l).take (h - l))) [.slice (if m = l then ad else ad.map (·.add (l * sz))) (h - l) (m - l)] := by
 simp only [CRel] at hc ⊢;obtain ⟨ad', len', cap', e, rfl, hlc, hcm, hx⟩ := hc;simp only [List.cons.injEq, Value.slice.injEq, and_true] at e;obtain ⟨rfl, rfl, rfl⟩ := e;have hlen : ((xs.drop l).take (h - l)).length = h - l := by rw [List.length_take, List.length_drop]; omega
 refine ⟨_, _, _, rfl, hlen.symm, by omega, by omega, ?_⟩
 rcases hx with rfl | ⟨b, of, sz', uss, rfl, hcc, hs, hat⟩
 ·left; simp
 ·by_cases hml : m = l
  ·left
   have : h = l := by rcases hm with rfl | rfl <;> omega
   subst this;simp
  ·right
   have hoff : (if m = l then some (⟨b, of, none⟩ : Addr) else Option.map (fun q : Addr => q.add (l * sz)) (some ⟨b, of, none⟩)) = some ⟨b, of + l * sz, none⟩ := by
    rw [if_neg hml]; simp [Addr.add_lit]
   have hlz : l * sz = l * sz' \/ xs = [] := by
    rcases hz with rfl | hz
    ·left; simp
    ·cases xs with
     | nil => exact .inr rfl
     | cons x xs =>
      left;have h1 := hz x (by simp)
      simp only [CRelC] at hcc;obtain ⟨u, us, rfl, hcu, _⟩ := hcc;have h2 := (qao hcu).length;rw [qN, hs u (by simp), h1] at h2
      rw [h2]
   rcases hlz with hlz | rfl
   ·refine ⟨b, of + l * sz, sz', (uss.drop l).take (h - l), hoff, (hcc.drop l).take _, fun u hu => hs u (List.mem_of_mem_drop (List.mem_of_mem_take hu)), ?_⟩
    rw [hlz]
    have hfl : ∀ (n : Nat) (uss : List (List Value)), (∀ u ∈ uss, u.length = sz') -> (uss.drop n).flatten = uss.flatten.drop (n * sz') := by
     intro n
     induction n with
     | zero => intro uss _; simp
     | succ n ih =>
      intro uss hs
      cases uss with
      | nil => simp
      | cons u us =>
       rw [List.drop_succ_cons, ih us (fun u hu => hs u (by simp [hu])), List.flatten_cons, Nat.succ_mul, Nat.add_comm, <- List.drop_drop]
       congr 1
       rw [<- hs u (by simp), List.drop_left]
    have hft : ∀ (n : Nat) (uss : List (List Value)), (∀ u ∈ uss, u.length = sz') -> (uss.take n).flatten = uss.flatten.take (n * sz') := by
     intro n
     induction n with
     | zero => intro uss _; simp
     | succ n ih =>
      intro uss hs
      cases uss with
      | nil => simp
      | cons u us =>
       rw [List.take_succ_cons, List.flatten_cons, ih us (fun u hu => hs u (by simp [hu])), List.flatten_cons, Nat.succ_mul, Nat.add_comm, show sz' + n * sz' = u.length + n * sz' by rw [hs u (by simp)], List.take_length_add_append]
    rw [hft _ _ (fun u hu => hs u (List.mem_of_mem_drop hu)), hfl _ _ hs]
    exact qdQ (qbh hat)
   ·exact ⟨b, of + l * sz, sz', [], hoff, by simp [CRelC], by simp, by intro j v hj; simp at hj⟩
theorem qd {α : Type} {x : Option α} {f : α -> Prop} (h : exO x f) : ∃ y, x = some y /\ f y := by
 cases x with
 | none => exact h.elim
 | some y => exact ⟨y, rfl, h⟩
theorem qjj (hI : MInv A n0 M0 ρ0 w0 M ρ H w) (hf : FRel M ρ fr a.tmps.toList) {sz : Nat} {x : AX} {lo hi mx : Option AX} (hok : okOp P (.slice sz x lo hi mx) o.op = true) (h : aop P n0 id fr H (.slice sz x lo hi mx) k)
  (hK : ∀ v H' kl f x w', k v H' kl f -> f -> Nxt A n0 M0 ρ0 w0 M ρ id v H' kl x w' -> K (a.put o.dst x) w') : o.wp P a w K Q := by
 obtain ⟨t, y, lo', hi', mx', ho, hsl, hx, hlo, hhi, hmx, hms⟩ := qjh hok;obtain ⟨e, hu, hsz⟩ := qee hsl;simp only [aop] at h;have hr := qf hf hx;have rlo := qbK hf hlo;have rhi := qbK hf hhi;have rmx := qbK hf hmx
 have hms' : (optEv fr mx).isSome = true -> (optEv fr hi).isSome = true := by
  rcases hms with rfl | h1
  ·intro h; cases h
  ·intro _; cases hi with | none => cases h1 | some _ => rfl
 generalize x.ev fr = v at h hr;generalize optEv fr lo = vlo at h rlo;generalize optEv fr hi = vhi at h rhi hms';generalize optEv fr mx = vmx at h rmx hms'
 -- both ends of the operation
 have fin : ∀ {ad : Option Addr} {len cap l h' m : Nat} {u : LV}, a.eval y = .slice ad len cap -> boundOf 0 vlo = some l -> boundOf len vhi = some h' -> boundOf cap vmx = some m -> l <= h' -> h' <= m -> m <= cap ->
   k u H none True -> LVal M ρ u (.slice (if m = l then ad else ad.map (·.add (l * sz))) (h' - l) (m - l)) -> o.wp P a w K Q := by
  intro ad len cap l h' m u ey h1 h2 h3 h4 h5 h6 hk hu';have hb := qeC (P := P) (b := true) (w := w) rlo rhi rmx h1 h2 h3 hms' h4 h5 h6;exact qc (by simp [execOp, ho, ey, qeg hu hsz hb]) (hK _ _ _ _ _ _ hk trivial (qg hI hu'))
 have mk : ∀ {A B : LV} {cap l h' len : Nat} {ad : Option Addr}, a.eval y = .slice ad len cap -> h' <= cap -> boundOf 0 vlo = some l -> boundOf len vhi = some h' -> l <= h' -> sliceM H h' A B k vmx ->
   LVal M ρ A (.slice (if cap = l then ad else ad.map (·.add (l * sz))) (h' - l) (cap - l)) -> LVal M ρ B (.slice (if h' = l then ad else ad.map (·.add (l * sz))) (h' - l) (h' - l)) -> o.wp P a w K Q := by
  intro A B cap l h' len ad ey hc h1 h2 h3 hM hA hB
  cases vmx with
  | none => simp only [sliceM] at hM; exact fin ey h1 h2 rfl h3 hc (Nat.le_refl _) hM hA
  | some vm =>
   simp only [sliceM] at hM;have h4 : boundOf cap (some vm) = some h' := by rw [<- hM.1]; cases vm with | s v => cases v <;> rfl | _ => rfl
   exact fin ey h1 h2 h4 h3 (Nat.le_refl _) hc hM.2 hB
 unfold sliceK at h
 split at h
 next xs =>
  rw [qi] at hr;have hc := hr.one rfl;obtain ⟨l, h1, h⟩ := qd h;obtain ⟨h', h2, h3, h4, h5, h⟩ := qd h;have hc' := hc;simp only [CRel] at hc';obtain ⟨ad, len, cap, e', rfl, hlc, hcm, _⟩ := hc';have ey : a.eval y = .slice ad xs.length cap := by simpa using e'
  rw [ey] at hc;refine mk ey (by omega) h1 h2 h3 h ?_ ?_
  ·rw [qi]; exact qj (qbb hc h3 h4 h5 (.inl rfl)) rfl
  ·exact qh (by simp only [LRel]; exact ⟨_, _, rfl, qbb hc h3 h4 h5 (.inr rfl)⟩) rfl
 next xs =>
  have h0 := hr.one rfl (by simp)
  simp only [LRel] at h0;obtain ⟨ad0, n, e0, hc⟩ := h0;obtain ⟨l, h1, h⟩ := qd h;obtain ⟨h', h2, h3, h4, h5, h⟩ := qd h;have hc' := hc;simp only [CRel] at hc';obtain ⟨ad, len, cap, e', rfl, hlc, hcm, _⟩ := hc';have ey : a.eval y = .slice ad xs.length cap := by simpa using e'
  rw [ey] at hc e0;simp only [List.cons.injEq, Value.slice.injEq, and_true] at e0;obtain ⟨rfl, rfl, hcap⟩ := e0;refine mk ey (by omega) h1 h2 h3 h ?_ ?_
  ·split
   ·rename_i e2
    have e3 : xs.drop l = (xs.drop l).take (h' - l) := by rw [List.take_of_length_le]; rw [List.length_drop]; omega
    refine qh ?_ rfl;simp only [LRel];have e4 : cap - l = h' - l := by omega
    refine ⟨(if cap = l then ad else ad.map (·.add (l * sz))), h' - l, by rw [e4], ?_⟩
    rw [e3];exact qbb hc h3 h4 h5 (.inl rfl)
   ·rw [qi]; exact qj (qbb hc h3 h4 h5 (.inl rfl)) rfl
  ·exact qh (by simp only [LRel]; exact ⟨_, _, rfl, qbb hc h3 h4 h5 (.inr rfl)⟩) rfl
 next b off len sz' clip =>
  obtain ⟨rfl, h⟩ := h;have h0 := hr.one rfl (by simp)
  simp only [LRel] at h0;obtain ⟨r, ad, cap, hρ, hg, e', hlc, hcm, hpos, hclip, hcap⟩ := h0;have ey : a.eval y = .slice ad len cap := by simpa using e'
  obtain ⟨l, h1, h⟩ := qd h;obtain ⟨h', h2, h3, h4, h⟩ := qd h
  have part : ∀ {m : Nat} {c : Bool}, l <= m -> h' <= m -> m <= cap -> (c = true -> m - l = h' - l) -> LVal M ρ (.sl b (off + l * sz) (h' - l) sz c) (.slice (if m = l then ad else ad.map (·.add (l * sz))) (h' - l) (m - l)) := by
   intro m c hlm hm hmc hcl;refine qh ?_ rfl;simp only [LRel];refine ⟨r, _, _, hρ, hg, rfl, by omega, by omega, hpos, hcl, ?_⟩
   by_cases hml : m = l
   ·left; omega
   ·right
    rcases hcap with hc0 | ⟨cb, sh, n, rfl, rfl, hfit⟩
    ·omega
    ·refine ⟨cb, sh, n, rfl, by rw [if_neg hml]; simp [Addr.add_lit, Nat.add_assoc], ?_⟩
     have e1 : m * sz = (m - l) * sz + l * sz := by rw [<- Nat.add_mul]; congr 1; omega
     have e2 := Nat.mul_le_mul_right sz hmc;omega
  refine mk ey (by omega) h1 h2 h3 h (part (by omega) (by omega) (Nat.le_refl _) ?_) (part h3 (Nat.le_refl _) (by omega) (fun _ => rfl))
  intro hc;simp only [Bool.and_eq_true, decide_eq_true_eq] at hc;have := hclip hc.1;omega
 next => cases h
end
section
variable {P : Program} {A : Nat -> Obj -> Prop} {dfs : List Deferred} {M0 : Mem} {ρ0 : Env} {w0 : World} {M : Mem} {ρ : Env} {H : List ABlock} {w : World} {o : Oper} {a : Act} {K : Act -> World -> Prop} {Q : Exit -> Act -> World -> Prop} {fr : List LV} {k : AK} {n0 id : Nat}
theorem qe9 (sz : Nat) : ∀ (n : Nat) (cs : List SV), (chunk sz n cs).length = n
 | 0, cs => rfl
 | n + 1, cs => by simp [chunk, qe9 sz n]
theorem qbV {sz len : Nat} {cs : List SV} (hl : len * sz <= cs.length) : (elems sz len cs).length = len := by
 unfold elems; split
 ·rename_i e; subst e; rw [List.length_take]; omega
 ·exact qe9 _ _ _
theorem qmM {t : TypeId} {n sz : Nat} (ht : arrSz P t = some (n, sz) \/ ptrArrSz P t = some (n, sz)) {ad : Addr} {l h : Nat} {lo hi : Option Value}
  (hb : (Instr.sliceBounds false n n lo hi none).run P w = .ok (l, h, n) w) :
  (Instr.sliceAt t (.pointer (some ad)) lo hi none).run P w = .ok (.slice (some (if n = l then ad else ad.add (l * sz))) (h - l) (n - l)) w := by
 rcases ht with ht | ht
 ·obtain ⟨e, hu, hsz⟩ := qdc ht
  simp [Instr.sliceAt, run_underlying hu, Instr.sureAddr, hb, qJ hsz]
 ·unfold ptrArrSz at ht
  split at ht
  next arr hp =>
   obtain ⟨e, hu, hsz⟩ := qdc ht;simp [Instr.sliceAt, run_underlying hp, Instr.slice, asAddr, run_underlying hu, hb, qJ hsz]
  next => cases ht
theorem qge (hI : MInv A n0 M0 ρ0 w0 M ρ H w) (hf : FRel M ρ fr a.tmps.toList) {n sz : Nat} {x : AX} {lo hi : Option AX} (hok : okOp P (.sliceArr n sz x lo hi) o.op = true) (h : aop P n0 id fr H (.sliceArr n sz x lo hi) k)
  (hK : ∀ v H' kl f x w', k v H' kl f -> f -> Nxt A n0 M0 ρ0 w0 M ρ id v H' kl x w' -> K (a.put o.dst x) w') : o.wp P a w K Q := by
 obtain ⟨t, y, lo', hi', ho, ht, hx, hlo, hhi⟩ := qgd hok;simp only [aop] at h;have hr := qf hf hx;have rlo := qbK hf hlo;have rhi := qbK hf hhi;generalize x.ev fr = v at h hr;unfold sliceArrK at h;obtain ⟨l, h1, h⟩ := qd h;obtain ⟨h', h2, h3, h4, hn, hsz, hmx, h⟩ := qd h;have hb := qeC (P := P) (b := false) (w := w) (len := n) (cap := n) (m := n) (mx := none) (xmx := none) rlo rhi rfl h1 h2 rfl (by intro h; cases h) h3 h4 (Nat.le_refl _)
 have fin : ∀ {ad : Addr} {u : LV}, a.eval y = .pointer (some ad) -> k u H none True -> LVal M ρ u (.slice (some (if n = l then ad else ad.add (l * sz))) (h' - l) (n - l)) -> o.wp P a w K Q := by
  intro ad u ey hk hu;have hrun := qmM ht (ad := ad) hb;exact qc (by simp [execOp, ho, ey, hrun]) (hK _ _ _ _ _ _ hk trivial (qg hI hu))
 have hsub : l * sz + (h' - l) * sz = h' * sz := by rw [<- Nat.add_mul]; congr 1; omega
 have hsubn : l * sz + (n - l) * sz = n * sz := by rw [<- Nat.add_mul]; congr 1; omega
 have hle := Nat.mul_le_mul_right sz h4
 split at h
 next cs _ _ =>
  obtain ⟨hfit, h⟩ := h;rw [qi] at hr;have hc := hr.one rfl;simp only [CRel] at hc;obtain ⟨b, of, ws, e, hc, hat⟩ := hc;have ey : a.eval y = .pointer (some ⟨b, of, none⟩) := by simpa using e
  have hdl : (h' - l) * sz <= (cs.drop (l * sz)).length := by rw [List.length_drop]; omega
  have hsl : CRel M (.slice (elems sz (h' - l) (cs.drop (l * sz)))) [.slice (some (if n = l then (⟨b, of, none⟩ : Addr) else (⟨b, of, none⟩ : Addr).add (l * sz))) (h' - l) (n - l)] := by
   simp only [CRel];refine ⟨_, _, _, rfl, (qbV hdl).symm, by omega, by omega, ?_⟩
   by_cases hnl : n = l
   ·left
    have : h' - l = 0 := by omega
    exact List.eq_nil_of_length_eq_zero (by rw [qbV hdl]; exact this)
   ·right
    obtain ⟨uss, h5, h6, h7⟩ := qbU hsz (len := h' - l) (cs := cs.drop (l * sz)) (us := ws.drop (l * sz)) (by rw [qv]; exact hc.drop _) hdl
    exact ⟨b, of + l * sz, sz, uss, by rw [if_neg hnl, Addr.add_lit], h5, h6, by rw [h7]; exact qdQ (qbh hat)⟩
  refine fin ey h ?_
  split
  ·rename_i e2
   exact qh (by simp only [LRel]; exact ⟨_, n - l, by rw [e2], hsl⟩) rfl
  ·rw [qi]; exact qj hsl rfl
 next b off _ _ =>
  obtain ⟨hfit, h⟩ := h;have h0 := hr.one rfl (by simp)
  simp only [LRel] at h0;obtain ⟨cb, sh, m, hρ, e⟩ := h0;have ey : a.eval y = .pointer (some ⟨cb, sh + off, none⟩) := by simpa using e
  have hfit' : sh + off + n * sz <= m := by
   unfold arrFits at hfit
   split at hfit
   next cs hb =>
    obtain ⟨r, h5, h6⟩ := hI.rel.spot hb;rw [hρ] at h5; cases h5;simp only [BRel] at h6;obtain ⟨c, T, _, _, h7, h8, _⟩ := h6;omega
   next cs hb =>
    obtain ⟨r, h5, h6⟩ := hI.rel.spot hb;rw [hρ] at h5; cases h5;simp only [BRel] at h6;obtain ⟨c, T, _, _, h7, _⟩ := h6;omega
   next => cases hfit
  refine fin ey h (qh ?_ rfl);simp only [LRel];refine ⟨.here cb sh m, _, _, hρ, by simp, rfl, by omega, by omega, hsz, fun hc => by have := of_decide_eq_true hc; omega, ?_⟩
  by_cases hnl : n = l
  ·left; omega
  ·exact .inr ⟨cb, sh, m, rfl, by rw [if_neg hnl]; simp [Addr.add_lit, Nat.add_assoc], by omega⟩
 next => cases h
theorem qK {b : SV} {x : Value} (h : CRel M b [x]) : (b.tag = .bool -> ∃ c, b = .bool c /\ x = .bool c) /\ (∀ K, b.tag = .int K -> ∃ n, b = .int K n /\ x = .int K n) /\ (b.tag = .str -> ∃ s, b = .str s /\ x = .string s) := by
 cases b <;> simp only [CRel] at h <;> simp only [SV.tag] <;> refine ⟨?_, ?_, ?_⟩ <;> intros <;> simp_all
open Classical in
theorem qeW {t : TypeId} {g : Tag} (ht : tagOf P t = some g) {c d : SV} {x y : Value} (hc : CRel M c [x]) (hd : CRel M d [y]) (hcg : c.tag = g) (hdg : d.tag = g) (dd : Nat) (w : World) :
  aggTy P t = some false /\ (Op.equalIn (dd + 1) t x y).run P w = .ok (decide (c = d)) w := by
 unfold tagOf at ht
 split at ht
 next hu =>
  cases ht
  obtain ⟨b, rfl, rfl⟩ := (qK hc).1 hcg;obtain ⟨b', rfl, rfl⟩ := (qK hd).1 hdg;refine ⟨by simp [aggTy, hu], ?_⟩
  rw [run_equalIn_bool w dd t b b' hu]
  congr 1
  rw [Bool.eq_iff_iff]; simp
 next K hu =>
  cases ht
  obtain ⟨b, rfl, rfl⟩ := (qK hc).2.1 K hcg;obtain ⟨b', rfl, rfl⟩ := (qK hd).2.1 K hdg;refine ⟨by simp [aggTy, hu], ?_⟩
  rw [run_equalIn_int w dd t K K b b' hu]
  congr 1
  rw [Bool.eq_iff_iff]; simp
 next hu =>
  cases ht
  obtain ⟨b, rfl, rfl⟩ := (qK hc).2.2 hcg;obtain ⟨b', rfl, rfl⟩ := (qK hd).2.2 hdg;refine ⟨by simp [aggTy, hu], ?_⟩
  rw [run_equalIn_string w dd t b b' hu, ByteArray.toList_eq, ByteArray.toList_eq]
  congr 1
  rw [Bool.eq_iff_iff];obtain ⟨⟨x⟩⟩ := b;obtain ⟨⟨y⟩⟩ := b';simp
 next => cases ht
theorem CRelC.split {c : SV} {cs : List SV} {n : Nat} {ds : List SV} {xs : List Value} (h : CRelC M ds (ones xs)) (hd : ds.drop n = c :: cs) : ∃ x, xs[n]? = some x /\ CRel M c [x] /\ ds.drop (n + 1) = cs := by
 have h1 : ds[n]? = some c := by
  have := congrArg (·[0]?) hd
  simpa [List.getElem?_drop] using this
 obtain ⟨u, hu, hcu⟩ := h.get h1;simp only [ones_get?, Option.map_eq_some_iff] at hu;obtain ⟨x, hx, rfl⟩ := hu;refine ⟨x, hx, hcu, ?_⟩;rw [<- List.drop_drop, hd]; rfl
open Classical in
theorem qde {cs ds : List SV} {xs ys : List Value} (hc : CRelC M cs (ones xs)) (hd : CRelC M ds (ones ys)) (dd : Nat) (w : World) : ∀ {fs : List Field} {n : Nat} {ts : List Tag}, tagsF P n fs = some ts -> (cs.drop n).map SV.tag = ts -> (ds.drop n).map SV.tag = ts ->
  (Op.eqFields (dd + 1) xs.toArray ys.toArray fs).run P w = .ok (decide (cs.drop n = ds.drop n)) w
 | [], n, ts, h, h1, h2 => by
  simp only [tagsF, Option.some.injEq] at h;subst h;rw [List.map_eq_nil_iff] at h1 h2;simp [Op.eqFields, h1, h2]
 | f :: fs, n, ts, h, h1, h2 => by
  simp only [tagsF] at h
  split at h
  next g hg =>
   split at h
   next hoff =>
    obtain ⟨rfl, hname⟩ := hoff;simp only [Option.map_eq_some_iff] at h;obtain ⟨ts', hts, rfl⟩ := h;rw [List.map_eq_cons_iff] at h1 h2;obtain ⟨c, cs', hce, hct, hcs⟩ := h1;obtain ⟨d, ds', hde, hdt, hds⟩ := h2;obtain ⟨x, hx, hcx, hc1⟩ := hc.split hce;obtain ⟨y, hy, hdy, hd1⟩ := hd.split hde;obtain ⟨ha, heq⟩ := qeW (P := P) hg hcx hdy hct hdt dd w;have ih := qde hc hd dd w hts (by rw [hc1]; exact hcs) (by rw [hd1]; exact hds)
    rw [hc1, hd1] at ih;have hpx : (part f.type xs.toArray f.offset).run P w = .ok x w := by simp [part, qQ ha, hx]
    have hpy : (part f.type ys.toArray f.offset).run P w = .ok y w := by simp [part, qQ ha, hy]
    simp only [Op.eqFields, hname, ne_eq, not_false_eq_true, if_true, Sem.run_bind, hpx, hpy, heq, Result.andThen_ok];rw [hce, hde]
    by_cases hcd : c = d
    ·subst hcd
     simp [ih]
    ·simp [hcd]
   next => cases h
  next => cases h
open Classical in
theorem qgf {e : TypeId} {g : Tag} (hg : tagOf P e = some g) {cs ds : List SV} {xs ys : List Value} (hc : CRelC M cs (ones xs)) (hd : CRelC M ds (ones ys)) (dd : Nat) (w : World) : ∀ {m n : Nat}, (cs.drop n).map SV.tag = List.replicate m g -> (ds.drop n).map SV.tag = List.replicate m g ->
  (Op.eqItems (dd + 1) e 1 xs.toArray ys.toArray (List.range' n m)).run P w = .ok (decide (cs.drop n = ds.drop n)) w
 | 0, n, h1, h2 => by
  rw [List.replicate_zero, List.map_eq_nil_iff] at h1 h2;simp [Op.eqItems, h1, h2]
 | m + 1, n, h1, h2 => by
  rw [List.replicate_succ, List.map_eq_cons_iff] at h1 h2;obtain ⟨c, cs', hce, hct, hcs⟩ := h1;obtain ⟨d, ds', hde, hdt, hds⟩ := h2;obtain ⟨x, hx, hcx, hc1⟩ := hc.split hce;obtain ⟨y, hy, hdy, hd1⟩ := hd.split hde;obtain ⟨ha, heq⟩ := qeW (P := P) hg hcx hdy hct hdt dd w;have ih := qgf hg hc hd dd w (m := m) (n := n + 1) (by rw [hc1]; exact hcs) (by rw [hd1]; exact hds)
  rw [hc1, hd1] at ih;have hpx : (part e xs.toArray (n * 1)).run P w = .ok x w := by simp [part, qQ ha, hx]
  have hpy : (part e ys.toArray (n * 1)).run P w = .ok y w := by simp [part, qQ ha, hy]
  simp only [List.range'_succ, Op.eqItems, Sem.run_bind, hpx, hpy, heq, Result.andThen_ok];rw [hce, hde]
  by_cases hcd : c = d
  ·subst hcd
   simp [ih]
  ·simp [hcd]
theorem qdf {ts : List Tag} {a b : SV} (h : eqOk ts true a b) : ∃ cs ds, a = .agg cs /\ b = .agg ds /\ cs.map SV.tag = ts /\ ds.map SV.tag = ts := by
 cases a <;> cases b <;> first | exact h.elim | exact ⟨_, _, rfl, rfl, h⟩
theorem qiq {ts : List Tag} {a b : SV} (h : eqOk ts false a b) : [a.tag] = ts /\ [b.tag] = ts := by
 cases a <;> cases b <;> exact h
open Classical in
theorem qmN (hI : MInv A n0 M0 ρ0 w0 M ρ H w) (hf : FRel M ρ fr a.tmps.toList) {ag ne : Bool} {ts : List Tag} {x y : AX} (hok : okOp P (.eql ag ts ne x y) o.op = true) (h : aop P n0 id fr H (.eql ag ts ne x y) k)
  (hK : ∀ v H' kl f x w', k v H' kl f -> f -> Nxt A n0 M0 ρ0 w0 M ρ id v H' kl x w' -> K (a.put o.dst x) w') : o.wp P a w K Q := by
 obtain ⟨t, x', y', u, ho, hx, hy, hg1, hg2, hts⟩ := qmJ hok;simp only [aop] at h;unfold eqlK at h;obtain ⟨c, hc, h⟩ := qd h;obtain ⟨d, hd, hok2, h⟩ := qd h;have hcr := qbz hI.rel (qf hf hx) hc;have hdr := qbz hI.rel (qf hf hy) hd
 -- the model's answer
 have hrun : ∃ vx vy, a.eval x' = vx /\ a.eval y' = vy /\ (eqGuard (if ne then .neq else .eql) t x' y' vx vy).run P w = .ok () w /\
   (binOp (if ne then .neq else .eql) t vx vy).run P w = .ok (.bool (if ne then !decide (c = d) else decide (c = d))) w := by
  cases ag with
  | true =>
   obtain ⟨cs, ds, rfl, rfl, hct, hdt⟩ := qdf hok2;obtain ⟨us, e1, hcu⟩ := hcr.agg;obtain ⟨vs, e2, hdv⟩ := hdr.agg;refine ⟨_, _, e1, e2, run_eqGuard_agg w _ t x' y' _ _ hg1, ?_⟩
   have key : (Op.equalIn 10000 t (.agg us.toArray) (.agg vs.toArray)).run P w = .ok (decide (SV.agg cs = SV.agg ds)) w := by
    have e3 : decide (SV.agg cs = SV.agg ds) = decide (cs = ds) := by rw [Bool.eq_iff_iff]; simp
    rw [e3];unfold tagsOf at hts
    split at hts
    ·rename_i hu; simp at hts
    ·rename_i hu; simp at hts
    ·rename_i hu; simp at hts
    ·rename_i n e hu
     split at hts
     ·rename_i g hg
      split at hts
      ·rename_i hsz
       simp only [Option.some.injEq, Prod.mk.injEq, true_and] at hts;subst hts;unfold szTy at hsz
       cases hi : P.info? e with
       | none => rw [hi] at hsz; cases hsz
       | some i =>
        rw [hi] at hsz;have hce : P.cellsOf e = 1 := by simp [Program.cellsOf, hi] at hsz ⊢; exact hsz
        rw [run_equalIn_array w 9999 _ _ hu hi, hce, List.range_eq_range'];have := qgf (P := P) hg hcu hdv 9998 w (m := n) (n := 0) (by simpa using hct) (by simpa using hdt)
        simpa using this
      ·cases hts
     ·cases hts
    ·rename_i fs hu
     simp only [Option.map_eq_some_iff] at hts;obtain ⟨ts', h1, h2⟩ := hts;simp only [Prod.mk.injEq, true_and] at h2;subst h2;have hfo : P.fieldsOf t = fs := by simp [Program.fieldsOf, hu]
     rw [run_equalIn_struct w 9999 t _ _ (by rw [hfo]; exact hu) hg2, hfo]
     have := qde (P := P) hcu hdv 9998 w h1 (by simpa using hct) (by simpa using hdt)
     simpa using this
    ·cases hts
   cases ne with
   | true => simp only [if_true]; rw [run_neq_struct, key]; rfl
   | false => simp only [Bool.false_eq_true, if_false]; rw [run_eql_struct, key]; rfl
  | false =>
   obtain ⟨hct, hdt⟩ := qiq hok2
   have hleaf : ∃ g, tagOf P t = some g /\ c.tag = g /\ d.tag = g := by
    unfold tagsOf at hts
    split at hts
    ·rename_i hu; simp only [Option.map_eq_some_iff, Prod.mk.injEq, true_and] at hts; obtain ⟨g, h1, h2⟩ := hts; rw [<- h2] at hct hdt; simp at hct hdt; exact ⟨g, h1, hct, hdt⟩
    ·rename_i hu; simp only [Option.map_eq_some_iff, Prod.mk.injEq, true_and] at hts; obtain ⟨g, h1, h2⟩ := hts; rw [<- h2] at hct hdt; simp at hct hdt; exact ⟨g, h1, hct, hdt⟩
    ·rename_i hu; simp only [Option.map_eq_some_iff, Prod.mk.injEq, true_and] at hts; obtain ⟨g, h1, h2⟩ := hts; rw [<- h2] at hct hdt; simp at hct hdt; exact ⟨g, h1, hct, hdt⟩
    ·split at hts
     ·split at hts
      ·simp at hts
      ·cases hts
     ·cases hts
    ·simp only [Option.map_eq_some_iff, Prod.mk.injEq] at hts
     obtain ⟨_, _, h2, _⟩ := hts; cases h2
    ·cases hts
   obtain ⟨g, hg, hcg, hdg⟩ := hleaf
   have hna : ∀ {z : SV}, z.tag = g -> z.isAgg = false := by
    intro z hz
    cases z <;> first | rfl | (simp only [SV.tag] at hz; subst hz; unfold tagOf at hg; split at hg <;> cases hg)
   have h1 := hcr.one (hna hcg);have h2 := hdr.one (hna hdg);obtain ⟨_, hrun⟩ := qeW (P := P) hg h1 h2 hcg hdg 9999 w;refine ⟨_, _, rfl, rfl, ?_, ?_⟩
   ·unfold tagOf at hg
    split at hg <;> first | (cases hg; done) | skip
    all_goals cases hg
    ·obtain ⟨_, _, e⟩ := (qK h1).1 hcg; rw [e]; cases ne <;> simp [eqGuard]
    ·obtain ⟨_, _, e⟩ := (qK h1).2.1 _ hcg; rw [e]; cases ne <;> simp [eqGuard]
    ·obtain ⟨_, _, e⟩ := (qK h1).2.2 hcg; rw [e]; cases ne <;> simp [eqGuard]
   ·unfold tagOf at hg
    split at hg <;> first | (cases hg; done) | skip
    all_goals cases hg
    ·obtain ⟨b, rfl, e⟩ := (qK h1).1 hcg
     obtain ⟨b', rfl, e'⟩ := (qK h2).1 hdg;rw [e, e'] at hrun ⊢
     cases ne <;> simp [binOp, Op.equal, Op.maxDepth, hrun]
    ·obtain ⟨b, rfl, e⟩ := (qK h1).2.1 _ hcg
     obtain ⟨b', rfl, e'⟩ := (qK h2).2.1 _ hdg;rw [e, e'];have hbe : (b == b') = decide (b = b') := by rw [Bool.eq_iff_iff]; simp
     cases ne <;> simp [binOp, Op.intCmp, hbe, bne]
    ·obtain ⟨b, rfl, e⟩ := (qK h1).2.2 hcg
     obtain ⟨b', rfl, e'⟩ := (qK h2).2.2 hdg;rw [e, e']
     have hbe : (b.toList == b'.toList) = decide (b = b') := by
      rw [ByteArray.toList_eq, ByteArray.toList_eq, Bool.eq_iff_iff];obtain ⟨⟨x⟩⟩ := b;obtain ⟨⟨y⟩⟩ := b';simp
     cases ne <;> simp [binOp, Op.stringOp, hbe]
 obtain ⟨vx, vy, e1, e2, hgd, hb⟩ := hrun
 cases ne with
 | true =>
  refine qc (x := .bool (!decide (c = d))) (w' := w) ?_ (hK _ _ _ _ _ _ h trivial (qg hI qal));simp only [if_true] at hgd hb ho;simp only [execOp, ho, e1, e2, Sem.run_bind, hgd, hb, Result.andThen_ok, Sem.run_pure]
 | false =>
  refine qc (x := .bool (decide (c = d))) (w' := w) ?_ (hK _ _ _ _ _ _ h trivial (qg hI qal));simp only [Bool.false_eq_true, if_false] at hgd hb ho;simp only [execOp, ho, e1, e2, Sem.run_bind, hgd, hb, Result.andThen_ok, Sem.run_pure]
theorem qcF (hI : MInv A n0 M0 ρ0 w0 M ρ H w) {v : LV} {x : Value} {ys : List SV} (hr : LVal M ρ v x) (he : elemsOf H v = some ys) :
  ∃ ad cap uss, x = .slice ad ys.length cap /\ ys.length <= cap /\ cap <= maxLen /\ CRelC M ys uss /\
   (ys = [] \/ ∃ b o sz, ad = some ⟨b, o, none⟩ /\ (∀ u ∈ uss, u.length = sz) /\ ∀ (j : Nat) (u : Value), uss.flatten[j]? = some u -> w.cell? ⟨b, o + j, none⟩ = some u) := by
 have stab : ∀ ys : List SV, CRel M (.slice ys) [x] -> ∃ ad cap uss, x = .slice ad ys.length cap /\ ys.length <= cap /\ cap <= maxLen /\ CRelC M ys uss /\
   (ys = [] \/ ∃ b o sz, ad = some ⟨b, o, none⟩ /\ (∀ u ∈ uss, u.length = sz) /\ ∀ (j : Nat) (u : Value), uss.flatten[j]? = some u -> w.cell? ⟨b, o + j, none⟩ = some u) := by
  intro ys hc;simp only [CRel] at hc;obtain ⟨ad, len, cap, e, rfl, hlc, hcm, hx⟩ := hc
  rcases hx with rfl | ⟨b, of, sz, uss, rfl, hcc, hs, hat⟩
  ·exact ⟨ad, cap, [], by simpa using e, hlc, hcm, by simp [CRelC], .inl rfl⟩
  ·exact ⟨_, cap, uss, by simpa using e, hlc, hcm, hcc, .inr ⟨b, of, sz, rfl, hs, hI.rel.at_cells hat⟩⟩
 unfold elemsOf at he
 split at he
 next xs => cases he; rw [qi] at hr; exact stab _ (hr.one rfl)
 next xs =>
  cases he
  have h1 := hr.one rfl (by simp)
  simp only [LRel] at h1;obtain ⟨_, _, _, h2⟩ := h1;exact stab _ h2
 next b off len sz c =>
  have h1 := hr.one rfl (by simp)
  simp only [LRel] at h1;obtain ⟨r, ad, cap, hρ, hg, e, hlc, hcm, hpos, _, hcap⟩ := h1
  -- the block's cells
  have key : ∃ cs, blkCells (frz []) H[b]? = some cs /\ ((r = .empty /\ cs = []) \/ ∃ cb sh n ws, r = .here cb sh n /\ CRelC M cs (ones ws) /\ ∀ (j : Nat) (u : Value), ws[j]? = some u -> w.cell? ⟨cb, sh + j, none⟩ = some u) := by
   cases hb : H[b]? with
   | none => rw [hb] at he; cases he
   | some B =>
    rw [hb] at he;obtain ⟨r', h2, h3⟩ := hI.rel.spot hb;rw [hρ] at h2; cases h2
    cases B <;> cases r <;> simp only [BRel] at h3 <;> first | (exact h3.elim) | (cases he; done) | skip
    case obj.here cs cb sh n =>
     simp only [blkCells] at he ⊢
     cases hfz : frzAll (frz []) cs with
     | none => rw [hfz] at he; cases he
     | some ss =>
      obtain ⟨c, T, h4, h5, h6, h7, h8, h9⟩ := h3;subst h7;refine ⟨ss, rfl, .inr ⟨cb, 0, n, c.toList, rfl, ?_, fun j u hj => by rw [heap_cell? h4]; simpa using hj⟩⟩
      exact qby (fun v us sv h1 h2 => qef (H := []) M.le_refl (fun i B r h => by simp at h) 4 v us sv h1 h2) h8 hfz
    case row.empty cs => exact ⟨cs, rfl, .inl ⟨rfl, h3⟩⟩
    case row.here cs cb sh n =>
     obtain ⟨c, T, h4, h5, h6, h8, h9⟩ := h3;exact ⟨cs, rfl, .inr ⟨cb, sh, n, _, rfl, h8, fun j u hj => by rw [heap_cell? h4]; simpa using qG j u hj⟩⟩
    case frz.empty cs => exact ⟨cs, rfl, .inl ⟨rfl, h3⟩⟩
    case frz.here cs cb sh n =>
     obtain ⟨us, h8, h9⟩ := h3;exact ⟨cs, rfl, .inr ⟨cb, sh, n, us, rfl, h8, hI.rel.at_cells h9⟩⟩
  obtain ⟨cs, hcs, hcase⟩ := key;rw [hcs] at he;simp only [Option.bind_some, rowOf] at he
  split at he
  next hfit =>
   cases he
   have hdl : len * sz <= (cs.drop off).length := by rw [List.length_drop]; omega
   have hlen := qbV hdl;have ex : x = .slice ad len cap := by simpa using e
   rcases hcap with h0 | ⟨cb, sh, n, rfl, rfl, hfit'⟩
   ·refine ⟨ad, cap, [], by rw [hlen]; exact ex, by omega, hcm, ?_, .inl (List.eq_nil_of_length_eq_zero (by omega))⟩
    rw [List.eq_nil_of_length_eq_zero (l := elems sz len (cs.drop off)) (by omega)]
    simp [CRelC]
   ·rcases hcase with ⟨e', _⟩ | ⟨cb', sh', n', ws, e', h5, h6⟩
    ·cases e'
    ·cases e'
     obtain ⟨uss, h7, h8, h9⟩ := qbU hpos (len := len) (cs := cs.drop off) (us := ws.drop off) (by rw [qv]; exact h5.drop off) hdl
     refine ⟨_, cap, uss, by rw [hlen]; exact ex, by omega, hcm, h7, .inr ⟨cb, sh + off, sz, rfl, h8, fun j u hj => ?_⟩⟩
     rw [h9, List.getElem?_take] at hj
     split at hj
     ·rw [List.getElem?_drop] at hj
      have := h6 _ u hj
      rwa [<- Nat.add_assoc] at this
     ·cases hj
  next => cases he
 next => cases he
theorem qjk (hI : MInv A n0 M0 ρ0 w0 M ρ H w) (hf : FRel M ρ fr a.tmps.toList) {ne : Bool} {x : AX} (hok : okOp P (.eqNil ne x) o.op = true) (h : aop P n0 id fr H (.eqNil ne x) k)
  (hK : ∀ v H' kl f x w', k v H' kl f -> f -> Nxt A n0 M0 ρ0 w0 M ρ id v H' kl x w' -> K (a.put o.dst x) w') : o.wp P a w K Q := by
 obtain ⟨t, x', u, e, ho, hx, hu⟩ := qji hok;simp only [aop] at h;have hr := qf hf hx;generalize x.ev fr = v at h hr
 cases hel : elemsOf H v with
 | none => rw [hel] at h; exact h.elim
 | some xs =>
  rw [hel] at h;simp only [eqNilK] at h;obtain ⟨ad, cap, uss, ey, hlc, hcm, hcc, hxs⟩ := qcF hI hr hel;have e2 : a.eval (.const (.slice none 0 0)) = .slice none 0 0 := rfl
  have hrun : (execOp a.eval o).run P w = .ok (.value (.bool (if ne then !ad.isNone else ad.isNone))) w := by
   cases ne <;> (simp only [Bool.false_eq_true, if_false, if_true] at ho ⊢; simp [execOp, ho, ey, e2, eqGuard, binOp, run_equal_slice_nil w t e ad xs.length cap hu])
  refine qc hrun (hK (.s (.bool (if ne then !ad.isNone else ad.isNone))) H none True _ _ ?_ trivial (qg hI qal))
  cases ad with
  | none =>
   have hx0 : xs = [] := by
    rcases hxs with h1 | ⟨_, _, _, h1, _⟩
    ·exact h1
    ·cases h1
   have := h.1 hx0
   cases ne <;> simpa [boolK] using this
  | some ad =>
   have := h.2
   cases ne <;> simpa [boolK] using this
theorem qcb {Kd : IntKind} : ∀ {vs : List LV} {ns : List Int} {xs : List Value}, FRel M ρ vs xs -> intsOf Kd vs = some ns -> xs = ns.map (.int Kd)
 | [], ns, xs, h, hi => by simp [FRel] at h; simp [intsOf] at hi; subst h; subst hi; rfl
 | v :: vs, ns, xs, h, hi => by
  obtain ⟨y, ys, rfl, h1, h2⟩ := h;unfold intsOf at hi
  split at hi
  ·rename_i e; cases e
  ·rename_i K' n vs' e
   cases e
   split at hi
   ·rename_i hk
    subst hk
    split at hi
    ·rename_i ns' hns
     cases hi
     rw [qu rfl h1, qcb h2 hns]; rfl
    ·cases hi
   ·cases hi
  ·cases hi
theorem qmO (hI : MInv A n0 M0 ρ0 w0 M ρ H w) (hf : FRel M ρ fr a.tmps.toList) {args : List AX} (hok : okOp P (.max args) o.op = true) (h : aop P n0 id fr H (.max args) k)
  (hK : ∀ v H' kl f x w', k v H' kl f -> f -> Nxt A n0 M0 ρ0 w0 M ρ id v H' kl x w' -> K (a.put o.dst x) w') : o.wp P a w K Q := by
 obtain ⟨xs, ts, ho, hx⟩ := qmK hok;simp only [aop] at h;generalize kindOf (args.map (·.ev fr)) = Kd at h;obtain ⟨ns, hns, hne, h⟩ := qd h;have hv := qcb (qE hf hx) hns
 cases ns with
 | nil => exact absurd rfl hne
 | cons n ns =>
  have fold : ∀ (ns : List Int) (n : Int), ((ns.map (Value.int Kd)).foldlM Builtin.max2 (.int Kd n)).run P w = .ok (.int Kd (ns.foldl (fun a b => if b > a then b else a) n)) w := by
   intro ns
   induction ns with
   | nil => intro n; rfl
   | cons m ms ih => intro n; simp only [List.map_cons, List.foldlM_cons, Sem.run_bind, Builtin.max2, Sem.run_pure, Result.andThen_ok, List.foldl_cons]; exact ih _
  refine qc (x := .int Kd (maxL (n :: ns))) (w' := w) ?_ (hK _ _ _ _ _ _ h trivial (qg hI qq))
  have hrun : (Builtin.max_ ts o.type (xs.map a.eval)).run P w = .ok (.int Kd (maxL (n :: ns))) w := by
   unfold Builtin.max_;rw [Array.toList_map, hv];exact fold ns n
  simp [execOp, ho, resolve, invoke, builtin, hrun]
theorem qmP (hI : MInv A n0 M0 ρ0 w0 M ρ H w) (hf : FRel M ρ fr a.tmps.toList) {args : List AX} (hok : okOp P (.min args) o.op = true) (h : aop P n0 id fr H (.min args) k)
  (hK : ∀ v H' kl f x w', k v H' kl f -> f -> Nxt A n0 M0 ρ0 w0 M ρ id v H' kl x w' -> K (a.put o.dst x) w') : o.wp P a w K Q := by
 obtain ⟨xs, ts, ho, hx⟩ := qmL hok;simp only [aop] at h;generalize kindOf (args.map (·.ev fr)) = Kd at h;obtain ⟨ns, hns, hne, h⟩ := qd h;have hv := qcb (qE hf hx) hns
 cases ns with
 | nil => exact absurd rfl hne
 | cons n ns =>
  have fold : ∀ (ns : List Int) (n : Int), ((ns.map (Value.int Kd)).foldlM Builtin.min2 (.int Kd n)).run P w = .ok (.int Kd (ns.foldl (fun a b => if b < a then b else a) n)) w := by
   intro ns
   induction ns with
   | nil => intro n; rfl
   | cons m ms ih => intro n; simp only [List.map_cons, List.foldlM_cons, Sem.run_bind, Builtin.min2, Sem.run_pure, Result.andThen_ok, List.foldl_cons]; exact ih _
  refine qc (x := .int Kd (minL (n :: ns))) (w' := w) ?_ (hK _ _ _ _ _ _ h trivial (qg hI qq))
  have hrun : (Builtin.min_ ts o.type (xs.map a.eval)).run P w = .ok (.int Kd (minL (n :: ns))) w := by
   unfold Builtin.min_;rw [Array.toList_map, hv];exact fold ns n
  simp [execOp, ho, resolve, invoke, builtin, hrun]
end
section inversion
variable {P : Program} {o : Op}
theorem qfa {x : AX} {args : List AX} (h : okOp P (.callv x args) o = true) : ∃ y xs ts, o = .call { callee := .value y, args := xs, argTypes := ts } /\ okX x y = true /\ okXs args xs.toList = true := by
 cases o <;> first | exact Bool.noConfusion (show false = true from h) | skip
 rename_i c
 obtain ⟨callee, xs, ts⟩ := c
 cases callee <;> first | exact Bool.noConfusion (show false = true from h) | skip
 simp only [okOp, Bool.and_eq_true] at h;exact ⟨_, xs, ts, rfl, h.1, h.2⟩
theorem qgg {f : FuncId} {args : List AX} (h : okOp P (.call f args) o = true) : ∃ xs ts, o = .call { callee := .value (.func f), args := xs, argTypes := ts } /\ okXs args xs.toList = true /\ okFn P f = true := by
 cases o <;> first | exact Bool.noConfusion (show false = true from h) | skip
 rename_i c
 obtain ⟨callee, xs, ts⟩ := c
 cases callee <;> first | exact Bool.noConfusion (show false = true from h) | skip
 rename_i y
 cases y <;> first | exact Bool.noConfusion (show false = true from h) | skip
 simp only [okOp, Bool.and_eq_true, beq_iff_eq] at h;obtain ⟨⟨rfl, h1⟩, h2⟩ := h;exact ⟨xs, ts, rfl, h1, h2⟩
theorem qjl {sz : Nat} {f : FuncId} {args : List AX} (h : okOp P (.callN sz f args) o = true) : ∃ xs ts, o = .call { callee := .value (.func f), args := xs, argTypes := ts } /\ okXs args xs.toList = true /\ okFn P f = true := by
 cases o <;> first | exact Bool.noConfusion (show false = true from h) | skip
 rename_i c
 obtain ⟨callee, xs, ts⟩ := c
 cases callee <;> first | exact Bool.noConfusion (show false = true from h) | skip
 rename_i y
 cases y <;> first | exact Bool.noConfusion (show false = true from h) | skip
 simp only [okOp, Bool.and_eq_true, beq_iff_eq] at h;obtain ⟨⟨rfl, h1⟩, h2⟩ := h;exact ⟨xs, ts, rfl, h1, h2⟩
theorem qjm {f : FuncId} {args : List AX} (h : okOp P (.callI f args) o = true) : ∃ xs ts, o = .call { callee := .value (.func f), args := xs, argTypes := ts } /\ okXs args xs.toList = true /\ okFn P f = true := by
 cases o <;> first | exact Bool.noConfusion (show false = true from h) | skip
 rename_i c
 obtain ⟨callee, xs, ts⟩ := c
 cases callee <;> first | exact Bool.noConfusion (show false = true from h) | skip
 rename_i y
 cases y <;> first | exact Bool.noConfusion (show false = true from h) | skip
 simp only [okOp, Bool.and_eq_true, beq_iff_eq] at h;obtain ⟨⟨rfl, h1⟩, h2⟩ := h;exact ⟨xs, ts, rfl, h1, h2⟩
theorem qgh {f : FuncId} (h : okFn P f = true) : ∃ fn, P.funcs[f]? = some fn /\ fn.body.isNone = false /\ (fn.name == "runtime.NumGoroutine") = false := by
 unfold okFn at h
 split at h
 next fn hf =>
  simp only [Bool.and_eq_true, Bool.not_eq_true'] at h;exact ⟨fn, hf, by cases hb : fn.body <;> simp_all, h.2⟩
 next => cases h
end inversion
section
variable {P : Program} {A : Nat -> Obj -> Prop} {dfs : List Deferred} {M0 : Mem} {ρ0 : Env} {w0 : World} {M : Mem} {ρ : Env} {H : List ABlock} {w : World} {o : Oper} {a : Act} {K : Act -> World -> Prop} {Q : Exit -> Act -> World -> Prop} {fr : List LV} {k : AK} {n0 id : Nat}
theorem qam {f : FuncId} {y : Operand} {xs : Array Operand} {ts : Array TypeId} (hf : okFn P f = true) (ho : o.op = .call { callee := .value y, args := xs, argTypes := ts }) {first caps : Array Value} (hy : a.eval y = .func (.func f) first caps) :
  (execOp a.eval o).run P w = .ok (.enter f (first ++ xs.map a.eval ++ caps)) w := by
 obtain ⟨fn, h1, h2, h3⟩ := qgh hf;have h3' : ¬ fn.name = "runtime.NumGoroutine" := by simpa using h3
 have h2' : ¬ fn.body = none := fun e => by rw [e] at h2; cases h2
 simp [execOp, ho, resolve, hy, Deferred.ofValue, invoke, callFunc, run_program, h1, h2', h3']
theorem qaq {f : FuncId} {args : Array Value} (h : (execOp a.eval o).run P w = .ok (.enter f args) w) {R : Ending -> World -> Prop} (hc : Calls P f args w R) (hk : ∀ e w', R e w' -> ∃ v, e = .returned v /\ K (a.put o.dst v) w') : o.wp P a w K Q := by
 unfold Oper.wp;rw [h];refine Calls.mono hc fun e w' hr => ?_
 obtain ⟨v, rfl, hk⟩ := hk e w' hr;exact hk
theorem VRelL.flat {M : Mem} (M' : Mem) : ∀ {rs : List SV} {xs : List Value}, VRelL M rs xs -> rs.all SV.flat = true -> VRelL M' rs xs
 | [], _, h, _ => h
 | r :: rs, xs, h, hf => by
  obtain ⟨y, ys, rfl, h1, h2⟩ := h;simp only [List.all_cons, Bool.and_eq_true] at hf;exact ⟨y, ys, rfl, h1.flat M' hf.1, VRelL.flat M' h2 hf.2⟩
theorem qbl {rs : List SV} {xs : List Value} (h : VRelL M rs xs) : LVal M ρ (LV.ofResults rs) (retOf xs) := by
 match rs, xs, h with
 | [], _, h => simp only [VRelL] at h; subst h; exact qp (xs := []) rfl
 | [r], _, h =>
  obtain ⟨y, ys, rfl, h1, h2⟩ := h;simp only [VRelL] at h2;subst h2;exact qi.2 h1
 | r :: s :: rs, _, h =>
  have h0 := h;obtain ⟨y, ys, rfl, h1, h2⟩ := h;obtain ⟨z, zs, rfl, h3, h4⟩ := h2;exact qp h0
theorem qfb {M : Mem} {w w' : World} (hh : Holds M w) (ht : Touch [] w w') {cb : Nat} {c : Array Value} {T : TypeId} (hcb : w.heap.size <= cb) (hheap : w'.heap[cb]? = some (.cells c T (0, 0))) :
  M.le (M.lay cb c.toList) /\ Newer [] w M (M.lay cb c.toList) /\ Holds (M.lay cb c.toList) w' := by
 have hne : ∀ b o v, M.cell b o = some v -> b ≠ cb := fun b o v hv => Nat.ne_of_lt (Nat.lt_of_lt_of_le (World.block_lt_of_cell? w _ (hh.1 b o v hv)) hcb)
 refine ⟨⟨fun b o v hv => by simp only [Mem.lay, if_neg (hne b o v hv)]; exact hv, fun _ _ h => h⟩, ⟨fun b o v hv => ?_, fun _ _ h => .inl h⟩, ⟨fun b o v hv => ?_, (hh.grow ht).2⟩⟩
 ·simp only [Mem.lay] at hv
  split at hv
  ·rename_i e; subst e; exact .inr (.inl hcb)
  ·exact .inl hv
 ·simp only [Mem.lay] at hv
  split at hv
  ·rename_i e; subst e
   simp only [World.cell?, hheap]
   simpa using hv
  ·exact (hh.grow ht).1 b o v hv
theorem qfc {M M' : Mem} {xs : List SV} {c : Array Value} {sh cap cb : Nat} (hfl : flatE xs = xs) (hf : xs.all SV.flat1 = true) (hlc : xs.length <= cap) (hcm : cap <= maxLen)
  (hrel : CRelC M' (flatE xs) (ones ((c.toList.drop sh).take (flatE xs).length))) : CRel (M.lay cb c.toList) (.slice xs) [.slice (some ⟨cb, sh, none⟩) xs.length cap] := by
 simp only [CRel];rw [hfl] at hrel;refine ⟨_, _, _, rfl, rfl, hlc, hcm, .inr ⟨cb, sh, 1, _, rfl, CRelC.flat _ hrel hf, fun u hu => ?_, ?_⟩⟩
 ·simp only [ones, List.mem_map] at hu
  obtain ⟨a, _, rfl⟩ := hu;rfl
 ·intro j v hj
  rw [qc9, List.getElem?_take] at hj
  split at hj
  ·rw [List.getElem?_drop] at hj
   simp only [Mem.lay, if_true];exact hj
  ·cases hj
theorem qbq (hI : MInv A n0 M0 ρ0 w0 M ρ H w) {f : FuncId} {args : List LV} {vs : List Value} (hv : FRel M ρ args vs) (hrun : (execOp a.eval o).run P w = .ok (.enter f vs.toArray) w) (h : callK P H f args k)
  (hK : ∀ v H' kl f x w', k v H' kl f -> f -> Nxt A n0 M0 ρ0 w0 M ρ id v H' kl x w' -> K (a.put o.dst x) w') : o.wp P a w K Q := by
 obtain ⟨as, rs, has, hfn, hcase, hk⟩ := h
 rcases hcase with hflat | hst
 ·have hvs := qS (Mem.le_up M ρ w) (fun _ _ _ hB hρ => hI.rel.stab hB hρ) hv has
  refine qaq hrun (hfn (M.up ρ w) w vs hI.rel.holds_up hvs) fun e w' ⟨xs, M', he, hle, hh, hr, ht, hn⟩ => ⟨retOf xs, he, ?_⟩
  exact hK _ _ _ _ _ _ hk trivial ⟨M, ρ, hI.grow M.le_refl ht (Newer.refl _ _ _) (hI.rel.holds.grow ht), fun _ _ h => h, fun _ _ h => h, qbl (hr.flat M hflat)⟩
 rcases hst with hst | ⟨ys, rfl, hnew, hfl, hff⟩
 ·have hvs := qS (H := []) M.le_refl (fun i B r h => by simp at h) hv hst
  refine qaq hrun (hfn M w vs hI.rel.holds hvs) fun e w' ⟨xs, M', he, hle, hh, hr, ht, hn⟩ => ⟨retOf xs, he, ?_⟩
  exact hK _ _ _ _ _ _ hk trivial ⟨M', ρ, hI.grow hle ht hn hh, fun _ _ h => h, fun _ _ h => h.mono hle (Env.le_refl _), qbl hr⟩
 ·have hvs := qS (Mem.le_up M ρ w) (fun _ _ _ hB hρ => hI.rel.stab hB hρ) hv has
  have hvs2 : FRel (M.up ρ w) [] (as.map .s) vs := by
   have key : ∀ {as : List SV} {xs : List Value}, VRelL (M.up ρ w) as xs -> FRel (M.up ρ w) [] (as.map .s) xs := by
    intro as
    induction as with
    | nil => intro xs h; exact h
    | cons v as ih =>
     rintro xs ⟨y, ys, rfl, h1, h2⟩;exact ⟨y, ys, rfl, qi.2 h1, ih h2⟩
   exact key hvs
  refine qaq hrun (hnew (M.up ρ w) w vs hI.rel.holds_up hvs2) fun e w' ⟨ad, cap, M', he, hle, hh, ht, hn, hlc, hcm, hnil, hcap⟩ => ⟨_, he, ?_⟩
  have hone : ∀ {M2 : Mem} {x : Value}, CRel M2 (.slice ys) [x] -> LVal M2 ρ (LV.ofResults [.slice ys]) x := fun h => qbl (xs := [_]) ⟨_, [], rfl, ⟨_, h, rfl⟩, rfl⟩
  rcases hcap with h0 | ⟨cb, sh, c, T, rfl, hcb, hheap, hfit, hfree, hrel⟩
  ·have hy : ys = [] := List.length_eq_zero_iff.1 (by omega)
   subst hy;refine hK _ _ _ _ _ _ hk trivial ⟨M, ρ, hI.grow M.le_refl ht (Newer.refl _ _ _) (hI.rel.holds.grow ht), fun _ _ h => h, fun _ _ h => h, hone ?_⟩
   simp only [CRel];exact ⟨_, _, _, rfl, rfl, hlc, hcm, .inl trivial⟩
  ·obtain ⟨h1, h2, h3⟩ := qfb (M := M) hI.rel.holds ht hcb hheap
   exact hK _ _ _ _ _ _ hk trivial ⟨_, ρ, hI.grow h1 ht h2 h3, fun _ _ h => h, fun _ _ h => h.mono h1 (Env.le_refl _), hone (qfc hfl hff hlc hcm hrel)⟩
theorem qk5 (hI : MInv A n0 M0 ρ0 w0 M ρ H w) (hf : FRel M ρ fr a.tmps.toList) {f : FuncId} {args : List AX} (hok : okOp P (.call f args) o.op = true) (h : aop P n0 id fr H (.call f args) k)
  (hK : ∀ v H' kl f x w', k v H' kl f -> f -> Nxt A n0 M0 ρ0 w0 M ρ id v H' kl x w' -> K (a.put o.dst x) w') : o.wp P a w K Q := by
 obtain ⟨xs, ts, ho, hx, hfn⟩ := qgg hok;simp only [aop] at h;have hrun := qam (a := a) (w := w) hfn ho (first := #[]) (caps := #[]) rfl;refine qbq hI (qE hf hx) ?_ h hK;rw [hrun]; simp [<- Array.toList_map]
theorem q8 : ∀ {vs : List LV} {xs : List Value}, LRelC M ρ vs (ones xs) -> vs.all LV.isOne = true -> FRel M ρ vs xs
 | [], xs, h, _ => by
  simp only [LRelC] at h
  cases xs with
  | nil => rfl
  | cons => simp at h
 | v :: vs, xs, h, hn => by
  simp only [LRelC] at h;obtain ⟨u, us, e, h1, h2⟩ := h;simp only [List.all_cons, Bool.and_eq_true] at hn
  cases xs with
  | nil => simp at e
  | cons x xs =>
   simp only [qak, List.cons.injEq] at e;obtain ⟨rfl, rfl⟩ := e;exact ⟨x, xs, rfl, qh h1 (by cases v <;> simp_all [LV.isOne, LV.isAgg]), q8 h2 hn.2⟩
theorem qjn (hI : MInv A n0 M0 ρ0 w0 M ρ H w) (hf : FRel M ρ fr a.tmps.toList) {x : AX} {args : List AX} (hok : okOp P (.callv x args) o.op = true) (h : aop P n0 id fr H (.callv x args) k)
  (hK : ∀ v H' kl f x w', k v H' kl f -> f -> Nxt A n0 M0 ρ0 w0 M ρ id v H' kl x w' -> K (a.put o.dst x) w') : o.wp P a w K Q := by
 obtain ⟨y, xs, ts, ho, hx, hxs⟩ := qfa hok;simp only [aop] at h;have hr := qf hf hx;have hargs := qE hf hxs;generalize x.ev fr = v at h hr;unfold callvK at h
 split at h
 next g first caps =>
  obtain ⟨hfn, hone, h⟩ := h;rw [qi] at hr;have h1 := hr.one rfl;simp only [CRel] at h1;obtain ⟨fs, cs, e, hfs, hcs⟩ := h1;have ey : a.eval y = .func (.func g) fs.toArray cs.toArray := by simpa using e
  simp only [Bool.and_eq_true] at hone;refine qbq hI (((q8 (qO.2 hfs) hone.1).append hargs).append (q8 (qO.2 hcs) hone.2)) ?_ h hK;rw [qam hfn ho ey]; simp [<- Array.toList_map]
 next g first caps =>
  obtain ⟨hfn, hone, h⟩ := h;have h1 := hr.one rfl (by simp)
  simp only [LRel] at h1;obtain ⟨fs, cs, e, hfs, hcs⟩ := h1;have ey : a.eval y = .func (.func g) fs.toArray cs.toArray := by simpa using e
  simp only [Bool.and_eq_true] at hone;refine qbq hI (((q8 hfs hone.1).append hargs).append (q8 hcs hone.2)) ?_ h hK;rw [qam hfn ho ey]; simp [<- Array.toList_map]
 next => cases h
theorem qjo (hI : MInv A n0 M0 ρ0 w0 M ρ H w) (hf : FRel M ρ fr a.tmps.toList) {f : FuncId} {args : List AX} (hok : okOp P (.callI f args) o.op = true) (h : aop P n0 id fr H (.callI f args) k)
  (hK : ∀ v H' kl f x w', k v H' kl f -> f -> Nxt A n0 M0 ρ0 w0 M ρ id v H' kl x w' -> K (a.put o.dst x) w') : o.wp P a w K Q := by
 obtain ⟨xs, ts, ho, hx, hfn⟩ := qjm hok;simp only [aop] at h;obtain ⟨r, H', hsem, hk⟩ := h;have hrun := qam (a := a) (w := w) hfn ho (first := #[]) (caps := #[]) rfl;have hrun' : (execOp a.eval o).run P w = .ok (.enter f (xs.toList.map a.eval).toArray) w := by rw [hrun]; simp [<- Array.toList_map]
 refine qaq hrun' (hsem M ρ w _ hI.rel (qE hf hx)) fun e w' ⟨v, M', ρ', he, hI', hv⟩ => ⟨v, he, ?_⟩
 exact hK _ _ _ _ _ _ hk trivial ⟨M', ρ', hI.trans hI' (Nat.le_trans hI.nle hI.len), fun j _ h => hI'.gon j (List.getElem?_eq_some_iff.1 h).1 h, fun _ _ h => h.mono hI'.mem (hI'.le (Nat.le_refl _)), hv⟩
theorem qhK : ∀ {vs : List LV} {xs : List Value}, FRel M ρ vs xs -> vs.all LV.isSF = true -> FRel M [] vs xs
 | [], _, h, _ => h
 | v :: vs, xs, h, hs => by
  obtain ⟨y, ys, rfl, h1, h2⟩ := h;simp only [List.all_cons, Bool.and_eq_true] at hs;refine ⟨y, ys, rfl, ?_, qhK h2 hs.2⟩
  cases v <;> first | (cases hs.1; done) | skip
  ·rw [qi] at h1 ⊢; exact h1
  ·have h3 := h1.one rfl (by simp)
   simp only [LRel] at h3;exact qh (by simp only [LRel]; exact h3) rfl
theorem qeD : ∀ {vs : List SV} {xs : List Value}, VRelL M vs xs -> FRel M ρ (vs.map .s) xs
 | [], _, h => h
 | v :: vs, xs, h => by
  obtain ⟨y, ys, rfl, h1, h2⟩ := h;exact ⟨y, ys, rfl, qi.2 h1, qeD h2⟩
theorem qfd {args as : List LV} {xs : List Value} (h : FRel M ρ args xs) (ha : argsN args as) : FRel M [] as xs := by
 rcases ha with ⟨rfl, hs⟩ | ⟨vs, hv, rfl⟩
 ·exact qhK h hs
 ·exact qeD (qS (H := []) M.le_refl (fun i B r h => by simp at h) h hv)
theorem MInv.layE (h : MInv A n0 M0 ρ0 w0 M ρ H w) (hid : ρ0.length <= id) (hg : H[id]? = some .gone) : MInv A n0 M0 ρ0 w0 M (ρ.set id .empty) (H.set id (.row [])) w /\ Env.le ρ (ρ.set id .empty) := by
  obtain ⟨r, hr, hBr⟩ := h.rel.spot hg;have hr' : r = .gone := by cases r <;> simp only [BRel] at hBr; rfl
  subst hr';have hle : Env.le ρ (ρ.set id .empty) := Env.le_set hr;have hidl := (List.getElem?_eq_some_iff.1 hr).1
  have hh : ∀ {i cb sh n : Nat}, (ρ.set id .empty)[i]? = some (.here cb sh n) -> ρ[i]? = some (.here cb sh n) := fun {i cb sh n} hi => by
    rw [List.getElem?_set] at hi
    split at hi
    · cases hi
    · exact hi
  have hnle := h.nle
  have alive_set : ∀ {i cb sh n : Nat}, (ρ.set id .empty)[i]? = some (.here cb sh n) -> (H.set id (.row []))[i]? ≠ some (.frz []) -> H[i]? ≠ some (.frz []) := fun {i cb sh n} hi ha => by
    rw [List.getElem?_set] at hi
    split at hi
    · cases hi
    · rename_i e; rwa [List.getElem?_set_ne e] at ha
  refine ⟨{ rel := ⟨by simp [h.rel.len], fun i B r hB hr2 => ?_, fun i j cb sh n cb' sh' n' hij hi hj a1 a2 => h.rel.inj i j cb sh n cb' sh' n' hij (hh hi) (hh hj) (alive_set hi a1) (alive_set hj a2), fun i cb sh n hi => h.rel.lt i cb sh n (hh hi), h.rel.cells, h.rel.maps⟩,
            mem := h.mem, nle := h.nle, len := by simpa using h.len, env := fun i r hi hne h0 => ?_, gon := fun i hi h0 => ?_, touch := h.touch, newer := h.newer, fresh := fun i cb sh n hi hk => h.fresh i cb sh n hi (hh hk), alien := fun k o ho => ⟨(h.alien k o ho).1, (h.alien k o ho).2.1, fun ⟨i, sh, n, hi⟩ => (h.alien k o ho).2.2 ⟨i, sh, n, hh hi⟩⟩ }, hle⟩
  · by_cases e : id = i
    · subst e
      rw [List.getElem?_set_self (by rw [<- h.rel.len]; exact hidl)] at hB
      rw [List.getElem?_set_self hidl] at hr2
      cases hB; cases hr2
      simp [BRel]
    · rw [List.getElem?_set_ne e] at hB hr2
      exact BRel.mono (h.rel.blk i B r hB hr2) (Mem.le_refl _) hle fun _ _ _ _ => ⟨fun _ k => k, fun k => k⟩
  · rw [List.getElem?_set_ne (by omega)]; exact h.env i r hi hne h0
  · rw [List.getElem?_set_ne (by omega)]; exact h.gon i hi h0
theorem qjp (hI : MInv A n0 M0 ρ0 w0 M ρ H w) (hf : FRel M ρ fr a.tmps.toList) (hid : ρ0.length <= id) {sz : Nat} {f : FuncId} {args : List AX} (hok : okOp P (.callN sz f args) o.op = true) (h : aop P n0 id fr H (.callN sz f args) k)
  (hK : ∀ v H' kl f x w', k v H' kl f -> f -> Nxt A n0 M0 ρ0 w0 M ρ id v H' kl x w' -> K (a.put o.dst x) w') : o.wp P a w K Q := by
 obtain ⟨xs, ts, ho, hx, hfn⟩ := qjl hok;simp only [aop] at h
 rcases h with h | h
 ·obtain ⟨as, hnew, has, hsz, hg, h⟩ := h
  have hrun := qam (a := a) (w := w) hfn ho (first := #[]) (caps := #[]) rfl;have hrun' : (execOp a.eval o).run P w = .ok (.enter f (xs.toList.map a.eval).toArray) w := by rw [hrun]; simp [<- Array.toList_map]
  have hvs := qfd (qE hf hx) has;refine qaq hrun' (hnew M w _ hI.rel.holds hvs) fun e w' ⟨ad, cap, M', he, hle, hh, ht, hn, hcm, hcap⟩ => ⟨_, he, ?_⟩
  have hidl : id < ρ.length := by rw [hI.rel.len]; exact (List.getElem?_eq_some_iff.1 hg).1
  rcases hcap with rfl | ⟨cb, sh, c, T, rfl, hcb, hheap, hfit, hfree⟩
  ·obtain ⟨h8, h9⟩ := (hI.grow hle ht hn hh).layE hid hg
   refine hK _ _ _ _ _ _ h trivial ⟨M', _, h8, fun j hj h => by rw [List.getElem?_set, if_neg (fun e => hj e.symm)]; exact h, fun _ _ h => h.mono hle h9, qh ?_ rfl⟩
   simp only [LRel];exact ⟨.empty, _, 0, by rw [List.getElem?_set_self hidl], by simp, rfl, Nat.le_refl _, hcm, hsz, by simp, .inl rfl⟩
  have hlt : cb < w'.heap.size := (Array.getElem?_eq_some_iff.1 hheap).1
  have hnm : M'.map cb = none := by
   cases hm : M'.map cb with
   | none => rfl
   | some es =>
    have h1 := hh.2 cb es hm;rw [hheap] at h1; cases h1
  obtain ⟨hI', hle'⟩ := hI.lay (cb := cb) (sh := sh) (n := c.size) (B := .row []) hid hg hle ht hn hh hcb hlt ⟨hfree, hnm⟩ (by
   simp only [BRel];exact ⟨c, T, hheap, rfl, by simp; omega, by simp [CRelC, ones], hfree⟩)
  refine hK _ _ _ _ _ _ h trivial ⟨M', _, hI', fun j hj h => by rw [List.getElem?_set, if_neg (fun e => hj e.symm)]; exact h, fun _ _ h => h.mono hle hle', qh ?_ rfl⟩
  simp only [LRel];exact ⟨.here cb sh c.size, _, cap, by rw [List.getElem?_set_self hidl], by simp, rfl, Nat.zero_le _, hcm, hsz, by simp, .inr ⟨cb, sh, c.size, rfl, by simp, by omega⟩⟩
 obtain ⟨as, ys, hnew, has, hsz, hcs, hg, h⟩ := h;have hrun := qam (a := a) (w := w) hfn ho (first := #[]) (caps := #[]) rfl;have hrun' : (execOp a.eval o).run P w = .ok (.enter f (xs.toList.map a.eval).toArray) w := by rw [hrun]; simp [<- Array.toList_map]
 have hvs := qfd (qE hf hx) has;refine qaq hrun' (hnew M w _ hI.rel.holds hvs) fun e w' ⟨ad, cap, M', he, hle, hh, ht, hn, hlc, hcm, hnil, hcap⟩ => ⟨_, he, ?_⟩
 split at h
 ·rename_i e0
  subst e0;refine hK _ _ _ _ _ _ h trivial ⟨M', ρ, hI.grow hle ht hn hh, fun _ _ h => h, fun _ _ h => h.mono hle (Env.le_refl _), qh ?_ rfl⟩
  simp only [LRel, CRel];have := hnil rfl;subst this;exact ⟨_, 0, rfl, _, _, _, rfl, rfl, Nat.le_refl _, hcm, .inl trivial⟩
 ·rename_i hne
  have hpos : 0 < ys.length := List.length_pos_iff.2 hne
  rcases hcap with h0 | ⟨cb, sh, c, T, rfl, hcb, hheap, hfit, hfree, hrel⟩
  ·omega
  ·have hlt : cb < w'.heap.size := (Array.getElem?_eq_some_iff.1 hheap).1
   have hnm : M'.map cb = none := by
    cases hm : M'.map cb with
    | none => rfl
    | some es =>
     have h1 := hh.2 cb es hm;rw [hheap] at h1; cases h1
   have hfl : (flatE ys).length = ys.length * sz := by
    unfold flatE
    have := qaO (uss := (ys.map fun y => (y.cells.map fun _ => undef))) (sz := sz) (by
     intro u hu;simp only [List.mem_map] at hu;obtain ⟨y, hy, rfl⟩ := hu
     simpa using hcs y hy)
    simp only [List.length_flatten, List.map_map, List.length_map] at this ⊢;rw [<- this]
    congr 1
    apply List.map_congr_left
    intro y _;simp [Function.comp]
   have hmul := Nat.mul_le_mul_right sz hlc
   obtain ⟨hI', hle'⟩ := hI.lay (cb := cb) (sh := sh) (n := c.size) (B := .row (flatE ys)) hid hg hle ht hn hh hcb hlt ⟨hfree, hnm⟩ (by
    simp only [BRel];exact ⟨c, T, hheap, rfl, by omega, hrel, hfree⟩)
   refine hK _ _ _ _ _ _ h trivial ⟨M', _, hI', fun j hj h => by rw [List.getElem?_set, if_neg (fun e => hj e.symm)]; exact h, fun _ _ h => h.mono hle hle', qh ?_ rfl⟩
   simp only [LRel];have hidl : id < ρ.length := by rw [hI.rel.len]; exact (List.getElem?_eq_some_iff.1 hg).1
   exact ⟨.here cb sh c.size, _, cap, by rw [List.getElem?_set_self hidl], by simp, rfl, hlc, hcm, hsz, by simp, .inr ⟨cb, sh, c.size, rfl, by simp, by omega⟩⟩
end
section inversion
variable {P : Program} {o : Op}
theorem qcG {t : TypeId} {cells : List LV} (h : okZero P t cells = true) : ∃ it z, P.info? t = some it /\ it.zero = some z /\ okConstL cells z.cells.toList = true := by
 unfold okZero at h
 split at h
 next z hz =>
  cases hi : P.info? t with
  | none => rw [hi] at hz; cases hz
  | some it => rw [hi] at hz; exact ⟨it, z, rfl, hz, h⟩
 next => cases h
theorem qjq {cells : List LV} (h : okOp P (.alloc cells) o = true) : ∃ t, o = .alloc t /\ okZero P t cells = true := by
 cases o <;> first | exact Bool.noConfusion (show false = true from h) | exact ⟨_, rfl, h⟩
theorem qk6 {x : AX} (h : okOp P (.boxM x) o = true) : ∃ t y, o = .box t y /\ okX x y = true := by
 cases o <;> first | exact Bool.noConfusion (show false = true from h) | exact ⟨_, _, rfl, h⟩
theorem qjr {n : Nat} {x y : AX} (h : okOp P (.store n x y) o = true) : ∃ t x' y', o = .store t x' y' /\ okX x x' = true /\ okX y y' = true /\ szTy P t = some n := by
 cases o <;> first | exact Bool.noConfusion (show false = true from h) | (simp only [okOp, Bool.and_eq_true, beq_iff_eq] at h; exact ⟨_, _, _, rfl, h.1.1, h.1.2, h.2⟩)
theorem qhl {sz bytes : Nat} {zero : List SV} {l c : AX} (h : okOp P (.mkslice sz bytes zero l c) o = true) : ∃ t l' c' e ie z, o = .makeSlice t l' c' /\ okX l l' = true /\ okX c c' = true /\ P.underlying t = some (.slice e) /\ P.info? e = some ie /\ ie.size = sz /\ ie.bytes = bytes /\ ie.zero = some z /\ okConstL (zero.map .s) z.cells.toList = true := by
 cases o <;> first | exact Bool.noConfusion (show false = true from h) | skip
 simp only [okOp, Bool.and_eq_true, beq_iff_eq] at h;obtain ⟨⟨⟨⟨h1, h2⟩, h3⟩, h4⟩, h5⟩ := h
 split at h5
 next e hu =>
  obtain ⟨ie, z, h6, h7, h8⟩ := qcG h5;simp only [slSz, slBytes, hu, h6, Option.map_some, Option.some.injEq] at h3 h4;exact ⟨_, _, _, e, ie, z, rfl, h1, h2, hu, h6, h3, h4, h7, h8⟩
 next => cases h5
end inversion
theorem qeh {α : Type} {c vs : List α} {sh off L : Nat} (h1 : off + vs.length <= L) (h2 : sh + L <= c.length) :
  ((c.take (sh + off) ++ vs ++ c.drop (sh + off + vs.length)).drop sh).take L = splice ((c.drop sh).take L) off vs := by
 unfold splice
 apply List.ext_getElem?
 intro j;rw [List.getElem?_take]
 by_cases hj : j < L
 ·rw [if_pos hj, List.getElem?_drop]
  have l1 : (c.take (sh + off)).length = sh + off := by rw [List.length_take]; omega
  have l2 : (((c.drop sh).take L).take off).length = off := by rw [List.length_take, List.length_take, List.length_drop]; omega
  by_cases c1 : j < off
  ·rw [List.append_assoc, List.getElem?_append_left (by omega), List.append_assoc, List.getElem?_append_left (by omega)]
   rw [List.getElem?_take, if_pos (by omega), List.getElem?_take, if_pos c1, List.getElem?_take, if_pos hj, List.getElem?_drop]
  ·by_cases c2 : j < off + vs.length
   ·rw [List.append_assoc, List.getElem?_append_right (by omega), List.getElem?_append_left (by omega), List.append_assoc, List.getElem?_append_right (by omega), List.getElem?_append_left (by omega)]
    congr 1; omega
   ·rw [List.append_assoc, List.getElem?_append_right (by omega), List.getElem?_append_right (by omega), List.append_assoc, List.getElem?_append_right (by omega), List.getElem?_append_right (by omega)]
    rw [List.getElem?_drop, List.getElem?_drop, List.getElem?_take, if_pos (by omega), List.getElem?_drop]
    congr 1; omega
 ·rw [if_neg hj]
  symm
  apply List.getElem?_eq_none
  simp only [List.length_append, List.length_take, List.length_drop];omega
theorem qaS {α : Type} {c vs : List α} {off : Nat} (h : off + vs.length <= c.length) : (splice c off vs).length = c.length := by
 simp only [splice, List.length_append, List.length_take, List.length_drop]; omega
theorem qd4 (c vs : List Value) (off : Nat) : ones (splice c off vs) = splice (ones c) off (ones vs) := by simp [splice]
theorem LRelC.splice {M : Mem} {ρ : Env} {cs xs : List LV} {uss vss : List (List Value)} (h : LRelC M ρ cs uss) (k : LRelC M ρ xs vss) (off : Nat) : LRelC M ρ (splice cs off xs) (Go.E.splice uss off vss) := by
 unfold Go.E.splice;rw [k.length];exact ((h.take off).append k).append (h.drop _)
theorem CRelC.splice {M : Mem} {cs xs : List SV} {uss vss : List (List Value)} (h : CRelC M cs uss) (k : CRelC M xs vss) (off : Nat) : CRelC M (splice cs off xs) (Go.E.splice uss off vss) := by
 unfold Go.E.splice;rw [k.length];exact ((h.take off).append k).append (h.drop _)
section
variable {P : Program} {A : Nat -> Obj -> Prop} {dfs : List Deferred} {M0 : Mem} {ρ0 : Env} {w0 : World} {M : Mem} {ρ : Env} {H : List ABlock} {w : World} {o : Oper} {a : Act} {K : Act -> World -> Prop} {Q : Exit -> Act -> World -> Prop} {fr : List LV} {k : AK} {n0 id : Nat}
theorem qbF (hI : MInv A n0 M0 ρ0 w0 M ρ H w) (hid : ρ0.length <= id) (hg : H[id]? = some .gone) {B : ABlock} {c : Array Value} {T : TypeId}
  (hB : (∃ cs, B = .obj cs /\ LRelC M ρ cs (ones c.toList)) \/ (∃ cs, B = .row cs /\ cs.length <= c.size /\ CRelC M cs (ones (c.toList.take cs.length)))) :
  ∃ ρ', MInv A n0 M0 ρ0 w0 M ρ' (H.set id B) (w.alloc (.cells c T)) /\ Env.le ρ ρ' /\ ρ'[id]? = some (.here w.heap.size 0 c.size) /\ ∀ (j : Nat), j ≠ id -> ρ[j]? = some Spot.gone -> ρ'[j]? = some Spot.gone := by
 have hnc : ∀ o, M.cell w.heap.size o = none := fun o => by
  cases hm : M.cell w.heap.size o with
  | none => rfl
  | some v => have := hI.rel.cell_lt hm; omega
 have hnm : M.map w.heap.size = none := by
  cases hm : M.map w.heap.size with
  | none => rfl
  | some v => have := hI.rel.map_lt hm; omega
 obtain ⟨r, hr, hBr⟩ := hI.rel.spot hg;have hr' : r = .gone := by cases r <;> simp only [BRel] at hBr; rfl
 subst hr';have hle : Env.le ρ (ρ.set id (.here w.heap.size 0 c.size)) := Env.le_set hr
 obtain ⟨h1, h2⟩ := hI.lay (cb := w.heap.size) (sh := 0) (n := c.size) (B := B) hid hg M.le_refl (qm w (.cells c T)) (Newer.refl _ _ _) (hI.rel.holds.grow (qm w _)) (Nat.le_refl _) (by simp) ⟨hnc, hnm⟩ (by
  rcases hB with ⟨cs, rfl, hrel⟩ | ⟨cs, rfl, hlen, hrel⟩
  ·simp only [BRel]
   exact ⟨c, T, qap w _, by trivial, by have := hrel.length; simpa using this, by trivial, hrel.mono M.le_refl hle, hnc⟩
  ·simp only [BRel]
   exact ⟨c, T, qap w _, by trivial, by omega, by simpa using hrel, hnc⟩)
 have hidl : id < ρ.length := by rw [hI.rel.len]; exact (List.getElem?_eq_some_iff.1 hg).1
 exact ⟨_, h1, h2, by rw [List.getElem?_set_self hidl], fun j hj h => by rw [List.getElem?_set, if_neg (fun e => hj e.symm)]; exact h⟩
theorem qjs (hI : MInv A n0 M0 ρ0 w0 M ρ H w) (hid : ρ0.length <= id) {cells : List LV} (hok : okOp P (.alloc cells) o.op = true) (h : aop P n0 id fr H (.alloc cells) k)
  (hK : ∀ v H' kl f x w', k v H' kl f -> f -> Nxt A n0 M0 ρ0 w0 M ρ id v H' kl x w' -> K (a.put o.dst x) w') : o.wp P a w K Q := by
 obtain ⟨t, ho, hz⟩ := qjq hok;obtain ⟨it, z, hi, hzz, hc⟩ := qcG hz;simp only [aop] at h;obtain ⟨hg, h⟩ := h;obtain ⟨ρ', h1, h2, h3, hgn⟩ := qbF (T := t) hI hid hg (.inl ⟨cells, rfl, qai _ _ hc⟩);refine qc (x := .pointer (some ⟨w.heap.size, 0, none⟩)) (w' := w.alloc (.cells z.cells t)) ?_ (hK _ _ _ _ _ _ h trivial ⟨M, ρ', h1, hgn, fun _ _ h => h.mono M.le_refl h2, qh ?_ rfl⟩)
 ·simp [execOp, ho, Instr.alloc, zeroValue, typeInfo, hi, hzz, newVar, newRow]
 ·simp only [LRel]; exact ⟨_, _, _, h3, by simp⟩
theorem qk7 (hI : MInv A n0 M0 ρ0 w0 M ρ H w) (hf : FRel M ρ fr a.tmps.toList) (hid : ρ0.length <= id) {x : AX} (hok : okOp P (.boxM x) o.op = true) (h : aop P n0 id fr H (.boxM x) k)
  (hK : ∀ v H' kl f x w', k v H' kl f -> f -> Nxt A n0 M0 ρ0 w0 M ρ id v H' kl x w' -> K (a.put o.dst x) w') : o.wp P a w K Q := by
 obtain ⟨t, y, ho, hx⟩ := qk6 hok;simp only [aop] at h;obtain ⟨cs, hcs, hg, h⟩ := qd h;obtain ⟨ρ', h1, h2, h3, hgn⟩ := qbF (T := t) hI hid hg (.inl ⟨cs, rfl, LV.cells_rel (qf hf hx) hcs⟩);refine qc (x := .pointer (some ⟨w.heap.size, 0, none⟩)) (w' := w.alloc (.cells (a.eval y).cells t)) ?_ (hK _ _ _ _ _ _ h trivial ⟨M, ρ', h1, hgn, fun _ _ h => h.mono M.le_refl h2, qh ?_ rfl⟩)
 ·simp [execOp, ho, Instr.box, newVar, newRow]
 ·simp only [LRel]; exact ⟨_, _, _, h3, by simp⟩
theorem qdg (hI : MInv A n0 M0 ρ0 w0 M ρ H w) {b off cb sh n : Nat} {cs xs : List LV} {vs : List Value} (hB : H[b]? = some (.obj cs)) (hρ : ρ[b]? = some (.here cb sh n)) (hx : LRelC M ρ xs (ones vs)) (hfit : off + xs.length <= cs.length) :
  ∃ w', (storeCells ⟨cb, sh + off, none⟩ vs).run P w = .ok () w' /\ MInv A n0 M0 ρ0 w0 M ρ (H.set b (.obj (splice cs off xs))) w' := by
 obtain ⟨r, h1, h2⟩ := hI.rel.spot hB;rw [hρ] at h1; cases h1;simp only [BRel] at h2;obtain ⟨c, T, h3, h4, h5, h6, h7, h8⟩ := h2;subst h6;have hxl : vs.length = xs.length := by have := hx.length; simpa using this
 have hcl : c.toList.length = cs.length := by simp only [Array.length_toList]; omega
 refine ⟨_, run_storeCells_at P cb (0 + off) T vs 0 c w h3 (by simp only [Nat.zero_add, Nat.add_zero]; omega) (fun v hv => LRelC.oneCells _ _ hx [v] (by simpa [ones] using hv) v (by simp)), hI.write hB hρ h3 h8 ?_⟩
 simp only [BRel];have e : (c.toList.take (0 + off + 0) ++ vs ++ c.toList.drop (0 + off + 0 + vs.length)) = splice c.toList off vs := by simp [splice]
 rw [e];have hsl : (splice c.toList off vs).length = c.toList.length := qaS (by omega)
 refine ⟨_, T, setRow_heap w cb c _ T _ h3, ?_, ?_, by trivial, ?_, h8⟩
 ·simp only [List.size_toArray, hsl]; omega
 ·rw [qaS hfit]; exact h5
 ·simp only [qd4]; exact h7.splice hx off
theorem write_row (hI : MInv A n0 M0 ρ0 w0 M ρ H w) {b off cb sh n : Nat} {cs xs : List SV} {vs : List Value} (hB : H[b]? = some (.row cs)) (hρ : ρ[b]? = some (.here cb sh n)) (hx : CRelC M xs (ones vs)) (hfit : off + xs.length <= cs.length) :
  ∃ w', (storeCells ⟨cb, sh + off, none⟩ vs).run P w = .ok () w' /\ MInv A n0 M0 ρ0 w0 M ρ (H.set b (.row (splice cs off xs))) w' := by
 obtain ⟨r, h1, h2⟩ := hI.rel.spot hB;rw [hρ] at h1; cases h1;simp only [BRel] at h2;obtain ⟨c, T, h3, h4, h5, h7, h8⟩ := h2;have hxl : vs.length = xs.length := by have := hx.length; simpa using this
 have hcl : c.toList.length = n := by simp only [Array.length_toList]; omega
 refine ⟨_, run_storeCells_at P cb (sh + off) T vs 0 c w h3 (by simp only [Nat.add_zero]; omega) (fun v hv => CRelC.oneCells _ _ hx [v] (by simpa [ones] using hv) v (by simp)), hI.write hB hρ h3 h8 ?_⟩
 simp only [BRel, Nat.add_zero];refine ⟨_, T, setRow_heap w cb c _ T _ h3, ?_, by rw [qaS hfit]; exact h5, ?_, h8⟩
 ·simp only [List.size_toArray, List.length_append, List.length_take, List.length_drop]; omega
 ·rw [qaS hfit, qeh (by omega) (by omega), qd4]
  exact h7.splice hx off
theorem qfe (hI : MInv A n0 M0 ρ0 w0 M ρ H w) (hf : FRel M ρ fr a.tmps.toList) {n : Nat} {x y : AX} (hok : okOp P (.store n x y) o.op = true) (h : aop P n0 id fr H (.store n x y) k)
  (hK : ∀ v H' kl f x w', k v H' kl f -> f -> Nxt A n0 M0 ρ0 w0 M ρ id v H' kl x w' -> K (a.put o.dst x) w') : o.wp P a w K Q := by
 obtain ⟨t, x', y', ho, hx, hy, hs⟩ := qjr hok;simp only [aop] at h;have hr := qf hf hx;have hv := qf hf hy;generalize x.ev fr = v at h hr;generalize y.ev fr = u at h hv;unfold stK at h
 split at h
 next b off =>
  have h1 := hr.one rfl (by simp)
  simp only [LRel] at h1;obtain ⟨cb, sh, m, hρ, e⟩ := h1;have ey : a.eval x' = .pointer (some ⟨cb, sh + off, none⟩) := by simpa using e
  have fin : ∀ {H' : List ABlock} {w' : World}, (storeCells ⟨cb, sh + off, none⟩ (a.eval y').cells.toList).run P w = .ok () w' -> (a.eval y').cells.size = n -> MInv A n0 M0 ρ0 w0 M ρ H' w' -> k (.tup []) H' none True -> o.wp P a w K Q := by
   intro H' w' hrun hsz hI' hk;refine qed (w' := w') ?_ (hK _ _ _ _ _ _ hk trivial ⟨M, ρ, hI', fun _ _ h => h, fun _ _ h => h, qp (xs := []) rfl⟩)
   simp [execOp, ho, Instr.storeAt, ey, Instr.sureAddr, storeVar, qJ hs, hsz, hrun]
  unfold stB at h
  split at h
  next cs hb =>
   obtain ⟨xs, hxs, hlen, hfit, h⟩ := qd h;have hxr := LV.cells_rel hv hxs;obtain ⟨w', h5, h6⟩ := qdg (P := P) hI hb hρ hxr (by rw [hlen]; exact hfit)
   exact fin h5 (by have := hxr.length; simp only [qN, Array.length_toList] at this; omega) h6 h
  next cs hb =>
   obtain ⟨sv, hsv, hlen, hfit, h⟩ := qd h;have hxr := qao (qX hv hsv).cells;obtain ⟨w', h5, h6⟩ := write_row (P := P) hI hb hρ hxr (by rw [hlen]; exact hfit)
   exact fin h5 (by have := hxr.length; simp only [qN, Array.length_toList] at this; omega) h6 h
  next => cases h
 next => cases h
theorem qbm {α : Type} (l : List α) : ∀ (n i : Nat), (List.replicate n l).flatten[i]? = if i < n * l.length then l[i % l.length]? else none
 | 0, i => by simp
 | n + 1, i => by
  rw [List.replicate_succ, List.flatten_cons]
  by_cases hi : i < l.length
  ·rw [List.getElem?_append_left hi, if_pos (by rw [Nat.succ_mul]; omega), Nat.mod_eq_of_lt hi]
  ·rw [List.getElem?_append_right (by omega), qbm l n]
   have e : (i - l.length) % l.length = i % l.length := by
    rw [<- Nat.add_mod_right (i - l.length), Nat.sub_add_cancel (by omega)]
   rw [e, Nat.succ_mul]
   by_cases hj : i < n * l.length + l.length
   ·rw [if_pos (by omega), if_pos hj]
   ·rw [if_neg (by omega), if_neg hj]
theorem qd5 (z : Array Value) (n : Nat) : (madeCells z (n * z.size)).toList = (List.replicate n z.toList).flatten := by
 apply List.ext_getElem?
 intro i;rw [qbm];simp only [madeCells, Array.length_toList, Array.getElem?_toList, Array.getElem?_map]
 by_cases hi : i < n * z.size
 ·rw [if_pos hi]
  have hz : 0 < z.size := by
   rcases Nat.eq_zero_or_pos z.size with h | h
   ·rw [h] at hi; omega
   ·exact h
  have hm := Nat.mod_lt i hz;simp [hi, hm]
 ·rw [if_neg hi]
  simp [hi]
theorem qgi {α : Type} (l : List α) (n m : Nat) (h : n <= m) : (List.replicate m l).flatten.take (n * l.length) = (List.replicate n l).flatten := by
 apply List.ext_getElem?
 intro i;rw [List.getElem?_take, qbm, qbm];have := Nat.mul_le_mul_right l.length h
 by_cases hi : i < n * l.length
 ·rw [if_pos hi, if_pos (by omega), if_pos hi]
 ·rw [if_neg hi, if_neg hi]
theorem qdh {zs : List SV} {us : List (List Value)} (h : CRelC M zs us) : ∀ n, CRelC M (List.replicate n zs).flatten (List.replicate n us).flatten
 | 0 => by simp [CRelC]
 | n + 1 => by rw [List.replicate_succ, List.flatten_cons, List.replicate_succ, List.flatten_cons]; exact h.append (qdh h n)
theorem qei (us : List Value) : ∀ n, ones (List.replicate n us).flatten = (List.replicate n (ones us)).flatten
 | 0 => rfl
 | n + 1 => by rw [List.replicate_succ, List.flatten_cons, qV, qei us n, List.replicate_succ, List.flatten_cons]
theorem qhm (hI : MInv A n0 M0 ρ0 w0 M ρ H w) (hf : FRel M ρ fr a.tmps.toList) (hid : ρ0.length <= id) {sz bytes : Nat} {zero : List SV} {l c : AX} (hok : okOp P (.mkslice sz bytes zero l c) o.op = true) (h : aop P n0 id fr H (.mkslice sz bytes zero l c) k)
    (hK : ∀ v H' kl f x w', k v H' kl f -> f -> Nxt A n0 M0 ρ0 w0 M ρ id v H' kl x w' -> K (a.put o.dst x) w') : o.wp P a w K Q := by
  obtain ⟨t, l', c', e, ie, z, ho, hl, hc, hu, hi, hsz, hbytes, hz, hzc⟩ := qhl hok;simp only [aop] at h;have hlr := qf hf hl;have hcr := qf hf hc;generalize l.ev fr = lv at h hlr;generalize c.ev fr = cv at h hcr;unfold mksliceK at h
  split at h
  next n m =>
    obtain ⟨h0, hnm, hb, h60, hzl, hpos, hg, h⟩ := h;have el := qu rfl hlr;have ec := qu rfl hcr;have hzr : CRelC M zero (ones z.cells.toList) := qO.1 (qai (M := M) (ρ := ρ) _ _ hzc);have hzs : z.cells.size = sz := by have := hzr.length; simp only [qN, Array.length_toList] at this; omega
    have hrun := run_make (P := P) w t e ie z hu hi hz .i64 .i64 n m h0 hnm (by
      rw [hbytes, Int.mul_comm]; have : (2:Int)^46 <= 281474976710656 := by decide
      omega) (by have : (2:Int)^60 <= 9223372036854775807 := by decide
                 omega)
    have hmade : (madeCells z.cells (m.toNat * ie.size)).toList = (List.replicate m.toNat z.cells.toList).flatten := by rw [hsz, <- hzs]; exact qd5 _ _
    have hzl' : z.cells.toList.length = sz := by simpa using hzs
    have hnm' : n.toNat <= m.toNat := by omega
    have hlenr : ((List.replicate n.toNat zero).flatten).length = n.toNat * sz := by simp [hzl]
    obtain ⟨ρ', h1, h2, h3, hgn⟩ := qbF (T := e) (c := madeCells z.cells (m.toNat * ie.size)) hI hid hg (.inr ⟨(List.replicate n.toNat zero).flatten, rfl, by
        rw [hlenr, size_madeCells, hsz]; exact Nat.mul_le_mul_right _ hnm', by
        rw [hlenr, hmade, <- hzl', qgi _ _ _ hnm', qei];exact qdh hzr _⟩)
    refine qc (x := .slice (some ⟨w.heap.size, 0, none⟩) n.toNat m.toNat) (w' := w.alloc (.cells (madeCells z.cells (m.toNat * ie.size)) e)) ?_ (hK _ _ _ _ _ _ h trivial ⟨M, ρ', h1, hgn, fun _ _ h => h.mono M.le_refl h2, qh ?_ rfl⟩)
    · simp [execOp, ho, el, ec, hrun]
    · simp only [LRel]
      refine ⟨_, _, _, h3, by simp, rfl, hnm', ?_, hpos, fun hd => by have := of_decide_eq_true hd; omega, .inr ⟨_, _, _, rfl, by simp, ?_⟩⟩
      · have : (2:Int)^60 <= (maxLen : Int) := by decide
        omega
      · rw [size_madeCells, hsz]; omega
  next => cases h
end
section inversion
variable {P : Program} {o : Op}
theorem qc3 {sz bytes : Nat} {s x : AX} {xs : Array Operand} {ts : Array TypeId} (h : (okXs [s, x] xs.toList && decide (0 < bytes) &&
   (match ts[0]? with | some t => slSz P t == some sz && slBytes P t == some bytes && (match P.underlying t with | some (.slice e) => ((P.info? e).bind (·.zero)).any (fun z => z.cells.size == sz) | _ => false) | none => false) &&
   (match ts[1]? with | some t => (match P.underlying t with | some (.slice _) => true | _ => false) | none => false)) = true) :
  ∃ y y' t tx e e' ie z, xs = #[y, y'] /\ okX s y = true /\ okX x y' = true /\ 0 < bytes /\ ts[0]? = some t /\ ts[1]? = some tx /\ P.underlying t = some (.slice e) /\ P.info? e = some ie /\ ie.size = sz /\ ie.bytes = bytes /\ ie.zero = some z /\ z.cells.size = sz /\ P.underlying tx = some (.slice e') := by
 simp only [Bool.and_eq_true, decide_eq_true_eq] at h;obtain ⟨⟨⟨h1, h2⟩, h3⟩, h4⟩ := h;obtain ⟨y, y', hy, h5, h6⟩ := qcD h1;have hy' : xs = #[y, y'] := by simpa using congrArg List.toArray hy
 split at h3
 next t ht =>
  split at h4
  next tx htx =>
   split at h4
   next e' hu' =>
    simp only [Bool.and_eq_true, beq_iff_eq] at h3;obtain ⟨⟨h7, h8⟩, h9⟩ := h3
    split at h9
    next e hu =>
     cases hi : P.info? e with
     | none => rw [hi] at h9; cases h9
     | some ie =>
      rw [hi] at h9
      cases hz : ie.zero with
      | none => simp [hz] at h9
      | some z =>
       simp [hz] at h9;simp only [slSz, slBytes, hu, hi, Option.map_some, Option.some.injEq] at h7 h8;exact ⟨y, y', t, tx, e, e', ie, z, hy', h5, h6, h2, ht, htx, hu, hi, h7, h8, hz, h9, hu'⟩
    next => cases h9
   next => cases h4
  next => cases h4
 next => cases h3
theorem qcH {sz bytes : Nat} {s x : AX} (h : okOp P (.append sz bytes s x) o = true) : ∃ ts y y' t tx e e' ie z, o = .call { callee := .builtin .append, args := #[y, y'], argTypes := ts } /\ okX s y = true /\ okX x y' = true /\ 0 < bytes /\ ts[0]? = some t /\ ts[1]? = some tx /\ P.underlying t = some (.slice e) /\ P.info? e = some ie /\ ie.size = sz /\ ie.bytes = bytes /\ ie.zero = some z /\ z.cells.size = sz /\ P.underlying tx = some (.slice e') := by
 cases o <;> first | exact Bool.noConfusion (show false = true from h) | skip
 rename_i c
 obtain ⟨callee, xs, ts⟩ := c
 cases callee <;> first | exact Bool.noConfusion (show false = true from h) | skip
 rename_i b
 cases b <;> first | exact Bool.noConfusion (show false = true from h) | skip
 obtain ⟨y, y', t, tx, e, e', ie, z, rfl, h1⟩ := qc3 h;exact ⟨ts, y, y', t, tx, e, e', ie, z, rfl, h1⟩
theorem qhn {sz bytes : Nat} {s x : AX} (h : okOp P (.appendN sz bytes s x) o = true) : ∃ ts y y' t tx e e' ie z, o = .call { callee := .builtin .append, args := #[y, y'], argTypes := ts } /\ okX s y = true /\ okX x y' = true /\ 0 < bytes /\ ts[0]? = some t /\ ts[1]? = some tx /\ P.underlying t = some (.slice e) /\ P.info? e = some ie /\ ie.size = sz /\ ie.bytes = bytes /\ ie.zero = some z /\ z.cells.size = sz /\ P.underlying tx = some (.slice e') := by
 cases o <;> first | exact Bool.noConfusion (show false = true from h) | skip
 rename_i c
 obtain ⟨callee, xs, ts⟩ := c
 cases callee <;> first | exact Bool.noConfusion (show false = true from h) | skip
 rename_i b
 cases b <;> first | exact Bool.noConfusion (show false = true from h) | skip
 obtain ⟨y, y', t, tx, e, e', ie, z, rfl, h1⟩ := qc3 h;exact ⟨ts, y, y', t, tx, e, e', ie, z, rfl, h1⟩
theorem qk8 {sz : Nat} {d s : AX} (h : okOp P (.copy sz d s) o = true) : ∃ ts y y' t e, o = .call { callee := .builtin .copy, args := #[y, y'], argTypes := ts } /\ okX d y = true /\ okX s y' = true /\ ts[0]? = some t /\ P.underlying t = some (.slice e) /\ szTy P e = some sz := by
 cases o <;> first | exact Bool.noConfusion (show false = true from h) | skip
 rename_i c
 obtain ⟨callee, xs, ts⟩ := c
 cases callee <;> first | exact Bool.noConfusion (show false = true from h) | skip
 rename_i b
 cases b <;> first | exact Bool.noConfusion (show false = true from h) | skip
 simp only [okOp, Bool.and_eq_true] at h;obtain ⟨h1, h2⟩ := h;obtain ⟨y, y', hy, h5, h6⟩ := qcD h1;have hy' : xs = #[y, y'] := by simpa using congrArg List.toArray hy
 subst hy'
 split at h2
 next t ht =>
  obtain ⟨e, hu, hs⟩ := qee (by simpa using h2)
  exact ⟨ts, y, y', t, e, rfl, h5, h6, ht, hu, hs⟩
 next => cases h2
theorem qjt {sz : Nat} {zero : List SV} {d : AX} (h : okOp P (.clear sz zero d) o = true) : ∃ ts y t e ie z, o = .call { callee := .builtin .clear, args := #[y], argTypes := ts } /\ okX d y = true /\ ts[0]? = some t /\ P.underlying t = some (.slice e) /\ P.info? e = some ie /\ ie.size = sz /\ ie.zero = some z /\ okConstL (zero.map .s) z.cells.toList = true := by
 cases o <;> first | exact Bool.noConfusion (show false = true from h) | skip
 rename_i c
 obtain ⟨callee, xs, ts⟩ := c
 cases callee <;> first | exact Bool.noConfusion (show false = true from h) | skip
 rename_i b
 cases b <;> first | exact Bool.noConfusion (show false = true from h) | skip
 simp only [okOp, Bool.and_eq_true] at h;obtain ⟨h1, h2⟩ := h;obtain ⟨y, hy, h5⟩ := qcC h1;have hy' : xs = #[y] := by simpa using congrArg List.toArray hy
 subst hy'
 split at h2
 next t ht =>
  simp only [Bool.and_eq_true, beq_iff_eq] at h2;obtain ⟨h3, h4⟩ := h2
  split at h4
  next e hu =>
   obtain ⟨ie, z, h6, h7, h8⟩ := qcG h4;simp only [slSz, hu, h6, Option.map_some, Option.some.injEq] at h3;exact ⟨ts, y, t, e, ie, z, rfl, h5, ht, hu, h6, h3, h7, h8⟩
  next => cases h4
 next => cases h2
end inversion
section
variable {P : Program} {A : Nat -> Obj -> Prop} {dfs : List Deferred} {M0 : Mem} {ρ0 : Env} {w0 : World} {M : Mem} {ρ : Env} {H : List ABlock} {w : World} {o : Oper} {a : Act} {K : Act -> World -> Prop} {Q : Exit -> Act -> World -> Prop} {fr : List LV} {k : AK} {n0 id : Nat}
theorem qaa : ∀ {xs : List SV} {uss : List (List Value)}, CRelC M xs uss -> CRelC M (flatE xs) (ones uss.flatten)
 | [], uss, h => by simp only [CRelC] at h; subst h; simp [flatE, CRelC]
 | x :: xs, uss, h => by
  simp only [CRelC] at h;obtain ⟨u, us, rfl, h1, h2⟩ := h;simp only [flatE, List.map_cons, List.flatten_cons, qV];exact (qao h1).append (qaa h2)
theorem qaj {sz : Nat} : ∀ {xs : List SV}, (∀ y ∈ xs, y.cells.length = sz) -> (flatE xs).length = xs.length * sz
 | [], _ => by simp [flatE]
 | x :: xs, h => by
  have ih := qaj (xs := xs) fun y hy => h y (by simp [hy])
  simp only [flatE, List.map_cons, List.flatten_cons, List.length_append, List.length_cons, h x (by simp), Nat.succ_mul] at ih ⊢
  omega
theorem qbL (hI : MInv A n0 M0 ρ0 w0 M ρ H w) {v : LV} {x : Value} {ys : List SV} {sz : Nat} {tx e' : TypeId} (hk : P.underlying tx = some (.slice e')) (hr : LVal M ρ v x) (he : elemsOf H v = some ys) (hs : ∀ y ∈ ys, y.cells.length = sz) :
  ∃ ad cap uss, x = .slice ad ys.length cap /\ ys.length <= cap /\ cap <= maxLen /\ CRelC M ys uss /\ (∀ u ∈ uss, u.length = sz) /\ uss.flatten.length = ys.length * sz /\ Src P sz tx x ys.length uss.flatten w := by
 obtain ⟨ad, cap, uss, rfl, h1, h2, h3, h4⟩ := qcF hI hr he;have hl := lenL h3 hs;have hul : uss.length = ys.length := h3.length;have hfl : uss.flatten.length = ys.length * sz := by rw [qaO hl, hul]
 refine ⟨ad, cap, uss, rfl, h1, h2, h3, hl, hfl, ?_⟩
 have hone : ∀ u ∈ uss.flatten, u.oneCell' = true := by
  intro u hu;obtain ⟨us, hus, hu⟩ := List.mem_flatten.1 hu;exact CRelC.oneCells _ _ h3 us hus u hu
 rcases h4 with rfl | ⟨b, of, sz', rfl, h5, h6⟩
 ·simp only [CRelC] at h3
  subst h3
  cases ad with
  | none => exact Src.ofNil w hk cap
  | some ad => exact Src.ofSlice w hk ad 0 cap [] (by simp) (fun j u hj => by simp at hj) (fun u hu => by simp at hu)
 ·exact Src.ofSlice w hk _ ys.length cap _ hfl (fun j u hj => by rw [Addr.add_lit]; exact h6 j u hj) hone
theorem qax {ts : Array TypeId} {t tx e ty : TypeId} {i : TypeInfo} (h0 : ts[0]? = some t) (h1 : ts[1]? = some tx) (ht : P.underlying t = some (.slice e)) (hi : P.info? e = some i) {base : Option Addr} {sLen sCap n : Nat} {x : Value} {news : List Value}
  (hs : Src P i.size tx x n news w) (hroom : sLen + n <= sCap) {w' : World} (hst : ∀ ad, base = some ad -> (storeCells (ad.add (sLen * i.size)) news).run P w = .ok () w') (hn : base = none -> w' = w) :
  (Builtin.append_ ts ty #[.slice base sLen sCap, x]).run P w = .ok (.slice base (sLen + n) sCap) w' := by
 obtain ⟨e', hk⟩ | hk := hs.kind
 ·cases base with
  | none => have := hn rfl; subst this; simp [Builtin.append_, h0, h1, run_underlying ht, run_underlying hk, sizeOf, typeInfo, hi, hs.len, hroom, hs.cells]
  | some ad => simp [Builtin.append_, h0, h1, run_underlying ht, run_underlying hk, sizeOf, typeInfo, hi, hs.len, hroom, hs.cells, hst ad rfl]
 ·cases base with
  | none => have := hn rfl; subst this; simp [Builtin.append_, h0, h1, run_underlying ht, run_underlying hk, sizeOf, typeInfo, hi, hs.len, hroom, hs.cells]
  | some ad => simp [Builtin.append_, h0, h1, run_underlying ht, run_underlying hk, sizeOf, typeInfo, hi, hs.len, hroom, hs.cells, hst ad rfl]
theorem qaf {ts : Array TypeId} {t tx e ty : TypeId} {i : TypeInfo} {z : Value} (h0 : ts[0]? = some t) (h1 : ts[1]? = some tx) (ht : P.underlying t = some (.slice e)) (hi : P.info? e = some i) (hz : i.zero = some z) {base : Option Addr} {sLen sCap n : Nat} {x : Value} {olds news : List Value}
    (hold : (Builtin.firstCells i.size sLen (.slice base sLen sCap)).run P w.drew = .ok olds.toArray w.drew) (hs : Src P i.size tx x n news w)
    (hg : sCap < sLen + n) (h63 : ((sLen + n : Nat) : Int) <= 9223372036854775807) (hfit : Builtin.nextslicecap (sLen + n) sCap * i.bytes <= 281474976710656) :
    (Builtin.append_ ts ty #[.slice base sLen sCap, x]).run P w =
      .ok (.slice (some ⟨w.heap.size, 0, none⟩) (sLen + n) (grownCap w (sLen + n) sCap e))
        (w.drew.alloc (.cells ((olds ++ news).toArray ++ Builtin.zeroCells z.cells (grownCap w (sLen + n) sCap e - (sLen + n))) e)) := by
  have hn : ¬ (sLen + n <= sCap) := by omega
  have h63' : ¬ (9223372036854775807 < ((sLen : Int) + (n : Int))) := by omega
  have h48' : ¬ (281474976710656 < Builtin.nextslicecap (sLen + n) sCap * i.bytes) := by omega
  rcases hs.kind with ⟨e', hk⟩ | hk <;>
    (simp [Builtin.append_, h0, h1, run_underlying ht, run_underlying hk, sizeOf, typeInfo, zeroValue, hi, hz, hs.len, hn, h63', h48', Question.forced, hs.cellsD, hold, newRow, grownCap]
     congr 2
     apply Array.ext'
     simp [List.append_assoc])
theorem MInv.drew (hI : MInv A n0 M0 ρ0 w0 M ρ H w) : MInv A n0 M0 ρ0 w0 M ρ H w.drew := hI.world rfl rfl rfl rfl (Nat.le_succ _)
theorem grown_row {xs ys : List SV} {ussx ussy : List (List Value)} {sz need gc : Nat} {z : Value} (hx : CRelC M xs ussx) (hy : CRelC M ys ussy) (hlx : ussx.flatten.length = xs.length * sz) (hly : ussy.flatten.length = ys.length * sz)
  (hn : need = xs.length + ys.length) (hgc : need <= gc) (hz : z.cells.size = sz) (hfl : (flatE (xs ++ ys)).length = (xs.length + ys.length) * sz) :
  ((ussx.flatten ++ ussy.flatten).toArray ++ Builtin.zeroCells z.cells (gc - need)).size = gc * sz /\
  CRelC M (flatE (xs ++ ys)) (ones (((ussx.flatten ++ ussy.flatten).toArray ++ Builtin.zeroCells z.cells (gc - need)).toList.take (flatE (xs ++ ys)).length)) := by
 have hzc : (Builtin.zeroCells z.cells (gc - need)).size = (gc - need) * sz := by simp [Builtin.zeroCells, hz]
 have e1 : (xs.length + ys.length + (gc - need)) * sz = gc * sz := by congr 1; omega
 refine ⟨?_, ?_⟩
 ·rw [Array.size_append, hzc]
  simp only [List.size_toArray, List.length_append, hlx, hly, <- Nat.add_mul];exact e1
 ·have e2 : ((ussx.flatten ++ ussy.flatten).toArray ++ Builtin.zeroCells z.cells (gc - need)).toList.take (flatE (xs ++ ys)).length = (ussx ++ ussy).flatten := by
   rw [Array.toList_append, List.take_append_of_le_length (by simp only [List.length_append, hlx, hly, hfl, Nat.add_mul]; omega), List.take_of_length_le (by simp only [List.length_append, hlx, hly, hfl, Nat.add_mul]; omega)]
   simp
  rw [e2];exact qaa (hx.append hy)
theorem qhL (hI : MInv A n0 M0 ρ0 w0 M ρ H w) (hid : ρ0.length <= id) {sz bytes : Nat} {v u : LV} {ts : Array TypeId} {y y' : Operand} {t tx e e' : TypeId} {ie : TypeInfo} {z : Value}
    (ho : o.op = .call { callee := .builtin .append, args := #[y, y'], argTypes := ts }) (h0 : ts[0]? = some t) (h1 : ts[1]? = some tx) (ht : P.underlying t = some (.slice e)) (hi : P.info? e = some ie) (hsz : ie.size = sz) (hbytes : ie.bytes = bytes) (hz : ie.zero = some z) (hzs : z.cells.size = sz) (hk : P.underlying tx = some (.slice e'))
    (hv : LVal M ρ v (a.eval y)) (hu : LVal M ρ u (a.eval y')) {xs ys : List SV} (hvx : elemsOf H v = some xs) (huy : elemsOf H u = some ys) (hclip : ∀ ad len cap, a.eval y = .slice ad len cap -> cap = len)
    (hfit : fitsE sz bytes xs ys) (h : newRowK H id sz v xs ys k)
    (hK : ∀ v H' kl f x w', k v H' kl f -> f -> Nxt A n0 M0 ρ0 w0 M ρ id v H' kl x w' -> K (a.put o.dst x) w') : o.wp P a w K Q := by
  obtain ⟨hfx, hfy, hfb, hf60, hpos⟩ := hfit;subst hsz hbytes;obtain ⟨adx, capx, ussx, ex, hx1, hx2, hx3, hx4, hx5, hsx⟩ := qbL (P := P) hI ht hv hvx hfx;obtain ⟨ady, capy, ussy, ey, hy1, hy2, hy3, hy4, hy5, hsy⟩ := qbL (P := P) hI hk hu huy hfy;have hcap := hclip _ _ _ ex;subst hcap
  by_cases hnil : ys = []
  · have hk' := h.1 hnil
    subst hnil
    have hrun := qax (P := P) (w := w) (ty := o.type) h0 h1 ht hi (base := adx) (sLen := xs.length) (sCap := xs.length) hsy (by simp) (w' := w) (fun ad _ => by
      simp only [CRelC] at hy3; subst hy3; simp [storeCells]) (fun _ => rfl)
    refine qc (x := .slice adx xs.length xs.length) (w' := w) ?_ (hK _ _ _ _ _ _ hk' trivial (qg hI (by rw [<- ex]; exact hv)))
    simp only [List.length_nil, Nat.add_zero] at hrun;simp [execOp, ho, resolve, invoke, builtin, ex, hrun]
  · obtain ⟨hg, hk'⟩ := h.2 hnil
    have hlp := List.length_pos_iff.2 hnil
    have hrun := qaf (P := P) (w := w) (ty := o.type) h0 h1 ht hi hz (base := adx) (sLen := xs.length) (sCap := xs.length) (olds := ussx.flatten) (by rw [<- ex]; exact hsx.cellsD) hsy (by omega) (by
      have : (2:Nat)^60 <= 9223372036854775807 := by decide
      omega) (growslice_fits (by omega) (by have : (2:Nat)^46 <= 140737488355328 := by decide
                                            omega))
    have hge := grownCap_ge w (xs.length + ys.length) xs.length e
    have hml := grownCap_le_maxLen w (xs.length + ys.length) xs.length e (by have : (2:Nat)^60 <= maxLen := by decide
                                                                             omega)
    have hfl : (flatE (xs ++ ys)).length = (xs.length + ys.length) * ie.size := by
      rw [qaj (sz := ie.size) (by intro q hq; rcases List.mem_append.1 hq with hq | hq; exact hfx q hq; exact hfy q hq)]; simp
    obtain ⟨hr1, hr2⟩ := grown_row (z := z) hx3 hy3 hx5 hy5 rfl hge hzs hfl;obtain ⟨ρ', h5, h6, h7, hgn⟩ := qbF (T := e) hI.drew hid hg (.inr ⟨flatE (xs ++ ys), rfl, by rw [hr1, hfl]; exact Nat.mul_le_mul_right _ hge, hr2⟩)
    refine qc ?_ (hK _ _ _ _ _ _ hk' trivial ⟨M, ρ', h5, hgn, fun _ _ h => h.mono M.le_refl h6, qh (x := .slice (some ⟨w.heap.size, 0, none⟩) (xs.length + ys.length) (grownCap w (xs.length + ys.length) xs.length e)) ?_ rfl⟩)
    · simp [execOp, ho, resolve, invoke, builtin, ex, hrun]
    · simp only [LRel]
      refine ⟨_, _, _, h7, by simp, rfl, hge, hml, hpos, by simp, .inr ⟨_, _, _, rfl, by simp, ?_⟩⟩
      rw [hr1]; omega
theorem qho {o : Op} {sz bytes : Nat} {s x : AX} (h : okOp P (.appendM sz bytes s x) o = true) : ∃ ts y y' t tx e kn ie z, o = .call { callee := .builtin .append, args := #[y, y'], argTypes := ts } /\ okX s y = true /\ okX x y' = true /\ ts[0]? = some t /\ ts[1]? = some tx /\ P.underlying t = some (.slice e) /\ P.info? e = some ie /\ ie.size = sz /\ ie.bytes = bytes /\ ie.zero = some z /\ z.cells.size = sz /\ P.underlying tx = some (.int kn) := by
 cases o <;> first | exact Bool.noConfusion (show false = true from h) | skip
 rename_i c
 obtain ⟨callee, xs, ts⟩ := c
 cases callee <;> first | exact Bool.noConfusion (show false = true from h) | skip
 rename_i b
 cases b <;> first | exact Bool.noConfusion (show false = true from h) | skip
 simp only [okOp, Bool.and_eq_true, decide_eq_true_eq] at h;obtain ⟨⟨⟨h1, h2⟩, h3⟩, h4⟩ := h;obtain ⟨y, y', hy, h5, h6⟩ := qcD h1;have hy' : xs = #[y, y'] := by simpa using congrArg List.toArray hy
 subst hy'
 split at h3
 next t ht =>
  split at h4
  next tx htx =>
   split at h4
   next kn hu' =>
    simp only [Bool.and_eq_true, beq_iff_eq] at h3;obtain ⟨⟨h7, h8⟩, h9⟩ := h3
    split at h9
    next e hu =>
     cases hi : P.info? e with
     | none => rw [hi] at h9; cases h9
     | some ie =>
      rw [hi] at h9
      cases hz : ie.zero with
      | none => simp [hz] at h9
      | some z =>
       simp [hz] at h9;simp only [slSz, slBytes, hu, hi, Option.map_some, Option.some.injEq] at h7 h8;exact ⟨ts, y, y', t, tx, e, kn, ie, z, rfl, h5, h6, ht, htx, hu, hi, h7, h8, hz, h9, hu'⟩
    next => cases h9
   next => cases h4
  next => cases h4
 next => cases h3
theorem qju (w : World) {ts : Array TypeId} {t tn ty e : TypeId} {i : TypeInfo} {z : Value} {kn : IntKind} (h0 : ts[0]? = some t) (h1 : ts[1]? = some tn) (ht : P.underlying t = some (.slice e)) (htn : P.underlying tn = some (.int kn)) (hi : P.info? e = some i) (hz : i.zero = some z)
  {n : Nat} (hn0 : 0 < n) (hs : 0 < i.size) (h63 : (n : Int) <= 9223372036854775807) (h48 : n * i.bytes <= 281474976710656) (base : Option Addr) :
  (Builtin.append_ ts ty #[.slice base 0 0, .int .i64 n]).run P w =
   .ok (.slice (some ⟨w.heap.size, 0, none⟩) n (grownCap w n 0 e)) (w.drew.alloc (.cells (Builtin.zeroCells z.cells n ++ Builtin.zeroCells z.cells (grownCap w n 0 e - n)) e)) := by
 have hn : n ≠ 0 := by omega
 have hw : IntKind.i64.wrap (n : Int) = n := by rw [IntKind.wrap_i64]; omega
 have h63' : ¬ (9223372036854775807 < (n : Int)) := by omega
 have h48' : ¬ (281474976710656 < Builtin.nextslicecap n 0 * i.bytes) := by rw [nextslicecap_zero hn0]; omega
 have h48i : ¬ (281474976710656 < (n : Int) * (i.bytes : Int)) := by
  rw [<- Int.natCast_mul];omega
 have hneg : ¬ ((n : Int) < 0) := by omega
 have hns : ¬ (n * i.size = 0) := Nat.mul_ne_zero hn (by omega)
 cases base with
 | none => simp [Builtin.append_, h0, h1, run_underlying ht, run_underlying htn, sizeOf, typeInfo, zeroValue, hi, hz, asInt, asIntOf, hw, hn, hneg, hns, h63', h48', h48i, Question.forced, run_firstCells_none, newRow, grownCap]
 | some ad => simp [Builtin.append_, h0, h1, run_underlying ht, run_underlying htn, sizeOf, typeInfo, zeroValue, hi, hz, asInt, asIntOf, hw, hn, hneg, hns, h63', h48', h48i, Question.forced, Builtin.firstCells, loadCells, loadCellsFrom, newRow, grownCap]
theorem qhp (hI : MInv A n0 M0 ρ0 w0 M ρ H w) (hf : FRel M ρ fr a.tmps.toList) (hid : ρ0.length <= id) {sz bytes : Nat} {s x : AX} (hok : okOp P (.appendM sz bytes s x) o.op = true) (h : aop P n0 id fr H (.appendM sz bytes s x) k)
  (hK : ∀ v H' kl f x w', k v H' kl f -> f -> Nxt A n0 M0 ρ0 w0 M ρ id v H' kl x w' -> K (a.put o.dst x) w') : o.wp P a w K Q := by
 obtain ⟨ts, y, y', t, tx, e, kn, ie, z, ho, hs, hx, h0, h1, ht, hi, rfl, rfl, hz, hzs, hk⟩ := qho hok;simp only [aop] at h;have hv := qf hf hs;have hu := qf hf hx;generalize s.ev fr = v at h hv;generalize x.ev fr = u at h hu;unfold appendMK at h
 split at h
 next m =>
  obtain ⟨hm0, hmb, hm60, hpos, hg, h⟩ := h;have ey' := qu rfl hu;have h2 := hv.one rfl (by simp)
  simp only [LRel, CRel] at h2;obtain ⟨ad, n', e1, ad', len, cap, e2, hlen, _⟩ := h2;rw [e1] at e2;simp only [List.cons.injEq, Value.slice.injEq, and_true, List.length_nil] at e1 e2 hlen;have hn' : n' = 0 := by omega
  subst hn';obtain ⟨m, rfl⟩ := Int.eq_ofNat_of_zero_le (Int.le_of_lt hm0);simp only [Int.toNat_natCast] at *;have hb46 : (2:Nat)^46 <= 281474976710656 := by decide
  have hb60 : (2:Nat)^60 <= maxLen := by decide
  have hrun := qju (P := P) w (ty := o.type) h0 h1 ht hk hi hz (n := m) (by omega) hpos (by omega) (by omega) ad
  have hge := grownCap_ge w m 0 e;have hml := grownCap_le_maxLen w m 0 e (by omega)
  obtain ⟨ρ', h5, h6, h7, hgn⟩ := qbF (B := .row []) (c := Builtin.zeroCells z.cells m ++ Builtin.zeroCells z.cells (grownCap w m 0 e - m)) (T := e) hI.drew hid hg (.inr ⟨[], rfl, Nat.zero_le _, by simp [CRelC, ones]⟩)
  refine qc ?_ (hK _ _ _ _ _ _ h trivial ⟨M, ρ', h5, hgn, fun _ _ h => h.mono M.le_refl h6, qh (x := .slice (some ⟨w.heap.size, 0, none⟩) m (grownCap w m 0 e)) ?_ rfl⟩)
  ·simp [execOp, ho, resolve, invoke, builtin, e1, ey', hrun]
  ·simp only [LRel]
   refine ⟨_, _, _, h7, by simp, rfl, hge, hml, hpos, by simp, .inr ⟨_, _, _, rfl, by simp, ?_⟩⟩
   have hz1 : ∀ q, (Builtin.zeroCells z.cells q).size = q * ie.size := fun q => by simp [Builtin.zeroCells, hzs]
   rw [Array.size_append, hz1, hz1, <- Nat.add_mul];have : m + (grownCap w m 0 e - m) = grownCap w m 0 e := by omega
   rw [this]; omega
 next => cases h
theorem qir (hI : MInv A n0 M0 ρ0 w0 M ρ H w) (hf : FRel M ρ fr a.tmps.toList) (hid : ρ0.length <= id) {sz n : Nat} {zero : SV} {parts : List (Nat × AX)} (hok : okOp P (.buildR sz n zero parts) o.op = true) (h : aop P n0 id fr H (.buildR sz n zero parts) k)
  (hK : ∀ v H' kl f x w', k v H' kl f -> f -> Nxt A n0 M0 ρ0 w0 M ρ id v H' kl x w' -> K (a.put o.dst x) w') : o.wp P a w K Q := by
 obtain ⟨t, ps, e, ie, z, ho, hu, hie, hsz, hpos, hz, hps⟩ := qd3 (P := P) (o := o.op) (n := n) (sz := sz) (zero := zero) (parts := parts) (by revert hok; cases o.op <;> exact id'')
 subst hsz;simp only [aop] at h;obtain ⟨hn20, hn24, _, h⟩ := h;unfold exO at h
 split at h
 next xs hxs =>
  obtain ⟨hidx, hel, _, hg, h⟩ := h;obtain ⟨hp1, hp2⟩ := qbx hps;have hv := qS (H := []) (M.le_refl) (fun i B r h => by simp at h) (qE hf hp2) (by rw [List.map_map]; exact hxs)
  have hc := hv.cells;have hsl := lenL hc hel
  have hxl : xs.length = n := by
   have h1 := qaR hxs;have h2 : parts.length = n := by have := congrArg List.length hidx; simpa using this
   rw [h1, List.length_map, h2]
  have hpl : ps.toList.length = n := by
   have h1 := congrArg List.length hp1;have h2 : parts.length = n := by have := congrArg List.length hidx; simpa using this
   simpa [h2] using h1
  -- the values
  let vs : List Value := ps.toList.map fun p => a.eval p.2
  have hvs : (ps.map fun p => (p.1, a.eval p.2)).toList = (vs.zipIdx 0).map fun x => (x.2, x.1) := by
   have := qcE (ps.toList.map fun p => (p.1, a.eval p.2)) 0 (by
    simp only [List.map_map, List.length_map, hpl];rw [show ((fun x : Nat × Value => x.1) ∘ fun p : Nat × Operand => (p.1, a.eval p.2)) = (fun p => p.1) from rfl, hp1, hidx, List.range_eq_range'])
   rw [Array.toList_map, this];simp only [List.map_map];rfl
  have hcell : ∀ v ∈ vs, v.cells.size = ie.size := by
   intro v hv
   have := hsl v.cells.toList (by
    simp only [vs, List.mem_map] at hv ⊢;obtain ⟨p, hp, rfl⟩ := hv;exact ⟨_, ⟨_, ⟨p, hp, rfl⟩, rfl⟩, rfl⟩)
   simpa using this
  have hrun : (Instr.buildSlice t n (ps.map fun p => (p.1, a.eval p.2))).run P w = .ok (.slice (some ⟨w.heap.size, 0, none⟩) n n) (w.alloc (.cells (vs.flatMap fun v => v.cells.toList).toArray e)) := by
   by_cases hn0 : n = 0
   ·subst hn0
    have hvn : vs = [] := List.eq_nil_of_length_eq_zero (by simp only [vs, List.length_map]; exact hpl)
    have hpn : (ps.map fun p => (p.1, a.eval p.2)).toList = [] := by rw [hvs, hvn]; rfl
    have hpn' : (ps.map fun p => (p.1, a.eval p.2)) = #[] := by simpa using hpn
    rw [hpn', hvn];simp [Instr.buildSlice, run_underlying hu, sizeOf, typeInfo, hie, Instr.fill, newRow, Array.range_zero']
   ·refine run_buildSlice w t e n _ _ ie z hu hie hz (by omega) (by
     have : 0 < n * ie.size := Nat.mul_pos (by omega) hpos
     omega) ?_
    rw [hvs];exact Great.fill_whole hpos vs _ hcell (by simp [vs, hpl])
  obtain ⟨L, hL⟩ : ∃ L, L = vs.flatMap fun v => v.cells.toList := ⟨_, rfl⟩
  rw [<- hL] at hrun
  have e1 : (List.map (fun v : Value => v.cells.toList) (List.map a.eval (List.map (fun x => x.2) ps.toList))).flatten = L := by
   rw [hL];simp only [vs, List.flatMap_def, List.map_map];rfl
  have hfl : CRelC M (flatE xs) (ones (L)) := by
   rw [<- e1];exact qaa hc
  have hfll : (flatE xs).length = n * ie.size := by
   have := hfl.length;rw [qN] at this;rw [<- this, <- e1, qaO hsl];simp [hpl]
  obtain ⟨ρ', h1, h2, h3, hgn⟩ := qbF (T := e) (c := L.toArray) hI hid hg (.inr ⟨flatE xs, rfl, by
    have := hfl.length;simp only [qN] at this;simp [this], by
    have := hfl.length;rw [qN] at this;rw [List.take_of_length_le (by simp; omega)]
    simpa using hfl⟩)
  refine qc (x := .slice (some ⟨w.heap.size, 0, none⟩) n n) (w' := w.alloc (.cells L.toArray e)) (by simp [execOp, ho, hrun]) (hK _ _ _ _ _ _ h trivial ⟨M, ρ', h1, hgn, fun _ _ h => h.mono M.le_refl h2, qh ?_ rfl⟩)
  simp only [LRel];refine ⟨_, _, _, h3, by simp, rfl, Nat.le_refl _, ?_, hpos, by simp, .inr ⟨_, _, _, rfl, by simp, ?_⟩⟩
  ·have : (2:Nat) ^ 20 <= maxLen := by decide
   omega
  ·have := hfl.length
   rw [qN] at this;simp only [List.size_toArray];omega
 next => cases h
 where id'' {p : Prop} (h : p) : p := h
end
section
variable {P : Program} {A : Nat -> Obj -> Prop} {dfs : List Deferred} {M0 : Mem} {ρ0 : Env} {w0 : World} {M : Mem} {ρ : Env} {H : List ABlock} {w : World} {o : Oper} {a : Act} {K : Act -> World -> Prop} {Q : Exit -> Act -> World -> Prop} {fr : List LV} {k : AK} {n0 id : Nat}
theorem qbM (hI : MInv A n0 M0 ρ0 w0 M ρ H w) (hid : ρ0.length <= id) {sz bytes : Nat} {v u : LV} {ts : Array TypeId} {y y' : Operand} {t tx e e' : TypeId} {ie : TypeInfo} {z : Value}
  (ho : o.op = .call { callee := .builtin .append, args := #[y, y'], argTypes := ts }) (h0 : ts[0]? = some t) (h1 : ts[1]? = some tx) (ht : P.underlying t = some (.slice e)) (hi : P.info? e = some ie) (hsz : ie.size = sz) (hbytes : ie.bytes = bytes) (hz : ie.zero = some z) (hzs : z.cells.size = sz) (hk : P.underlying tx = some (.slice e'))
  (hv : LVal M ρ v (a.eval y)) (hu : LVal M ρ u (a.eval y')) (h : appendNK H id sz bytes u k v)
  (hK : ∀ v H' kl f x w', k v H' kl f -> f -> Nxt A n0 M0 ρ0 w0 M ρ id v H' kl x w' -> K (a.put o.dst x) w') : o.wp P a w K Q := by
 unfold appendNK at h
 split at h
 next xs =>
  obtain ⟨ys, hys, hfit, h⟩ := qd h;refine qhL hI hid ho h0 h1 ht hi hsz hbytes hz hzs hk hv hu rfl hys ?_ hfit h hK;intro ad len cap e;have h2 := hv.one rfl (by simp)
  simp only [LRel] at h2;obtain ⟨_, n, e', _⟩ := h2;rw [e] at e';simp only [List.cons.injEq, Value.slice.injEq, and_true] at e';omega
 next b off len sz' =>
  obtain ⟨rfl, h⟩ := h;obtain ⟨ys, hys, h⟩ := qd h;obtain ⟨xs, hxs, hfit, h⟩ := qd h;refine qhL hI hid ho h0 h1 ht hi hsz hbytes hz hzs hk hv hu hxs hys ?_ hfit h hK;intro ad len cap e;have h2 := hv.one rfl (by simp)
  simp only [LRel] at h2;obtain ⟨_, _, _, _, _, e', _, _, _, hcl, _⟩ := h2;rw [e] at e';simp only [List.cons.injEq, Value.slice.injEq, and_true] at e';have := hcl trivial;omega
 next => cases h
theorem qhq (hI : MInv A n0 M0 ρ0 w0 M ρ H w) (hf : FRel M ρ fr a.tmps.toList) (hid : ρ0.length <= id) {sz bytes : Nat} {s x : AX} (hok : okOp P (.appendN sz bytes s x) o.op = true) (h : aop P n0 id fr H (.appendN sz bytes s x) k)
  (hK : ∀ v H' kl f x w', k v H' kl f -> f -> Nxt A n0 M0 ρ0 w0 M ρ id v H' kl x w' -> K (a.put o.dst x) w') : o.wp P a w K Q := by
 obtain ⟨ts, y, y', t, tx, e, e', ie, z, ho, hs, hx, hb, h0, h1, ht, hi, hsz, hbytes, hz, hzs, hk⟩ := qhn hok;simp only [aop] at h;exact qbM hI hid ho h0 h1 ht hi hsz hbytes hz hzs hk (qf hf hs) (qf hf hx) h hK
theorem MInv.put (h : MInv A n0 M0 ρ0 w0 M ρ H w) {b cb sh n sh' : Nat} {B B' : ABlock} {c c' : Array Value} {T : TypeId} (hb0 : n0 <= b) (hB : H[b]? = some B) (hr : ρ[b]? = some (.here cb sh n))
  (hc : w.heap[cb]? = some (.cells c T (0, 0))) (hn : ∀ o, M.cell cb o = none) (hB' : BRel M (ρ.set b (.here cb sh' n)) (w.setRow cb c') B' (.here cb sh' n)) (hBo : ∀ cs, B' ≠ .obj cs) (hd : B ≠ .frz [] := by nofun) :
  MInv A n0 M0 ρ0 w0 M (ρ.set b (.here cb sh' n)) (killH (some b) (H.set b B')) (w.setRow cb c') := by
 have hb := (List.getElem?_eq_some_iff.1 hB).1;refine { rel := ?_, mem := h.mem, nle := h.nle, len := by simpa using h.len, env := fun i r hi hne hr => ?_, gon := fun i hi hr => ?_, touch := ?_, newer := h.newer, fresh := fun i cb' sh' n' hi hr' => ?_, alien := fun k o ho => ?_ }
 ·exact SRel.move h.rel hb (fun k hk _ => setRow_other w cb k c' hk) (h.rel.free hc hn) (by simpa using h.rel.lt b cb sh n hr) (by simp)
   (fun j cb' sh'' n' hj hj' ha => h.rel.inj j b cb' sh'' n' cb sh n hj hj' hr ha (by rw [hB]; exact fun e => hd (Option.some.inj e))) hB' hBo
 ·rw [List.getElem?_set, if_neg (by omega)]; exact h.env i r hi hne hr
 ·rename_i hr0
  rw [List.getElem?_set, if_neg (fun e => by subst e; have := h.gon _ hi hr; rw [hr0] at this; cases this)]; exact h.gon i hi hr
 ·refine ⟨h.touch.os, h.touch.tape, h.touch.output, h.touch.drawn, by rw [setRow_size]; exact h.touch.size, fun k hk hno => ?_⟩
  rw [setRow_other w cb k c' (fun e => ?_)]
  ·exact h.touch.block k hk hno
  ·subst e
   rcases h.has_old ⟨b, sh, n, hr⟩ with h1 | h1
   ·exact hno h1
   ·omega
 ·rw [List.getElem?_set] at hr'
  split at hr'
  ·rename_i e
   split at hr'
   ·cases hr'; subst e; exact h.fresh b cb sh n hi hr
   ·cases hr'
  ·exact h.fresh i cb' _ n' hi hr'
 ·obtain ⟨h1, h2, h3⟩ := h.alien k o ho
  have hne : k ≠ cb := fun e => h3 (e ▸ ⟨b, sh, n, hr⟩)
  refine ⟨by rw [setRow_other w cb k c' hne]; exact h1, h2, fun hk => ?_⟩
  rcases qdP hk with hk | ⟨_, _, e⟩
  ·exact h3 hk
  ·cases e; exact hne rfl
theorem MInv.forget (h : MInv A n0 M0 ρ0 w0 M ρ H w) (b : Nat) : MInv A n0 M0 ρ0 w0 M ρ (killH (some b) H) w :=
  { h with
    rel := by
      refine ⟨by simp only [killH, List.length_map]; exact h.rel.len, fun i B r hB hr => ?_, fun i j cb sh n cb' sh' n' hij hi hj a1 a2 => h.rel.inj i j cb sh n cb' sh' n' hij hi hj (qP a1) (qP a2), h.rel.lt, h.rel.cells, h.rel.maps⟩
      simp only [killH, List.getElem?_map, Option.map_eq_some_iff] at hB;obtain ⟨B0, hB0, rfl⟩ := hB;exact (h.rel.blk i B0 r hB0 hr).fgt fun _ _ => rfl }
theorem qbW {b : Nat} {r : Spot} {u : LV} {y : Value} (h : LVal M ρ u y) : LVal M (ρ.set b r) (killV (some b) u) y :=
 h.fgt fun j hj => Env.but_set ρ b r j (by simpa using hj)
theorem qis (hI : MInv A n0 M0 ρ0 w0 M ρ H w) (hf : FRel M ρ fr a.tmps.toList) (hid : ρ0.length <= id) {sz bytes : Nat} {s x : AX} (hok : okOp P (.append sz bytes s x) o.op = true) (h : aop P n0 id fr H (.append sz bytes s x) k)
    (hK : ∀ v H' kl f x w', k v H' kl f -> f -> Nxt A n0 M0 ρ0 w0 M ρ id v H' kl x w' -> K (a.put o.dst x) w') : o.wp P a w K Q := by
  obtain ⟨ts, y, y', t, tx, e, e', ie, z, ho, hs, hx, hb, h0, h1, ht, hi, hsz, hbytes, hz, hzs, hk⟩ := qcH hok;simp only [aop, appendK] at h;have hv := (qf hf hs).unclip n0;have hu := qf hf hx;generalize unclip n0 (s.ev fr) = v at h hv;generalize x.ev fr = u at h hu;unfold appendK0 at h
  split at h
  next b off len sz' =>
    obtain ⟨rfl, hnb, h⟩ := h;obtain ⟨ys, hys, hfy, h⟩ := qd h;unfold appendB at h
    split at h
    next cs hB =>
      obtain ⟨hend, hfb, hf60, hkk⟩ := h;subst hsz hbytes;have h2 := hv.one rfl (by simp)
      simp only [LRel] at h2;obtain ⟨r, ad, cap, hρ, hg, ey, hlc, hcm, hpos, _, hcap⟩ := h2;have eyy : a.eval y = .slice ad len cap := by simpa using ey
      obtain ⟨ady, capy, uss, exx, hy1, hy2, hy3, hy4, hy5, hsy⟩ := qbL (P := P) hI hk hu hys hfy;obtain ⟨r', hr1, hr2⟩ := hI.rel.spot hB;rw [hρ] at hr1; cases hr1;have hbl := (List.getElem?_eq_some_iff.1 hB).1;have hbρ : b < ρ.length := by rw [hI.rel.len]; exact hbl
      have hfl : (flatE ys).length = ys.length * ie.size := qaj hfy
      have fin : ∀ {ρ' : Env} {w' : World} {ad' : Option Addr} {cap' : Nat}, (Builtin.append_ ts o.type #[.slice ad len cap, a.eval y']).run P w = .ok (.slice ad' (len + ys.length) cap') w' ->
          MInv A n0 M0 ρ0 w0 M ρ' (killH (some b) (H.set b (.row (cs.drop off ++ flatE ys)))) w' -> (∀ u y, LVal M ρ u y -> LVal M ρ' (killV (some b) u) y) -> (∀ (j : Nat), ρ[j]? = some Spot.gone -> ρ'[j]? = some Spot.gone) ->
          LRel M ρ' (.sl b 0 (len + ys.length) ie.size false) [.slice ad' (len + ys.length) cap'] -> o.wp P a w K Q := by
        intro ρ' w' ad' cap' hrun hI' hm hgn hl;refine qc ?_ (hK _ _ _ _ _ _ hkk trivial ⟨M, ρ', hI', fun j _ h => hgn j h, hm, qh hl rfl⟩)
        simp [execOp, ho, resolve, invoke, builtin, eyy, hrun]
      -- the block's cells, where it lies somewhere
      cases r with
      | gone => exact absurd rfl hg
      | empty =>
        simp only [BRel] at hr2;subst hr2
        have hc0 : cap = 0 := by
          rcases hcap with h | ⟨cb, sh, n, h, _⟩
          · exact h
          · cases h
        subst hc0;have hl0 : len = 0 := by omega
        subst hl0;have hoff : off = 0 := by simp at hend; omega
        subst hoff
        by_cases hnil : ys = []
        · subst hnil
          have hrun := qax (P := P) (w := w) (ty := o.type) h0 h1 ht hi (base := ad) (sLen := 0) (sCap := 0) hsy (by simp) (w' := w) (fun _ _ => by
            simp only [CRelC] at hy3; subst hy3; simp [storeCells]) (fun _ => rfl)
          have hset : H.set b (.row (([] : List SV).drop 0 ++ flatE [])) = H := by
            apply List.ext_getElem?
            intro j;rw [List.getElem?_set]
            by_cases e : b = j
            · subst e; rw [if_pos rfl, if_pos hbl, hB]; simp [flatE]
            · simp [e]
          refine fin hrun (by rw [hset]; exact hI.forget b) (fun u y h => h.fgt fun _ _ => rfl) (fun _ h => h) ?_
          simp only [LRel];exact ⟨.empty, _, 0, hρ, by simp, rfl, by simp, by omega, hpos, by simp, .inl rfl⟩
        · have hlp := List.length_pos_iff.2 hnil
          have hge := grownCap_ge w (0 + ys.length) 0 e
          have hml := grownCap_le_maxLen w (0 + ys.length) 0 e (by have : (2:Nat)^60 <= maxLen := by decide
                                                                   omega)
          have hold : (Builtin.firstCells ie.size 0 (.slice ad 0 0)).run P w.drew = .ok ([] : List Value).toArray w.drew := by
            cases ad with
            | none => exact run_firstCells_none w.drew ie.size 0 0 0
            | some ad => exact run_firstCells_some w.drew ie.size 0 ad 0 0 [] (by simp) (by simp)
          have hrun := qaf (P := P) (w := w) (ty := o.type) h0 h1 ht hi hz (base := ad) (sLen := 0) (sCap := 0) (olds := []) hold hsy (by omega) (by
            have : (2:Nat)^60 <= 9223372036854775807 := by decide
            omega) (growslice_fits (by omega) (by have : (2:Nat)^46 <= 140737488355328 := by decide
                                                  omega))
          obtain ⟨hr1, hr3⟩ := grown_row (M := M) (xs := []) (ys := ys) (ussx := []) (sz := ie.size) (z := z) (need := 0 + ys.length) (by simp [CRelC]) hy3 (by simp) hy5 (by simp) hge hzs (by simpa using hfl)
          simp only [List.flatten_nil, List.nil_append] at hr1 hr3;refine fin hrun (MInv.move (cb := w.heap.size) (sh := 0) (n := grownCap w (0 + ys.length) 0 e * ie.size) hI.drew hnb (by rw [hρ]; simp) hbl (qm w.drew _) (hI.drew.rel.holds.grow (qm w.drew _)) (Nat.le_refl _) (by simp) ?_ (by simp)) (fun u y h => qbW h) (fun j h => by rw [List.getElem?_set, if_neg (fun e => by subst e; rw [hρ] at h; cases h)]; exact h) ?_
          · simp only [BRel, List.drop_zero, List.nil_append]
            refine ⟨_, e, qap w.drew _, hr1, ?_, by simpa using hr3, fun o => ?_⟩
            · rw [hfl, Nat.zero_add]; exact Nat.mul_le_mul_right _ (by omega)
            · cases hm : M.cell w.heap.size o with
              | none => rfl
              | some v => have := hI.rel.cell_lt hm; omega
          · simp only [LRel]
            refine ⟨_, _, _, List.getElem?_set_self hbρ, by simp, rfl, hge, hml, hpos, by simp, .inr ⟨_, _, _, rfl, by simp, ?_⟩⟩
            omega
      | here cb sh n =>
        simp only [BRel] at hr2;obtain ⟨c, T, hc1, hc2, hc3, hc4, hc5⟩ := hr2;have hoffl : off <= cs.length := by omega
        have hcl : c.toList.length = n := by simp only [Array.length_toList]; omega
        have hdrop : (cs.drop off).length = len * ie.size := by rw [List.length_drop]; omega
        have hsub : ((c.toList.drop (sh + off)).take (len * ie.size)) = ((c.toList.drop sh).take cs.length).drop off := by
          rw [List.drop_take, List.drop_drop]; congr 1; omega
        have hsubr : CRelC M (cs.drop off) (ones ((c.toList.drop (sh + off)).take (len * ie.size))) := by
          rw [hsub, qv]; exact hc4.drop off
        by_cases hnil : ys = []
        · subst hnil
          have hrun := qax (P := P) (w := w) (ty := o.type) h0 h1 ht hi (base := ad) (sLen := len) (sCap := cap) hsy (by simpa using hlc) (w' := w) (fun _ _ => by
            simp only [CRelC] at hy3; subst hy3; simp [storeCells]) (fun _ => rfl)
          have hput := MInv.put (sh' := sh + off) (c' := c) (B' := .row (cs.drop off ++ flatE [])) hI hnb hB hρ hc1 hc5 (by
            rw [setRow_self w cb c T (0, 0) hc1];simp only [BRel, flatE, List.map_nil, List.flatten_nil, List.append_nil];exact ⟨c, T, hc1, hc2, by omega, by rw [hdrop]; exact hsubr, hc5⟩) (by simp)
          rw [setRow_self w cb c T (0, 0) hc1] at hput;refine fin hrun hput (fun u y h => qbW h) (fun j h => by rw [List.getElem?_set, if_neg (fun e => by subst e; rw [hρ] at h; cases h)]; exact h) ?_
          simp only [LRel];refine ⟨_, _, _, List.getElem?_set_self hbρ, by simp, rfl, by simpa using hlc, hcm, hpos, by simp, ?_⟩
          rcases hcap with h | ⟨cb', sh', n', h3, h4, h5⟩
          · exact .inl h
          · cases h3; exact .inr ⟨_, _, _, rfl, by rw [h4]; simp, by omega⟩
        · have hlp := List.length_pos_iff.2 hnil
          by_cases hroom : len + ys.length <= cap
          · rcases hcap with h | ⟨cb', sh', n', h3, h4, h5⟩
            · omega
            cases h3
            subst h4;have hmul := Nat.mul_le_mul_right ie.size hroom;rw [Nat.add_mul] at hmul
            have hone : ∀ u ∈ uss.flatten, u.oneCell' = true := by
              intro u hu;obtain ⟨us, hus, hu⟩ := List.mem_flatten.1 hu;exact CRelC.oneCells _ _ hy3 us hus u hu
            have hst := run_storeCells_at P cb (sh + off + len * ie.size) T uss.flatten 0 c w hc1 (by simp only [Nat.add_zero]; omega) hone
            have hrun := qax (P := P) (w := w) (ty := o.type) h0 h1 ht hi (base := some ⟨cb, sh + off, none⟩) (sLen := len) (sCap := cap) hsy hroom (fun ad had => by
              cases had; rw [Addr.add_lit]; exact hst) (fun h => by cases h)
            refine fin hrun (MInv.put (sh' := sh + off) (c' := _) hI hnb hB hρ hc1 hc5 ?_ (by simp)) (fun u y h => qbW h) (fun j h => by rw [List.getElem?_set, if_neg (fun e => by subst e; rw [hρ] at h; cases h)]; exact h) ?_
            · simp only [BRel, Nat.add_zero]
              have hul : uss.flatten.length = (flatE ys).length := by rw [hy5, hfl]
              have hlen : (cs.drop off ++ flatE ys).length = len * ie.size + uss.flatten.length := by rw [List.length_append, hdrop, hul]
              refine ⟨_, T, setRow_heap w cb c _ T _ hc1, ?_, by rw [hlen]; omega, ?_, hc5⟩
              · simp only [List.size_toArray, List.length_append, List.length_take, List.length_drop]; omega
              · have e1 : ((c.toList.take (sh + off + len * ie.size) ++ uss.flatten ++ c.toList.drop (sh + off + len * ie.size + uss.flatten.length)).drop (sh + off)).take (len * ie.size + uss.flatten.length) =
                    (c.toList.drop (sh + off)).take (len * ie.size) ++ uss.flatten := by
                  have l1 : (c.toList.take (sh + off + len * ie.size)).length = sh + off + len * ie.size := by rw [List.length_take]; omega
                  have l2 : ((c.toList.drop (sh + off)).take (len * ie.size)).length = len * ie.size := by rw [List.length_take, List.length_drop]; omega
                  rw [List.append_assoc, List.drop_append_of_le_length (by omega), List.drop_take, show sh + off + len * ie.size - (sh + off) = len * ie.size by omega]
                  rw [<- List.append_assoc, List.take_append_of_le_length (by rw [List.length_append, l2]; omega), List.take_of_length_le (by rw [List.length_append, l2]; omega)]
                simp only [hlen];rw [e1, qV];exact hsubr.append (qaa hy3)
            · simp only [LRel]
              exact ⟨_, _, _, List.getElem?_set_self hbρ, by simp, rfl, hroom, hcm, hpos, by simp, .inr ⟨_, _, _, rfl, by simp, by omega⟩⟩
          · have hge := grownCap_ge w (len + ys.length) cap e
            have hml := grownCap_le_maxLen w (len + ys.length) cap e (by have : (2:Nat)^60 <= maxLen := by decide
                                                                         omega)
            have hol : ((c.toList.drop (sh + off)).take (len * ie.size)).length = len * ie.size := by
              rw [List.length_take, List.length_drop];omega
            have hold : (Builtin.firstCells ie.size len (.slice ad len cap)).run P w.drew = .ok ((c.toList.drop (sh + off)).take (len * ie.size)).toArray w.drew := by
              rcases hcap with h | ⟨cb', sh', n', h3, h4, h5⟩
              · have hl0 : len = 0 := by omega
                subst hl0;simp only [Nat.zero_mul, List.take_zero]
                cases ad with
                | none => exact run_firstCells_none w.drew ie.size 0 0 cap
                | some ad => exact run_firstCells_some w.drew ie.size 0 ad 0 cap [] (by simp) (by simp)
              · cases h3
                subst h4;refine run_firstCells_some w.drew ie.size len _ len cap _ hol fun j v hj => ?_
                rw [Addr.add_lit, World.cell?_drew, heap_cell? hc1]
                simpa using qG j v hj
            have hrun := qaf (P := P) (w := w) (ty := o.type) h0 h1 ht hi hz (base := ad) (sLen := len) (sCap := cap) hold hsy (by omega) (by
              have : (2:Nat)^60 <= 9223372036854775807 := by decide
              omega) (growslice_fits (by omega) (by have : (2:Nat)^46 <= 140737488355328 := by decide
                                                    omega))
            have hzc : (Builtin.zeroCells z.cells (grownCap w (len + ys.length) cap e - (len + ys.length))).size = (grownCap w (len + ys.length) cap e - (len + ys.length)) * ie.size := by simp [Builtin.zeroCells, hzs]
            have hsize : (((c.toList.drop (sh + off)).take (len * ie.size) ++ uss.flatten).toArray ++ Builtin.zeroCells z.cells (grownCap w (len + ys.length) cap e - (len + ys.length))).size = grownCap w (len + ys.length) cap e * ie.size := by
              rw [Array.size_append, hzc];simp only [List.size_toArray, List.length_append, hol, hy5, <- Nat.add_mul]
              congr 1; omega
            have hlen : (cs.drop off ++ flatE ys).length = len * ie.size + uss.flatten.length := by rw [List.length_append, hdrop, hfl, hy5]
            have hmul := Nat.mul_le_mul_right ie.size hge;rw [Nat.add_mul] at hmul;refine fin hrun (MInv.move (cb := w.heap.size) (sh := 0) (n := grownCap w (len + ys.length) cap e * ie.size) hI.drew hnb (by rw [hρ]; simp) hbl (qm w.drew _) (hI.drew.rel.holds.grow (qm w.drew _)) (Nat.le_refl _) (by simp) ?_ (by simp)) (fun u y h => qbW h) (fun j h => by rw [List.getElem?_set, if_neg (fun e => by subst e; rw [hρ] at h; cases h)]; exact h) ?_
            · simp only [BRel]
              refine ⟨_, e, qap w.drew _, hsize, ?_, ?_, fun o => ?_⟩
              · rw [hlen]; omega
              · simp only [hlen, List.drop_zero, Array.toList_append]
                rw [List.take_append_of_le_length (by simp only [List.length_append, hol]; omega), List.take_of_length_le (by simp only [List.length_append, hol]; omega), qV]
                exact hsubr.append (qaa hy3)
              · cases hm : M.cell w.heap.size o with
                | none => rfl
                | some v => have := hI.rel.cell_lt hm; omega
            · simp only [LRel]
              refine ⟨_, _, _, List.getElem?_set_self hbρ, by simp, rfl, hge, hml, hpos, by simp, .inr ⟨_, _, _, rfl, by simp, ?_⟩⟩
              omega
    next => cases h
  next b off len sz' => exact qbM hI hid ho h0 h1 ht hi hsz hbytes hz hzs hk hv hu h hK
  next xs => exact qbM hI hid ho h0 h1 ht hi hsz hbytes hz hzs hk hv hu h hK
  next => cases h
end
section
variable {P : Program} {A : Nat -> Obj -> Prop} {dfs : List Deferred} {M0 : Mem} {ρ0 : Env} {w0 : World} {M : Mem} {ρ : Env} {H : List ABlock} {w : World} {o : Oper} {a : Act} {K : Act -> World -> Prop} {Q : Exit -> Act -> World -> Prop} {fr : List LV} {k : AK} {n0 id : Nat}
theorem qbi : ∀ {vs : List SV} {xs : List Value}, VRelL M vs xs -> FRel M ρ (vs.map .s) xs
 | [], xs, h => h
 | v :: vs, xs, h => by obtain ⟨y, ys, rfl, h1, h2⟩ := h; exact ⟨y, ys, rfl, qi.2 h1, qbi h2⟩
theorem qcc {H : List ABlock} {b : Nat} {B' : ABlock} (ha : H[b]? ≠ some (.frz [])) (i : Nat) (h : (H.set b B')[i]? ≠ some (.frz [])) : H[i]? ≠ some (.frz []) := by
 by_cases e : b = i
 ·subst e; exact ha
 ·rwa [List.getElem?_set_ne e] at h
theorem MInv.reblk0 {H : List ABlock} (h : MInv A n0 M0 ρ0 w0 M ρ H w) {b : Nat} {B' : ABlock} (ha : H[b]? ≠ some (.frz [])) (hB : ∀ r, ρ[b]? = some r -> BRel M ρ w B' r) : MInv A n0 M0 ρ0 w0 M ρ (H.set b B') w :=
  { h with
    rel := { h.rel with
      len := by simpa using h.rel.len
      inj := fun i j cb sh n cb' sh' n' hij hi hj a1 a2 => h.rel.inj i j cb sh n cb' sh' n' hij hi hj (qcc ha i a1) (qcc ha j a2)
      blk := fun i B r hBi hr => by
        rw [List.getElem?_set] at hBi
        split at hBi
        · rename_i e; subst e
          split at hBi
          · cases hBi; exact hB r hr
          · cases hBi
        · exact h.rel.blk i B r hBi hr } }
theorem MInv.reblkD {H : List ABlock} (h : MInv A n0 M0 ρ0 w0 M ρ H w) {b : Nat} (hB : ∀ r, ρ[b]? = some r -> BRel M ρ w (.frz []) r) : MInv A n0 M0 ρ0 w0 M ρ (H.set b (.frz [])) w :=
  { h with
    rel := { h.rel with
      len := by simpa using h.rel.len
      inj := fun i j cb sh n cb' sh' n' hij hi hj a1 a2 => by
        have al : ∀ i : Nat, i < H.length -> (H.set b (.frz []))[i]? ≠ some (ABlock.frz []) -> H[i]? ≠ some (.frz []) := fun i hi ha => by
          by_cases e : b = i
          · subst e; rw [List.getElem?_set_self hi] at ha; exact absurd rfl ha
          · rwa [List.getElem?_set_ne e] at ha
        have li := (List.getElem?_eq_some_iff.1 hi).1;have lj := (List.getElem?_eq_some_iff.1 hj).1;rw [h.rel.len] at li lj;exact h.rel.inj i j cb sh n cb' sh' n' hij hi hj (al i li a1) (al j lj a2)
      blk := fun i B r hBi hr => by
        rw [List.getElem?_set] at hBi
        split at hBi
        · rename_i e; subst e
          split at hBi
          · cases hBi; exact hB r hr
          · cases hBi
        · exact h.rel.blk i B r hBi hr } }
theorem qff {n : Nat} {g : Bool} {v : LV} (h : ldOK H n g k v) : ldK H n g k v := by
 unfold ldOK at h
 split at h
 ·exact h
 ·unfold ldOB at h
  split at h
  ·rename_i hB; simp only [ldK, hB, ldB]; exact h
  ·cases h
 ·cases h
theorem qjv {n : Nat} {x v : LV} (h : stRK H n x k v) : stK H n x k v := by
 unfold stRK at h
 split at h
 ·unfold stRB at h
  split at h
  ·rename_i hB; simp only [stK, hB, stB]; exact h
  ·cases h
 ·cases h
theorem qjw (hI : MInv A n0 M0 ρ0 w0 M ρ H w) (hf : FRel M ρ fr a.tmps.toList) {n : Nat} {g : Bool} {x : AX} (hok : okOp P (.loadO n g x) o.op = true) (h : aop P n0 id fr H (.loadO n g x) k)
  (hK : ∀ v H' kl f x w', k v H' kl f -> f -> Nxt A n0 M0 ρ0 w0 M ρ id v H' kl x w' -> K (a.put o.dst x) w') : o.wp P a w K Q :=
 qcB (n0 := n0) hI hf (n := n) (g := g) (x := x) (by revert hok; cases o.op <;> exact id') (qff h) hK
 where id' {p : Prop} (h : p) : p := h
theorem qjx (hI : MInv A n0 M0 ρ0 w0 M ρ H w) (hf : FRel M ρ fr a.tmps.toList) {n r : Nat} {g : Bool} {x : AX} (hok : okOp P (.loadX n g x r) o.op = true) (h : aop P n0 id fr H (.loadX n g x r) k)
  (hK : ∀ v H' kl f x w', k v H' kl f -> f -> Nxt A n0 M0 ρ0 w0 M ρ id v H' kl x w' -> K (a.put o.dst x) w') : o.wp P a w K Q :=
 qcB (n0 := n0) hI hf (n := n) (g := g) (x := x) (by revert hok; cases o.op <;> exact id') (qff h.2) hK
 where id' {p : Prop} (h : p) : p := h
theorem qjy (hI : MInv A n0 M0 ρ0 w0 M ρ H w) (hf : FRel M ρ fr a.tmps.toList) {n : Nat} {g : Bool} {x : AX} (hok : okOp P (.loadS n g x) o.op = true) (h : aop P n0 id fr H (.loadS n g x) k)
  (hK : ∀ v H' kl f x w', k v H' kl f -> f -> Nxt A n0 M0 ρ0 w0 M ρ id v H' kl x w' -> K (a.put o.dst x) w') : o.wp P a w K Q :=
 qcB (n0 := n0) hI hf (n := n) (g := g) (x := x) (by revert hok; cases o.op <;> exact id') (by
  simp only [aop] at h ⊢;unfold ldSK at h
  split at h
  ·rename_i e; rw [e]; exact h
  ·cases h) hK
 where id' {p : Prop} (h : p) : p := h
theorem qit (hI : MInv A n0 M0 ρ0 w0 M ρ H w) (hf : FRel M ρ fr a.tmps.toList) {n : Nat} {x y : AX} (hok : okOp P (.storeR n x y) o.op = true) (h : aop P n0 id fr H (.storeR n x y) k)
  (hK : ∀ v H' kl f x w', k v H' kl f -> f -> Nxt A n0 M0 ρ0 w0 M ρ id v H' kl x w' -> K (a.put o.dst x) w') : o.wp P a w K Q :=
 qfe (n0 := n0) hI hf (n := n) (x := x) (y := y) (by revert hok; cases o.op <;> exact id') (qjv h) hK
 where id' {p : Prop} (h : p) : p := h
theorem qjz {f : FuncId} {s : AX} {args : List AX} {o : Op} (h : okOp P (.callF f s args) o = true) : ∃ xs ts, o = .call { callee := .value (.func f), args := xs, argTypes := ts } /\ okXs (s :: args) xs.toList = true /\ okFn P f = true := by
 cases o <;> first | exact Bool.noConfusion (show false = true from h) | skip
 rename_i c
 obtain ⟨callee, xs, ts⟩ := c
 cases callee <;> first | exact Bool.noConfusion (show false = true from h) | skip
 rename_i y
 cases y <;> first | exact Bool.noConfusion (show false = true from h) | skip
 simp only [okOp, Bool.and_eq_true, beq_iff_eq] at h;obtain ⟨⟨rfl, h1⟩, h2⟩ := h;exact ⟨_, _, rfl, h1, h2⟩
theorem qoa {cb : Nat} (hn : ∀ o, M.cell cb o = none) {ρ1 : Env} (hh : ¬ ρ1.has cb) (o' : Nat) : (M.up ρ1 w).cell cb o' = none := by
 simp only [Mem.up, hn, if_neg hh]
def Spot.but (cb : Nat) : Spot -> Spot
 | .here c s n => if c = cb then .gone else .here c s n
 | r => r
def Env.sep (ρ : Env) : Spot -> Env
 | .here cb _ _ => ρ.map (Spot.but cb)
 | _ => ρ
theorem qob {cb sh n : Nat} : ¬ Env.has (ρ.sep (.here cb sh n)) cb := by
 rintro ⟨i, s, m, h⟩;simp only [Env.sep, List.getElem?_map, Option.map_eq_some_iff] at h;obtain ⟨r, _, hr⟩ := h
 cases r with
 | here c s' n' =>
  simp only [Spot.but] at hr
  split at hr
  ·cases hr
  ·rename_i hne; cases hr; exact hne rfl
 | gone => cases hr
 | empty => cases hr
theorem qmQ (h : SRel M ρ H w) {b : Nat} {r : Spot} (ha : H[b]? ≠ some (.frz [])) (hr : ρ[b]? = some r) : ∀ i cb sh n, i ≠ b -> H[i]? ≠ some (.frz []) -> ρ[i]? = some (.here cb sh n) -> (ρ.sep r).has cb := by
 intro i cb sh n hib hai hi
 cases r with
 | here c s m =>
  have hne := h.inj i b cb sh n c s m hib hi hr hai ha;exact ⟨i, sh, n, by simp only [Env.sep, List.getElem?_map, hi, Option.map_some, Spot.but, if_neg hne]⟩
 | gone => exact ⟨i, sh, n, hi⟩
 | empty => exact ⟨i, sh, n, hi⟩
theorem SRel.stab_but (h : SRel M ρ H w) {b : Nat} {i : Nat} {B : ABlock} {r : Spot} {ρ1 : Env} (hρ1 : ∀ i cb sh n, i ≠ b -> H[i]? ≠ some (.frz []) -> ρ[i]? = some (.here cb sh n) -> ρ1.has cb) (hB : (H.set b .gone)[i]? = some B) (hr : ρ[i]? = some r) : BStab M (M.up ρ1 w) ρ B r := by
 rw [List.getElem?_set] at hB
 split at hB
 ·split at hB
  ·cases hB; simp only [BStab]
  ·cases hB
 ·rename_i hne
  have hb := h.blk i B r hB hr
  by_cases hd : B = .frz []
  ·subst hd
   cases r <;> simp only [BRel, BStab] at * <;> try exact hb
   obtain ⟨us, h1, h2⟩ := hb;exact ⟨us, h1, h2.mono (Mem.le_up M _ w)⟩
  have hhas : ∀ cb sh n, r = .here cb sh n -> Env.has ρ1 cb := fun cb sh n e => hρ1 i cb sh n (fun e => hne e.symm) (by rw [hB]; exact fun e => hd (Option.some.inj e)) (by rw [hr, e])
  cases B <;> cases r <;> simp only [BRel, BStab] at * <;> try exact hb
  case obj.here cs cb sh n =>
   obtain ⟨c, T, h1, h2, h3, h4, h5, h6⟩ := hb;subst h4;exact ⟨c.toList, h5, fun j v hj => Mem.up_own (hhas cb 0 n rfl) (h6 _) (by rw [heap_cell? h1]; simpa using hj)⟩
  case row.here cs cb sh n =>
   obtain ⟨c, T, h1, h2, h3, h5, h6⟩ := hb;exact ⟨_, h5, fun j v hj => Mem.up_own (hhas cb sh n rfl) (h6 _) (by rw [heap_cell? h1]; simpa using qG j v hj)⟩
  case frz.here cs cb sh n =>
   obtain ⟨us, h1, h2⟩ := hb;exact ⟨us, h1, h2.mono (Mem.le_up M _ w)⟩
  case map.here ks vs cb sh n =>
   obtain ⟨es, clock, kus, vus, h1, h2, h3, h4, h5, h6⟩ := hb;refine ⟨kus, vus, (es, clock), h2, h3, h4, ?_, h5, h6.2⟩;simp only [Mem.up, h6.1, if_pos (hhas cb sh n rfl), h1]
  case frzm.here ks vs cb sh n =>
   obtain ⟨kus, vus, es, h1, h2, h3, h4, h5⟩ := hb;exact ⟨kus, vus, es, h1, h2, h3, (Mem.le_up M _ w).2 _ _ h4, h5⟩
def Mem.layAt (M : Mem) (cb sh : Nat) (us : List Value) : Mem := { cell := fun b o => if b = cb then (if sh <= o then us[o - sh]? else none) else M.cell b o, map := M.map }
theorem qL {cb sh : Nat} {us : List Value} (hn : ∀ o, M.cell cb o = none) : M.le (M.layAt cb sh us) :=
 ⟨fun b o v hv => by
  have : b ≠ cb := fun e => by subst e; rw [hn] at hv; cases hv
  simp only [Mem.layAt, if_neg this]; exact hv, fun _ _ h => h⟩
theorem qbN {cb sh : Nat} {us : List Value} : (M.layAt cb sh us).At cb sh us := fun j v hj => by
 simp only [Mem.layAt, if_true, if_pos (Nat.le_add_right sh j), Nat.add_sub_cancel_left]; exact hj
theorem qhM {cb sh n b : Nat} : Env.has [.here cb sh n] b ↔ b = cb := by
 constructor
 ·rintro ⟨i, sh', n', h⟩
  cases i with
  | zero => simp at h; exact h.1.symm
  | succ i => simp at h
 ·rintro rfl; exact ⟨0, sh, n, rfl⟩
theorem MInv.freeze (hI : MInv A n0 M0 ρ0 w0 M ρ H w) {b cb sh n : Nat} {cs cs' : List SV} {c c' : Array Value} {T T' : TypeId} {w' : World} (hB : H[b]? = some (.row cs)) (hρ : ρ[b]? = some (.here cb sh n))
    (hc : w.heap[cb]? = some (.cells c T (0, 0))) (hn : ∀ o, M.cell cb o = none) (ht : Touch [.here cb sh n] w w') (hc' : w'.heap[cb]? = some (.cells c' T' (0, 0)))
    {us : List Value} (hus : us = (c'.toList.drop sh).take cs'.length) (hr : CRelC (M.layAt cb sh us) cs' (ones us)) :
    MInv A n0 M0 ρ0 w0 (M.layAt cb sh us) ρ (H.set b (.frz cs')) w' := by
  have hle := qL (sh := sh) (us := us) hn;have hother : ∀ j, j < w.heap.size -> j ≠ cb -> w'.heap[j]? = w.heap[j]? := fun j hj hne => ht.block j hj fun h => hne (qhM.1 h)
  have hlt := hI.rel.lt b cb sh n hρ;have halive : ∀ i : Nat, (H.set b (.frz cs'))[i]? ≠ some (ABlock.frz []) -> H[i]? ≠ some (ABlock.frz []) := qcc (by rw [hB]; nofun)
  refine { rel := ⟨by simpa using hI.rel.len, fun i B r hBi hr' => ?_, fun i j cb1 sh1 n1 cb2 sh2 n2 hij hi hj a1 a2 => hI.rel.inj i j cb1 sh1 n1 cb2 sh2 n2 hij hi hj (halive i a1) (halive j a2), fun i cb' sh' n' hi => Nat.lt_of_lt_of_le (hI.rel.lt i cb' sh' n' hi) ht.size, fun b' o v hv => ?_, fun b' es hv => ?_⟩,
           mem := Mem.le_trans hI.mem hle, nle := hI.nle, len := hI.len, env := hI.env, gon := hI.gon, touch := ⟨ht.os.trans hI.touch.os, ht.tape.trans hI.touch.tape, ht.output.trans hI.touch.output, Nat.le_trans hI.touch.drawn ht.drawn, Nat.le_trans hI.touch.size ht.size, fun j hj hno => ?_⟩, newer := ⟨fun b' o v hv => ?_, hI.newer.2⟩, fresh := hI.fresh, alien := fun k o ho => by
             obtain ⟨h1, h2, h3⟩ := hI.alien k o ho;exact ⟨by rw [hother k (Array.getElem?_eq_some_iff.1 h1).1 (fun e => h3 (e ▸ ⟨b, sh, n, hρ⟩))]; exact h1, h2, h3⟩ }
  · rw [List.getElem?_set] at hBi
    split at hBi
    · rename_i e
      subst e
      split at hBi
      · cases hBi
        rw [hρ] at hr'; cases hr';simp only [BRel];exact ⟨us, hr, qbN⟩
      · cases hBi
    · rename_i hne
      have h0 := hI.rel.blk i B r hBi hr'
      by_cases hd : B = .frz []
      · subst hd
        cases r <;> simp only [BRel] at * <;> try exact h0
        obtain ⟨us, h1, h2⟩ := h0;exact ⟨us, h1.mono hle, h2.mono hle⟩
      have hia : H[i]? ≠ some (.frz []) := by rw [hBi]; exact fun e => hd (Option.some.inj e)
      refine BRel.keep (BRel.mono h0 hle (Env.le_refl _) fun cb' sh' n' e => ?_) fun cb' sh' n' e => ?_
      · subst e
        have hcb : cb' ≠ cb := fun e => hI.rel.inj i b cb' sh' n' cb sh n (fun e => hne e.symm) hr' hρ hia (by rw [hB]; nofun) e
        exact ⟨fun o ho => by simp only [Mem.layAt, if_neg hcb]; exact ho, fun h => h⟩
      · subst e
        exact hother cb' (hI.rel.lt i cb' sh' n' hr') fun e => hI.rel.inj i b cb' sh' n' cb sh n (fun e => hne e.symm) hr' hρ hia (by rw [hB]; nofun) e
  · simp only [Mem.layAt] at hv
    split at hv
    · rename_i e; subst e
      split at hv
      · rename_i hsh
        rw [heap_cell? hc'];rw [hus] at hv;have := qG _ _ hv;rw [show sh + (o - sh) = o by omega] at this
        simpa using this
      · cases hv
    · rename_i hne
      have h1 := hI.rel.cells b' o v hv;rw [cell?_eq (hother b' (hI.rel.cell_lt hv) hne)]; exact h1
  · have h1 := hI.rel.maps b' es hv
    have hne : b' ≠ cb := fun e => by subst e; rw [hc] at h1; cases h1
    rw [hother b' (Array.getElem?_eq_some_iff.1 h1).1 hne]; exact h1
  · have hjc : j ≠ cb := fun e => by
      subst e
      rcases hI.has_old ⟨b, sh, n, hρ⟩ with h | h
      · exact hno h
      · omega
    rw [hother j (Nat.lt_of_lt_of_le hj hI.touch.size) hjc];exact hI.touch.block j hj hno
  · simp only [Mem.layAt] at hv
    split at hv
    · rename_i e; subst e
      rcases hI.has_old ⟨b, sh, n, hρ⟩ with h | h
      · exact .inr (.inr h)
      · exact .inr (.inl h)
    · exact hI.newer.1 b' o v hv
theorem qdi {sz o' l' : Nat} {cs ys : List SV} {us : List Value} (hsz : 0 < sz) (hc : CRelC M cs (ones us)) (hr : rowOf o' l' sz cs = some ys) {ad : Addr} {cap sh cb : Nat} (had : ad = ⟨cb, sh + o', none⟩) (hat : M.At cb sh us) (hcap : l' <= cap) (hm : cap <= maxLen) :
  CRel M (.slice ys) [.slice (some ad) l' cap] := by
 unfold rowOf at hr
 split at hr
 ·rename_i hfit
  cases hr
  subst had;have hd : l' * sz <= (cs.drop o').length := by rw [List.length_drop]; omega
  have hcd : CRelC M (cs.drop o') (ones (us.drop o')) := by rw [qv]; exact hc.drop o'
  obtain ⟨uss, h1, h2, h3⟩ := qbU hsz hcd hd;simp only [CRel];refine ⟨_, _, _, rfl, (qbV hd).symm, hcap, hm, .inr ⟨cb, sh + o', sz, uss, rfl, h1, h2, ?_⟩⟩;rw [h3];exact qdQ (qbh hat)
 ·cases hr
theorem qjA (hI : MInv A n0 M0 ρ0 w0 M ρ H w) (hf : FRel M ρ fr a.tmps.toList) {f : FuncId} {s : AX} {args : List AX} (hok : okOp P (.callF f s args) o.op = true) (h : aop P n0 id fr H (.callF f s args) k)
  (hK : ∀ v H' kl f x w', k v H' kl f -> f -> Nxt A n0 M0 ρ0 w0 M ρ id v H' kl x w' -> K (a.put o.dst x) w') : o.wp P a w K Q := by
 obtain ⟨xs, ts, ho, hx, hfn⟩ := qjz hok;simp only [aop] at h;have hrun := qam (a := a) (w := w) hfn ho (first := #[]) (caps := #[]) rfl;have hrun' : (execOp a.eval o).run P w = .ok (.enter f (xs.toList.map a.eval).toArray) w := by rw [hrun]; simp [<- Array.toList_map]
 have hxs := qE hf hx;simp only [List.map_cons] at hxs;generalize hargs : args.map (·.ev fr) = as0 at h hxs;generalize s.ev fr = v at h hxs;unfold callFK at h
 split at h
 next b off len sz clip =>
  unfold callFB at h
  split at h
  next cs hB =>
   obtain ⟨as, cs', o', l', c', ys, has, hsem, hrow, hflat, hk⟩ := h;obtain ⟨y, yv, hyv, hy, hyr⟩ := hxs;rw [hyv] at hrun';obtain ⟨r, hr, hBr⟩ := hI.rel.spot hB;have h1 := hy.one rfl (by simp)
   simp only [LRel] at h1;obtain ⟨r', ad, cap, hr', hng, ey, hlc, hcm, hsz, hclip, hcase⟩ := h1;rw [hr] at hr'; cases hr';have hle1 := Mem.le_up M (ρ.sep r) w;have hsep := qmQ hI.rel (by rw [hB]; nofun) hr
   have hvs := qS hle1 (fun i B r' hB hρ => hI.rel.stab_but hsep hB hρ) hyr has
   have hblt := (List.getElem?_eq_some_iff.1 hr).1
   cases r with
   | gone => exact absurd rfl hng
   | empty =>
    simp only [BRel] at hBr;subst hBr
    have hS1 : SRel (M.up (ρ.sep .empty) w) [.empty] [.row []] w := by
     have hh : Holds (M.up (ρ.sep .empty) w) w := ⟨fun b o v hv => by rcases Mem.up_cell hv with hv | ⟨_, hv⟩; exact hI.rel.cells b o v hv; exact hv, fun b es hv => by rcases Mem.up_map hv with hv | ⟨_, hv⟩; exact hI.rel.maps b es hv; exact hv⟩
     refine ⟨rfl, fun i B r h1 h2 => ?_, fun i j cb sh n cb' sh' n' _ hi => ?_, fun i cb sh n hi => ?_, hh.1, hh.2⟩
     ·cases i with
      | zero => simp at h1 h2; subst h1 h2; simp [BRel]
      | succ i => simp at h1
     ·cases i <;> simp at hi
     ·cases i <;> simp at hi
    refine qaq hrun' (hsem _ _ w (y :: yv) hS1 ⟨y, yv, rfl, ?_, qbi hvs⟩) fun e w' ⟨v', M', ρ', he, hI', hv'⟩ => ⟨v', he, ?_⟩
    ·refine qh ?_ rfl
     simp only [LRel];refine ⟨.empty, ad, cap, rfl, by simp, ey, hlc, hcm, hsz, hclip, ?_⟩
     rcases hcase with h | ⟨_, _, _, h, _⟩
     ·exact .inl h
     ·cases h
    ·have hρ' : ρ'[0]? = some .empty := hI'.env 0 .empty (by simp) (by simp) rfl
     have hb' := hI'.rel.blk 0 (.row cs') .empty rfl hρ';simp only [BRel] at hb';subst hb';have ht : Touch [] w w' := ⟨hI'.touch.os, hI'.touch.tape, hI'.touch.output, hI'.touch.drawn, hI'.touch.size, fun j hj _ => hI'.touch.block j hj fun ⟨i, sh, n, h⟩ => by cases i <;> simp at h⟩
     have hg := hI.grow M.le_refl ht (Newer.refl _ _ _) (hI.rel.holds.grow ht);have hv1 := hv'.one rfl (by simp)
     simp only [LRel] at hv1;obtain ⟨r2, ad2, cap2, h5, h6, e2, h7, h8, h9, h10, h11⟩ := hv1;rw [hρ'] at h5; cases h5;simp only [List.cons.injEq, and_true] at e2;subst e2
     have hys : ys = [] /\ l' = 0 := by
      unfold rowOf at hrow
      split at hrow
      ·rename_i hfit
       have hl : l' = 0 := by
        simp only [List.length_nil, Nat.le_zero_eq, Nat.add_eq_zero_iff] at hfit
        rcases Nat.mul_eq_zero.1 hfit.2 with h | h
        ·exact h
        ·omega
       subst hl
       cases hrow
       exact ⟨by unfold elems; split <;> simp [chunk], rfl⟩
      ·cases hrow
     obtain ⟨rfl, rfl⟩ := hys;refine hK _ _ _ _ _ _ hk trivial ⟨M, ρ, hg.reblk0 (by rw [hB]; nofun) fun r hr2 => ?_, fun _ _ h => h, fun _ _ h => h, ?_⟩
     ·rw [hr] at hr2; cases hr2; simp [BRel]
     ·rw [qi]
      exact qj (by simp only [CRel]; exact ⟨_, _, _, rfl, rfl, h7, h8, .inl trivial⟩) rfl
   | here cb sh n =>
    simp only [BRel] at hBr;obtain ⟨c, T, hc, hcn, hfit, hcr, hno⟩ := hBr;have hnh : ¬ Env.has (ρ.sep (.here cb sh n)) cb := qob
    have hS1 : SRel (M.up (ρ.sep (.here cb sh n)) w) [.here cb sh n] [.row cs] w := by
     have hh : Holds (M.up (ρ.sep (.here cb sh n)) w) w := ⟨fun b o v hv => by rcases Mem.up_cell hv with hv | ⟨_, hv⟩; exact hI.rel.cells b o v hv; exact hv, fun b es hv => by rcases Mem.up_map hv with hv | ⟨_, hv⟩; exact hI.rel.maps b es hv; exact hv⟩
     refine ⟨rfl, fun i B r h1 h2 => ?_, fun i j cb' sh' n' cb'' sh'' n'' hij hi hj => ?_, fun i cb' sh' n' hi => ?_, hh.1, hh.2⟩
     ·cases i with
      | zero => simp at h1 h2; subst h1 h2; exact ⟨c, T, hc, hcn, hfit, hcr.mono hle1, fun o => qoa hno hnh o⟩
      | succ i => simp at h1
     ·cases i with
      | zero => cases j with
       | zero => exact absurd rfl hij
       | succ j => simp at hj
      | succ i => simp at hi
     ·cases i with
      | zero => simp at hi; obtain ⟨rfl, rfl, rfl⟩ := hi; exact hI.rel.lt b _ _ _ hr
      | succ i => simp at hi
    refine qaq hrun' (hsem _ _ w (y :: yv) hS1 ⟨y, yv, rfl, ?_, qbi hvs⟩) fun e w' ⟨v', M', ρ', he, hI', hv'⟩ => ⟨v', he, ?_⟩
    ·refine qh ?_ rfl
     simp only [LRel];refine ⟨.here cb sh n, ad, cap, rfl, by simp, ey, hlc, hcm, hsz, hclip, ?_⟩
     rcases hcase with h | ⟨cb2, sh2, n2, h, h3⟩
     ·exact .inl h
     ·cases h; exact .inr ⟨_, _, _, rfl, h3⟩
    ·have hρ' : ρ'[0]? = some (.here cb sh n) := hI'.env 0 _ (by simp) (by simp) rfl
     have hb' := hI'.rel.blk 0 (.row cs') _ rfl hρ';simp only [BRel] at hb';obtain ⟨c2, T2, hc2, hcn2, hfit2, hcr2, hno2⟩ := hb';have hfz := hI.freeze (cs' := cs') hB hr hc hno hI'.touch hc2 rfl (hcr2.flat _ hflat);have hv1 := hv'.one rfl (by simp)
     simp only [LRel] at hv1;obtain ⟨r2, ad2, cap2, h5, h6, e2, h7, h8, h9, h10, h11⟩ := hv1;rw [hρ'] at h5; cases h5;simp only [List.cons.injEq, and_true] at e2;subst e2;refine hK _ _ _ _ _ _ hk trivial ⟨_, ρ, hfz, fun _ _ h => h, fun _ _ h => h.mono (qL hno) (Env.le_refl _), ?_⟩
     rw [qi];refine qj ?_ rfl
     rcases h11 with h11 | ⟨cb2, sh2, n2, e3, e4, h12⟩
     ·have hl : l' = 0 := by omega
      subst hl
      have hys : ys = [] := by
       unfold rowOf at hrow
       split at hrow
       ·cases hrow; unfold elems; split <;> simp [chunk]
       ·cases hrow
      subst hys;simp only [CRel]; exact ⟨_, _, _, rfl, rfl, h7, h8, .inl trivial⟩
     ·cases e3
      subst e4;exact qdi h9 (hcr2.flat _ hflat) hrow rfl qbN h7 h8
  next => cases h
 next xs' => exact qbq hI hxs hrun' h hK
 next v' => exact qbq hI hxs hrun' h hK
 next => cases h
theorem qk9 {x : AX} {o : Op} (h : okOp P (.frzv x) o = true) : ∃ y, (o = .move y \/ o = .assign y) /\ okX x y = true := by
 cases o <;> simp only [okOp] at h <;> first | cases h | exact ⟨_, .inl rfl, h⟩ | exact ⟨_, .inr rfl, h⟩
theorem qla (hI : MInv A n0 M0 ρ0 w0 M ρ H w) (hf : FRel M ρ fr a.tmps.toList) {x : AX} (hok : okOp P (.frzv x) o.op = true) (h : aop P n0 id fr H (.frzv x) k)
  (hK : ∀ v H' kl f x w', k v H' kl f -> f -> Nxt A n0 M0 ρ0 w0 M ρ id v H' kl x w' -> K (a.put o.dst x) w') : o.wp P a w K Q := by
 obtain ⟨y, hy, hx⟩ := qk9 hok;have hrun : (execOp a.eval o).run P w = .ok (.value (a.eval y)) w := by rcases hy with hy | hy <;> simp [execOp, hy]
 simp only [aop] at h;have hv := qf hf hx;generalize x.ev fr = v at h hv;unfold frzvK at h
 split at h
 next b off len sz clip =>
  unfold frzvB at h
  split at h
  next cs hB =>
   obtain ⟨ys, hrow, hk⟩ := h;obtain ⟨r, hr, hBr⟩ := hI.rel.spot hB;have h1 := hv.one rfl (by simp)
   simp only [LRel] at h1;obtain ⟨r', ad, cap, hr', hng, ey, hlc, hcm, hsz, hclip, hcase⟩ := h1;rw [hr] at hr'; cases hr'
   cases r with
   | gone => exact absurd rfl hng
   | empty =>
    simp only [BRel] at hBr;subst hBr
    have hc0 : cap = 0 := by
     rcases hcase with h | ⟨_, _, _, h, _⟩
     ·exact h
     ·cases h
    have hl0 : len = 0 := by omega
    subst hl0
    have hys : ys = [] := by
     unfold rowOf at hrow
     split at hrow
     ·cases hrow; unfold elems; split <;> simp [chunk]
     ·cases hrow
    subst hys;refine qc hrun (hK _ _ _ _ _ _ hk trivial ⟨M, ρ, hI.reblk0 (by rw [hB]; nofun) fun r hr2 => ?_, fun _ _ h => h, fun _ _ h => h, ?_⟩)
    ·rw [hr] at hr2; cases hr2; simp [BRel]
    ·rw [qi]
     exact qj (by simp only [CRel]; exact ⟨_, _, _, ey, rfl, hlc, hcm, .inl trivial⟩) rfl
   | here cb sh n =>
    simp only [BRel] at hBr;obtain ⟨c, T, hc, hcn, hfit, hcr, hno⟩ := hBr;have hfz := hI.freeze (cs' := cs) hB hr hc hno (Touch.refl _ w) hc rfl (CRelC.mono (qL hno) _ _ hcr);refine qc hrun (hK _ _ _ _ _ _ hk trivial ⟨_, ρ, hfz, fun _ _ h => h, fun _ _ h => h.mono (qL hno) (Env.le_refl _), ?_⟩)
    rw [qi];refine qj ?_ rfl;rw [ey]
    rcases hcase with h11 | ⟨cb2, sh2, n2, e3, e4, h12⟩
    ·have hl : len = 0 := by omega
     subst hl
     have hys : ys = [] := by
      unfold rowOf at hrow
      split at hrow
      ·cases hrow; unfold elems; split <;> simp [chunk]
      ·cases hrow
     subst hys;simp only [CRel]; exact ⟨_, _, _, rfl, rfl, hlc, hcm, .inl trivial⟩
    ·cases e3
     subst e4;exact qdi hsz (CRelC.mono (qL hno) _ _ hcr) hrow rfl qbN hlc hcm
  next => cases h
 next b =>
  unfold frzvM at h
  split at h
  next ks vs bs bm c hB =>
   refine qc hrun (hK _ _ _ _ _ _ h trivial ⟨M, ρ, hI.reblk0 (by rw [hB]; nofun) fun r hr2 => ?_, fun _ _ h => h, fun _ _ h => h, hv⟩)
   obtain ⟨r', hr, hBr⟩ := hI.rel.spot hB;rw [hr] at hr2; cases hr2;exact qga hBr
  next => cases h
 next xs =>
  refine qc hrun (hK _ _ _ _ _ _ h trivial (qg hI ?_));have h1 := hv.one rfl (by simp)
  simp only [LRel] at h1;obtain ⟨ad, n, e, h2⟩ := h1;rw [qi];exact qj h2 rfl
 next v' => exact qc hrun (hK _ _ _ _ _ _ h trivial (qg hI hv))
 next => cases h
end
section
variable {P : Program} {A : Nat -> Obj -> Prop} {dfs : List Deferred} {M0 : Mem} {ρ0 : Env} {w0 : World} {M : Mem} {ρ : Env} {H : List ABlock} {w : World} {o : Oper} {a : Act} {K : Act -> World -> Prop} {Q : Exit -> Act -> World -> Prop} {fr : List LV} {k : AK} {n0 id : Nat}
theorem qdj {t : TypeId} {ts : List Tag} (h : okMap P t ts = true) : ∃ kt e fs, P.underlying t = some (.map kt e) /\ P.underlying kt = some (.struct fs) /\ P.stoodInHeld kt = false /\ tagsF P 0 fs.toList = some ts := by
 unfold okMap at h
 split at h
 ·rename_i kt e hu
  simp only [Bool.and_eq_true, Bool.not_eq_true'] at h;obtain ⟨⟨h1, h2⟩, h3⟩ := h
  split at h3
  ·rename_i fs hk
   have h4 := of_decide_eq_true h3;simp only [tagsOf, hk, Option.map_eq_some_iff, Prod.mk.injEq, true_and] at h4;obtain ⟨ts', h5, rfl⟩ := h4;exact ⟨kt, e, fs, hu, hk, h2, h5⟩
  ·cases h3
 ·cases h
theorem qf1 {t : TypeId} {g : Tag} (ht : tagOf P t = some g) (e : Bool) (d : Nat) (x : Value) : (Instr.checkKey e (d + 1) t x).run P w = .ok () w := by
 unfold tagOf at ht
 split at ht <;> first | (cases ht; done) | skip
 all_goals (rename_i hu; simp [Instr.checkKey, run_underlying hu])
theorem qjB {t : TypeId} {g : Tag} (ht : tagOf P t = some g) : aggTy P t = some false := by
 unfold tagOf at ht
 split at ht <;> first | (cases ht; done) | skip
 all_goals (rename_i hu; simp [aggTy, hu])
theorem qbX {xs : Array Value} (e : Bool) (d : Nat) : ∀ {fs : List Field} {n : Nat} {ts : List Tag}, tagsF P n fs = some ts -> xs.size = n + ts.length ->
  (forIn fs PUnit.unit (fun (f : Field) (_ : PUnit) => (do
   if f.name ≠ "_" then Instr.checkKey e (d + 1) f.type (<- part f.type xs f.offset)
   pure (ForInStep.yield PUnit.unit) : Sem (ForInStep PUnit)))).run P w = .ok PUnit.unit w
 | [], n, ts, h, hs => by simp
 | f :: fs, n, ts, h, hs => by
  simp only [tagsF] at h
  split at h
  ·rename_i g hg
   split at h
   ·rename_i hoff
    obtain ⟨rfl, hname⟩ := hoff;simp only [Option.map_eq_some_iff] at h;obtain ⟨ts', hts, rfl⟩ := h;simp only [List.length_cons] at hs;have hlt : f.offset < xs.size := by omega
    have hp : (part f.type xs f.offset).run P w = .ok xs[f.offset] w := by simp [part, qQ (qjB hg), hlt]
    have ih := qbX (xs := xs) e d hts (by omega)
    rw [List.forIn_cons];simp only [Sem.run_bind, hname, ne_eq, not_false_eq_true, if_true, hp, qf1 hg, Result.andThen_ok, Sem.run_pure];exact ih
   ·cases h
  ·cases h
theorem qf2 {kt : TypeId} {fs : Array Field} {ts : List Tag} (hk : P.underlying kt = some (.struct fs)) (hts : tagsF P 0 fs.toList = some ts) {xs : Array Value} (hs : xs.size = ts.length) (e : Bool) (d : Nat) :
  (Instr.checkKey e (d + 1 + 1) kt (.agg xs)).run P w = .ok () w := by
 have := qbX (P := P) (w := w) (xs := xs) e d hts (by omega)
 rw [Instr.checkKey];simp only [Sem.run_bind, run_underlying hk, Result.andThen_ok];rw [<- Array.forIn_toList];simp only [Sem.run_bind] at this ⊢;rw [this];simp
theorem qbc {kt : TypeId} {fs : Array Field} {ts : List Tag} (hk : P.underlying kt = some (.struct fs)) (hts : tagsF P 0 fs.toList = some ts) {xs : Array Value} (hs : xs.size = ts.length) (e : Bool) :
  (Instr.checkKey e 10000 kt (.agg xs)).run P w = .ok () w := qf2 hk hts hs e 9998
open Classical in
theorem qjC {kt : TypeId} {fs : Array Field} {ts : List Tag} (hk : P.underlying kt = some (.struct fs)) (hh : P.stoodInHeld kt = false) (hts : tagsF P 0 fs.toList = some ts) {cs ds : List SV} {us vs : List Value}
  (hc : CRelC M cs (ones us)) (hd : CRelC M ds (ones vs)) (h1 : cs.map SV.tag = ts) (h2 : ds.map SV.tag = ts) : (Op.equal kt (.agg us.toArray) (.agg vs.toArray)).run P w = .ok (decide (SV.agg cs = SV.agg ds)) w := by
 have hfo : P.fieldsOf kt = fs := by simp [Program.fieldsOf, hk]
 unfold Op.equal;rw [show Op.maxDepth = 9999 + 1 from rfl, run_equalIn_struct w 9999 kt _ _ (by rw [hfo]; exact hk) hh, hfo]
 have := qde (P := P) hc hd 9998 w hts (by simpa using h1) (by simpa using h2)
 rw [this]
 congr 1
 rw [Bool.eq_iff_iff]; simp
noncomputable def found (es : List MapEntry) (off : Nat) : Option Nat -> Option (Nat × Value)
 | some j => (es[j]?).map fun e => (off + j, e.val)
 | none => none
theorem qci {kt : TypeId} {fs : Array Field} {ts : List Tag} (hk : P.underlying kt = some (.struct fs)) (hh : P.stoodInHeld kt = false) (hts : tagsF P 0 fs.toList = some ts) {cs : List SV} {us : List Value} (hc : CRelC M cs (ones us)) (h1 : cs.map SV.tag = ts) :
  ∀ (ks : List SV) (kus : List (List Value)) (es : List MapEntry) (i : Nat), CRelC M ks kus -> es.map (·.key) = List.zipWith SV.mk ks kus -> (∀ x ∈ ks, eqOk ts true (.agg cs) x) ->
   (Instr.findAsking kt (.agg us.toArray) es i).run P w = .ok (found es i (mFind (.agg cs) ks)) w
 | [], kus, es, i, hr, he, _ => by
  simp only [CRelC] at hr;subst hr;have : es = [] := by simpa using he
  subst this;simp [Instr.findAsking, mFind, found]
 | x :: ks, kus, es, i, hr, he, hok => by
  simp only [CRelC] at hr;obtain ⟨u, kus', rfl, hx, hks⟩ := hr
  cases es with
  | nil => simp at he
  | cons e es =>
   simp only [List.map_cons, List.zipWith_cons_cons, List.cons.injEq] at he;obtain ⟨he1, he2⟩ := he;obtain ⟨cs', ds, e1, rfl, h3, h4⟩ := qdf (hok x (by simp))
   have hd : CRelC M ds (ones u) := by simpa only [CRel] using hx
   have hek : e.key = .agg u.toArray := by rw [he1]; simp [SV.mk, SV.isAgg]
   have heq := qjC (P := P) (w := w) hk hh hts hc hd h1 h4;have ih := qci hk hh hts hc h1 ks kus' es (i + 1) hks he2 (fun y hy => hok y (by simp [hy]))
   simp only [Instr.findAsking, Sem.run_bind, hek, heq, Result.andThen_ok]
   by_cases hcd : SV.agg cs = SV.agg ds
   ·simp [hcd, mFind, found]
   ·simp only [hcd, decide_false, Bool.false_eq_true, if_false, mFind, ih]
    congr 1
    cases hm : mFind (.agg cs) ks with
    | none => rfl
    | some j => simp [found, Nat.add_assoc, Nat.add_comm 1 j]
theorem qbn {kt : TypeId} {fs : Array Field} {ts : List Tag} (hk : P.underlying kt = some (.struct fs)) (hh : P.stoodInHeld kt = false) (hts : tagsF P 0 fs.toList = some ts) {cs : List SV} {us : List Value} (hc : CRelC M cs (ones us)) (h1 : cs.map SV.tag = ts)
  {ks : List SV} {kus : List (List Value)} {es : List MapEntry} (hr : CRelC M ks kus) (he : es.map (·.key) = List.zipWith SV.mk ks kus) (hok : ∀ x ∈ ks, eqOk ts true (.agg cs) x) :
  (Instr.findKey kt (.agg us.toArray) es).run P w = .ok (found es 0 (mFind (.agg cs) ks)) w := by
 simp only [Instr.findKey, Sem.run_bind, run_underlying hk, Result.andThen_ok]
 cases es with
 | nil =>
  have hks : ks = [] := by
   cases ks with
   | nil => rfl
   | cons x ks => simp only [CRelC] at hr; obtain ⟨u, kus', rfl, _⟩ := hr; simp at he
  subst hks;simp [Instr.findNow, mFind, found]
 | cons e es =>
  simp only [Instr.findNow, Instr.sameNow];exact qci hk hh hts hc h1 ks kus _ 0 hr he hok
structure MapAt0 (M : Mem) (w : World) (cb : Nat) (ks vs : List SV) (es : Array MapEntry) (clock : Nat) (kus vus : List (List Value)) : Prop where
  heap : w.heap[cb]? = some (.map es clock)
  krel : CRelC M ks kus
  vrel : CRelC M vs vus
  len : ks.length = vs.length
  keys : es.toList.map (·.key) = List.zipWith SV.mk ks kus
  vals : es.toList.map (·.val) = List.zipWith SV.mk vs vus
  wf : wfm (es, clock)
structure MapAt (M : Mem) (w : World) (cb : Nat) (ks vs : List SV) (es : Array MapEntry) (clock : Nat) (kus vus : List (List Value)) : Prop extends MapAt0 M w cb ks vs es clock kus vus where
  no : M.map cb = none
theorem qaP {M : Mem} {xs : List SV} {us : List (List Value)} (h : CRelC M xs us) : (List.zipWith SV.mk xs us).length = xs.length := by
 rw [List.length_zipWith, h.length, Nat.min_self]
theorem qdk {cb : Nat} {ks vs : List SV} {p : Ents} {kus vus : List (List Value)} (h1 : w.heap[cb]? = some (.map p.1 p.2)) (h2 : CRelC M ks kus) (h3 : CRelC M vs vus) (h4 : ks.length = vs.length)
  (h5 : ents p = List.zip (List.zipWith SV.mk ks kus) (List.zipWith SV.mk vs vus)) (h6 : wfm p) : MapAt0 M w cb ks vs p.1 p.2 kus vus := by
 refine ⟨h1, h2, h3, h4, ?_, ?_, h6⟩
 ·have := congrArg (List.map Prod.fst) h5
  rw [ents, List.map_map, List.map_fst_zip (by rw [qaP h2, qaP h3, h4]; exact Nat.le_refl _)] at this
  exact this
 ·have := congrArg (List.map Prod.snd) h5
  rw [ents, List.map_map, List.map_snd_zip (by rw [qaP h2, qaP h3, h4]; exact Nat.le_refl _)] at this
  exact this
theorem qbO {ks vs : List SV} {r : Spot} (h : BRel M ρ w (.map ks vs) r) : ∃ cb sh n es clock kus vus, r = .here cb sh n /\ MapAt M w cb ks vs es clock kus vus := by
 cases r <;> simp only [BRel] at h
 rename_i cb sh n
 obtain ⟨es, clock, kus, vus, h1, h2, h3, h4, h5, h6, h7⟩ := h;exact ⟨cb, sh, n, es, clock, kus, vus, rfl, qdk (p := (es, clock)) h1 h2 h3 h4 h5 h7, h6⟩
theorem qlb {α β : Type} (f : α -> β) : ∀ {l m : List β}, l.Perm m -> ∀ Z : List α, m = Z.map f -> ∃ Z' : List α, Z'.Perm Z /\ l = Z'.map f := by
  intro l m h
  induction h with
  | nil => intro Z hZ; exact ⟨[], by have : Z = [] := by simpa using hZ.symm
                                     subst this; exact .refl _, rfl⟩
  | cons x _ ih =>
    intro Z hZ
    cases Z with
    | nil => cases hZ
    | cons z Z =>
      simp only [List.map_cons, List.cons.injEq] at hZ;obtain ⟨Z', h1, h2⟩ := ih Z hZ.2;exact ⟨z :: Z', h1.cons z, by rw [List.map_cons, <- h2, hZ.1]⟩
  | swap x y l =>
    intro Z hZ
    match Z, hZ with
    | a :: b :: Z, hZ =>
      simp only [List.map_cons, List.cons.injEq] at hZ;exact ⟨b :: a :: Z, List.Perm.swap a b Z, by simp [hZ]⟩
  | trans _ _ ih1 ih2 =>
    intro Z hZ;obtain ⟨Z1, h1, h2⟩ := ih2 Z hZ;obtain ⟨Z2, h3, h4⟩ := ih1 Z1 h2;exact ⟨Z2, h3.trans h1, h4⟩
theorem qaQ {α β γ : Type} (f : α -> β -> γ) : ∀ (l : List α) (m : List β), List.zipWith f l m = (l.zip m).map fun p => f p.1 p.2
 | [], _ => by simp
 | _ :: _, [] => by simp
 | a :: l, b :: m => by simp [qaQ f l m]
theorem qgj {α : Type} : ∀ {l : List α}, l.Nodup -> ∀ {i j : Nat} {x : α}, l[i]? = some x -> l[j]? = some x -> i = j
 | [], _, i, j, x, h, _ => by simp at h
 | a :: l, hn, i, j, x, hi, hj => by
  obtain ⟨h1, h2⟩ := List.nodup_cons.1 hn
  cases i with
  | zero =>
   cases j with
   | zero => rfl
   | succ j => simp at hi hj; subst hi; exact absurd (List.mem_of_getElem? hj) h1
  | succ i =>
   cases j with
   | zero => simp at hi hj; subst hj; exact absurd (List.mem_of_getElem? hi) h1
   | succ j => simp at hi hj; rw [qgj h2 hi hj]
theorem qbY {ks : List SV} {kus : List (List Value)} : CRelC M ks kus ↔ ks.length = kus.length /\ ∀ p ∈ ks.zip kus, CRel M p.1 p.2 := by
  induction ks generalizing kus with
  | nil => simp only [CRelC]; constructor
           · rintro rfl; simp
           · rintro ⟨h, _⟩; exact List.length_eq_zero_iff.1 h.symm
  | cons k ks ih =>
    simp only [CRelC];constructor
    · rintro ⟨u, us, rfl, h1, h2⟩
      obtain ⟨h3, h4⟩ := ih.1 h2;refine ⟨by simp [h3], fun p hp => ?_⟩
      simp only [List.zip_cons_cons, List.mem_cons] at hp
      rcases hp with rfl | hp
      · exact h1
      · exact h4 p hp
    · rintro ⟨h1, h2⟩
      cases kus with
      | nil => simp at h1
      | cons u us =>
        simp only [List.zip_cons_cons, List.mem_cons] at h2;exact ⟨u, us, rfl, h2 _ (.inl rfl), ih.2 ⟨by simpa using h1, fun p hp => h2 p (.inr hp)⟩⟩
theorem qej {ks vs : List SV} {x : Value} (hS : SRel M ρ H w) (h : VRel M (.map ks vs) x) : (x = .map none /\ ks = [] /\ vs = []) \/ ∃ cb p ks' vs' kus vus, x = .map (some cb) /\ M.map cb = some p /\
  (ks'.zip vs').Perm (ks.zip vs) /\ ks.length = vs.length /\ MapAt0 M w cb ks' vs' p.1 p.2 kus vus := by
 have h1 := h.one rfl;simp only [CRel] at h1;obtain ⟨r, e, h2⟩ := h1;simp only [List.cons.injEq, and_true] at e
 rcases h2 with ⟨rfl, h3, h4⟩ | ⟨b, p, kus, vus, rfl, h3, h4, h5, h6, h7, h8⟩
 ·exact .inl ⟨e, h3, h4⟩
 ·refine .inr ?_
  have lk := qbY.1 h4;have lv := qbY.1 h5
  have hz : List.zip (List.zipWith SV.mk ks kus) (List.zipWith SV.mk vs vus) = ((ks.zip kus).zip (vs.zip vus)).map fun q => (q.1.1.mk q.1.2, q.2.1.mk q.2.2) := by
   rw [qaQ _ ks kus, qaQ _ vs vus, List.zip_map]; rfl
  obtain ⟨Z, hZ1, hZ2⟩ := qlb _ h6 _ hz
  have hmem : ∀ q ∈ Z, CRel M q.1.1 q.1.2 /\ CRel M q.2.1 q.2.2 := fun q hq => by
   have := List.of_mem_zip (hZ1.mem_iff.1 hq);exact ⟨lk.2 _ this.1, lv.2 _ this.2⟩
  have hkk : (ks.zip kus).length = (vs.zip vus).length := by simp [<- lk.1, <- lv.1, h7]
  have zmm : ∀ {α β γ : Type} (f : α -> β) (g : α -> γ) (l : List α), (l.map f).zip (l.map g) = l.map fun x => (f x, g x) := fun f g l => by induction l with | nil => rfl | cons x l ih => simp [ih]
  refine ⟨b, p, Z.map (·.1.1), Z.map (·.2.1), Z.map (·.1.2), Z.map (·.2.2), e, h3, ?_, h7, qdk (hS.maps b p h3) ?_ ?_ (by simp) ?_ h8⟩
  ·rw [zmm]
   have := hZ1.map fun q : (SV × List Value) × (SV × List Value) => (q.1.1, q.2.1)
   refine this.trans (.of_eq ?_);rw [show (fun q : (SV × List Value) × (SV × List Value) => (q.1.1, q.2.1)) = Prod.map Prod.fst Prod.fst from rfl, <- List.zip_map, List.map_fst_zip (by omega), List.map_fst_zip (by omega)]
  ·refine qbY.2 ⟨by simp, fun q hq => ?_⟩
   rw [zmm] at hq;obtain ⟨z, hz, rfl⟩ := List.mem_map.1 hq;exact (hmem z hz).1
  ·refine qbY.2 ⟨by simp, fun q hq => ?_⟩
   rw [zmm] at hq;obtain ⟨z, hz, rfl⟩ := List.mem_map.1 hq;exact (hmem z hz).2
  ·rw [hZ2]
   rw [qaQ, qaQ, zmm, zmm, List.map_map, List.map_map, zmm];rfl
theorem qcI {kv : SV} : ∀ {ks : List SV}, mFind kv ks = none -> kv ∉ ks
 | [], _ => by simp
 | k :: ks, h => by
  simp only [mFind] at h
  split at h
  ·cases h
  ·rename_i hne
   simp only [Option.map_eq_none_iff] at h;simp only [List.mem_cons, not_or];exact ⟨hne, qcI h⟩
theorem qcJ {ks vs : List SV} {cb sh n clock : Nat} {es : Array MapEntry} {kus vus : List (List Value)} (h : MapAt M w cb ks vs es clock kus vus) : BRel M ρ w (.map ks vs) (.here cb sh n) := by
 simp only [BRel];refine ⟨es, clock, kus, vus, h.heap, h.krel, h.vrel, h.len, ?_, h.no, h.wf⟩;rw [<- h.keys, <- h.vals, List.zip_map', ]
theorem qdl {ks vs : List SV} {bs : List Nat} {bm c : Nat} {r : Spot} (h : BRel M ρ w (.mapc ks vs bs bm c) r) : ∃ sh n es kus vus, r = .here bm sh n /\ es.toList.map (·.born) = bs /\ MapAt M w bm ks vs es c kus vus := by
 cases r <;> simp only [BRel] at h
 rename_i cb sh n
 obtain ⟨rfl, es, kus, vus, h9, h1, h2, h3, h4, h5, h6, h7⟩ := h;exact ⟨sh, n, es, kus, vus, rfl, h9, qdk (p := (es, c)) h1 h2 h3 h4 h5 h7, h6⟩
theorem qdm {ks vs : List SV} {cb sh n clock : Nat} {es : Array MapEntry} {kus vus : List (List Value)} (h : MapAt M w cb ks vs es clock kus vus) {bs : List Nat} (hb : es.toList.map (·.born) = bs) : BRel M ρ w (.mapc ks vs bs cb clock) (.here cb sh n) := by
 simp only [BRel];refine ⟨trivial, es, kus, vus, hb, h.heap, h.krel, h.vrel, h.len, ?_, h.no, h.wf⟩;rw [<- h.keys, <- h.vals, List.zip_map', ]
theorem qfg {m bm c : Nat} {S : List Nat} {r : Spot} (h : BRel M ρ w (.mitx m bm c S) r) : ∃ (cb n' : Nat) (seen : Array Nat), r = .here cb 0 n' /\ w.heap[cb]? = some (.mapIter (some bm) c seen c) /\ seen.toList.reverse = S := by
 cases r <;> simp only [BRel] at h
 obtain ⟨rfl, seen, h⟩ := h;exact ⟨_, _, seen, rfl, h⟩
theorem qcd : ∀ {l : List (SV × SV)} {es : List MapEntry} {i : Nat} {e : MapEntry}, EntsRel M l es -> es[i]? = some e -> ∃ x, l[i]? = some x /\ VRel M x.1 e.key /\ VRel M x.2 e.val
 | [], _, i, e, h, he => by simp only [EntsRel] at h; subst h; simp at he
 | x :: l, es, i, e, h, he => by
  obtain ⟨e0, es', rfl, h1, h2, h3⟩ := h
  cases i with
  | zero => simp only [List.getElem?_cons_zero, Option.some.injEq] at he; subst he; exact ⟨x, rfl, h1, h2⟩
  | succ i => simp only [List.getElem?_cons_succ] at he ⊢; exact qcd h3 he
theorem qlc {es : Array MapEntry} {clock : Nat} {k v : Value} (h : wfm (es, clock)) : wfm (es.push { key := k, val := v, born := clock }, clock + 1) := by
 obtain ⟨h1, h2⟩ := h;refine ⟨?_, fun e he => ?_⟩
 ·simp only [Array.toList_push, List.map_append, List.map_cons, List.map_nil]
  rw [List.nodup_append];refine ⟨h1, by simp, fun a ha b hb => ?_⟩
  obtain ⟨e, he, rfl⟩ := List.mem_map.1 ha;simp only [List.mem_singleton] at hb;subst hb;exact Nat.ne_of_lt (h2 e he)
 ·simp only [Array.toList_push, List.mem_append, List.mem_singleton] at he
  rcases he with he | rfl
  ·exact Nat.lt_succ_of_lt (h2 e he)
  ·exact Nat.lt_succ_self _
theorem qmR {es es' : Array MapEntry} {clock i : Nat} {e e' : MapEntry} (h : wfm (es, clock)) (hi : es.toList[i]? = some e) (ht : es'.toList = es.toList.set i e') (hb : e'.born = e.born) : wfm (es', clock) := by
 obtain ⟨h1, h2⟩ := h;refine ⟨?_, fun x hx => ?_⟩
 ·show (es'.toList.map (·.born)).Nodup
  rw [ht, List.map_set, hb]
  have : (es.toList.map (·.born)).set i e.born = es.toList.map (·.born) := by
   apply List.ext_getElem?
   intro j;rw [List.getElem?_set]
   split
   ·rename_i hij; subst hij
    simp only [List.length_map, List.getElem?_map, hi, Option.map_some];rw [if_pos (List.getElem?_eq_some_iff.1 hi).1]
   ·rfl
  rw [this]; exact h1
 ·change x ∈ es'.toList at hx
  rw [ht] at hx
  rcases List.mem_or_eq_of_mem_set hx with hx | rfl
  ·exact h2 x hx
  ·rw [hb]; exact h2 e (List.mem_of_getElem? hi)
theorem qfh {es es' : Array MapEntry} {clock i : Nat} (h : wfm (es, clock)) (ht : es'.toList = es.toList.eraseIdx i) : wfm (es', clock) := by
 obtain ⟨h1, h2⟩ := h;have hs : es'.toList.Sublist es.toList := by rw [ht]; exact List.eraseIdx_sublist _ _
 exact ⟨h1.sublist (hs.map _), fun x hx => h2 x (hs.subset hx)⟩
theorem qcj {b : Nat} {y : Value} (h : LVal M ρ (.mp b) y) {cb sh n : Nat} (hr : ρ[b]? = some (.here cb sh n)) : y = .map (some cb) := by
 have h1 := h.one rfl (by simp)
 simp only [LRel] at h1;obtain ⟨cb', sh', n', h2, h3⟩ := h1;rw [hr] at h2; cases h2
 simpa using h3
theorem qaV {kv : SV} : ∀ {ks : List SV} {i : Nat}, mFind kv ks = some i -> i < ks.length /\ ks[i]? = some kv
 | [], i, h => by simp [mFind] at h
 | k :: ks, i, h => by
  simp only [mFind] at h
  split at h
  ·rename_i e; cases h; subst e; simp
  ·simp only [Option.map_eq_some_iff] at h
   obtain ⟨j, hj, rfl⟩ := h;obtain ⟨h1, h2⟩ := qaV hj;simp only [List.length_cons, List.getElem?_cons_succ];exact ⟨by omega, h2⟩
theorem qoc {vs : List SV} {vus : List (List Value)} {es : List MapEntry} (hv : CRelC M vs vus) (he : es.map (·.val) = List.zipWith SV.mk vs vus) {i : Nat} {v : SV} (hi : vs[i]? = some v) : ∃ e, es[i]? = some e /\ VRel M v e.val := by
 obtain ⟨u, hu, hr⟩ := hv.get hi;have := congrArg (·[i]?) he;simp only [List.getElem?_map, List.getElem?_zipWith, hi, hu] at this
 cases hes : es[i]? with
 | none => rw [hes] at this; simp at this
 | some e => rw [hes] at this; simp only [Option.map_some, Option.some.injEq] at this; exact ⟨e, rfl, u, hr, this⟩
theorem qbr {ts : List Tag} {kv : SV} {ks : List SV} (h : keyOk ts kv ks) {y : Value} (hy : VRel M kv y) : ∃ cs us, kv = .agg cs /\ y = .agg us.toArray /\ CRelC M cs (ones us) /\ cs.map SV.tag = ts /\ us.length = ts.length /\ ∀ x ∈ ks, eqOk ts true (.agg cs) x := by
 obtain ⟨cs, ds, rfl, e, h1, h2⟩ := qdf h.1;obtain ⟨us, rfl, hc⟩ := hy.agg;refine ⟨cs, us, rfl, rfl, hc, h1, ?_, h.2⟩;have := hc.length;rw [<- h1, List.length_map]; simpa using this
theorem qld {c : Bool} {ts : List Tag} {zero : SV} {m x : AX} {o : Op} (h : okOp P (.mget c ts zero m x) o = true) : ∃ t y z e kt ie zv, o = .lookup t y z c /\ okX m y = true /\ okX x z = true /\ okMap P t ts = true /\ P.underlying t = some (.map kt e) /\ P.info? e = some ie /\ ie.zero = some zv /\ okConst (.s zero) zv = true := by
 cases o <;> first | exact Bool.noConfusion (show false = true from h) | skip
 rename_i t y z c'
 simp only [okOp, Bool.and_eq_true, beq_iff_eq] at h;obtain ⟨⟨⟨⟨rfl, h1⟩, h2⟩, h3⟩, h4⟩ := h
 split at h4
 ·rename_i kt e hu
  rw [Option.any_eq_true] at h4;obtain ⟨zv, hz, h5⟩ := h4;simp only [Option.bind_eq_some_iff] at hz;obtain ⟨ie, h6, h7⟩ := hz;exact ⟨t, y, z, e, kt, ie, zv, rfl, h1, h2, h3, hu, h6, h7, h5⟩
 ·cases h4
theorem qgk (hI : MInv A n0 M0 ρ0 w0 M ρ H w) (hf : FRel M ρ fr a.tmps.toList) {c : Bool} {ts : List Tag} {zero : SV} {m x : AX} (hok : okOp P (.mget c ts zero m x) o.op = true) (h : aop P n0 id fr H (.mget c ts zero m x) k)
  (hK : ∀ v H' kl f x w', k v H' kl f -> f -> Nxt A n0 M0 ρ0 w0 M ρ id v H' kl x w' -> K (a.put o.dst x) w') : o.wp P a w K Q := by
 obtain ⟨t, y, z, e, kt, ie, zv, ho, h1, h2, h3, hu, hie, hzv, hzc⟩ := qld hok;obtain ⟨kt', e', fs, hu', hkt, hh, hts⟩ := qdj h3;rw [hu] at hu'; cases hu';simp only [aop] at h;have hm := qf hf h1;have hx := qf hf h2;generalize m.ev fr = mv at h hm;generalize x.ev fr = xv at h hx
 have core : ∀ (b' : Option Nat) (es : Array MapEntry) (ks vs : List SV) (kus vus : List (List Value)) (cs : List SV) (us : List Value), a.eval y = .map b' ->
   (∀ cb, b' = some cb -> (∃ clock, w.heap[cb]? = some (.map es clock))) -> (b' = none -> es = #[]) -> CRelC M ks kus -> CRelC M vs vus ->
   es.toList.map (·.key) = List.zipWith SV.mk ks kus -> es.toList.map (·.val) = List.zipWith SV.mk vs vus -> a.eval z = .agg us.toArray -> CRelC M cs (ones us) -> cs.map SV.tag = ts -> us.length = ts.length ->
   (∀ x ∈ ks, eqOk ts true (.agg cs) x) -> mgetI H c zero vs k (mFind (.agg cs) ks) -> o.wp P a w K Q := by
  intro b' es ks vs kus vus cs us hy hsome hnone hkrel hvrel hkeys hvals hz hc hct hul hoks h;have hck := fun e => qbc (P := P) (w := w) hkt hts (xs := us.toArray) (by simpa using hul) e
  have hfk := qbn (P := P) (w := w) hkt hh hts hc hct hkrel hkeys hoks;have hzr : (zeroValue e).run P w = .ok zv w := by simp [zeroValue, typeInfo, hie, hzv]
  have hrun : ∃ v ok, ((found es.toList 0 (mFind (.agg cs) ks) = some v /\ ok = true) \/ (found es.toList 0 (mFind (.agg cs) ks) = none /\ v.2 = zv /\ ok = false)) /\ (execOp a.eval o).run P w = .ok (.value (if c then .tuple #[v.2, .bool ok] else v.2)) w := by
   cases b' with
   | none =>
    have he := hnone rfl;subst he;have hfo : found [] 0 (mFind (.agg cs) ks) = none := by cases mFind (.agg cs) ks <;> simp [found]
    refine ⟨(0, zv), false, .inr ⟨hfo, rfl, rfl⟩, ?_⟩;have hfk' : (Instr.findKey kt (.agg us.toArray) []).run P w = .ok none w := by rw [<- hfo]; exact hfk
    simp [execOp, ho, Instr.lookup, run_underlying hu, hy, hz, hck, hfk', hzr]
   | some cb =>
    obtain ⟨clock, hheap⟩ := hsome cb rfl;have hgo : (getObj cb).run P w = .ok (.map es clock) w := by simp [getObj, Sem.run, hheap]
    cases hfo : found es.toList 0 (mFind (.agg cs) ks) with
    | some v => refine ⟨v, true, .inl ⟨rfl, rfl⟩, ?_⟩; simp [execOp, ho, Instr.lookup, run_underlying hu, hy, hgo, hz, hck, hfk, hfo]
    | none => refine ⟨(0, zv), false, .inr ⟨rfl, rfl, rfl⟩, ?_⟩; simp [execOp, ho, Instr.lookup, run_underlying hu, hy, hgo, hz, hck, hfk, hfo, hzr]
  obtain ⟨v, ok, hcase, hrun⟩ := hrun
  have fin : ∀ sv : SV, VRel M sv v.2 -> mgetV H c sv ok k -> o.wp P a w K Q := by
   intro sv hsv hg;refine qc hrun ?_
   cases c with
   | true =>
    simp only [mgetV, bsplit] at hg;refine hK _ _ _ _ _ _ hg trivial (qg hI ?_);simp only [if_true];exact qp (xs := [v.2, .bool ok]) ⟨_, _, rfl, hsv, _, _, rfl, qj (by simp [CRel]) rfl, rfl⟩
   | false =>
    simp only [mgetV, bsplit] at hg;exact hK _ _ _ _ _ _ hg trivial (qg hI (qi.2 hsv))
  cases hmf : mFind (.agg cs) ks with
  | none =>
   rw [hmf] at h hcase;simp only [mgetI] at h;simp only [found] at hcase
   rcases hcase with ⟨hc1, _⟩ | ⟨_, hc1, hc2⟩
   ·cases hc1
   ·subst hc2
    refine fin zero ?_ h;rw [hc1];exact qi.1 (qd1 (ρ := ρ) _ _ hzc)
  | some i =>
   rw [hmf] at h hcase;simp only [mgetI] at h;obtain ⟨sv, hsv, h⟩ := qd h;obtain ⟨ent, he1, he2⟩ := qoc hvrel hvals hsv;simp only [found, he1, Option.map_some] at hcase
   rcases hcase with ⟨hc1, hc2⟩ | ⟨hc1, _⟩
   ·subst hc2
    refine fin sv ?_ h
    cases hc1; exact he2
   ·cases hc1
 unfold mgetK at h
 split at h
 ·rename_i b
  obtain ⟨kv, hkv, h⟩ := qd h;have hkr := qX hx hkv;unfold mgetB at h
  split at h
  ·rename_i ks vs hB
   obtain ⟨hko, h⟩ := h;obtain ⟨r, hr, hbr⟩ := hI.rel.spot hB;obtain ⟨cb, sh, n, es, clock, kus, vus, rfl, hma⟩ := qbO hbr;have hy := qcj hm hr;obtain ⟨cs, us, rfl, hz, hc, hct, hul, hoks⟩ := qbr hko hkr;exact core (some cb) es ks vs kus vus cs us hy (fun cb' e => by cases e; exact ⟨clock, hma.heap⟩) (fun e => by cases e) hma.krel hma.vrel hma.keys hma.vals hz hc hct hul hoks h
  ·cases h
 ·rename_i ks vs
  obtain ⟨kv, hkv, h⟩ := qd h;have hkr := qX hx hkv;obtain ⟨hko, hnd, h⟩ := h;obtain ⟨cs, us, rfl, hz, hc, hct, hul, hoks⟩ := qbr hko hkr
  rcases qej hI.rel (qi.1 hm) with ⟨hy, rfl, rfl⟩ | ⟨cb, p, ks', vs', kus, vus, hy, _, hperm, hlen, hma⟩
  ·exact core none #[] [] [] [] [] cs us hy (fun _ e => by cases e) (fun _ => rfl) (by simp [CRelC]) (by simp [CRelC]) (by simp) (by simp) hz hc hct hul hoks h
  ·have hkp : ks'.Perm ks := by
    have := hperm.map Prod.fst
    rwa [List.map_fst_zip (by rw [hma.len]; exact Nat.le_refl _), List.map_fst_zip (by omega)] at this
   refine core (some cb) p.1 ks' vs' kus vus cs us hy (fun cb' e => by cases e; exact ⟨p.2, hma.heap⟩) (fun e => by cases e) hma.krel hma.vrel hma.keys hma.vals hz hc hct hul (fun x hx => hoks x (hkp.mem_iff.1 hx)) ?_
   cases hm1 : mFind (.agg cs) ks' with
   | none =>
    cases hm2 : mFind (.agg cs) ks with
    | none => rw [hm2] at h; exact h
    | some i => exact absurd (hkp.mem_iff.2 (List.mem_of_getElem? (qaV hm2).2)) (qcI hm1)
   | some i =>
    obtain ⟨h1, h2⟩ := qaV hm1;have hvl : i < vs'.length := by rw [<- hma.len]; exact h1
    have hin : (SV.agg cs, vs'[i]) ∈ ks.zip vs := by
     refine hperm.mem_iff.1 (List.mem_of_getElem? (i := i) ?_);rw [List.getElem?_zip_eq_some];exact ⟨h2, by simp [hvl]⟩
    obtain ⟨j, hj⟩ := List.getElem?_of_mem hin;rw [List.getElem?_zip_eq_some] at hj
    cases hm2 : mFind (.agg cs) ks with
    | none => exact absurd (List.mem_of_getElem? hj.1) (qcI hm2)
    | some i2 =>
     obtain ⟨h3, h4⟩ := qaV hm2;have : i2 = j := qgj hnd h4 hj.1;subst this;rw [hm2] at h;simp only [mgetI, hj.2, exO] at h;simp only [mgetI, List.getElem?_eq_getElem hvl, exO];exact h
 ·cases h
theorem qjD (hI : MInv A n0 M0 ρ0 w0 M ρ H w) (hf : FRel M ρ fr a.tmps.toList) {c : Bool} {ts : List Tag} {zero : SV} {m x : AX} (hok : okOp P (.mgetS c ts zero m x) o.op = true) (h : aop P n0 id fr H (.mgetS c ts zero m x) k)
  (hK : ∀ v H' kl f x w', k v H' kl f -> f -> Nxt A n0 M0 ρ0 w0 M ρ id v H' kl x w' -> K (a.put o.dst x) w') : o.wp P a w K Q :=
 qgk (n0 := n0) hI hf (c := c) (ts := ts) (zero := zero) (m := m) (x := x) (by revert hok; cases o.op <;> exact id') (by
  simp only [aop] at h ⊢;unfold mgetSK at h
  split at h
  ·rename_i e; rw [e]; exact h
  ·cases h) hK
 where id' {p : Prop} (h : p) : p := h
theorem MInv.mapSet (h : MInv A n0 M0 ρ0 w0 M ρ H w) {b cb sh n : Nat} {B B' : ABlock} {es es' : Array MapEntry} {clock clock' : Nat} (hB : H[b]? = some B) (hr : ρ[b]? = some (.here cb sh n))
  (hc : w.heap[cb]? = some (.map es clock)) (hn : M.map cb = none) (hB' : BRel M ρ { w with heap := w.heap.setIfInBounds cb (.map es' clock') } B' (.here cb sh n)) (hd : B ≠ .frz [] := by nofun) :
  MInv A n0 M0 ρ0 w0 M ρ (H.set b B') { w with heap := w.heap.setIfInBounds cb (.map es' clock') } := by
 have hb := (List.getElem?_eq_some_iff.1 hB).1
 have hρ : ρ.set b (.here cb sh n) = ρ := by
  apply List.ext_getElem?
  intro j;rw [List.getElem?_set]
  split
  ·rename_i e; subst e; rw [hr]; simp [h.rel.len, hb]
  ·rfl
 have hoth : ∀ k, k ≠ cb -> (w.heap.setIfInBounds cb (.map es' clock'))[k]? = w.heap[k]? := fun k hk => by rw [Array.getElem?_setIfInBounds, if_neg (fun e => hk e.symm)]
 have hnoc : ∀ o, M.cell cb o = none := fun o => by
  cases hm : M.cell cb o with
  | none => rfl
  | some v =>
   have := h.rel.cells cb o v hm;simp [World.cell?, hc] at this
 have hk := SRel.turn (w' := { w with heap := w.heap.setIfInBounds cb (.map es' clock') }) h.rel (b := b) (cb := cb) (sh := sh) (n := n) (B := B') hb (fun k hk _ => hoth k hk) ⟨hnoc, hn⟩ (by simp) (by simpa using h.rel.lt b cb sh n hr)
  (fun j cb' sh' n' hj hj' ha => h.rel.inj j b cb' sh' n' cb sh n hj hj' hr ha (by rw [hB]; exact fun e => hd (Option.some.inj e))) (by rw [hρ]; exact hB') (fun j B'' hj hBj => by
   obtain ⟨r, h1, h2⟩ := h.rel.spot hBj;rw [hρ, h1]; exact h2)
 rw [hρ] at hk
 exact { h with
  rel := hk
  touch := by
   refine ⟨h.touch.os, h.touch.tape, h.touch.output, h.touch.drawn, by simpa using h.touch.size, fun k hk hno => ?_⟩
   rw [show ({ w with heap := w.heap.setIfInBounds cb (.map es' clock') } : World).heap[k]? = w.heap[k]? from hoth k fun e => ?_]
   ·exact h.touch.block k hk hno
   ·subst e
    rcases h.has_old ⟨b, sh, n, hr⟩ with h1 | h1
    ·exact hno h1
    ·omega
  alien := fun k o ho => by
   obtain ⟨h1, h2, h3⟩ := h.alien k o ho;exact ⟨by rw [show ({ w with heap := w.heap.setIfInBounds cb (.map es' clock') } : World).heap[k]? = w.heap[k]? from hoth k (fun e => h3 (e ▸ ⟨b, sh, n, hr⟩))]; exact h1, h2, h3⟩ }
theorem qgl {n : Nat} : ∀ {fs : List Field} {n : Nat} {ts : List Tag}, tagsF P n fs = some ts -> ∀ g ∈ ts, g ≠ .other
 | [], n, ts, h, g, hg => by simp only [tagsF, Option.some.injEq] at h; subst h; simp at hg
 | f :: fs, n, ts, h, g, hg => by
  simp only [tagsF] at h
  split at h
  ·rename_i g' hg'
   split at h
   ·simp only [Option.map_eq_some_iff] at h
    obtain ⟨ts', hts, rfl⟩ := h
    rcases List.mem_cons.1 hg with rfl | hg
    ·intro e; subst e; unfold tagOf at hg'; split at hg' <;> cases hg'
    ·exact qgl (n := n) hts g hg
   ·cases h
  ·cases h
theorem qjE {c : SV} {u v : List Value} (h : CRel M c u) (k : CRel M c v) (hne : c.tag ≠ .other) : u = v /\ ∀ x ∈ u, ∀ d, Instr.sameBits d x x = true := by
 cases c <;> simp only [CRel] at h k <;> first | (exact absurd rfl hne) | skip
 all_goals (subst h; subst k; refine ⟨rfl, fun x hx d => ?_⟩; simp only [List.mem_singleton] at hx; subst hx)
 case str s =>
  have hs : (s == s) = true := by
   obtain ⟨⟨x⟩⟩ := s
   show ((⟨x⟩ : Array UInt8) == ⟨x⟩) = true
   simp
  cases d <;> simpa [Instr.sameBits] using hs
 all_goals (cases d <;> simp [Instr.sameBits])
theorem qfi : ∀ {cs : List SV} {us vs : List (List Value)}, CRelC M cs us -> CRelC M cs vs -> (∀ c ∈ cs, c.tag ≠ .other) -> us = vs /\ ∀ u ∈ us, ∀ x ∈ u, ∀ d, Instr.sameBits d x x = true
 | [], us, vs, h, k, _ => by simp only [CRelC] at h k; subst h; subst k; simp
 | c :: cs, us, vs, h, k, hne => by
  simp only [CRelC] at h k;obtain ⟨u, us', rfl, h1, h2⟩ := h;obtain ⟨v, vs', rfl, k1, k2⟩ := k;obtain ⟨rfl, h3⟩ := qjE h1 k1 (hne c (by simp))
  obtain ⟨rfl, h4⟩ := qfi h2 k2 fun c hc => hne c (by simp [hc])
  refine ⟨rfl, fun u' hu => ?_⟩
  rcases List.mem_cons.1 hu with rfl | hu
  ·exact h3
  ·exact h4 u' hu
theorem qgm : ∀ {us vs : List Value}, ones us = ones vs -> us = vs
 | [], [], _ => rfl
 | [], _ :: _, h => by simp at h
 | _ :: _, [], h => by simp at h
 | u :: us, v :: vs, h => by
  simp only [qak, List.cons.injEq, and_true] at h;rw [h.1, qgm h.2]
theorem qgn {us : List Value} (h : ∀ x ∈ us, ∀ d, Instr.sameBits d x x = true) (d : Nat) : Instr.sameBits (d + 1) (.agg us.toArray) (.agg us.toArray) = true := by
 simp only [Instr.sameBits, beq_self_eq_true, Bool.true_and, List.all_eq_true];intro p hp
 have : ∀ (l : List Value) (p : Value × Value), p ∈ l.zip l -> p.1 = p.2 /\ p.1 ∈ l := by
  intro l
  induction l with
  | nil => simp
  | cons x l ih =>
   intro p hp;simp only [List.zip_cons_cons, List.mem_cons] at hp
   rcases hp with rfl | hp
   ·simp
   ·obtain ⟨h1, h2⟩ := ih p hp; exact ⟨h1, by simp [h2]⟩
 obtain ⟨h1, h2⟩ := this us p (by simpa using hp)
 obtain ⟨a, b⟩ := p;simp only at h1 h2 ⊢;subst h1;exact h a h2 d
theorem qmS {v : SV} {x : Value} (h : VRel M v x) : ∃ u, CRel M v u /\ x = v.mk u := h
theorem CRelC.eraseIdx : ∀ {cs : List SV} {uss : List (List Value)} (i : Nat), CRelC M cs uss -> CRelC M (cs.eraseIdx i) (uss.eraseIdx i)
 | [], uss, i, h => by simp [CRelC] at h; subst h; simp [CRelC]
 | c :: cs, uss, i, h => by
  simp only [CRelC] at h;obtain ⟨u, us, rfl, h1, h2⟩ := h
  cases i with
  | zero => simpa using h2
  | succ i => simp only [List.eraseIdx_cons_succ, CRelC]; exact ⟨u, us.eraseIdx i, rfl, h1, h2.eraseIdx i⟩
theorem qa4 {α β : Type} (f : α -> β) : ∀ (l : List α) (i : Nat), (l.eraseIdx i).map f = (l.map f).eraseIdx i
 | [], i => by simp
 | a :: l, 0 => by simp
 | a :: l, i + 1 => by simp [qa4 f l i]
theorem qav {α β γ : Type} (f : α -> β -> γ) : ∀ (l : List α) (m : List β) (i : Nat), l.length = m.length -> (List.zipWith f l m).eraseIdx i = List.zipWith f (l.eraseIdx i) (m.eraseIdx i)
 | [], [], i, _ => by simp
 | [], _ :: _, i, h => by simp at h
 | _ :: _, [], i, h => by simp at h
 | a :: l, b :: m, 0, _ => by simp
 | a :: l, b :: m, i + 1, h => by simp [qav f l m i (by simpa using h)]
theorem qd6 {α β γ : Type} (f : α -> β -> γ) : ∀ (l : List α) (m : List β) (i : Nat) (a : α) (b : β), (List.zipWith f l m).set i (f a b) = List.zipWith f (l.set i a) (m.set i b)
 | [], m, i, a, b => by simp
 | _ :: _, [], i, a, b => by cases i <;> simp
 | x :: l, y :: m, 0, a, b => by simp
 | x :: l, y :: m, i + 1, a, b => by simp [qd6 f l m i a b]
theorem qle {ts : List Tag} {m x v : AX} {o : Op} (h : okOp P (.mset ts m x v) o = true) : ∃ t y z u, (o = .mapUpdate t y z u \/ o = .insert t y z u) /\ okX m y = true /\ okX x z = true /\ okX v u = true /\ okMap P t ts = true := by
 cases o <;> first | exact Bool.noConfusion (show false = true from h) | skip
 all_goals (simp only [okOp, Bool.and_eq_true] at h)
 ·exact ⟨_, _, _, _, .inr rfl, h.1.1.1, h.1.1.2, h.1.2, h.2⟩
 ·exact ⟨_, _, _, _, .inl rfl, h.1.1.1, h.1.1.2, h.1.2, h.2⟩
theorem qay {w' : World} {cb : Nat} {ks vs ks' vs' : List SV} {es es' : Array MapEntry} {clock clock' : Nat} {kus vus kus' vus' : List (List Value)} (h : MapAt M w cb ks vs es clock kus vus) (hh : w'.heap[cb]? = some (.map es' clock'))
  (h1 : CRelC M ks' kus') (h2 : CRelC M vs' vus') (hl : ks'.length = vs'.length) (hk : es'.toList.map (·.key) = List.zipWith SV.mk ks' kus') (hv : es'.toList.map (·.val) = List.zipWith SV.mk vs' vus') (hw : wfm (es', clock')) : MapAt M w' cb ks' vs' es' clock' kus' vus' :=
 ⟨⟨hh, h1, h2, hl, hk, hv, hw⟩, h.no⟩
theorem qlf (hI : MInv A n0 M0 ρ0 w0 M ρ H w) (hf : FRel M ρ fr a.tmps.toList) {ts : List Tag} {m x xv : AX} (hok : okOp P (.mset ts m x xv) o.op = true) (h : aop P n0 id fr H (.mset ts m x xv) k)
  (hK : ∀ v H' kl f x w', k v H' kl f -> f -> Nxt A n0 M0 ρ0 w0 M ρ id v H' kl x w' -> K (a.put o.dst x) w') : o.wp P a w K Q := by
 obtain ⟨t, y, z, u, ho, h1, h2, h3, h4⟩ := qle hok;obtain ⟨kt, e, fs, hu, hkt, hh, hts⟩ := qdj h4;simp only [aop] at h;have hm := qf hf h1;have hx := qf hf h2;have hv := qf hf h3;generalize m.ev fr = mv at h hm;generalize x.ev fr = kx at h hx;generalize xv.ev fr = vx at h hv;unfold msetK at h
 split at h
 ·rename_i b
  obtain ⟨kv, hkv, h⟩ := qd h;obtain ⟨sv, hsv, h⟩ := qd h;have hkr := qX hx hkv;obtain ⟨uv, huv, hue⟩ := qmS (qX hv hsv);unfold msetB at h
  split at h
  ·rename_i ks vs hB
   obtain ⟨hko, h⟩ := h;obtain ⟨r, hr, hbr⟩ := hI.rel.spot hB;obtain ⟨cb, sh, n, es, clock, kus, vus, rfl, hma⟩ := qbO hbr;have hy := qcj hm hr;obtain ⟨cs, us, rfl, hz, hc, hct, hul, hoks⟩ := qbr hko hkr;have hck := fun e => qbc (P := P) (w := w) hkt hts (xs := us.toArray) (by simpa using hul) e
   have hfk := qbn (P := P) (w := w) hkt hh hts hc hct hma.krel hma.keys hoks;have hgo : (getObj cb).run P w = .ok (.map es clock) w := by simp [getObj, Sem.run, hma.heap]
   have hso : ∀ o', (setObj cb o').run P w = .ok () { w with heap := w.heap.setIfInBounds cb o' } := fun o' => by simp [setObj, Sem.run, hma.heap]
   have hlt := (Array.getElem?_eq_some_iff.1 hma.heap).1
   cases hmf : mFind (.agg cs) ks with
   | none =>
    rw [hmf] at h hfk
    have hrun : (execOp a.eval o).run P w = .ok .skip { w with heap := w.heap.setIfInBounds cb (.map (es.push { key := .agg us.toArray, val := a.eval u, born := clock }) (clock + 1)) } := by
     rcases ho with ho | ho <;> simp [execOp, ho, Instr.mapUpdate, run_underlying hu, hy, hgo, hz, hck, hfk, found, hso]
    refine qed hrun (hK _ _ _ _ _ _ h trivial ⟨M, ρ, hI.mapSet (es' := es.push { key := .agg us.toArray, val := a.eval u, born := clock }) (clock' := clock + 1) hB hr hma.heap hma.no ?_, fun _ _ h => h, fun _ _ h => h, qp (xs := []) rfl⟩)
    refine qcJ (qay (es' := es.push { key := .agg us.toArray, val := a.eval u, born := clock }) (clock' := clock + 1) (kus' := kus ++ [us]) (vus' := vus ++ [uv]) hma (by simp [hlt]) (hma.krel.append (qaL (by simpa only [CRel] using hc) qbT)) (hma.vrel.append (qaL huv qbT)) (by simp [hma.len]) ?_ ?_ (qlc hma.wf))
    ·rw [Array.toList_push, List.map_append, hma.keys, List.zipWith_append (by rw [hma.krel.length])]; simp [SV.mk, SV.isAgg]
    ·rw [Array.toList_push, List.map_append, hma.vals, List.zipWith_append (by rw [hma.vrel.length])]; simp [hue]
   | some i =>
    rw [hmf] at h hfk;obtain ⟨hilt, hki⟩ := qaV hmf;obtain ⟨ku, hku, hkur⟩ := hma.krel.get hki;have hne : ∀ c ∈ cs, c.tag ≠ .other := fun c hc => qgl (n := 0) hts _ (by rw [<- hct]; exact List.mem_map.2 ⟨c, hc, rfl⟩)
    obtain ⟨hsame, hbits⟩ := qfi hc (by simpa only [CRel] using hkur) hne
    have hsame := qgm hsame;subst hsame
    have hkeyi : ∃ ent, es.toList[i]? = some ent /\ ent.key = .agg us.toArray := by
     have := congrArg (·[i]?) hma.keys;simp only [List.getElem?_map, List.getElem?_zipWith, hki, hku] at this
     cases hes : es.toList[i]? with
     | none => rw [hes] at this; simp at this
     | some ent => rw [hes] at this; simp only [Option.map_some, Option.some.injEq] at this; exact ⟨ent, rfl, by rw [this]; simp [SV.mk, SV.isAgg]⟩
    obtain ⟨ent, hent, hentk⟩ := hkeyi;have hent' : es[i]? = some ent := by rw [<- Array.getElem?_toList]; exact hent
    have hbits' : Instr.sameBits 10000 (.agg us.toArray) (.agg us.toArray) = true := qgn (fun x hx d => hbits [x] (by simpa [ones] using hx) x (by simp) d) 9999
    have hkts : (Instr.keyThatStays (.agg us.toArray) (.agg us.toArray)).run P w = .ok (.agg us.toArray) w := by
     unfold Instr.keyThatStays; rw [if_pos hbits']; rfl
    have hrun : (execOp a.eval o).run P w = .ok .skip { w with heap := w.heap.setIfInBounds cb (.map (es.modify i fun e => { e with key := .agg us.toArray, val := a.eval u }) clock) } := by
     rcases ho with ho | ho <;> simp [execOp, ho, Instr.mapUpdate, run_underlying hu, hy, hgo, hz, hck, hfk, found, hso, hent, hent', hentk, hkts]
    refine qed hrun (hK _ _ _ _ _ _ h trivial ⟨M, ρ, hI.mapSet (es' := es.modify i fun e => { e with key := .agg us.toArray, val := a.eval u }) (clock' := clock) hB hr hma.heap hma.no ?_, fun _ _ h => h, fun _ _ h => h, qp (xs := []) rfl⟩)
    have htl : (es.modify i fun e => { e with key := .agg us.toArray, val := a.eval u }).toList = es.toList.set i { ent with key := .agg us.toArray, val := a.eval u } := by
     apply List.ext_getElem?
     intro j;rw [Array.getElem?_toList, Array.getElem?_modify, List.getElem?_set]
     by_cases hij : i = j
     ·subst hij
      have hil : i < es.size := by simpa using (List.getElem?_eq_some_iff.1 hent).1
      have hei : es[i] = ent := by rw [Array.getElem?_eq_getElem hil] at hent'; simpa using hent'
      simp [hil, hei]
     ·simp [hij]
    refine qcJ (qay (es' := es.modify i fun e => { e with key := .agg us.toArray, val := a.eval u }) (clock' := clock) (kus' := kus) (vus' := vus.set i uv) hma (by simp [hlt]) hma.krel (hma.vrel.set i huv) (by simp [hma.len]) ?_ ?_ (qmR hma.wf hent htl rfl))
    ·rw [htl, List.map_set, hma.keys]
     apply List.ext_getElem?
     intro j;rw [List.getElem?_set]
     split
     ·rename_i e
      subst e;simp only [List.getElem?_zipWith, hki, hku];rw [if_pos (by rw [qaP hma.krel]; exact hilt)]
      simp [SV.mk, SV.isAgg]
     ·rfl
    ·rw [htl, List.map_set, hma.vals, hue, qd6]
  ·cases h
 ·cases h
theorem qlg {ts : List Tag} {m x : AX} {o : Op} (h : okOp P (.mdel ts m x) o = true) : ∃ ats y z t, o = .call { callee := .builtin .delete, args := #[y, z], argTypes := ats } /\ okX m y = true /\ okX x z = true /\ ats[0]? = some t /\ okMap P t ts = true := by
 cases o <;> first | exact Bool.noConfusion (show false = true from h) | skip
 rename_i c
 obtain ⟨callee, xs, ats⟩ := c
 cases callee <;> first | exact Bool.noConfusion (show false = true from h) | skip
 rename_i bi
 cases bi <;> first | exact Bool.noConfusion (show false = true from h) | skip
 simp only [okOp, Bool.and_eq_true] at h;obtain ⟨h1, h2⟩ := h;obtain ⟨y, z, e, hy, hz⟩ := qcD h1
 split at h2
 ·rename_i t ht
  refine ⟨ats, y, z, t, ?_, hy, hz, ht, h2⟩;have : xs = #[y, z] := by rw [<- Array.toArray_toList (xs := xs), e]
  rw [this]
 ·cases h2
theorem qlh (hI : MInv A n0 M0 ρ0 w0 M ρ H w) (hf : FRel M ρ fr a.tmps.toList) {ts : List Tag} {m x : AX} (hok : okOp P (.mdel ts m x) o.op = true) (h : aop P n0 id fr H (.mdel ts m x) k)
  (hK : ∀ v H' kl f x w', k v H' kl f -> f -> Nxt A n0 M0 ρ0 w0 M ρ id v H' kl x w' -> K (a.put o.dst x) w') : o.wp P a w K Q := by
 obtain ⟨ats, y, z, t, ho, h1, h2, ht, h4⟩ := qlg hok;obtain ⟨kt, e, fs, hu, hkt, hh, hts⟩ := qdj h4;simp only [aop] at h;have hm := qf hf h1;have hx := qf hf h2;generalize m.ev fr = mv at h hm;generalize x.ev fr = kx at h hx;unfold mdelK at h
 split at h
 ·rename_i b
  obtain ⟨kv, hkv, h⟩ := qd h;have hkr := qX hx hkv;unfold mdelB at h
  split at h
  ·rename_i ks vs hB
   obtain ⟨hko, h⟩ := h;obtain ⟨r, hr, hbr⟩ := hI.rel.spot hB;obtain ⟨cb, sh, n, es, clock, kus, vus, rfl, hma⟩ := qbO hbr;have hy := qcj hm hr;obtain ⟨cs, us, rfl, hz, hc, hct, hul, hoks⟩ := qbr hko hkr;have hck := fun e => qbc (P := P) (w := w) hkt hts (xs := us.toArray) (by simpa using hul) e
   have hfk := qbn (P := P) (w := w) hkt hh hts hc hct hma.krel hma.keys hoks;have hgo : (getObj cb).run P w = .ok (.map es clock) w := by simp [getObj, Sem.run, hma.heap]
   have hso : ∀ o', (setObj cb o').run P w = .ok () { w with heap := w.heap.setIfInBounds cb o' } := fun o' => by simp [setObj, Sem.run, hma.heap]
   have hlt := (Array.getElem?_eq_some_iff.1 hma.heap).1
   cases hmf : mFind (.agg cs) ks with
   | none =>
    rw [hmf] at h hfk
    have hrun : (execOp a.eval o).run P w = .ok (.value (.tuple #[])) { w with heap := w.heap.setIfInBounds cb (.map es clock) } := by
     simp [execOp, ho, resolve, invoke, builtin, Builtin.delete_, ht, run_underlying hu, hy, hgo, hz, hck, hfk, found, hso]
    refine qc hrun (hK _ _ _ _ _ _ h trivial ⟨M, ρ, hI.mapSet (es' := es) (clock' := clock) hB hr hma.heap hma.no ?_, fun _ _ h => h, fun _ _ h => h, qp (xs := []) rfl⟩)
    exact qcJ (qay (es' := es) (clock' := clock) hma (by simp [hlt]) hma.krel hma.vrel hma.len hma.keys hma.vals hma.wf)
   | some i =>
    rw [hmf] at h hfk;obtain ⟨hilt, hki⟩ := qaV hmf
    have hil : i < es.size := by
     have := congrArg List.length hma.keys;rw [List.length_map, qaP hma.krel] at this;simp at this; omega
    have hent : es.toList[i]? = some es[i] := by rw [Array.getElem?_toList]; simp [hil]
    have hrun : (execOp a.eval o).run P w = .ok (.value (.tuple #[])) { w with heap := w.heap.setIfInBounds cb (.map (es.eraseIdxIfInBounds i) clock) } := by
     simp [execOp, ho, resolve, invoke, builtin, Builtin.delete_, ht, run_underlying hu, hy, hgo, hz, hck, hfk, found, hso, hent]
    refine qc hrun (hK _ _ _ _ _ _ h trivial ⟨M, ρ, hI.mapSet (es' := es.eraseIdxIfInBounds i) (clock' := clock) hB hr hma.heap hma.no ?_, fun _ _ h => h, fun _ _ h => h, qp (xs := []) rfl⟩)
    have htl : (es.eraseIdxIfInBounds i).toList = es.toList.eraseIdx i := by
     unfold Array.eraseIdxIfInBounds;rw [dif_pos hil];simp
    refine qcJ (qay (es' := es.eraseIdxIfInBounds i) (clock' := clock) (kus' := kus.eraseIdx i) (vus' := vus.eraseIdx i) hma (by simp [hlt]) (hma.krel.eraseIdx i) (hma.vrel.eraseIdx i) ?_ ?_ ?_ (qfh hma.wf htl))
    ·rw [List.length_eraseIdx, List.length_eraseIdx, hma.len]
    ·rw [htl, qa4, hma.keys, qav _ _ _ _ hma.krel.length.symm]
    ·rw [htl, qa4, hma.vals, qav _ _ _ _ hma.vrel.length.symm]
  ·rename_i ks vs bs bm clock hB
   obtain ⟨hko, h⟩ := h;obtain ⟨r, hr, hbr⟩ := hI.rel.spot hB;obtain ⟨sh, n, es, kus, vus, rfl, hbs, hma⟩ := qdl hbr;have hy := qcj hm hr;obtain ⟨cs, us, rfl, hz, hc, hct, hul, hoks⟩ := qbr hko hkr;have hck := fun e => qbc (P := P) (w := w) hkt hts (xs := us.toArray) (by simpa using hul) e
   have hfk := qbn (P := P) (w := w) hkt hh hts hc hct hma.krel hma.keys hoks;have hgo : (getObj bm).run P w = .ok (.map es clock) w := by simp [getObj, Sem.run, hma.heap]
   have hso : ∀ o', (setObj bm o').run P w = .ok () { w with heap := w.heap.setIfInBounds bm o' } := fun o' => by simp [setObj, Sem.run, hma.heap]
   have hlt := (Array.getElem?_eq_some_iff.1 hma.heap).1
   cases hmf : mFind (.agg cs) ks with
   | none =>
    rw [hmf] at h hfk
    have hrun : (execOp a.eval o).run P w = .ok (.value (.tuple #[])) { w with heap := w.heap.setIfInBounds bm (.map es clock) } := by
     simp [execOp, ho, resolve, invoke, builtin, Builtin.delete_, ht, run_underlying hu, hy, hgo, hz, hck, hfk, found, hso]
    refine qc hrun (hK _ _ _ _ _ _ h trivial ⟨M, ρ, hI.mapSet (es' := es) (clock' := clock) hB hr hma.heap hma.no ?_, fun _ _ h => h, fun _ _ h => h, qp (xs := []) rfl⟩)
    exact qdm (qay (es' := es) (clock' := clock) hma (by simp [hlt]) hma.krel hma.vrel hma.len hma.keys hma.vals hma.wf) hbs
   | some i =>
    rw [hmf] at h hfk;obtain ⟨hilt, hki⟩ := qaV hmf
    have hil : i < es.size := by
     have := congrArg List.length hma.keys;rw [List.length_map, qaP hma.krel] at this;simp at this; omega
    have hent : es.toList[i]? = some es[i] := by rw [Array.getElem?_toList]; simp [hil]
    have hrun : (execOp a.eval o).run P w = .ok (.value (.tuple #[])) { w with heap := w.heap.setIfInBounds bm (.map (es.eraseIdxIfInBounds i) clock) } := by
     simp [execOp, ho, resolve, invoke, builtin, Builtin.delete_, ht, run_underlying hu, hy, hgo, hz, hck, hfk, found, hso, hent]
    refine qc hrun (hK _ _ _ _ _ _ h trivial ⟨M, ρ, hI.mapSet (es' := es.eraseIdxIfInBounds i) (clock' := clock) hB hr hma.heap hma.no ?_, fun _ _ h => h, fun _ _ h => h, qp (xs := []) rfl⟩)
    have htl : (es.eraseIdxIfInBounds i).toList = es.toList.eraseIdx i := by
     unfold Array.eraseIdxIfInBounds;rw [dif_pos hil];simp
    refine qdm (qay (es' := es.eraseIdxIfInBounds i) (clock' := clock) (kus' := kus.eraseIdx i) (vus' := vus.eraseIdx i) hma (by simp [hlt]) (hma.krel.eraseIdx i) (hma.vrel.eraseIdx i) ?_ ?_ ?_ (qfh hma.wf htl)) ?_
    ·rw [List.length_eraseIdx, List.length_eraseIdx, hma.len]
    ·rw [htl, qa4, hma.keys, qav _ _ _ _ hma.krel.length.symm]
    ·rw [htl, qa4, hma.vals, qav _ _ _ _ hma.vrel.length.symm]
    ·rw [htl, qa4, hbs]
  ·cases h
 ·cases h
theorem qli {m : AX} {o : Op} (h : okOp P (.mlen m) o = true) : ∃ ats y t kt e, o = .call { callee := .builtin .len, args := #[y], argTypes := ats } /\ okX m y = true /\ ats[0]? = some t /\ P.underlying t = some (.map kt e) := by
 cases o <;> first | exact Bool.noConfusion (show false = true from h) | skip
 rename_i c
 obtain ⟨callee, xs, ats⟩ := c
 cases callee <;> first | exact Bool.noConfusion (show false = true from h) | skip
 rename_i bi
 cases bi <;> first | exact Bool.noConfusion (show false = true from h) | skip
 simp only [okOp, Bool.and_eq_true] at h;obtain ⟨h1, h2⟩ := h;obtain ⟨y, e, hy⟩ := qcC h1
 split at h2
 ·rename_i t ht
  split at h2
  ·rename_i kt el hu
   refine ⟨ats, y, t, kt, el, ?_, hy, ht, hu⟩;have : xs = #[y] := by rw [<- Array.toArray_toList (xs := xs), e]
   rw [this]
  ·cases h2
 ·cases h2
theorem qlj (hI : MInv A n0 M0 ρ0 w0 M ρ H w) (hf : FRel M ρ fr a.tmps.toList) {m : AX} (hok : okOp P (.mlen m) o.op = true) (h : aop P n0 id fr H (.mlen m) k)
  (hK : ∀ v H' kl f x w', k v H' kl f -> f -> Nxt A n0 M0 ρ0 w0 M ρ id v H' kl x w' -> K (a.put o.dst x) w') : o.wp P a w K Q := by
 obtain ⟨ats, y, t, kt, e, ho, h1, ht, hu⟩ := qli hok;simp only [aop] at h;have hm := qf hf h1;generalize m.ev fr = mv at h hm;unfold mlenK at h
 split at h
 ·unfold mlenB at h
  split at h
  ·rename_i ks vs hB
   obtain ⟨r, hr, hbr⟩ := hI.rel.spot hB;obtain ⟨cb, sh, n, es, clock, kus, vus, rfl, hma⟩ := qbO hbr;have hy := qcj hm hr;have hgo : (getObj cb).run P w = .ok (.map es clock) w := by simp [getObj, Sem.run, hma.heap]
   have hsz : es.size = ks.length := by
    have := congrArg List.length hma.keys;rw [List.length_map, qaP hma.krel] at this
    simpa using this
   have hrun : (execOp a.eval o).run P w = .ok (.value (.int .i64 ks.length)) w := by
    simp [execOp, ho, resolve, invoke, builtin, Builtin.len_, ht, run_underlying hu, hy, hgo, hsz, goInt]
   exact qc hrun (hK _ _ _ _ _ _ h trivial (qg hI qq))
  ·cases h
 ·rename_i ks vs
  have hrun : (execOp a.eval o).run P w = .ok (.value (.int .i64 ks.length)) w := by
   rcases qej hI.rel (qi.1 hm) with ⟨hy, rfl, rfl⟩ | ⟨cb, p, ks', vs', kus, vus, hy, _, hperm, hlen, hma⟩
   ·simp [execOp, ho, resolve, invoke, builtin, Builtin.len_, ht, run_underlying hu, hy, goInt]
   ·have hgo : (getObj cb).run P w = .ok (.map p.1 p.2) w := by simp [getObj, Sem.run, hma.heap]
    have hsz : p.1.size = ks.length := by
     have := congrArg List.length hma.keys;rw [List.length_map, qaP hma.krel] at this;have h9 := hperm.length_eq;have h10 := hma.len;simp only [List.length_zip, Array.length_toList] at h9 this;omega
    simp [execOp, ho, resolve, invoke, builtin, Builtin.len_, ht, run_underlying hu, hy, hgo, hsz, goInt]
  exact qc hrun (hK _ _ _ _ _ _ h trivial (qg hI qq))
 ·cases h
theorem qlk {x i : AX} {o : Op} (h : okOp P (.sidx x i) o = true) : ∃ t y j, o = .index t y j /\ okX x y = true /\ okX i j = true /\ P.underlying t = some .string := by
 cases o <;> first | exact Bool.noConfusion (show false = true from h) | skip
 rename_i t y j
 simp only [okOp, Bool.and_eq_true] at h;obtain ⟨⟨h1, h2⟩, h3⟩ := h
 split at h3
 ·rename_i hu; exact ⟨t, y, j, rfl, h1, h2, hu⟩
 ·cases h3
theorem qll (hI : MInv A n0 M0 ρ0 w0 M ρ H w) (hf : FRel M ρ fr a.tmps.toList) {x i : AX} (hok : okOp P (.sidx x i) o.op = true) (h : aop P n0 id fr H (.sidx x i) k)
  (hK : ∀ v H' kl f x w', k v H' kl f -> f -> Nxt A n0 M0 ρ0 w0 M ρ id v H' kl x w' -> K (a.put o.dst x) w') : o.wp P a w K Q := by
 obtain ⟨t, y, j, ho, h1, h2, hu⟩ := qlk hok;simp only [aop] at h;have hx := qf hf h1;have hj := qf hf h2;generalize x.ev fr = xv at h hx;generalize i.ev fr = iv at h hj;unfold sidxK at h
 split at h
 ·rename_i s kd n
  obtain ⟨h0, h⟩ := h;obtain ⟨b, hb, h⟩ := qd h
  have ex : a.eval y = .string s := by
   have := (qi.1 hx).one rfl
   simpa [CRel] using this
  have ej := qu rfl hj
  have hb' : s[n.toNat]? = some b := by
   obtain ⟨h5, h6⟩ := Array.getElem?_eq_some_iff.1 hb;have h7 : n.toNat < s.size := h5;rw [getElem?_pos s n.toNat h7];exact congrArg some h6
  have hrun : (execOp a.eval o).run P w = .ok (.value (.int .u8 b.toNat)) w := by
   simp [execOp, ho, Instr.index, ex, ej, asIntOf, run_underlying hu, h0, hb']
  exact qc hrun (hK _ _ _ _ _ _ h trivial (qg hI qq))
 ·cases h
theorem qjF {o : Op} (h : okOp P .mkmap o = true) : ∃ t, o = .makeMap t none := by
 cases o <;> first | exact Bool.noConfusion (show false = true from h) | skip
 rename_i t r
 cases r <;> first | exact Bool.noConfusion (show false = true from h) | exact ⟨_, rfl⟩
theorem qjG (hI : MInv A n0 M0 ρ0 w0 M ρ H w) (hid : ρ0.length <= id) (hok : okOp P .mkmap o.op = true) (h : aop P n0 id fr H .mkmap k)
  (hK : ∀ v H' kl f x w', k v H' kl f -> f -> Nxt A n0 M0 ρ0 w0 M ρ id v H' kl x w' -> K (a.put o.dst x) w') : o.wp P a w K Q := by
 obtain ⟨t, ho⟩ := qjF hok;simp only [aop] at h;obtain ⟨hg, h⟩ := h
 have hnc : ∀ o, M.cell w.heap.size o = none := fun o => by
  cases hm : M.cell w.heap.size o with
  | none => rfl
  | some v => have := hI.rel.cell_lt hm; omega
 have hnm : M.map w.heap.size = none := by
  cases hm : M.map w.heap.size with
  | none => rfl
  | some v => have := hI.rel.map_lt hm; omega
 obtain ⟨r, hr, hBr⟩ := hI.rel.spot hg;have hr' : r = .gone := by cases r <;> simp only [BRel] at hBr; rfl
 subst hr';have hle : Env.le ρ (ρ.set id (.here w.heap.size 0 0)) := Env.le_set hr
 obtain ⟨h1, h2⟩ := hI.lay (cb := w.heap.size) (sh := 0) (n := 0) (B := .map [] []) hid hg M.le_refl (qm w (.map #[] 0)) (Newer.refl _ _ _) (hI.rel.holds.grow (qm w _)) (Nat.le_refl _) (by simp) ⟨hnc, hnm⟩ (by
  simp only [BRel];exact ⟨#[], 0, [], [], qap w _, by simp [CRelC], by simp [CRelC], by simp, by simp, hnm, by simp [wfm], by simp⟩)
 have hidl : id < ρ.length := by rw [hI.rel.len]; exact (List.getElem?_eq_some_iff.1 hg).1
 refine qc (x := .map (some w.heap.size)) (w' := w.alloc (.map #[] 0)) ?_ (hK _ _ _ _ _ _ h trivial ⟨M, _, h1, fun j hj h => by rw [List.getElem?_set, if_neg (fun e => hj e.symm)]; exact h, fun _ _ h => h.mono M.le_refl h2, qh ?_ rfl⟩)
 ·simp [execOp, ho, Instr.makeMap]
 ·simp only [LRel]; exact ⟨_, _, _, by rw [List.getElem?_set_self hidl], rfl⟩
/-! Ranges over stable maps. -/
theorem qiu (es : Array MapEntry) : leftOf es #[] = es := by
 unfold leftOf;rw [Array.filter_eq_self];intro e _;simp
theorem qhr (es : Array MapEntry) (seen : Array Nat) (b : Nat) : (leftOf es (seen.push b)).toList = (leftOf es seen).toList.filter fun y => !(y.born == b) := by
 unfold leftOf;simp only [Array.toList_filter, List.filter_filter]
 congr 1
 funext y
 rw [contains_push]
 cases seen.contains y.born <;> cases y.born == b <;> rfl
theorem qdn {e : MapEntry} : ∀ {l : List (SV × SV)} {es : List MapEntry}, EntsRel M l es -> e ∈ es -> (es.map (·.born)).Nodup ->
  ∃ l1 x l2, l = l1 ++ x :: l2 /\ VRel M x.1 e.key /\ VRel M x.2 e.val /\ EntsRel M (l1 ++ l2) (es.filter fun y => !(y.born == e.born))
 | [], es, h, he, _ => by simp only [EntsRel] at h; subst h; cases he
 | x :: l, es, h, he, hn => by
  obtain ⟨e0, es', rfl, h1, h2, h3⟩ := h;simp only [List.map_cons, List.nodup_cons, List.mem_map, not_exists, not_and] at hn
  rcases List.mem_cons.1 he with rfl | he
  ·refine ⟨[], x, l, rfl, h1, h2, ?_⟩
   rw [List.filter_cons_of_neg (by simp), List.filter_eq_self.2 (fun y hy => by simpa using hn.1 y hy)]
   exact h3
  ·obtain ⟨l1, y, l2, rfl, h4, h5, h6⟩ := qdn h3 he hn.2
   refine ⟨x :: l1, y, l2, rfl, h4, h5, ?_⟩;have hne : e0.born ≠ e.born := fun h => hn.1 e he h.symm
   rw [List.filter_cons_of_pos (by simpa using hne)]
   exact ⟨e0, _, rfl, h1, h2, h6⟩
theorem qbA : ∀ {ks vs : List SV} {es : List MapEntry} {kus vus : List (List Value)}, CRelC M ks kus -> CRelC M vs vus -> ks.length = vs.length -> es.map (·.key) = List.zipWith SV.mk ks kus -> es.map (·.val) = List.zipWith SV.mk vs vus ->
  EntsRel M (ks.zip vs) es
 | [], vs, es, kus, vus, _, _, hl, hk, _ => by
  have : es = [] := by simpa using hk
  subst this
  cases vs <;> simp [EntsRel]
 | k :: ks, [], es, kus, vus, _, _, hl, _, _ => by simp at hl
 | k :: ks, v :: vs, es, kus, vus, h1, h2, hl, hk, hv => by
  simp only [CRelC] at h1 h2;obtain ⟨u, us, rfl, h3, h4⟩ := h1;obtain ⟨u', us', rfl, h5, h6⟩ := h2
  cases es with
  | nil => simp at hk
  | cons e es =>
   simp only [List.map_cons, List.zipWith_cons_cons, List.cons.injEq] at hk hv;exact ⟨e, es, rfl, ⟨u, h3, hk.1⟩, ⟨u', h5, hv.1⟩, qbA h4 h6 (by simpa using hl) hk.2 hv.2⟩
theorem MInv.objSet (h : MInv A n0 M0 ρ0 w0 M ρ H w) {b cb sh n : Nat} {B B' : ABlock} {ob ob' : Obj} (hB : H[b]? = some B) (hr : ρ[b]? = some (.here cb sh n))
  (hc : w.heap[cb]? = some ob) (hnoc : ∀ o, M.cell cb o = none) (hn : M.map cb = none) (hB' : BRel M ρ (ChangeMaps.setBlock w cb ob') B' (.here cb sh n)) (hd : B ≠ .frz [] := by nofun) :
  MInv A n0 M0 ρ0 w0 M ρ (H.set b B') (ChangeMaps.setBlock w cb ob') := by
 have hb := (List.getElem?_eq_some_iff.1 hB).1
 have hρ : ρ.set b (.here cb sh n) = ρ := by
  apply List.ext_getElem?
  intro j;rw [List.getElem?_set]
  split
  ·rename_i e; subst e; rw [hr]; simp [h.rel.len, hb]
  ·rfl
 have hoth : ∀ k, k ≠ cb -> (ChangeMaps.setBlock w cb ob').heap[k]? = w.heap[k]? := fun k hk => by
  show (w.heap.setIfInBounds cb ob')[k]? = _
  rw [Array.getElem?_setIfInBounds, if_neg (fun e => hk e.symm)]
 have hk := SRel.turn (w' := ChangeMaps.setBlock w cb ob') h.rel (b := b) (cb := cb) (sh := sh) (n := n) (B := B') hb (fun k hk _ => hoth k hk) ⟨hnoc, hn⟩ (by simp [ChangeMaps.setBlock]) (by simpa [ChangeMaps.setBlock] using h.rel.lt b cb sh n hr)
  (fun j cb' sh' n' hj hj' ha => h.rel.inj j b cb' sh' n' cb sh n hj hj' hr ha (by rw [hB]; exact fun e => hd (Option.some.inj e))) (by rw [hρ]; exact hB') (fun j B'' hj hBj => by
   obtain ⟨r, h1, h2⟩ := h.rel.spot hBj;rw [hρ, h1]; exact h2)
 rw [hρ] at hk
 exact { h with
  rel := hk
  touch := by
   refine ⟨h.touch.os, h.touch.tape, h.touch.output, h.touch.drawn, by simpa [ChangeMaps.setBlock] using h.touch.size, fun k hk hno => ?_⟩
   rw [hoth k fun e => ?_]
   ·exact h.touch.block k hk hno
   ·subst e
    rcases h.has_old ⟨b, sh, n, hr⟩ with h1 | h1
    ·exact hno h1
    ·omega
  alien := fun k o ho => by
   obtain ⟨h1, h2, h3⟩ := h.alien k o ho;exact ⟨by rw [hoth k (fun e => h3 (e ▸ ⟨b, sh, n, hr⟩))]; exact h1, h2, h3⟩ }
theorem qiv {m : AX} {o : Op} (h : okOp P (.rangeM m) o = true) : ∃ t y kt e, o = .range t y /\ okX m y = true /\ P.underlying t = some (.map kt e) := by
 cases o <;> first | exact Bool.noConfusion (show false = true from h) | skip
 rename_i t y
 simp only [okOp, Bool.and_eq_true] at h;obtain ⟨h1, h2⟩ := h
 split at h2
 ·rename_i kt e hu; exact ⟨t, y, kt, e, rfl, h1, hu⟩
 ·cases h2
theorem qiw (hI : MInv A n0 M0 ρ0 w0 M ρ H w) (hf : FRel M ρ fr a.tmps.toList) (hid : ρ0.length <= id) {m : AX} (hok : okOp P (.rangeM m) o.op = true) (h : aop P n0 id fr H (.rangeM m) k)
  (hK : ∀ v H' kl f x w', k v H' kl f -> f -> Nxt A n0 M0 ρ0 w0 M ρ id v H' kl x w' -> K (a.put o.dst x) w') : o.wp P a w K Q := by
 obtain ⟨t, y, kt, e, ho, h1, hu⟩ := qiv hok;simp only [aop] at h;have hm := qf hf h1;generalize m.ev fr = mv at h hm;unfold rangeMK at h
 split at h
 ·rename_i ks vs
  obtain ⟨hg, h⟩ := h
  have hnc : ∀ o, M.cell w.heap.size o = none := fun o => by
   cases hm : M.cell w.heap.size o with
   | none => rfl
   | some v => have := hI.rel.cell_lt hm; omega
  have hnm : M.map w.heap.size = none := by
   cases hm : M.map w.heap.size with
   | none => rfl
   | some v => have := hI.rel.map_lt hm; omega
  obtain ⟨r, hr, hBr⟩ := hI.rel.spot hg;have hr' : r = .gone := by cases r <;> simp only [BRel] at hBr; rfl
  subst hr';have hidl : id < ρ.length := by rw [hI.rel.len]; exact (List.getElem?_eq_some_iff.1 hg).1
  have fin : ∀ ob : Obj, (Instr.range t (a.eval y)).run P w = .ok (.pointer (some ⟨w.heap.size, 0, none⟩)) (w.alloc ob) -> MitRel M (ks.zip vs) none (some ob) -> o.wp P a w K Q := by
   intro ob hrun hmit;have hle : Env.le ρ (ρ.set id (.here w.heap.size 0 0)) := Env.le_set hr
   obtain ⟨h1, h2⟩ := hI.lay (cb := w.heap.size) (sh := 0) (n := 0) (B := .mit (ks.zip vs) none) hid hg M.le_refl (qm w ob) (Newer.refl _ _ _) (hI.rel.holds.grow (qm w _)) (Nat.le_refl _) (by simp) ⟨hnc, hnm⟩ (by
    simp only [BRel];exact ⟨trivial, by rw [qap w ob]; exact hmit⟩)
   refine qc (x := .pointer (some ⟨w.heap.size, 0, none⟩)) (w' := w.alloc ob) (by simp [execOp, ho, hrun]) (hK _ _ _ _ _ _ h trivial ⟨M, _, h1, fun j hj h => by rw [List.getElem?_set, if_neg (fun e => hj e.symm)]; exact h, fun _ _ h => h.mono M.le_refl h2, qh ?_ rfl⟩)
   simp only [LRel]; exact ⟨w.heap.size, 0, 0, by rw [List.getElem?_set_self hidl], rfl⟩
  rcases qej hI.rel (qi.1 hm) with ⟨hy, rfl, rfl⟩ | ⟨cb, p, ks', vs', kus, vus, hy, hM, hperm, hlen, hma⟩
  ·exact fin _ (by rw [hy]; exact run_range_nilMap w t kt e hu) (.inl ⟨rfl, rfl, rfl⟩)
  ·refine fin _ (by rw [hy]; exact run_range_map w t kt e cb p.1 p.2 hu hma.heap) (.inr ⟨cb, p, #[], hM, hma.wf, rfl, ⟨_, hperm, ?_⟩, fun x hx => by cases hx⟩)
   rw [qiu];exact qbA hma.krel hma.vrel hma.len hma.keys hma.vals
 ·rename_i b
  obtain ⟨hg, h⟩ := h;unfold rangeX at h
  split at h
  ·rename_i ks vs hB
   obtain ⟨rb, hrb, hbr⟩ := hI.rel.spot hB;obtain ⟨cb, sh, n, es, clock, kus, vus, rfl, hma⟩ := qbO hbr;have hy := qcj hm hrb;have hI1 : MInv A n0 M0 ρ0 w0 M ρ (H.set b (.mapc ks vs (es.toList.map (·.born)) cb clock)) w := hI.reblk0 (by rw [hB]; nofun) fun r hr2 => by rw [hrb] at hr2; cases hr2; exact qdm hma rfl
   have hg1 : (H.set b (.mapc ks vs (es.toList.map (·.born)) cb clock))[id]? = some .gone := by
    rw [List.getElem?_set, if_neg (fun e => by subst e; rw [hg] at hB; cases hB)]; exact hg
   have hnc : ∀ o, M.cell w.heap.size o = none := fun o => by
    cases hm : M.cell w.heap.size o with
    | none => rfl
    | some v => have := hI.rel.cell_lt hm; omega
   have hnm : M.map w.heap.size = none := by
    cases hm : M.map w.heap.size with
    | none => rfl
    | some v => have := hI.rel.map_lt hm; omega
   obtain ⟨r, hr, hBr⟩ := hI1.rel.spot hg1;have hr' : r = .gone := by cases r <;> simp only [BRel] at hBr; rfl
   subst hr';have hidl : id < ρ.length := by rw [hI.rel.len]; exact (List.getElem?_eq_some_iff.1 hg).1
   have hrun : (Instr.range t (a.eval y)).run P w = .ok (.pointer (some ⟨w.heap.size, 0, none⟩)) (w.alloc (.mapIter (some cb) clock #[] clock)) := by
    rw [hy]; exact run_range_map w t kt e cb es clock hu hma.heap
   obtain ⟨h1, h2⟩ := hI1.lay (cb := w.heap.size) (sh := 0) (n := 0) (B := .mitx b cb clock []) hid hg1 M.le_refl (qm w _) (Newer.refl _ _ _) (hI.rel.holds.grow (qm w (.mapIter (some cb) clock #[] clock))) (Nat.le_refl _) (by simp) ⟨hnc, hnm⟩ (by
    simp only [BRel];exact ⟨trivial, #[], by rw [qap w (.mapIter (some cb) clock #[] clock)], rfl⟩)
   refine qc (x := .pointer (some ⟨w.heap.size, 0, none⟩)) (w' := w.alloc _) (by simp [execOp, ho, hrun]) (hK _ _ _ _ _ _ (h _ cb clock (by rw [List.length_map]; have h9 := congrArg List.length hma.keys; rw [List.length_map, qaP hma.krel] at h9; exact h9) hma.wf.1) trivial ⟨M, _, h1, fun j hj h => by rw [List.getElem?_set, if_neg (fun e => hj e.symm)]; exact h, fun _ _ h => h.mono M.le_refl h2, qh ?_ rfl⟩)
   simp only [LRel]; exact ⟨w.heap.size, 0, 0, by rw [List.getElem?_set_self hidl], rfl⟩
  ·cases h
 ·cases h
theorem qjH {i : AX} {o : Op} (h : okOp P (.nextM i) o = true) : ∃ y, o = .next y false /\ okX i y = true := by
 cases o <;> first | exact Bool.noConfusion (show false = true from h) | skip
 rename_i y st
 simp only [okOp, Bool.and_eq_true, Bool.not_eq_true'] at h;obtain ⟨rfl, h2⟩ := h;exact ⟨y, rfl, h2⟩
theorem qbP {b : Nat} {y : Value} (h : LVal M ρ (.loc b 0) y) {cb n : Nat} (hr : ρ[b]? = some (.here cb 0 n)) : y = .pointer (some ⟨cb, 0, none⟩) := by
 have h1 := h.one rfl (by simp)
 simp only [LRel] at h1;obtain ⟨cb', sh', n', h2, h3⟩ := h1;rw [hr] at h2; cases h2
 simpa using h3
theorem qgo {left : List (SV × SV)} {last : Option (SV × SV)} {r : Spot} (h : BRel M ρ w (.mit left last) r) : ∃ cb n, r = .here cb 0 n /\ MitRel M left last w.heap[cb]? := by
 cases r <;> simp only [BRel] at h
 obtain ⟨rfl, h⟩ := h;exact ⟨_, _, rfl, h⟩
theorem qjI (hI : MInv A n0 M0 ρ0 w0 M ρ H w) (hf : FRel M ρ fr a.tmps.toList) {i : AX} (hok : okOp P (.nextM i) o.op = true) (h : aop P n0 id fr H (.nextM i) k)
  (hK : ∀ v H' kl f x w', k v H' kl f -> f -> Nxt A n0 M0 ρ0 w0 M ρ id v H' kl x w' -> K (a.put o.dst x) w') : o.wp P a w K Q := by
 obtain ⟨y, ho, h1⟩ := qjH hok;simp only [aop] at h;have hi := qf hf h1;generalize i.ev fr = iv at h hi;unfold nextMK at h
 split at h
 ·rename_i b
  unfold nextMB at h
  split at h
  ·rename_i m bm c S hB
   unfold nextX at h
   split at h
   ·rename_i ks vs bs bm' c' hM
    obtain ⟨rfl, rfl, hend, hcons⟩ := h;obtain ⟨r, hr, hbr⟩ := hI.rel.spot hB;obtain ⟨cb, n', seen, rfl, hob, hS⟩ := qfg hbr;obtain ⟨r2, hr2, hbr2⟩ := hI.rel.spot hM;obtain ⟨sh, n2, es, kus, vus, rfl, hbs, hma⟩ := qdl hbr2;have hy := qbP hi hr;have vfalse : LVal M ρ (.tup [.bool false]) (.tuple #[.bool false]) := qp (xs := [.bool false]) ⟨_, _, rfl, qj (by simp [CRel]) rfl, rfl⟩
    have hmS : ∀ s, s ∈ S ↔ seen.contains s = true := fun s => by rw [<- hS, List.mem_reverse]; simp
    rcases run_next_at (P := P) w o.type cb bm' c' c' seen es c' hob hma.heap hma.wf.2 (Nat.le_refl _) with ⟨h0, hrun⟩ | ⟨e, he, w1, hw1, hrun⟩
    ·refine qc (by simp [execOp, ho, hy, hrun]) (hK _ _ _ _ _ _ (hend fun s hs => ?_) trivial (qg hI vfalse))
     rw [<- hbs] at hs;obtain ⟨e, he, rfl⟩ := List.mem_map.1 hs;rw [hmS]
     cases hc : seen.contains e.born with
     | true => rfl
     | false =>
      have h9 : e ∈ (leftOf es seen).toList := by
       unfold leftOf;simp only [Array.toList_filter, List.mem_filter];exact ⟨he, by rw [hc]; rfl⟩
      rw [Array.eq_empty_of_size_eq_zero h0] at h9;simp at h9
    ·obtain ⟨he1, he2⟩ := mem_left he
     obtain ⟨i, hi1, hi2⟩ := List.getElem_of_mem he1;have hie : es.toList[i]? = some e := by rw [List.getElem?_eq_getElem hi1, hi2]
     obtain ⟨x, hix, hx1, hx2⟩ := qcd (qbA hma.krel hma.vrel hma.len hma.keys hma.vals) hie;obtain ⟨hk1, hk2⟩ := List.getElem?_zip_eq_some.1 hix;have hk3 : bs[i]? = some e.born := by rw [<- hbs, List.getElem?_map, hie]; rfl
     have hnS : e.born ∉ S := fun h => by rw [hmS, he2] at h; cases h
     have hI1 : MInv A n0 M0 ρ0 w0 M ρ H w1 := by
      rcases hw1 with rfl | rfl
      ·exact hI
      ·exact hI.world rfl rfl rfl rfl (Nat.le_succ _)
     have hob1 : w1.heap[cb]? = some (.mapIter (some bm') c' seen c') := by rcases hw1 with rfl | rfl <;> exact hob
     have hnc : ∀ o, M.cell cb o = none := fun o => by
      cases hm : M.cell cb o with
      | none => rfl
      | some v =>
       have := hI.rel.cells cb o v hm;simp [World.cell?, hob] at this
     have hnm : M.map cb = none := by
      cases hm : M.map cb with
      | none => rfl
      | some q =>
       have := hI.rel.maps cb q hm;rw [hob] at this; cases this
     have hltc : cb < w1.heap.size := (Array.getElem?_eq_some_iff.1 hob1).1;refine qc (by simp only [execOp, ho, hy, Sem.run_bind, hrun]; rfl) (hK _ _ _ _ _ _ (hcons i e.born x.1 x.2 hk1 hk2 hk3 hnS) trivial ⟨M, ρ, hI1.objSet hB hr hob1 hnc hnm ?_, fun _ _ h => h, fun _ _ h => h, ?_⟩)
     ·simp only [BRel]
      refine ⟨trivial, seen.push e.born, ?_, by rw [Array.toList_push, List.reverse_append, hS]; rfl⟩
      show (w1.heap.setIfInBounds cb _)[cb]? = _
      rw [Array.getElem?_setIfInBounds_self_of_lt hltc]
     ·exact qp (xs := [.bool true, e.key, e.val]) ⟨_, _, rfl, qj (by simp [CRel]) rfl, _, _, rfl, hx1, _, _, rfl, hx2, rfl⟩
   ·cases h
  ·rename_i left last hB
   obtain ⟨hnil, hcons⟩ := h;obtain ⟨r, hr, hbr⟩ := hI.rel.spot hB;obtain ⟨cb, n, rfl, hmit⟩ := qgo hbr;have hy := qbP hi hr;have vfalse : LVal M ρ (.tup [.bool false]) (.tuple #[.bool false]) := qp (xs := [.bool false]) ⟨_, _, rfl, qj (by simp [CRel]) rfl, rfl⟩
   rcases hmit with ⟨rfl, rfl, hob⟩ | ⟨bm, p, seen, hM, hw, hob, ⟨left', hlp, hents⟩, _⟩
   ·have hrun : (execOp a.eval o).run P w = .ok (.value (.tuple #[.bool false])) w := by
     simp [execOp, ho, hy, Instr.next, getObj, Sem.run, hob, Result.andThen]
    exact qc hrun (hK _ _ _ _ _ _ (hnil rfl) trivial (qg hI vfalse))
   ·have hmap := hI.rel.maps bm p hM
    have hne : bm ≠ cb := fun e => by subst e; rw [hob] at hmap; cases hmap
    rcases run_next_at (P := P) w o.type cb bm p.2 p.2 seen p.1 p.2 hob hmap hw.2 (Nat.le_refl _) with ⟨h0, hrun⟩ | ⟨e, he, w1, hw1, hrun⟩
    ·have hl : left = [] := by
      have : (leftOf p.1 seen).toList = [] := by simpa [Array.size_eq_zero_iff] using h0
      rw [this] at hents
      have : left' = [] := by
       cases left' with
       | nil => rfl
       | cons x l => obtain ⟨_, _, e, _⟩ := hents; cases e
      subst this;exact hlp.nil_eq.symm
     exact qc (by simp [execOp, ho, hy, hrun]) (hK _ _ _ _ _ _ (hnil hl) trivial (qg hI vfalse))
    ·have hnd : ((leftOf p.1 seen).toList.map (·.born)).Nodup := by
      refine hw.1.sublist (List.Sublist.map _ ?_);unfold leftOf;rw [Array.toList_filter];exact List.filter_sublist
     obtain ⟨l1', x, l2', hl', hx1, hx2, hrest⟩ := qdn hents he hnd;obtain ⟨l1, l2, hl⟩ := List.append_of_mem (hlp.mem_iff.1 (by rw [hl']; simp : x ∈ left'))
     have hpr : (l1' ++ l2').Perm (l1 ++ l2) := by
      have h8 : (x :: (l1' ++ l2')).Perm (x :: (l1 ++ l2)) := by
       refine (List.perm_middle.symm.trans ?_).trans List.perm_middle;rw [<- hl', <- hl]; exact hlp
      exact h8.cons_inv
     have hI1 : MInv A n0 M0 ρ0 w0 M ρ H w1 := by
      rcases hw1 with rfl | rfl
      ·exact hI
      ·exact hI.world rfl rfl rfl rfl (Nat.le_succ _)
     have hob1 : w1.heap[cb]? = some (.mapIter (some bm) p.2 seen p.2) := by rcases hw1 with rfl | rfl <;> exact hob
     have hnc : ∀ o, M.cell cb o = none := fun o => by
      cases hm : M.cell cb o with
      | none => rfl
      | some v =>
       have := hI.rel.cells cb o v hm;simp [World.cell?, hob] at this
     have hnm : M.map cb = none := by
      cases hm : M.map cb with
      | none => rfl
      | some q =>
       have := hI.rel.maps cb q hm;rw [hob] at this; cases this
     have hlt : cb < w1.heap.size := (Array.getElem?_eq_some_iff.1 hob1).1;refine qc (by simp only [execOp, ho, hy, Sem.run_bind, hrun]; rfl) (hK _ _ _ _ _ _ (hcons l1 x l2 hl) trivial ⟨M, ρ, hI1.objSet hB hr hob1 hnc hnm ?_, fun _ _ h => h, fun _ _ h => h, ?_⟩)
     ·simp only [BRel]
      refine ⟨trivial, .inr ⟨bm, p, seen.push e.born, hM, hw, ?_, ?_, ?_⟩⟩
      ·show (w1.heap.setIfInBounds cb _)[cb]? = _
       rw [Array.getElem?_setIfInBounds_self_of_lt hlt]
      ·rw [qhr]; exact ⟨_, hpr, hrest⟩
      ·intro z hz
       cases hz
       exact ⟨e, (mem_left he).1, by simp, hx1, hx2⟩
     ·exact qp (xs := [.bool true, e.key, e.val]) ⟨_, _, rfl, qj (by simp [CRel]) rfl, _, _, rfl, hx1, _, _, rfl, hx2, rfl⟩
  ·cases h
 ·cases h
theorem qix {i : AX} {o : Op} (h : okOp P (.entryM i) o = true) : ∃ y, o = .entry y /\ okX i y = true := by
 cases o <;> first | exact Bool.noConfusion (show false = true from h) | skip
 rename_i y
 exact ⟨y, rfl, by simpa only [okOp] using h⟩
theorem qiy (hI : MInv A n0 M0 ρ0 w0 M ρ H w) (hf : FRel M ρ fr a.tmps.toList) {i : AX} (hok : okOp P (.entryM i) o.op = true) (h : aop P n0 id fr H (.entryM i) k)
  (hK : ∀ v H' kl f x w', k v H' kl f -> f -> Nxt A n0 M0 ρ0 w0 M ρ id v H' kl x w' -> K (a.put o.dst x) w') : o.wp P a w K Q := by
 obtain ⟨y, ho, h1⟩ := qix hok;simp only [aop] at h;have hi := qf hf h1;generalize i.ev fr = iv at h hi;unfold entryMK at h
 split at h
 ·rename_i b
  unfold entryMB at h
  split at h
  ·rename_i m bm c S hB
   unfold entryX at h
   split at h
   ·rename_i ks vs bs bm' c' hM
    obtain ⟨rfl, rfl, i, s, S', key, v, rfl, hk1, hk2, hk3, h⟩ := h;obtain ⟨r, hr, hbr⟩ := hI.rel.spot hB;obtain ⟨cb, n', seen, rfl, hob, hS⟩ := qfg hbr;obtain ⟨r2, hr2, hbr2⟩ := hI.rel.spot hM;obtain ⟨sh, n2, es, kus, vus, rfl, hbs, hma⟩ := qdl hbr2;have hy := qbP hi hr;rw [<- hbs, List.getElem?_map, Option.map_eq_some_iff] at hk3;obtain ⟨e, hie, rfl⟩ := hk3;obtain ⟨x, hix, hx1, hx2⟩ := qcd (qbA hma.krel hma.vrel hma.len hma.keys hma.vals) hie;obtain ⟨hk4, hk5⟩ := List.getElem?_zip_eq_some.1 hix;rw [hk1] at hk4;rw [hk2] at hk5
    cases hk4
    cases hk5
    have hse : seen = (S'.reverse.toArray).push e.born := by
     have h9 := congrArg List.reverse hS;rw [List.reverse_reverse, List.reverse_cons] at h9
     apply Array.ext'
     rw [h9]; simp
    subst hse;have hrun := run_entry_at (P := P) w cb bm' c' S'.reverse.toArray es c' e hob hma.heap (List.mem_of_getElem? hie) hma.wf.1;exact qc (by simp [execOp, ho, hy, hrun]) (hK _ _ _ _ _ _ h trivial (qg hI (qp (xs := [e.key, e.val]) ⟨_, _, rfl, hx1, _, _, rfl, hx2, rfl⟩)))
   ·cases h
  ·rename_i left x hB
   obtain ⟨r, hr, hbr⟩ := hI.rel.spot hB;obtain ⟨cb, n, rfl, hmit⟩ := qgo hbr;have hy := qbP hi hr
   rcases hmit with ⟨_, hn, _⟩ | ⟨bm, p, seen, hM, hw, hob, _, hlast⟩
   ·cases hn
   ·obtain ⟨e, he, hback, hx1, hx2⟩ := hlast x rfl
    have hmap := hI.rel.maps bm p hM
    obtain ⟨seen', hse⟩ : ∃ s : Array Nat, seen = s.push e.born := by
     exact Array.back?_eq_some_iff.1 hback
    subst hse;have hrun := run_entry_at (P := P) w cb bm p.2 seen' p.1 p.2 e hob hmap he hw.1;exact qc (by simp [execOp, ho, hy, hrun]) (hK _ _ _ _ _ _ h trivial (qg hI (qp (xs := [e.key, e.val]) ⟨_, _, rfl, hx1, _, _, rfl, hx2, rfl⟩)))
  ·cases h
 ·cases h
theorem qjJ {f : FuncId} {args : List AX} {o : Op} (h : okOp P (.callR f args) o = true) : okOp P (.call f args) o = true := by
 cases o <;> first | exact Bool.noConfusion (show false = true from h) | skip
 rename_i c
 obtain ⟨callee, xs, ats⟩ := c
 cases callee <;> first | exact Bool.noConfusion (show false = true from h) | skip
 rename_i y
 cases y <;> first | exact Bool.noConfusion (show false = true from h) | skip
 exact h
theorem qjK (hI : MInv A n0 M0 ρ0 w0 M ρ H w) (hf : FRel M ρ fr a.tmps.toList) {f : FuncId} {args : List AX} (hok : okOp P (.callR f args) o.op = true) (h : aop P n0 id fr H (.callR f args) k)
  (hK : ∀ v H' kl f x w', k v H' kl f -> f -> Nxt A n0 M0 ρ0 w0 M ρ id v H' kl x w' -> K (a.put o.dst x) w') : o.wp P a w K Q := by
 obtain ⟨xs, ts, ho, hx, hfn⟩ := qgg (qjJ hok);simp only [aop] at h;obtain ⟨as, R, hR, has, hk⟩ := h;have hrun := qam (a := a) (w := w) hfn ho (first := #[]) (caps := #[]) rfl;have hrun' : (execOp a.eval o).run P w = .ok (.enter f (xs.toList.map a.eval).toArray) w := by rw [hrun]; simp [<- Array.toList_map]
 have hvs := qS (H := []) M.le_refl (fun i B r h => by simp at h) (qE hf hx) has
 refine qaq hrun' (hR M w _ hI.rel.holds hvs) fun e w' ⟨ys, M', rs, hrs, he, hle, hh, hr, ht, hn⟩ => ⟨retOf ys, he, ?_⟩
 exact hK _ _ _ _ _ _ (hk rs hrs) trivial ⟨M', ρ, hI.grow hle ht hn hh, fun _ _ h => h, fun _ _ h => h.mono hle (Env.le_refl _), qbl hr⟩
end
end Go.E
