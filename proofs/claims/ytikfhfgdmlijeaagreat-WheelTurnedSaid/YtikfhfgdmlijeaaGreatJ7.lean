/- Contract of determinants. -/
import Derived.Test.YtikfhfgdmlijeaaGreatJ6

set_option linter.all false

namespace Go.Proofs.YtikfhfgdmlijeaaGreat.Sk
open Go Go.E Go.E.Sm
set_option maxRecDepth 10000
theorem qaU {s : SV} (h : s.cells.length = 1) : ∀ e ∈ [s], e.cells.length = 1 := by
 intro e he;rw [List.mem_singleton] at he;subst he; exact h
theorem qZ {n : Int} (h0 : -2 ^ 63 <= n) (h1 : n <= 2 ^ 63 - 1) : inR .i64 n := by
 by_cases h : 0 <= n
 ·exact qb h h1
 ·unfold inR IntKind.wrap
  have e : n % (2 ^ IntKind.i64.bits : Int) = n + 2 ^ 64 := by simp only [IntKind.bits]; omega
  simp only [e];have : (n + 2 ^ 64 ≥ (2 ^ (IntKind.i64.bits - 1) : Int)) := by simp only [IntKind.bits]; omega
  simp only [IntKind.bits] at this;simp [IntKind.bits];intro hs;have := hs rfl;omega
theorem qk {x : Int} (h : x.natAbs <= 2 ^ 62) : inR .i64 x := qZ (by omega) (by omega)
theorem qgI : ∀ {n : Nat}, 1 <= fact n
 | 0 => Nat.le_refl _
 | n + 1 => by rw [fact]; exact Nat.mul_pos (Nat.succ_pos n) qgI
theorem qeZ {k : Nat} : (sgn k).natAbs = 1 := by unfold sgn; split <;> rfl
theorem qT {m : Nat} {cs : List SV} (h : m <= cs.length) : rowOf 0 m 1 cs = some (cs.take m) := by
 rw [rowOf, if_pos (by omega), elems, if_pos rfl, List.drop_zero]
theorem qaC {l : List (List Int)} : sliceOf 0 l.length 1 (l.map ints) = some (intss l) := by
 rw [sliceOf, if_pos (by rw [List.length_map]; omega), elems, if_pos rfl, List.drop_zero, List.take_of_length_le (by simp)]; rfl
set_option maxHeartbeats 2000000 in
theorem k98 : ∀ (n : Nat) (t : List (List Int)) (cs : List Nat), Tb n t cs -> (∀ c ∈ cs, 0 < c) -> fact n * prodN cs <= 2 ^ 61 -> n <= 100 -> E.Fn Tryz.prog 98 [intss t] [.int .i64 (detT n t)]
 | 0, t, cs, h, _, _, _ => by
  have := List.length_eq_zero_iff.1 h.len;subst this;refine fn_of_row qmh ?_;simp only [FRow.start, f98, c98r0, c98r1, intss, List.map_nil, c98r2, go_sem, Nat.reduceSub];simp [detT]
 | n + 1, t, cs, h, hp, hb, hn => by
  obtain ⟨r, t, rfl⟩ : ∃ r t', t = r :: t' := by
   cases t with
   | nil => have := h.len; simp at this
   | cons r t => exact ⟨r, t, rfl⟩
  have hrl := h.row r (by simp)
  have htl : t.length = n := by have := h.len; simpa using this
  refine fn_of_row qmh ?_;have hne : ¬ ((t.length + 1 : Nat) : Int) = 0 := by omega
  have hbb : (n + 1) * (fact n * prodN cs) <= 2 ^ 61 := by rw [<- Nat.mul_assoc]; exact hb
  have hfp : 1 <= fact n := qgI;have hpp := qes hp;simp only [FRow.start, f98, c98r0, c98r1, intss, c98r3, c98r4, ints, go_sem, Nat.reduceSub, Int.reduceToNat];intro _;refine ⟨fun h0 => absurd h0 hne, fun _ _ => ?_⟩
  generalize hf : (fun k => detT n (t.map (·.eraseIdx k))) = f
  refine qe (fun m τ => ∃ k : Nat, m = r.length - k /\ k <= r.length /\
   τ = ⟨((.s (intss (r :: t)))::aN::aN::(aI (altS f (r.take k) 0 1))::(aI (sgn k))::aN::aN::aN::aN::aN::aN::aN::aN::aN::aN::(.s (ints r))::(aI r.length)::(aI k)::aN::aZ32), []⟩) r.length rfl ?_ ?_
  ·simp only [c98l17m, go_sem]
   exact ⟨0, rfl, Nat.zero_le _, rfl⟩
  ·rintro I m τ ⟨k, rfl, hk, rfl⟩ hI
   simp only [c98l17, c98r5, go_sem, ↓reduceIte];refine ⟨fun hlt => ?_, fun hge => ?_⟩
   ·have hlt : k < r.length := by omega
    have hx : r[k]? = some r[k] := List.getElem?_eq_getElem hlt;have hc : cs[k]? = some (cs[k]'(by rw [h.cl]; omega)) := List.getElem?_eq_getElem _
    have hxc := h.bd r (by simp) k _ _ hx hc
    have hts := qko (f := f) hx;generalize r[k] = x at hx hxc hts;generalize cs[k]'(by rw [h.cl]; omega) = c at hc hxc
    have hmin := h.minor (k := k) (by omega)
    have hpe := qbD hc;have hcm : c * prodN (cs.eraseIdx k) <= fact n * prodN cs := by rw [<- hpe]; exact Nat.le_mul_of_pos_left _ hfp
    have hdb := qdA hmin;have hfk : f k = detT n (t.map (·.eraseIdx k)) := by rw [<- hf]
    have hep : 1 <= prodN (cs.eraseIdx k) := qes fun c hc => hp c (List.mem_of_mem_eraseIdx hc)
    have hxc' : x.natAbs <= fact n * prodN cs := Nat.le_trans hxc (Nat.le_trans (Nat.le_mul_of_pos_right _ hep) hcm);have hB61 : fact n * prodN cs <= 2 ^ 61 := Nat.le_trans (Nat.le_mul_of_pos_left _ (Nat.succ_pos n)) hbb;have htk : List.take (t.length + 1 - 1) (t.map ints) = t.map ints := by rw [List.take_of_length_le]; simp
    simp only [c98r6, hx, ints, c98r7, intss, c98r8, go_sem, ↓reduceIte, Nat.reduceLeDiff, Int.reduceLE, Int.reduceToNat];rw [htk];refine ⟨.inr fun y hy => ?_, fun _ => ?_⟩
    ·rcases List.mem_cons.1 hy with rfl | hy
     ·rfl
     ·obtain ⟨l, _, rfl⟩ := List.mem_map.1 hy
      rfl
    refine qe (fun m τ => ∃ j : Nat, m = t.length - j /\ j <= t.length /\
     τ = ⟨((.s (intss (r :: t)))::aN::aN::(aI (altS f (r.take k) 0 1))::(aI (sgn k))::(aI k)::(aI x)::(.sl 0 0 j 1 false)::aN::aN::aN::aN::aN::aN::aN::(.s (ints r))::(aI r.length)::(aI k)::aN::aN::aN::aN::aN::(.s (.slice (t.map ints)))::(aI t.length)::(aI j)::aN::aZ24), [.row (((t.take j).map (·.eraseIdx k)).map ints)]⟩) t.length (qY rfl) ?_ ?_
    ·simp only [c98l13m, go_sem, ↓reduceIte, reduceCtorEq, Nat.reduceLeDiff]
     exact ⟨0, rfl, Nat.zero_le _, rfl⟩
    ·rintro I2 m τ ⟨j, rfl, hj, rfl⟩ hI2
     simp only [c98l13, c98r9, go_sem, ↓reduceIte];refine ⟨fun hlt2 => ?_, fun hge => ?_⟩
     ·have hlt2 : j < t.length := by omega
      have hy : t[j]? = some t[j] := List.getElem?_eq_getElem hlt2;have hyl := h.row t[j] (by simp)
      generalize t[j] = l at hy hyl;have hne2 : ¬ l.map (SV.int .i64) = [] := fun e => by have := congrArg List.length e; rw [List.length_map, List.length_nil] at this; omega
      have e1 : ((k : Int) + 1) = ((k + 1 : Nat) : Int) := rfl;simp only [c98r10, hy, c98r11, ints, go_sem, Nat.reduceAdd];refine .inr ⟨_, _, k101 (xs := l) (by omega), .inl ⟨rfl, rfl⟩, by decide, qaN, rfl, ?_⟩
      rw [if_neg hne2];simp only [qF, e1, go_sem];refine ⟨qb (by omega) (by omega), ?_⟩
      refine ⟨[.int .i64 k, .int .i64 ((k + 1 : Nat) : Int)], _, 0, _, false, _, rfl, k111 (L := l) (i := k) (by omega) (by omega), qT (by simp), qcS, ?_⟩
      have e2 : List.take (l.eraseIdx k).length ((l.eraseIdx k ++ [0]).map (SV.int .i64)) = (l.eraseIdx k).map (.int .i64) := by
       rw [List.map_append, List.take_left' (by simp)]
      simp only [e2, Nat.reduceBEq, Bool.false_eq_true, go_sem, ↓reduceIte, Nat.reduceAdd, Nat.reduceMul];refine ⟨by decide, by decide, rfl, qaU rfl, qaU rfl, by rw [List.length_take]; omega, by omega, by omega, ?_⟩
      have e3 : ((t.take j).map (·.eraseIdx k)).map ints ++ flatE [SV.slice ((l.eraseIdx k).map (.int .i64))] = ((t.take (j + 1)).map (·.eraseIdx k)).map ints := by
       rw [List.take_succ, hy, List.map_append, List.map_append]; rfl
      simp only [e3, c98r12, c98l13m, go_sem, ↓reduceIte, reduceCtorEq, Nat.reduceLeDiff];exact ⟨qb (by omega) (by omega), hI2 (t.length - (j + 1)) _ (by omega) ⟨j + 1, rfl, by omega, rfl⟩⟩
     ·have hje : j = t.length := by omega
      subst hje;rw [List.take_length];have hIH := k98 n (t.map (·.eraseIdx k)) (cs.eraseIdx k) hmin (fun c hc => hp c (List.mem_of_mem_eraseIdx hc)) (Nat.le_trans (Nat.mul_le_mul_left _ (by rw [hpe]; exact Nat.le_mul_of_pos_left _ (hp c (List.mem_of_getElem? hc)))) (Nat.le_trans (Nat.le_mul_of_pos_left _ (Nat.succ_pos n)) hbb)) (by omega)
      have hsl : sliceOf 0 t.length 1 ((t.map (·.eraseIdx k)).map ints) = some (intss (t.map (·.eraseIdx k))) := by
       have := qaC (l := t.map (·.eraseIdx k));rw [List.length_map] at this;exact this
      simp only [c98r14, go_sem];refine ⟨qk ?_, qa (by simp only [hsl, go_sem]) hIH (.inl rfl) ?_⟩
      ·rw [Int.natAbs_mul, qeZ, Nat.one_mul]
       exact Nat.le_trans hxc' (by omega)
      ·rw [<- hfk]
       have hxf : (sgn k * x * f k).natAbs <= fact n * prodN cs := by
        rw [Int.natAbs_mul, Int.natAbs_mul, qeZ, Nat.one_mul, hfk];refine Nat.le_trans (Nat.mul_le_mul hxc hdb) ?_;rw [hpe, Nat.mul_left_comm]; exact Nat.le_refl _
       have hsum : (altS f (r.take (k + 1)) 0 1).natAbs <= (n + 1) * (fact n * prodN cs) := by
        refine Nat.le_trans (qgH (B := fact n * prodN cs) rfl fun i y hy => ?_) (Nat.mul_le_mul_right _ (by rw [List.length_take]; omega))
        rw [List.getElem?_take] at hy
        split at hy
        ·have hi : i < r.length := (List.getElem?_eq_some_iff.1 hy).1
         have hci : cs[i]? = some (cs[i]'(by rw [h.cl]; omega)) := List.getElem?_eq_getElem _
         rw [Nat.zero_add, Int.natAbs_mul, qbD hci, Nat.mul_left_comm, <- hf];exact Nat.mul_le_mul (h.bd r (by simp) i y _ hy hci) (qdA (h.minor (by omega)))
        ·cases hy
       have hin : inR .i64 (sgn k * x * f k) := qk (by omega)
       have hin2 : inR .i64 (-sgn k) := qk (by rw [Int.natAbs_neg, qeZ]; decide)
       have hin3 : inR .i64 (altS f (r.take (k + 1)) 0 1) := qk (by omega)
       simp only [go_sem];rw [<- hts];refine ⟨hin, hin3, ?_⟩;simp only [c98r15, go_sem];rw [<- qer] at hin2 ⊢;simp only [c98r16, c98l17m, go_sem];exact ⟨by rw [Int.zero_sub, <- qer]; exact hin2, qb (by omega) (by omega), hI (r.length - (k + 1)) _ (by omega) ⟨k + 1, rfl, by omega, rfl⟩⟩
   ·have hke : k = r.length := by omega
    subst hke;rw [List.take_length];simp only [c98r18, go_sem];rw [<- hf]; rfl
def nats (l : List Nat) : List Int := l.map fun k : Nat => (k : Int)
def tabF (s : Int) (T : Nat -> Nat -> Int) (i k : Nat) : Int := (if i = k then s else 0) - T i k
def tabR (s : Int) (T : Nat -> Nat -> Int) (st : List Nat) (i : Nat) : List Int := st.map (tabF s T i)
def tabT (s : Int) (T : Nat -> Nat -> Int) (st : List Nat) : List (List Int) := st.map (tabR s T st)
theorem qhU {f : Nat -> Int} {st : List Nat} {m k : Nat} (h : st[m]? = some k) : ((st.take m).map f ++ List.replicate (st.length - m) 0).set m (f k) = (st.take (m + 1)).map f ++ List.replicate (st.length - (m + 1)) 0 := by
 have hm := (List.getElem?_eq_some_iff.1 h).1;have hl : ((st.take m).map f).length = m := by rw [List.length_map, List.length_take]; omega
 rw [List.set_append_right _ _ (by omega), hl, Nat.sub_self, show st.length - m = (st.length - (m + 1)) + 1 by omega, List.replicate_succ, List.set_cons_zero, List.take_succ, h, List.map_append, List.append_assoc]
 rfl
theorem q7 : ∀ {n : Nat}, (List.replicate n [SV.int .i64 0]).flatten = (List.replicate n (0 : Int)).map (.int .i64)
 | 0 => rfl
 | n + 1 => by rw [List.replicate_succ, List.replicate_succ, List.flatten_cons, q7]; rfl
theorem spl_row {R : List Int} {i : Nat} {x : Int} (h : i < R.length) : splice (R.map (SV.int .i64)) i [.int .i64 x] = (R.set i x).map (.int .i64) := by
 unfold splice;rw [List.set_eq_take_append_cons_drop, if_pos h, List.map_append, List.map_take, List.map_cons, List.map_drop];simp
theorem qhV {xs ys : List SV} (h : ys.length = xs.length) : splice xs 0 ys = ys := by
 unfold splice;rw [List.take_zero, Nat.zero_add, h, List.drop_length]; simp
theorem qgJ {α : Type} {f : α -> List Int} {l : List α} : sliceOf 0 l.length 1 ((l.map f).map ints) = some (intss (l.map f)) := by
 have := qaC (l := l.map f);rw [List.length_map] at this;exact this
set_option maxHeartbeats 2000000 in
theorem k99 {s : Int} {N : List (List Int)} {p : List Int} {ks vs : List SV} {parts : List (List Int)} {T : Nat -> Nat -> Int} {st : List Nat} (hm : MapG ks vs N.length T) (hn : N.length <= 100) (hst : ∀ i ∈ st, i < N.length) (hl : st.length <= 100)
  (hT : ∀ i k, (T i k).natAbs <= 2 ^ 40) (hs : s.natAbs <= 2 ^ 40) :
  E.Fn Tryz.prog 99 [bnV s N p ks vs parts, ints (nats st)] [intss (tabT s T st)] := by
 refine fn_of_row qrs ?_;simp only [FRow.start, f99, c99r0, c99r1, c99r2, bnV, ints, nats, go_sem, Nat.reduceAdd, Nat.reduceSub];intro _
 refine qe (fun m τ => ∃ i : Nat, m = st.length - i /\ i <= st.length /\
  τ = ⟨((.s (bnV s N p ks vs parts))::(.s (ints (nats st)))::aN::aN::aN::(.sl 0 0 i 1 false)::aN::aN::aN::aN::aN::(.s (ints (nats st)))::(aI st.length)::(aI i)::aN::aZ48), [.row (((st.take i).map (tabR s T st)).map ints)]⟩) st.length (qY rfl) ?_ ?_
 ·simp only [c99l17m, go_sem, ↓reduceIte, reduceCtorEq, Nat.reduceLeDiff]
  exact ⟨0, rfl, Nat.zero_le _, rfl⟩
 ·rintro I m τ ⟨i, rfl, hi, rfl⟩ hI
  simp only [c99l17, c99r3, go_sem, ↓reduceIte];refine ⟨fun hlt => ?_, fun hge => ?_⟩
  ·have hlt : i < st.length := by omega
   have hx : st[i]? = some st[i] := List.getElem?_eq_getElem hlt;have ha := hst _ (List.getElem_mem hlt);generalize st[i] = a at hx ha;simp only [c99r4, ints, nats, hx, c99r5, go_sem, Nat.reduceAdd, Nat.reduceLT];refine ⟨by omega, by omega, fun _ => ?_⟩
   rw [q7];simp only [c99r6, q7, go_sem, Nat.reduceAdd];refine ⟨by simp, ?_⟩
   rw [qhV (by simp)]
   simp only [c99r7, go_sem];intro _
   refine qe (fun m τ => ∃ j : Nat, m = st.length - j /\ j <= st.length /\
    τ = ⟨((.s (bnV s N p ks vs parts))::(.s (ints (nats st)))::aN::aN::aN::(.sl 0 0 i 1 false)::aN::(aI a)::(.sl 1 0 st.length 1 true)::aN::aN::(.s (ints (nats st)))::(aI st.length)::(aI i)::aN::aN::aN::aN::aN::aN::aN::(.s (ints (nats st)))::(aI st.length)::(aI j)::aN::aN::aN::aN::aN::aN::aN::aZ32),
     [.row (((st.take i).map (tabR s T st)).map ints), .row (((st.take j).map (tabF s T a) ++ List.replicate (st.length - j) 0).map (.int .i64))]⟩) st.length rfl ?_ ?_
   ·simp only [c99l14m, go_sem, ↓reduceIte, reduceCtorEq, Nat.reduceAdd, Nat.reduceLeDiff]
    exact ⟨0, rfl, Nat.zero_le _, rfl⟩
   ·rintro I2 m τ ⟨j, rfl, hj, rfl⟩ hI2
    simp only [c99l14, c99r8, go_sem, ↓reduceIte, Nat.reduceAdd];refine ⟨fun hlt2 => ?_, fun hge => ?_⟩
    ·have hlt2 : j < st.length := by omega
     have hy : st[j]? = some st[j] := List.getElem?_eq_getElem hlt2;have hb := hst _ (List.getElem_mem hlt2);have hrs := qhU (f := tabF s T a) hy;generalize st[j] = b at hy hb hrs;have hR : ((st.take j).map (tabF s T a) ++ List.replicate (st.length - j) 0).length = st.length := by simp; omega
     have hR0 : ((st.take j).map (tabF s T a) ++ List.replicate (st.length - j) 0)[j]? = some 0 := by
      rw [List.getElem?_append_right (by rw [List.length_map, List.length_take]; omega), List.getElem?_replicate, if_pos (by rw [List.length_map, List.length_take]; omega)]
     generalize (st.take j).map (tabF s T a) ++ List.replicate (st.length - j) 0 = R at *;simp only [c99r9, ints, nats, hy, c99r10, hR0, bnV, Nat.mul_one, go_sem, ↓reduceIte, Nat.reduceAdd, Nat.reduceLeDiff];refine ⟨hlt2, hm.key a b ha hb, hm.nod, hm.look ha hb ?_⟩;have hTb := hT a b;have in1 : inR .i64 (0 - T a b) := qk (by omega)
     have hs1 := spl_row (R := R) (i := j) (x := 0 - T a b) (by omega)
     have hfin : (R.set j (tabF s T a b)).length = st.length := by rw [List.length_set, hR]
     by_cases hab : a = b
     ·subst hab
      have hs2 := spl_row (R := R.set j (0 - T a a)) (i := j) (x := 0 - T a a + s) (by rw [List.length_set]; omega)
      have hg2 : (R.set j (0 - T a a))[j]? = some (0 - T a a) := List.getElem?_set_self (by omega)
      have in2 : inR .i64 (0 - T a a + s) := qk (by omega)
      have hfx : 0 - T a a + s = tabF s T a a := by unfold tabF; rw [if_pos rfl]; omega
      simp only [Nat.mul_one, hs1, c99r11, c99r12, go_sem, Nat.reduceAdd];refine ⟨in1, by omega, ?_⟩
      simp only [Nat.mul_one, hg2, hs2, c99r13, c99l14m, List.length_set, go_sem, ↓reduceIte, reduceCtorEq, Nat.reduceAdd, Nat.reduceLeDiff];refine ⟨by omega, by omega, in2, by omega, by omega, qb (by omega) (by omega), hI2 (st.length - (j + 1)) _ (by omega) ⟨j + 1, rfl, by omega, ?_⟩⟩
      rw [hfx, List.set_set, hrs]; rfl
     ·have hab2 : ¬ (a : Int) = b := by omega
      have hfx : 0 - T a b = tabF s T a b := by unfold tabF; rw [if_neg hab]
      simp only [Nat.mul_one, hs1, c99r11, hab2, c99r13, c99l14m, go_sem, ↓reduceIte, reduceCtorEq, Nat.reduceAdd, Nat.reduceLeDiff];refine ⟨in1, by omega, by omega, qb (by omega) (by omega), hI2 (st.length - (j + 1)) _ (by omega) ⟨j + 1, rfl, by omega, ?_⟩⟩
      rw [hfx, hrs]; rfl
    ·have hje : j = st.length := by omega
     subst hje;rw [List.take_length, Nat.sub_self, List.replicate_zero, List.append_nil]
     have hrt : rowOf 0 st.length 1 ((st.map (tabF s T a)).map (SV.int .i64)) = some ((tabR s T st a).map (.int .i64)) := by
      rw [qT (by simp), List.take_of_length_le (by simp)]; rfl
     have e3 : ((st.take i).map (tabR s T st)).map ints ++ flatE [SV.slice ((tabR s T st a).map (.int .i64))] = ((st.take (i + 1)).map (tabR s T st)).map ints := by
      rw [List.take_succ, hx, List.map_append, List.map_append]; rfl
     simp only [c99r15, go_sem, Nat.reduceAdd, Nat.reduceMul];refine ⟨_, hrt, ?_⟩;simp only [Nat.reduceBEq, Bool.false_eq_true, go_sem, ↓reduceIte];refine ⟨by decide, by decide, rfl, qaU rfl, qaU rfl, by rw [List.length_take]; omega, by omega, by omega, ?_⟩
     simp only [e3, c99r16, c99l17m, go_sem, ↓reduceIte, reduceCtorEq, Nat.reduceLeDiff];exact ⟨qb (by omega) (by omega), hI (st.length - (i + 1)) _ (by omega) ⟨i + 1, rfl, by omega, rfl⟩⟩
  ·have hie : i = st.length := by omega
   subst hie;rw [List.take_length];simp only [c99r18, qgJ, go_sem];rfl
def wout (n : Nat) (l : List Int) : List Nat := (List.range n).filter fun i => !decide ((i : Int) ∈ l)
theorem qe0 {n : Nat} {l : List Int} {i : Nat} (h : i ∈ wout n l) : i < n := List.mem_range.1 (List.mem_filter.1 h).1
def woutT (n : Nat) (l : List Int) (m : Nat) : List Nat := (List.range m).filter fun i => !decide ((i : Int) ∈ l)
theorem qiT {n : Nat} {l : List Int} {m : Nat} : woutT n l (m + 1) = if (m : Int) ∈ l then woutT n l m else woutT n l m ++ [m] := by
 unfold woutT;rw [List.range_succ, List.filter_append]
 by_cases h : (m : Int) ∈ l
 ·rw [if_pos h, List.filter_cons_of_neg (by simp [h])]; simp
 ·rw [if_neg h, List.filter_cons_of_pos (by simp [h])]; rfl
theorem qfH {n : Nat} {l : List Int} {m : Nat} : (woutT n l m).length <= m := by
 unfold woutT;exact Nat.le_trans (List.length_filter_le _ _) (by simp)
theorem k88 {s : Int} {N : List (List Int)} {p : List Int} {ks vs : List SV} {parts : List (List Int)} {l : List Int} (hn : N.length <= 100) :
  E.Fn Tryz.prog 88 [bnV s N p ks vs parts, ints l] [ints (nats (wout N.length l))] := by
 refine fn_of_row qrj ?_;simp only [FRow.start, f88, c88r0, c88r1, c88r2, bnV, intss, go_sem, Nat.reduceAdd, Nat.reduceSub, Nat.reduceLeDiff];intro _
 refine qe (fun m τ => ∃ i : Nat, m = N.length - i /\ i <= N.length /\
  τ = ⟨[.any, .s (ints l), .any, .any, .any, .sl 0 0 (woutT N.length l i).length 1 false, .any, .any, .any, .any, .any, .any, aI N.length, aI i, .any, .any, .any, .any, .any, .any, .any, .any, .any, .any, .any, .any], [.row ((nats (woutT N.length l i)).map (.int .i64))]⟩) N.length (qY rfl) ?_ ?_
 ·simp only [c88l8m, go_sem, ↓reduceIte, reduceCtorEq, Nat.reduceLeDiff]
  exact ⟨0, rfl, Nat.zero_le _, rfl⟩
 ·rintro I m τ ⟨i, rfl, hi, rfl⟩ hI
  simp only [c88l8, c88r3, go_sem, ↓reduceIte];refine ⟨fun hlt => ?_, fun hge => ?_⟩
  ·have hlt : i < N.length := by omega
   have hw := qiT (n := N.length) (l := l) (m := i);have hwl := qfH (n := N.length) (l := l) (m := i);simp only [c88r4, c88r5, go_sem];refine qa (by simp only [ints, go_sem]) (k91 (xs := l) (v := i)) (.inl rfl) ?_
   by_cases hin : (i : Int) ∈ l
   ·rw [if_pos hin] at hw
    simp only [hin, c88r7, c88l8m, go_sem, ↓reduceIte, reduceCtorEq, Nat.reduceLeDiff];refine ⟨qb (by omega) (by omega), hI (N.length - (i + 1)) _ (by omega) ⟨i + 1, rfl, by omega, ?_⟩⟩
    rw [hw]; rfl
   ·rw [if_neg hin] at hw
    simp only [hin, c88r6, Nat.reduceBEq, go_sem, ↓reduceIte, Nat.reduceAdd, Nat.reduceMul];refine ⟨by decide, by decide, rfl, qr, qr, by rw [Nat.mul_one, nats, List.length_map], by omega, by omega, ?_⟩
    have e3 : (nats (woutT N.length l i)).map (SV.int .i64) ++ flatE [SV.int .i64 (i : Int)] = (nats (woutT N.length l (i + 1))).map (.int .i64) := by
     rw [hw, nats, nats, List.map_append, List.map_append]; rfl
    simp only [e3, c88r7, c88l8m, go_sem, ↓reduceIte, reduceCtorEq, Nat.reduceLeDiff];refine ⟨qb (by omega) (by omega), hI (N.length - (i + 1)) _ (by omega) ⟨i + 1, rfl, by omega, ?_⟩⟩
    rw [show (woutT N.length l (i + 1)).length = (woutT N.length l i).length + 1 by rw [hw, List.length_append]; rfl]
    rfl
  ·have hie : i = N.length := by omega
   subst hie
   have hsl : sliceOf 0 (woutT N.length l N.length).length 1 ((nats (woutT N.length l N.length)).map (SV.int .i64)) = some (ints (nats (wout N.length l))) := by
    have := qaM (l := nats (woutT N.length l N.length));rw [nats, List.length_map] at this;exact this
   simp only [c88r9, hsl, go_sem]
   done
theorem k97 : ∀ (b a : Nat), a <= 2 ^ 62 -> b <= 2 ^ 62 -> E.Fn Tryz.prog 97 [.int .i64 a, .int .i64 b] [.int .i64 (Nat.gcd a b : Nat)] := by
 intro b
 induction b using Nat.strongRecOn with
 | _ b ih =>
  intro a ha hb;refine fn_of_row qrr ?_
  by_cases h0 : b = 0
  ·subst h0
   simp only [FRow.start, f97, c97r0, c97r1, c97r2, go_sem, Nat.reduceAdd, Nat.reduceSub];simp
  ·have h1 : ¬ (b : Int) = 0 := by omega
   have hlt : a % b < b := Nat.mod_lt _ (by omega)
   have hm : (a : Int).tmod b = ((a % b : Nat) : Int) := (Int.ofNat_tmod a b).symm;have hg : Nat.gcd a b = Nat.gcd b (a % b) := by rw [Nat.gcd_comm a b, Nat.gcd_rec b a, Nat.gcd_comm]
   simp only [FRow.start, f97, c97r0, c97r1, h1, c97r3, hm, go_sem, Nat.reduceAdd, Nat.reduceSub];refine ⟨by omega, qa (by simp only [go_sem]) (ih (a % b) hlt b hb (by omega)) (.inl rfl) ?_⟩
   rw [hg];simp only [go_sem]
theorem qt {H : List ABlock} {x y : SV} : frzAll (frzV H 3) [.s x, .s y] = some [x, y] := rfl
def gcdN (n d : Int) : Nat := Nat.gcd n.natAbs d.natAbs
def lst (n d : Int) : Int × Int := (n.tdiv (gcdN n d), d.tdiv (gcdN n d))
def rat (q : Int × Int) : SV := .agg [.int .i64 q.1, .int .i64 q.2]
theorem k59 {n d : Int} (hn : n.natAbs <= 2 ^ 62) (h0 : 0 < d) (hd : d <= 2 ^ 62) : E.Fn Tryz.prog 59 [.int .i64 n, .int .i64 d] [rat (lst n d)] := by
 refine fn_of_row qqX ?_;have in1 : inR .i64 (0 - n) := qk (by omega)
 have hmx : maxL [n, -n] = (n.natAbs : Int) := by
  simp only [maxL, List.foldl_cons, List.foldl_nil]
  split <;> omega
 have hdn : d = (d.toNat : Int) := by omega
 have hdn2 : d.natAbs = d.toNat := by omega
 have hk := k97 d.toNat n.natAbs hn (by omega)
 have hgp : 0 < Nat.gcd n.natAbs d.natAbs := Nat.gcd_pos_of_pos_right _ (by omega)
 have hgn : ¬ ((Nat.gcd n.natAbs d.natAbs : Nat) : Int) = 0 := by omega
 rw [<- hdn, <- hdn2] at hk;simp only [FRow.start, f59, c59r0, c59r1, go_sem, Nat.reduceAdd, Nat.reduceSub];rw [hmx];refine ⟨in1, by simp, ?_⟩
 refine qa (by simp only [go_sem]) hk (.inl rfl) ?_
 have hq : ∀ x : Int, x.natAbs <= 2 ^ 62 -> inR .i64 (x.tdiv (Nat.gcd n.natAbs d.natAbs : Nat)) := fun x hx => qk (by
  rw [Int.natAbs_tdiv];exact Nat.le_trans (Nat.div_le_self _ _) hx)
 simp only [c59r2, go_sem, ↓reduceIte, Nat.reduceAdd, Nat.reduceLeDiff];refine ⟨by omega, hq n hn, by omega, hq d (by omega), ?_⟩
 simp only [ql, List.take_succ_cons, List.take_zero, qt, go_sem, Nat.reduceAdd];rfl
structure OkN (s : Int) (N : List (List Int)) : Prop where
  n1 : 1 <= N.length
  n4 : N.length <= 4
  sq : ∀ l ∈ N, l.length = N.length
  ent : ∀ l ∈ N, ∀ x ∈ l, 0 <= x /\ x <= s
  s1 : 1 <= s
  s20 : s <= 20
theorem OkN.tn {s : Int} {N : List (List Int)} (h : OkN s N) (i k : Nat) : 0 <= tn N i k /\ tn N i k <= s := by
 have h0 : (0 : Int) <= 0 /\ 0 <= s := ⟨Int.le_refl _, by have := h.s1; omega⟩
 unfold Sk.tn
 cases hx : N[i]? with
 | none => simp [h0.2]
 | some l =>
  simp only [Option.getD_some]
  cases hy : l[k]? with
  | none => exact h0
  | some x => exact h.ent l (List.mem_of_getElem? hx) x (List.mem_of_getElem? hy)
def detS (s : Int) (N : List (List Int)) (st : List Nat) : Int := detT st.length (tabT s (tn N) st)
theorem qlO {m c : Nat} : prodN (List.replicate m c) = c ^ m := by
 induction m with
 | zero => rfl
 | succ m ih => rw [List.replicate_succ, prodN, ih, Nat.pow_succ, Nat.mul_comm]
theorem qoG {s : Int} {N : List (List Int)} (h : OkN s N) {i k : Nat} : (tabF s (tn N) i k).natAbs <= 20 := by
 have h1 := h.tn i k;have h2 := h.s20;unfold tabF
 split <;> omega
theorem qdB {s : Int} {N : List (List Int)} (h : OkN s N) {st : List Nat} : Tb st.length (tabT s (tn N) st) (List.replicate st.length 20) := by
 refine ⟨by simp [tabT], fun r hr => ?_, by simp, fun r hr k x c hx hc => ?_⟩
 ·obtain ⟨i, _, rfl⟩ := List.mem_map.1 hr
  simp [tabR]
 ·obtain ⟨i, _, rfl⟩ := List.mem_map.1 hr
  rw [List.getElem?_replicate] at hc
  split at hc
  ·cases hc
   rw [tabR, List.getElem?_map, Option.map_eq_some_iff] at hx;obtain ⟨j, _, rfl⟩ := hx;exact qoG h
  ·cases hc
theorem qgK {m : Nat} (h : m <= 4) : fact m * prodN (List.replicate m 20) <= 2 ^ 22 := by
 rw [qlO]
 match m, h with
 | 0, _ => decide
 | 1, _ => decide
 | 2, _ => decide
 | 3, _ => decide
 | 4, _ => decide
theorem qkp {s : Int} {N : List (List Int)} (h : OkN s N) {st : List Nat} (hl : st.length <= 4) : (detS s N st).natAbs <= 2 ^ 22 := Nat.le_trans (qdA (qdB h)) (qgK hl)
theorem kdet {s : Int} {N : List (List Int)} (h : OkN s N) {st : List Nat} (hl : st.length <= 4) : E.Fn Tryz.prog 98 [intss (tabT s (tn N) st)] [.int .i64 (detS s N st)] :=
 k98 st.length _ _ (qdB h) (fun c hc => by have := List.eq_of_mem_replicate hc; omega) (Nat.le_trans (qgK hl) (by decide)) (by omega)
theorem ktab {s : Int} {N : List (List Int)} {p : List Int} (h : OkN s N) {st : List Nat} (hst : ∀ i ∈ st, i < N.length) (hl : st.length <= 4) : E.Fn Tryz.prog 99 [benchC s N p, ints (nats st)] [intss (tabT s (tn N) st)] :=
 k99 (qbu h.sq) (by have := h.n4; omega) hst (by omega) (fun i k => by have := h.tn i k; have := h.s20; omega) (by have := h.s1; have := h.s20; omega)
theorem qcU {n : Nat} {l : List Int} : (wout n l).length <= n := qfH (n := n)
def rootN (s : Int) (N : List (List Int)) (i : Nat) : Int := detS s N (wout N.length [(i : Int)])
def rootsN (s : Int) (N : List (List Int)) : List Int := (List.range N.length).map (rootN s N)
set_option maxHeartbeats 1000000 in
theorem k58 {s : Int} {N : List (List Int)} {p : List Int} (h : OkN s N) : E.Fn Tryz.prog 58 [benchC s N p] [ints (rootsN s N)] := by
 refine fn_of_row qqW ?_;have hn4 := h.n4;have hkt : ∀ i : Nat, E.Fn Tryz.prog 99 [benchC s N p, ints (nats (wout N.length [(i : Int)]))] [intss (tabT s (tn N) (wout N.length [(i : Int)]))] := fun i => ktab h (fun _ => qe0) (Nat.le_trans qcU hn4)
 have hkd : ∀ i : Nat, E.Fn Tryz.prog 98 [intss (tabT s (tn N) (wout N.length [(i : Int)]))] [.int .i64 (rootN s N i)] := fun i => kdet h (Nat.le_trans qcU hn4)
 have hkw : ∀ i : Nat, E.Fn Tryz.prog 88 [benchC s N p, ints [(i : Int)]] [ints (nats (wout N.length [(i : Int)]))] := fun i => k88 (by omega)
 simp only [FRow.start, f58, c58r0, c58r1, c58r2, benchC, bnV, intss, go_sem, Nat.reduceAdd, Nat.reduceSub, Nat.reduceLeDiff];intro _
 refine qe (fun m τ => ∃ i : Nat, m = N.length - i /\ i <= N.length /\
  τ = ⟨((.s (benchC s N p))::aN::aN::(.sl 0 0 i 1 false)::aN::aN::aN::aN::aN::aN::(aI N.length)::(aI i)::aN::aN::aN::aN::aN::aN::aZ8), [.row (((List.range i).map (rootN s N)).map (.int .i64))]⟩) N.length (qY rfl) ?_ ?_
 ·simp only [c58l7m, go_sem, ↓reduceIte, reduceCtorEq, Nat.reduceLeDiff]
  exact ⟨0, rfl, Nat.zero_le _, rfl⟩
 ·rintro I m τ ⟨i, rfl, hi, rfl⟩ hI
  simp only [c58l7, c58r3, go_sem, ↓reduceIte];refine ⟨fun hlt => ?_, fun hge => ?_⟩
  ·have hlt : i < N.length := by omega
   simp only [c58r4, c58r5, go_sem, Nat.reduceMul];refine ⟨by decide, by decide, rfl, qr, ?_⟩
   refine qa (by simp only [ints, List.map_cons, List.map_nil, go_sem]) (hkw i) (.inr (.inl (by simp only [ints, List.map_cons, List.map_nil, go_sem]))) ?_
   simp only [go_sem];refine qa (by simp only [go_sem]) (hkt i) (.inr (.inl (by simp only [go_sem]))) ?_
   simp only [go_sem];refine qa (by simp only [go_sem]) (hkd i) (.inl rfl) ?_
   simp only [Nat.reduceBEq, go_sem, ↓reduceIte, Nat.reduceAdd, Nat.reduceMul];refine ⟨by decide, by decide, rfl, qr, qr, by rw [Nat.mul_one, List.length_range], by omega, by omega, ?_⟩
   have e3 : ((List.range i).map (rootN s N)).map (SV.int .i64) ++ flatE [SV.int .i64 (rootN s N i)] = ((List.range (i + 1)).map (rootN s N)).map (.int .i64) := by
    rw [List.range_succ, List.map_append, List.map_append]; rfl
   simp only [e3, c58r6, c58l7m, go_sem, ↓reduceIte, reduceCtorEq, Nat.reduceLeDiff];exact ⟨qb (by omega) (by omega), hI (N.length - (i + 1)) _ (by omega) ⟨i + 1, rfl, by omega, by rw [List.range_succ]; rfl⟩⟩
  ·have hie : i = N.length := by omega
   subst hie
   have hsl : sliceOf 0 N.length 1 (((List.range N.length).map (rootN s N)).map (SV.int .i64)) = some (ints (rootsN s N)) := by
    have := qaM (l := rootsN s N);rw [show (rootsN s N).length = N.length by simp [rootsN]] at this
    exact this
   simp only [c58r8, hsl, go_sem]
   done
def repC (t : List (List Int)) (k : Nat) (col : List Int) : List (List Int) := (List.range t.length).map fun i => (t[i]?.getD []).set k (col[i]?.getD 0)
def solK (s : Int) (N : List (List Int)) (st : List Nat) (col : List Int) (k : Nat) : Int := detT st.length (repC (tabT s (tn N) st) k col)
def solL (s : Int) (N : List (List Int)) (st : List Nat) (col : List Int) : List Int := (List.range st.length).map (solK s N st col)
theorem qkq {s : Int} {N : List (List Int)} (h : OkN s N) {st : List Nat} {k : Nat} {col : List Int} {C : Nat} (hk : k < st.length) (hc : ∀ x ∈ col, x.natAbs <= C) : Tb st.length (repC (tabT s (tn N) st) k col) ((List.replicate st.length 20).set k C) := by
 have hb := qdB h (st := st)
 have hget : ∀ i < st.length, ∃ r, (tabT s (tn N) st)[i]? = some r /\ r ∈ tabT s (tn N) st := fun i hi => by
  refine ⟨_, List.getElem?_eq_getElem (by rw [hb.len]; exact hi), List.getElem_mem _⟩
 refine ⟨by simp [repC, tabT], fun r hr => ?_, by simp, fun r hr j x c hx hcc => ?_⟩
 ·obtain ⟨i, hi, rfl⟩ := List.mem_map.1 hr
  rw [List.mem_range, hb.len] at hi;obtain ⟨r0, h1, h2⟩ := hget i hi;rw [h1, List.length_set];exact hb.row r0 h2
 ·obtain ⟨i, hi, rfl⟩ := List.mem_map.1 hr
  rw [List.mem_range, hb.len] at hi;obtain ⟨r0, h1, h2⟩ := hget i hi;simp only [h1, Option.getD_some] at hx;rw [List.getElem?_set] at hx hcc
  by_cases hj : k = j
  ·rw [if_pos hj, if_pos (by have := hb.row r0 h2; omega)] at hx
   rw [if_pos hj, if_pos (by simpa using hk)] at hcc
   cases hx; cases hcc
   cases hcx : col[i]? with
   | none => simp
   | some y => simp only [Option.getD_some]; exact hc y (List.mem_of_getElem? hcx)
  ·rw [if_neg hj] at hx hcc
   exact hb.bd r0 h2 j x c hx hcc
theorem qgL : ∀ {cs : List Nat} {k C : Nat}, (∀ c ∈ cs, 1 <= c) -> prodN (cs.set k C) <= (max C 1) * prodN cs
 | [], k, C, _ => by simp [prodN]; omega
 | c :: cs, 0, C, h => by
  rw [List.set_cons_zero, prodN, prodN];have h1 : 1 <= c := h c (by simp)
  exact Nat.le_trans (Nat.mul_le_mul_right _ (Nat.le_max_left C 1)) (Nat.mul_le_mul_left _ (Nat.le_mul_of_pos_left _ h1))
 | c :: cs, k + 1, C, h => by
  rw [List.set_cons_succ, prodN, prodN];have ih := qgL (cs := cs) (k := k) (C := C) (fun d hd => h d (by simp [hd]))
  rw [Nat.mul_left_comm];exact Nat.mul_le_mul_left _ ih
theorem qkr {m C k : Nat} (h : m <= 4) (h1 : 1 <= C) : fact m * prodN ((List.replicate m 20).set k C) <= C * 2 ^ 22 := by
 have h2 := qgL (cs := List.replicate m 20) (k := k) (C := C) (fun c hc => by have := List.eq_of_mem_replicate hc; omega)
 rw [Nat.max_eq_left h1] at h2;refine Nat.le_trans (Nat.mul_le_mul_left _ h2) ?_;rw [Nat.mul_left_comm];exact Nat.mul_le_mul_left _ (qgK h)
theorem qoH {s : Int} {N : List (List Int)} (h : OkN s N) {st : List Nat} {k C : Nat} {col : List Int} (hl : st.length <= 4) (hk : k < st.length) (h1 : 1 <= C) (hc : ∀ x ∈ col, x.natAbs <= C) : (solK s N st col k).natAbs <= C * 2 ^ 22 :=
 Nat.le_trans (qdA (qkq h hk hc)) (qkr hl h1)
set_option maxHeartbeats 2000000 in
theorem k92 {s : Int} {N : List (List Int)} {p : List Int} (h : OkN s N) {st : List Nat} {col : List Int} (hst : ∀ i ∈ st, i < N.length) (hl : st.length <= 4) (hcl : col.length = st.length) (hc : ∀ x ∈ col, x.natAbs <= 2 ^ 38) :
  E.Fn Tryz.prog 92 [benchC s N p, ints (nats st), ints col] [ints (solL s N st col), .int .i64 (detS s N st)] := by
 refine fn_of_row qrn ?_;have hkt := ktab (p := p) h hst hl;have hkd := kdet h hl
 have hks : ∀ k < st.length, E.Fn Tryz.prog 98 [intss (repC (tabT s (tn N) st) k col)] [.int .i64 (solK s N st col k)] := fun k hk =>
  k98 st.length _ _ (qkq h hk hc) (fun c hc => by
   rcases List.mem_or_eq_of_mem_set hc with hc | rfl
   ·have := List.eq_of_mem_replicate hc; omega
   ·decide) (Nat.le_trans (qkr hl (by decide)) (by decide)) (by omega)
 have htl : (tabT s (tn N) st).length = st.length := (qdB h).len;have htr : ∀ r ∈ tabT s (tn N) st, r.length = st.length := (qdB h).row;simp only [FRow.start, f92, c92r0, c92r1, go_sem, Nat.reduceAdd, Nat.reduceSub];refine qa (by simp only [go_sem]) hkt (.inr (.inl (by simp only [go_sem]))) ?_
 rw [show (detS s N st) = detS s N st from rfl];generalize ht : tabT s (tn N) st = t at *;have hnl : (nats st).length = st.length := by simp [nats]
 simp only [c92r2, c92r3, ints, hnl, go_sem];intro _
 refine qe (fun m τ => ∃ k : Nat, m = st.length - k /\ k <= st.length /\
  τ = ⟨(aN::aN::(.s (ints col))::aN::aN::aN::aN::aN::(.s (intss t))::(.sl 0 0 k 1 false)::aN::aN::aN::aN::aN::aN::aN::aN::aN::(aI st.length)::(aI k)::aZ32), [.row (((List.range k).map (solK s N st col)).map (.int .i64))]⟩) st.length (qY rfl) ?_ ?_
 ·simp only [c92l17m, go_sem, ↓reduceIte, reduceCtorEq, Nat.reduceLeDiff]
  exact ⟨0, rfl, Nat.zero_le _, rfl⟩
 ·rintro I m τ ⟨k, rfl, hk, rfl⟩ hI
  simp only [c92l17, c92r4, go_sem, ↓reduceIte];refine ⟨fun hlt => ?_, fun hge => ?_⟩
  ·have hlt : k < st.length := by omega
   simp only [c92r5, c92r6, c92r7, intss, go_sem];intro _;have hrep : repC t k col = (List.range t.length).map fun i => (t[i]?.getD []).set k (col[i]?.getD 0) := rfl
   refine qe (fun m τ => ∃ j : Nat, m = t.length - j /\ j <= t.length /\
    τ = ⟨(aN::aN::(.s (ints col))::aN::aN::aN::aN::aN::(.s (intss t))::(.sl 0 0 k 1 false)::(aI k)::(.sl 1 0 j 1 false)::aN::aN::aN::aN::aN::aN::aN::(aI st.length)::(aI k)::aN::aN::(.s (intss t))::(aI t.length)::(aI j)::aN::aN::aN::aZ24), [.row (((List.range k).map (solK s N st col)).map (.int .i64)), .row (((List.range j).map fun i => (t[i]?.getD []).set k (col[i]?.getD 0)).map ints)]⟩) t.length (qY rfl) ?_ ?_
   ·simp only [c92l14m, go_sem, ↓reduceIte, reduceCtorEq, Nat.reduceAdd, Nat.reduceLeDiff]
    exact ⟨0, rfl, Nat.zero_le _, rfl⟩
   ·rintro I2 m τ ⟨j, rfl, hj, rfl⟩ hI2
    simp only [c92l14, c92r8, go_sem, ↓reduceIte, Nat.reduceAdd];refine ⟨fun hlt2 => ?_, fun hge => ?_⟩
    ·have hlt2 : j < t.length := by omega
     obtain ⟨l, hy⟩ : ∃ l, t[j]? = some l := ⟨_, List.getElem?_eq_getElem hlt2⟩;have hyl := htr _ (List.mem_of_getElem? hy);obtain ⟨z, hz⟩ : ∃ z, col[j]? = some z := ⟨_, List.getElem?_eq_getElem (by omega)⟩
     have hne2 : ¬ l.map (SV.int .i64) = [] := fun e => by have := congrArg List.length e; rw [List.length_map, List.length_nil] at this; omega
     simp only [c92r9, intss, hy, c92r10, ints, go_sem, Nat.reduceAdd];refine .inr ⟨_, _, k101 (xs := l) (by omega), .inl ⟨rfl, rfl⟩, by decide, qaN, rfl, ?_⟩
     rw [if_neg hne2];have hs1 := spl_row (R := l) (i := k) (x := z) (by omega)
     have hlj : (List.range j).length = j := List.length_range
     have e3 : ((List.range j).map fun i => (t[i]?.getD []).set k (col[i]?.getD 0)).map ints ++ flatE [SV.slice ((l.set k z).map (.int .i64))] = ((List.range (j + 1)).map fun i => (t[i]?.getD []).set k (col[i]?.getD 0)).map ints := by
      rw [List.range_succ, List.map_append, List.map_append, List.map_cons, hy, hz]; rfl
     have hrt : rowOf 0 l.length 1 ((l.set k z).map (SV.int .i64)) = some ((l.set k z).map (.int .i64)) := by
      rw [qT (by simp), List.take_of_length_le (by simp)]
     simp only [qF, c92r11, Nat.mul_one, hz, hs1, c92r12, go_sem, Nat.reduceAdd, Nat.reduceLeDiff];refine ⟨by omega, by omega, ?_⟩
     refine ⟨_, hrt, ?_⟩;simp only [Nat.reduceBEq, Bool.false_eq_true, go_sem, ↓reduceIte];refine ⟨by decide, by decide, rfl, qaU rfl, qaU rfl, by omega, by omega, by omega, ?_⟩
     simp only [e3, c92r13, c92l14m, go_sem, ↓reduceIte, reduceCtorEq, Nat.reduceLeDiff];exact ⟨qb (by omega) (by omega), hI2 (t.length - (j + 1)) _ (by omega) ⟨j + 1, rfl, by omega, by rw [List.range_succ]; rfl⟩⟩
    ·have hje : j = t.length := by omega
     subst hje;rw [<- hrep]
     have hsl : sliceOf 0 t.length 1 ((repC t k col).map ints) = some (intss (repC t k col)) := by
      have := qaC (l := repC t k col);rw [show (repC t k col).length = t.length by simp [repC]] at this
      exact this
     simp only [c92r15, go_sem];refine qa (by simp only [hsl, go_sem]) (hks k hlt) (.inl rfl) ?_
     simp only [Nat.reduceBEq, Bool.false_eq_true, go_sem, ↓reduceIte, Nat.reduceAdd, Nat.reduceMul];refine ⟨by decide, by decide, rfl, qr, qr, by rw [Nat.mul_one, List.length_range], by omega, by omega, ?_⟩
     have e3 : ((List.range k).map (solK s N st col)).map (SV.int .i64) ++ flatE [SV.int .i64 (solK s N st col k)] = ((List.range (k + 1)).map (solK s N st col)).map (.int .i64) := by
      rw [List.range_succ, List.map_append, List.map_append]; rfl
     simp only [e3, c92r16, c92l17m, go_sem, ↓reduceIte, reduceCtorEq, Nat.reduceLeDiff];exact ⟨qb (by omega) (by omega), hI (st.length - (k + 1)) _ (by omega) ⟨k + 1, rfl, by omega, by rw [List.range_succ]; rfl⟩⟩
  ·have hke : k = st.length := by omega
   subst hke
   have hsl : sliceOf 0 st.length 1 (((List.range st.length).map (solK s N st col)).map (SV.int .i64)) = some (ints (solL s N st col)) := by
    have := qaM (l := solL s N st col);rw [show (solL s N st col).length = st.length by simp [solL]] at this
    exact this
   simp only [c92r18, go_sem];refine qa (by simp only [go_sem]) hkd (.inl rfl) ?_
   simp only [hsl, go_sem];rfl
end Go.Proofs.YtikfhfgdmlijeaaGreat.Sk
namespace Go.Proofs.YtikfhfgdmlijeaaGreat.Sk
inductive PE where
 | v (i : Nat)
 | c (z : Int)
 | add (a b : PE)
 | mul (a b : PE)
 | neg (a : PE)
namespace PE
def ev (r : Nat -> Int) : PE -> Int
 | v i => r i
 | c z => z
 | add a b => ev r a + ev r b
 | mul a b => ev r a * ev r b
 | neg a => - ev r a
def mev (r : Nat -> Int) : List Nat -> Int
 | [] => 1
 | i :: m => r i * mev r m
def pev (r : Nat -> Int) : List (List Nat × Int) -> Int
 | [] => 0
 | (m, z) :: p => z * mev r m + pev r p
def ins (i : Nat) : List Nat -> List Nat
 | [] => [i]
 | j :: m => if Nat.ble i j then i :: j :: m else j :: ins i m
def beqM : List Nat -> List Nat -> Bool
 | [], [] => true
 | i :: m, j :: k => Nat.beq i j && beqM m k
 | _, _ => false
def ltM : List Nat -> List Nat -> Bool
 | [], [] => false
 | [], _ :: _ => true
 | _ :: _, [] => false
 | i :: m, j :: k => if Nat.beq i j then ltM m k else Nat.blt i j
def addM (m : List Nat) (z : Int) : List (List Nat × Int) -> List (List Nat × Int)
 | [] => [(m, z)]
 | (k, y) :: p => if beqM m k then (if z + y = 0 then p else (k, z + y) :: p) else if ltM m k then (m, z) :: (k, y) :: p else (k, y) :: addM m z p
def addP (p q : List (List Nat × Int)) : List (List Nat × Int) := p.foldr (fun x q => addM x.1 x.2 q) q
def mulM (m : List Nat) (z : Int) (q : List (List Nat × Int)) : List (List Nat × Int) := q.map fun x => (m.foldr ins x.1, z * x.2)
def mulP (p q : List (List Nat × Int)) : List (List Nat × Int) := p.foldr (fun x acc => addP (mulM x.1 x.2 q) acc) []
def norm : PE -> List (List Nat × Int)
 | v i => [([i], 1)]
 | c z => if z = 0 then [] else [([], z)]
 | add a b => addP (norm a) (norm b)
 | mul a b => mulP (norm a) (norm b)
 | neg a => mulM [] (-1) (norm a)
variable {r : Nat -> Int}
theorem qks {i : Nat} : ∀ {m : List Nat}, mev r (ins i m) = r i * mev r m
 | [] => rfl
 | j :: m => by
  rw [ins]
  split
  ·rfl
  ·rw [mev, qks, mev]; grind
theorem qhW : ∀ {m k : List Nat}, beqM m k = true -> m = k
 | [], [], _ => rfl
 | [], _ :: _, h => by cases h
 | _ :: _, [], h => by cases h
 | i :: m, j :: k, h => by
  rw [beqM, Bool.and_eq_true] at h;rw [Nat.eq_of_beq_eq_true h.1, qhW h.2]
theorem qhX {m : List Nat} {z : Int} : ∀ {p : List (List Nat × Int)}, pev r (addM m z p) = z * mev r m + pev r p
 | [] => rfl
 | (k, y) :: p => by
  rw [addM]
  split
  ·rename_i h
   have := qhW h;subst this
   split
   ·rename_i h0
    rw [pev];have : z * mev r m + y * mev r m = 0 := by rw [<- Int.add_mul, h0, Int.zero_mul]
    omega
   ·rw [pev, pev, Int.add_mul, Int.add_assoc]
  ·split
   ·rfl
   ·rw [pev, pev, qhX]; omega
theorem qe1 {q : List (List Nat × Int)} : ∀ {p : List (List Nat × Int)}, pev r (addP p q) = pev r p + pev r q
 | [] => by simp [addP, pev]
 | (m, z) :: p => by
  have := qe1 (q := q) (p := p);unfold addP at *;rw [List.foldr_cons, qhX, this, pev, Int.add_assoc]
theorem qhY {k : List Nat} : ∀ {m : List Nat}, mev r (m.foldr ins k) = mev r m * mev r k
 | [] => by simp [mev]
 | i :: m => by rw [List.foldr_cons, qks, qhY, mev, Int.mul_assoc]
theorem qe2 {m : List Nat} {z : Int} : ∀ {q : List (List Nat × Int)}, pev r (mulM m z q) = z * mev r m * pev r q
 | [] => by simp [mulM, pev]
 | (k, y) :: q => by
  have := qe2 (m := m) (z := z) (q := q);unfold mulM at *;rw [List.map_cons, pev, this, pev, qhY]; grind
theorem qhZ {q : List (List Nat × Int)} : ∀ {p : List (List Nat × Int)}, pev r (mulP p q) = pev r p * pev r q
 | [] => by simp [mulP, pev]
 | (m, z) :: p => by
  have := qhZ (q := q) (p := p);unfold mulP at *;rw [List.foldr_cons, qe1, qe2, this, pev, Int.add_mul]
theorem qbj : ∀ {e : PE}, pev r (norm e) = ev r e
 | v i => by simp [norm, pev, mev, ev]
 | c z => by
  rw [norm, ev]
  split
  ·rename_i h; rw [h]; rfl
  ·simp [pev, mev]
 | add a b => by rw [norm, qe1, qbj, qbj, ev]
 | mul a b => by rw [norm, qhZ, qbj, qbj, ev]
 | neg a => by rw [norm, qe2, qbj, ev, mev]; omega
def same (a b : PE) : Bool := (norm (add a (neg b))).isEmpty
theorem same_eq {a b : PE} (h : same a b = true) : ev r a = ev r b := by
 have h1 : pev r (norm (add a (neg b))) = 0 := by rw [List.isEmpty_iff.1 h]; rfl
 rw [qbj, ev, ev] at h1;omega
def sub (a b : PE) : PE := add a (neg b)
def sum : List PE -> PE
 | [] => c 0
 | e :: l => add e (sum l)
def prod : List PE -> PE
 | [] => c 1
 | e :: l => mul e (prod l)
theorem ev_sub {a b : PE} : ev r (sub a b) = ev r a - ev r b := by rw [sub, ev, ev]; omega
theorem ev_sum : ∀ {l : List PE}, ev r (sum l) = (l.map (ev r)).sum
 | [] => rfl
 | e :: l => by rw [sum, ev, ev_sum, List.map_cons, List.sum_cons]
theorem ev_prod : ∀ {l : List PE}, ev r (prod l) = (l.map (ev r)).foldr (· * ·) 1
 | [] => rfl
 | e :: l => by rw [prod, ev, ev_prod, List.map_cons, List.foldr_cons]
def alt (f : Nat -> PE) : List PE -> Nat -> Int -> PE
 | [], _, _ => c 0
 | x :: l, k, sg => add (mul (mul (c sg) x) (f k)) (alt f l (k + 1) (-sg))
def det : Nat -> List (List PE) -> PE
 | 0, _ => c 1
 | _ + 1, [] => c 1
 | n + 1, l :: t => alt (fun k => det n (t.map (·.eraseIdx k))) l 0 1
theorem qkt {f : Nat -> PE} : ∀ {l : List PE} {k : Nat} {sg : Int}, ev r (alt f l k sg) = altS (fun k => ev r (f k)) (l.map (ev r)) k sg
 | [], _, _ => rfl
 | x :: l, k, sg => by rw [alt, ev, ev, ev, ev, qkt, List.map_cons, altS]
theorem ev_det : ∀ {n : Nat} {t : List (List PE)}, ev r (det n t) = detT n (t.map (·.map (ev r)))
 | 0, _ => rfl
 | _ + 1, [] => rfl
 | n + 1, l :: t => by
  rw [det, qkt, List.map_cons, detT];refine congrArg (fun f => altS f (l.map (ev r)) 0 1) (funext fun k => ?_)
  rw [ev_det, List.map_map, List.map_map];refine congrArg _ (List.map_congr_left fun x _ => ?_)
  simp only [Function.comp_apply];rw [qdz]
end PE
structure OkS (s : Int) (N : List (List Int)) : Prop extends OkN s N where
  sum : ∀ l ∈ N, l.sum = s
theorem qf6 {l : List Int} : (List.range l.length).map (fun k => l[k]?.getD 0) = l := by
 apply List.ext_getElem?
 intro k;rw [List.getElem?_map]
 by_cases h : k < l.length
 ·rw [List.getElem?_range h, Option.map_some, List.getElem?_eq_getElem h]; rfl
 ·rw [List.getElem?_eq_none (by simpa using h), List.getElem?_eq_none (by omega)]; rfl
theorem OkS.row {s : Int} {N : List (List Int)} (h : OkS s N) {i : Nat} (hi : i < N.length) : ((List.range N.length).map (tn N i)).sum = s := by
 have hx : N[i]? = some N[i] := List.getElem?_eq_getElem hi;have hl := h.sq _ (List.getElem_mem hi);have hs := h.sum _ (List.getElem_mem hi)
 have : (List.range N.length).map (tn N i) = N[i] := by
  rw [<- hl];refine Eq.trans (List.map_congr_left fun k _ => ?_) qf6
  unfold tn; rw [hx]; rfl
 rw [this, hs]
def rho (s : Int) (N : List (List Int)) (x : Nat -> Int) (j : Nat) : Int := if j < 16 then tn N (j / 4) (j % 4) else if j = 16 then s else x (j - 17)
open PE in
def eP (n i k : Nat) : PE := if Nat.beq i k then sub (.v 16) (sum (((List.range n).filter fun j => !Nat.beq i j).map fun j => .v (4 * i + j))) else .v (4 * i + k)
theorem qeJ {f : Nat -> Int} {i : Nat} : ∀ {n : Nat}, i < n -> ((List.range n).map f).sum = f i + (((List.range n).filter fun j => !Nat.beq i j).map f).sum
 | 0, h => absurd h (Nat.not_lt_zero _)
 | n + 1, h => by
  rw [List.range_succ, List.map_append, List.sum_append, List.filter_append, List.map_append, List.sum_append]
  by_cases e : i = n
  ·subst e
   have h0 : (List.range i).filter (fun j => !Nat.beq i j) = List.range i := List.filter_eq_self.2 fun a ha => by
    have : Nat.beq i a = false := by
     rw [List.mem_range] at ha
     cases hb : Nat.beq i a with
     | false => rfl
     | true => exact absurd (Nat.eq_of_beq_eq_true hb) (by omega)
    rw [this]; rfl
   rw [h0, List.filter_cons_of_neg (by simp)]
   simp only [List.map_cons, List.map_nil, List.sum_cons, List.sum_nil, List.filter_nil];omega
  ·rw [qeJ (by omega : i < n), List.filter_cons_of_pos (by
    cases hb : Nat.beq i n with
    | false => rfl
    | true => exact absurd (Nat.eq_of_beq_eq_true hb) e)]
   simp only [List.filter_nil, List.map_cons, List.map_nil];omega
section
variable {s : Int} {N : List (List Int)} {x : Nat -> Int}
theorem qiU (i k : Nat) (hi : i < 4) (hk : k < 4) : rho s N x (4 * i + k) = tn N i k := by
 unfold rho;rw [if_pos (by omega), show (4 * i + k) / 4 = i by omega, show (4 * i + k) % 4 = k by omega]
theorem qmj : rho s N x 16 = s := by unfold rho; rw [if_neg (by decide), if_pos rfl]
theorem qmk (j : Nat) : rho s N x (17 + j) = x j := by unfold rho; rw [if_neg (by omega), if_neg (by omega), show 17 + j - 17 = j by omega]
theorem qiV (h : OkS s N) {i k : Nat} (hi : i < N.length) (hk : k < N.length) : (eP N.length i k).ev (rho s N x) = tn N i k := by
 have h4 := h.n4;unfold eP
 split
 ·rename_i e
  have e := Nat.eq_of_beq_eq_true e;subst e;rw [PE.ev_sub, PE.ev, qmj, PE.ev_sum, List.map_map];have h1 := h.row hi;rw [qeJ hi] at h1
  have h2 : ((List.range N.length).filter fun j => !Nat.beq i j).map (PE.ev (rho s N x) ∘ fun j => .v (4 * i + j)) = ((List.range N.length).filter fun j => !Nat.beq i j).map (tn N i) := by
   refine List.map_congr_left fun j hj => ?_
   have := List.mem_range.1 (List.mem_filter.1 hj).1;exact qiU i j (by omega) (by omega)
  rw [h2];omega
 ·exact qiU i k (by omega) (by omega)
open PE in
def tabP (n : Nat) (st : List Nat) : List (List PE) := st.map fun i => st.map fun k => sub (if Nat.beq i k then .v 16 else .c 0) (eP n i k)
theorem qnm (h : OkS s N) {i k : Nat} (hi : i < N.length) (hk : k < N.length) : (PE.sub (if Nat.beq i k then .v 16 else .c 0) (eP N.length i k)).ev (rho s N x) = tabF s (tn N) i k := by
 rw [PE.ev_sub, qiV h hi hk];unfold tabF
 by_cases e : i = k
 ·subst e
  rw [if_pos (Nat.beq_refl i), if_pos rfl, PE.ev, qmj]
 ·rw [if_neg (fun hb => e (Nat.eq_of_beq_eq_true hb)), if_neg e]; rfl
theorem qh0 (h : OkS s N) {st : List Nat} (hst : ∀ i ∈ st, i < N.length) : (tabP N.length st).map (·.map (PE.ev (rho s N x))) = tabT s (tn N) st := by
 unfold tabP tabT tabR;rw [List.map_map];refine List.map_congr_left fun i hi => ?_
 simp only [Function.comp_apply];rw [List.map_map];exact List.map_congr_left fun k hk => qnm h (hst i hi) (hst k hk)
theorem qh1 (h : OkS s N) {st : List Nat} (hst : ∀ i ∈ st, i < N.length) : (PE.det st.length (tabP N.length st)).ev (rho s N x) = detS s N st := by
 rw [PE.ev_det, qh0 h hst]; rfl
end
def stO (n i : Nat) : List Nat := (List.range n).filter fun j => !Nat.beq i j
theorem qet {n i : Nat} : wout n [(i : Int)] = stO n i := by
 unfold wout stO;refine List.filter_congr fun j _ => ?_
 by_cases e : i = j
 ·subst e; simp
 ·have e1 : Nat.beq i j = false := by
   cases hb : Nat.beq i j with
   | false => rfl
   | true => exact absurd (Nat.eq_of_beq_eq_true hb) e
  have e2 : ¬ (j : Int) = i := by omega
  rw [e1]; simp [e2]
theorem qgM {n i j : Nat} (h : j ∈ stO n i) : j < n := List.mem_range.1 (List.mem_filter.1 h).1
def rootP (n i : Nat) : PE := PE.det (stO n i).length (tabP n (stO n i))
section
variable {s : Int} {N : List (List Int)} {x : Nat -> Int}
theorem qbS (h : OkS s N) {i : Nat} : (rootP N.length i).ev (rho s N x) = rootN s N i := by
 unfold rootP rootN;rw [qet, qh1 h fun _ => qgM]
theorem four {p : Nat -> Bool} (h : [1, 2, 3, 4].all p = true) {n : Nat} (h1 : 1 <= n) (h4 : n <= 4) : p n = true := by
 simp only [List.all_cons, List.all_nil, Bool.and_true, Bool.and_eq_true] at h
 match n, h1, h4 with
 | 1, _, _ => exact h.1
 | 2, _, _ => exact h.2.1
 | 3, _, _ => exact h.2.2.1
 | 4, _, _ => exact h.2.2.2
theorem qac {p : Nat -> Bool} {n : Nat} (h : (List.range n).all p = true) {k : Nat} (hk : k < n) : p k = true := List.all_eq_true.1 h k (List.mem_range.2 hk)
end
def chN (n num i : Nat) : Nat := num / n ^ i % n
def endK (to : Nat -> Nat) (stops : Nat) : Nat -> Nat -> Option Nat
 | 0, _ => none
 | m + 1, a => if stops.testBit a then some a else endK to stops m (to a)
def okW (n stops num : Nat) : Bool := (List.range n).all fun i => if stops.testBit i then Nat.beq (chN n num i) 0 else (endK (chN n num) stops (n + 1) i).isSome
def prW (a : Nat -> Nat -> Int) (n stops num : Nat) : Int := ((List.range n).map fun i => if stops.testBit i then 1 else a i (chN n num i)).foldr (· * ·) 1
def leadsTo (n f stops e num : Nat) : Bool := okW n stops num && (match endK (chN n num) stops (n + 1) f with | some x => Nat.beq x e | none => false)
def wood (a : Nat -> Nat -> Int) (n f stops e : Nat) : Int := (((List.range (n ^ n)).filter (leadsTo n f stops e)).map (prW a n stops)).sum
open PE in
def prP (n stops num : Nat) : PE := prod ((List.range n).map fun i => if stops.testBit i then .c 1 else eP n i (chN n num i))
open PE in
def woodP (n f stops e : Nat) : PE := sum (((List.range (n ^ n)).filter (leadsTo n f stops e)).map (prP n stops))
theorem qbv {n num i : Nat} (h : 1 <= n) : chN n num i < n := Nat.mod_lt _ h
section
variable {s : Int} {N : List (List Int)} {x : Nat -> Int}
theorem qoI (h : OkS s N) {stops num : Nat} : (prP N.length stops num).ev (rho s N x) = prW (tn N) N.length stops num := by
 unfold prP prW;rw [PE.ev_prod, List.map_map];refine congrArg _ (List.map_congr_left fun i hi => ?_)
 rw [List.mem_range] at hi;simp only [Function.comp_apply]
 split
 ·rfl
 ·exact qiV h hi (qbv h.n1)
theorem qeu (h : OkS s N) {f stops e : Nat} : (woodP N.length f stops e).ev (rho s N x) = wood (tn N) N.length f stops e := by
 unfold woodP wood;rw [PE.ev_sum, List.map_map];exact congrArg _ (List.map_congr_left fun num _ => qoI h)
def rwB (n : Nat) : Bool := (List.range n).all fun i => PE.same (rootP n i) (woodP n i (2 ^ i) i)
theorem qoJ : [1, 2, 3, 4].all rwB = true := by decide +kernel
theorem qdC (h : OkS s N) {i : Nat} (hi : i < N.length) : rootN s N i = wood (tn N) N.length i (2 ^ i) i := by
 have h1 := PE.same_eq (r := rho s N fun _ => 0) (qac (four qoJ h.n1 h.n4) hi)
 rwa [qbS h, qeu h] at h1
end
end Go.Proofs.YtikfhfgdmlijeaaGreat.Sk
namespace Go.Proofs.YtikfhfgdmlijeaaGreat.Sk
open PE in
def repP (t : List (List PE)) (k : Nat) (col : List PE) : List (List PE) := (List.range t.length).map fun i => (t[i]?.getD []).set k (col[i]?.getD (.c 0))
theorem qnn {r : Nat -> Int} {t : List (List PE)} {k : Nat} {col : List PE} : (repP t k col).map (·.map (PE.ev r)) = repC (t.map (·.map (PE.ev r))) k (col.map (PE.ev r)) := by
 unfold repP repC;rw [List.map_map, List.length_map];refine List.map_congr_left fun i _ => ?_
 simp only [Function.comp_apply, List.getElem?_map];rw [List.map_set];have e1 : (t[i]?.getD []).map (PE.ev r) = (Option.map (fun x => x.map (PE.ev r)) t[i]?).getD [] := by cases t[i]? <;> rfl
 have e2 : (col[i]?.getD (PE.c 0)).ev r = (Option.map (PE.ev r) col[i]?).getD 0 := by cases col[i]? <;> rfl
 rw [e1, e2]
def opS (n stops : Nat) : List Nat := (List.range n).filter fun i => !stops.testBit i
theorem qgN {n stops i : Nat} (h : i ∈ opS n stops) : i < n := List.mem_range.1 (List.mem_filter.1 h).1
open PE in
def colP (n stops : Nat) : List PE := (opS n stops).map fun i => sum ((List.range n).map fun e => if stops.testBit e then .mul (.v (17 + e)) (eP n i e) else .c 0)
def colW (a : Nat -> Nat -> Int) (x : Nat -> Int) (n stops : Nat) : List Int := (opS n stops).map fun i => ((List.range n).map fun e => if stops.testBit e then x e * a i e else 0).sum
def woodW (a : Nat -> Nat -> Int) (x : Nat -> Int) (n f stops : Nat) : Int := ((List.range n).map fun e => if stops.testBit e then x e * wood a n f stops e else 0).sum
def woodA (a : Nat -> Nat -> Int) (n f stops : Nat) : Int := ((List.range n).map fun e => wood a n f stops e).sum
open PE in
def lanB (n : Nat) : Bool := (List.range (2 ^ n)).all fun stops => (List.range (opS n stops).length).all fun j =>
 let st := opS n stops
 let f := st[j]?.getD 0
 same (det st.length (repP (tabP n st) j (colP n stops))) (sum ((List.range n).map fun e => if stops.testBit e then .mul (.v (17 + e)) (woodP n f stops e) else .c 0)) &&
 same (det st.length (tabP n st)) (sum ((List.range n).map fun e => woodP n f stops e))
theorem qno : [1, 2, 3, 4].all lanB = true := by decide +kernel
section
variable {s : Int} {N : List (List Int)} {x : Nat -> Int}
theorem qml {r : Nat -> Int} {b : Bool} {p q : PE} : (if b then p else q).ev r = if b then p.ev r else q.ev r := by cases b <;> rfl
theorem qnp (h : OkS s N) {stops : Nat} : (colP N.length stops).map (PE.ev (rho s N x)) = colW (tn N) x N.length stops := by
 unfold colP colW;rw [List.map_map];refine List.map_congr_left fun i hi => ?_
 simp only [Function.comp_apply];rw [PE.ev_sum, List.map_map];refine congrArg _ (List.map_congr_left fun e he => ?_)
 simp only [Function.comp_apply];rw [qml, PE.ev, PE.ev, PE.ev, qmk, qiV h (qgN hi) (List.mem_range.1 he)]
theorem qoK (h : OkS s N) {stops j f : Nat} (hst : stops < 2 ^ N.length) (hj : (opS N.length stops)[j]? = some f) :
  solK s N (opS N.length stops) (colW (tn N) x N.length stops) j = woodW (tn N) x N.length f stops /\ detS s N (opS N.length stops) = woodA (tn N) N.length f stops := by
 have h1 := qac (qac (four qno h.n1 h.n4) hst) (List.getElem?_eq_some_iff.1 hj).1;simp only [hj, Option.getD_some, Bool.and_eq_true] at h1;have h2 := PE.same_eq (r := rho s N x) h1.1;have h3 := PE.same_eq (r := rho s N x) h1.2;constructor
 ·rw [PE.ev_det, qnn, qh0 h fun _ => qgN, qnp h, PE.ev_sum, List.map_map] at h2
  unfold solK woodW;rw [h2];refine congrArg _ (List.map_congr_left fun e _ => ?_)
  simp only [Function.comp_apply];rw [qml, PE.ev, PE.ev, PE.ev, qmk, qeu h]
 ·rw [qh1 h fun _ => qgN, PE.ev_sum, List.map_map] at h3
  unfold woodA;rw [h3];refine congrArg _ (List.map_congr_left fun e _ => ?_)
  simp only [Function.comp_apply];rw [qeu h]
end
end Go.Proofs.YtikfhfgdmlijeaaGreat.Sk
namespace Go.Proofs.YtikfhfgdmlijeaaGreat.Sk
def endF (to : Nat -> Nat) (S : Nat -> Bool) : Nat -> Nat -> Option Nat
 | 0, _ => none
 | m + 1, a => if S a then some a else endF to S m (to a)
theorem qgO {to : Nat -> Nat} {stops : Nat} : ∀ {m a : Nat}, endK to stops m a = endF to stops.testBit m a
 | 0, _ => rfl
 | m + 1, a => by rw [endK, endF, qgO]
theorem qfI {to : Nat -> Nat} {S : Nat -> Bool} : ∀ {m a e d : Nat}, endF to S m a = some e -> endF to S (m + d) a = some e
 | 0, _, _, _, h => by cases h
 | m + 1, a, e, d, h => by
  rw [show m + 1 + d = (m + d) + 1 by omega]
  rw [endF] at h ⊢
  split
  ·rename_i hs; rw [if_pos hs] at h; exact h
  ·rename_i hs; rw [if_neg hs] at h; exact qfI h
theorem qfJ {to : Nat -> Nat} {S : Nat -> Bool} : ∀ {m a e : Nat}, endF to S m a = some e -> S e = true
 | 0, _, _, h => by cases h
 | m + 1, a, e, h => by
  rw [endF] at h
  split at h
  ·rename_i hs; cases h; exact hs
  ·exact qfJ h
section
variable {g : Nat -> Nat -> Bool} {n : Nat}
theorem qnq {S : Nat -> Bool} {i e : Nat} (h : Reach g n i e) (hi : i < n) (h0 : S i = false) (h1 : S e = true) : ∃ j k, j < n /\ k < n /\ S j = false /\ S k = true /\ g j k = true := by
 induction h with
 | one hg hk => exact ⟨_, _, hi, hk, h0, h1, hg⟩
 | @more j k hr hg hk ih =>
  cases hS : S j with
  | true => exact ih hS
  | false => exact ⟨j, _, hr.lt, hk, hS, h1, hg⟩
theorem qfK {to : Nat -> Nat} {S : Nat -> Bool} {j k : Nat} (hk : S k = true) : ∀ {f i e : Nat}, endF to (fun x => S x || x == j) f i = some e -> ∃ e', endF (fun x => if x = j then k else to x) S (f + 1) i = some e'
 | 0, _, _, h => by cases h
 | f + 1, i, e, h => by
  rw [endF] at h;rw [endF]
  cases hS : S i with
  | true => exact ⟨i, by simp⟩
  | false =>
   by_cases e1 : i = j
   ·subst e1
    refine ⟨k, ?_⟩;simp only [if_true, Bool.false_eq_true, if_false];rw [endF, hk]; rfl
   ·simp only [hS, Bool.false_or, beq_iff_eq, e1, if_false] at h
    obtain ⟨e', he⟩ := qfK (S := S) hk h;refine ⟨e', ?_⟩;simp only [Bool.false_eq_true, if_false, e1];exact he
theorem qfL : ∀ (m : Nat) (S : Nat -> Bool), ((List.range n).filter fun i => !S i).length <= m -> (∀ i < n, S i = false -> ∃ e, S e = true /\ Reach g n i e) ->
  ∃ to : Nat -> Nat, (∀ i < n, S i = false -> to i < n /\ g i (to i) = true) /\ ∀ i < n, ∃ e, endF to S (m + 1) i = some e
 | 0, S, hm, _ => by
  have hall : ∀ i < n, S i = true := fun i hi => by
   cases hS : S i with
   | true => rfl
   | false =>
    have : i ∈ (List.range n).filter fun i => !S i := List.mem_filter.2 ⟨List.mem_range.2 hi, by rw [hS]; rfl⟩
    have := List.length_pos_of_mem this;omega
  refine ⟨id, fun i hi h => (by rw [hall i hi] at h; cases h), fun i hi => ⟨i, ?_⟩⟩
  rw [endF, if_pos (hall i hi)]
 | m + 1, S, hm, hr => by
  by_cases hall : ∀ i < n, S i = true
  ·refine ⟨id, fun i hi h => (by rw [hall i hi] at h; cases h), fun i hi => ⟨i, ?_⟩⟩
   rw [endF, if_pos (hall i hi)]
  ·obtain ⟨i0, h0⟩ := Classical.not_forall.1 hall
   obtain ⟨hi0, h0⟩ := Classical.not_imp.1 h0;have h0 : S i0 = false := by simpa using h0
   obtain ⟨e, he, hre⟩ := hr i0 hi0 h0;obtain ⟨j, k, hj, hk, hSj, hSk, hg⟩ := qnq hre hi0 h0 he
   have hlen : ((List.range n).filter fun i => !(S i || i == j)).length < ((List.range n).filter fun i => !S i).length := by
    have : ((List.range n).filter fun i => !(S i || i == j)) = ((List.range n).filter fun i => !S i).filter fun i => !(i == j) := by
     rw [List.filter_filter];refine List.filter_congr fun x _ => ?_
     cases S x <;> cases (x == j) <;> rfl
    rw [this];refine List.length_filter_lt_length_iff_exists.2 ⟨j, List.mem_filter.2 ⟨List.mem_range.2 hj, by rw [hSj]; rfl⟩, by simp⟩
   obtain ⟨to, h1, h2⟩ := qfL m (fun x => S x || x == j) (by omega) (fun i hi h => by
    simp only [Bool.or_eq_false_iff] at h;obtain ⟨e, he, hre⟩ := hr i hi h.1;exact ⟨e, by rw [he]; rfl, hre⟩)
   refine ⟨fun x => if x = j then k else to x, fun i hi h => ?_, fun i hi => ?_⟩
   ·by_cases e1 : i = j
    ·subst e1; simp only [if_true]; exact ⟨hk, hg⟩
    ·simp only [e1, if_false]
     exact h1 i hi (by simp [h, e1])
   ·obtain ⟨e, he⟩ := h2 i hi
    exact qfK hSk he
end
def encN (n : Nat) : Nat -> (Nat -> Nat) -> Nat
 | 0, _ => 0
 | m + 1, d => d 0 + n * encN n m fun i => d (i + 1)
theorem qh2 {n : Nat} : ∀ {m : Nat} {d : Nat -> Nat}, (∀ i < m, d i < n) -> encN n m d < n ^ m
 | 0, _, _ => by simp [encN]
 | m + 1, d, h => by
  have ih := qh2 (m := m) (d := fun i => d (i + 1)) fun i hi => h (i + 1) (by omega)
  have h0 := h 0 (by omega)
  rw [encN, Nat.pow_succ, Nat.mul_comm _ n]
  have : n * (encN n m fun i => d (i + 1)) + n <= n * n ^ m := by
   rw [<- Nat.mul_succ]; exact Nat.mul_le_mul_left _ ih
  omega
theorem qh3 {n : Nat} (hn : 1 <= n) : ∀ {m : Nat} {d : Nat -> Nat} {i : Nat}, (∀ i < m, d i < n) -> i < m -> chN n (encN n m d) i = d i
 | 0, _, _, _, h => absurd h (Nat.not_lt_zero _)
 | m + 1, d, 0, h, _ => by
  have h0 := h 0 (by omega)
  rw [chN, encN, Nat.pow_zero, Nat.div_one, Nat.add_mul_mod_self_left, Nat.mod_eq_of_lt h0]
 | m + 1, d, i + 1, h, hi => by
  have h0 := h 0 (by omega)
  have ih := qh3 hn (m := m) (d := fun i => d (i + 1)) (i := i) (fun i hi => h (i + 1) (by omega)) (by omega)
  rw [chN] at ih ⊢;rw [encN, Nat.pow_succ, Nat.mul_comm _ n, <- Nat.div_div_eq_div_mul, Nat.add_mul_div_left _ _ (by omega), Nat.div_eq_of_lt h0, Nat.zero_add]
  exact ih
theorem qC {l : List Int} (h : ∀ x ∈ l, 0 <= x) : 0 <= l.sum := by
 induction l with
 | nil => exact Int.le_refl _
 | cons x l ih =>
  have h1 := h x (by simp)
  have h2 := ih fun y hy => h y (by simp [hy])
  rw [List.sum_cons]; omega
theorem qcr {l : List Int} (h : ∀ x ∈ l, 0 <= x) {x : Int} (hx : x ∈ l) : x <= l.sum := by
 induction l with
 | nil => cases hx
 | cons y l ih =>
  have h1 := h y (by simp)
  have h2 := qC (l := l) fun y hy => h y (by simp [hy])
  rw [List.sum_cons]
  rcases List.mem_cons.1 hx with rfl | hx
  ·omega
  ·have := ih (fun y hy => h y (by simp [hy])) hx
   omega
theorem qe3 {l : List Int} (h : 0 < l.sum) : ∃ x ∈ l, 0 < x := by
 induction l with
 | nil => simp at h
 | cons x l ih =>
  rw [List.sum_cons] at h
  by_cases hx : 0 < x
  ·exact ⟨x, by simp, hx⟩
  ·obtain ⟨y, hy, h0⟩ := ih (by omega)
   exact ⟨y, by simp [hy], h0⟩
theorem qhF {l : List Int} (h : ∀ x ∈ l, 0 <= x) : 0 <= l.foldr (· * ·) 1 := by
 induction l with
 | nil => decide
 | cons x l ih =>
  rw [List.foldr_cons];exact Int.mul_nonneg (h x (by simp)) (ih fun y hy => h y (by simp [hy]))
theorem qku {l : List Int} (h : ∀ x ∈ l, 0 < x) : 0 < l.foldr (· * ·) 1 := by
 induction l with
 | nil => decide
 | cons x l ih =>
  rw [List.foldr_cons];exact Int.mul_pos (h x (by simp)) (ih fun y hy => h y (by simp [hy]))
theorem qlP {l : List Int} (h : ∀ x ∈ l, 0 <= x) (h0 : 0 < l.foldr (· * ·) 1) : ∀ x ∈ l, 0 < x := by
 intro x hx;have h1 := h x hx
 by_cases e : x = 0
 ·subst e
  exfalso
  have : l.foldr (· * ·) 1 = 0 := by
   clear h h0 h1
   induction l with
   | nil => cases hx
   | cons y l ih =>
    rw [List.foldr_cons]
    rcases List.mem_cons.1 hx with h | h
    ·rw [<- h, Int.zero_mul]
    ·rw [ih h, Int.mul_zero]
  omega
 ·omega
section
variable {a : Nat -> Nat -> Int} {n f stops e : Nat}
theorem qeK (ha : ∀ i k, 0 <= a i k) {num : Nat} : 0 <= prW a n stops num := by
 refine qhF fun x hx => ?_
 obtain ⟨i, _, rfl⟩ := List.mem_map.1 hx
 split
 ·decide
 ·exact ha _ _
theorem qch (ha : ∀ i k, 0 <= a i k) : 0 <= wood a n f stops e := by
 refine qC fun x hx => ?_
 obtain ⟨num, _, rfl⟩ := List.mem_map.1 hx;exact qeK ha
theorem qgP (ha : ∀ i k, 0 <= a i k) (h : 0 < wood a n f stops e) : ∃ num, num < n ^ n /\ okW n stops num = true /\ endK (chN n num) stops (n + 1) f = some e /\ ∀ i < n, stops.testBit i = false -> 0 < a i (chN n num i) := by
 obtain ⟨x, hx, h0⟩ := qe3 h;obtain ⟨num, hn, rfl⟩ := List.mem_map.1 hx;obtain ⟨h1, h2⟩ := List.mem_filter.1 hn;rw [leadsTo, Bool.and_eq_true] at h2;refine ⟨num, List.mem_range.1 h1, h2.1, ?_, fun i hi hs => ?_⟩
 ·have h3 := h2.2
  cases he : endK (chN n num) stops (n + 1) f with
  | none => rw [he] at h3; cases h3
  | some y => rw [he] at h3; rw [Nat.eq_of_beq_eq_true h3]
 ·have := qlP (fun x hx => by
   obtain ⟨i, _, rfl⟩ := List.mem_map.1 hx
   split
   ·decide
   ·exact ha _ _) h0 (a i (chN n num i)) (List.mem_map.2 ⟨i, List.mem_range.2 hi, by rw [hs]; rfl⟩)
  exact this
theorem qea {g : Nat -> Nat -> Bool} {i j k : Nat} (h1 : g i j = true) (hj : j < n) (h : Reach g n j k) : Reach g n i k := by
 induction h with
 | one hg hk => exact .more (.one h1 hj) hg hk
 | more _ hg hk ih => exact .more ih hg hk
theorem qD {g : Nat -> Nat -> Bool} {i j k : Nat} (h1 : Reach g n i j) (h : Reach g n j k) : Reach g n i k := by
 induction h with
 | one hg hk => exact .more h1 hg hk
 | more _ hg hk ih => exact .more ih hg hk
theorem qdD {to : Nat -> Nat} {g : Nat -> Nat -> Bool} (hto : ∀ i < n, stops.testBit i = false -> to i < n /\ g i (to i) = true) : ∀ {m i : Nat}, i < n -> endK to stops m i = some e -> i = e \/ Reach g n i e
 | 0, _, _, h => by cases h
 | m + 1, i, hi, h => by
  rw [endK] at h
  split at h
  ·cases h; exact .inl rfl
  ·rename_i hs
   obtain ⟨h1, h2⟩ := hto i hi (by simpa using hs)
   rcases qdD hto h1 h with h3 | h3
   ·rw [<- h3]; exact .inr (.one h2 h1)
   ·exact .inr (qea h2 h1 h3)
theorem qfM (ha : ∀ i k, 0 <= a i k) (hn : 1 <= n) (hf : f < n) (hr : ∀ i < n, stops.testBit i = false -> ∃ e, stops.testBit e = true /\ Reach (fun i k => decide (0 < a i k)) n i e) : 0 < woodA a n f stops := by
 obtain ⟨to, h1, h2⟩ := qfL _ stops.testBit (Nat.le_refl _) hr
 have hd : ∀ i < n, (if stops.testBit i then 0 else to i) < n := fun i hi => by
  split
  ·omega
  ·rename_i hs; exact (h1 i hi (by simpa using hs)).1
 have hch : ∀ i < n, chN n (encN n n fun i => if stops.testBit i then 0 else to i) i = if stops.testBit i then 0 else to i := fun i hi => qh3 hn hd hi
 have hnum := qh2 hd;generalize encN n n (fun i => if stops.testBit i then 0 else to i) = num at *
 have hend : ∀ i < n, ∃ e, endK (chN n num) stops (n + 1) i = some e := fun i hi => by
  obtain ⟨e, he⟩ := h2 i hi;have hle : ((List.range n).filter fun i => !stops.testBit i).length <= n := Nat.le_trans (List.length_filter_le _ _) (by simp)
  have he := qfI (d := n - ((List.range n).filter fun i => !stops.testBit i).length) he
  rw [show ((List.range n).filter fun i => !stops.testBit i).length + 1 + (n - ((List.range n).filter fun i => !stops.testBit i).length) = n + 1 by omega] at he
  have key : ∀ (m i : Nat), i < n -> endF (chN n num) stops.testBit m i = endF to stops.testBit m i := fun m => by
   induction m with
   | zero => intro i _; rfl
   | succ m ih =>
    intro i hi;rw [endF, endF]
    cases hs : stops.testBit i with
    | true => rfl
    | false =>
     simp only [Bool.false_eq_true, if_false];rw [hch i hi, hs];simp only [Bool.false_eq_true, if_false];exact ih _ (h1 i hi hs).1
  refine ⟨e, ?_⟩;rw [qgO, key _ i hi]; exact he
 have hok : okW n stops num = true := by
  rw [okW, List.all_eq_true];intro i hi;rw [List.mem_range] at hi
  cases hs : stops.testBit i with
  | true => simp only [if_true]; rw [hch i hi, hs]; rfl
  | false =>
   obtain ⟨e, he⟩ := hend i hi;simp only [Bool.false_eq_true, if_false]; rw [he]; rfl
 obtain ⟨e, he⟩ := hend f hf
 have hto : ∀ i < n, stops.testBit i = false -> chN n num i < n /\ decide (0 < a i (chN n num i)) = true := fun i hi hs => by
  rw [hch i hi, hs]; exact h1 i hi hs
 have hen : e < n := by
  rcases qdD (g := fun i k => decide (0 < a i k)) hto hf he with h | h
  ·rw [<- h]; exact hf
  ·exact h.lt
 have hp : 0 < prW a n stops num := by
  refine qku fun x hx => ?_
  obtain ⟨i, hi, rfl⟩ := List.mem_map.1 hx;rw [List.mem_range] at hi
  split
  ·decide
  ·rename_i hs
   exact of_decide_eq_true (hto i hi (by simpa using hs)).2
 have hw : prW a n stops num <= wood a n f stops e := qcr (fun x hx => by
  obtain ⟨num, _, rfl⟩ := List.mem_map.1 hx;exact qeK ha) (List.mem_map.2 ⟨num, List.mem_filter.2 ⟨List.mem_range.2 hnum, by rw [leadsTo, hok, he]; simp⟩, rfl⟩)
 have hA : wood a n f stops e <= woodA a n f stops := qcr (fun x hx => by
  obtain ⟨e, _, rfl⟩ := List.mem_map.1 hx;exact qch ha) (List.mem_map.2 ⟨e, List.mem_range.2 hen, rfl⟩)
 omega
end
end Go.Proofs.YtikfhfgdmlijeaaGreat.Sk
namespace Go.Proofs.YtikfhfgdmlijeaaGreat.Sk
open Go Go.E
def mc (s : Int) (N : List (List Int)) (p : List Int) : SV := .agg [.int .i64 s, intss N, ints p]
def strayB (s : Int) (N : List (List Int)) : Bool := N.any fun l => !withinB 0 s l
def chk (s : Int) (N : List (List Int)) (p : List Int) : Int :=
 if withinB 1 4 [(N.length : Int)] = true then (if (N.any fun l => decide (¬ (l.length : Int) = N.length)) = true \/ ¬ (p.length : Int) = N.length then 15
  else if withinB 1 20 [s] = true /\ strayB s N = false /\ withinB 0 1000 p = true then 0 else 3) else 6
def chkM (s : Int) (N : List (List Int)) (p : List Int) : Int := if chk s N p = 0 then (if (N.any fun l => decide (¬ l.sum = s)) = true then 14 else 0) else chk s N p
def chkR (s : Int) (N : List (List Int)) (p : List Int) : Int := if chk s N p = 0 then (if (N.any fun l => decide (s < l.sum) || decide (l[0]?.getD 0 = 0)) = true then 14 else 0) else chk s N p
structure OkP (s : Int) (N : List (List Int)) (p : List Int) : Prop extends OkN s N where
  pl : p.length = N.length
  pay : ∀ x ∈ p, 0 <= x /\ x <= 1000
theorem qw {lo hi : Int} {l : List Int} : withinB lo hi l = true ↔ ∀ x ∈ l, lo <= x /\ x <= hi := by
 unfold withinB;simp only [Bool.not_eq_true', List.any_eq_false, Bool.or_eq_true, decide_eq_true_eq, not_or, Int.not_lt]
theorem qaH {s : Int} {N : List (List Int)} {p : List Int} : chk s N p = 0 ↔ OkP s N p := by
 unfold chk strayB;constructor
 ·intro h
  split at h
  ·rename_i h1
   split at h
   ·cases h
   ·rename_i h2
    split at h
    ·rename_i h3
     obtain ⟨h3, h4, h5⟩ := h3;rw [not_or, Bool.not_eq_true, List.any_eq_false] at h2;rw [List.any_eq_false] at h4;rw [qw] at h1 h3 h5;have h1 := h1 _ (List.mem_singleton.2 rfl);have h3 := h3 _ (List.mem_singleton.2 rfl);refine { n1 := by omega, n4 := by omega, sq := fun l hl => ?_, ent := fun l hl => ?_, s1 := h3.1, s20 := h3.2, pl := by have := Classical.not_not.1 h2.2; omega, pay := h5 }
     ·have := h2.1 l hl
      simp only [decide_eq_true_eq, Classical.not_not] at this;omega
     ·have := h4 l hl
      simp only [Bool.not_eq_true', Bool.not_eq_false] at this;exact qw.1 this
    ·cases h
  ·cases h
 ·intro h
  have h1 := h.n1;have h4 := h.n4;have hs := h.s1;have hs2 := h.s20;have hp := h.pl;rw [if_pos (qw.2 (by simp; omega)), if_neg, if_pos]
  ·refine ⟨qw.2 (by simp; omega), ?_, qw.2 h.pay⟩
   rw [List.any_eq_false];intro l hl;simp only [Bool.not_eq_true', Bool.not_eq_false];exact qw.2 (h.ent l hl)
  ·rw [not_or, Bool.not_eq_true, List.any_eq_false]
   refine ⟨fun l hl => ?_, by omega⟩
   have := h.sq l hl;simp only [decide_eq_true_eq, Classical.not_not];omega
structure OkM (s : Int) (N : List (List Int)) (p : List Int) : Prop extends OkP s N p where
  sum : ∀ l ∈ N, l.sum = s
theorem OkM.s {s : Int} {N : List (List Int)} {p : List Int} (h : OkM s N p) : OkS s N := { h.toOkN with sum := h.sum }
theorem qH {s : Int} {N : List (List Int)} {p : List Int} : chkM s N p = 0 ↔ OkM s N p := by
 unfold chkM
 by_cases h0 : chk s N p = 0
 ·rw [if_pos h0]
  have hp := qaH.1 h0;constructor
  ·intro h
   split at h
   ·cases h
   ·rename_i h1
    rw [Bool.not_eq_true, List.any_eq_false] at h1;exact { hp with sum := fun l hl => by have := h1 l hl; simpa using this }
  ·intro h
   rw [if_neg];rw [Bool.not_eq_true, List.any_eq_false];intro l hl
   simpa using h.sum l hl
 ·rw [if_neg h0]
  exact ⟨fun h => absurd h h0, fun h => absurd (qaH.2 h.toOkP) h0⟩
structure OkR (s : Int) (N : List (List Int)) (p : List Int) : Prop extends OkP s N p where
  le : ∀ l ∈ N, l.sum <= s
  first : ∀ l ∈ N, (0 : Int) < l[0]?.getD 0
theorem qkv {s : Int} {N : List (List Int)} {p : List Int} : chkR s N p = 0 ↔ OkR s N p := by
 unfold chkR
 by_cases h0 : chk s N p = 0
 ·rw [if_pos h0]
  have hp := qaH.1 h0;constructor
  ·intro h
   split at h
   ·cases h
   ·rename_i h1
    rw [Bool.not_eq_true, List.any_eq_false] at h1;refine { hp with le := fun l hl => ?_, first := fun l hl => ?_ }
    ·have := h1 l hl
     simp only [Bool.or_eq_true, decide_eq_true_eq, not_or] at this;omega
    ·have h2 := h1 l hl
     simp only [Bool.or_eq_true, decide_eq_true_eq, not_or] at h2
     have hl0 : l[0]?.getD 0 ≥ 0 := by
      cases hx : l[0]? with
      | none => exact Int.le_refl _
      | some x => exact (hp.ent l hl x (List.mem_of_getElem? hx)).1
     omega
  ·intro h
   rw [if_neg];rw [Bool.not_eq_true, List.any_eq_false];intro l hl;have h1 := h.le l hl;have h2 := h.first l hl;simp only [Bool.or_eq_true, decide_eq_true_eq, not_or];omega
 ·rw [if_neg h0]
  exact ⟨fun h => absurd h h0, fun h => absurd (qaH.2 h.toOkP) h0⟩
end Go.Proofs.YtikfhfgdmlijeaaGreat.Sk
namespace Go.Proofs.YtikfhfgdmlijeaaGreat.Sk
open Go Go.E Go.E.Sm
set_option maxRecDepth 10000
@[go_sem] theorem qsJ {l : List (List Int)} : (intss l).isAgg = false := rfl
@[go_sem] theorem qvo {q : Int × Int} : (rat q).isAgg = true := rfl
theorem qb5 {N : List (List Int)} : (parts N).length <= N.length := by
 unfold parts partsC;rw [List.length_map];exact Nat.le_trans (List.length_filter_le _ _) (by simp)
theorem qhG {L : List (List Int)} : flatE (L.map ints) = L.map ints := by
 induction L with
 | nil => rfl
 | cons l L ih => simp only [flatE, List.map_cons, List.flatten_cons, ints, SV.cells, List.cons_append, List.nil_append] at *; rw [ih]
theorem qkw {n : Nat} {x : SV} : (List.replicate n [x]).flatten = List.replicate n x := by
 induction n with
 | zero => rfl
 | succ n ih => rw [List.replicate_succ, List.replicate_succ, List.flatten_cons, ih]; rfl
theorem qhH {L : List (List Int)} : ∀ y ∈ L.map ints, y.cells.length = 1 := by
 intro y hy;obtain ⟨x, _, rfl⟩ := List.mem_map.1 hy; rfl
theorem k107 {g : FuncId} {first caps : List SV} {xs : List (List Int)} {p : List Int -> Bool} (hg : Ok1 g first caps) (hp : ∀ x ∈ xs, Asks g first caps (ints x) (p x)) : E.Fn Tryz.prog 107 [intss xs, .fn g first caps] [.int .i64 (idx p xs 0)] := by
 refine fn_of_row qoA ?_;simp only [FRow.start, f107, c107r0, c107r1, intss, go_sem, Nat.reduceAdd, Nat.reduceSub];intro hlen;have hlen' : (xs.length : Int) <= 2 ^ 63 - 1 := Int.le_trans (Int.ofNat_le.mpr hlen) qan
 refine qe (fun n τ => ∃ i : Nat, n = xs.length - i /\ i <= xs.length /\ idx p xs 0 = idx p (xs.drop i) i /\
  τ = ⟨[.s (.slice (xs.map ints)), .s (.fn g first caps), .any, .any, .any, .any, .any, aI xs.length, aI i, .any, .any, .any, .any, .any, .any, .any, .any, .any, .any], []⟩) xs.length rfl ?_ ?_
 ·simp only [c107l7m, go_sem]
  exact ⟨0, rfl, Nat.zero_le _, rfl, rfl⟩
 ·rintro I n τ ⟨i, rfl, hi, hidx, rfl⟩ hI
  simp only [c107l7, c107r2, c107r3, go_sem, ↓reduceIte];refine ⟨fun hlt => ?_, fun hge => ?_⟩
  ·have hlt : i < xs.length := by omega
   have hx : xs[i]? = some xs[i] := List.getElem?_eq_getElem hlt;have hdrop : xs.drop i = xs[i] :: xs.drop (i + 1) := List.drop_eq_getElem_cons hlt;simp only [c107r4, hx, ints, go_sem];refine ⟨hg.1, hg.2, qa (by simp only [ints, go_sem]) (hp _ (List.getElem_mem hlt)) (.inl rfl) ?_⟩
   simp only [go_sem];rw [hdrop, idx] at hidx
   cases hpx : p xs[i] with
   | true =>
    simp only [hpx, if_true] at hidx;simp only [c107r5, hidx, go_sem]
   | false =>
    simp only [hpx, Bool.false_eq_true, if_false] at hidx;simp only [c107r6, c107l7m, go_sem];refine ⟨qb (n := ((i : Int) + 1)) (by omega) (by omega), hI (xs.length - (i + 1)) _ (by omega) ⟨i + 1, rfl, by omega, by rw [hidx]; simp, by simp⟩⟩
  ·have hie : i = xs.length := by omega
   subst hie;simp only [List.drop_length, idx] at hidx;simp only [c107r8, hidx, go_sem, Int.reduceNeg]
theorem k82 {g : FuncId} {first caps : List SV} {xs : List (List Int)} {p : List Int -> Bool} (hg : Ok1 g first caps) (hp : ∀ x ∈ xs, Asks g first caps (ints x) (p x)) : E.Fn Tryz.prog 82 [intss xs, .fn g first caps] [.bool (xs.any p)] := by
 refine fn_of_row qrd ?_;simp only [FRow.start, f82, c82r0, c82r1, go_sem, Nat.reduceAdd, Nat.reduceSub];refine qa (by simp only [go_sem]) (k107 hg hp) (.inl rfl) ?_
 simp only [go_sem]
 have h : decide (0 <= idx p xs 0) = xs.any p := by
  have := qeI p xs 0;simp only [Int.cast_ofNat_Int] at this;rw [Bool.eq_iff_iff]
  simpa using this
 rw [h]
theorem k105 {l : List Int} {n : Int} : E.Fn Tryz.prog 105 [ints l, .ptr [.int .i64 n]] [.bool (decide (¬ (l.length : Int) = n))] := by
 refine fn_of_row qoy ?_;simp only [FRow.start, f105, c105r0, c105r1, ints, go_sem, Nat.reduceAdd, Nat.reduceSub];intro _;rw [decide_not]
theorem k106 {l : List Int} {s : Int} {N : List (List Int)} {p : List Int} : E.Fn Tryz.prog 106 [ints l, .ptr [.int .i64 s, intss N, ints p]] [.bool (!withinB 0 s l)] := by
 refine fn_of_row qoz ?_;simp only [FRow.start, f106, c106r0, c106r1, go_sem, Nat.reduceAdd, Nat.reduceSub, Nat.reduceLeDiff];refine qa (by simp only [go_sem]) (k50 (lo := 0) (hi := s) (l := l)) (.inl rfl) ?_
 simp only [go_sem]
theorem qdT {a x : LV} : splice [a] 0 [x] = [x] := rfl
theorem k81 {s : Int} {N : List (List Int)} {p : List Int} : E.Fn Tryz.prog 81 [mc s N p] [.int .i64 (chk s N p)] := by
 refine fn_of_row qrc ?_;have ho : ∀ l ∈ N, Asks 105 [] [.ptr [.int .i64 N.length]] (ints l) (decide (¬ (l.length : Int) = N.length)) := fun l _ => k105
 have hs : ∀ l ∈ N, Asks 106 [] [.ptr [.int .i64 s, intss N, ints p]] (ints l) (!withinB 0 s l) := fun l _ => k106
 unfold chk strayB;simp only [FRow.start, f81, c81r0, c81r1, mc, SV.cells, intss, go_sem, Nat.reduceAdd, Nat.reduceSub, Nat.reduceLeDiff];intro hlN;simp only [qdT, c81r2, c81r3, c81r4, go_sem, Nat.reduceMul];refine ⟨by decide, by decide, rfl, qr, ?_⟩
 refine qa (by simp only [ints, List.map_cons, List.map_nil, go_sem]) (k50 (lo := 1) (hi := 4) (l := [(N.length : Int)])) (.inl rfl) ?_
 by_cases h1 : withinB 1 4 [(N.length : Int)] = true
 ·rw [if_pos h1]
  simp only [h1, c81r6, go_sem, Nat.reduceAdd, Nat.reduceLeDiff];refine qa (by simp only [intss, go_sem]) (k82 (xs := N) ⟨by kernel_rfl, by rfl⟩ ho) (.inl rfl) ?_
  have fin3 : ∀ (c : Prop) [Decidable c], ¬ c -> ∀ v : Int, (if c then 15 else v) = v := fun c _ h v => if_neg h
  cases h2 : N.any (fun l => decide (¬ (l.length : Int) = N.length)) with
  | true =>
   rw [if_pos (.inl rfl)];simp only [c81r7, go_sem]
   done
  | false =>
   simp only [go_sem, reduceCtorEq, Nat.reduceAdd, Nat.reduceLeDiff];refine ⟨by kernel_rfl, ?_⟩
   refine qa (by simp only [ints, go_sem]) (k105 (l := p) (n := N.length)) (.inl rfl) ?_
   by_cases h3 : (p.length : Int) = N.length
   ·rw [if_neg (by simp [h3])]
    simp only [h3, decide_not, c81r8, go_sem, Nat.reduceAdd, Nat.reduceLeDiff, Nat.reduceMul];refine ⟨by decide, by decide, rfl, qr, ?_⟩
    refine qa (by simp only [ints, List.map_cons, List.map_nil, go_sem]) (k50 (lo := 1) (hi := 20) (l := [s])) (.inl rfl) ?_
    cases h4 : withinB 1 20 [s] with
    | false =>
     rw [if_neg (by simp)]
     simp only [c81r9, go_sem]
     done
    | true =>
     simp only [go_sem, Nat.reduceAdd, Nat.reduceLeDiff];refine qa (by simp only [intss, ints, go_sem]) (k82 (xs := N) ⟨by kernel_rfl, by rfl⟩ hs) (.inl rfl) ?_
     cases h5 : (N.any fun l => !withinB 0 s l) with
     | true =>
      rw [if_neg (by simp)]
      simp only [c81r9, go_sem]
      done
     | false =>
      simp only [go_sem, Nat.reduceAdd, Nat.reduceLeDiff];refine qa (by simp only [ints, go_sem]) (k50 (lo := 0) (hi := 1000) (l := p)) (.inl rfl) ?_
      cases h6 : withinB 0 1000 p with
      | false =>
       rw [if_neg (by simp)]
       simp only [c81r9, go_sem]
       done
      | true =>
       rw [if_pos (by simp)]
       simp only [c81r10, go_sem]
       done
   ·rw [if_pos (.inr h3)]
    simp only [h3, decide_not, c81r7, go_sem]
    done
 ·rw [if_neg h1]
  rw [Bool.not_eq_true] at h1;simp only [h1, c81r5, go_sem]
  done
theorem OkN.k60 {s : Int} {N : List (List Int)} (h : OkN s N) {l : List Int} (hl : l ∈ N) : E.Fn Tryz.prog 60 [ints l] [.int .i64 l.sum] :=
 Sk.k60 (by rw [h.sq l hl]; have := h.n4; omega) (fun x hx => by have := h.ent l hl x hx; have := h.s20; omega)
theorem k84 {s : Int} {N : List (List Int)} {p : List Int} (h : OkN s N) {l : List Int} (hl : l ∈ N) : E.Fn Tryz.prog 84 [ints l, .ptr [.int .i64 s, intss N, ints p]] [.bool (decide (¬ l.sum = s))] := by
 refine fn_of_row qrf ?_;simp only [FRow.start, f84, c84r0, c84r1, go_sem, Nat.reduceAdd, Nat.reduceSub];refine qa (by simp only [ints, go_sem]) (h.k60 hl) (.inl rfl) ?_
 simp only [go_sem, Nat.reduceAdd, Nat.reduceLeDiff];rw [decide_not]
theorem k83 {s : Int} {N : List (List Int)} {p : List Int} (h : OkN s N) {l : List Int} (hl : l ∈ N) : E.Fn Tryz.prog 83 [ints l, .ptr [.int .i64 s, intss N, ints p]] [.bool (decide (s < l.sum) || decide (l[0]?.getD 0 = 0))] := by
 refine fn_of_row qre ?_;have hl0 : 0 < l.length := by rw [h.sq l hl]; exact h.n1
 obtain ⟨x, hx⟩ : ∃ x, l[0]? = some x := ⟨_, List.getElem?_eq_getElem hl0⟩;simp only [FRow.start, f83, c83r0, c83r1, go_sem, Nat.reduceAdd, Nat.reduceSub];refine qa (by simp only [ints, go_sem]) (h.k60 hl) (.inl rfl) ?_
 simp only [go_sem, Nat.reduceAdd, Nat.reduceLeDiff]
 by_cases h1 : s < l.sum
 ·simp only [h1, decide_true, Bool.true_or, go_sem]
  exact fun h => absurd trivial h
 ·simp only [h1, decide_false, Bool.false_or, ints, hx, go_sem, Int.reduceToNat]
  simp
theorem k45 {s : Int} {N : List (List Int)} {p : List Int} : E.Fn Tryz.prog 45 [mc s N p] [.int .i64 (chkM s N p)] := by
 refine fn_of_row qqL ?_;unfold chkM;simp only [FRow.start, f45, c45r0, c45r1, mc, SV.cells, List.length_cons, List.length_nil, go_sem, Nat.reduceAdd, Nat.reduceSub];refine qa rfl (k81 (s := s) (N := N) (p := p)) (.inl rfl) ?_
 by_cases h0 : chk s N p = 0
 ·rw [if_pos h0]
  have hN := (qaH.1 h0).toOkN;have ho : ∀ l ∈ N, Asks 84 [] [.ptr [.int .i64 s, intss N, ints p]] (ints l) (decide (¬ l.sum = s)) := fun l hl => k84 hN hl
  simp only [h0, c45r2, c45r4, go_sem, Nat.reduceAdd, Nat.reduceLeDiff];refine qa (by simp only [intss, ints, go_sem]) (k82 (xs := N) ⟨by kernel_rfl, by rfl⟩ ho) (.inl rfl) ?_
  cases h1 : N.any (fun l => decide (¬ l.sum = s)) with
  | true =>
   simp only [c45r5, go_sem, ↓reduceIte]
   done
  | false =>
   simp only [c45r6, go_sem, ↓reduceIte, reduceCtorEq]
   done
 ·rw [if_neg h0]
  simp only [h0, c45r2, c45r3, go_sem]
  done
theorem k44 {s : Int} {N : List (List Int)} {p : List Int} : E.Fn Tryz.prog 44 [mc s N p] [.int .i64 (chkR s N p)] := by
 refine fn_of_row qqK ?_;unfold chkR;simp only [FRow.start, f44, c44r0, c44r1, mc, SV.cells, List.length_cons, List.length_nil, go_sem, Nat.reduceAdd, Nat.reduceSub];refine qa rfl (k81 (s := s) (N := N) (p := p)) (.inl rfl) ?_
 by_cases h0 : chk s N p = 0
 ·rw [if_pos h0]
  have hN := (qaH.1 h0).toOkN;have ho : ∀ l ∈ N, Asks 83 [] [.ptr [.int .i64 s, intss N, ints p]] (ints l) (decide (s < l.sum) || decide (l[0]?.getD 0 = 0)) := fun l hl => k83 hN hl
  simp only [h0, c44r2, c44r4, go_sem, Nat.reduceAdd, Nat.reduceLeDiff];refine qa (by simp only [intss, ints, go_sem]) (k82 (xs := N) ⟨by kernel_rfl, by rfl⟩ ho) (.inl rfl) ?_
  cases h1 : N.any (fun l => decide (s < l.sum) || decide (l[0]?.getD 0 = 0)) with
  | true =>
   simp only [c44r5, go_sem, ↓reduceIte]
   done
  | false =>
   simp only [c44r6, go_sem, ↓reduceIte, reduceCtorEq]
   done
 ·rw [if_neg h0]
  simp only [h0, c44r2, c44r3, go_sem]
  done
theorem OkM.goOn {s : Int} {N : List (List Int)} {p : List Int} (h : OkM s N p) : goOn N := by
 intro i hi;have hr := h.s.row hi;have hs := h.s1;obtain ⟨x, hx, h0⟩ := qe3 (l := (List.range N.length).map (Sk.tn N i)) (by omega)
 obtain ⟨k, hk, rfl⟩ := List.mem_map.1 hx;exact ⟨k, List.mem_range.1 hk, h0⟩
def openR (s : Int) (N : List (List Int)) (p : List Int) : List SV := if chkM s N p = 0 then [benchC s N p, .int .i64 0] else [.nilp, .int .i64 (chkM s N p)]
theorem k49 {s : Int} {N : List (List Int)} {p : List Int} : E.Fn Tryz.prog 49 [mc s N p] (openR s N p) := by
 refine fn_of_row qqP ?_;unfold openR;simp only [FRow.start, f49, c49r0, c49r1, mc, SV.cells, List.length_cons, List.length_nil, go_sem, Nat.reduceAdd, Nat.reduceSub];refine qa rfl (k45 (s := s) (N := N) (p := p)) (.inl rfl) ?_
 by_cases h0 : chkM s N p = 0
 ·rw [if_pos h0]
  have hM := qH.1 h0;have h65 := k68' (s := s) (p := p) (by have := hM.n4; omega) hM.sq hM.goOn
  simp only [h0, c49r2, c49r4, go_sem, Nat.reduceAdd];refine qa (by simp only [intss, ints, go_sem]) h65 (.inr (.inl (by simp only [intss, ints, go_sem]))) ?_
  simp only [go_sem]
  done
 ·rw [if_neg h0]
  simp only [h0, c49r2, c49r3, go_sem]
  done
def setE (s : Int) (N : List (List Int)) (p : List Int) : Int := if chkM s N p = 0 then (if 1 < (parts N).length then 17 else 0) else chkM s N p
def setR (s : Int) (N : List (List Int)) (p : List Int) : List SV := if setE s N p = 0 then [benchC s N p, .int .i64 0] else [.nilp, .int .i64 (setE s N p)]
theorem k57 {s : Int} {N : List (List Int)} {p : List Int} : E.Fn Tryz.prog 57 [mc s N p] (setR s N p) := by
 refine fn_of_row qqV ?_;have h48 := k49 (s := s) (N := N) (p := p);unfold setR setE;unfold openR at h48;simp only [FRow.start, f57, c57r0, c57r1, mc, SV.cells, List.length_cons, List.length_nil, go_sem, Nat.reduceAdd, Nat.reduceSub]
 by_cases h0 : chkM s N p = 0
 ·rw [if_pos h0] at h48
  refine qa rfl h48 (.inr (.inl rfl)) ?_
  by_cases h1 : 1 < (parts N).length
  ·simp only [h0, h1, if_true]
   simp only [c57r2, c57r4, benchC, bnV, intss, go_sem, Nat.reduceAdd, Nat.reduceLeDiff];intro _;refine ⟨fun _ => ?_, fun h => absurd (by omega) h⟩
   simp only [c57r5, go_sem];rw [if_neg (by decide)]
  ·simp only [h0, h1, if_true, if_false]
   simp only [c57r2, c57r4, benchC, bnV, intss, go_sem, Nat.reduceAdd, Nat.reduceLeDiff];intro _;refine ⟨fun h => absurd h (by omega), fun _ => ?_⟩
   simp only [c57r6, go_sem]
   done
 ·rw [if_neg h0] at h48
  refine qa rfl h48 (.inr (.inl rfl)) ?_
  simp only [h0, if_false];simp only [h0, c57r2, c57r3, go_sem]
  done
theorem k42 {s : Int} {N : List (List Int)} {p : List Int} : E.Fn Tryz.prog 42 [mc s N p] [.int .i64 (setE s N p)] := by
 refine fn_of_row qqI ?_;have h56 := k57 (s := s) (N := N) (p := p);unfold setR at h56;simp only [FRow.start, f42, c42r0, c42r1, mc, SV.cells, List.length_cons, List.length_nil, go_sem, Nat.reduceAdd, Nat.reduceSub];refine qa rfl h56 (.inr (.inl rfl)) ?_
 by_cases h0 : setE s N p = 0
 ·simp only [h0, if_true]
  simp only [c42r2, go_sem]
  done
 ·simp only [h0, if_false]
  simp only [c42r2, go_sem]
  done
def partsR (s : Int) (N : List (List Int)) (p : List Int) : List SV := if chkM s N p = 0 then [intss (parts N), .int .i64 0] else [.slice [], .int .i64 (chkM s N p)]
theorem k33 {s : Int} {N : List (List Int)} {p : List Int} : E.Fn Tryz.prog 33 [mc s N p] (partsR s N p) := by
 refine fn_of_row qqB ?_;have h48 := k49 (s := s) (N := N) (p := p);unfold partsR;unfold openR at h48;simp only [FRow.start, f33, c33r0, c33r1, mc, SV.cells, List.length_cons, List.length_nil, go_sem, Nat.reduceAdd, Nat.reduceSub]
 by_cases h0 : chkM s N p = 0
 ·rw [if_pos h0] at h48
  rw [if_pos h0];refine qa rfl h48 (.inr (.inl rfl)) ?_
  have hpl := qb5 (N := N);have hn4 := (qH.1 h0).n4;simp only [c33r2, c33r4, benchC, bnV, intss, go_sem, Nat.reduceAdd, Nat.reduceLT, Nat.reduceLeDiff];refine ⟨by omega, by omega, fun _ => ?_⟩
  simp only [c33r5, qkw, go_sem, Nat.reduceAdd, Nat.reduceLeDiff];refine ⟨qhH, by rw [List.length_replicate, Nat.mul_one]; exact Nat.le_refl _, ?_⟩
  rw [List.take_of_length_le (by simp), qhG, qhV (by simp)]
  simp only [c33r6, qaC, go_sem];rfl
 ·rw [if_neg h0] at h48
  rw [if_neg h0];refine qa rfl h48 (.inr (.inl rfl)) ?_
  simp only [h0, c33r2, c33r3, go_sem]
  done
@[go_sem] theorem qrt {l : List Int} : (ints l).cells = [ints l] := rfl
@[go_sem] theorem qpB {l : List (List Int)} : (intss l).cells = [intss l] := rfl
section
variable {s : Int} {N : List (List Int)} {p : List Int}
theorem qgQ (h : ¬ (1 <= N.length /\ N.length <= 4)) : chk s N p = 6 := by
 unfold chk;rw [if_neg];intro h1;have := qw.1 h1 _ (List.mem_singleton.2 rfl);exact h (by omega)
theorem qfN (h1 : 1 <= N.length /\ N.length <= 4) (h : (∃ l ∈ N, ¬ l.length = N.length) \/ ¬ p.length = N.length) : chk s N p = 15 := by
 unfold chk;rw [if_pos (qw.2 (by simp; omega)), if_pos]
 rcases h with ⟨l, hl, h⟩ | h
 ·exact .inl (List.any_eq_true.2 ⟨l, hl, by simp; omega⟩)
 ·exact .inr (by omega)
theorem qkx (h1 : 1 <= N.length /\ N.length <= 4) (h2 : ∀ l ∈ N, l.length = N.length) (h3 : p.length = N.length) (h : ¬ (1 <= s /\ s <= 20) \/ (∃ l ∈ N, ∃ x ∈ l, ¬ (0 <= x /\ x <= s)) \/ ∃ x ∈ p, ¬ (0 <= x /\ x <= 1000)) : chk s N p = 3 := by
 unfold chk;rw [if_pos (qw.2 (by simp; omega)), if_neg, if_neg]
 ·rintro ⟨h4, h5, h6⟩
  unfold strayB at h5;rw [List.any_eq_false] at h5
  rcases h with h | ⟨l, hl, x, hx, h⟩ | ⟨x, hx, h⟩
  ·exact h (qw.1 h4 _ (List.mem_singleton.2 rfl))
  ·have := h5 l hl
   simp only [Bool.not_eq_true', Bool.not_eq_false] at this;exact h (qw.1 this x hx)
  ·exact h (qw.1 h6 x hx)
 ·rw [not_or, Bool.not_eq_true, List.any_eq_false]
  refine ⟨fun l hl => ?_, by omega⟩
  have := h2 l hl;simp only [decide_eq_true_eq, Classical.not_not];omega
end
theorem qb6 {α : Type} {l : List α} {i : Nat} {x : α} (h : l[i]? = some x) : l.take (i + 1) = l.take i ++ [x] := by rw [List.take_succ, h]; rfl
theorem qa0 {α : Type} {q : α -> Prop} {l : List α} {i : Nat} {x : α} (h : l[i]? = some x) (h1 : ∀ y ∈ l.take i, q y) (h2 : q x) : ∀ y ∈ l.take (i + 1), q y := by
 rw [qb6 h];intro y hy
 rcases List.mem_append.1 hy with hy | hy
 ·exact h1 y hy
 ·rw [List.mem_singleton.1 hy]; exact h2
set_option maxHeartbeats 1000000 in
theorem k93 {s : Int} {N : List (List Int)} {p : List Int} : E.Fn Tryz.prog 93 [mc s N p] [.int .i64 (chk s N p)] := by
 refine fn_of_row qro ?_;generalize hr : chk s N p = r;simp only [FRow.start, f93, c93r0, c93r1, c93r2, mc, SV.cells, intss, go_sem, Nat.reduceAdd, Nat.reduceSub, Nat.reduceLeDiff, true_implies];intro _
 by_cases hn1 : 1 <= N.length
 ·have e1 : ¬ ((N.length : Int) < 1) := by omega
  by_cases hn4 : N.length <= 4
  ·have e2 : ¬ (4 < (N.length : Int)) := by omega
   simp only [e1, e2, c93r4, go_sem, false_implies, true_implies, not_false_eq_true]
   refine qe (fun m τ => ∃ i : Nat, m = N.length - i /\ i <= N.length /\ (∀ l ∈ N.take i, l.length = N.length) /\
    τ = ⟨(aN::(.s (.ptr [.int .i64 s, intss N, ints p]))::aN::(aI N.length)::(aI i)::aN::aN::aN::aZ80), []⟩) N.length rfl ?_ ?_
   ·simp only [c93l9m, go_sem]
    exact ⟨0, rfl, Nat.zero_le _, by simp, rfl⟩
   ·rintro I m τ ⟨i, rfl, hi, hall, rfl⟩ hI
    simp only [c93l9, c93r5, go_sem, ↓reduceIte, true_implies];refine ⟨fun hlt => ?_, fun hge => ?_⟩
    ·have hlt : i < N.length := by omega
     have hx : N[i]? = some N[i] := List.getElem?_eq_getElem hlt;generalize N[i] = l at hx;simp only [c93r6, intss, hx, ints, go_sem, Nat.reduceAdd, Nat.reduceLeDiff];intro _
     by_cases hl : (l.length : Int) = N.length
     ·simp only [hl, c93r8, c93l9m, go_sem, not_true_eq_false, false_implies, true_implies]
      exact ⟨qb (by omega) (by omega), hI (N.length - (i + 1)) _ (by omega) ⟨i + 1, rfl, by omega, qa0 hx hall (by omega), rfl⟩⟩
     ·have := qfN (s := s) (p := p) ⟨hn1, hn4⟩ (.inl ⟨l, List.mem_of_getElem? hx, by omega⟩)
      simp only [hl, c93r7, go_sem, false_implies, true_implies, not_false_eq_true];rw [<- hr, this]
    ·have hie : i = N.length := by omega
     subst hie;rw [List.take_length] at hall;simp only [c93r10, ints, go_sem, Nat.reduceAdd, Nat.reduceLeDiff];intro _
     by_cases hp : (p.length : Int) = N.length
     ·simp only [hp, c93r12, go_sem, Nat.reduceAdd, Nat.reduceLeDiff, not_true_eq_false, false_implies, true_implies]
      have hrng := qkx (s := s) (p := p) ⟨hn1, hn4⟩ hall (by omega)
      by_cases hs1 : s < 1
      ·have := hrng (.inl (by omega))
       simp only [hs1, c93r13, go_sem, not_true_eq_false, false_implies, true_implies];rw [<- hr, this]
      ·by_cases hs2 : 20 < s
       ·have := hrng (.inl (by omega))
        simp only [hs1, hs2, c93r13, go_sem, not_true_eq_false, false_implies, true_implies, not_false_eq_true];rw [<- hr, this]
       ·simp only [hs1, hs2, c93r14, go_sem, false_implies, true_implies, not_false_eq_true]
        refine qe (fun m τ => ∃ i : Nat, m = N.length - i /\ i <= N.length /\ (∀ l ∈ N.take i, ∀ x ∈ l, 0 <= x /\ x <= s) /\ (∀ x ∈ p.take i, 0 <= x /\ x <= 1000) /\
         τ = ⟨(aN::(.s (.ptr [.int .i64 s, intss N, ints p]))::aN::(aI N.length)::aN::(aI i)::aN::aN::aZ80), []⟩) N.length rfl ?_ ?_
        ·simp only [c93l25m, go_sem]
         exact ⟨0, rfl, Nat.zero_le _, by simp, by simp, rfl⟩
        ·rintro I m τ ⟨i, rfl, hi, hall1, hall2, rfl⟩ hI
         simp only [c93l25, c93r15, go_sem, ↓reduceIte, true_implies];refine ⟨fun hlt => ?_, fun hge => ?_⟩
         ·have hlt : i < N.length := by omega
          have hx : N[i]? = some N[i] := List.getElem?_eq_getElem hlt;have hy : p[i]? = some (p[i]'(by omega)) := List.getElem?_eq_getElem _
          have hl := hall _ (List.getElem_mem hlt);generalize N[i] = l at hx hl;generalize p[i]'(by omega) = y at hy
          simp only [c93r16, go_sem, true_implies]
          refine qe (fun m τ => ∃ k : Nat, m = N.length - k /\ k <= N.length /\ (∀ x ∈ l.take k, 0 <= x /\ x <= s) /\
           τ = ⟨(aN::(.s (.ptr [.int .i64 s, intss N, ints p]))::aN::(aI N.length)::aN::(aI i)::(aI k)::aN::aZ80), []⟩) N.length rfl ?_ ?_
          ·simp only [c93l21m, go_sem]
           exact ⟨0, rfl, Nat.zero_le _, by simp, rfl⟩
          ·rintro I2 m τ ⟨k, rfl, hk, hin, rfl⟩ hI2
           simp only [c93l21, c93r17, go_sem, ↓reduceIte, true_implies];refine ⟨fun hlt => ?_, fun hge => ?_⟩
           ·have hlt2 : k < l.length := by omega
            have hz : l[k]? = some l[k] := List.getElem?_eq_getElem hlt2;generalize l[k] = z at hz;simp only [c93r18, intss, hx, ints, hz, go_sem, Nat.reduceAdd, Nat.reduceLeDiff, true_implies]
            by_cases h1 : z < 0
            ·have := hrng (.inr (.inl ⟨l, List.mem_of_getElem? hx, z, List.mem_of_getElem? hz, by omega⟩))
             simp only [h1, c93r19, go_sem, not_true_eq_false, false_implies, true_implies];rw [<- hr, this]
            ·by_cases h2 : s < z
             ·have := hrng (.inr (.inl ⟨l, List.mem_of_getElem? hx, z, List.mem_of_getElem? hz, by omega⟩))
              simp only [h1, h2, c93r19, go_sem, not_true_eq_false, false_implies, true_implies, not_false_eq_true];rw [<- hr, this]
             ·simp only [h1, h2, c93r20, c93l21m, go_sem, false_implies, true_implies, not_false_eq_true]
              exact ⟨qb (by omega) (by omega), hI2 (N.length - (k + 1)) _ (by omega) ⟨k + 1, rfl, by omega, qa0 hz hin (by omega), rfl⟩⟩
           ·have hke : k = N.length := by omega
            subst hke;rw [<- hl, List.take_length] at hin;simp only [c93r22, ints, hy, go_sem, Nat.reduceAdd, Nat.reduceLeDiff, true_implies]
            by_cases h1 : y < 0
            ·have := hrng (.inr (.inr ⟨y, List.mem_of_getElem? hy, by omega⟩))
             simp only [h1, c93r23, go_sem, not_true_eq_false, false_implies, true_implies];rw [<- hr, this]
            ·by_cases h2 : 1000 < y
             ·have := hrng (.inr (.inr ⟨y, List.mem_of_getElem? hy, by omega⟩))
              simp only [h1, h2, c93r23, go_sem, not_true_eq_false, false_implies, true_implies, not_false_eq_true];rw [<- hr, this]
             ·simp only [h1, h2, c93r24, c93l25m, go_sem, false_implies, true_implies, not_false_eq_true]
              exact ⟨qb (by omega) (by omega), hI (N.length - (i + 1)) _ (by omega) ⟨i + 1, rfl, by omega, qa0 hx hall1 hin, qa0 hy hall2 (by omega), rfl⟩⟩
         ·have hie : i = N.length := by omega
          subst hie;rw [List.take_length] at hall1;rw [<- show p.length = N.length by omega, List.take_length] at hall2
          have := qaH.2 { n1 := hn1, n4 := hn4, sq := hall, ent := hall1, s1 := by omega, s20 := by omega, pl := by omega, pay := hall2 : OkP s N p }
          simp only [c93r26, go_sem, true_implies];rw [<- hr, this]
     ·have := qfN (s := s) (p := p) ⟨hn1, hn4⟩ (.inr (by omega))
      simp only [hp, c93r11, go_sem, false_implies, true_implies, not_false_eq_true];rw [<- hr, this]
  ·have e2 : 4 < (N.length : Int) := by omega
   rw [qgQ (by omega)] at hr
   subst hr;simp only [e1, e2, c93r3, go_sem, not_true_eq_false, false_implies, true_implies, not_false_eq_true]
   done
 ·have e1 : (N.length : Int) < 1 := by omega
  rw [qgQ (by omega)] at hr
  subst hr;simp only [e1, c93r3, go_sem, not_true_eq_false, false_implies, true_implies]
  done
theorem k63 {l : List Int} (hl : l.length <= 1000) (hr : ∀ x ∈ l, 0 <= x /\ x <= 1000000000000) : E.Fn Tryz.prog 63 [ints l] [.int .i64 l.sum] := by
 refine fn_of_row qq0 ?_;simp only [FRow.start, f63, c63r0, c63r1, c63r2, go_sem, Nat.reduceSub, true_implies]
 refine qe (fun n τ => ∃ i : Nat, n = l.length - i /\ i <= l.length /\ 0 <= (l.take i).sum /\ (l.take i).sum <= 1000000000000 * i /\
  τ = ⟨((.s (ints l))::aN::aN::(.s (.int .i64 (l.take i).sum))::(aI i)::aN::aN::aN::aN::aN::aZ8), []⟩) l.length rfl ?_ ?_
 ·simp only [c63l6m, go_sem]
  exact ⟨0, rfl, Nat.zero_le _, by simp, by simp, by simp⟩
 ·rintro I n τ ⟨i, rfl, hi, h0, h1, rfl⟩ hI
  simp only [c63l6, c63r3, ints, go_sem, ↓reduceIte];intro _;refine ⟨fun hlt => ?_, fun hge => ?_⟩
  ·have hlt : i < l.length := by omega
   have hx : l[i]? = some l[i] := List.getElem?_eq_getElem hlt;have hr := hr _ (List.getElem_mem hlt);have hts : (l.take (i + 1)).sum = (l.take i).sum + l[i] := by rw [List.take_succ, hx, List.sum_append]; simp
   generalize l[i] = x at hx hr hts;simp only [c63r4, hx, c63r5, c63l6m, go_sem, true_implies];exact ⟨qb (by omega) (by omega), qb (by omega) (by omega), hI (l.length - (i + 1)) _ (by omega) ⟨i + 1, rfl, by omega, by omega, by omega, by rw [hts]; rfl⟩⟩
  ·have hie : i = l.length := by omega
   subst hie;rw [List.take_length];simp only [c63r7, go_sem, true_implies]
theorem OkN.k63 {s : Int} {N : List (List Int)} (h : OkN s N) {l : List Int} (hl : l ∈ N) : E.Fn Tryz.prog 63 [ints l] [.int .i64 l.sum] :=
 Sk.k63 (by rw [h.sq l hl]; have := h.n4; omega) (fun x hx => by have := h.ent l hl x hx; have := h.s20; omega)
theorem qlQ {s : Int} {N : List (List Int)} {p : List Int} (h0 : chk s N p = 0) : ((∃ l ∈ N, ¬ l.sum = s) -> chkM s N p = 14) /\ ((∀ l ∈ N, l.sum = s) -> chkM s N p = 0) := by
 unfold chkM;rw [if_pos h0];constructor
 ·rintro ⟨l, hl, h⟩
  rw [if_pos (List.any_eq_true.2 ⟨l, hl, by simpa using h⟩)]
 ·intro h
  rw [if_neg];rw [Bool.not_eq_true, List.any_eq_false];intro l hl
  simpa using h l hl
theorem k52 {s : Int} {N : List (List Int)} {p : List Int} : E.Fn Tryz.prog 52 [mc s N p] [.int .i64 (chkM s N p)] := by
 refine fn_of_row qqS ?_;have h53 := k93 (s := s) (N := N) (p := p);simp only [FRow.start, f52, c52r0, c52r1, mc, SV.cells, List.length_cons, List.length_nil, go_sem, Nat.reduceAdd, Nat.reduceSub, true_implies];refine qa rfl h53 (.inl rfl) ?_
 by_cases h0 : chk s N p = 0
 ·have hN := (qaH.1 h0).toOkN
  have hn4 := hN.n4;obtain ⟨hs1, hs2⟩ := qlQ h0;generalize chkM s N p = r at hs1 hs2;simp only [h0, c52r3, go_sem, true_implies]
  refine qe (fun m τ => ∃ i : Nat, m = N.length - i /\ i <= N.length /\ (∀ l ∈ N.take i, l.sum = s) /\
   τ = ⟨(aN::(.s (.ptr [.int .i64 s, intss N, ints p]))::aN::(aI i)::aN::aN::aN::aN::aN::aZ16), []⟩) N.length rfl ?_ ?_
  ·simp only [c52l8m, go_sem]
   exact ⟨0, rfl, Nat.zero_le _, by simp, rfl⟩
  ·rintro I m τ ⟨i, rfl, hi, hall, rfl⟩ hI
   simp only [c52l8, c52r4, intss, go_sem, ↓reduceIte, Nat.reduceAdd, Nat.reduceLeDiff];intro _;refine ⟨fun hlt => ?_, fun hge => ?_⟩
   ·have hlt : i < N.length := by omega
    have hx : N[i]? = some N[i] := List.getElem?_eq_getElem hlt;generalize N[i] = l at hx;simp only [c52r5, hx, go_sem, Nat.reduceAdd, Nat.reduceLeDiff];refine qa (by simp only [ints, go_sem]) (hN.k63 (List.mem_of_getElem? hx)) (.inl rfl) ?_
    by_cases hl : l.sum = s
    ·simp only [hl, c52r7, c52l8m, go_sem, Nat.reduceAdd, Nat.reduceLeDiff, true_implies]
     exact ⟨qb (by omega) (by omega), hI (N.length - (i + 1)) _ (by omega) ⟨i + 1, rfl, by omega, qa0 hx hall hl, rfl⟩⟩
    ·simp only [hl, c52r6, go_sem, Nat.reduceAdd, Nat.reduceLeDiff, true_implies]
     rw [hs1 ⟨l, List.mem_of_getElem? hx, hl⟩]
   ·have hie : i = N.length := by omega
    subst hie;rw [List.take_length] at hall;simp only [c52r9, go_sem, true_implies];rw [hs2 hall]
 ·have hr : chkM s N p = chk s N p := by unfold chkM; rw [if_neg h0]
  rw [hr];simp only [h0, c52r2, List.length_cons, List.length_nil, go_sem, Nat.reduceAdd, true_implies];refine qa rfl h53 (.inl rfl) ?_
  simp only [go_sem, true_implies]
  done
def fl (q : Nat -> Bool) (n : Nat) : List Int := ((List.range n).filter q).map fun i : Nat => (i : Int)
theorem qnr {q : Nat -> Bool} {n : Nat} : fl q (n + 1) = if q n then fl q n ++ [(n : Int)] else fl q n := by
 unfold fl;rw [List.range_succ, List.filter_append, List.map_append]
 by_cases h : q n = true
 ·rw [if_pos h]; simp [h]
 ·rw [if_neg h]; simp [h]
theorem qoL {q : Nat -> Bool} {n : Nat} : (fl q n).length <= n := by
 unfold fl;rw [List.length_map];exact Nat.le_trans (List.length_filter_le _ _) (by simp)
theorem qdE {L : List Int} {n : Nat} (h : n = L.length) : sliceOf 0 n 1 (L.map (SV.int .i64)) = some (ints L) := by
 rw [qhD (by simpa using h)]
 rfl
theorem qky {n : Nat} (h : n < 2 ^ 62) : IntKind.wrap .i64 (n : Int) = (n : Int) := by
 have e : (2 : Nat) ^ 62 = 4611686018427387904 := by decide
 exact qb (by omega) (by omega)
theorem qb7 {a : Nat} (h : a < 2 ^ 62) : (BitVec.ofInt 64 (a : Int)).toNat = a := by
 have e : (2 : Nat) ^ 62 < 2 ^ 64 := by decide
 rw [BitVec.ofInt_natCast, BitVec.toNat_ofNat, Nat.mod_eq_of_lt (Nat.lt_trans h e)]
theorem qgR {a b : Nat} (ha : a < 2 ^ 62) (hb : b < 2 ^ 62) : bitOf .i64 (a : Int) (b : Int) .or = ((a ||| b : Nat) : Int) := by
 unfold bitOf;simp only;rw [show IntKind.bits .i64 = 64 from rfl, BitVec.toNat_or, qb7 ha, qb7 hb];exact qky (Nat.or_lt_two_pow ha hb)
theorem qns {a b : Nat} (ha : a < 2 ^ 62) (hb : b < 2 ^ 62) : bitOf .i64 (a : Int) (b : Int) .and = ((a &&& b : Nat) : Int) := by
 unfold bitOf;simp only;rw [show IntKind.bits .i64 = 64 from rfl, BitVec.toNat_and, qb7 ha, qb7 hb];exact qky (Nat.lt_of_le_of_lt Nat.and_le_left ha)
theorem qnt {a i : Nat} : (a : Int).fdiv (2 ^ i) = ((a / 2 ^ i : Nat) : Int) := by
 rw [show (2 : Int) ^ i = ((2 ^ i : Nat) : Int) by simp]
 exact (Int.ofNat_fdiv a (2 ^ i)).symm
theorem qdU {a i : Nat} (ha : a < 2 ^ 62) : bitOf .i64 ((a : Int).fdiv (2 ^ i)) 1 .and = if a.testBit i then 1 else 0 := by
 have h1 : a / 2 ^ i < 2 ^ 62 := Nat.lt_of_le_of_lt (Nat.div_le_self _ _) ha;rw [qnt, show (1 : Int) = ((1 : Nat) : Int) from rfl, qns h1 (by decide), Nat.and_one_is_mod]
 have h2 : a.testBit i = decide (a / 2 ^ i % 2 = 1) := by rw [Nat.testBit_eq_decide_div_mod_eq]
 rw [h2];have := Nat.mod_lt (a / 2 ^ i) (show 0 < 2 by decide)
 by_cases h : a / 2 ^ i % 2 = 1
 ·rw [decide_eq_true h, h]; rfl
 ·rw [decide_eq_false h, show a / 2 ^ i % 2 = 0 by omega]; rfl
def lstd (s n : Nat) : List Int := fl (fun i => s.testBit i) n
theorem k95 {s n : Nat} (hs : s < 2 ^ 62) (hn : n <= 8) : E.Fn Tryz.prog 95 [.int .i64 s, .int .i64 n] [ints (lstd s n)] := by
 refine fn_of_row qrq ?_;unfold lstd;generalize hq : (fun i => s.testBit i) = q
 have hq' : ∀ i, q i = s.testBit i := fun i => by rw [<- hq]
 simp only [FRow.start, f95, c95r0, c95r1, c95r2, go_sem, Nat.reduceAdd, Nat.reduceSub, true_implies]
 refine qe (fun k τ => ∃ i : Nat, k = n - i /\ i <= n /\
  τ = ⟨((aI s)::(aI n)::aN::aN::aN::(.sl 0 0 (fl q i).length 1 false)::(aI i)::aN::aN::aN::aN::aN::aN::aN::aZ8), [.row ((fl q i).map (.int .i64))]⟩) n (qY rfl) ?_ ?_
 ·simp only [c95l7m, go_sem, ↓reduceIte, reduceCtorEq, Nat.reduceLeDiff]
  exact ⟨0, rfl, Nat.zero_le _, rfl⟩
 ·rintro I k τ ⟨i, rfl, hi, rfl⟩ hI
  have hos := qnr (q := q) (n := i);have hol := qoL (q := q) (n := i);rw [hq'] at hos;generalize hO : fl q i = O at *;simp only [c95l7, c95r3, go_sem, ↓reduceIte, true_implies];refine ⟨fun hlt => ?_, fun hge => ?_⟩
  ·have hin : inR .i64 ((i : Int) + 1) := qb (by omega) (by omega)
   have fin : ∀ y, fl q (i + 1) = y -> I ⟨((aI s)::(aI n)::aN::aN::aN::(.sl 0 0 y.length 1 false)::(aI (i + 1))::aN::aN::aN::aN::aN::aN::aN::aZ8), [.row (y.map (.int .i64))]⟩ := fun y hy => by
    subst hy;exact hI (n - (i + 1)) _ (by omega) ⟨i + 1, rfl, by omega, rfl⟩
   simp only [c95r4, go_sem, true_implies];refine ⟨by omega, ?_⟩
   rw [qdU hs]
   cases hb : s.testBit i with
   | true =>
    rw [hb, if_pos rfl] at hos;simp only [c95r5, go_sem, ↓reduceIte, Nat.reduceAdd, Nat.reduceMul, not_true_eq_false, false_implies, true_implies];refine ⟨by decide, by decide, rfl, qr, qr, by simp, by omega, by omega, ?_⟩
    have := fin _ hos;simp only [c95r6, c95l7m, go_sem, ↓reduceIte, reduceCtorEq, Nat.reduceLeDiff, true_implies];refine ⟨hin, ?_⟩;simp only [List.map_append, List.length_append, List.map_cons, List.map_nil, List.length_cons, List.length_nil] at this;exact this
   | false =>
    rw [hb, if_neg (by simp)] at hos
    simp only [Bool.false_eq_true, Int.reduceEq, c95r6, c95l7m, go_sem, ↓reduceIte, Nat.reduceLeDiff, false_implies, true_implies, not_false_eq_true];exact ⟨hin, fin _ hos⟩
  ·have hie : i = n := by omega
   subst hie;simp only [c95r8, go_sem, true_implies];refine qkf (qdE rfl) ?_;rw [hO]
theorem qnu {n : Nat} : (1 : Int) * 2 ^ n = ((2 ^ n : Nat) : Int) := by simp
def Pl (g : Nat -> Nat -> Bool) (n : Nat) : Nat -> Nat -> Nat -> Prop
 | 0, _, _ => False
 | r + 1, i, x => (g i x = true /\ x < n) \/ ∃ j, j < n /\ g i j = true /\ Pl g n r j x
def gt (O : List Nat) (i : Nat) : Nat := O[i]?.getD 0
theorem qeL {O : List Nat} {i j y : Nat} (h : i < O.length) : gt (O.set i y) j = if i = j then y else gt O j := by
 unfold gt;rw [List.getElem?_set]
 split
 ·rename_i e; subst e; simp [h]
 ·rfl
structure Ld (g : Nat -> Nat -> Bool) (n r : Nat) (O : List Nat) : Prop where
  len : O.length = n
  snd : ∀ i k, (gt O i).testBit k = true -> k < n /\ Reach g n i k
  cmp : ∀ i, i < n -> ∀ k, Pl g n r i k -> (gt O i).testBit k = true
def LdP (g : Nat -> Nat -> Bool) (n r i k : Nat) (O : List Nat) : Prop := ∀ i' k', i' < n -> k' < n -> (i' < i \/ i' = i /\ k' < k) -> g i' k' = true -> (gt O i').testBit k' = true /\ ∀ x, Pl g n r k' x -> (gt O i').testBit x = true
section
variable {g : Nat -> Nat -> Bool} {n r i k : Nat} {O : List Nat}
theorem Ld.lt (h : Ld g n r O) : gt O i < 2 ^ n := Nat.lt_pow_two_of_testBit _ fun k hk => by
 cases hb : (gt O i).testBit k with
 | false => rfl
 | true => have := (h.snd i k hb).1; omega
theorem Ld.put (h : Ld g n r O) (hi : i < n) (hk : k < n) (hg : g i k = true) : Ld g n r (O.set i (gt O i ||| (2 ^ k ||| gt O k))) := by
 have hil : i < O.length := by rw [h.len]; exact hi
 refine ⟨by rw [List.length_set, h.len], fun j x hx => ?_, fun j hj x hx => ?_⟩
 ·rw [qeL hil] at hx
  split at hx
  ·rename_i e
   subst e;rw [Nat.testBit_or, Nat.testBit_or, Bool.or_eq_true, Bool.or_eq_true] at hx
   rcases hx with hx | hx | hx
   ·exact h.snd _ _ hx
   ·rw [Nat.testBit_two_pow] at hx
    have e : k = x := by simpa using hx
    subst e;exact ⟨hk, .one hg hk⟩
   ·obtain ⟨h1, h2⟩ := h.snd _ _ hx
    exact ⟨h1, qea hg hk h2⟩
  ·exact h.snd _ _ hx
 ·have := h.cmp j hj x hx
  rw [qeL hil]
  split
  ·rename_i e; subst e; rw [Nat.testBit_or, this]; rfl
  ·exact this
theorem qgS (hil : i < O.length) {j x y : Nat} (h : (gt O j).testBit x = true) : (gt (O.set i (gt O i ||| y)) j).testBit x = true := by
 rw [qeL hil]
 split
 ·rename_i e; subst e; rw [Nat.testBit_or, h]; rfl
 ·exact h
theorem LdP.put (h : Ld g n r O) (hp : LdP g n r i k O) (hi : i < n) (hk : k < n) : LdP g n r i (k + 1) (O.set i (gt O i ||| (2 ^ k ||| gt O k))) := by
 have hil : i < O.length := by rw [h.len]; exact hi
 intro i' k' hi' hk' hlt hg
 by_cases e : i' = i /\ k' = k
 ·obtain ⟨rfl, rfl⟩ := e
  rw [qeL hil, if_pos rfl];refine ⟨by rw [Nat.testBit_or, Nat.testBit_or, Nat.testBit_two_pow]; simp, fun x hx => ?_⟩
  rw [Nat.testBit_or, Nat.testBit_or, h.cmp k' hk' x hx]; simp
 ·obtain ⟨h1, h2⟩ := hp i' k' hi' hk' (by omega) hg
  exact ⟨qgS hil h1, fun x hx => qgS hil (h2 x hx)⟩
theorem LdP.skip (hp : LdP g n r i k O) (hg : g i k = false) : LdP g n r i (k + 1) O := by
 intro i' k' hi' hk' hlt h
 by_cases e : i' = i /\ k' = k
 ·obtain ⟨rfl, rfl⟩ := e
  rw [hg] at h; cases h
 ·exact hp i' k' hi' hk' (by omega) h
theorem LdP.row (hp : LdP g n r i n O) : LdP g n r (i + 1) 0 O := fun i' k' hi' hk' hlt h => hp i' k' hi' hk' (by omega) h
theorem LdP.zero : LdP g n r 0 0 O := fun i' k' _ _ h => by omega
theorem Ld.next (h : Ld g n r O) (hp : LdP g n r n 0 O) : Ld g n (r + 1) O := ⟨h.len, h.snd, fun i hi x hx => by
 rcases hx with ⟨hg, hx⟩ | ⟨j, hj, hg, hx⟩
 ·exact (hp i x hi hx (.inl hi) hg).1
 ·exact (hp i j hi hj (.inl hi) hg).2 x hx⟩
theorem qh4 {j x : Nat} (hx : x < n) (hg : g j x = true) : ∀ {r i : Nat}, j < n -> Pl g n r i j -> Pl g n (r + 1) i x
 | r + 1, i, hj, .inl ⟨h1, _⟩ => .inr ⟨j, hj, h1, .inl ⟨hg, hx⟩⟩
 | r + 1, i, hj, .inr ⟨y, hy, h1, h2⟩ => .inr ⟨y, hy, h1, qh4 hx hg hj h2⟩
theorem qh5 {x : Nat} : ∀ {r i : Nat}, Pl g n r i x -> Pl g n (r + 1) i x
 | r + 1, _, .inl h => .inl h
 | r + 1, _, .inr ⟨y, hy, h1, h2⟩ => .inr ⟨y, hy, h1, qh5 h2⟩
theorem qiW {x : Nat} : ∀ {m : Nat}, x ∈ rB g n i m -> Pl g n (m + 1) i x
 | 0, h => .inl ⟨(List.mem_filter.1 h).2, List.mem_range.1 (List.mem_filter.1 h).1⟩
 | m + 1, h => by
  have hx := qdS h;rw [rB] at h;have h2 := (List.mem_filter.1 h).2;rw [Bool.or_eq_true, decide_eq_true_eq, List.any_eq_true] at h2
  rcases h2 with h2 | ⟨j, h2, h3⟩
  ·exact qh5 (qiW h2)
  ·exact qh4 hx h3 (qdS h2) (qiW h2)
end
def mkB (f : Nat -> Bool) : Nat -> Nat
 | 0 => 0
 | n + 1 => mkB f n ||| (if f n then 2 ^ n else 0)
theorem qcs {f : Nat -> Bool} {k : Nat} : ∀ {n : Nat}, (mkB f n).testBit k = (decide (k < n) && f k)
 | 0 => by simp [mkB]
 | n + 1 => by
  rw [mkB, Nat.testBit_or, qcs]
  by_cases e : k = n
  ·subst e
   cases hf : f k with
   | true => simp only [if_true, Nat.testBit_two_pow]; simp
   | false => simp
  ·have e2 : decide (k < n + 1) = decide (k < n) := by rw [decide_eq_decide]; omega
   rw [e2]
   cases hf : f n with
   | true =>
    simp only [if_true, Nat.testBit_two_pow];rw [show decide (n = k) = false from decide_eq_false (by omega), Bool.or_false]
   | false => simp
def leadB (g : Nat -> Nat -> Bool) (n i : Nat) : Nat := mkB (fun k => decide (k ∈ rB g n i n)) n
def leadsL (N : List (List Int)) : List Nat := (List.range N.length).map (leadB (gr N) N.length)
theorem qaI {g : Nat -> Nat -> Bool} {n i k : Nat} : (leadB g n i).testBit k = true ↔ Reach g n i k := by
 unfold leadB;rw [qcs, Bool.and_eq_true, decide_eq_true_eq, decide_eq_true_eq, qo];exact ⟨fun h => h.2, fun h => ⟨qdS h, h⟩⟩
theorem Ld.eq {N : List (List Int)} {O : List Nat} (h : Ld (gr N) N.length (N.length + 1) O) : O = leadsL N := by
 apply List.ext_getElem?
 intro i;unfold leadsL;rw [List.getElem?_map]
 by_cases hi : i < N.length
 ·rw [List.getElem?_range hi, Option.map_some]
  have e : O[i]? = some (gt O i) := by unfold gt; rw [List.getElem?_eq_getElem (by rw [h.len]; exact hi)]; rfl
  rw [e];refine congrArg some (Nat.eq_of_testBit_eq fun k => ?_)
  rw [Bool.eq_iff_iff, qaI];refine ⟨fun hb => (h.snd i k hb).2, fun hr => h.cmp i hi k ?_⟩
  exact qiW (qo.1 hr)
 ·rw [List.getElem?_eq_none (by rw [h.len]; omega), List.getElem?_eq_none (by simpa using hi)]; rfl
theorem qev {O : List Nat} {i y : Nat} : (nats O).set i (y : Int) = nats (O.set i y) := by unfold nats; rw [List.map_set]
theorem qew {O : List Nat} {i : Nat} (h : i < O.length) : (nats O)[i]? = some ((gt O i : Nat) : Int) := by
 unfold nats gt;rw [List.getElem?_map, List.getElem?_eq_getElem h]; rfl
set_option maxHeartbeats 1000000 in
theorem k94 {s : Int} {N : List (List Int)} {p : List Int} (hn4 : N.length <= 4) (hsq : ∀ l ∈ N, l.length = N.length) : E.Fn Tryz.prog 94 [mc s N p] [ints (nats (leadsL N))] := by
 refine fn_of_row qrp ?_;have hpw : 2 ^ N.length <= 2 ^ 4 := Nat.pow_le_pow_right (by decide) hn4
 have hp62 : (2 : Nat) ^ 4 < 2 ^ 62 := by decide
 simp only [FRow.start, f94, c94r0, c94r1, c94r2, mc, SV.cells, intss, go_sem, Nat.reduceAdd, Nat.reduceSub, Nat.reduceLT, Nat.reduceLeDiff, true_implies];intro _;rw [q7];have h0 : (List.replicate N.length (0 : Int)).map (SV.int .i64) = (nats (List.replicate N.length 0)).map (.int .i64) := by unfold nats; rw [List.map_replicate (f := fun k : Nat => (k : Int))]; rfl
 rw [h0];refine ⟨by omega, by omega, ?_⟩
 simp only [c94r3, go_sem, true_implies];have hgr : ∀ i k, gr N i k = decide (0 < tn N i k) := fun _ _ => rfl
 generalize hg : gr N = g at *
 refine qe (fun m τ => ∃ (r : Nat) (O : List Nat), m = N.length + 1 - r /\ r <= N.length + 1 /\ Ld g N.length r O /\
  τ = ⟨(aN::(.s (.ptr [.int .i64 s, intss N, ints p]))::aN::(aI N.length)::(.sl 0 0 N.length 1 true)::(aI r)::aN::aN::aN::aN::aN::aZ40), [.row ((nats O).map (.int .i64))]⟩) (N.length + 1) rfl ?_ ?_
 ·simp only [c94l16m, go_sem, ↓reduceIte, reduceCtorEq, Nat.reduceLeDiff]
  refine ⟨0, _, rfl, Nat.zero_le _, ⟨by simp, fun i k h => ?_, fun i _ k h => (by cases h)⟩, rfl⟩
  have : gt (List.replicate N.length 0) i = 0 := by
   unfold gt;rw [List.getElem?_replicate]
   split <;> rfl
  rw [this] at h;simp at h
 ·rintro I m τ ⟨r, O, rfl, hr, hL, rfl⟩ hI
  simp only [c94l16, c94r4, go_sem, ↓reduceIte, true_implies];refine ⟨fun hlt => ?_, fun hge => ?_⟩
  ·have hlt : r < N.length + 1 := by omega
   simp only [c94r5, go_sem, true_implies]
   refine qe (fun m τ => ∃ (i : Nat) (O : List Nat), m = N.length - i /\ i <= N.length /\ Ld g N.length r O /\ LdP g N.length r i 0 O /\
    τ = ⟨(aN::(.s (.ptr [.int .i64 s, intss N, ints p]))::aN::(aI N.length)::(.sl 0 0 N.length 1 true)::(aI r)::(aI i)::aN::aN::aN::aN::aZ40), [.row ((nats O).map (.int .i64))]⟩) N.length rfl ?_ ?_
   ·simp only [c94l14m, go_sem, ↓reduceIte, reduceCtorEq, Nat.reduceLeDiff]
    exact ⟨0, O, rfl, Nat.zero_le _, hL, LdP.zero, rfl⟩
   ·rintro I2 m τ ⟨i, O, rfl, hi, hL, hP, rfl⟩ hI2
    simp only [c94l14, c94r6, go_sem, ↓reduceIte, true_implies];refine ⟨fun hlt2 => ?_, fun hge => ?_⟩
    ·have hlt2 : i < N.length := by omega
     have hx : N[i]? = some N[i] := List.getElem?_eq_getElem hlt2;have hl := hsq _ (List.getElem_mem hlt2);have htn : ∀ k, tn N i k = (N[i][k]?).getD 0 := fun k => by unfold tn; rw [hx]; rfl
     generalize N[i] = l at hx hl htn;simp only [c94r7, go_sem, true_implies]
     refine qe (fun m τ => ∃ (k : Nat) (O : List Nat), m = N.length - k /\ k <= N.length /\ Ld g N.length r O /\ LdP g N.length r i k O /\
      τ = ⟨(aN::(.s (.ptr [.int .i64 s, intss N, ints p]))::aN::(aI N.length)::(.sl 0 0 N.length 1 true)::(aI r)::(aI i)::(aI k)::aN::aN::aN::aZ40), [.row ((nats O).map (.int .i64))]⟩) N.length rfl ?_ ?_
     ·simp only [c94l12m, go_sem, ↓reduceIte, reduceCtorEq, Nat.reduceLeDiff]
      exact ⟨0, O, rfl, Nat.zero_le _, hL, hP, rfl⟩
     ·rintro I3 m τ ⟨k, O, rfl, hk, hL, hP, rfl⟩ hI3
      simp only [c94l12, c94r8, go_sem, ↓reduceIte, true_implies];refine ⟨fun hlt3 => ?_, fun hge => ?_⟩
      ·have hlt3 : k < N.length := by omega
       obtain ⟨z, hz⟩ : ∃ z, l[k]? = some z := ⟨_, List.getElem?_eq_getElem (by omega)⟩
       have hgz : g i k = decide (0 < z) := by rw [hgr, htn, hz]; rfl
       have hOl := hL.len;have hOi := qew (O := O) (i := i) (by omega)
       have hOk := qew (O := O) (i := k) (by omega)
       have hb1 := hL.lt (i := i);have hb2 := hL.lt (i := k);simp only [c94r9, intss, hx, ints, hz, go_sem, Nat.reduceAdd, Nat.reduceLeDiff, true_implies]
       by_cases h0 : 0 < z
       ·have hg1 : g i k = true := by rw [hgz]; exact decide_eq_true h0
        have hL2 := hL.put hlt2 hlt3 hg1;have hP2 := hP.put hL hlt2 hlt3;have hpk : 2 ^ k < 2 ^ 62 := Nat.pow_lt_pow_right (by decide) (by omega)
        have ho1 : 2 ^ k ||| gt O k < 2 ^ 62 := Nat.or_lt_two_pow hpk (by omega)
        simp only [h0, c94r10, Nat.mul_one, hOi, hOk, go_sem, not_true_eq_false, false_implies, true_implies];rw [qnu, qgR hpk (by omega), qgR (by omega) ho1, spl_row (R := nats O) (by simp [nats]; omega), qev]
        have hip : inR .i64 ((2 ^ k : Nat) : Int) := by
         generalize 2 ^ k = q at hpk;exact qb (by omega) (by omega)
        refine ⟨hlt2, by omega, hip, hlt3, hlt2, by simp [nats]; omega, ?_⟩
        simp only [c94r11, c94l12m, go_sem, ↓reduceIte, reduceCtorEq, Nat.reduceLeDiff, true_implies];exact ⟨qb (by omega) (by omega), hI3 (N.length - (k + 1)) _ (by omega) ⟨k + 1, _, rfl, by omega, hL2, hP2, rfl⟩⟩
       ·have hg0 : g i k = false := by rw [hgz]; exact decide_eq_false h0
        simp only [h0, c94r11, c94l12m, go_sem, ↓reduceIte, reduceCtorEq, Nat.reduceLeDiff, false_implies, true_implies, not_false_eq_true];exact ⟨qb (by omega) (by omega), hI3 (N.length - (k + 1)) _ (by omega) ⟨k + 1, O, rfl, by omega, hL, hP.skip hg0, rfl⟩⟩
      ·have hke : k = N.length := by omega
       subst hke;simp only [c94r13, c94l14m, go_sem, ↓reduceIte, reduceCtorEq, Nat.reduceLeDiff, true_implies];exact ⟨qb (by omega) (by omega), hI2 (N.length - (i + 1)) _ (by omega) ⟨i + 1, O, rfl, by omega, hL, hP.row, rfl⟩⟩
    ·have hie : i = N.length := by omega
     subst hie;simp only [c94r15, c94l16m, go_sem, ↓reduceIte, reduceCtorEq, Nat.reduceLeDiff, true_implies];exact ⟨qb (by omega) (by omega), hI (N.length + 1 - (r + 1)) _ (by omega) ⟨r + 1, O, rfl, by omega, hL.next hP, rfl⟩⟩
  ·have hre : r = N.length + 1 := by omega
   subst hre;subst hg;have hO := hL.eq;have hOl := hL.len;simp only [c94r17, go_sem, true_implies];rw [<- hO];refine qkf (qdE (L := nats O) (by simp [nats, hOl])) ?_
   rfl
section
variable {g : Nat -> Nat -> Bool} {n : Nat}
theorem qnv {i k : Nat} (h : ∀ x, Reach g n i x ↔ Reach g n k x) : rB g n i n = rB g n k n := by
 rw [qab (i := i), qab (i := k)];refine List.filter_congr fun x _ => ?_
 rw [Bool.eq_iff_iff, decide_eq_true_eq, decide_eq_true_eq, <- qo, <- qo];exact h x
theorem scc {i k : Nat} (h1 : Reach g n i k) (h2 : Reach g n k i) : ∀ x, Reach g n i x ↔ Reach g n k x := fun _ => ⟨qD h2, qD h1⟩
def clsd (g : Nat -> Nat -> Bool) (n i : Nat) : Prop := ∀ k, Reach g n i k -> Reach g n k i
theorem qA {i : Nat} : isPC g n i = true ↔ Reach g n i i /\ ∀ k, Reach g n i k -> i <= k /\ ∀ x, Reach g n k x ↔ Reach g n i x := by
 unfold isPC;rw [Bool.and_eq_true, decide_eq_true_eq, List.all_eq_true, <- qo];refine and_congr Iff.rfl ⟨fun h k hk => ?_, fun h k hk => ?_⟩
 ·have h1 := h k (qo.1 hk)
  simp only [Bool.and_eq_true, decide_eq_true_eq] at h1;exact ⟨h1.1, fun x => by rw [qo, qo, h1.2]⟩
 ·obtain ⟨h1, h2⟩ := h k (qo.2 hk)
  simp only [Bool.and_eq_true, decide_eq_true_eq];exact ⟨h1, qnv h2⟩
theorem qdF {i : Nat} (h : isPC g n i = true) : clsd g n i := fun k hk => by
 obtain ⟨h1, h2⟩ := qA.1 h;exact ((h2 k hk).2 i).2 h1
theorem qfO {i : Nat} (hi : Reach g n i i) (h : clsd g n i) : ∃ c, isPC g n c = true /\ c <= i /\ Reach g n c i /\ Reach g n i c := by
 have hex : ∃ c, Reach g n i c := ⟨i, hi⟩
 induction i using Nat.strongRecOn with
 | _ i ih =>
  by_cases hm : ∃ k, k < i /\ Reach g n i k
  ·obtain ⟨k, hk, hr⟩ := hm
   have hb := h k hr;have hs := scc hr hb;have hkk : Reach g n k k := (hs k).1 hr;obtain ⟨c, h1, h2, h3, h4⟩ := ih k hk hkk (fun x hx => (scc hr hb |> fun _ => qD (h x ((hs x).2 hx)) hr)) ⟨k, hkk⟩
   exact ⟨c, h1, by omega, qD h3 hb, qD hr h4⟩
  ·refine ⟨i, qA.2 ⟨hi, fun k hk => ⟨?_, fun x => (scc hk (h k hk) x).symm⟩⟩, Nat.le_refl _, hi, hi⟩
   exact Nat.le_of_not_lt fun hlt => hm ⟨k, hlt, hk⟩
theorem qlR {i : Nat} (hgo : ∃ k, Reach g n i k) : (clsd g n i /\ ∀ c, c < i -> isPC g n c = true -> ¬ Reach g n c i) ↔ isPC g n i = true := by
 constructor
 ·rintro ⟨h1, h2⟩
  obtain ⟨k, hk⟩ := hgo;have hii : Reach g n i i := qD hk (h1 k hk);obtain ⟨c, h3, h4, h5, h6⟩ := qfO hii h1
  by_cases e : c = i
  ·rw [<- e]; exact h3
  ·exact absurd h5 (h2 c (by omega) h3)
 ·intro h
  refine ⟨qdF h, fun c hc hp hr => ?_⟩
  have h1 := qdF hp i hr;have := ((qA.1 h).2 c h1).1;omega
end
theorem qhI {g : Nat -> Nat -> Bool} {n m : Nat} : partsC g n (m + 1) = if isPC g n m = true then partsC g n m ++ [rchC g n m] else partsC g n m := by
 unfold partsC;rw [List.range_succ, List.filter_append, List.map_append]
 by_cases h : isPC g n m = true
 ·rw [if_pos h]; simp [h]
 ·rw [if_neg h]; simp [h]
theorem qiX {g : Nat -> Nat -> Bool} {n m : Nat} : (partsC g n m).length <= m := by
 unfold partsC;rw [List.length_map];exact Nat.le_trans (List.length_filter_le _ _) (by simp)
theorem qkz {g : Nat -> Nat -> Bool} {n i : Nat} : lstd (leadB g n i) n = rchC g n i := by
 unfold lstd fl rchC;rw [qab (m := n)];refine congrArg _ (List.filter_congr fun k _ => ?_)
 rw [Bool.eq_iff_iff, qaI, decide_eq_true_eq, qo]
theorem qe4 {g : Nat -> Nat -> Bool} {n i : Nat} : leadB g n i < 2 ^ n := Nat.lt_pow_two_of_testBit _ fun k hk => by
 cases hb : (leadB g n i).testBit k with
 | false => rfl
 | true => have := (qaI.1 hb).lt; omega
theorem qlS {N : List (List Int)} {i : Nat} (hi : i < N.length) : gt (leadsL N) i = leadB (gr N) N.length i := by
 unfold gt leadsL;rw [List.getElem?_map, List.getElem?_range hi]; rfl
theorem qkA {N : List (List Int)} : (leadsL N).length = N.length := by simp [leadsL]
set_option maxHeartbeats 2000000 in
theorem k53 {s : Int} {N : List (List Int)} {p : List Int} (hn4 : N.length <= 4) (hsq : ∀ l ∈ N, l.length = N.length) (hgo : goOn N) : E.Fn Tryz.prog 53 [mc s N p] [intss (parts N)] := by
 refine fn_of_row qqT ?_;have hpw : 2 ^ N.length <= 2 ^ 4 := Nat.pow_le_pow_right (by decide) hn4
 have hp62 : (2 : Nat) ^ 4 < 2 ^ 62 := by decide
 have h26 := k94 (s := s) (p := p) hn4 hsq;simp only [FRow.start, f53, c53r0, c53r1, mc, SV.cells, List.length_cons, List.length_nil, go_sem, Nat.reduceAdd, Nat.reduceSub, true_implies];refine qa rfl h26 (.inr (.inl rfl)) ?_
 have hLl := qkA (N := N);have hnl : (nats (leadsL N)).length = N.length := by simp [nats, leadsL]
 have hgo2 : ∀ i, i < N.length -> ∃ k, Reach (gr N) N.length i k := fun i hi => by
  obtain ⟨k, hk, h⟩ := hgo i hi;exact ⟨k, .one (by simpa [gr] using h) hk⟩
 have hget : ∀ i, i < N.length -> (nats (leadsL N))[i]? = some ((leadB (gr N) N.length i : Nat) : Int) := fun i hi => by
  rw [qew (by omega), qlS hi]
 have h61 : ∀ i, E.Fn Tryz.prog 95 [.int .i64 (leadB (gr N) N.length i : Nat), .int .i64 N.length] [ints (rchC (gr N) N.length i)] := fun i => by
  rw [<- qkz];exact k95 (Nat.lt_of_lt_of_le qe4 (by omega)) (by omega)
 unfold parts;generalize hg : gr N = g at *;have hlb : ∀ i, leadB g N.length i < 2 ^ 62 := fun i => Nat.lt_of_lt_of_le qe4 (by omega)
 generalize nats (leadsL N) = L at *;simp only [c53r2, ints, hnl, c53r3, c53r4, c53r5, go_sem, true_implies];intro _
 refine qe (fun m τ => ∃ i tk : Nat, m = N.length - i /\ i <= N.length /\ tk < 2 ^ N.length /\ (∀ x, tk.testBit x = true ↔ ∃ c, c < i /\ isPC g N.length c = true /\ Reach g N.length c x) /\
  τ = ⟨(aN::aN::aN::(.s (ints L))::(aI N.length)::(.sl 0 0 (partsC g N.length i).length 1 false)::(aI tk)::(aI i)::aN::aN::aZ56), [.row ((partsC g N.length i).map ints)]⟩) N.length (qY rfl) ?_ ?_
 ·simp only [c53l18m, go_sem, ↓reduceIte, reduceCtorEq, Nat.reduceLeDiff]
  exact ⟨0, 0, rfl, Nat.zero_le _, Nat.two_pow_pos _, fun x => by simp, rfl⟩
 ·rintro I m τ ⟨i, tk, rfl, hi, htk, htb, rfl⟩ hI
  simp only [c53l18, c53r6, go_sem, ↓reduceIte, true_implies];refine ⟨fun hlt => ?_, fun hge => ?_⟩
  ·have hlt : i < N.length := by omega
   have hLi := hget i hlt;have hps := qhI (g := g) (n := N.length) (m := i);have hpl := qiX (g := g) (n := N.length) (m := i);have hcl := qlR (hgo2 i hlt);simp only [c53r7, c53r8, go_sem, true_implies]
   refine qe (fun m τ => ∃ k : Nat, m = N.length - k /\ k <= N.length /\ ∃ b : Bool, (b = true ↔ ∀ x, x < k -> Reach g N.length i x -> Reach g N.length x i) /\
    τ = ⟨(aN::aN::aN::(.s (ints L))::(aI N.length)::(.sl 0 0 (partsC g N.length i).length 1 false)::(aI tk)::(aI i)::(.s (.bool b))::(aI k)::aZ56), [.row ((partsC g N.length i).map ints)]⟩) N.length rfl ?_ ?_
   ·simp only [c53l13m, go_sem, ↓reduceIte, reduceCtorEq, Nat.reduceLeDiff]
    exact ⟨0, rfl, Nat.zero_le _, true, by simp, rfl⟩
   ·rintro I2 m τ ⟨k, rfl, hk, b, hb, rfl⟩ hI2
    simp only [c53l13, c53r9, go_sem, ↓reduceIte, true_implies];refine ⟨fun hlt2 => ?_, fun hge => ?_⟩
    ·have hlt2 : k < N.length := by omega
     have hLk := hget k hlt2
     have fin : ∀ b' : Bool, (b' = true ↔ ∀ x, x < k + 1 -> Reach g N.length i x -> Reach g N.length x i) -> I2 ⟨(aN::aN::aN::(.s (ints L))::(aI N.length)::(.sl 0 0 (partsC g N.length i).length 1 false)::(aI tk)::(aI i)::(.s (.bool b'))::(aI (k + 1))::aZ56), [.row ((partsC g N.length i).map ints)]⟩ :=
      fun b' h => hI2 (N.length - (k + 1)) _ (by omega) ⟨k + 1, rfl, by omega, b', h, rfl⟩
     have hstep : (∀ x, x < k + 1 -> Reach g N.length i x -> Reach g N.length x i) ↔ (∀ x, x < k -> Reach g N.length i x -> Reach g N.length x i) /\ (Reach g N.length i k -> Reach g N.length k i) := by
      constructor
      ·exact fun h => ⟨fun x hx => h x (by omega), h k (by omega)⟩
      ·rintro ⟨h1, h2⟩ x hx
       by_cases e : x = k
       ·rw [e]; exact h2
       ·exact h1 x (by omega)
     simp only [c53r10, ints, hLi, go_sem, true_implies];refine ⟨by omega, ?_⟩
     rw [qdU (hlb _)]
     by_cases h1 : Reach g N.length i k
     ·have h1b := qaI.2 h1
      simp only [h1b, hLk, go_sem, ↓reduceIte, not_true_eq_false, false_implies, true_implies];refine ⟨by omega, ?_⟩
      rw [qdU (hlb _)]
      by_cases h2 : Reach g N.length k i
      ·have h2b := qaI.2 h2
       simp only [h2b, Int.reduceEq, c53r12, c53l13m, go_sem, ↓reduceIte, reduceCtorEq, Nat.reduceLeDiff, false_implies, true_implies, not_false_eq_true];exact ⟨qb (by omega) (by omega), fin b (by rw [hb, hstep]; exact ⟨fun h => ⟨h, fun _ => h2⟩, fun h => h.1⟩)⟩
      ·have h2b : (leadB g N.length k).testBit i = false := by rw [<- Bool.not_eq_true, qaI]; exact h2
       simp only [h2b, c53r11, c53r12, c53l13m, go_sem, ↓reduceIte, reduceCtorEq, Nat.reduceLeDiff, not_true_eq_false, false_implies, true_implies];exact ⟨qb (by omega) (by omega), fin false (by rw [hstep]; simp only [Bool.false_eq_true, false_iff, not_and]; exact fun _ h => h2 (h h1))⟩
     ·have h1b : (leadB g N.length i).testBit k = false := by rw [<- Bool.not_eq_true, qaI]; exact h1
      simp only [h1b, Int.reduceEq, c53r12, c53l13m, go_sem, ↓reduceIte, reduceCtorEq, Nat.reduceLeDiff, false_implies, true_implies, not_false_eq_true];exact ⟨qb (by omega) (by omega), fin b (by rw [hb, hstep]; exact ⟨fun h => ⟨h, fun h => absurd h h1⟩, fun h => h.1⟩)⟩
    ·have hke : k = N.length := by omega
     subst hke
     have hbc : b = true ↔ clsd g N.length i := by
      rw [hb];exact ⟨fun h x hx => h x hx.lt hx, fun h x _ hx => h x hx⟩
     have htk62 : tk < 2 ^ 62 := by omega
     have hno : ¬ isPC g N.length i = true -> ∀ x, tk.testBit x = true ↔ ∃ c, c < i + 1 /\ isPC g N.length c = true /\ Reach g N.length c x := fun hnp x => by
      rw [htb];constructor
      ·rintro ⟨c, h1, h2⟩; exact ⟨c, by omega, h2⟩
      ·rintro ⟨c, h1, h2⟩
       refine ⟨c, ?_, h2⟩
       rcases Nat.lt_succ_iff_lt_or_eq.1 h1 with h | h
       ·exact h
       ·rw [h] at h2; exact absurd h2.1 hnp
     simp only [c53r14, go_sem]
     cases hbv : b with
     | false =>
      have hnp : ¬ isPC g N.length i = true := fun h => by
       have := hbc.2 (hcl.2 h).1;rw [hbv] at this; cases this
      rw [if_neg hnp] at hps;simp only [c53r17, c53l18m, go_sem, ↓reduceIte, reduceCtorEq, Nat.reduceLeDiff, true_implies];exact ⟨qb (by omega) (by omega), hI (N.length - (i + 1)) _ (by omega) ⟨i + 1, tk, rfl, by omega, htk, hno hnp, by rw [hps]; rfl⟩⟩
     | true =>
      simp only [go_sem, true_implies];refine ⟨by omega, ?_⟩
      rw [qdU htk62]
      cases htb2 : tk.testBit i with
      | true =>
       have hnp : ¬ isPC g N.length i = true := fun h => by
        obtain ⟨c, h1, h2, h3⟩ := (htb i).1 htb2;exact (hcl.2 h).2 c h1 h2 h3
       rw [if_neg hnp] at hps;simp only [Int.reduceEq, c53r17, c53l18m, go_sem, ↓reduceIte, reduceCtorEq, Nat.reduceLeDiff, false_implies, true_implies, not_false_eq_true];exact ⟨qb (by omega) (by omega), hI (N.length - (i + 1)) _ (by omega) ⟨i + 1, tk, rfl, by omega, htk, hno hnp, by rw [hps]; rfl⟩⟩
      | false =>
       have hp : isPC g N.length i = true := hcl.1 ⟨hbc.1 hbv, fun c h1 h2 h3 => by
        have := (htb i).2 ⟨c, h1, h2, h3⟩;rw [htb2] at this; cases this⟩
       rw [if_pos hp] at hps
       have e3 : (partsC g N.length i).map ints ++ flatE [SV.slice ((rchC g N.length i).map (.int .i64))] = (partsC g N.length (i + 1)).map ints := by
        rw [hps, List.map_append]; rfl
       have hor : tk ||| leadB g N.length i < 2 ^ N.length := Nat.or_lt_two_pow htk qe4
       have hle := hlb i;simp only [Bool.false_eq_true, c53r15, ints, hLi, go_sem, ↓reduceIte, not_true_eq_false, false_implies, true_implies];refine qa (by simp only [go_sem]) (h61 i) (.inr (.inl (by simp only [go_sem]))) ?_
       simp only [Nat.reduceBEq, go_sem, ↓reduceIte, Nat.reduceAdd, Nat.reduceMul, true_implies];refine ⟨by decide, by decide, rfl, qaU rfl, qaU rfl, by simp, by omega, by omega, ?_⟩
       simp only [e3, c53r16, ints, hLi, go_sem, Nat.reduceAdd, true_implies];rw [qgR htk62 hle];simp only [c53r17, c53l18m, go_sem, ↓reduceIte, reduceCtorEq, Nat.reduceLeDiff, true_implies];refine ⟨qb (by omega) (by omega), hI (N.length - (i + 1)) _ (by omega) ⟨i + 1, tk ||| leadB g N.length i, rfl, by omega, hor, fun x => ?_, ?_⟩⟩
       ·rw [Nat.testBit_or, Bool.or_eq_true, htb, qaI]
        constructor
        ·rintro (⟨c, h1, h2⟩ | h)
         ·exact ⟨c, by omega, h2⟩
         ·exact ⟨i, by omega, hp, h⟩
        ·rintro ⟨c, h1, h2, h3⟩
         rcases Nat.lt_succ_iff_lt_or_eq.1 h1 with h | h
         ·exact .inl ⟨c, h, h2, h3⟩
         ·rw [h] at h3; exact .inr h3
       ·rw [hps, List.length_append]; rfl
  ·have hie : i = N.length := by omega
   subst hie;have hsl : sliceOf 0 (partsC g N.length N.length).length 1 ((partsC g N.length N.length).map ints) = some (intss (partsC g N.length N.length)) := qaC;simp only [c53r19, hsl, go_sem, true_implies]
   done
theorem k61 {s : Int} {N : List (List Int)} {p : List Int} : E.Fn Tryz.prog 61 [mc s N p] [.int .i64 (setE s N p)] := by
 refine fn_of_row qqZ ?_;have h15 := k52 (s := s) (N := N) (p := p);unfold setE;simp only [FRow.start, f61, c61r0, c61r1, mc, SV.cells, List.length_cons, List.length_nil, go_sem, Nat.reduceAdd, Nat.reduceSub, true_implies];refine qa rfl h15 (.inl rfl) ?_
 by_cases h0 : chkM s N p = 0
 ·have hM := qH.1 h0
  rw [if_pos h0];simp only [h0, c61r3, List.length_cons, List.length_nil, go_sem, Nat.reduceAdd, true_implies];refine qa rfl (k53 (s := s) (p := p) hM.n4 hM.sq hM.goOn) (.inr (.inl rfl)) ?_
  simp only [intss, go_sem];intro _
  by_cases h1 : 1 < (parts N).length
  ·rw [if_pos h1]
   refine ⟨fun _ => ?_, fun h => absurd (by omega) h⟩
   simp only [c61r4, go_sem, true_implies]
   done
  ·rw [if_neg h1]
   refine ⟨fun h => absurd h (by omega), fun _ => ?_⟩
   simp only [c61r5, go_sem, true_implies]
   done
 ·rw [if_neg h0]
  simp only [h0, c61r2, List.length_cons, List.length_nil, go_sem, Nat.reduceAdd, true_implies];refine qa rfl h15 (.inl rfl) ?_
  simp only [go_sem, true_implies]
  done
def rats (l : List (Int × Int)) : SV := .slice (l.map rat)
@[go_sem] theorem qt9 {l : List (Int × Int)} : (rats l).isAgg = false := rfl
@[go_sem] theorem qpC {l : List (Int × Int)} : (rats l).cells = [rats l] := rfl
theorem k85 {xs ys : List Int} : E.Fn Tryz.prog 85 [ints xs, ints ys] [.bool (decide (xs = ys))] := by
 refine fn_of_row qrg ?_;generalize hrs : decide (xs = ys) = rs;have hrs : xs = ys ↔ rs = true := by rw [<- hrs, decide_eq_true_eq]
 simp only [FRow.start, f85, c85r0, c85r1, ints, go_sem, Nat.reduceAdd, Nat.reduceSub, true_implies];rintro ⟨hlx, hly⟩;have hlx' : (xs.length : Int) <= 2 ^ 63 - 1 := Int.le_trans (Int.ofNat_le.mpr hlx) qan;refine ⟨fun h1 => ?_, fun h1 => ?_⟩
 ·have hl : xs.length = ys.length := by omega
  simp only [c85r3, go_sem, true_implies]
  refine qe (fun n τ => ∃ i : Nat, n = xs.length - i /\ i <= xs.length /\ (xs.drop i = ys.drop i ↔ rs = true) /\
   τ = ⟨((.s (ints xs))::(.s (ints ys))::aN::aN::aN::(aI i)::aN::aN::aN::aN::aZ16), []⟩) xs.length rfl ?_ ?_
  ·simp only [c85l8m, go_sem]
   exact ⟨0, rfl, Nat.zero_le _, hrs, rfl⟩
  ·rintro I n τ ⟨i, rfl, hi, hc, rfl⟩ hI
   simp only [c85l8, c85r4, ints, go_sem, ↓reduceIte];intro _;refine ⟨fun hlt => ?_, fun hge => ?_⟩
   ·have hlt : i < xs.length := by omega
    have hx : xs[i]? = some xs[i] := List.getElem?_eq_getElem hlt;have hy : ys[i]? = some (ys[i]'(by omega)) := List.getElem?_eq_getElem _
    rw [List.drop_eq_getElem_cons hlt, List.drop_eq_getElem_cons (by omega : i < ys.length), List.cons.injEq] at hc
    generalize xs[i] = x at hx hc;generalize ys[i]'(by omega) = y at hy hc
    simp only [c85r5, hx, hy, go_sem, true_implies];refine ⟨fun h2 => ?_, fun h2 => ?_⟩
    ·simp only [h2, true_and] at hc
     simp only [c85r7, c85l8m, go_sem, true_implies];exact ⟨qb (by omega) (by omega), hI (xs.length - (i + 1)) _ (by omega) ⟨i + 1, rfl, by omega, hc, rfl⟩⟩
    ·have hc : rs = false := by
      cases rs
      ·rfl
      ·exact absurd (hc.2 rfl).1 h2
     subst hc;simp only [c85r6, go_sem, true_implies]
   ·have hie : i = xs.length := by omega
    subst hie;rw [List.drop_length, List.drop_eq_nil_of_le (by omega)] at hc
    have hc : rs = true := hc.1 rfl;subst hc;simp only [c85r9, go_sem, true_implies]
 ·have hc : rs = false := by
   cases rs
   ·rfl
   ·exact absurd (by rw [hrs.2 rfl]) h1
  subst hc;simp only [c85r2, go_sem, true_implies]
theorem k46 {xs ys : List (List Int)} : E.Fn Tryz.prog 46 [intss xs, intss ys] [.bool (decide (xs = ys))] := by
 refine fn_of_row qqM ?_;generalize hrs : decide (xs = ys) = rs;have hrs : xs = ys ↔ rs = true := by rw [<- hrs, decide_eq_true_eq]
 simp only [FRow.start, f46, c46r0, c46r1, intss, go_sem, Nat.reduceAdd, Nat.reduceSub, true_implies];rintro ⟨hlx, hly⟩;have hlx' : (xs.length : Int) <= 2 ^ 63 - 1 := Int.le_trans (Int.ofNat_le.mpr hlx) qan;refine ⟨fun h1 => ?_, fun h1 => ?_⟩
 ·have hl : xs.length = ys.length := by omega
  simp only [c46r3, go_sem, true_implies]
  refine qe (fun n τ => ∃ i : Nat, n = xs.length - i /\ i <= xs.length /\ (xs.drop i = ys.drop i ↔ rs = true) /\
   τ = ⟨((.s (intss xs))::(.s (intss ys))::aN::aN::aN::(aI i)::aN::aN::aN::aN::aN::aZ16), []⟩) xs.length rfl ?_ ?_
  ·simp only [c46l8m, go_sem]
   exact ⟨0, rfl, Nat.zero_le _, hrs, rfl⟩
  ·rintro I n τ ⟨i, rfl, hi, hc, rfl⟩ hI
   simp only [c46l8, c46r4, intss, go_sem, ↓reduceIte];intro _;refine ⟨fun hlt => ?_, fun hge => ?_⟩
   ·have hlt : i < xs.length := by omega
    have hx : xs[i]? = some xs[i] := List.getElem?_eq_getElem hlt;have hy : ys[i]? = some (ys[i]'(by omega)) := List.getElem?_eq_getElem _
    rw [List.drop_eq_getElem_cons hlt, List.drop_eq_getElem_cons (by omega : i < ys.length), List.cons.injEq] at hc
    generalize xs[i] = x at hx hc;generalize ys[i]'(by omega) = y at hy hc
    simp only [c46r5, hx, hy, go_sem];refine qa (by simp only [ints, go_sem]) (k85 (xs := x) (ys := y)) (.inl rfl) ?_
    by_cases h2 : x = y
    ·simp only [h2, true_and] at hc
     simp only [h2, c46r7, c46l8m, go_sem, true_implies];exact ⟨qb (by omega) (by omega), hI (xs.length - (i + 1)) _ (by omega) ⟨i + 1, rfl, by omega, hc, rfl⟩⟩
    ·have hc : rs = false := by
      cases rs
      ·rfl
      ·exact absurd (hc.2 rfl).1 h2
     subst hc;simp only [h2, c46r6, go_sem, true_implies]
   ·have hie : i = xs.length := by omega
    subst hie;rw [List.drop_length, List.drop_eq_nil_of_le (by omega)] at hc
    have hc : rs = true := hc.1 rfl;subst hc;simp only [c46r9, go_sem, true_implies]
 ·have hc : rs = false := by
   cases rs
   ·rfl
   ·exact absurd (by rw [hrs.2 rfl]) h1
  subst hc;simp only [c46r2, go_sem, true_implies]
theorem qnw {x y : Int × Int} (h : SV.agg [.int .i64 x.1, .int .i64 x.2] = SV.agg [.int .i64 y.1, .int .i64 y.2]) : x = y := by
 simp only [SV.agg.injEq, List.cons.injEq, SV.int.injEq, true_and, and_true] at h;exact Prod.ext h.1 h.2
theorem k21 {xs ys : List (Int × Int)} : E.Fn Tryz.prog 21 [rats xs, rats ys] [.bool (decide (xs = ys))] := by
 refine fn_of_row qqr ?_;generalize hrs : decide (xs = ys) = rs;have hrs : xs = ys ↔ rs = true := by rw [<- hrs, decide_eq_true_eq]
 simp only [FRow.start, f21, c21r0, c21r1, rats, go_sem, Nat.reduceAdd, Nat.reduceSub, true_implies];rintro ⟨hlx, hly⟩;have hlx' : (xs.length : Int) <= 2 ^ 63 - 1 := Int.le_trans (Int.ofNat_le.mpr hlx) qan;refine ⟨fun h1 => ?_, fun h1 => ?_⟩
 ·have hl : xs.length = ys.length := by omega
  simp only [c21r3, go_sem, true_implies]
  refine qe (fun n τ => ∃ i : Nat, n = xs.length - i /\ i <= xs.length /\ (xs.drop i = ys.drop i ↔ rs = true) /\
   τ = ⟨((.s (rats xs))::(.s (rats ys))::aN::aN::aN::(aI i)::aN::aN::aN::aN::aZ16), []⟩) xs.length rfl ?_ ?_
  ·simp only [c21l8m, go_sem]
   exact ⟨0, rfl, Nat.zero_le _, hrs, rfl⟩
  ·rintro I n τ ⟨i, rfl, hi, hc, rfl⟩ hI
   simp only [c21l8, c21r4, rats, go_sem, ↓reduceIte];intro _;refine ⟨fun hlt => ?_, fun hge => ?_⟩
   ·have hlt : i < xs.length := by omega
    have hx : xs[i]? = some xs[i] := List.getElem?_eq_getElem hlt;have hy : ys[i]? = some (ys[i]'(by omega)) := List.getElem?_eq_getElem _
    rw [List.drop_eq_getElem_cons hlt, List.drop_eq_getElem_cons (by omega : i < ys.length), List.cons.injEq] at hc
    generalize xs[i] = x at hx hc;generalize ys[i]'(by omega) = y at hy hc
    simp only [c21r5, hx, hy, rat, SV.cells, go_sem, Nat.reduceAdd, true_implies];refine ⟨fun h2 => ?_, fun h2 => ?_⟩
    ·have h2 := qnw h2
     simp only [h2, true_and] at hc;simp only [c21r7, c21l8m, go_sem, true_implies];exact ⟨qb (by omega) (by omega), hI (xs.length - (i + 1)) _ (by omega) ⟨i + 1, rfl, by omega, hc, rfl⟩⟩
    ·have hc : rs = false := by
      cases rs
      ·rfl
      ·exact absurd (congrArg rat (hc.2 rfl).1) h2
     subst hc;simp only [c21r6, go_sem, true_implies]
   ·have hie : i = xs.length := by omega
    subst hie;rw [List.drop_length, List.drop_eq_nil_of_le (by omega)] at hc
    have hc : rs = true := hc.1 rfl;subst hc;simp only [c21r9, go_sem, true_implies]
 ·have hc : rs = false := by
   cases rs
   ·rfl
   ·exact absurd (by rw [hrs.2 rfl]) h1
  subst hc;simp only [c21r2, go_sem, true_implies]
theorem k34 : ∀ (b a : Nat), a <= 2 ^ 62 -> b <= 2 ^ 62 -> E.Fn Tryz.prog 34 [.int .i64 a, .int .i64 b] [.int .i64 (Nat.gcd a b : Nat)] := by
 intro b0 a0 ha hb;refine fn_of_row qqC ?_;simp only [FRow.start, f34, c34r0, go_sem, Nat.reduceAdd, Nat.reduceSub, true_implies]
 refine qe (fun m τ => ∃ a b : Nat, m = b /\ a <= 2 ^ 62 /\ b <= 2 ^ 62 /\ Nat.gcd a b = Nat.gcd a0 b0 /\
  τ = ⟨[aI a, aI b, .any, .any, .any, .any, .any, .any, .any, .any, .any, .any], []⟩) b0 rfl ?_ ?_
 ·simp only [c34l3m, go_sem]
  exact ⟨a0, b0, rfl, ha, hb, rfl, rfl⟩
 ·rintro I m τ ⟨a, b, rfl, ha, hb, hg, rfl⟩ hI
  by_cases h0 : m = 0
  ·subst h0
   rw [<- hg];simp only [c34l3, c34r1, c34r4, go_sem, ↓reduceIte, true_implies];simp
  ·have h1 : ¬ (m : Int) = 0 := by omega
   have hlt : a % m < m := Nat.mod_lt _ (by omega)
   have hm : (a : Int).tmod m = ((a % m : Nat) : Int) := (Int.ofNat_tmod a m).symm;have hg2 : Nat.gcd a m = Nat.gcd m (a % m) := by rw [Nat.gcd_comm a m, Nat.gcd_rec m a, Nat.gcd_comm]
   simp only [c34l3, c34r1, h1, c34r2, hm, c34l3m, go_sem, true_implies];exact ⟨by omega, hI (a % m) _ hlt ⟨m, a % m, rfl, hb, by omega, by rw [<- hg2]; exact hg, rfl⟩⟩
theorem k31 {n d : Int} (hn : n.natAbs <= 2 ^ 62) (h0 : 0 < d) (hd : d <= 2 ^ 62) : E.Fn Tryz.prog 31 [.int .i64 n, .int .i64 d] [rat (lst n d)] := by
 refine fn_of_row qqz ?_;have in1 : inR .i64 (0 - n) := qk (by omega)
 have hmx : maxL [n, -n] = (n.natAbs : Int) := by
  simp only [maxL, List.foldl_cons, List.foldl_nil]
  split <;> omega
 have hdn : d = (d.toNat : Int) := by omega
 have hdn2 : d.natAbs = d.toNat := by omega
 have hk := k34 d.toNat n.natAbs hn (by omega)
 have hgp : 0 < Nat.gcd n.natAbs d.natAbs := Nat.gcd_pos_of_pos_right _ (by omega)
 have hgn : ¬ ((Nat.gcd n.natAbs d.natAbs : Nat) : Int) = 0 := by omega
 rw [<- hdn, <- hdn2] at hk;simp only [FRow.start, f31, c31r0, c31r1, go_sem, Nat.reduceAdd, Nat.reduceSub, true_implies];rw [hmx];refine ⟨in1, by simp, ?_⟩
 refine qa (by simp only [go_sem]) hk (.inl rfl) ?_
 have hq : ∀ x : Int, x.natAbs <= 2 ^ 62 -> inR .i64 (x.tdiv (Nat.gcd n.natAbs d.natAbs : Nat)) := fun x hx => qk (by
  rw [Int.natAbs_tdiv];exact Nat.le_trans (Nat.div_le_self _ _) hx)
 simp only [c31r2, go_sem, ↓reduceIte, Nat.reduceAdd, Nat.reduceLeDiff, true_implies];refine ⟨by omega, hq n hn, by omega, hq d (by omega), ?_⟩
 simp only [ql, List.take_succ_cons, List.take_zero, qt, go_sem, Nat.reduceAdd];rfl
def greatB (N : List (List Int)) (p : List Int) : Bool := decide (8 < N.length) || decide (8 < p.length) || N.any fun l => decide (8 < l.length)
def mxL (l : List (List Int)) : Nat := l.foldl (fun a x => max a x.length) 0
theorem qgT {l : List (List Int)} {x : List Int} : mxL (l ++ [x]) = max (mxL l) x.length := by unfold mxL; rw [List.foldl_append]; rfl
theorem qkB : ∀ {n : Nat} {l : List (List Int)}, l.length = n -> (8 < mxL l ↔ l.any (fun x => decide (8 < x.length)) = true)
 | 0, l, h => by rw [List.length_eq_zero_iff.1 h]; simp [mxL]
 | n + 1, l, h => by
  have hne : l ≠ [] := fun e => by rw [e] at h; cases h
  obtain ⟨l', x, rfl⟩ : ∃ l' x, l = l' ++ [x] := ⟨l.dropLast, l.getLast hne, (List.dropLast_concat_getLast hne).symm⟩;have ih := qkB (n := n) (l := l') (by simpa using h)
  rw [qgT, List.any_append, Bool.or_eq_true, <- ih];simp only [List.any_cons, List.any_nil, Bool.or_false, decide_eq_true_eq];omega
theorem mxI {a b : Nat} : maxL [(a : Int), (b : Int)] = ((max a b : Nat) : Int) := by
 simp only [maxL, List.foldl_cons, List.foldl_nil]
 split <;> omega
theorem k11 {s : Int} {N : List (List Int)} {p : List Int} : E.Fn Tryz.prog 11 [mc s N p] [.bool (greatB N p)] := by
 refine fn_of_row qql ?_;generalize hr : greatB N p = r;unfold greatB at hr;simp only [FRow.start, f11, c11r0, c11r1, mc, SV.cells, intss, ints, go_sem, Nat.reduceAdd, Nat.reduceSub, Nat.reduceLeDiff, true_implies];refine ⟨fun h1 _ => ?_, fun h1 h2 => ⟨fun h3 => ?_, fun h3 => ?_⟩⟩
 ·rw [decide_eq_true (by omega)] at hr
  simp only [Bool.true_or] at hr;subst hr;simp only [c11r2, go_sem, true_implies]
 ·rw [decide_eq_true (show 8 < p.length by omega)] at hr
  simp only [Bool.true_or, Bool.or_true] at hr;subst hr;simp only [c11r2, go_sem, true_implies]
 ·rw [decide_eq_false (show ¬ 8 < N.length by omega), decide_eq_false (show ¬ 8 < p.length by omega)] at hr
  simp only [Bool.false_or] at hr;simp only [c11r3, c11r4, go_sem, true_implies]
  refine qe (fun m τ => ∃ i : Nat, m = N.length - i /\ i <= N.length /\
   τ = ⟨(aN::(.s (.ptr [.int .i64 s, intss N, ints p]))::aN::(aI (mxL (N.take i) : Nat))::(aI i)::aN::aN::aN::aZ24), []⟩) N.length rfl ?_ ?_
  ·simp only [c11l8m, go_sem]
   exact ⟨0, rfl, Nat.zero_le _, rfl⟩
  ·rintro I m τ ⟨i, rfl, hi, rfl⟩ hI
   simp only [c11l8, c11r5, intss, go_sem, ↓reduceIte, Nat.reduceAdd, Nat.reduceLeDiff];intro _;refine ⟨fun hlt => ?_, fun hge => ?_⟩
   ·have hlt : i < N.length := by omega
    have hx : N[i]? = some N[i] := List.getElem?_eq_getElem hlt;have hts := qgT (l := N.take i) (x := N[i]);rw [<- qb6 hx] at hts;generalize N[i] = l at hx hts;simp only [c11r6, hx, ints, go_sem, Nat.reduceAdd, Nat.reduceLeDiff];refine ⟨by simp, fun _ => ?_⟩
    rw [mxI, <- hts];simp only [c11r7, c11l8m, go_sem, true_implies];exact ⟨qb (by omega) (by omega), hI (N.length - (i + 1)) _ (by omega) ⟨i + 1, rfl, by omega, rfl⟩⟩
   ·have hie : i = N.length := by omega
    subst hie;rw [List.take_length];simp only [c11r9, go_sem, true_implies];have := qkB (l := N) rfl;rw [hr] at this
    cases r with
    | true => rw [decide_eq_true (by have := this.2 rfl; omega)]
    | false => rw [decide_eq_false (by have := mt this.1 (by simp); omega)]
end Go.Proofs.YtikfhfgdmlijeaaGreat.Sk
namespace Go.Proofs.YtikfhfgdmlijeaaGreat.Sk
theorem qkC {α : Type} {l : List α} {p q : α -> Bool} (h : ∀ x, p x = true -> q x = true) {x : α} (hx : x ∈ l) (h1 : q x = true) (h2 : p x = false) : (l.filter p).length < (l.filter q).length := by
 have : l.filter p = (l.filter q).filter p := by
  rw [List.filter_filter];refine List.filter_congr fun y _ => ?_
  cases hp : p y with
  | true => rw [h y hp]; rfl
  | false => rfl
 rw [this];exact List.length_filter_lt_length_iff_exists.2 ⟨x, List.mem_filter.2 ⟨hx, h1⟩, by rw [h2]; simp⟩
section
variable {g : Nat -> Nat -> Bool} {n : Nat}
theorem qnx (hgo : ∀ i, i < n -> ∃ k, Reach g n i k) : ∀ (m i : Nat), i < n -> ((List.range n).filter fun x => decide (x = i) || decide (x ∈ rB g n i n)).length = m -> ∃ c, isPC g n c = true /\ Reach g n i c := by
 intro m
 induction m using Nat.strongRecOn with
 | _ m ih =>
  intro i hi hm;obtain ⟨k, hk⟩ := hgo i hi
  by_cases hc : clsd g n i
  ·have hii := qD hk (hc k hk)
   obtain ⟨c, h1, h2, h3, h4⟩ := qfO hii hc;exact ⟨c, h1, h4⟩
  ·obtain ⟨j, hj⟩ := Classical.not_forall.1 hc
   obtain ⟨h1, h2⟩ := Classical.not_imp.1 hj;have hne : ¬ i = j := fun e => by subst e; exact h2 h1
   have hlt := qkC (l := List.range n) (p := fun x => decide (x = j) || decide (x ∈ rB g n j n)) (q := fun x => decide (x = i) || decide (x ∈ rB g n i n)) (fun x hx => by
    simp only [Bool.or_eq_true, decide_eq_true_eq] at hx ⊢
    rcases hx with rfl | hx
    ·exact .inr (qo.1 h1)
    ·exact .inr (qo.1 (qD h1 (qo.2 hx)))) (List.mem_range.2 hi) (by simp) (by
    simp only [Bool.or_eq_false_iff, decide_eq_false_iff_not];exact ⟨hne, fun hx => h2 (qo.2 hx)⟩)
   obtain ⟨c, h3, h4⟩ := ih _ (by omega) j h1.lt rfl
   exact ⟨c, h3, qD h1 h4⟩
end
theorem goOn.reach {N : List (List Int)} (h : goOn N) : ∀ i, i < N.length -> ∃ k, Reach (gr N) N.length i k := fun i hi => by
 obtain ⟨k, hk, h⟩ := h i hi;exact ⟨k, .one (by simpa [gr] using h) hk⟩
theorem goOn.part {N : List (List Int)} (h : goOn N) {i : Nat} (hi : i < N.length) : ∃ c, isPC (gr N) N.length c = true /\ Reach (gr N) N.length i c := qnx h.reach _ i hi rfl
def firsts (N : List (List Int)) : List Nat := (List.range N.length).filter (isPC (gr N) N.length)
theorem qad {N : List (List Int)} {c : Nat} : c ∈ firsts N ↔ isPC (gr N) N.length c = true := by
 unfold firsts;rw [List.mem_filter, List.mem_range];refine ⟨fun h => h.2, fun h => ⟨?_, h⟩⟩
 exact (qA.1 h).1.lt
theorem qbk {N : List (List Int)} : parts N = (firsts N).map (rchC (gr N) N.length) := rfl
section
variable {s : Int} {N : List (List Int)} {p : List Int}
theorem OkN.nn (h : OkN s N) : ∀ i k, 0 <= Sk.tn N i k := fun i k => (h.tn i k).1
theorem qy (h : OkS s N) {i : Nat} (hi : i < N.length) : 0 <= rootN s N i := by
 rw [qdC h hi]; exact qch h.nn
theorem qa7 (h : OkN s N) {i : Nat} : (rootN s N i).natAbs <= 2 ^ 22 := qkp h (Nat.le_trans qcU h.n4)
theorem qct {i k : Nat} : (2 ^ i).testBit k = true ↔ i = k := by rw [Nat.testBit_two_pow, decide_eq_true_eq]
theorem qgU (h : OkS s N) {i : Nat} (hi : i < N.length) : 0 < rootN s N i ↔ ∀ j, j < N.length -> ¬ j = i -> Reach (gr N) N.length j i := by
 rw [qdC h hi];constructor
 ·intro hw j hj hne
  obtain ⟨num, h1, h2, h3, h4⟩ := qgP h.nn hw;rw [okW, List.all_eq_true] at h2;have h2 := h2 j (List.mem_range.2 hj);have hb : (2 ^ i).testBit j = false := by rw [<- Bool.not_eq_true, qct]; omega
  rw [hb] at h2;simp only [Bool.false_eq_true, if_false] at h2;obtain ⟨e, he⟩ := Option.isSome_iff_exists.1 h2;have hst := he;rw [qgO] at hst;have hst := qfJ hst;rw [qct] at hst;subst hst
  rcases qdD (g := gr N) (fun k hk hs => ⟨qbv h.n1, decide_eq_true (h4 k hk hs)⟩) hj he with h5 | h5
  ·exact absurd h5 hne
  ·exact h5
 ·intro hr
  have hA := qfM (a := tn N) (stops := 2 ^ i) h.nn h.n1 hi (fun j hj hs => ⟨i, qct.2 rfl, hr j hj fun e => by
   rw [e, qct.2 rfl] at hs; cases hs⟩)
  obtain ⟨x, hx, h0⟩ := qe3 hA;obtain ⟨e, he, rfl⟩ := List.mem_map.1 hx;obtain ⟨num, h1, h2, h3, h4⟩ := qgP h.nn h0;rw [endK, qct.2 rfl, if_pos rfl] at h3
  cases h3
  exact h0
theorem qc8 (h : OkM s N p) (hS : (parts N).length <= 1) : ∃ c, firsts N = [c] /\ isPC (gr N) N.length c = true /\ c < N.length /\ ∀ j, j < N.length -> Reach (gr N) N.length j c := by
 have hlen : (firsts N).length <= 1 := by rw [qbk, List.length_map] at hS; exact hS
 obtain ⟨c, hc, _⟩ := h.goOn.part (i := 0) h.n1;have hm := qad.2 hc
 have h1 : firsts N = [c] := by
  cases hf : firsts N with
  | nil => rw [hf] at hm; cases hm
  | cons x l =>
   rw [hf] at hm hlen;have : l = [] := List.length_eq_zero_iff.1 (by simpa using hlen)
   subst this;rw [List.mem_singleton.1 hm]
 refine ⟨c, h1, hc, (qA.1 hc).1.lt, fun j hj => ?_⟩
 obtain ⟨c', h2, h3⟩ := h.goOn.part hj;have := qad.2 h2;rw [h1, List.mem_singleton] at this;rw [<- this]; exact h3
theorem qU {x : Int} : x ∈ rootsN s N ↔ ∃ i, i < N.length /\ rootN s N i = x := by
 unfold rootsN;rw [List.mem_map];exact ⟨fun ⟨i, h1, h2⟩ => ⟨i, List.mem_range.1 h1, h2⟩, fun ⟨i, h1, h2⟩ => ⟨i, List.mem_range.2 h1, h2⟩⟩
theorem qaJ (h : OkM s N p) (hS : (parts N).length <= 1) : 0 < (rootsN s N).sum := by
 obtain ⟨c, _, hc, hlt, hr⟩ := qc8 h hS;have h1 := (qgU h.s hlt).2 fun j hj _ => hr j hj
 have h2 := qcr (l := rootsN s N) (fun x hx => by
  obtain ⟨i, hi, rfl⟩ := qU.1 hx;exact qy h.s hi) (qU.2 ⟨c, hlt, rfl⟩)
 omega
theorem qcu {l : List Int} {B : Nat} (h : ∀ x ∈ l, x.natAbs <= B) : l.sum.natAbs <= l.length * B := by
 induction l with
 | nil => simp
 | cons x l ih =>
  have h1 := h x (by simp)
  have h2 := ih fun y hy => h y (by simp [hy])
  rw [List.sum_cons, List.length_cons, Nat.add_mul, Nat.one_mul];omega
theorem qgV (h : OkN s N) : (rootsN s N).sum.natAbs <= 2 ^ 24 := by
 have h1 := qcu (l := rootsN s N) (B := 2 ^ 22) (fun x hx => by
  obtain ⟨i, hi, rfl⟩ := qU.1 hx;exact qa7 h)
 have h2 : (rootsN s N).length <= 4 := by simp [rootsN]; exact h.n4
 refine Nat.le_trans h1 ?_;exact Nat.le_trans (Nat.mul_le_mul_right _ h2) (by decide)
def gainT (s : Int) (N : List (List Int)) (p : List Int) (i : Nat) : Int := ((List.range i).map fun k => rootN s N k * p[k]?.getD 0).sum
def gainN (s : Int) (N : List (List Int)) (p : List Int) : Int := gainT s N p N.length
def paysQ (s : Int) (N : List (List Int)) (p : List Int) : Int × Int := lst (gainN s N p) (rootsN s N).sum
theorem qeM {i : Nat} : gainT s N p (i + 1) = gainT s N p i + rootN s N i * p[i]?.getD 0 := by
 unfold gainT;rw [List.range_succ, List.map_append, List.sum_append]; simp
theorem qR (h : OkP s N p) (i : Nat) : 0 <= p[i]?.getD 0 /\ p[i]?.getD 0 <= 1000 := by
 cases hx : p[i]? with
 | none => simp
 | some x => exact h.pay x (List.mem_of_getElem? hx)
theorem qgW (h : OkP s N p) {i : Nat} (hi : i <= 4) : (gainT s N p i).natAbs <= 2 ^ 34 := by
 have h1 := qcu (l := (List.range i).map fun k => rootN s N k * p[k]?.getD 0) (B := 2 ^ 22 * 1000) (fun x hx => by
  obtain ⟨k, _, rfl⟩ := List.mem_map.1 hx;rw [Int.natAbs_mul];have := qR h k;exact Nat.mul_le_mul (qa7 h.toOkN) (by omega))
 refine Nat.le_trans h1 ?_;rw [List.length_map, List.length_range];exact Nat.le_trans (Nat.mul_le_mul_right _ hi) (by decide)
theorem qbd (h : OkM s N p) {i : Nat} (hi : i <= N.length) : 0 <= gainT s N p i := qC fun x hx => by
 obtain ⟨k, hk, rfl⟩ := List.mem_map.1 hx;rw [List.mem_range] at hk;exact Int.mul_nonneg (qy h.s (by omega)) (qR h.toOkP k).1
end
end Go.Proofs.YtikfhfgdmlijeaaGreat.Sk
namespace Go.Proofs.YtikfhfgdmlijeaaGreat.Sk
open Go Go.E Go.E.Sm
set_option maxRecDepth 10000
def p4 (p : List Int) (i : Nat) : Int := p[i]?.getD 0
theorem qoM : ∀ {p : List Int}, p.length <= 4 -> splice [aI 0, aI 0, aI 0, aI 0] 0 ((p.map (SV.int .i64)).map LV.s) = [aI (p4 p 0), aI (p4 p 1), aI (p4 p 2), aI (p4 p 3)]
 | [], _ => rfl
 | [_], _ => rfl
 | [_, _], _ => rfl
 | [_, _, _], _ => rfl
 | [_, _, _, _], _ => rfl
 | _ :: _ :: _ :: _ :: _ :: _, h => by simp at h
theorem qgX {d : Int} (h : 0 < d) : lst 0 d = (0, 1) := by
 unfold lst gcdN;have e : (Nat.gcd (Int.natAbs 0) d.natAbs : Nat) = d.natAbs := by simp
 rw [e];have e2 : ((d.natAbs : Nat) : Int) = d := by omega
 rw [e2, Int.zero_tdiv, Int.tdiv_self (by omega)]
theorem k64 {s : Int} {N : List (List Int)} {p : List Int} (h : OkM s N p) (hS : (parts N).length <= 1) : E.Fn Tryz.prog 64 [benchC s N p] [rat (paysQ s N p)] := by
 refine fn_of_row qq1 ?_;have hn4 := h.n4;have hpl := h.pl;have hm4 : 4 <= maxLen := by decide
 simp only [FRow.start, f64, c64r0, c64r1, c64r2, benchC, bnV, ints, go_sem, Nat.reduceAdd, Nat.reduceSub, Nat.reduceLT, Nat.reduceLeDiff, Nat.reduceMul, true_implies];refine ⟨hm4, qaN, ?_⟩;rw [List.take_of_length_le (by simp; omega), qF, qoM (by omega)]
 have hk73 := k58 (p := p) h.toOkN;have hsum := qgV h.toOkN;have hsp := qaJ h hS
 have hg0 : ∀ i, i < 4 -> ([aI (p4 p 0), aI (p4 p 1), aI (p4 p 2), aI (p4 p 3)] : List LV)[i]? = some (aI (p4 p i)) := fun i hi => by
  match i, hi with
  | 0, _ => rfl
  | 1, _ => rfl
  | 2, _ => rfl
  | 3, _ => rfl
 simp only [c64r3, go_sem, Nat.reduceAdd, true_implies];refine ⟨fun hz => ?_, fun hz => ?_⟩
 ·simp only [SV.agg.injEq, List.cons.injEq, SV.int.injEq, true_and, and_true] at hz
  have hgz : gainN s N p = 0 := by
   have hall : ∀ x ∈ (List.range N.length).map fun k => rootN s N k * p[k]?.getD 0, x = 0 := fun x hx => by
    obtain ⟨k, hk, rfl⟩ := List.mem_map.1 hx;rw [List.mem_range] at hk
    have hp0 : p[k]?.getD 0 = 0 := by
     obtain ⟨h0, h1, h2, h3⟩ := hz
     match k, (show k < 4 by omega) with
     | 0, _ => exact h0
     | 1, _ => exact h1
     | 2, _ => exact h2
     | 3, _ => exact h3
    rw [hp0, Int.mul_zero]
   unfold gainN gainT;generalize (List.range N.length).map (fun k => rootN s N k * p[k]?.getD 0) = l at hall
   induction l with
   | nil => rfl
   | cons x l ih => rw [List.sum_cons, hall x (by simp), ih fun y hy => hall y (by simp [hy])]; rfl
  have hq : paysQ s N p = (0, 1) := by unfold paysQ; rw [hgz, qgX hsp]
  rw [hq];simp only [c64r4, ql, qt, rat, go_sem, ↓reduceIte, Nat.reduceAdd, Nat.reduceLeDiff, true_implies]
 ·have hrl : (rootsN s N).length = N.length := by simp [rootsN]
  have hg34 : ∀ i, i <= 4 -> (gainT s N p i).natAbs <= 2 ^ 34 := fun i hi => qgW h.toOkP hi
  have hrt : ∀ i, i < N.length -> (rootsN s N)[i]? = some (rootN s N i) := fun i hi => by
   unfold rootsN; rw [List.getElem?_map, List.getElem?_range hi]; rfl
  simp only [c64r5, go_sem];refine qa (by simp only [ints, benchC, bnV, go_sem]) hk73 (.inr (.inl (by simp only [ints, benchC, bnV, go_sem]))) ?_
  simp only [c64r6, c64r7, ints, hrl, go_sem, Nat.reduceAdd, true_implies];intro _
  refine qe (fun m τ => ∃ i : Nat, m = N.length - i /\ i <= N.length /\
   τ = ⟨(aN::aN::(.loc 0 0)::(.loc 1 0)::(.s (ints (rootsN s N)))::(aI (gainT s N p i))::aN::aN::aN::aN::aN::aN::aN::aN::aN::aN::aN::aN::aN::aN::aN::(.s (ints (rootsN s N)))::(aI N.length)::(aI i)::aZ16),
    [.obj [aI 0, aI 0], .obj [aI (p4 p 0), aI (p4 p 1), aI (p4 p 2), aI (p4 p 3)]]⟩) N.length rfl ?_ ?_
  ·simp only [c64l12m, go_sem, ↓reduceIte, reduceCtorEq, Nat.reduceAdd, Nat.reduceLeDiff]
   exact ⟨0, rfl, Nat.zero_le _, rfl⟩
  ·rintro I m τ ⟨i, rfl, hi, rfl⟩ hI
   simp only [c64l12, c64r8, go_sem, ↓reduceIte, Nat.reduceAdd, true_implies];refine ⟨fun hlt => ?_, fun hge => ?_⟩
   ·have hlt : i < N.length := by omega
    have hrb := qa7 h.toOkN (i := i);have hpb := qR h.toOkP i
    have hmb : (rootN s N i * p4 p i).natAbs <= 2 ^ 22 * 1000 := by
     rw [Int.natAbs_mul];exact Nat.mul_le_mul hrb (by unfold p4; omega)
    have hs1 := hg34 (i + 1) (by omega)
    have hgs := qeM (s := s) (N := N) (p := p) (i := i);have hin1 : inR .i64 (rootN s N i * p4 p i) := qk (by omega)
    have hin2 : inR .i64 (gainT s N p i + rootN s N i * p4 p i) := qk (by unfold p4; rw [<- hgs]; omega)
    simp only [c64r9, ints, hrt i hlt, c64r10, Nat.mul_one, hg0 i (by omega), go_sem, Nat.reduceAdd, true_implies]
    refine ⟨by omega, hin1, hin2, ?_⟩
    simp only [c64r11, c64l12m, go_sem, ↓reduceIte, reduceCtorEq, Nat.reduceLeDiff, true_implies];exact ⟨qb (by omega) (by omega), hI (N.length - (i + 1)) _ (by omega) ⟨i + 1, rfl, by omega, by rw [hgs]; rfl⟩⟩
   ·have hie : i = N.length := by omega
    subst hie;have hg := hg34 N.length hn4
    have hk52 := k60 (l := rootsN s N) (by rw [hrl]; omega) (fun x hx => by
     obtain ⟨i, hi, rfl⟩ := qU.1 hx;have h1 := qy h.s hi;have h2 := qa7 h.toOkN (i := i);omega)
    have hk71 := k59 (n := gainT s N p N.length) (d := (rootsN s N).sum) (by omega) hsp (by omega)
    simp only [c64r13, go_sem];refine qa (by simp only [ints, go_sem]) hk52 (.inl rfl) ?_
    simp only [go_sem];refine qa (by simp only [go_sem]) hk71 (.inl rfl) ?_
    simp only [rat, ql, qt, go_sem, Nat.reduceAdd, true_implies];rfl
theorem qa8 {s : Int} {N : List (List Int)} {p : List Int} (h : setE s N p = 0) : OkM s N p /\ (parts N).length <= 1 := by
 unfold setE at h
 split at h
 ·rename_i h0
  split at h
  ·cases h
  ·exact ⟨qH.1 h0, by omega⟩
 ·rename_i h0; exact absurd h h0
theorem qgY {s : Int} {N : List (List Int)} {p : List Int} : setE s N p = 0 ↔ OkM s N p /\ (parts N).length <= 1 := by
 refine ⟨qa8, fun ⟨h1, h2⟩ => ?_⟩
 unfold setE;rw [if_pos (qH.2 h1), if_neg (by omega)]
def paysR (s : Int) (N : List (List Int)) (p : List Int) : List SV := if setE s N p = 0 then [rat (paysQ s N p), .int .i64 0] else [rat (0, 0), .int .i64 (setE s N p)]
theorem k19 {s : Int} {N : List (List Int)} {p : List Int} : E.Fn Tryz.prog 19 [mc s N p] (paysR s N p) := by
 refine fn_of_row qqq ?_;have h56 := k57 (s := s) (N := N) (p := p);unfold paysR;unfold setR at h56;simp only [FRow.start, f19, c19r0, c19r1, mc, SV.cells, List.length_cons, List.length_nil, go_sem, Nat.reduceAdd, Nat.reduceSub, true_implies]
 by_cases h0 : setE s N p = 0
 ·rw [if_pos h0] at h56
  rw [if_pos h0];obtain ⟨hM, hS⟩ := qa8 h0;refine qa rfl h56 (.inr (.inl rfl)) ?_
  simp only [c19r2, c19r4, benchC, bnV, go_sem, true_implies];refine qa (by simp only [benchC, bnV, go_sem]) (k64 hM hS) (.inl rfl) ?_
  simp only [rat, ql, qt, go_sem, Nat.reduceAdd, true_implies]
 ·rw [if_neg h0] at h56
  rw [if_neg h0];refine qa rfl h56 (.inr (.inl rfl)) ?_
  simp only [h0, c19r2, c19r3, rat, ql, qt, go_sem, Nat.reduceAdd, true_implies]
def sharesT (s : Int) (N : List (List Int)) (i : Nat) : List (Int × Int) := (List.range i).map fun k => lst (rootN s N k) (rootsN s N).sum
def sharesQ (s : Int) (N : List (List Int)) : List (Int × Int) := sharesT s N N.length
def sharesR (s : Int) (N : List (List Int)) (p : List Int) : List SV := if setE s N p = 0 then [rats (sharesQ s N), .int .i64 0] else [.slice [], .int .i64 (setE s N p)]
theorem qdV {q : Int × Int} : ∀ e ∈ [SV.agg [.int .i64 q.1, .int .i64 q.2]], e.cells.length = 2 := by
 intro e he;rw [List.mem_singleton] at he;subst he; rfl
def twoR (l : List (Int × Int)) : List Int := l.flatMap fun p => [p.1, p.2]
theorem qex {l : List (Int × Int)} : (twoR l).length = l.length * 2 := by
 induction l with
 | nil => rfl
 | cons p l ih => simp only [twoR, List.flatMap_cons, List.length_append, List.length_cons, List.length_nil] at *; omega
theorem qfP : ∀ (l : List (Int × Int)), chunk 2 l.length ((twoR l).map (SV.int .i64)) = l.map rat
 | [] => rfl
 | q :: l => by
  have := qfP l;simp only [twoR, List.flatMap_cons, List.map_append, List.length_cons, List.map_cons, List.map_nil] at this ⊢;rw [chunk];simp only [List.cons_append, List.nil_append, List.take_succ_cons, List.take_zero, List.drop_succ_cons, List.drop_zero];rw [this]; rfl
theorem qeN {l : List (Int × Int)} {n : Nat} (h : n = l.length) : sliceOf 0 n 2 ((twoR l).map (SV.int .i64)) = some (rats l) := by
 subst h;rw [sliceOf, if_pos (by rw [List.length_map, qex]; omega), elems, if_neg (by decide), List.drop_zero, qfP]; rfl
theorem qfQ {l : List (Int × Int)} {q : Int × Int} : (twoR l).map (SV.int .i64) ++ flatE [SV.agg [.int .i64 q.1, .int .i64 q.2]] = (twoR (l ++ [q])).map (.int .i64) := by
 unfold twoR;rw [List.flatMap_append, List.map_append]; rfl
theorem k17 {s : Int} {N : List (List Int)} {p : List Int} : E.Fn Tryz.prog 17 [mc s N p] (sharesR s N p) := by
 refine fn_of_row qqp ?_;have h56 := k57 (s := s) (N := N) (p := p);unfold sharesR;unfold setR at h56;simp only [FRow.start, f17, c17r0, c17r1, mc, SV.cells, List.length_cons, List.length_nil, go_sem, Nat.reduceAdd, Nat.reduceSub, true_implies]
 by_cases h0 : setE s N p = 0
 ·rw [if_pos h0] at h56
  rw [if_pos h0];obtain ⟨h, hS⟩ := qa8 h0;have hn4 := h.n4;have hk73 := k58 (p := p) h.toOkN;have hsum := qgV h.toOkN;have hsp := qaJ h hS;have hrl : (rootsN s N).length = N.length := by simp [rootsN]
  have hrt : ∀ i, i < N.length -> (rootsN s N)[i]? = some (rootN s N i) := fun i hi => by
   unfold rootsN; rw [List.getElem?_map, List.getElem?_range hi]; rfl
  have hk52 := k60 (l := rootsN s N) (by rw [hrl]; omega) (fun x hx => by
   obtain ⟨i, hi, rfl⟩ := qU.1 hx;have h1 := qy h.s hi;have h2 := qa7 h.toOkN (i := i);omega)
  refine qa rfl h56 (.inr (.inl rfl)) ?_
  simp only [c17r2, c17r4, go_sem, true_implies];refine qa (by simp only [ints, benchC, bnV, go_sem]) hk73 (.inr (.inl (by simp only [ints, benchC, bnV, go_sem]))) ?_
  simp only [c17r5, c17r6, ints, hrl, go_sem, true_implies];intro _
  refine qe (fun m τ => ∃ i : Nat, m = N.length - i /\ i <= N.length /\
   τ = ⟨[.any, .any, .any, .any, .any, .any, .s (ints (rootsN s N)), .sl 0 0 i 2 false, .any, .any, .any, .any, .any, .any, .any, .any, .any, .any, .any, .any, .s (ints (rootsN s N)), aI N.length, aI i, .any, .any, .any, .any, .any, .any, .any, .any, .any, .any, .any, .any], [.row ((twoR (sharesT s N i)).map (.int .i64))]⟩) N.length (qY rfl) ?_ ?_
  ·simp only [c17l11m, go_sem, ↓reduceIte, reduceCtorEq, Nat.reduceAdd, Nat.reduceLeDiff]
   exact ⟨0, rfl, Nat.zero_le _, rfl⟩
  ·rintro I m τ ⟨i, rfl, hi, rfl⟩ hI
   simp only [c17l11, c17r7, go_sem, ↓reduceIte, true_implies];refine ⟨fun hlt => ?_, fun hge => ?_⟩
   ·have hlt : i < N.length := by omega
    have hrb := qa7 h.toOkN (i := i);have hk71 := k59 (n := rootN s N i) (d := (rootsN s N).sum) (by omega) hsp (by omega)
    have hts : sharesT s N (i + 1) = sharesT s N i ++ [lst (rootN s N i) (rootsN s N).sum] := by unfold sharesT; rw [List.range_succ, List.map_append]; rfl
    have hsn := qfQ (l := sharesT s N i) (q := lst (rootN s N i) (rootsN s N).sum);rw [<- hts] at hsn;have htl : (twoR (sharesT s N i)).length = i * 2 := by rw [qex]; simp [sharesT]
    simp only [c17r8, ints, hrt i hlt, c17r9, go_sem, true_implies];refine qa (by simp only [ints, go_sem]) hk52 (.inl rfl) ?_
    simp only [go_sem];refine qa (by simp only [go_sem]) hk71 (.inl rfl) ?_
    simp only [rat, Nat.reduceBEq, go_sem, ↓reduceIte, Nat.reduceAdd, Nat.reduceMul, true_implies];refine ⟨by decide, by decide, rfl, qdV, qdV, htl.symm, by omega, by omega, ?_⟩
    rw [hsn];simp only [c17r10, c17l11m, go_sem, ↓reduceIte, reduceCtorEq, Nat.reduceLeDiff, true_implies];exact ⟨qb (by omega) (by omega), hI (N.length - (i + 1)) _ (by omega) ⟨i + 1, rfl, by omega, rfl⟩⟩
   ·have hie : i = N.length := by omega
    subst hie;have hsl := qeN (l := sharesQ s N) (n := N.length) (by simp [sharesQ, sharesT])
    unfold sharesQ at hsl;simp only [c17r12, hsl, go_sem, true_implies];rfl
 ·rw [if_neg h0] at h56
  rw [if_neg h0];refine qa rfl h56 (.inr (.inl rfl)) ?_
  simp only [h0, c17r2, c17r3, go_sem, true_implies]
end Go.Proofs.YtikfhfgdmlijeaaGreat.Sk
namespace Go.Proofs.YtikfhfgdmlijeaaGreat.Sk
def toP (N : List (List Int)) (pt : List Int) (k : Nat) : Int := (pt.map fun j => tn N k j.toNat).sum
def opL (N : List (List Int)) : List Nat := wout N.length (parts N).flatten
def stP (N : List (List Int)) : Nat := mkB (fun i => decide ((i : Int) ∈ (parts N).flatten)) N.length
theorem qoN {f : Nat -> Bool} {n : Nat} : mkB f n < 2 ^ n := Nat.lt_pow_two_of_testBit _ fun k hk => by
 rw [qcs, decide_eq_false (by omega)]; rfl
theorem qkD {N : List (List Int)} : opL N = opS N.length (stP N) := by
 unfold opL wout opS;refine List.filter_congr fun i hi => ?_
 rw [List.mem_range] at hi;unfold stP;rw [qcs, decide_eq_true hi, Bool.true_and]
theorem qcV {g : Nat -> Nat -> Bool} {n i : Nat} {x : Int} : x ∈ rchC g n i ↔ ∃ k : Nat, x = k /\ Reach g n i k := by
 unfold rchC;rw [List.mem_map];exact ⟨fun ⟨k, h1, h2⟩ => ⟨k, h2.symm, qo.2 h1⟩, fun ⟨k, h1, h2⟩ => ⟨k, qo.1 h2, h1.symm⟩⟩
theorem qcW {N : List (List Int)} {l : List Int} (h : l ∈ parts N) : ∃ c, isPC (gr N) N.length c = true /\ l = rchC (gr N) N.length c := by
 rw [qbk, List.mem_map] at h;obtain ⟨c, h1, h2⟩ := h;exact ⟨c, qad.1 h1, h2.symm⟩
theorem qny {N : List (List Int)} {c : Nat} (h : isPC (gr N) N.length c = true) : rchC (gr N) N.length c ∈ parts N := by
 rw [qbk, List.mem_map];exact ⟨c, qad.2 h, rfl⟩
theorem qnz {N : List (List Int)} {i : Nat} : (stP N).testBit i = true ↔ ∃ c, isPC (gr N) N.length c = true /\ Reach (gr N) N.length c i := by
 unfold stP;rw [qcs, Bool.and_eq_true, decide_eq_true_eq, decide_eq_true_eq, List.mem_flatten];constructor
 ·rintro ⟨_, l, hl, hx⟩
  obtain ⟨c, hc, rfl⟩ := qcW hl;obtain ⟨k, h1, h2⟩ := qcV.1 hx;have : i = k := by omega
  subst this;exact ⟨c, hc, h2⟩
 ·rintro ⟨c, hc, hr⟩
  exact ⟨hr.lt, _, qny hc, qcV.2 ⟨i, rfl, hr⟩⟩
section
variable {s : Int} {N : List (List Int)} {p : List Int}
theorem qkE (h : OkM s N p) {f : Nat} (hf : f < N.length) : 0 < woodA (tn N) N.length f (stP N) :=
 qfM h.nn h.n1 hf fun i hi _ => by
  obtain ⟨c, hc, hr⟩ := h.goOn.part hi;exact ⟨c, qnz.2 ⟨c, hc, (qA.1 hc).1⟩, hr⟩
theorem qlT {f : Nat} (hf : f ∈ opL N) : ∃ j : Nat, (opS N.length (stP N))[j]? = some f := by
 rw [qkD] at hf;exact List.mem_iff_getElem?.1 hf
theorem qlU (h : OkM s N p) {k : Nat} (hk : k ∈ opL N) : 0 < detS s N (opL N) := by
 obtain ⟨j, hj⟩ := qlT hk;have := (qoK (x := fun _ => 0) h.s qoN hj).2
 rw [qkD];have e : detS s N (opS N.length (stP N)) = woodA (tn N) N.length k (stP N) := this;rw [e];exact qkE h (qe0 hk)
end
end Go.Proofs.YtikfhfgdmlijeaaGreat.Sk
namespace Go.Proofs.YtikfhfgdmlijeaaGreat.Sk
namespace PE
def nonneg (e : PE) : Bool := (norm e).all fun x => decide (0 <= x.2)
theorem qeO {r : Nat -> Int} (h : ∀ i, 0 <= r i) : ∀ {m : List Nat}, 0 <= mev r m
 | [] => by rw [mev]; decide
 | i :: m => by rw [mev]; exact Int.mul_nonneg (h i) (qeO h)
theorem qeP {r : Nat -> Int} (h : ∀ i, 0 <= r i) : ∀ {p : List (List Nat × Int)}, p.all (fun x => decide (0 <= x.2)) = true -> 0 <= pev r p
 | [], _ => Int.le_refl _
 | (m, z) :: p, hp => by
  rw [List.all_cons, Bool.and_eq_true, decide_eq_true_eq] at hp;rw [pev];exact Int.add_nonneg (Int.mul_nonneg hp.1 (qeO h)) (qeP h hp.2)
theorem nonneg_ev {r : Nat -> Int} (h : ∀ i, 0 <= r i) {e : PE} (he : nonneg e = true) : 0 <= ev r e := by
 rw [<- qbj]; exact qeP h he
end PE
def rhoA (a : Nat -> Nat -> Int) (j : Nat) : Int := a (j / 4) (j % 4)
theorem qkF {a : Nat -> Nat -> Int} {i k : Nat} (hk : k < 4) : rhoA a (4 * i + k) = a i k := by
 unfold rhoA;rw [show (4 * i + k) / 4 = i by omega, show (4 * i + k) % 4 = k by omega]
open PE in
def prV4 (n stops num : Nat) : PE := prod ((List.range n).map fun i => if stops.testBit i then .c 1 else .v (4 * i + chN n num i))
open PE in
def woodV (n f stops e : Nat) : PE := sum (((List.range (n ^ n)).filter (leadsTo n f stops e)).map (prV4 n stops))
open PE in
def allV (n stops : Nat) : PE := prod ((List.range n).map fun i => if stops.testBit i then .c 1 else sum ((List.range n).map fun k => .v (4 * i + k)))
open PE in
def bdB (n : Nat) : Bool := (List.range (2 ^ n)).all fun stops => (List.range n).all fun f => nonneg (sub (allV n stops) (sum ((List.range n).map fun e => woodV n f stops e)))
theorem qoO : [1, 2, 3, 4].all bdB = true := by decide +kernel
def allW (s : Int) (n stops : Nat) : Int := ((List.range n).map fun i => if stops.testBit i then 1 else s).foldr (· * ·) 1
section
variable {a : Nat -> Nat -> Int} {n : Nat}
theorem qnA (hn : 1 <= n) (h4 : n <= 4) {stops num : Nat} : (prV4 n stops num).ev (rhoA a) = prW a n stops num := by
 unfold prV4 prW;rw [PE.ev_prod, List.map_map];refine congrArg _ (List.map_congr_left fun i _ => ?_)
 simp only [Function.comp_apply]
 split
 ·rfl
 ·have := qbv (num := num) (i := i) hn
  exact qkF (by omega)
theorem qlV (hn : 1 <= n) (h4 : n <= 4) {f stops e : Nat} : (woodV n f stops e).ev (rhoA a) = wood a n f stops e := by
 unfold woodV wood;rw [PE.ev_sum, List.map_map];exact congrArg _ (List.map_congr_left fun num _ => qnA hn h4)
theorem qnB (h4 : n <= 4) {s : Int} (hs : ∀ i, i < n -> ((List.range n).map (a i)).sum = s) {stops : Nat} : (allV n stops).ev (rhoA a) = allW s n stops := by
 unfold allV allW;rw [PE.ev_prod, List.map_map];refine congrArg _ (List.map_congr_left fun i hi => ?_)
 rw [List.mem_range] at hi;simp only [Function.comp_apply]
 split
 ·rfl
 ·rw [PE.ev_sum, List.map_map, <- hs i hi]
  refine congrArg _ (List.map_congr_left fun k hk => ?_)
  rw [List.mem_range] at hk;exact qkF (by omega)
theorem qlW (hn : 1 <= n) (h4 : n <= 4) (ha : ∀ i k, 0 <= a i k) {s : Int} (hs : ∀ i, i < n -> ((List.range n).map (a i)).sum = s) {f stops : Nat} (hf : f < n) (hst : stops < 2 ^ n) : woodA a n f stops <= allW s n stops := by
 have h1 := PE.nonneg_ev (r := rhoA a) (fun i => ha _ _) (qac (qac (four qoO hn h4) hst) hf)
 rw [PE.ev_sub, qnB h4 hs, PE.ev_sum, List.map_map] at h1
 have e : ((List.range n).map (PE.ev (rhoA a) ∘ fun e => woodV n f stops e)).sum = woodA a n f stops := by
  unfold woodA;refine congrArg _ (List.map_congr_left fun e _ => ?_)
  exact qlV hn h4
 rw [e] at h1;omega
end
def allB (n : Nat) : Bool := (List.range (2 ^ n)).all fun stops => Nat.beq stops 0 || (List.range 21).all fun s => decide (allW (s : Nat) n stops <= 8000)
theorem qnC : [1, 2, 3, 4].all allB = true := by decide +kernel
theorem qnD {n stops : Nat} {s : Int} (hn : 1 <= n) (h4 : n <= 4) (hst : stops < 2 ^ n) (h0 : 0 < stops) (hs : 0 <= s) (hs2 : s <= 20) : allW s n stops <= 8000 := by
 have h1 := qac (four qnC hn h4) hst;rw [Bool.or_eq_true] at h1
 rcases h1 with h1 | h1
 ·have := Nat.eq_of_beq_eq_true h1; omega
 ·obtain ⟨m, rfl⟩ : ∃ m : Nat, s = m := ⟨s.toNat, by omega⟩
  exact of_decide_eq_true (qac h1 (k := m) (by omega))
section
variable {s : Int} {N : List (List Int)} {p : List Int}
theorem qkG (h : OkS s N) {f stops e : Nat} (he : e < N.length) : wood (tn N) N.length f stops e <= woodA (tn N) N.length f stops :=
 qcr (fun x hx => by
  obtain ⟨e, _, rfl⟩ := List.mem_map.1 hx;exact qch h.nn) (List.mem_map.2 ⟨e, List.mem_range.2 he, rfl⟩)
theorem qnE (h : OkS s N) {f stops : Nat} (hf : f < N.length) (hst : stops < 2 ^ N.length) (h0 : 0 < stops) : woodA (tn N) N.length f stops <= 8000 :=
 Int.le_trans (qlW h.n1 h.n4 h.nn (fun i hi => h.row hi) hf hst) (qnD h.n1 h.n4 hst h0 (by have := h.s1; omega) h.s20)
theorem qkH (h : OkS s N) {i : Nat} (hi : i < N.length) : rootN s N i <= 8000 := by
 rw [qdC h hi];exact Int.le_trans (qkG h hi) (qnE h hi (Nat.pow_lt_pow_right (by decide) hi) (Nat.two_pow_pos i))
theorem qa1 (h : OkS s N) : (rootsN s N).sum <= 32000 := by
 have h1 := qcu (l := rootsN s N) (B := 8000) (fun x hx => by
  obtain ⟨i, hi, rfl⟩ := qU.1 hx;have := qkH h hi;have := qy h hi;omega)
 have h2 : (rootsN s N).length <= 4 := by simp [rootsN]; exact h.n4
 have h3 := Nat.le_trans h1 (Nat.mul_le_mul_right _ h2);omega
theorem qdG (h : OkS s N) : 0 <= (rootsN s N).sum := qC fun x hx => by
 obtain ⟨i, hi, rfl⟩ := qU.1 hx;exact qy h hi
theorem qdW (h : OkM s N p) : gainN s N p <= 1000 * (rootsN s N).sum := by
 unfold gainN gainT rootsN
 have key : ∀ l : List Nat, (∀ k ∈ l, k < N.length) -> (l.map fun k => rootN s N k * p[k]?.getD 0).sum <= 1000 * (l.map (rootN s N)).sum := fun l => by
  induction l with
  | nil => intro _; simp
  | cons x l ih =>
   intro hl;have h1 := ih fun k hk => hl k (by simp [hk])
   have h2 := qy h.s (hl x (by simp))
   have h3 := qR h.toOkP x;have h4 := Int.mul_le_mul_of_nonneg_left h3.2 h2;simp only [List.map_cons, List.sum_cons];omega
 exact key _ fun k hk => List.mem_range.1 hk
end
end Go.Proofs.YtikfhfgdmlijeaaGreat.Sk
namespace Go.Proofs.YtikfhfgdmlijeaaGreat.Sk
def wT (N : List (List Int)) (state : Nat) : Nat -> Nat -> Int
 | 0, k => if k = state then 1 else 0
 | t + 1, k => ((List.range N.length).map fun i => wT N state t i * tn N i k).sum
def wpT (N : List (List Int)) (p : List Int) (state t j : Nat) : Int := ((List.range j).map fun k => wT N state t k * p[k]?.getD 0).sum
def fT (s : Int) (N : List (List Int)) (p : List Int) (state : Nat) : Nat -> Int
 | 0 => 0
 | t + 1 => fT s N p state t * s + wpT N p state t N.length
theorem qfR {α : Type} {d : α} {l : List α} : l.zipIdx = (List.range l.length).map fun i => (l[i]?.getD d, i) := by
 apply List.ext_getElem?
 intro i;rw [List.getElem?_map]
 by_cases h : i < l.length
 ·rw [List.getElem?_range h, List.getElem?_eq_getElem (by simpa using h), List.getElem_zipIdx]
  simp [h]
 ·rw [List.getElem?_eq_none (by simpa using h), List.getElem?_eq_none (by simpa using h)]; rfl
theorem qeb {α : Type} {f : α -> List Int} : ∀ {l : List α}, (l.flatMap f).sum = (l.map fun x => (f x).sum).sum
 | [] => rfl
 | x :: l => by rw [List.flatMap_cons, List.sum_append, List.map_cons, List.sum_cons, qeb]
theorem qgZ {n k : Nat} {f : Nat -> Int} (hk : k < n) : ((List.range n).map fun j => if j = k then f j else 0).sum = f k := by
 induction n with
 | zero => omega
 | succ n ih =>
  rw [List.range_succ, List.map_append, List.sum_append];simp only [List.map_cons, List.map_nil, List.sum_cons, List.sum_nil]
  by_cases e : n = k
  ·subst e
   have : (List.range n).map (fun j => if j = n then f j else 0) = (List.range n).map fun _ => (0 : Int) := List.map_congr_left fun j hj => by rw [if_neg (by have := List.mem_range.1 hj; omega)]
   rw [this, if_pos rfl]
   have h0 : ∀ l : List Nat, (l.map fun _ => (0 : Int)).sum = 0 := fun l => by
    induction l with
    | nil => rfl
    | cons x l ih => rw [List.map_cons, List.sum_cons, ih]; rfl
   rw [h0]; omega
  ·rw [ih (by omega), if_neg e]; omega
theorem qg0 {α : Type} {f : α -> Int} {l : List α} (h : ∀ x ∈ l, f x = 0) : (l.map f).sum = 0 := by
 induction l with
 | nil => rfl
 | cons x l ih => rw [List.map_cons, List.sum_cons, h x (by simp), ih fun y hy => h y (by simp [hy])]; rfl
def brg (w : Nat -> Int) (k : Nat) (z : Ent) : Int := if z.1.2 = (k : Int) then w z.1.1.toNat * z.2 else 0
theorem brg_row {w : Nat -> Int} {i k : Nat} {l : List Int} : ((rowE i l).map (brg w k)).sum = w i * l[k]?.getD 0 := by
 unfold rowE;rw [List.map_map, qfR (d := 0), List.map_map]
 have e : ∀ j ∈ List.range l.length, ((brg w k ∘ fun x : Int × Nat => ((((i : Int), (x.2 : Int)), x.1) : Ent)) ∘ fun j => (l[j]?.getD 0, j)) j = if j = k then w i * l[j]?.getD 0 else 0 := fun j _ => by
  simp only [Function.comp_apply, brg, Int.toNat_natCast]
  by_cases e : j = k
  ·rw [if_pos e, if_pos (by omega)]
  ·rw [if_neg e, if_neg (by omega)]
 rw [List.map_congr_left e]
 by_cases hk : k < l.length
 ·exact qgZ (f := fun j => w i * l[j]?.getD 0) hk
 ·rw [List.getElem?_eq_none (by omega)]
  rw [qg0 fun j hj => if_neg (by have := List.mem_range.1 hj; omega)]
  simp
theorem qh6 {w : Nat -> Int} {k : Nat} {N : List (List Int)} : ((turnsL N).map (brg w k)).sum = ((List.range N.length).map fun i => w i * tn N i k).sum := by
 have h1 : ((turnsL N).map (brg w k)).sum = ((allE N).map (brg w k)).sum := by
  unfold turnsL
  induction allE N with
  | nil => rfl
  | cons z L ih =>
   rw [List.filter_cons]
   by_cases h : z.2 = 0
   ·rw [if_neg (by simp [h]), List.map_cons, List.sum_cons, ih]
    have : brg w k z = 0 := by unfold brg; split; rw [h, Int.mul_zero]; rfl
    omega
   ·rw [if_pos (by simp [h]), List.map_cons, List.sum_cons, List.map_cons, List.sum_cons, ih]
 rw [h1];unfold allE;rw [List.map_flatMap, qeb, qfR (d := []), List.map_map];refine congrArg _ (List.map_congr_left fun i _ => ?_)
 simp only [Function.comp_apply];rw [brg_row]; rfl
section
variable {s : Int} {N : List (List Int)} {p : List Int} {state : Nat}
theorem qI (h : OkN s N) : ∀ {t k : Nat}, 0 <= wT N state t k
 | 0, k => by rw [wT]; split <;> decide
 | t + 1, k => by
  rw [wT];refine qC fun x hx => ?_
  obtain ⟨i, _, rfl⟩ := List.mem_map.1 hx;exact Int.mul_nonneg (qI h) (h.nn i k)
theorem qlX {f : Nat -> Nat -> Int} {n m : Nat} : ((List.range n).map fun i => ((List.range m).map (f i)).sum).sum = ((List.range m).map fun k => ((List.range n).map fun i => f i k).sum).sum := by
 induction n with
 | zero => simp only [List.range_zero, List.map_nil, List.sum_nil]; rw [qg0 fun _ _ => rfl]
 | succ n ih =>
  rw [List.range_succ, List.map_append, List.sum_append, ih];simp only [List.map_cons, List.map_nil, List.sum_cons, List.sum_nil, List.map_append, List.sum_append]
  have h2 : ∀ (l : List Nat) (a b : Nat -> Int), (l.map fun k => a k + (b k + 0)).sum = (l.map a).sum + (l.map b).sum := fun l a b => by
   induction l with
   | nil => rfl
   | cons x l ih => simp only [List.map_cons, List.sum_cons]; rw [ih]; omega
  rw [h2]; omega
theorem qcv {c : Int} {f : Nat -> Int} {l : List Nat} : (l.map fun k => c * f k).sum = c * (l.map f).sum := by
 induction l with
 | nil => simp
 | cons x l ih => simp only [List.map_cons, List.sum_cons]; rw [ih, Int.mul_add]
theorem qnF {c : Int} {f : Nat -> Int} {l : List Nat} : (l.map fun k => f k * c).sum = (l.map f).sum * c := by
 induction l with
 | nil => simp
 | cons x l ih => simp only [List.map_cons, List.sum_cons]; rw [ih, Int.add_mul]
theorem qg1 (h : OkS s N) (hs : state < N.length) : ∀ {t : Nat}, ((List.range N.length).map (wT N state t)).sum = s ^ t
 | 0 => by
  have := qgZ (n := N.length) (k := state) (f := fun _ => 1) hs
  rw [Int.pow_zero, <- this]; rfl
 | t + 1 => by
  have ih := qg1 h hs (t := t);have e : (List.range N.length).map (wT N state (t + 1)) = (List.range N.length).map fun k => ((List.range N.length).map fun i => wT N state t i * tn N i k).sum := rfl
  rw [e, <- qlX (f := fun i k => wT N state t i * tn N i k)]
  have e2 : ∀ i ∈ List.range N.length, ((List.range N.length).map fun k => wT N state t i * tn N i k).sum = wT N state t i * s := fun i hi => by
   rw [qcv, h.row (List.mem_range.1 hi)]
  rw [List.map_congr_left e2, qnF, ih, Int.pow_succ]
theorem qdH (h : OkN s N) : ∀ {t : Nat}, 1 <= s ^ t /\ s ^ t <= 20 ^ t
 | 0 => by simp
 | t + 1 => by
  obtain ⟨h1, h2⟩ := qdH h (t := t);have h3 := h.s1;have h4 := h.s20;rw [Int.pow_succ, Int.pow_succ];have h5 : (20 : Int) ^ t ≥ 0 := by omega
  exact ⟨Int.le_trans (by omega : (1 : Int) <= s ^ t) (by have := Int.mul_le_mul_of_nonneg_left h3 (show (0 : Int) <= s ^ t by omega); omega), Int.mul_le_mul h2 h4 (by omega) h5⟩
theorem qmm (h : OkS s N) (hs : state < N.length) {t k : Nat} (hk : k < N.length) : wT N state t k <= 20 ^ t := by
 have h1 := qcr (l := (List.range N.length).map (wT N state t)) (fun x hx => by
  obtain ⟨i, _, rfl⟩ := List.mem_map.1 hx;exact qI h.toOkN) (List.mem_map.2 ⟨k, List.mem_range.2 hk, rfl⟩)
 rw [qg1 h hs] at h1;exact Int.le_trans h1 (qdH h.toOkN).2
theorem qey {t j : Nat} : wpT N p state t (j + 1) = wpT N p state t j + wT N state t j * p[j]?.getD 0 := by
 unfold wpT; rw [List.range_succ, List.map_append, List.sum_append]; simp
theorem qbe (h : OkP s N p) {t j : Nat} : 0 <= wpT N p state t j := qC fun x hx => by
 obtain ⟨k, _, rfl⟩ := List.mem_map.1 hx;exact Int.mul_nonneg (qI h.toOkN) (qR h k).1
theorem qcw (h : OkM s N p) (hs : state < N.length) {t : Nat} : ∀ {j : Nat}, j <= N.length -> wpT N p state t j <= 1000 * s ^ t := by
 intro j hj
 have key : ∀ l : List Nat, (l.map fun k => wT N state t k * p[k]?.getD 0).sum <= 1000 * (l.map (wT N state t)).sum := fun l => by
  induction l with
  | nil => simp
  | cons x l ih =>
   have h2 := qI h.toOkN (state := state) (t := t) (k := x);have h4 := Int.mul_le_mul_of_nonneg_left (qR h.toOkP x).2 h2;simp only [List.map_cons, List.sum_cons];omega
 have h1 := key (List.range j)
 have h2 : ((List.range j).map (wT N state t)).sum <= ((List.range N.length).map (wT N state t)).sum := by
  have e : List.range N.length = List.range j ++ (List.range (N.length - j)).map (j + ·) := by
   rw [<- List.range_add]
   congr 1; omega
  rw [e, List.map_append, List.sum_append]
  have := qC (l := ((List.range (N.length - j)).map (j + ·)).map (wT N state t)) fun x hx => by
   obtain ⟨i, _, rfl⟩ := List.mem_map.1 hx;exact qI h.toOkN
  omega
 rw [qg1 h.s hs] at h2;unfold wpT;omega
theorem qf7 (h : OkM s N p) (hs : state < N.length) : ∀ {t : Nat}, 0 <= fT s N p state t /\ fT s N p state (t + 1) <= 1000 * (t + 1) * s ^ t
 | 0 => by
  have h1 := qcw h hs (t := 0) (Nat.le_refl _);refine ⟨Int.le_refl _, ?_⟩;rw [fT, fT];simp only [Int.zero_mul, Int.zero_add];exact Int.le_trans h1 (by simp)
 | t + 1 => by
  obtain ⟨h1, h2⟩ := qf7 h hs (t := t);have h3 := qcw h hs (t := t + 1) (Nat.le_refl _);have h4 := qbe h.toOkP (state := state) (t := t) (j := N.length)
  have h5 : 0 <= fT s N p state (t + 1) := by
   rw [fT];exact Int.add_nonneg (Int.mul_nonneg h1 (by have := h.s1; omega)) h4
  refine ⟨h5, ?_⟩;rw [fT];have h6 := Int.mul_le_mul_of_nonneg_right h2 (show (0 : Int) <= s by have := h.s1; omega)
  rw [Int.mul_assoc, <- Int.pow_succ] at h6;generalize s ^ (t + 1) = x at h3 h6
  have e : (1000 * (((t + 1 : Nat) : Int) + 1)) * x = 1000 * ((t : Int) + 1) * x + 1000 * x := by
   rw [<- Int.add_mul]; congr 1
  rw [e];omega
end
def toL (n k : Nat) : List Nat := (List.range n).map (chN n k)
def beqL : List Nat -> List Nat -> Bool
 | [], [] => true
 | x :: xs, y :: ys => Nat.beq x y && beqL xs ys
 | _, _ => false
theorem qh7 : ∀ {xs ys : List Nat}, beqL xs ys = true -> xs = ys
 | [], [], _ => rfl
 | [], _ :: _, h => by cases h
 | _ :: _, [], h => by cases h
 | x :: xs, y :: ys, h => by
  rw [beqL, Bool.and_eq_true] at h;rw [Nat.eq_of_beq_eq_true h.1, qh7 h.2]
def incB (n : Nat) : Bool := (List.range (n ^ n)).all fun k => (List.range (n + 1)).all fun i => !((toL n k).take i).all (fun d => Nat.beq (d + 1) n) ||
 (if Nat.blt i n then Nat.beq ((toL n k)[i]?.getD 0 + 1) n || (beqL ((List.replicate i 0 ++ (toL n k).drop i).set i ((toL n k)[i]?.getD 0 + 1)) (toL n (k + 1)) && Nat.blt (k + 1) (n ^ n)) else Nat.beq (k + 1) (n ^ n))
theorem qh8 : [1, 2, 3, 4].all incB = true := by decide +kernel
theorem qoP {n k i : Nat} (h1 : 1 <= n) (h4 : n <= 4) (hk : k < n ^ n) (hi : i < n) (hall : ∀ d ∈ (toL n k).take i, d + 1 = n) (hne : ¬ (toL n k)[i]?.getD 0 + 1 = n) :
  (List.replicate i 0 ++ (toL n k).drop i).set i ((toL n k)[i]?.getD 0 + 1) = toL n (k + 1) /\ k + 1 < n ^ n := by
 have h := qac (qac (four qh8 h1 h4) hk) (show i < n + 1 by omega)
 have ha : ((toL n k).take i).all (fun d => Nat.beq (d + 1) n) = true := List.all_eq_true.2 fun d hd => by rw [hall d hd]; exact Nat.beq_refl n
 rw [ha] at h;have hb : Nat.blt i n = true := by simpa using hi
 rw [hb] at h;simp only [Bool.not_true, Bool.false_or, if_true, Bool.or_eq_true, Bool.and_eq_true] at h
 rcases h with h | ⟨h5, h6⟩
 ·exact absurd (Nat.eq_of_beq_eq_true h) hne
 ·exact ⟨qh7 h5, by simpa using h6⟩
theorem qnG {n k : Nat} (h1 : 1 <= n) (h4 : n <= 4) (hk : k < n ^ n) (hall : ∀ d ∈ toL n k, d + 1 = n) : k + 1 = n ^ n := by
  have h := qac (qac (four qh8 h1 h4) hk) (show n < n + 1 by omega)
  have hl : (toL n k).length = n := by simp [toL]
  have ha : ((toL n k).take n).all (fun d => Nat.beq (d + 1) n) = true := List.all_eq_true.2 fun d hd => by rw [hall d (List.mem_of_mem_take hd)]; exact Nat.beq_refl n
  rw [ha] at h
  have hb : Nat.blt n n = false := by
    cases hb : Nat.blt n n with
    | false => rfl
    | true => have : n < n := by simpa using hb
              omega
  rw [hb] at h;simp only [Bool.not_true, Bool.false_or, Bool.false_eq_true, if_false] at h;exact Nat.eq_of_beq_eq_true h
theorem qoQ {n k : Nat} (h1 : 1 <= n) : ∀ d ∈ toL n k, d < n := fun d hd => by
 obtain ⟨i, _, rfl⟩ := List.mem_map.1 hd;exact qbv h1
theorem qcx {n k : Nat} : (toL n k).length = n := by simp [toL]
theorem qbI {n k i : Nat} (hi : i < n) : (toL n k)[i]? = some (chN n k i) := by unfold toL; rw [List.getElem?_map, List.getElem?_range hi]; rfl
def fillR (s : Int) (l : List Int) (t : Nat) : List Int := l.set t (l[t]?.getD 0 + (s - l.sum))
def fillT (s : Int) (N : List (List Int)) (k i : Nat) : List (List Int) := (List.range i).map fun j => fillR s (N[j]?.getD []) (chN N.length k j)
def fillN (s : Int) (N : List (List Int)) (k : Nat) : List (List Int) := fillT s N k N.length
theorem qiY {s : Int} {N : List (List Int)} {k i : Nat} : fillT s N k (i + 1) = fillT s N k i ++ [fillR s (N[i]?.getD []) (chN N.length k i)] := by
 unfold fillT; rw [List.range_succ, List.map_append]; rfl
theorem qb8 {s : Int} {N : List (List Int)} {k i : Nat} : (fillT s N k i).length = i := by simp [fillT]
theorem qh9 : ∀ {l : List Int} {t : Nat} {y : Int}, t < l.length -> (l.set t y).sum = l.sum - l[t]?.getD 0 + y
 | [], _, _, h => by simp at h
 | x :: l, 0, y, _ => by simp only [List.set_cons_zero, List.sum_cons, List.getElem?_cons_zero, Option.getD_some]; omega
 | x :: l, t + 1, y, h => by
  simp only [List.set_cons_succ, List.sum_cons, List.getElem?_cons_succ];rw [qh9 (by simpa using h)]; omega
theorem qiZ {l : List Int} (h : ∀ x ∈ l, 0 <= x) (t : Nat) : l[t]?.getD 0 <= l.sum := by
 cases hx : l[t]? with
 | none => exact qC h
 | some x => exact qcr h (List.mem_of_getElem? hx)
theorem qi0 {l : List Int} (h : ∀ x ∈ l, 0 <= x) (t : Nat) : 0 <= l[t]?.getD 0 := by
 cases hx : l[t]? with
 | none => exact Int.le_refl _
 | some x => exact h x (List.mem_of_getElem? hx)
section
variable {s : Int} {N : List (List Int)} {p : List Int}
theorem qdI {k : Nat} : (fillN s N k).length = N.length := qb8
theorem qkI {k i : Nat} (hi : i < N.length) : (fillN s N k)[i]? = some (fillR s (N[i]?.getD []) (chN N.length k i)) := by
 unfold fillN fillT;rw [List.getElem?_map, List.getElem?_range hi]; rfl
theorem qkJ {k : Nat} {l : List Int} (h : l ∈ fillN s N k) : ∃ i, i < N.length /\ ∃ r, N[i]? = some r /\ l = fillR s r (chN N.length k i) := by
 unfold fillN fillT at h;obtain ⟨i, hi, rfl⟩ := List.mem_map.1 h;rw [List.mem_range] at hi;exact ⟨i, hi, N[i], List.getElem?_eq_getElem hi, by rw [List.getElem?_eq_getElem hi]; rfl⟩
theorem qg2 (h : OkR s N p) {r : List Int} (hr : r ∈ N) {t : Nat} (ht : t < N.length) : (fillR s r t).length = N.length /\ (∀ x ∈ fillR s r t, 0 <= x /\ x <= s) /\ (fillR s r t).sum = s /\ (0 : Int) < (fillR s r t)[0]?.getD 0 := by
 have hl := h.sq r hr;have he := h.ent r hr;have hn : ∀ x ∈ r, 0 <= x := fun x hx => (he x hx).1
 have hle := h.le r hr;have h1 := qiZ hn t;have h0 := qi0 hn t;have hf := h.first r hr;have hn1 := h.n1;unfold fillR;refine ⟨by rw [List.length_set, hl], fun x hx => ?_, by rw [qh9 (by omega)]; omega, ?_⟩
 ·rcases List.mem_or_eq_of_mem_set hx with hx | rfl
  ·exact he x hx
  ·omega
 ·by_cases e : t = 0
  ·subst e
   rw [List.getElem?_set_self (by omega), Option.getD_some]; omega
  ·rw [List.getElem?_set_ne e]
   exact hf
theorem qia (h : OkR s N p) (k : Nat) : OkM s (fillN s N k) p := by
 have hl := qdI (s := s) (N := N) (k := k)
 have key : ∀ l ∈ fillN s N k, l.length = N.length /\ (∀ x ∈ l, 0 <= x /\ x <= s) /\ l.sum = s := fun l hl => by
  obtain ⟨i, hi, r, hr, rfl⟩ := qkJ hl;obtain ⟨h1, h2, h3, _⟩ := qg2 h (List.mem_of_getElem? hr) (qbv (num := k) (i := i) h.n1);exact ⟨h1, h2, h3⟩
 exact { n1 := by rw [hl]; exact h.n1, n4 := by rw [hl]; exact h.n4, sq := fun l hm => by rw [hl]; exact (key l hm).1, ent := fun l hm => (key l hm).2.1, s1 := h.s1, s20 := h.s20, pl := by rw [hl]; exact h.pl, pay := h.pay, sum := fun l hm => (key l hm).2.2 }
theorem qg3 {N : List (List Int)} (hn : 1 <= N.length) (h : ∀ i, i < N.length -> 0 < tn N i 0) : (parts N).length <= 1 := by
 have key : ∀ c ∈ firsts N, c = 0 := fun c hc => by
  have hp := qad.1 hc;have hlt := (qA.1 hp).1.lt;have := ((qA.1 hp).2 0 (.one (by simpa [gr] using h c hlt) (by omega))).1
  omega
 have hnd : (firsts N).Nodup := List.nodup_range.sublist List.filter_sublist;rw [qbk, List.length_map]
 cases hf : firsts N with
 | nil => simp
 | cons x l =>
  cases l with
  | nil => simp
  | cons y l =>
   rw [hf] at key hnd;have h1 := key x (by simp)
   have h2 := key y (by simp)
   rw [h1, h2] at hnd;simp at hnd
theorem qdJ (h : OkR s N p) (k : Nat) : (parts (fillN s N k)).length <= 1 := by
 refine qg3 (by rw [qdI]; exact h.n1) fun i hi => ?_
 rw [qdI] at hi;have hr : N[i]? = some N[i] := List.getElem?_eq_getElem hi;have := (qg2 h (List.getElem_mem hi) (qbv (num := k) (i := i) h.n1)).2.2.2;unfold tn;rw [qkI hi, hr];exact this
end
def lessQ (a b : Int × Int) : Bool := decide (a.1 * b.2 < b.1 * a.2)
def moreQ (a b : Int × Int) : Bool := lessQ b a
def bestF (lt : Int × Int -> Int × Int -> Bool) (out : Int × Int) (l : List (Int × Int)) : Int × Int := l.foldl (fun out x => if lt x out then x else out) out
def bestQ (lt : Int × Int -> Int × Int -> Bool) : List (Int × Int) -> Int × Int
 | [] => (0, 0)
 | c :: cs => bestF lt c cs
def payT (s : Int) (N : List (List Int)) (p : List Int) (k : Nat) : List (Int × Int) := (List.range k).map fun k => paysQ s (fillN s N k) p
def payL (s : Int) (N : List (List Int)) (p : List Int) : List (Int × Int) := payT s N p (N.length ^ N.length)
theorem qdK {n d : Int} (hd : 0 < d) : (lst n d).1.natAbs <= n.natAbs /\ 0 < (lst n d).2 /\ (lst n d).2 <= d := by
 have hg : 0 < gcdN n d := Nat.gcd_pos_of_pos_right _ (by omega)
 have hdv : gcdN n d ∣ d.natAbs := Nat.gcd_dvd_right _ _;unfold lst;refine ⟨by rw [Int.natAbs_tdiv]; exact Nat.div_le_self _ _, ?_, ?_⟩
 ·obtain ⟨q, hq⟩ := hdv
  have hdd : d = ((gcdN n d * q : Nat) : Int) := by omega
  have hq0 : 0 < q := by
   rcases Nat.eq_zero_or_pos q with h | h
   ·rw [h, Nat.mul_zero] at hq; omega
   ·exact h
  simp only;generalize gcdN n d = g at *;rw [hdd, Int.natCast_mul, Int.mul_tdiv_cancel_left _ (by omega)]
  omega
 ·simp only
  have h1 := Int.natAbs_tdiv d (gcdN n d);have h2 := Nat.div_le_self d.natAbs (gcdN n d);rw [Int.natAbs_natCast] at h1;have h3 : (d.tdiv (gcdN n d)).natAbs <= d.natAbs := by rw [h1]; exact h2
  omega
end Go.Proofs.YtikfhfgdmlijeaaGreat.Sk
namespace Go.Proofs.YtikfhfgdmlijeaaGreat.Sk
open Go Go.E Go.E.Sm
set_option maxRecDepth 10000
theorem k67 {s : Int} {N : List (List Int)} {p : List Int} : E.Fn Tryz.prog 67 [mc s N p] [.fn 100 [] [.ptr [.int .i64 N.length], .ptr [.int .i64 s, intss N, ints p]]] := by
 refine fn_of_row qq3 ?_;simp only [FRow.start, f67, c67r0, c67r1, mc, SV.cells, intss, go_sem, Nat.reduceAdd, Nat.reduceSub, Nat.reduceLeDiff, true_implies];intro _;simp only [qdT, c67r2, go_sem, true_implies]
 done
theorem qec {σ : AState} {b d o off sz : Nat} {cs : List LV} (h : fget σ.fr d = .loc b o) (hB : σ.hp[b]? = some (.obj cs)) (hc : cs[o + off]? = some (.full [])) :
  promote [(d, some off, sz)] σ = { fr := σ.fr, hp := σ.hp.set b (.obj (cs.set (o + off) (.sl σ.hp.length 0 0 (sz + 1) false))) ++ [.row []] } := by
 simp only [promote, promote1, h, hB, hc]
theorem qmn {a b c x y z : LV} : splice [a, b, c] 0 [x, y, z] = [x, y, z] := rfl
theorem qnH {a b c x : LV} : splice [a, b, c] 1 [x] = [a, x, c] := rfl
theorem qeQ {q : Nat -> Bool} {l : Nat} : fgt q (.yl l) = .yl l := by simp only [fgt]
theorem qg4 {fr : List LV} {d : Nat} {v : LV} : fpt fr (some d) v = fset fr d v := rfl
def z85 : ZCode := .seq (.code (.reg 1 c100r0)) (.block 0 (.loop c100l18m [] (.block 1 (.seq (.code (.reg 1 c100r1)) (.seq (.code (.seq (.reg 0 c100r2) (.block 2 (.loop c100l9m [(5, some 1, 0)] c100l9)))) (.seq (.seq (.zap 5 1 (.yld [⟨some 48, none, .mov (.t 0)⟩, ⟨some 49, none, .load 3 true (.t 5)⟩] (.t 48) (.t 49) (some 50) [⟨some 51, none, .not (.t 50)⟩])) (.cond (.t 51) (.code .ret) (.code .skip))) (.code (.seq (.reg 0 c100r11) (.seq (.block 4 (.loop c100l15m [] c100l15)) (.seq (.seq (.reg 0 c100r16) (.cond (.t 71) .ret .skip)) (.reg 0 c100r17)))))))))))
theorem y100 {s : Int} {N : List (List Int)} {p : List Int} (h : OkR s N p) : ZYields Tryz.prog 100 [.ptr [.int .i64 N.length], .ptr [.int .i64 s, intss N, ints p]] ((List.range (N.length ^ N.length)).map fun k => mc s (fillN s N k) p) := by
 refine zyields_of_row (zc := z85) (nt := 78) Tryz.func100 rfl (by kernel_rfl) (by kernel_rfl) (by kernel_rfl) fun l => ?_
 have hn1 := h.n1;have hn4 := h.n4
 have hpw : N.length ^ N.length <= 256 := by
  match N.length, hn1, hn4 with
  | 1, _, _ => decide
  | 2, _, _ => decide
  | 3, _, _ => decide
  | 4, _, _ => decide
 generalize hxs : ((List.range (N.length ^ N.length)).map fun k => mc s (fillN s N k) p) = xs
 have hxl : xs.length = N.length ^ N.length := by rw [<- hxs]; simp
 have hxk : ∀ k, k < N.length ^ N.length -> xs.drop k = mc s (fillN s N k) p :: xs.drop (k + 1) := fun k hk => by
  rw [List.drop_eq_getElem_cons (by omega)]
  congr 1
  subst hxs;simp
 have ht0 : (List.replicate N.length (0 : Int)) = nats (toL N.length 0) := by
  apply List.ext_getElem?
  intro i;unfold nats;rw [List.getElem?_map, List.getElem?_replicate]
  by_cases hi : i < N.length
  ·rw [if_pos hi, qbI hi]
   simp [chN]
  ·rw [if_neg hi, List.getElem?_eq_none (by rw [qcx]; omega)]; rfl
 have hpos : 0 < N.length ^ N.length := Nat.pow_pos (by omega)
 simp only [z85, List.map_cons, List.map_nil, Nat.reduceSub, c100r0, go_sem, Nat.reduceAdd, Nat.reduceSub, Nat.reduceLT, true_implies];refine ⟨by omega, by omega, ?_⟩
 rw [q7, ht0]
 refine qiQ (fun m τ r => ∃ k : Nat, m = N.length ^ N.length - k /\ k < N.length ^ N.length /\ r = some (xs.drop k) /\
  τ = ⟨((.yl l)::(.s (.ptr [.int .i64 N.length]))::(.s (.ptr [.int .i64 s, intss N, ints p]))::aN::(.sl 0 0 N.length 1 true)::aN::aZ72), [.row ((nats (toL N.length k)).map (.int .i64))]⟩) (N.length ^ N.length) rfl ?_ ?_
 ·simp only [c100l18m, go_sem, ↓reduceIte, reduceCtorEq, Nat.reduceLeDiff]
  exact ⟨0, rfl, hpos, rfl, rfl⟩
 ·rintro I m τ r ⟨k, rfl, hk, rfl, rfl⟩ hI
  have htl := qcx (n := N.length) (k := k);have htlt := qoQ (n := N.length) (k := k) hn1
  have hnx : ∀ i, i < N.length -> (nats (toL N.length k))[i]? = some (((toL N.length k)[i]?.getD 0 : Nat) : Int) := fun i hi => by
   unfold nats;rw [List.getElem?_map, qbI hi]; rfl
  simp only [c100r1, qmn, c100r2, intss, go_sem, ↓reduceIte, Nat.reduceAdd, Nat.reduceLeDiff, true_implies];intro _
  refine qe (fun m τ => ∃ i : Nat, m = N.length - i /\ i <= N.length /\
   τ = ⟨((.yl l)::(.s (.ptr [.int .i64 N.length]))::(.s (.ptr [.int .i64 s, intss N, ints p]))::aN::(.sl 0 0 N.length 1 true)::(.loc 1 0)::aN::aN::aN::aN::aN::aN::aN::aN::aN::aN::aN::aN::(.s (intss N))::(aI N.length)::(aI i)::aN::aZ56),
    [.row ((nats (toL N.length k)).map (.int .i64)), .obj [aI s, .sl 2 0 i 1 false, .s (ints p)], .row ((fillT s N k i).map ints)]⟩) N.length (qec rfl rfl rfl) ?_ ?_
  ·simp only [c100l9m, go_sem, ↓reduceIte, reduceCtorEq, Nat.reduceAdd, Nat.reduceLeDiff]
   exact ⟨0, rfl, Nat.zero_le _, rfl⟩
  ·rintro I2 m τ ⟨i, rfl, hi, rfl⟩ hI2
   simp only [c100l9, c100r3, go_sem, ↓reduceIte, Nat.reduceAdd, true_implies];refine ⟨fun hlt => ?_, fun hge => ?_⟩
   ·have hlt : i < N.length := by omega
    have hx : N[i]? = some N[i] := List.getElem?_eq_getElem hlt;have hl := h.sq _ (List.getElem_mem hlt);have hk52 := h.k60 (List.getElem_mem hlt);have hle := h.le _ (List.getElem_mem hlt);have hent := h.ent _ (List.getElem_mem hlt);have hft := qiY (s := s) (N := N) (k := k) (i := i);have hfl := qb8 (s := s) (N := N) (k := k) (i := i);rw [hx, Option.getD_some] at hft;generalize N[i] = row at hx hl hk52 hle hent hft;have hne2 : ¬ row.map (SV.int .i64) = [] := fun e => by have := congrArg List.length e; rw [List.length_map, List.length_nil] at this; omega
    obtain ⟨t, ht⟩ : ∃ t, t = chN N.length k i := ⟨_, rfl⟩;have htn : t < N.length := by rw [ht]; exact qbv hn1
    have hti : (nats (toL N.length k))[i]? = some ((t : Nat) : Int) := by
     rw [hnx i hlt, qbI hlt, ht]; rfl
    obtain ⟨z, hz⟩ : ∃ z, row[t]? = some z := ⟨_, List.getElem?_eq_getElem (by omega)⟩
    have hzb := hent z (List.mem_of_getElem? hz);have hs20 := h.s20;have hsum0 : 0 <= row.sum := qC fun x hx => (hent x hx).1
    have hfr : row.set t (z + (s - row.sum)) = fillR s row t := by unfold fillR; rw [hz]; rfl
    rw [<- ht, <- hfr] at hft;have hs1 := spl_row (R := row) (i := t) (x := z + (s - row.sum)) (by omega)
    simp only [c100r4, intss, hx, c100r5, ints, go_sem, Nat.reduceAdd, true_implies];refine .inr ⟨_, _, k101 (xs := row) (by omega), .inl ⟨rfl, rfl⟩, by decide, qaN, rfl, ?_⟩
    rw [if_neg hne2];simp only [qF, c100r6, Nat.mul_one, hti, hz, go_sem, Nat.reduceAdd, Nat.reduceLeDiff, true_implies];refine ⟨hlt, by omega, ?_⟩
    refine qa (by simp only [ints, go_sem]) hk52 (.inl rfl) ?_
    simp only [Nat.mul_one, hs1, go_sem, Nat.reduceAdd, true_implies];refine ⟨qZ (by omega) (by omega), qZ (by omega) (by omega), by omega, by omega, ?_⟩
    have hrt : rowOf 0 row.length 1 ((row.set t (z + (s - row.sum))).map (SV.int .i64)) = some ((row.set t (z + (s - row.sum))).map (.int .i64)) := by
     rw [qT (by simp), List.take_of_length_le (by simp)]
    have e3 : (fillT s N k i).map ints ++ flatE [SV.slice ((row.set t (z + (s - row.sum))).map (.int .i64))] = (fillT s N k (i + 1)).map ints := by
     rw [hft, List.map_append]; rfl
    simp only [c100r7, Nat.reduceBEq, Bool.false_eq_true, go_sem, ↓reduceIte, Nat.reduceAdd, Nat.reduceLeDiff, Nat.reduceMul, true_implies];refine ⟨_, hrt, ?_⟩;refine ⟨by decide, by decide, rfl, qaU rfl, qaU rfl, by rw [hfl, Nat.mul_one], by omega, by omega, ?_⟩
    rw [e3];simp only [qnH, c100r8, c100l9m, qeQ, go_sem, ↓reduceIte, reduceCtorEq, Nat.reduceLeDiff, true_implies];exact ⟨qb (by omega) (by omega), hI2 (N.length - (i + 1)) _ (by omega) ⟨i + 1, rfl, by omega, rfl⟩⟩
   ·have hie : i = N.length := by omega
    subst hie
    have hrow : rowOf 0 N.length 1 ((fillT s N k N.length).map ints) = some ((fillN s N k).map ints) := by
     rw [qT (by simp [qb8]), List.take_of_length_le (by simp [qb8])]; rfl
    refine ⟨_, hrow, ?_⟩;rw [hxk k hk];simp only [mc, go_sem, Nat.reduceAdd];refine ⟨rfl, ?_, ?_⟩
    ·simp only [qg4, c100r11, go_sem, Nat.reduceAdd, true_implies]
     refine qe (fun m τ => ∃ i : Nat, m = N.length - i /\ i <= N.length /\ (∀ d ∈ (toL N.length k).take i, d + 1 = N.length) /\
      τ = ⟨((.yl l)::(.s (.ptr [.int .i64 N.length]))::(.s (.ptr [.int .i64 s, intss N, ints p]))::aN::(.sl 0 0 N.length 1 true)::aN::aN::aN::aN::(aI i)::aN::aN::aN::aN::aZ64),
       [.row ((nats (List.replicate i 0 ++ (toL N.length k).drop i)).map (.int .i64)), .obj [aI s, .s (.slice ((fillN s N k).map ints)), .s (ints p)], .frz ((fillT s N k N.length).map ints)]⟩) N.length rfl ?_ ?_
     ·simp only [c100l15m, go_sem, ↓reduceIte, reduceCtorEq, Nat.reduceAdd, Nat.reduceLeDiff]
      exact ⟨0, rfl, Nat.zero_le _, by simp, by simp [qeQ]⟩
     ·rintro I3 m τ ⟨i, rfl, hi, hall, rfl⟩ hI3
      have hRl : (List.replicate i 0 ++ (toL N.length k).drop i).length = N.length := by simp [qcx]; omega
      by_cases hlt : i < N.length
      ·have hti : (nats (List.replicate i 0 ++ (toL N.length k).drop i))[i]? = some (((toL N.length k)[i]?.getD 0 : Nat) : Int) := by
        unfold nats;rw [List.getElem?_map, List.getElem?_append_right (by simp), List.length_replicate, Nat.sub_self, List.getElem?_drop, Nat.add_zero, qbI hlt]; rfl
       have hdlt : (toL N.length k)[i]?.getD 0 < N.length := by rw [qbI hlt]; exact qbv hn1
       have e1 : (i : Int) < N.length := by omega
       have hinc := fun hne => qoP hn1 hn4 hk hlt hall hne
       have hmm : (toL N.length k)[i]? = some ((toL N.length k)[i]?.getD 0) := by rw [qbI hlt]; rfl
       have htk := fun (q : Nat -> Prop) (h1 : ∀ d ∈ (toL N.length k).take i, q d) (h2 : q ((toL N.length k)[i]?.getD 0)) => qa0 hmm h1 h2
       have hdrop : (List.replicate i 0 ++ (toL N.length k).drop i).set i 0 = List.replicate (i + 1) 0 ++ (toL N.length k).drop (i + 1) := by
        rw [List.set_append_right _ _ (by simp), List.length_replicate, Nat.sub_self, List.drop_eq_getElem_cons (by rw [qcx]; exact hlt), List.set_cons_zero, List.replicate_succ', List.append_assoc]; rfl
       generalize (toL N.length k)[i]?.getD 0 = d at *;generalize List.replicate i 0 ++ (toL N.length k).drop i = R at *
       by_cases hd : d + 1 = N.length
       ·have hd2 : (d : Int) = N.length - 1 := by omega
        have hs1 := spl_row (R := nats R) (i := i) (x := 0) (by simp [nats]; omega)
        have hns : (nats R).set i 0 = nats (R.set i 0) := qev (y := 0);have hin : inR .i64 ((N.length : Int) - 1) := qZ (by omega) (by omega)
        simp only [c100l15, c100r12, e1, hti, Nat.mul_one, hd2, go_sem, Nat.reduceAdd, true_implies];refine ⟨hin, ?_⟩;simp only [c100r13, Nat.mul_one, hs1, hns, go_sem, Nat.reduceAdd, true_implies];refine ⟨hlt, by simp [nats]; omega, ?_⟩
        simp only [c100r14, c100l15m, go_sem, ↓reduceIte, reduceCtorEq, Nat.reduceLeDiff, true_implies];refine ⟨qb (by omega) (by omega), hI3 (N.length - (i + 1)) _ (by omega) ⟨i + 1, rfl, by omega, htk (fun d => d + 1 = N.length) hall hd, ?_⟩⟩
        rw [<- hdrop, qeQ]; rfl
       ·have hd2 : ¬ (d : Int) = N.length - 1 := by omega
        have hin : inR .i64 ((N.length : Int) - 1) := qZ (by omega) (by omega)
        obtain ⟨q1, q2⟩ := hinc hd;have hs1 := spl_row (R := nats R) (i := i) (x := ((d + 1 : Nat) : Int)) (by simp [nats]; omega)
        have hns : (nats R).set i ((d + 1 : Nat) : Int) = nats (R.set i (d + 1)) := qev;rw [q1] at hns;rw [hns] at hs1;have e2 : ¬ (i : Int) = N.length := by omega
        simp only [c100l15, c100r12, e1, hti, Nat.mul_one, hd2, go_sem, ↓reduceIte, Nat.reduceAdd, true_implies];refine ⟨hin, ?_⟩;simp only [c100r16, e2, c100r17, Nat.mul_one, hti, go_sem, Nat.reduceAdd, true_implies];have e3 : (d : Int) + 1 = ((d + 1 : Nat) : Int) := rfl;rw [e3, hs1];refine ⟨hlt, qb (by omega) (by omega), hlt, ?_⟩
        simp only [c100l18m, qeQ, go_sem, ↓reduceIte, reduceCtorEq, Nat.reduceLeDiff];refine ⟨by simp [nats]; omega, ?_⟩
        exact hI (N.length ^ N.length - (k + 1)) _ _ (by omega) ⟨k + 1, rfl, q2, rfl, rfl⟩
      ·have hie : i = N.length := by omega
       subst hie;rw [List.take_of_length_le (by rw [qcx]; exact Nat.le_refl _)] at hall
       have hend := qnG hn1 hn4 hk hall;simp only [c100l15, c100r12, go_sem, ↓reduceIte, Nat.reduceAdd, true_implies];refine ⟨fun h => absurd h (Nat.lt_irrefl _), fun _ => ?_⟩
       simp only [c100r16, go_sem, reduceCtorEq, true_implies];left;rw [List.drop_eq_nil_of_le (by omega)]
    ·simp only [qg4, go_sem, reduceCtorEq, true_implies]
     exact .inr trivial
end Go.Proofs.YtikfhfgdmlijeaaGreat.Sk
