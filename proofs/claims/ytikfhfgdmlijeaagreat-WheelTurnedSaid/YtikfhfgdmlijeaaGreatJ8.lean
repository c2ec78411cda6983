/- Contracts: between which ends the long-run pay lies. -/
import Derived.Test.YtikfhfgdmlijeaaGreatJ7
import Derived.Deep.Strs

set_option linter.all false

namespace Go.Proofs.YtikfhfgdmlijeaaGreat.Sk
open Go Go.E Go.E.Sm
set_option maxRecDepth 10000
def Small (q : Int × Int) : Prop := q.1.natAbs <= 2 ^ 30 /\ q.2.natAbs <= 2 ^ 30
theorem qhJ {a b : Int} {A B : Nat} (ha : a.natAbs <= A) (hb : b.natAbs <= B) : (a * b).natAbs <= A * B := by
 rw [Int.natAbs_mul]; exact Nat.mul_le_mul ha hb
theorem qfS {a b : Int} (ha : a.natAbs <= 2 ^ 30) (hb : b.natAbs <= 2 ^ 30) : inR .i64 (a * b) := qk (Nat.le_trans (qhJ ha hb) (by decide))
theorem k69 {a b : Int × Int} (ha : Small a) (hb : Small b) : E.Fn Tryz.prog 69 [rat a, rat b] [.bool (lessQ a b)] := by
 refine fn_of_row qq5 ?_;simp only [FRow.start, f69, c69r0, c69r1, rat, SV.cells, go_sem, Nat.reduceAdd, Nat.reduceSub, Nat.reduceLeDiff, true_implies];exact ⟨qfS ha.1 hb.2, qfS hb.1 ha.2, rfl⟩
theorem k70 {a b : Int × Int} (ha : Small a) (hb : Small b) : E.Fn Tryz.prog 70 [rat a, rat b, .ptr [.fn 69 [] []]] [.bool (moreQ a b)] := by
 refine fn_of_row qq6 ?_;simp only [FRow.start, f70, c70r0, c70r1, rat, SV.cells, go_sem, Nat.reduceAdd, Nat.reduceSub, true_implies];refine ⟨by kernel_rfl, ?_⟩
 refine qa (by simp only [rat, go_sem]) (k69 hb ha) (.inl rfl) ?_
 simp only [go_sem, true_implies];rfl
theorem k71 {g : FuncId} {caps : List SV} {c : Int × Int} {cs : List (Int × Int)} {lt : Int × Int -> Int × Int -> Bool} (hg : okFn Tryz.prog g = true) (hc : (caps.map LV.s).all LV.isOne = true) (hlt : ∀ a ∈ c :: cs, ∀ b ∈ c :: cs, E.Fn Tryz.prog g ([rat a, rat b] ++ caps) [.bool (lt a b)]) :
  E.Fn Tryz.prog 71 [rats (c :: cs), .fn g [] caps] [rat (bestQ lt (c :: cs))] := by
 refine fn_of_row qq7 ?_;have htk : List.take (cs.length + 1 - 1) (cs.map rat) = cs.map rat := by rw [List.take_of_length_le]; simp
 simp only [FRow.start, f71, c71r0, c71r1, rats, rat, ql, c71r2, go_sem, ↓reduceIte, Nat.reduceAdd, Nat.reduceSub, Nat.reduceLeDiff, Int.reduceLE, Int.reduceToNat, true_implies];rw [htk];refine ⟨.inr fun y hy => ?_, fun hlen => ?_⟩
 ·rcases List.mem_cons.1 hy with rfl | hy
  ·rfl
  ·obtain ⟨q, _, rfl⟩ := List.mem_map.1 hy
   rfl
 rw [List.length_map] at hlen;have hlen' : (cs.length : Int) <= 2 ^ 63 - 1 := Int.le_trans (Int.ofNat_le.mpr hlen) qan
 refine qe (fun m τ => ∃ i : Nat, m = cs.length - i /\ i <= cs.length /\ bestF lt c (cs.take i) ∈ c :: cs /\
  τ = ⟨[.any, .s (.fn g [] caps), .any, .any, .loc 0 0, .loc 1 0, .any, .any, .any, .any, .any, .any, .s (rats cs), aI cs.length, aI i, .any, .any, .any, .any, .any, .any, .any, .any, .any, .any],
   [.obj [aI 0, aI 0], .obj [aI (bestF lt c (cs.take i)).1, aI (bestF lt c (cs.take i)).2]]⟩) cs.length rfl ?_ ?_
 ·simp only [c71l8m, go_sem, ↓reduceIte, reduceCtorEq, Nat.reduceAdd, Nat.reduceLeDiff]
  exact ⟨0, rfl, Nat.zero_le _, by simp [bestF], rfl⟩
 ·rintro I m τ ⟨i, rfl, hi, hmem, rfl⟩ hI
  simp only [c71l8, c71r3, go_sem, ↓reduceIte, Nat.reduceAdd, true_implies];refine ⟨fun hlt2 => ?_, fun hge => ?_⟩
  ·have hlt2 : i < cs.length := by omega
   have hx : cs[i]? = some cs[i] := List.getElem?_eq_getElem hlt2;have hxm : cs[i] ∈ c :: cs := List.mem_cons_of_mem _ (List.getElem_mem hlt2)
   have hbs : bestF lt c (cs.take (i + 1)) = if lt cs[i] (bestF lt c (cs.take i)) then cs[i] else bestF lt c (cs.take i) := by
    rw [qb6 hx]; unfold bestF; rw [List.foldl_append]; rfl
   have hcall := hlt _ hxm _ hmem
   have hmem2 : bestF lt c (cs.take (i + 1)) ∈ c :: cs := by
    rw [hbs]; split
    ·exact hxm
    ·exact hmem
   generalize cs[i] = x at hx hbs hcall;generalize bestF lt c (cs.take i) = b at hcall hbs;simp only [c71r4, rats, hx, rat, ql, c71r5, go_sem, Nat.reduceAdd, true_implies];refine ⟨hg, hc, ?_⟩;refine qa (by simp only [rat, go_sem]) hcall (.inl rfl) ?_
   cases hl : lt x b with
   | true =>
    rw [hl, if_pos rfl] at hbs;simp only [c71r6, ql, c71r7, c71l8m, go_sem, ↓reduceIte, reduceCtorEq, Nat.reduceAdd, Nat.reduceLeDiff, true_implies];exact ⟨qb (by omega) (by omega), hI (cs.length - (i + 1)) _ (by omega) ⟨i + 1, rfl, by omega, hmem2, by rw [hbs]; rfl⟩⟩
   | false =>
    rw [hl, if_neg (by simp)] at hbs
    simp only [c71r7, c71l8m, go_sem, ↓reduceIte, reduceCtorEq, Nat.reduceAdd, Nat.reduceLeDiff, true_implies];exact ⟨qb (by omega) (by omega), hI (cs.length - (i + 1)) _ (by omega) ⟨i + 1, rfl, by omega, hmem2, by rw [hbs]; rfl⟩⟩
  ·have hie : i = cs.length := by omega
   subst hie;rw [List.take_length];simp only [c71r9, ql, qt, List.take_succ_cons, List.take_zero, go_sem, Nat.reduceAdd, true_implies];rfl
theorem qi1 {s : Int} {N : List (List Int)} {p : List Int} (h : OkM s N p) (hS : (parts N).length <= 1) : Small (paysQ s N p) := by
 have h1 := qaJ h hS;have h2 := qa1 h.s;have h3 := qdW h;have h5 : 0 <= gainN s N p := qbd h (Nat.le_refl _);have h4 := qdK (n := gainN s N p) h1;unfold paysQ Small;omega
def betR (s : Int) (N : List (List Int)) (p : List Int) : List SV :=
 if chkR s N p = 0 then [rat (bestQ lessQ (payL s N p)), rat (bestQ moreQ (payL s N p)), .int .i64 0] else [rat (0, 0), rat (0, 0), .int .i64 (chkR s N p)]
set_option maxHeartbeats 1000000 in
theorem k24 {s : Int} {N : List (List Int)} {p : List Int} : E.Fn Tryz.prog 24 [mc s N p] (betR s N p) := by
 refine qiM qqt ?_;unfold betR;simp only [BRow.start, t24, c24r0, c24r1, mc, SV.cells, List.length_cons, List.length_nil, go_sem, Nat.reduceAdd, Nat.reduceSub, true_implies];refine qa rfl (k44 (s := s) (N := N) (p := p)) (.inl rfl) ?_
 by_cases h0 : chkR s N p = 0
 ·rw [if_pos h0]
  have h := qkv.1 h0;simp only [h0, c24r2, c24r4, c24r5, List.length_cons, List.length_nil, go_sem, Nat.reduceAdd, true_implies];refine qa rfl (k67 (s := s) (N := N) (p := p)) (.inr (.inl rfl)) ?_
  have hyl := y100 h;have hn1 := h.n1;have hn4 := h.n4
  have hpw : N.length ^ N.length <= 256 := by
   match N.length, hn1, hn4 with
   | 1, _, _ => decide
   | 2, _, _ => decide
   | 3, _, _ => decide
   | 4, _, _ => decide
  simp only [go_sem, true_implies]
  refine qiO (σ' := ⟨[.s (mc s N p), .s (.ptr [.int .i64 s, intss N, ints p]), .loc 0 0, .loc 1 0, aI 0, aI 0, .loc 2 0, .any, .any, .any, .any, .s (mc s N p), aI 0, aI 0, .s (.bool false), .any, .any, .any, .s (mc s N p), .s (.fn 100 [] [.ptr [.int .i64 N.length], .ptr [.int .i64 s, intss N, ints p]]), .any, .any, .any, .any, .any, .any, .any, .any, .any, .any, .any, .any, .any, .any, .any, .any],
   [.obj [aI 0, aI 0], .obj [aI 0, aI 0], .obj [.sl 3 0 0 2 false], .row []]⟩) rfl ?_
  refine qiP (fun vs H => ∃ k : Nat, k <= N.length ^ N.length /\ vs = ((List.range (N.length ^ N.length)).map fun k => mc s (fillN s N k) p).drop k /\
   H = [.obj [aI 0, aI 0], .obj [aI 0, aI 0], .obj [.sl 3 0 k 2 false], .row ((twoR (payT s N p k)).map (.int .i64))]) rfl (by kernel_rfl) rfl hyl (by decide) ⟨0, Nat.zero_le _, rfl, rfl⟩ rfl ?_ ?_
  ·rintro H ⟨k, hk, hd, rfl⟩
   have hke : k = N.length ^ N.length := by
    have := congrArg List.length hd;simp at this; omega
   subst hke;have hpt : 0 < N.length ^ N.length := Nat.pow_pos (by omega)
   obtain ⟨c, cs, hcs⟩ : ∃ c cs, payL s N p = c :: cs := by
    cases hp : payL s N p with
    | nil => have := congrArg List.length hp; simp [payL, payT] at this
    | cons c cs => exact ⟨c, cs, rfl⟩
   have hpe : payT s N p (N.length ^ N.length) = c :: cs := hcs
   have hsm : ∀ a ∈ c :: cs, Small a := fun a ha => by
    rw [<- hcs] at ha;obtain ⟨k, _, rfl⟩ := List.mem_map.1 ha;exact qi1 (qia h k) (qdJ h k)
   have h1 := k71 (g := 69) (caps := []) (c := c) (cs := cs) (lt := lessQ) (by kernel_rfl) (by rfl) fun a ha b hb => k69 (hsm a ha) (hsm b hb)
   have h2 := k71 (g := 70) (caps := [.ptr [.fn 69 [] []]]) (c := c) (cs := cs) (lt := moreQ) (by kernel_rfl) (by rfl) fun a ha b hb => k70 (hsm a ha) (hsm b hb)
   have hsl : sliceOf 0 (N.length ^ N.length) 2 ((twoR (c :: cs)).map (SV.int .i64)) = some (rats (c :: cs)) := qeN (by rw [<- hpe, payT, List.length_map, List.length_range])
   rw [hcs, hpe];simp only [List.length_cons, List.length_nil, c24r10, c24r11, c24r12, qdT, go_sem, ↓reduceIte, reduceCtorEq, Nat.reduceAdd, Nat.reduceSub, Nat.reduceLeDiff, true_implies];refine qa (by simp only [hsl, go_sem]) h1 (.inl rfl) ?_
   simp only [go_sem];refine qa (by simp only [hsl, go_sem]) h2 (.inl rfl) ?_
   simp only [rat, ql, qt, go_sem, Nat.reduceAdd, true_implies]
   done
  ·rintro v vs H I ⟨k, hk, hd, rfl⟩ hI
   have hk : k < N.length ^ N.length := by
    have := congrArg List.length hd;simp at this; omega
   rw [List.drop_eq_getElem_cons (by simpa using hk)] at hd
   simp only [List.getElem_map, List.getElem_range, List.cons.injEq] at hd;obtain ⟨rfl, rfl⟩ := hd;have hM := qia h k;have h65 := k68' (s := s) (p := p) (by have := hM.n4; omega) hM.sq hM.goOn
   have h60 := k64 hM (qdJ h k);have htl : (twoR (payT s N p k)).length = k * 2 := by rw [qex]; simp [payT]
   have hts : payT s N p (k + 1) = payT s N p k ++ [paysQ s (fillN s N k) p] := by unfold payT; rw [List.range_succ, List.map_append]; rfl
   have hsn := qfQ (l := payT s N p k) (q := paysQ s (fillN s N k) p);rw [<- hts] at hsn;simp only [List.length_cons, List.length_nil, c24b9a, c24r6, mc, SV.cells, qmn, c24b9, c24r7, go_sem, ↓reduceIte, reduceCtorEq, Nat.reduceAdd, Nat.reduceSub, Nat.reduceLeDiff, true_implies];refine qa (by simp only [intss, ints, go_sem]) h65 (.inr (.inl (by simp only [intss, ints, go_sem]))) ?_
   simp only [c24r8, go_sem, Nat.reduceAdd, true_implies];refine ⟨rfl, by kernel_rfl, rfl, ?_⟩
   refine qa (by simp only [benchC, bnV, go_sem]) h60 (.inl rfl) ?_
   simp only [rat, Nat.reduceBEq, Bool.false_eq_true, go_sem, ↓reduceIte, Nat.reduceAdd, Nat.reduceMul, true_implies];refine ⟨by decide, by decide, rfl, qdV, qdV, htl.symm, by omega, by omega, ?_⟩
   rw [hsn];simp only [qdT, go_sem, ↓reduceIte, reduceCtorEq, Nat.reduceLeDiff];exact hI _ ⟨k + 1, hk, rfl, rfl⟩
 ·rw [if_neg h0]
  simp only [h0, c24r2, c24r3, rat, ql, qt, go_sem, Nat.reduceAdd, true_implies]
  done
end Go.Proofs.YtikfhfgdmlijeaaGreat.Sk
namespace Go.Proofs.YtikfhfgdmlijeaaGreat.Sk
inductive Wk (g : Nat -> Nat -> Bool) (n : Nat) : Nat -> Nat -> Nat -> Prop
 | nil {i : Nat} : Wk g n 0 i i
 | snoc {t i j k : Nat} (h : Wk g n t i j) (hg : g j k = true) (hk : k < n) : Wk g n (t + 1) i k
section
variable {g : Nat -> Nat -> Bool} {n : Nat}
theorem Wk.append {a b i j k : Nat} (h1 : Wk g n a i j) (h2 : Wk g n b j k) : Wk g n (a + b) i k := by
 induction h2 with
 | nil => exact h1
 | snoc _ hg hk ih => exact .snoc (ih h1) hg hk
theorem Wk.reach {t i k : Nat} (h : Wk g n t i k) : t = 0 /\ i = k \/ Reach g n i k := by
 induction h with
 | nil => exact .inl ⟨rfl, rfl⟩
 | snoc _ hg hk ih =>
  rcases ih with ⟨_, rfl⟩ | h
  ·exact .inr (.one hg hk)
  ·exact .inr (.more h hg hk)
theorem qe5 {i k : Nat} : ∀ {m : Nat}, k ∈ rB g n i m -> ∃ r, 1 <= r /\ r <= m + 1 /\ Wk g n r i k
 | 0, h => ⟨1, Nat.le_refl _, Nat.le_refl _, .snoc .nil (List.mem_filter.1 h).2 (List.mem_range.1 (List.mem_filter.1 h).1)⟩
 | m + 1, h => by
  have hk := qdS h;rw [rB] at h;have h2 := (List.mem_filter.1 h).2;rw [Bool.or_eq_true, decide_eq_true_eq, List.any_eq_true] at h2
  rcases h2 with h2 | ⟨j, h2, h3⟩
  ·obtain ⟨r, h4, h5, h6⟩ := qe5 h2
   exact ⟨r, h4, by omega, h6⟩
  ·obtain ⟨r, h4, h5, h6⟩ := qe5 h2
   exact ⟨r + 1, by omega, by omega, .snoc h6 h3 hk⟩
end
def wkB (g : Nat -> Nat -> Bool) (n c : Nat) : Nat -> Nat -> Bool
 | 0, k => Nat.beq k c
 | t + 1, k => (List.range n).any fun i => wkB g n c t i && g i k
def perT (g : Nat -> Nat -> Bool) (n c : Nat) : Nat -> Nat
 | 0 => 0
 | m + 1 => if wkB g n c (m + 1) c then Nat.gcd (perT g n c m) (m + 1) else perT g n c m
def perN (g : Nat -> Nat -> Bool) (n c : Nat) : Nat := perT g n c 12
section
variable {g : Nat -> Nat -> Bool} {n c : Nat}
theorem qdX (hc : c < n) : ∀ {t k : Nat}, k < n -> (wkB g n c t k = true ↔ Wk g n t c k)
 | 0, k, _ => by
  rw [wkB];constructor
  ·intro h; rw [Nat.eq_of_beq_eq_true h]; exact .nil
  ·intro h; cases h; exact Nat.beq_refl _
 | t + 1, k, hk => by
  rw [wkB, List.any_eq_true];constructor
  ·rintro ⟨i, hi, h⟩
   rw [Bool.and_eq_true] at h;exact .snoc ((qdX hc (List.mem_range.1 hi)).1 h.1) h.2 hk
  ·intro h
   cases h with
   | @snoc _ _ j _ h hg _ =>
    have hj : j < n := by
     rcases h.reach with ⟨_, rfl⟩ | h
     ·exact hc
     ·exact h.lt
    exact ⟨j, List.mem_range.2 hj, by rw [(qdX hc hj).2 h, hg]; rfl⟩
theorem qcX (hc : c < n) {e : Nat} : ∀ {m : Nat}, e ∣ perT g n c m ↔ ∀ t, 1 <= t -> t <= m -> Wk g n t c c -> e ∣ t
 | 0 => by
  rw [perT];exact ⟨fun _ t h1 h2 => by omega, fun _ => Nat.dvd_zero e⟩
 | m + 1 => by
  have ih := qcX hc (e := e) (m := m);rw [perT]
  have key : (∀ t, 1 <= t -> t <= m + 1 -> Wk g n t c c -> e ∣ t) ↔ (∀ t, 1 <= t -> t <= m -> Wk g n t c c -> e ∣ t) /\ (Wk g n (m + 1) c c -> e ∣ m + 1) := by
   constructor
   ·exact fun h => ⟨fun t h1 h2 => h t h1 (by omega), h (m + 1) (by omega) (Nat.le_refl _)⟩
   ·rintro ⟨h1, h2⟩ t h3 h4
    by_cases e1 : t = m + 1
    ·rw [e1]; exact h2
    ·exact h1 t h3 (by omega)
  rw [key, <- ih]
  by_cases hx : wkB g n c (m + 1) c = true
  ·rw [if_pos hx, Nat.dvd_gcd_iff]
   have := (qdX hc hc).1 hx;exact ⟨fun h => ⟨h.1, fun _ => h.2⟩, fun h => ⟨h.1, h.2 this⟩⟩
  ·rw [if_neg hx]
   exact ⟨fun h => ⟨h, fun hw => absurd ((qdX hc hc).2 hw) hx⟩, fun h => h.1⟩
theorem qoR (hc : c < n) {d : Nat} {f : Nat -> Int} {S : Nat -> Prop} (h0 : S c) (hf0 : f c = 0) (h1 : ∀ i, S i -> ∃ L : Nat, f i = L /\ L <= 3 /\ Wk g n L c i) (h2 : ∀ i k, S i -> k < n -> g i k = true -> S k /\ (d : Int) ∣ f i + 1 - f k)
  (h3 : ∀ e : Nat, (∀ i k, S i -> S k -> k < n -> g i k = true -> (e : Int) ∣ f i + 1 - f k) -> e ∣ d) (h4 : ∀ k, S k -> ∃ r, 1 <= r /\ r <= 5 /\ Wk g n r k c) : d = perN g n c := by
 have key : ∀ {t i k : Nat}, Wk g n t i k -> i = c -> S k /\ (d : Int) ∣ (t : Int) - f k := by
  intro t i k hw
  induction hw with
  | nil => intro e; subst e; exact ⟨h0, by rw [hf0]; exact ⟨0, by simp⟩⟩
  | snoc _ hg hk ih =>
   intro e;obtain ⟨h5, h6⟩ := ih e;obtain ⟨h7, h8⟩ := h2 _ _ h5 hk hg;refine ⟨h7, ?_⟩;have := Int.dvd_add h6 h8
   rename_i t' _ j k' _
   have e2 : (t' : Int) - f j + (f j + 1 - f k') = ((t' + 1 : Nat) : Int) - f k' := by omega
   rw [e2] at this; exact this
 apply Nat.dvd_antisymm
 ·refine (qcX hc).2 fun t _ _ hw => ?_
  have := (key hw rfl).2;rw [hf0, Int.sub_zero] at this;exact Int.natCast_dvd_natCast.1 this
 ·refine h3 _ fun i k hi hk hkn hg => ?_
  obtain ⟨L1, e1, b1, w1⟩ := h1 i hi;obtain ⟨L2, e2, b2, w2⟩ := h1 k hk;obtain ⟨r, r1, r2, w3⟩ := h4 k hk;have q1 := (qcX hc (e := perN g n c) (m := 12)).1 (Nat.dvd_refl _) (L1 + 1 + r) (by omega) (by omega) ((Wk.snoc w1 hg hkn).append w3)
  have q2 := (qcX hc (e := perN g n c) (m := 12)).1 (Nat.dvd_refl _) (L2 + r) (by omega) (by omega) (w2.append w3)
  have q3 := Int.dvd_sub (Int.natCast_dvd_natCast.2 q1) (Int.natCast_dvd_natCast.2 q2);have e3 : ((L1 + 1 + r : Nat) : Int) - ((L2 + r : Nat) : Int) = f i + 1 - f k := by omega
  rw [e3] at q3;exact q3
end
end Go.Proofs.YtikfhfgdmlijeaaGreat.Sk
namespace Go.Proofs.YtikfhfgdmlijeaaGreat.Sk
open Go Go.E Go.E.Sm
set_option maxRecDepth 10000
def landsQ (s : Int) (N : List (List Int)) (state : Int) (pt : List Int) : Int × Int :=
 if idx (fun x => decide (state = x)) (nats (opL N)) 0 < 0 then (if state ∈ pt then (1, 1) else (0, 1))
 else lst (solK s N (opL N) ((opL N).map (toP N pt)) (idx (fun x => decide (state = x)) (nats (opL N)) 0).toNat) (detS s N (opL N))
theorem qlY {g : Nat -> Nat -> Bool} {n i : Nat} : (rchC g n i).length <= n := by
 unfold rchC; rw [List.length_map]; exact qkm
theorem qg5 {N : List (List Int)} {l : List Int} (h : l ∈ parts N) : l.length <= N.length := by
 obtain ⟨c, _, rfl⟩ := qcW h;exact qlY
theorem qlZ {N : List (List Int)} {l : List Int} (h : l ∈ parts N) {x : Int} (hx : x ∈ l) : ∃ k : Nat, x = k /\ k < N.length := by
 obtain ⟨c, _, rfl⟩ := qcW h;obtain ⟨k, h1, h2⟩ := qcV.1 hx;exact ⟨k, h1, h2.lt⟩
theorem qg6 {α : Type} {p : α -> Bool} : ∀ {xs : List α} {i : Nat}, idx p xs i < 0 /\ (∀ x ∈ xs, p x = false) \/ ∃ j x, xs[j]? = some x /\ p x = true /\ idx p xs i = ((i + j : Nat) : Int)
 | [], i => .inl ⟨by simp [idx], by simp⟩
 | x :: xs, i => by
  rw [idx]
  cases hp : p x with
  | true => exact .inr ⟨0, x, rfl, hp, rfl⟩
  | false =>
   simp only [Bool.false_eq_true, if_false]
   rcases qg6 (p := p) (xs := xs) (i := i + 1) with ⟨h1, h2⟩ | ⟨j, y, h1, h2, h3⟩
   ·exact .inl ⟨h1, fun y hy => by rcases List.mem_cons.1 hy with rfl | hy; exact hp; exact h2 y hy⟩
   ·refine .inr ⟨j + 1, y, by simpa using h1, h2, ?_⟩
    rw [show i + (j + 1) = i + 1 + j by omega]
    exact h3
theorem qkK {α : Type} {p : α -> Bool} {xs : List α} : idx p xs 0 < 0 /\ (∀ x ∈ xs, p x = false) \/ ∃ (j : Nat) (x : α), xs[j]? = some x /\ p x = true /\ idx p xs 0 = (j : Int) := by
 rcases qg6 (p := p) (xs := xs) (i := 0) with ⟨h1, h2⟩ | ⟨j, x, h1, h2, h3⟩
 ·exact .inl ⟨h1, h2⟩
 ·exact .inr ⟨j, x, h1, h2, by rw [Nat.zero_add] at h3; exact h3⟩
theorem qnI {A Z : List Int} {x : Int} {m : Nat} (h : A.length = m) : (A ++ x :: Z)[m]? = some x := by
 subst h;rw [List.getElem?_append_right (Nat.le_refl _), Nat.sub_self]; rfl
theorem qib {A Z : List Int} {x y : Int} {m : Nat} (h : A.length = m) : (A ++ x :: Z).set m y = A ++ y :: Z := by
 subst h;rw [List.set_append_right _ _ (Nat.le_refl _), Nat.sub_self]; rfl
theorem qg7 {N : List (List Int)} {s : Int} (h : OkN s N) {pt : List Int} (hl : pt.length <= 4) (k : Nat) : (toP N pt k).natAbs <= 80 := by
 unfold toP
 have h1 := qcu (l := pt.map fun j => tn N k j.toNat) (B := 20) (fun x hx => by
  obtain ⟨j, _, rfl⟩ := List.mem_map.1 hx;have := h.tn k j.toNat;have := h.s20;omega)
 rw [List.length_map] at h1;exact Nat.le_trans h1 (Nat.le_trans (Nat.mul_le_mul_right _ hl) (by decide))
set_option maxHeartbeats 1000000 in
theorem k51 {s : Int} {N : List (List Int)} {p : List Int} {state : Int} {part : Nat} {pt : List Int} (h : OkM s N p) (hpt : (parts N)[part]? = some pt) (hd : ∀ k ∈ opL N, 0 < detS s N (opL N)) :
  E.Fn Tryz.prog 51 [benchC s N p, .int .i64 state, .int .i64 part] [rat (landsQ s N state pt)] := by
 refine fn_of_row qqR ?_;have hn4 := h.n4;have hpm := List.mem_of_getElem? hpt;have hpl := qg5 hpm;have hps := qb5 (N := N);have hm := qbu h.sq
 have hk82 : E.Fn Tryz.prog 89 [intss (parts N)] [ints (parts N).flatten] := k89 (by omega) (fun l hl => by have := qg5 hl; omega) (by
  obtain ⟨c, hc, rfl⟩ := qcW hpm;have hcc := (qA.1 hc).1;have h1 : (c : Int) ∈ rchC (gr N) N.length c := qcV.2 ⟨c, rfl, hcc⟩;have h2 : (c : Int) ∈ (parts N).flatten := List.mem_flatten.2 ⟨_, hpm, h1⟩;exact List.length_pos_of_mem h2)
 have hk80 : E.Fn Tryz.prog 88 [benchC s N p, ints (parts N).flatten] [ints (nats (opL N))] := k88 (by omega)
 have hol : (opL N).length <= N.length := qcU;have hoL : ∀ i ∈ opL N, i < N.length := fun i => qe0
 unfold landsQ;simp only [FRow.start, f51, c51r0, c51r1, benchC, bnV, go_sem, Nat.reduceAdd, Nat.reduceSub, Nat.reduceLeDiff, true_implies];refine qa (by simp only [intss, go_sem]) hk82 (.inr (.inl (by simp only [intss, go_sem]))) ?_
 simp only [go_sem];refine qa (by simp only [ints, benchC, bnV, go_sem]) hk80 (.inr (.inl (by simp only [ints, benchC, bnV, go_sem]))) ?_
 have hk83 := k90 (xs := nats (opL N)) (v := state)
 have hk81 : ∀ col : List Int, col.length = (opL N).length -> (∀ x ∈ col, x.natAbs <= 2 ^ 38) -> E.Fn Tryz.prog 92 [benchC s N p, ints (nats (opL N)), ints col] [ints (solL s N (opL N) col), .int .i64 (detS s N (opL N))] := fun col h1 h2 =>
  k92 h.toOkN hoL (by omega) h1 h2
 have hsl : ∀ (k : Nat), k < (opL N).length -> (solK s N (opL N) ((opL N).map (toP N pt)) k).natAbs <= 80 * 2 ^ 22 := fun k hk => qoH h.toOkN (by omega) hk (by decide) (fun x hx => by
  obtain ⟨i, _, rfl⟩ := List.mem_map.1 hx;exact qg7 h.toOkN (by omega) i)
 have hdl : (detS s N (opL N)).natAbs <= 2 ^ 22 := qkp h.toOkN (by omega)
 generalize opL N = st at *;simp only [c51r2, go_sem, true_implies];refine qa (by simp only [ints, go_sem]) hk83 (.inl rfl) ?_
 have hcs := qkK (p := fun x => decide (state = x)) (xs := nats st)
 generalize idx (fun x => decide (state = x)) (nats st) 0 = ix at *
 rcases hcs with ⟨hi1, hi2⟩ | ⟨a, x, hx1, hx2, rfl⟩
 ·rw [if_pos hi1]
  simp only [hi1, c51r3, c51r4, intss, hpt, go_sem, Nat.reduceAdd, Nat.reduceLeDiff, true_implies];refine qa (by simp only [ints, go_sem]) (k91 (xs := pt) (v := state)) (.inl rfl) ?_
  by_cases hin : state ∈ pt
  ·rw [if_pos hin]
   simp only [hin, c51r5, ql, qt, rat, go_sem, ↓reduceIte, Nat.reduceAdd, Nat.reduceLeDiff, true_implies]
  ·rw [if_neg hin]
   simp only [hin, c51r6, ql, qt, rat, go_sem, ↓reduceIte, Nat.reduceAdd, Nat.reduceLeDiff, true_implies]
 ·rw [if_neg (by omega)]
  have hal : a < st.length := by have := (List.getElem?_eq_some_iff.1 hx1).1; simpa [nats] using this
  have hst0 : ∀ k ∈ st, k < N.length := hoL;have hnl : (nats st).length = st.length := by simp [nats]
  have hd0 := hd st[a] (List.getElem_mem hal);have ea : ¬ ((a : Int) < 0) := by omega
  simp only [ea, c51r3, c51r7, ints, hnl, go_sem, Nat.reduceAdd, Nat.reduceLT, true_implies];refine ⟨by omega, by omega, fun _ => ?_⟩
  rw [q7];simp only [c51r8, hnl, go_sem];intro _
  refine qe (fun m τ => ∃ i : Nat, m = st.length - i /\ i <= st.length /\
   τ = ⟨((.s (benchC s N p))::aN::(aI part)::aN::aN::aN::(.loc 0 0)::(.s (ints (nats st)))::(aI a)::(.sl 1 0 st.length 1 true)::aN::aN::aN::aN::aN::aN::aN::aN::aN::aN::aN::aN::aN::aN::aN::aN::aN::aN::aN::aN::aN::aN::aN::aN::aN::aN::aN::aN::aN::aN::aN::aN::(.s (ints (nats st)))::(aI st.length)::(aI i)::aN::aN::aN::aN::aN::aZ40),
    [.obj [aI 0, aI 0], .row (((st.take i).map (toP N pt) ++ List.replicate (st.length - i) 0).map (.int .i64))]⟩) st.length rfl ?_ ?_
  ·simp only [c51l18m, go_sem, ↓reduceIte, reduceCtorEq, Nat.reduceAdd, Nat.reduceLeDiff]
   exact ⟨0, rfl, Nat.zero_le _, rfl⟩
  ·rintro I m τ ⟨i, rfl, hi, rfl⟩ hI
   simp only [c51l18, c51r9, go_sem, ↓reduceIte, Nat.reduceAdd, true_implies];refine ⟨fun hlt => ?_, fun hge => ?_⟩
   ·have hlt : i < st.length := by omega
    have hx : st[i]? = some st[i] := List.getElem?_eq_getElem hlt;have hk := hst0 _ (List.getElem_mem hlt);have hnx : (nats st)[i]? = some (st[i] : Int) := by unfold nats; rw [List.getElem?_map, hx]; rfl
    have hrow := qhU (f := toP N pt) hx;generalize st[i] = k at hx hk hnx hrow;have hrep : List.replicate (st.length - i) (0 : Int) = 0 :: List.replicate (st.length - (i + 1)) 0 := by rw [show st.length - i = (st.length - (i + 1)) + 1 by omega, List.replicate_succ]
    have hAl : ((st.take i).map (toP N pt)).length = i := by rw [List.length_map, List.length_take]; omega
    simp only [c51r10, ints, hnx, c51r11, benchC, bnV, intss, hpt, go_sem, Nat.reduceAdd, Nat.reduceLeDiff, true_implies];intro _;rw [hrep] at hrow ⊢;rw [qib hAl] at hrow;have hZl : ∀ z : Int, ((st.take i).map (toP N pt) ++ z :: List.replicate (st.length - (i + 1)) 0).length = st.length := fun z => by rw [List.length_append, List.length_cons, hAl, List.length_replicate]; omega
    have hget : ∀ z : Int, ((st.take i).map (toP N pt) ++ z :: List.replicate (st.length - (i + 1)) 0)[i]? = some z := fun z => qnI hAl
    have hset : ∀ z y : Int, ((st.take i).map (toP N pt) ++ z :: List.replicate (st.length - (i + 1)) 0).set i y = (st.take i).map (toP N pt) ++ y :: List.replicate (st.length - (i + 1)) 0 := fun z y => qib hAl
    generalize hA : (fun z : Int => (st.take i).map (toP N pt) ++ z :: List.replicate (st.length - (i + 1)) 0) = A
    have hA' : ∀ z, (st.take i).map (toP N pt) ++ z :: List.replicate (st.length - (i + 1)) 0 = A z := fun z => by rw [<- hA]
    simp only [hA'] at hZl hget hset ⊢
    refine qe (fun m τ => ∃ j : Nat, m = pt.length - j /\ j <= pt.length /\
     τ = ⟨((.s (benchC s N p))::aN::(aI part)::aN::aN::aN::(.loc 0 0)::(.s (ints (nats st)))::(aI a)::(.sl 1 0 st.length 1 true)::(aI i)::(aI k)::aN::aN::aN::aN::aN::aN::aN::aN::aN::aN::aN::aN::aN::aN::aN::aN::aN::aN::aN::aN::aN::aN::aN::aN::aN::aN::aN::aN::aN::aN::(.s (ints (nats st)))::(aI st.length)::(aI i)::aN::aN::aN::aN::aN::aN::aN::aN::aN::aN::(.s (ints pt))::(aI pt.length)::(aI j)::aZ32),
      [.obj [aI 0, aI 0], .row ((A (toP N (pt.take j) k)).map (.int .i64))]⟩) pt.length rfl ?_ ?_
    ·simp only [c51l16m, go_sem, ↓reduceIte, reduceCtorEq, Nat.reduceAdd, Nat.reduceLeDiff]
     exact ⟨0, rfl, Nat.zero_le _, rfl⟩
    ·rintro I2 m τ ⟨j, rfl, hj, rfl⟩ hI2
     simp only [c51l16, c51r12, go_sem, ↓reduceIte, Nat.reduceAdd, true_implies];refine ⟨fun hlt2 => ?_, fun hge => ?_⟩
     ·have hlt2 : j < pt.length := by omega
      have hy : pt[j]? = some pt[j] := List.getElem?_eq_getElem hlt2;obtain ⟨b, hyb, hb⟩ := qlZ hpm (List.getElem_mem hlt2);rw [hyb] at hy
      have hts : toP N (pt.take (j + 1)) k = toP N (pt.take j) k + tn N k b := by
       unfold toP;rw [List.take_succ, hy, List.map_append, List.sum_append]; simp
      have hb1 := qg7 h.toOkN (pt := pt.take (j + 1)) (by rw [List.length_take]; omega) k
      simp only [c51r13, ints, hy, c51r14, Nat.mul_one, hget, benchC, bnV, go_sem, ↓reduceIte, Nat.reduceAdd, Nat.reduceLeDiff, true_implies];have hin1 : inR .i64 (toP N (pt.take j) k + tn N k b) := qk (by rw [<- hts]; omega)
      have hs1 := spl_row (R := A (toP N (pt.take j) k)) (i := i) (x := toP N (pt.take j) k + tn N k b) (by rw [hZl]; omega)
      refine ⟨hlt, hm.key k b hk hb, hm.nod, hm.look hk hb ?_⟩;simp only [Nat.mul_one, hs1, hset, c51r15, c51l16m, hZl, List.length_map, go_sem, ↓reduceIte, reduceCtorEq, Nat.reduceAdd, Nat.reduceLeDiff, true_implies];exact ⟨hin1, hlt, by omega, qb (by omega) (by omega), hI2 (pt.length - (j + 1)) _ (by omega) ⟨j + 1, rfl, by omega, by rw [hts]; rfl⟩⟩
     ·have hje : j = pt.length := by omega
      subst hje;rw [List.take_length];simp only [c51r17, c51l18m, go_sem, ↓reduceIte, reduceCtorEq, Nat.reduceLeDiff, true_implies];exact ⟨qb (by omega) (by omega), hI (st.length - (i + 1)) _ (by omega) ⟨i + 1, rfl, by omega, by rw [<- hrow, hA']; rfl⟩⟩
   ·have hie : i = st.length := by omega
    subst hie;rw [List.take_length, Nat.sub_self, List.replicate_zero, List.append_nil]
    have hsl2 : sliceOf 0 st.length 1 ((st.map (toP N pt)).map (SV.int .i64)) = some (ints (st.map (toP N pt))) := by
     have := qaM (l := st.map (toP N pt));rw [List.length_map] at this;exact this
    have h81 := hk81 (st.map (toP N pt)) (by simp) (fun x hx => by
     obtain ⟨i, _, rfl⟩ := List.mem_map.1 hx;have := qg7 h.toOkN (pt := pt) (by omega) i
     omega)
    have hsla := hsl a hal
    have hga : (solL s N st (st.map (toP N pt)))[a]? = some (solK s N st (st.map (toP N pt)) a) := by
     unfold solL;rw [List.getElem?_map, List.getElem?_range hal]; rfl
    have hk71 := k59 (n := solK s N st (st.map (toP N pt)) a) (d := detS s N st) (by omega) hd0 (by omega)
    have hrt : rowOf 0 st.length 1 ((st.map (toP N pt)).map (SV.int .i64)) = some ((st.map (toP N pt)).map (.int .i64)) := by
     rw [qT (by simp), List.take_of_length_le (by simp)]
    simp only [c51r19, go_sem];refine ⟨_, hrt, ?_⟩;refine qa (by simp only [ints, benchC, bnV, go_sem]) h81 (.inr (.inl (by simp only [ints, benchC, bnV, go_sem]))) ?_
    simp only [c51r20, ints, hga, go_sem, Nat.reduceAdd, true_implies];refine qa (by simp only [go_sem]) hk71 (.inl rfl) ?_
    simp only [ql, qt, rat, go_sem, Nat.reduceAdd, true_implies]
    done
def landsR (s : Int) (N : List (List Int)) (p : List Int) (state part : Int) : List SV :=
 if chkM s N p = 0 then (if (0 <= state /\ state < N.length) /\ 0 <= part /\ part < (parts N).length then [rat (landsQ s N state (((parts N)[part.toNat]?).getD [])), .int .i64 0] else [rat (0, 0), .int .i64 2]) else [rat (0, 0), .int .i64 (chkM s N p)]
theorem qbf {lo hi x : Int} : withinB lo hi [x] = decide (lo <= x /\ x <= hi) := by
 rw [Bool.eq_iff_iff, qw, decide_eq_true_eq];simp
theorem k13 {s : Int} {N : List (List Int)} {p : List Int} {state part : Int} : E.Fn Tryz.prog 13 [mc s N p, .int .i64 state, .int .i64 part] (landsR s N p state part) := by
 refine fn_of_row qqn ?_;have h48 := k49 (s := s) (N := N) (p := p);unfold landsR;unfold openR at h48;simp only [FRow.start, f13, c13r0, c13r1, mc, SV.cells, List.length_cons, List.length_nil, go_sem, Nat.reduceAdd, Nat.reduceSub, true_implies]
 by_cases h0 : chkM s N p = 0
 ·rw [if_pos h0] at h48
  rw [if_pos h0];have h := qH.1 h0;have hn4 := h.n4;have hps := qb5 (N := N);refine qa rfl h48 (.inr (.inl rfl)) ?_
  have hin1 : inR .i64 ((N.length : Int) - 1) := qZ (by omega) (by omega)
  have hin2 : inR .i64 (((parts N).length : Int) - 1) := qZ (by omega) (by omega)
  have hw1 := qbf (lo := 0) (hi := (N.length : Int) - 1) (x := state);have hw2 := qbf (lo := 0) (hi := ((parts N).length : Int) - 1) (x := part);simp only [c13r2, c13r4, intss, go_sem, Nat.reduceAdd, Nat.reduceLeDiff, Nat.reduceMul, true_implies];refine ⟨hin1, by decide, by decide, rfl, qr, ?_⟩
  refine qa (by simp only [ints, List.map_cons, List.map_nil, go_sem]) (k50 (lo := 0) (hi := (N.length : Int) - 1) (l := [state])) (.inl rfl) ?_
  by_cases h1 : 0 <= state /\ state < N.length
  ·rw [decide_eq_true (by omega)] at hw1
   simp only [hw1, benchC, bnV, intss, go_sem, Nat.reduceAdd, Nat.reduceLeDiff, Nat.reduceMul];refine ⟨hin2, by decide, by decide, rfl, qr, ?_⟩
   refine qa (by simp only [ints, List.map_cons, List.map_nil, go_sem]) (k50 (lo := 0) (hi := ((parts N).length : Int) - 1) (l := [part])) (.inl rfl) ?_
   by_cases h2 : 0 <= part /\ part < (parts N).length
   ·rw [decide_eq_true (by omega)] at hw2
    rw [if_pos ⟨h1, h2⟩];obtain ⟨m, rfl⟩ : ∃ m : Nat, part = m := ⟨part.toNat, by omega⟩
    have hpt : (parts N)[m]? = some (parts N)[m] := List.getElem?_eq_getElem (by omega)
    have h62 := k51 (state := state) h hpt (fun _ hk => qlU h hk)
    have e : ((parts N)[(m : Int).toNat]?).getD [] = (parts N)[m] := by rw [Int.toNat_natCast, hpt]; rfl
    rw [e];simp only [hw2, c13r6, go_sem];intro _;refine qa (by simp only [benchC, bnV, intss, ints, go_sem]) h62 (.inl rfl) ?_
    simp only [rat, ql, qt, go_sem, Nat.reduceAdd, true_implies]
    done
   ·rw [decide_eq_false (by omega)] at hw2
    rw [if_neg fun h => h2 h.2]
    simp only [hw2, c13r5, rat, ql, qt, go_sem, Nat.reduceAdd, true_implies]
    done
  ·rw [decide_eq_false (by omega)] at hw1
   rw [if_neg fun h => h1 h.1]
   simp only [hw1, c13r5, rat, ql, qt, go_sem, Nat.reduceAdd, true_implies]
   done
 ·rw [if_neg h0] at h48
  rw [if_neg h0];refine qa rfl h48 (.inr (.inl rfl)) ?_
  simp only [h0, c13r2, c13r3, rat, ql, qt, go_sem, Nat.reduceAdd, true_implies]
def prV (d g : Int) (hs : List Int) : SV := .agg [.int .i64 d, .int .i64 g, ints hs]
def ovT (s : Int) (N : List (List Int)) (p : List Int) (d g : Int) (hs : List Int) (i j : Nat) : Int :=
 s * (p[i]?.getD 0 * d - g - hs[i]?.getD 0) + ((List.range j).map fun k => tn N i k * hs[k]?.getD 0).sum
def ovN (s : Int) (N : List (List Int)) (p : List Int) (d g : Int) (hs : List Int) (i : Nat) : Int := ovT s N p d g hs i N.length
structure PrOk (d g : Int) (hs : List Int) : Prop where
  d1 : 1 <= d
  d2 : d <= 2 ^ 40
  g1 : -2 ^ 50 <= g /\ g <= 2 ^ 50
  h1 : ∀ x ∈ hs, -2 ^ 50 <= x /\ x <= 2 ^ 50
section
variable {s : Int} {N : List (List Int)} {p : List Int} {d g : Int} {hs : List Int}
theorem PrOk.get (h : PrOk d g hs) (i : Nat) : (hs[i]?.getD 0).natAbs <= 2 ^ 50 := by
 cases hx : hs[i]? with
 | none => simp
 | some x => have := h.h1 x (List.mem_of_getElem? hx); simp only [Option.getD_some]; omega
theorem ql0 {i j : Nat} : ovT s N p d g hs i (j + 1) = ovT s N p d g hs i j + tn N i j * hs[j]?.getD 0 := by
 unfold ovT;rw [List.range_succ, List.map_append, List.sum_append];simp only [List.map_cons, List.map_nil, List.sum_cons, List.sum_nil];omega
theorem qe6 (h : OkP s N p) (q : PrOk d g hs) (i : Nat) : (p[i]?.getD 0 * d).natAbs <= 1000 * 2 ^ 40 := by
 rw [Int.natAbs_mul];have h1 := qR h i;have h2 := q.d1;have h3 := q.d2;exact Nat.mul_le_mul (by omega) (by omega)
theorem qg8 (h : OkP s N p) (q : PrOk d g hs) (i j : Nat) : (tn N i j * hs[j]?.getD 0).natAbs <= 20 * 2 ^ 50 := by
 rw [Int.natAbs_mul];have h1 := h.tn i j;have h2 := h.s20;exact Nat.mul_le_mul (by omega) (q.get j)
theorem qdY (h : OkP s N p) {x : Int} {B : Nat} (hx : x.natAbs <= B) : (s * x).natAbs <= 20 * B := by
 rw [Int.natAbs_mul];have h1 := h.s1;have h2 := h.s20;exact Nat.mul_le_mul (by omega) hx
theorem qkL (h : OkP s N p) (q : PrOk d g hs) {i j : Nat} (hj : j <= 4) : (ovT s N p d g hs i j).natAbs <= 2 ^ 58 := by
 unfold ovT;have h1 := qe6 h q i;have h2 := q.get i;have h3 := q.g1;have h4 := qdY h (x := p[i]?.getD 0 * d - g - hs[i]?.getD 0) (B := 2 ^ 52) (by omega)
 have h5 := qcu (l := (List.range j).map fun k => tn N i k * hs[k]?.getD 0) (B := 20 * 2 ^ 50) (fun x hx => by
  obtain ⟨k, _, rfl⟩ := List.mem_map.1 hx;exact qg8 h q i k)
 rw [List.length_map, List.length_range] at h5;have h6 := Nat.le_trans h5 (Nat.mul_le_mul_right _ hj);omega
end
theorem k79 {s : Int} {N : List (List Int)} {p : List Int} {d g : Int} {hs : List Int} : E.Fn Tryz.prog 79 [benchC s N p, prV d g hs] [.fn 104 [] [.ptr [benchC s N p], .ptr [.int .i64 d, .int .i64 g, ints hs]]] := by
 refine fn_of_row qra ?_;simp only [FRow.start, f79, c79r0, c79r1, prV, SV.cells, benchC, bnV, go_sem, Nat.reduceAdd, Nat.reduceSub, true_implies]
 done
set_option maxHeartbeats 1000000 in
theorem k104 {s : Int} {N : List (List Int)} {p : List Int} {d g : Int} {hs : List Int} (h : OkM s N p) (q : PrOk d g hs) (hl : hs.length = N.length) {i : Nat} (hi : i < N.length) :
  E.Fn Tryz.prog 104 [.int .i64 i, .ptr [benchC s N p], .ptr [.int .i64 d, .int .i64 g, ints hs]] [.int .i64 (ovN s N p d g hs i)] := by
 refine fn_of_row qox ?_;have hn4 := h.n4;have hm := qbu h.sq;obtain ⟨y, hy⟩ : ∃ y, p[i]? = some y := ⟨_, List.getElem?_eq_getElem (by rw [h.pl]; exact hi)⟩
 obtain ⟨z, hz⟩ : ∃ z, hs[i]? = some z := ⟨_, List.getElem?_eq_getElem (by omega)⟩
 have b1 := qe6 h.toOkP q i;have b2 := q.get i;have b3 := q.g1;have b4 := qdY h.toOkP (x := p[i]?.getD 0 * d - g - hs[i]?.getD 0) (B := 2 ^ 52) (by omega)
 have h0 : ovT s N p d g hs i 0 = s * (y * d - g - z) := by unfold ovT; rw [hy, hz]; simp
 rw [hy, Option.getD_some] at b1 b4;rw [hz, Option.getD_some] at b2 b4;simp only [FRow.start, f104, c104r0, c104r1, benchC, bnV, ints, hy, hz, go_sem, Nat.reduceAdd, Nat.reduceSub, Nat.reduceLeDiff, true_implies];refine ⟨qk (by omega), qk (by omega), qk (by omega), qk (by omega), ?_⟩
 simp only [c104r2, go_sem, Nat.reduceAdd, Nat.reduceLeDiff];intro _;rw [<- h0]
 refine qe (fun m τ => ∃ j : Nat, m = hs.length - j /\ j <= hs.length /\
  τ = ⟨((aI i)::(.s (.ptr [benchC s N p]))::aN::aN::aN::(aI (ovT s N p d g hs i j))::aN::aN::aN::aN::aN::aN::aN::aN::aN::aN::aN::aN::aN::aN::aN::aN::aN::aN::aN::aN::aN::aN::aN::aN::aN::aN::aN::aN::aN::(.s (ints hs))::(aI hs.length)::(aI j)::aN::aN::aZ16), []⟩) hs.length rfl ?_ ?_
 ·simp only [c104l7m, go_sem]
  exact ⟨0, rfl, Nat.zero_le _, rfl⟩
 ·rintro I m τ ⟨j, rfl, hj, rfl⟩ hI
  simp only [c104l7, c104r3, go_sem, ↓reduceIte, true_implies];refine ⟨fun hlt => ?_, fun hge => ?_⟩
  ·have hlt : j < hs.length := by omega
   have hx : hs[j]? = some hs[j] := List.getElem?_eq_getElem hlt;have c1 := qg8 h.toOkP q i j;have c2 := qkL h.toOkP q (i := i) (j := j + 1) (by omega)
   have c3 := ql0 (s := s) (N := N) (p := p) (d := d) (g := g) (hs := hs) (i := i) (j := j);rw [hx, Option.getD_some] at c1 c3;generalize hs[j] = x at hx c1 c3;simp only [c104r4, ints, hx, c104r5, benchC, bnV, go_sem, ↓reduceIte, Nat.reduceAdd, Nat.reduceLeDiff, true_implies];refine ⟨hm.key i j hi (by omega), hm.nod, hm.look hi (by omega) ?_⟩
   simp only [go_sem, true_implies];refine ⟨qk (by omega), qk (by omega), ?_⟩
   simp only [c104r6, c104l7m, go_sem, true_implies];exact ⟨qb (by omega) (by omega), hI (hs.length - (j + 1)) _ (by omega) ⟨j + 1, rfl, by omega, by rw [c3]; rfl⟩⟩
  ·have hje : j = hs.length := by omega
   subst hje;simp only [c104r8, go_sem, true_implies];unfold ovN;rw [<- hl]
def kd (m l : Bool) : Int := (if m then 1 else 0) + (if l then 2 else 0)
theorem qnJ {m l : Bool} : bitOf .i64 (kd m l) 1 .andNot = kd false l := by cases m <;> cases l <;> decide
theorem ql1 {m l : Bool} : bitOf .i64 (kd m l) 2 .andNot = kd m false := by cases m <;> cases l <;> decide
def mostB (s : Int) (N : List (List Int)) (p : List Int) (d g : Int) (hs : List Int) (i : Nat) : Bool := (List.range i).all fun k => decide (ovN s N p d g hs k <= 0)
def leastB (s : Int) (N : List (List Int)) (p : List Int) (d g : Int) (hs : List Int) (i : Nat) : Bool := (List.range i).all fun k => decide (0 <= ovN s N p d g hs k)
def prB (d g : Int) (hs : List Int) : Bool := withinB 1 1099511627776 [d] && withinB (-1125899906842624) 1125899906842624 [g] && withinB (-1125899906842624) 1125899906842624 hs
theorem qe7 {d g : Int} {hs : List Int} : prB d g hs = true ↔ PrOk d g hs := by
 unfold prB;rw [Bool.and_eq_true, Bool.and_eq_true, qw, qw, qw];constructor
 ·rintro ⟨⟨h1, h2⟩, h3⟩
  have h1 := h1 d (by simp)
  have h2 := h2 g (by simp)
  exact ⟨h1.1, h1.2, h2, h3⟩
 ·intro h
  refine ⟨⟨?_, ?_⟩, h.h1⟩
  ·intro x hx
   rw [List.mem_singleton.1 hx];exact ⟨h.d1, h.d2⟩
  ·intro x hx
   rw [List.mem_singleton.1 hx];exact h.g1
def ckP (s : Int) (N : List (List Int)) (p : List Int) (d g : Int) (hs : List Int) : Int × Int :=
 if chkM s N p = 0 then (if (hs.length : Int) = N.length then (if prB d g hs = true then (if kd (mostB s N p d g hs N.length) (leastB s N p d g hs N.length) = 0 then (0, 14) else (kd (mostB s N p d g hs N.length) (leastB s N p d g hs N.length), 0)) else (0, 3)) else (0, 15)) else (0, chkM s N p)
def ckPR (q : Int × Int) : List SV := [.int .i64 q.1, .int .i64 q.2]
theorem qfT {s : Int} {N : List (List Int)} {p : List Int} {d g : Int} {hs : List Int} {i : Nat} : mostB s N p d g hs (i + 1) = (mostB s N p d g hs i && decide (ovN s N p d g hs i <= 0)) := by
 unfold mostB; rw [List.range_succ, List.all_append]; simp
theorem qeR {s : Int} {N : List (List Int)} {p : List Int} {d g : Int} {hs : List Int} {i : Nat} : leastB s N p d g hs (i + 1) = (leastB s N p d g hs i && decide (0 <= ovN s N p d g hs i)) := by
 unfold leastB; rw [List.range_succ, List.all_append]; simp
set_option maxHeartbeats 1000000 in
theorem k29 {s : Int} {N : List (List Int)} {p : List Int} {d g : Int} {hs : List Int} : E.Fn Tryz.prog 29 [mc s N p, prV d g hs] (ckPR (ckP s N p d g hs)) := by
 refine fn_of_row qqx ?_;have h48 := k49 (s := s) (N := N) (p := p);unfold ckPR ckP;unfold openR at h48;simp only [FRow.start, f29, c29r0, c29r1, mc, prV, SV.cells, List.length_cons, List.length_nil, go_sem, Nat.reduceAdd, Nat.reduceSub, true_implies]
 by_cases h0 : chkM s N p = 0
 ·rw [if_pos h0] at h48
  rw [if_pos h0];have h := qH.1 h0;have hn4 := h.n4;refine qa rfl h48 (.inr (.inl rfl)) ?_
  simp only [c29r2, c29r4, ints, intss, go_sem, Nat.reduceAdd, Nat.reduceLeDiff, true_implies];intro _
  by_cases h1 : (hs.length : Int) = N.length
  ·rw [if_pos h1]
   simp only [h1, c29r6, go_sem, Nat.reduceAdd, Nat.reduceLeDiff, Nat.reduceMul, Int.reduceNeg, not_true_eq_false, false_implies, true_implies];refine ⟨by decide, by decide, rfl, qr, ?_⟩
   refine qa (by simp only [ints, List.map_cons, List.map_nil, go_sem]) (k50 (lo := 1) (hi := 1099511627776) (l := [d])) (.inl rfl) ?_
   unfold prB
   cases hw1 : withinB 1 1099511627776 [d] with
   | false =>
    simp only [c29r7, go_sem, Int.reduceNeg, true_implies];simp
   | true =>
    simp only [go_sem, Nat.reduceAdd, Nat.reduceLeDiff, Nat.reduceMul, Int.reduceNeg];refine ⟨by decide, by decide, rfl, qr, ?_⟩
    refine qa (by simp only [ints, List.map_cons, List.map_nil, go_sem, Int.reduceNeg]) (k50 (lo := -1125899906842624) (hi := 1125899906842624) (l := [g])) (.inl rfl) ?_
    cases hw2 : withinB (-1125899906842624) 1125899906842624 [g] with
    | false =>
     simp only [c29r7, go_sem, Int.reduceNeg, true_implies];simp
    | true =>
     simp only [go_sem, Nat.reduceAdd, Nat.reduceLeDiff, Int.reduceNeg];refine qa (by simp only [ints, go_sem, Int.reduceNeg]) (k50 (lo := -1125899906842624) (hi := 1125899906842624) (l := hs)) (.inl rfl) ?_
     cases hw3 : withinB (-1125899906842624) 1125899906842624 hs with
     | false =>
      simp only [c29r7, go_sem, true_implies];simp
     | true =>
      have q : PrOk d g hs := qe7.1 (by unfold prB; rw [hw1, hw2, hw3]; rfl)
      have hl : hs.length = N.length := by omega
      have h79 : ∀ i : Nat, i < N.length -> E.Fn Tryz.prog 104 [.int .i64 i, .ptr [benchC s N p], .ptr [.int .i64 d, .int .i64 g, ints hs]] [.int .i64 (ovN s N p d g hs i)] := fun i hi => k104 h q hl hi
      simp only [c29r8, c29r9, List.length_cons, List.length_nil, go_sem, ↓reduceIte, Nat.reduceAdd, true_implies];refine qa (by simp only [prV, benchC, bnV, intss, ints, go_sem]) (k79 (s := s) (N := N) (p := p) (d := d) (g := g) (hs := hs)) (.inr (.inl (by simp only [prV, benchC, bnV, intss, ints, go_sem]))) ?_
      simp only [c29r10, go_sem, Nat.reduceAdd, Nat.reduceLeDiff, true_implies];intro _
      refine qe (fun m τ => ∃ i : Nat, m = N.length - i /\ i <= N.length /\
       τ = ⟨[.any, .any, .any, .any, .any, .any, .any, .any, aI (kd (mostB s N p d g hs i) (leastB s N p d g hs i)), .s (.fn 104 [] [.ptr [benchC s N p], .ptr [.int .i64 d, .int .i64 g, ints hs]]), .any, .any, .any, .any, .any, .any, .any, .any, .any, .any, .any, .any, .any, .any, .any, .any, .any, .any, .any, .any, .any, .any, .any, .any, .any, .any, .any, .any, .any, .any, .any, .any, .any, .any, .any, .any, .any, .any, .any, .any, .any, .any, .any, aI N.length, aI i, .any, .any, .any, .any, .any, .any, .any, .any, .any, .any, .any, .any, .any, .any, .any, .any, .any, .any, .any], []⟩) N.length rfl ?_ ?_
      ·simp only [c29l19m, go_sem]
       exact ⟨0, rfl, Nat.zero_le _, rfl⟩
      ·rintro I m τ ⟨i, rfl, hi, rfl⟩ hI
       simp only [c29l19, c29r11, go_sem, ↓reduceIte, true_implies];refine ⟨fun hlt => ?_, fun hge => ?_⟩
       ·have hlt : i < N.length := by omega
        have e1 := qfT (s := s) (N := N) (p := p) (d := d) (g := g) (hs := hs) (i := i);have e2 := qeR (s := s) (N := N) (p := p) (d := d) (g := g) (hs := hs) (i := i);have hk := h79 i hlt;generalize ovN s N p d g hs i = v at hk e1 e2;generalize mostB s N p d g hs i = bm at e1;generalize leastB s N p d g hs i = bl at e2;simp only [c29r12, c29r13, go_sem, true_implies];refine ⟨by kernel_rfl, ?_⟩
        refine qa (by simp only [go_sem]) hk (.inl rfl) ?_
        have fin : ∀ kv : Int, kv = kd (bm && decide (v <= 0)) (bl && decide (0 <= v)) -> I ⟨[.any, .any, .any, .any, .any, .any, .any, .any, aI kv, .s (.fn 104 [] [.ptr [benchC s N p], .ptr [.int .i64 d, .int .i64 g, ints hs]]), .any, .any, .any, .any, .any, .any, .any, .any, .any, .any, .any, .any, .any, .any, .any, .any, .any, .any, .any, .any, .any, .any, .any, .any, .any, .any, .any, .any, .any, .any, .any, .any, .any, .any, .any, .any, .any, .any, .any, .any, .any, .any, .any, aI N.length, aI (i + 1), .any, .any, .any, .any, .any, .any, .any, .any, .any, .any, .any, .any, .any, .any, .any, .any, .any, .any, .any], []⟩ := fun kv hk => hI (N.length - (i + 1)) _ (by omega) ⟨i + 1, rfl, by omega, by rw [e1, e2, hk]; rfl⟩
        simp only [c29r14, go_sem, true_implies];refine ⟨fun hv => ?_, fun hv => ?_⟩
        ·rw [decide_eq_false (by omega), decide_eq_true (by omega), Bool.and_false, Bool.and_true] at fin
         simp only [c29r15, qnJ, c29r18, c29l19m, go_sem, true_implies];exact ⟨qb (by omega) (by omega), fin _ rfl⟩
        ·rw [decide_eq_true (by omega), Bool.and_true] at fin
         simp only [c29r16, go_sem, true_implies];refine ⟨fun hv2 => ?_, fun hv2 => ?_⟩
         ·rw [decide_eq_false (by omega), Bool.and_false] at fin
          simp only [c29r17, ql1, c29r18, c29l19m, go_sem, true_implies];exact ⟨qb (by omega) (by omega), fin _ rfl⟩
         ·rw [decide_eq_true (by omega), Bool.and_true] at fin
          simp only [c29r18, c29l19m, go_sem, true_implies];exact ⟨qb (by omega) (by omega), fin _ rfl⟩
       ·have hie : i = N.length := by omega
        subst hie;simp only [c29r20, go_sem, true_implies];refine ⟨fun hk => ?_, fun hk => ?_⟩
        ·rw [if_pos hk]
         simp only [c29r21, go_sem, true_implies]
        ·rw [if_neg hk]
         simp only [c29r22, go_sem, true_implies]
  ·rw [if_neg h1]
   simp only [h1, c29r5, go_sem, false_implies, true_implies, not_false_eq_true]
   done
 ·rw [if_neg h0] at h48
  rw [if_neg h0];refine qa rfl h48 (.inr (.inl rfl)) ?_
  simp only [h0, c29r2, c29r3, go_sem, true_implies]
section
variable {s : Int} {N : List (List Int)} {p : List Int} {d g : Int} {hs : List Int}
def aT (s : Int) (N : List (List Int)) (p : List Int) (d : Int) (hs : List Int) (i j : Nat) : Int := s * p[i]?.getD 0 * d + ((List.range j).map fun k => tn N i k * hs[k]?.getD 0).sum
theorem qnK {i j : Nat} : aT s N p d hs i (j + 1) = aT s N p d hs i j + tn N i j * hs[j]?.getD 0 := by
 unfold aT;rw [List.range_succ, List.map_append, List.sum_append];simp only [List.map_cons, List.map_nil, List.sum_cons, List.sum_nil];omega
theorem qru {i j : Nat} : aT s N p d hs i j - s * (g + hs[i]?.getD 0) = ovT s N p d g hs i j := by
 unfold aT ovT;generalize ((List.range j).map fun k => tn N i k * hs[k]?.getD 0).sum = x
 generalize p[i]?.getD 0 = y;generalize hs[i]?.getD 0 = z
 grind
end
theorem qa9 {d g : Int} {hs : List Int} (h : ¬ PrOk d g hs) : prB d g hs = false := by
 cases hb : prB d g hs with
 | false => rfl
 | true => exact absurd (qe7.1 hb) h
set_option maxHeartbeats 2000000 in
theorem k30 {s : Int} {N : List (List Int)} {p : List Int} {d g : Int} {hs : List Int} : E.Fn Tryz.prog 30 [mc s N p, prV d g hs] (ckPR (ckP s N p d g hs)) := by
 refine fn_of_row qqy ?_;have h15 := k52 (s := s) (N := N) (p := p);unfold ckPR ckP;simp only [FRow.start, f30, c30r0, c30r1, mc, prV, SV.cells, List.length_cons, List.length_nil, go_sem, Nat.reduceAdd, Nat.reduceSub, true_implies];refine qa rfl h15 (.inl rfl) ?_
 by_cases h0 : chkM s N p = 0
 ·rw [if_pos h0]
  have h := qH.1 h0;have hn4 := h.n4;simp only [h0, c30r3, ints, intss, go_sem, Nat.reduceAdd, Nat.reduceLeDiff, true_implies];intro _
  by_cases h1 : (hs.length : Int) = N.length
  ·rw [if_pos h1]
   have hl : hs.length = N.length := by omega
   by_cases hd1 : d < 1
   ·rw [qa9 (fun q => absurd q.d1 (by omega))]
    simp only [h1, hd1, c30r5, c30r6, go_sem, ↓reduceIte, reduceCtorEq, Nat.reduceAdd, Nat.reduceLeDiff, Int.reduceNeg, not_true_eq_false, false_implies, true_implies]
    done
   ·by_cases hd2 : 1099511627776 < d
    ·rw [qa9 (fun q => absurd q.d2 (by omega))]
     simp only [h1, hd1, hd2, c30r5, c30r6, go_sem, ↓reduceIte, reduceCtorEq, Nat.reduceAdd, Nat.reduceLeDiff, Int.reduceNeg, not_true_eq_false, false_implies, true_implies]
     done
    ·by_cases hg1 : g < -1125899906842624
     ·rw [qa9 (fun q => absurd q.g1 (by omega))]
      simp only [h1, hd1, hd2, hg1, c30r5, c30r6, go_sem, ↓reduceIte, reduceCtorEq, Nat.reduceAdd, Nat.reduceLeDiff, Int.reduceNeg, not_true_eq_false, false_implies, true_implies]
      done
     ·by_cases hg2 : 1125899906842624 < g
      ·rw [qa9 (fun q => absurd q.g1 (by omega))]
       simp only [h1, hd1, hd2, hg1, hg2, c30r5, c30r6, go_sem, ↓reduceIte, reduceCtorEq, Nat.reduceAdd, Nat.reduceLeDiff, Int.reduceNeg, not_true_eq_false, false_implies, true_implies]
       done
      ·simp only [h1, hd1, hd2, hg1, hg2, c30r5, c30r7, go_sem, Nat.reduceAdd, Nat.reduceLeDiff, Int.reduceNeg, not_true_eq_false, false_implies, true_implies]
       refine qe (fun m τ => ∃ i : Nat, m = hs.length - i /\ i <= hs.length /\ (∀ x ∈ hs.take i, -2 ^ 50 <= x /\ x <= 2 ^ 50) /\
        τ = ⟨(aN::aN::(.s (.ptr [.int .i64 s, intss N, ints p]))::(.s (.ptr [.int .i64 d, .int .i64 g, ints hs]))::aN::aN::(aI i)::aN::aN::aN::aN::aN::aN::aN::aZ120), []⟩) hs.length rfl ?_ ?_
       ·simp only [c30l12m, go_sem]
        exact ⟨0, rfl, Nat.zero_le _, by simp, rfl⟩
       ·rintro I m τ ⟨i, rfl, hi, hall, rfl⟩ hI
        simp only [c30l12, c30r8, ints, go_sem, ↓reduceIte, Nat.reduceAdd, Nat.reduceLeDiff];intro _;refine ⟨fun hlt => ?_, fun hge => ?_⟩
        ·have hlt : i < hs.length := by omega
         have hx : hs[i]? = some hs[i] := List.getElem?_eq_getElem hlt;generalize hs[i] = x at hx;simp only [c30r9, hx, go_sem, Nat.reduceAdd, Nat.reduceLeDiff, Int.reduceNeg, true_implies]
         by_cases hx1 : x < -1125899906842624
         ·rw [qa9 (fun q => absurd (q.h1 x (List.mem_of_getElem? hx)) (by omega))]
          simp only [hx1, c30r10, go_sem, ↓reduceIte, reduceCtorEq, Int.reduceNeg, not_true_eq_false, false_implies, true_implies]
          done
         ·by_cases hx2 : 1125899906842624 < x
          ·rw [qa9 (fun q => absurd (q.h1 x (List.mem_of_getElem? hx)) (by omega))]
           simp only [hx1, hx2, c30r10, go_sem, ↓reduceIte, reduceCtorEq, Int.reduceNeg, not_true_eq_false, false_implies, true_implies, not_false_eq_true]
           done
          ·simp only [hx1, hx2, c30r11, c30l12m, go_sem, Int.reduceNeg, false_implies, true_implies, not_false_eq_true]
           exact ⟨qb (by omega) (by omega), hI (hs.length - (i + 1)) _ (by omega) ⟨i + 1, rfl, by omega, qa0 hx hall (by omega), rfl⟩⟩
        ·have hie : i = hs.length := by omega
         subst hie;rw [List.take_length] at hall;have q : PrOk d g hs := ⟨by omega, by omega, by omega, hall⟩
         rw [qe7.2 q, if_pos rfl];simp only [c30r13, c30r14, go_sem, true_implies]
         refine qe (fun m τ => ∃ i : Nat, m = N.length - i /\ i <= N.length /\
          τ = ⟨(aN::aN::(.s (.ptr [.int .i64 s, intss N, ints p]))::(.s (.ptr [.int .i64 d, .int .i64 g, ints hs]))::aN::aN::aN::(.s (.bool (mostB s N p d g hs i)))::(.s (.bool (leastB s N p d g hs i)))::(aI i)::aN::aN::aN::aN::aZ120), []⟩) N.length rfl ?_ ?_
         ·simp only [c30l24m, go_sem]
          exact ⟨0, rfl, Nat.zero_le _, rfl⟩
         ·clear hI I
          rintro I m τ ⟨i, rfl, hi, rfl⟩ hI;simp only [c30l24, c30r15, intss, go_sem, ↓reduceIte, Nat.reduceAdd, Nat.reduceLeDiff];intro _;refine ⟨fun hlt => ?_, fun hge => ?_⟩
          ·have hi : i < N.length := by omega
           have hx : N[i]? = some N[i] := List.getElem?_eq_getElem hi;have hxl := h.sq _ (List.getElem_mem hi);have htn : ∀ k, tn N i k = (N[i][k]?).getD 0 := fun k => by unfold tn; rw [hx]; rfl
           generalize N[i] = l at hx hxl htn;obtain ⟨y, hy⟩ : ∃ y, p[i]? = some y := ⟨_, List.getElem?_eq_getElem (by rw [h.pl]; exact hi)⟩
           obtain ⟨z, hz⟩ : ∃ z, hs[i]? = some z := ⟨_, List.getElem?_eq_getElem (by omega)⟩
           have b0 := qR h.toOkP i;have b1 := qe6 h.toOkP q i;have b2 := q.get i;have b5 := qdY h.toOkP (x := p[i]?.getD 0 * d) b1;have b6 := qdY h.toOkP (x := g + hs[i]?.getD 0) (B := 2 ^ 51) (by omega)
           have b7 := qdY h.toOkP (x := p[i]?.getD 0) (B := 1000) (by omega)
           rw [<- Int.mul_assoc] at b5;have ha0 : aT s N p d hs i 0 = s * y * d := by unfold aT; rw [hy]; simp
           have e1 := qfT (s := s) (N := N) (p := p) (d := d) (g := g) (hs := hs) (i := i);have e2 := qeR (s := s) (N := N) (p := p) (d := d) (g := g) (hs := hs) (i := i);have hao := fun j => qru (s := s) (N := N) (p := p) (d := d) (g := g) (hs := hs) (i := i) (j := j)
           have hob := fun j (hj : j <= 4) => qkL h.toOkP q (i := i) hj
           rw [hz, Option.getD_some] at b2 b6 hao;rw [hy, Option.getD_some] at b5 b7;generalize mostB s N p d g hs i = bm at e1;generalize leastB s N p d g hs i = bl at e2;simp only [c30r16, ints, hy, hz, go_sem, Nat.reduceAdd, Nat.reduceLeDiff, true_implies];refine ⟨qk (by omega), qk (by omega), qk (by omega), qk (by omega), ?_⟩
           simp only [c30r17, go_sem, true_implies];rw [<- ha0]
           refine qe (fun m τ => ∃ j : Nat, m = N.length - j /\ j <= N.length /\
            τ = ⟨(aN::aN::(.s (.ptr [.int .i64 s, intss N, ints p]))::(.s (.ptr [.int .i64 d, .int .i64 g, ints hs]))::aN::aN::aN::(.s (.bool bm))::(.s (.bool bl))::(aI i)::(aI (aT s N p d hs i j))::(aI (s * (g + z)))::(aI j)::aN::aZ120), []⟩) N.length rfl ?_ ?_
           ·simp only [c30l21m, go_sem]
            exact ⟨0, rfl, Nat.zero_le _, rfl⟩
           ·rintro I2 m τ ⟨j, rfl, hj, rfl⟩ hI2
            simp only [c30l21, c30r18, intss, go_sem, ↓reduceIte, Nat.reduceAdd, Nat.reduceLeDiff];intro _;refine ⟨fun hlt => ?_, fun hge => ?_⟩
            ·have hj : j < N.length := by omega
             obtain ⟨u, hu⟩ : ∃ u, l[j]? = some u := ⟨_, List.getElem?_eq_getElem (by omega)⟩
             obtain ⟨v, hv⟩ : ∃ v, hs[j]? = some v := ⟨_, List.getElem?_eq_getElem (by omega)⟩
             have c1 := qg8 h.toOkP q i j;have c3 := qnK (s := s) (N := N) (p := p) (d := d) (hs := hs) (i := i) (j := j);have c4 := hao (j + 1);have c5 := hob (j + 1) (by omega)
             rw [htn, hu, hv] at c1 c3;simp only [Option.getD_some] at c1 c3;simp only [c30r19, hx, ints, hu, hv, go_sem, Nat.reduceAdd, Nat.reduceLeDiff, true_implies];refine ⟨qk (by omega), qk (by omega), ?_⟩
             simp only [c30r20, c30l21m, go_sem, true_implies];exact ⟨qb (by omega) (by omega), hI2 (N.length - (j + 1)) _ (by omega) ⟨j + 1, rfl, by omega, by rw [c3]; rfl⟩⟩
            ·have hje : j = N.length := by omega
             subst hje;have c4 := hao N.length;rw [show ovT s N p d g hs i N.length = ovN s N p d g hs i from rfl] at c4;have f1 : (aT s N p d hs i N.length <= s * (g + z)) ↔ ovN s N p d g hs i <= 0 := by omega
             have f2 : (s * (g + z) <= aT s N p d hs i N.length) ↔ 0 <= ovN s N p d g hs i := by omega
             have fin : I ⟨(aN::aN::(.s (.ptr [.int .i64 s, intss N, ints p]))::(.s (.ptr [.int .i64 d, .int .i64 g, ints hs]))::aN::aN::aN::(.s (.bool (bm && decide (ovN s N p d g hs i <= 0))))::(.s (.bool (bl && decide (0 <= ovN s N p d g hs i))))::(aI (i + 1))::aN::aN::aN::aN::aZ120), []⟩ := hI (N.length - (i + 1)) _ (by omega) ⟨i + 1, rfl, by omega, by rw [e1, e2]; rfl⟩
             have g1 : decide (aT s N p d hs i N.length <= s * (g + z)) = decide (ovN s N p d g hs i <= 0) := decide_eq_decide.2 f1;have g2 : decide (s * (g + z) <= aT s N p d hs i N.length) = decide (0 <= ovN s N p d g hs i) := decide_eq_decide.2 f2;clear hI hI2 hob hao;generalize ovN s N p d g hs i = v at *;generalize aT s N p d hs i N.length = av at *;generalize s * (g + z) = bv at *
             cases bm
             all_goals
              cases bl
              all_goals
               simp only [c30r22, go_sem, true_implies];simp only [g1, g2, c30r23, c30l24m, go_sem, true_implies];refine ⟨qb (by omega) (by omega), ?_⟩
               simp only [Bool.false_and, Bool.true_and] at fin;exact fin
          ·have hie : i = N.length := by omega
           subst hie;generalize mostB s N p d g hs N.length = bm;generalize leastB s N p d g hs N.length = bl
           cases bm
           all_goals
            cases bl
            all_goals
             simp only [c30r25, c30r26, c30r27, c30r28, c30r29, c30r30, c30r31, go_sem, true_implies]
             try rfl
  ·rw [if_neg h1]
   simp only [h1, c30r4, go_sem, false_implies, true_implies, not_false_eq_true]
   done
 ·rw [if_neg h0]
  simp only [h0, c30r2, List.length_cons, List.length_nil, go_sem, Nat.reduceAdd, true_implies];refine qa rfl h15 (.inl rfl) ?_
  simp only [go_sem, true_implies]
  done
theorem qb9 {a b c x y z : LV} : splice [a, b, c] 0 [x, y, z] = [x, y, z] := rfl
theorem qdL {g : Nat -> Nat -> Bool} {n c : Nat} (hc : isPC g n c = true) : ∃ l, rchC g n c = (c : Int) :: l := by
 obtain ⟨h1, h2⟩ := qA.1 hc;have hm := qo.1 h1;unfold rchC;rw [qab] at hm ⊢;have hp : ((List.range n).filter fun k => decide (k ∈ rB g n c n)).Pairwise (· < ·) := List.pairwise_lt_range.filter _
 cases hL : (List.range n).filter fun k => decide (k ∈ rB g n c n) with
 | nil => rw [hL] at hm; cases hm
 | cons x l =>
  rw [hL] at hm hp;have hx : x ∈ (List.range n).filter fun k => decide (k ∈ rB g n c n) := by rw [hL]; simp
  have hx2 := of_decide_eq_true (List.mem_filter.1 hx).2;have hle := (h2 x (qo.2 hx2)).1
  have : x = c := by
   rcases List.mem_cons.1 hm with h | h
   ·exact h.symm
   ·have := (List.pairwise_cons.1 hp).1 c h
    omega
  exact ⟨l.map fun k : Nat => (k : Int), by rw [this]; rfl⟩
def putT (st : List Nat) (l : List Int) (R : List Int) (k : Nat) : List Int := (List.range k).foldl (fun R j => R.set (st[j]?.getD 0) (l[j]?.getD 0)) R
theorem qfU {st : List Nat} {l R : List Int} {k : Nat} : putT st l R (k + 1) = (putT st l R k).set (st[k]?.getD 0) (l[k]?.getD 0) := by
 unfold putT; rw [List.range_succ, List.foldl_append]; rfl
theorem qez {st : List Nat} {l R : List Int} : ∀ {k : Nat}, (putT st l R k).length = R.length
 | 0 => rfl
 | k + 1 => by rw [qfU, List.length_set, qez]
def colQ (s : Int) (N : List (List Int)) (p : List Int) (i : Nat) : Int := s * (p[i]?.getD 0 * (rootsN s N).sum - gainN s N p)
def prfH (s : Int) (N : List (List Int)) (p : List Int) (c : Nat) : List Int := putT (stO N.length c) (solL s N (stO N.length c) ((stO N.length c).map (colQ s N p))) (List.replicate N.length 0) (stO N.length c).length
def prfD (s : Int) (N : List (List Int)) (c : Nat) : Int := rootN s N c * (rootsN s N).sum
def prfG (s : Int) (N : List (List Int)) (p : List Int) (c : Nat) : Int := gainN s N p * rootN s N c
theorem qic {n c : Nat} : (stO n c).length <= n := by
 unfold stO; exact Nat.le_trans (List.length_filter_le _ _) (by simp)
theorem qau {a b : Int} {A B : Nat} (ha : a.natAbs <= A) (hb : b.natAbs <= B) : (a * b).natAbs <= A * B := by
 rw [Int.natAbs_mul]; exact Nat.mul_le_mul ha hb
theorem qmo {s : Int} {N : List (List Int)} {p : List Int} (h : OkM s N p) (i : Nat) : (p[i]?.getD 0 * (rootsN s N).sum).natAbs <= 1000 * 32000 := by
 have h1 := qa1 h.s;have h2 := qdG h.s;have h3 := qR h.toOkP i;exact qau (by omega) (by omega)
theorem qid {s : Int} {N : List (List Int)} {p : List Int} (h : OkM s N p) (i : Nat) : (p[i]?.getD 0 * (rootsN s N).sum - gainN s N p).natAbs <= 32000000 /\ (colQ s N p i).natAbs <= 640000000 := by
 have h1 := qa1 h.s;have h2 := qdG h.s;have h3 := qR h.toOkP i;have h4 := qdW h;have h5 : 0 <= gainN s N p := qbd h (Nat.le_refl _);have h6 := qmo h i;have h7 : 0 <= p[i]?.getD 0 * (rootsN s N).sum := Int.mul_nonneg h3.1 h2;have h8 : (p[i]?.getD 0 * (rootsN s N).sum - gainN s N p).natAbs <= 32000000 := by omega
 have h9 := qdY h.toOkP h8;exact ⟨h8, h9⟩
set_option maxHeartbeats 2000000 in
theorem k78 {s : Int} {N : List (List Int)} {p : List Int} {c : Nat} (h : OkM s N p) (hS : (parts N).length <= 1) (hc : firsts N = [c]) :
  E.Fn Tryz.prog 78 [benchC s N p] [prV (prfD s N c) (prfG s N p c) (prfH s N p c)] := by
 refine fn_of_row qq9 ?_;have hn4 := h.n4;have hk73 := k58 (p := p) h.toOkN;have hsp := qaJ h hS;have hrl : (rootsN s N).length = N.length := by simp [rootsN]
 have hrt : ∀ i, i < N.length -> (rootsN s N)[i]? = some (rootN s N i) := fun i hi => by
  unfold rootsN; rw [List.getElem?_map, List.getElem?_range hi]; rfl
 have hk52 := k60 (l := rootsN s N) (by rw [hrl]; omega) (fun x hx => by
  obtain ⟨i, hi, rfl⟩ := qU.1 hx;have h1 := qy h.s hi;have h2 := qa7 h.toOkN (i := i);omega)
 have hcp : isPC (gr N) N.length c = true := qad.1 (by rw [hc]; simp)
 have hcn : c < N.length := (qA.1 hcp).1.lt;obtain ⟨tl, htl⟩ := qdL hcp;have hpt : (parts N)[0]? = some ((c : Int) :: tl) := by rw [qbk, hc, <- htl]; rfl
 have h32 := qa1 h.s;have hroot := qkH h.s hcn;have hroot0 := qy h.s hcn;have hgle := qdW h;have hg0 : 0 <= gainN s N p := qbd h (Nat.le_refl _);have hg34 : ∀ i, i <= 4 -> (gainT s N p i).natAbs <= 2 ^ 34 := fun i hi => qgW h.toOkP hi
 simp only [FRow.start, f78, c78r0, c78r1, go_sem, Nat.reduceSub, true_implies];refine qa (by simp only [ints, benchC, bnV, go_sem]) hk73 (.inr (.inl (by simp only [ints, benchC, bnV, go_sem]))) ?_
 simp only [c78r2, go_sem, true_implies];refine qa (by simp only [ints, go_sem]) hk52 (.inl rfl) ?_
 simp only [c78r3, c78r4, ints, hrl, go_sem, true_implies];intro _
 refine qe (fun m τ => ∃ i : Nat, m = N.length - i /\ i <= N.length /\
  τ = ⟨((.s (benchC s N p))::aN::(.loc 0 0)::aN::(.s (.int .i64 (rootsN s N).sum))::(aI (gainT s N p i))::aN::aN::aN::aN::aN::aN::aN::aN::aN::aN::aN::aN::aN::aN::aN::(.s (ints (rootsN s N)))::(aI N.length)::(aI i)::aN::aN::aN::aN::aZ88), [.obj [aI 0, aI 0, .full []]]⟩) N.length rfl ?_ ?_
 ·simp only [c78l9m, go_sem, ↓reduceIte, reduceCtorEq, Nat.reduceLeDiff]
  exact ⟨0, rfl, Nat.zero_le _, rfl⟩
 ·rintro I m τ ⟨i, rfl, hi, rfl⟩ hI
  simp only [c78l9, c78r5, go_sem, ↓reduceIte, true_implies];refine ⟨fun hlt => ?_, fun hge => ?_⟩
  ·have hlt : i < N.length := by omega
   obtain ⟨y, hy⟩ : ∃ y, p[i]? = some y := ⟨_, List.getElem?_eq_getElem (by rw [h.pl]; exact hlt)⟩
   have hrb := qa7 h.toOkN (i := i);have hpb := qR h.toOkP i;have hmb := qau hrb (show (p[i]?.getD 0).natAbs <= 1000 by omega)
   have hs1 := hg34 (i + 1) (by omega)
   have hgs := qeM (s := s) (N := N) (p := p) (i := i);rw [hy, Option.getD_some] at hmb hgs;simp only [c78r6, ints, hrt i hlt, c78r7, benchC, bnV, hy, go_sem, Nat.reduceAdd, Nat.reduceLeDiff, true_implies];refine ⟨qk (by omega), qk (by omega), ?_⟩
   simp only [c78r8, c78l9m, go_sem, ↓reduceIte, reduceCtorEq, Nat.reduceLeDiff, true_implies];exact ⟨qb (by omega) (by omega), hI (N.length - (i + 1)) _ (by omega) ⟨i + 1, rfl, by omega, by rw [hgs]; rfl⟩⟩
  ·have hie : i = N.length := by omega
   subst hie;rw [show gainT s N p N.length = gainN s N p from rfl]
   have hk80 : E.Fn Tryz.prog 88 [benchC s N p, ints [(c : Int)]] [ints (nats (stO N.length c))] := by
    rw [<- qet];exact k88 (by omega)
   have hk81 := fun col (h1 : col.length = (stO N.length c).length) (h2 : ∀ x ∈ col, x.natAbs <= 2 ^ 38) => k92 (p := p) h.toOkN (st := stO N.length c) (col := col) (fun _ => qgM) (by have := qic (n := N.length) (c := c); omega) h1 h2
   have hdr : detS s N (stO N.length c) = rootN s N c := by unfold rootN; rw [qet]
   rw [hdr] at hk81;have hol := qic (n := N.length) (c := c);have hoL : ∀ i ∈ stO N.length c, i < N.length := fun _ => qgM
   unfold prfH;have hnl : (nats (stO N.length c)).length = (stO N.length c).length := by simp [nats]
   generalize stO N.length c = st at *;simp only [c78r10, benchC, bnV, intss, hpt, ints, go_sem, ↓reduceIte, Nat.reduceAdd, Nat.reduceSub, Nat.reduceLeDiff, Int.reduceLE, Int.reduceToNat];refine qa (by simp only [benchC, bnV, ints, intss, List.map_cons, List.map_nil, go_sem]) hk80 (.inr (.inl (by simp only [benchC, bnV, ints, intss, List.map_cons, List.map_nil, go_sem]))) ?_
   simp only [c78r11, c78r12, ints, hnl, go_sem, true_implies];intro _
   refine qe (fun m τ => ∃ i : Nat, m = st.length - i /\ i <= st.length /\
    τ = ⟨((.s (benchC s N p))::aN::(.loc 0 0)::aN::(.s (.int .i64 (rootsN s N).sum))::(aI (gainN s N p))::aN::aN::(.s (ints (nats st)))::(.sl 1 0 i 1 false)::aN::aN::aN::aN::aN::aN::aN::aN::aN::aN::aN::aN::aN::aN::aN::aN::aN::aN::aN::aN::aN::aN::aN::aN::aN::aN::aN::aN::aN::aN::aN::aN::aN::aN::aN::aN::aN::aN::aN::aN::(.s (ints (nats st)))::(aI st.length)::(aI i)::aN::aN::aN::aN::aN::aN::aN::aZ56), [.obj [aI 0, aI 0, .full []], .row (((st.take i).map (colQ s N p)).map (.int .i64))]⟩) st.length (qY rfl) ?_ ?_
   ·simp only [c78l17m, go_sem, ↓reduceIte, reduceCtorEq, Nat.reduceAdd, Nat.reduceLeDiff]
    exact ⟨0, rfl, Nat.zero_le _, rfl⟩
   ·clear hI I
    rintro I m τ ⟨i, rfl, hi, rfl⟩ hI;simp only [c78l17, c78r13, go_sem, ↓reduceIte, Nat.reduceAdd, true_implies];refine ⟨fun hlt => ?_, fun hge => ?_⟩
    ·have hlt : i < st.length := by omega
     have hx : st[i]? = some st[i] := List.getElem?_eq_getElem hlt;have hk := hoL _ (List.getElem_mem hlt);have hnx : (nats st)[i]? = some (st[i] : Int) := by unfold nats; rw [List.getElem?_map, hx]; rfl
     generalize st[i] = a at hx hk hnx;obtain ⟨y, hy⟩ : ∃ y, p[a]? = some y := ⟨_, List.getElem?_eq_getElem (by rw [h.pl]; exact hk)⟩
     obtain ⟨q1, q2⟩ := qid h a;have q3 := qmo h a;have hcq : colQ s N p a = s * (y * (rootsN s N).sum - gainN s N p) := by unfold colQ; rw [hy]; rfl
     rw [hy, Option.getD_some] at q1 q3;rw [hcq] at q2
     have e3 : ((st.take i).map (colQ s N p)).map (SV.int .i64) ++ flatE [SV.int .i64 (s * (y * (rootsN s N).sum - gainN s N p))] = ((st.take (i + 1)).map (colQ s N p)).map (.int .i64) := by
      rw [qb6 hx, List.map_append, List.map_append, <- hcq]; rfl
     simp only [c78r14, ints, hnx, c78r15, benchC, bnV, hy, Nat.reduceBEq, Bool.false_eq_true, go_sem, ↓reduceIte, Nat.reduceAdd, Nat.reduceLeDiff, Nat.reduceMul, true_implies];refine ⟨qk (by omega), qk (by omega), qk (by omega), ?_⟩
     refine ⟨by decide, by decide, rfl, qr, qr, by simp; omega, by omega, by omega, ?_⟩
     rw [e3];simp only [c78r16, c78l17m, go_sem, ↓reduceIte, reduceCtorEq, Nat.reduceLeDiff, true_implies];exact ⟨qb (by omega) (by omega), hI (st.length - (i + 1)) _ (by omega) ⟨i + 1, rfl, by omega, rfl⟩⟩
    ·have hie : i = st.length := by omega
     subst hie;rw [List.take_length]
     have hrow : rowOf 0 st.length 1 ((st.map (colQ s N p)).map (SV.int .i64)) = some ((st.map (colQ s N p)).map (.int .i64)) := by
      rw [qT (by simp), List.take_of_length_le (by simp)]
     have h81 := hk81 (st.map (colQ s N p)) (by simp) (fun x hx => by
      obtain ⟨i, _, rfl⟩ := List.mem_map.1 hx;have := (qid h i).2;omega)
     have hsl : (solL s N st (st.map (colQ s N p))).length = st.length := by simp [solL]
     generalize solL s N st (st.map (colQ s N p)) = L at *;simp only [c78r18, go_sem];refine ⟨_, hrow, ?_⟩;refine qa (by simp only [ints, benchC, bnV, go_sem]) h81 (.inr (.inl (by simp only [ints, benchC, bnV, go_sem]))) ?_
     simp only [c78r19, benchC, bnV, intss, go_sem, ↓reduceIte, Nat.reduceAdd, Nat.reduceLT, Nat.reduceLeDiff, true_implies];have hD := qau (show (rootN s N c).natAbs <= 8000 by omega) (show (rootsN s N).sum.natAbs <= 32000 by omega)
     have hG := qau (show (gainN s N p).natAbs <= 32000000 by omega) (show (rootN s N c).natAbs <= 8000 by omega)
     refine ⟨qk (by omega), qk (by omega), by omega, by omega, fun _ => ?_⟩
     rw [q7, qb9];simp only [c78r20, ints, hnl, go_sem];intro _
     refine qe (fun m τ => ∃ k : Nat, m = st.length - k /\ k <= st.length /\
      τ = ⟨(aN::aN::(.loc 0 0)::aN::aN::aN::aN::aN::aN::aN::aN::aN::(.s (ints L))::aN::(.loc 3 0)::aN::aN::aN::aN::aN::aN::aN::aN::aN::aN::aN::aN::aN::aN::aN::aN::aN::aN::aN::aN::aN::aN::aN::aN::aN::aN::aN::aN::aN::aN::aN::aN::aN::aN::aN::aN::aN::aN::aN::aN::aN::aN::aN::aN::aN::aN::aN::aN::aN::aN::aN::aN::aN::aN::aN::aN::aN::aN::aN::aN::aN::aN::aN::aN::aN::aN::aN::aN::aN::aN::aN::aN::aN::aN::aN::aN::aN::aN::aN::aN::aN::aN::aN::aN::(.s (ints (nats st)))::(aI st.length)::(aI k)::aN::aN::aN::aN::aN::aN::aZ8),
       [.obj [aI 0, aI 0, .full []], .frz ((st.map (colQ s N p)).map (.int .i64)), .row ((putT st L (List.replicate N.length 0) k).map (.int .i64)), .obj [aI (rootN s N c * (rootsN s N).sum), aI (gainN s N p * rootN s N c), .sl 2 0 N.length 1 true]]⟩) st.length rfl ?_ ?_
     ·simp only [c78l25m, go_sem, ↓reduceIte, reduceCtorEq, Nat.reduceAdd, Nat.reduceLeDiff]
      exact ⟨0, rfl, Nat.zero_le _, rfl⟩
     ·clear hI I
      rintro I m τ ⟨k, rfl, hk, rfl⟩ hI;simp only [c78l25, c78r21, go_sem, ↓reduceIte, Nat.reduceAdd, true_implies];refine ⟨fun hlt => ?_, fun hge => ?_⟩
      ·have hlt : k < st.length := by omega
       have hx : st[k]? = some st[k] := List.getElem?_eq_getElem hlt;have hka := hoL _ (List.getElem_mem hlt);have hnx : (nats st)[k]? = some (st[k] : Int) := by unfold nats; rw [List.getElem?_map, hx]; rfl
       obtain ⟨y, hy⟩ : ∃ y, L[k]? = some y := ⟨_, List.getElem?_eq_getElem (by omega)⟩
       have hput := qfU (st := st) (l := L) (R := List.replicate N.length 0) (k := k);have hpl := qez (st := st) (l := L) (R := List.replicate N.length 0) (k := k);rw [List.length_replicate] at hpl;rw [hx, hy] at hput;simp only [Option.getD_some] at hput;generalize st[k] = a at hx hka hnx hput;generalize putT st L (List.replicate N.length 0) k = R at *;have hs1 := spl_row (R := R) (i := a) (x := y) (by omega)
       simp only [c78r22, ints, hnx, c78r23, hy, Nat.mul_one, hs1, Nat.zero_add, go_sem, Nat.reduceAdd, true_implies];refine ⟨hka, by omega, ?_⟩
       simp only [c78r24, c78l25m, go_sem, ↓reduceIte, reduceCtorEq, Nat.reduceLeDiff, true_implies];exact ⟨qb (by omega) (by omega), hI (st.length - (k + 1)) _ (by omega) ⟨k + 1, rfl, by omega, by rw [hput]; rfl⟩⟩
      ·have hke : k = st.length := by omega
       subst hke;have hpl := qez (st := st) (l := L) (R := List.replicate N.length 0) (k := st.length);rw [List.length_replicate] at hpl;have hsl3 : sliceOf 0 N.length 1 ((putT st L (List.replicate N.length 0) st.length).map (SV.int .i64)) = some (ints (putT st L (List.replicate N.length 0) st.length)) := qdE hpl.symm;generalize putT st L (List.replicate N.length 0) st.length = R at *;simp only [c78r26, qb9, hsl3, List.take_succ_cons, List.take_zero, go_sem, Nat.reduceAdd, true_implies];rfl
def fst0 (N : List (List Int)) : Nat := (firsts N).headD 0
def proofR (s : Int) (N : List (List Int)) (p : List Int) : List SV :=
 if setE s N p = 0 then [prV (prfD s N (fst0 N)) (prfG s N p (fst0 N)) (prfH s N p (fst0 N)), .int .i64 0] else [prV 0 0 [], .int .i64 (setE s N p)]
theorem qnL {s : Int} {N : List (List Int)} {p : List Int} (h : OkM s N p) (hS : (parts N).length <= 1) : firsts N = [fst0 N] := by
 obtain ⟨c, hc, _⟩ := qc8 h hS;unfold fst0;rw [hc]; rfl
theorem k28 {s : Int} {N : List (List Int)} {p : List Int} : E.Fn Tryz.prog 28 [mc s N p] (proofR s N p) := by
 refine fn_of_row qqw ?_;have h56 := k57 (s := s) (N := N) (p := p);unfold proofR;unfold setR at h56;simp only [FRow.start, f28, c28r0, c28r1, mc, SV.cells, List.length_cons, List.length_nil, go_sem, Nat.reduceAdd, Nat.reduceSub, true_implies]
 by_cases h0 : setE s N p = 0
 ·rw [if_pos h0] at h56
  rw [if_pos h0];obtain ⟨h, hS⟩ := qa8 h0;have h59 := k78 h hS (qnL h hS);refine qa rfl h56 (.inr (.inl rfl)) ?_
  simp only [c28r2, c28r4, go_sem, true_implies];refine qa (by simp only [benchC, bnV, go_sem]) h59 (.inr (.inl (by simp only [benchC, bnV, go_sem]))) ?_
  simp only [prV, qb9, SV.cells, go_sem, Nat.reduceAdd, true_implies]
  done
 ·rw [if_neg h0] at h56
  rw [if_neg h0];refine qa rfl h56 (.inr (.inl rfl)) ?_
  simp only [h0, c28r2, c28r3, prV, qb9, go_sem, Nat.reduceAdd, true_implies];rfl
def entS (z : Ent) : SV × SV := (pr z.1, .int .i64 z.2)
theorem qkM {L : List Ent} : (kK L).zip (kV L) = L.map entS := by
 unfold kK kV;rw [List.map_map, List.zip_map', List.map_inj_left];intro z _;rfl
def natL (f : Nat -> Int) (n : Nat) : List Int := (List.range n).map f
theorem qaK {f : Nat -> Int} {n i : Nat} (h : i < n) : (natL f n)[i]? = some (f i) := by
 unfold natL; rw [List.getElem?_map, List.getElem?_range h]; rfl
theorem qah {f : Nat -> Int} {n : Nat} : (natL f n).length = n := by simp [natL]
set_option maxHeartbeats 2000000 in
theorem k66 {s : Int} {N : List (List Int)} {p : List Int} {state plays : Nat} (h : OkM s N p) (hst : state < N.length) (hpl : plays <= 10) :
  E.Fn Tryz.prog 66 [benchC s N p, .int .i64 state, .int .i64 plays] [.int .i64 (fT s N p state plays)] := by
 refine fn_of_row qq2 ?_;have hn4 := h.n4
 have h0s : ((List.replicate N.length (0 : Int)).set state 1) = natL (wT N state 0) N.length := by
  apply List.ext_getElem?
  intro k;rw [List.getElem?_set, List.length_replicate, List.getElem?_replicate]
  by_cases hk : k < N.length
  ·rw [qaK hk, wT]
   by_cases e : state = k
   ·rw [if_pos e, if_pos hst, if_pos e.symm]
   ·rw [if_neg e, if_pos hk, if_neg (fun e2 => e e2.symm)]
  ·rw [if_neg (by omega), if_neg hk]
   exact (List.getElem?_eq_none (by rw [qah]; omega)).symm
 have hs1 := spl_row (R := List.replicate N.length 0) (i := state) (x := 1) (by simpa using hst)
 simp only [FRow.start, f66, c66r0, c66r1, benchC, bnV, intss, go_sem, Nat.reduceAdd, Nat.reduceSub, Nat.reduceLT, Nat.reduceLeDiff, true_implies];refine ⟨by omega, by omega, fun _ => ?_⟩
 rw [q7];simp only [c66r2, Nat.mul_one, hs1, h0s, go_sem, true_implies];refine ⟨hst, by simp; omega, ?_⟩
 simp only [c66r3, c66r4, go_sem, true_implies];have hpy := fun i => qR h.toOkP i
 have hp20 : ∀ t, t <= 10 -> (20 : Int) ^ t <= 20 ^ 10 := fun t ht => by
  have := Nat.pow_le_pow_right (show 0 < 20 by decide) ht
  have h2 : ((20 ^ t : Nat) : Int) <= ((20 ^ 10 : Nat) : Int) := by omega
  simpa using h2
 refine qe (fun m τ => ∃ (t : Nat) (v : LV), m = plays - t /\ t <= plays /\ (v = .sl 0 0 N.length 1 true /\ t <= 1 \/ v = .s (ints (natL (wT N state (t - 1)) N.length)) /\ 1 <= t) /\
  τ = ⟨((.s (benchC s N p))::aN::aN::aN::aN::aN::aN::v::(aI (fT s N p state t))::aN::aN::aN::aN::aN::aN::aN::aN::aN::aN::aN::aN::aN::aN::aN::aN::(aI plays)::(aI t)::aN::aN::aN::aN::aN::aZ56), [.row ((natL (wT N state 0) N.length).map (.int .i64))]⟩) plays rfl ?_ ?_
 ·simp only [c66l23m, go_sem, ↓reduceIte, reduceCtorEq, Nat.reduceLeDiff]
  exact ⟨0, _, rfl, Nat.zero_le _, .inl ⟨rfl, by omega⟩, rfl⟩
 ·rintro I m τ ⟨t, v, rfl, ht, hv, rfl⟩ hI
  simp only [c66l23, c66r5, go_sem, ↓reduceIte, true_implies];refine ⟨fun hlt => ?_, fun hge => ?_⟩
  ·have hlt : t < plays := by omega
   have hpb := qdH h.toOkN (t := t);have hp20t := hp20 t (by omega)
   have hfb := qf7 h hst (t := t);have hwn := qcw h hst (t := t) (Nat.le_refl _);have hfs : fT s N p state (t + 1) = fT s N p state t * s + wpT N p state t N.length := rfl;have hs20 := h.s20;have hs1' := h.s1;have hf0 : 0 <= fT s N p state t * s := Int.mul_nonneg hfb.1 (by omega)
   have hfle : fT s N p state t * s <= 1000 * (t + 1) * s ^ t := by
    have := qbe h.toOkP (state := state) (t := t) (j := N.length);omega
   have hfle2 : (1000 * ((t : Int) + 1)) * s ^ t <= 11000 * 10240000000000 := Int.mul_le_mul (by omega) (by omega) (by omega) (by decide)
   simp only [c66r6, c66r7, go_sem, true_implies];refine ⟨fun htp => ?_, fun htz => ?_⟩
   ·have htp : 0 < t := by omega
    rcases hv with ⟨rfl, ht1⟩ | ⟨rfl, _⟩
    ·have ht1 : t = 0 + 1 := by omega
     simp only [c66r8, go_sem, Nat.reduceAdd, Nat.reduceLT];refine ⟨by omega, by omega,  ?_⟩
     rw [q7];simp only [c66r9, benchC, bnV, qkM, go_sem, Nat.reduceAdd, Nat.reduceLeDiff, true_implies];intro _
     refine qe (fun m τ => ∃ (left : List Ent) (R : List Int) (last : Option (SV × SV)), m = left.length /\ (∀ z ∈ left, z ∈ turnsL N) /\ R.length = N.length /\ (∀ k, k < N.length -> 0 <= R[k]?.getD 0 /\ R[k]?.getD 0 + (left.map (brg (wT N state 0) k)).sum = wT N state (0 + 1) k) /\
      τ = ⟨((.s (benchC s N p))::aN::aN::aN::aN::aN::aN::(.sl 0 0 N.length 1 true)::(aI (fT s N p state t))::aN::(.sl 1 0 N.length 1 true)::aN::aN::aN::aN::aN::aN::aN::aN::aN::aN::aN::aN::aN::aN::(aI plays)::(aI (t : Nat))::aN::aN::aN::aN::aN::aN::aN::aN::aN::aN::aN::(.loc 2 0)::aN::aZ48), [.row ((natL (wT N state 0) N.length).map (.int .i64)), .row (R.map (.int .i64)), .mit (left.map entS) last]⟩) (turnsL N).length rfl ?_ ?_
     ·simp only [c66l13m, go_sem, ↓reduceIte, reduceCtorEq, Nat.reduceAdd, Nat.reduceLeDiff]
      refine ⟨turnsL N, List.replicate N.length 0, none, rfl, fun _ h => h, by simp, fun k hk => ?_, rfl⟩
      rw [List.getElem?_replicate, if_pos hk, qh6];exact ⟨by simp, by rw [wT]; simp⟩
     ·rintro I2 m τ ⟨left, R, last, rfl, hsub, hRl, hR, rfl⟩ hI2
      simp only [c66l13, c66r10, go_sem, ↓reduceIte, Nat.reduceAdd, true_implies];refine ⟨fun hnil => ?_, fun l1 e l2 hs => ?_⟩
      ·have hnil : left = [] := by simpa using hnil
       subst hnil
       have hRe : R = natL (wT N state t) N.length := by
        apply List.ext_getElem?
        intro k
        by_cases hk : k < N.length
        ·obtain ⟨x, hx⟩ : ∃ x, R[k]? = some x := ⟨_, List.getElem?_eq_getElem (by omega)⟩
         have := (hR k hk).2;rw [hx] at this ⊢;rw [qaK hk];simp only [Option.getD_some, List.map_nil, List.sum_nil, Int.add_zero] at this;rw [this, ht1]
        ·rw [List.getElem?_eq_none (by omega), List.getElem?_eq_none (by rw [qah]; omega)]
       subst hRe
       have hrow : rowOf 0 N.length 1 ((natL (wT N state t) N.length).map (SV.int .i64)) = some ((natL (wT N state t) N.length).map (.int .i64)) := by
        rw [qT (by simp [qah]), List.take_of_length_le (by simp [qah])]
       simp only [c66r14, go_sem, Nat.reduceAdd, true_implies];refine ⟨_, hrow, ?_⟩;simp only [c66r15, benchC, bnV, go_sem, Nat.reduceAdd, Nat.reduceLeDiff, true_implies];refine ⟨qb hf0 (by omega), ?_⟩
       simp only [c66r16, ints, qah, go_sem];intro _
       refine qe (fun m τ => ∃ j : Nat, m = N.length - j /\ j <= N.length /\
        τ = ⟨((.s (benchC s N p))::aN::aN::aN::aN::aN::aN::(.s (ints (natL (wT N state t) N.length)))::(aI (fT s N p state t * s + wpT N p state t j))::aN::aN::aN::aN::aN::aN::aN::aN::aN::aN::aN::aN::aN::aN::aN::aN::(aI plays)::(aI (t : Nat))::aN::aN::aN::aN::aN::aN::aN::aN::aN::aN::aN::aN::aN::aN::aN::aN::aN::aN::aN::aN::aN::aN::aN::aN::aN::aN::aN::aN::aN::aN::aN::aN::aN::aN::aN::aN::aN::aN::aN::(.s (ints (natL (wT N state t) N.length)))::(aI N.length)::(aI j)::aN::aN::aN::aZ16), [.row ((natL (wT N state 0) N.length).map (.int .i64)), .frz ((natL (wT N state t) N.length).map (.int .i64)), .mit [] last]⟩) N.length rfl ?_ ?_
       ·simp only [c66l21m, go_sem, Nat.reduceAdd]
        exact ⟨0, rfl, Nat.zero_le _, by simp [wpT]; exact ⟨rfl, rfl⟩⟩
       ·rintro I2 m τ ⟨j, rfl, hj, rfl⟩ hI2
        simp only [c66l21, c66r17, go_sem, ↓reduceIte, Nat.reduceAdd, true_implies];refine ⟨fun hlt => ?_, fun hge => ?_⟩
        ·have hj : j < N.length := by omega
         obtain ⟨y, hy⟩ : ∃ y, p[j]? = some y := ⟨_, List.getElem?_eq_getElem (by rw [h.pl]; exact hj)⟩
         have hg := qaK (f := wT N state t) hj;have hws := qey (N := N) (p := p) (state := state) (t := t) (j := j);have hwl := qcw h hst (t := t) (j := j + 1) (by omega)
         have hw0 := qbe h.toOkP (state := state) (t := t) (j := j);have hm0 := Int.mul_nonneg (qI h.toOkN (state := state) (t := t) (k := j)) (qR h.toOkP j).1;rw [hy, Option.getD_some] at hws hm0;simp only [c66r18, ints, hg, c66r19, benchC, bnV, hy, go_sem, Nat.reduceAdd, Nat.reduceLeDiff, true_implies];refine ⟨qb hm0 (by omega), qb (by omega) (by omega), ?_⟩
         simp only [c66r20, c66l21m, go_sem, true_implies];exact ⟨qb (by omega) (by omega), hI2 (N.length - (j + 1)) _ (by omega) ⟨j + 1, rfl, by omega, by rw [hws, <- Int.add_assoc]; rfl⟩⟩
        ·have hje : j = N.length := by omega
         subst hje;simp only [c66r22, c66l23m, go_sem, true_implies];exact ⟨qb (by omega) (by omega), hI (plays - (t + 1)) _ (by omega) ⟨t + 1, .s (ints (natL (wT N state t) N.length)), rfl, by omega, .inr ⟨rfl, by omega⟩, rfl⟩⟩
      ·obtain ⟨L1, L3, rfl, h1, h3⟩ := List.map_eq_append_iff.1 hs
       obtain ⟨z, L2, rfl, h4, h5⟩ := List.map_eq_cons_iff.1 h3;subst h4;have hz := hsub z (by simp)
       obtain ⟨i, k, l, e1, e2, e3⟩ := qaZ.1 (List.mem_filter.1 hz).1;have hin := (List.getElem?_eq_some_iff.1 e2).1
       have hkn : k < N.length := by
        have := (List.getElem?_eq_some_iff.1 e3).1;rw [h.sq l (List.mem_of_getElem? e2)] at this;exact this
       obtain ⟨⟨zi, zk⟩, zv⟩ := z;simp only [Prod.mk.injEq] at e1 e3;obtain ⟨rfl, rfl⟩ := e1;have hgw := qaK (f := wT N state 0) hin;obtain ⟨x, hx⟩ : ∃ x, R[k]? = some x := ⟨_, List.getElem?_eq_getElem (by omega)⟩
       have hzv : zv = tn N i k := by unfold tn; rw [e2]; simp [e3]
       have hbz : brg (wT N state 0) k (((i : Int), (k : Int)), zv) = wT N state 0 i * zv := by unfold brg; simp
       have hnn : ∀ (L : List Ent) (q : Nat), (∀ z ∈ L, z ∈ turnsL N) -> 0 <= (L.map (brg (wT N state 0) q)).sum := fun L q hL => qC fun y hy => by
        obtain ⟨z, hz, rfl⟩ := List.mem_map.1 hy;obtain ⟨a, b, l', f1, f2, f3⟩ := qaZ.1 (List.mem_filter.1 (hL z hz)).1;unfold brg
        split
        ·exact Int.mul_nonneg (qI h.toOkN) (h.ent l' (List.mem_of_getElem? f2) _ (List.mem_of_getElem? f3)).1
        ·exact Int.le_refl _
       have hsum : ∀ q, ((L1 ++ (((i : Int), (k : Int)), zv) :: L2).map (brg (wT N state 0) q)).sum = brg (wT N state 0) q (((i : Int), (k : Int)), zv) + ((L1 ++ L2).map (brg (wT N state 0) q)).sum := fun q => by
        simp only [List.map_append, List.map_cons, List.sum_append, List.sum_cons]; omega
       have hRk := hR k hkn;rw [hsum, hbz, hx, Option.getD_some] at hRk;have hrest := hnn (L1 ++ L2) k fun z hz => hsub z (by rcases List.mem_append.1 hz with h | h <;> simp [h])
       have hwl := qmm h.s hst (t := 0 + 1) hkn;have hwp := hp20 (0 + 1) (by omega)
       have hm0 : 0 <= wT N state 0 i * zv := Int.mul_nonneg (qI h.toOkN) (by rw [hzv]; exact h.nn i k)
       have hs3 := spl_row (R := R) (i := k) (x := x + wT N state 0 i * zv) (by omega)
       subst h1;subst h5;simp only [entS, pr, c66r11, SV.cells, ql, c66r12, Nat.mul_one, Int.toNat_natCast, hx, hgw, hs3, go_sem, Nat.reduceAdd, true_implies];refine ⟨hkn, hin, qb hm0 (by omega), qb (by omega) (by omega), hkn, by omega, ?_⟩
       simp only [c66l13m, go_sem, ↓reduceIte, reduceCtorEq, Nat.reduceLeDiff];refine hI2 (L1 ++ L2).length _ (by simp) ⟨L1 ++ L2, R.set k (x + wT N state 0 i * zv), some (.agg [.int .i64 i, .int .i64 k], .int .i64 zv), rfl, fun z hz => hsub z (by rcases List.mem_append.1 hz with h | h <;> simp [h]), by rw [List.length_set]; exact hRl, fun q hq => ?_, by rw [List.map_append]; try rfl⟩
       have hRq := hR q hq;rw [hsum] at hRq
       by_cases e : k = q
       ·subst e
        rw [List.getElem?_set_self (by omega), Option.getD_some]
        rw [hbz, hx, Option.getD_some] at hRq;omega
       ·rw [List.getElem?_set_ne e]
        have : brg (wT N state 0) q (((i : Int), (k : Int)), zv) = 0 := by unfold brg; rw [if_neg (by simp; omega)]
        omega
    ·obtain ⟨u, rfl⟩ : ∃ u, t = u + 1 := ⟨t - 1, by omega⟩
     rw [Nat.add_sub_cancel];simp only [c66r8, ints, qah, go_sem, Nat.reduceAdd, Nat.reduceLT];refine ⟨by omega, by omega, fun _ => ?_⟩
     rw [q7];simp only [c66r9, benchC, bnV, qkM, go_sem, Nat.reduceAdd, Nat.reduceLeDiff, true_implies]
     refine qe (fun m τ => ∃ (left : List Ent) (R : List Int) (last : Option (SV × SV)), m = left.length /\ (∀ z ∈ left, z ∈ turnsL N) /\ R.length = N.length /\ (∀ k, k < N.length -> 0 <= R[k]?.getD 0 /\ R[k]?.getD 0 + (left.map (brg (wT N state u) k)).sum = wT N state (u + 1) k) /\
      τ = ⟨((.s (benchC s N p))::aN::aN::aN::aN::aN::aN::(.s (ints (natL (wT N state u) N.length)))::(aI (fT s N p state (u + 1)))::aN::(.sl 1 0 N.length 1 true)::aN::aN::aN::aN::aN::aN::aN::aN::aN::aN::aN::aN::aN::aN::(aI plays)::(aI ((u + 1) : Nat))::aN::aN::aN::aN::aN::aN::aN::aN::aN::aN::aN::(.loc 2 0)::aN::aZ48), [.row ((natL (wT N state 0) N.length).map (.int .i64)), .row (R.map (.int .i64)), .mit (left.map entS) last]⟩) (turnsL N).length rfl ?_ ?_
     ·simp only [c66l13m, go_sem, ↓reduceIte, reduceCtorEq, Nat.reduceAdd, Nat.reduceLeDiff]
      refine ⟨turnsL N, List.replicate N.length 0, none, rfl, fun _ h => h, by simp, fun k hk => ?_, rfl⟩
      rw [List.getElem?_replicate, if_pos hk, qh6];exact ⟨by simp, by rw [wT]; simp⟩
     ·rintro I2 m τ ⟨left, R, last, rfl, hsub, hRl, hR, rfl⟩ hI2
      simp only [c66l13, c66r10, go_sem, ↓reduceIte, Nat.reduceAdd, true_implies];refine ⟨fun hnil => ?_, fun l1 e l2 hs => ?_⟩
      ·have hnil : left = [] := by simpa using hnil
       subst hnil
       have hRe : R = natL (wT N state (u + 1)) N.length := by
        apply List.ext_getElem?
        intro k
        by_cases hk : k < N.length
        ·obtain ⟨x, hx⟩ : ∃ x, R[k]? = some x := ⟨_, List.getElem?_eq_getElem (by omega)⟩
         have := (hR k hk).2;rw [hx] at this ⊢;rw [qaK hk];simp only [Option.getD_some, List.map_nil, List.sum_nil, Int.add_zero] at this;rw [this]
        ·rw [List.getElem?_eq_none (by omega), List.getElem?_eq_none (by rw [qah]; omega)]
       subst hRe
       have hrow : rowOf 0 N.length 1 ((natL (wT N state (u + 1)) N.length).map (SV.int .i64)) = some ((natL (wT N state (u + 1)) N.length).map (.int .i64)) := by
        rw [qT (by simp [qah]), List.take_of_length_le (by simp [qah])]
       simp only [c66r14, go_sem, Nat.reduceAdd, true_implies];refine ⟨_, hrow, ?_⟩;simp only [c66r15, benchC, bnV, go_sem, Nat.reduceAdd, Nat.reduceLeDiff, true_implies];refine ⟨qb hf0 (by omega), ?_⟩
       simp only [c66r16, ints, qah, go_sem];intro _
       refine qe (fun m τ => ∃ j : Nat, m = N.length - j /\ j <= N.length /\
        τ = ⟨((.s (benchC s N p))::aN::aN::aN::aN::aN::aN::(.s (ints (natL (wT N state (u + 1)) N.length)))::(aI (fT s N p state (u + 1) * s + wpT N p state (u + 1) j))::aN::aN::aN::aN::aN::aN::aN::aN::aN::aN::aN::aN::aN::aN::aN::aN::(aI plays)::(aI ((u + 1) : Nat))::aN::aN::aN::aN::aN::aN::aN::aN::aN::aN::aN::aN::aN::aN::aN::aN::aN::aN::aN::aN::aN::aN::aN::aN::aN::aN::aN::aN::aN::aN::aN::aN::aN::aN::aN::aN::aN::aN::aN::(.s (ints (natL (wT N state (u + 1)) N.length)))::(aI N.length)::(aI j)::aN::aN::aN::aZ16), [.row ((natL (wT N state 0) N.length).map (.int .i64)), .frz ((natL (wT N state (u + 1)) N.length).map (.int .i64)), .mit [] last]⟩) N.length rfl ?_ ?_
       ·simp only [c66l21m, go_sem, Nat.reduceAdd]
        exact ⟨0, rfl, Nat.zero_le _, by simp [wpT]; exact ⟨rfl, rfl⟩⟩
       ·rintro I2 m τ ⟨j, rfl, hj, rfl⟩ hI2
        simp only [c66l21, c66r17, go_sem, ↓reduceIte, Nat.reduceAdd, true_implies];refine ⟨fun hlt => ?_, fun hge => ?_⟩
        ·have hj : j < N.length := by omega
         obtain ⟨y, hy⟩ : ∃ y, p[j]? = some y := ⟨_, List.getElem?_eq_getElem (by rw [h.pl]; exact hj)⟩
         have hg := qaK (f := wT N state (u + 1)) hj;have hws := qey (N := N) (p := p) (state := state) (t := (u + 1)) (j := j);have hwl := qcw h hst (t := (u + 1)) (j := j + 1) (by omega)
         have hw0 := qbe h.toOkP (state := state) (t := (u + 1)) (j := j);have hm0 := Int.mul_nonneg (qI h.toOkN (state := state) (t := (u + 1)) (k := j)) (qR h.toOkP j).1;rw [hy, Option.getD_some] at hws hm0;simp only [c66r18, ints, hg, c66r19, benchC, bnV, hy, go_sem, Nat.reduceAdd, Nat.reduceLeDiff, true_implies];refine ⟨qb hm0 (by omega), qb (by omega) (by omega), ?_⟩
         simp only [c66r20, c66l21m, go_sem, true_implies];exact ⟨qb (by omega) (by omega), hI2 (N.length - (j + 1)) _ (by omega) ⟨j + 1, rfl, by omega, by rw [hws, <- Int.add_assoc]; rfl⟩⟩
        ·have hje : j = N.length := by omega
         subst hje;simp only [c66r22, c66l23m, go_sem, true_implies];exact ⟨qb (by omega) (by omega), hI (plays - ((u + 1) + 1)) _ (by omega) ⟨(u + 1) + 1, .s (ints (natL (wT N state (u + 1)) N.length)), rfl, by omega, .inr ⟨rfl, by omega⟩, rfl⟩⟩
      ·obtain ⟨L1, L3, rfl, h1, h3⟩ := List.map_eq_append_iff.1 hs
       obtain ⟨z, L2, rfl, h4, h5⟩ := List.map_eq_cons_iff.1 h3;subst h4;have hz := hsub z (by simp)
       obtain ⟨i, k, l, e1, e2, e3⟩ := qaZ.1 (List.mem_filter.1 hz).1;have hin := (List.getElem?_eq_some_iff.1 e2).1
       have hkn : k < N.length := by
        have := (List.getElem?_eq_some_iff.1 e3).1;rw [h.sq l (List.mem_of_getElem? e2)] at this;exact this
       obtain ⟨⟨zi, zk⟩, zv⟩ := z;simp only [Prod.mk.injEq] at e1 e3;obtain ⟨rfl, rfl⟩ := e1;have hgw := qaK (f := wT N state u) hin;obtain ⟨x, hx⟩ : ∃ x, R[k]? = some x := ⟨_, List.getElem?_eq_getElem (by omega)⟩
       have hzv : zv = tn N i k := by unfold tn; rw [e2]; simp [e3]
       have hbz : brg (wT N state u) k (((i : Int), (k : Int)), zv) = wT N state u i * zv := by unfold brg; simp
       have hnn : ∀ (L : List Ent) (q : Nat), (∀ z ∈ L, z ∈ turnsL N) -> 0 <= (L.map (brg (wT N state u) q)).sum := fun L q hL => qC fun y hy => by
        obtain ⟨z, hz, rfl⟩ := List.mem_map.1 hy;obtain ⟨a, b, l', f1, f2, f3⟩ := qaZ.1 (List.mem_filter.1 (hL z hz)).1;unfold brg
        split
        ·exact Int.mul_nonneg (qI h.toOkN) (h.ent l' (List.mem_of_getElem? f2) _ (List.mem_of_getElem? f3)).1
        ·exact Int.le_refl _
       have hsum : ∀ q, ((L1 ++ (((i : Int), (k : Int)), zv) :: L2).map (brg (wT N state u) q)).sum = brg (wT N state u) q (((i : Int), (k : Int)), zv) + ((L1 ++ L2).map (brg (wT N state u) q)).sum := fun q => by
        simp only [List.map_append, List.map_cons, List.sum_append, List.sum_cons]; omega
       have hRk := hR k hkn;rw [hsum, hbz, hx, Option.getD_some] at hRk;have hrest := hnn (L1 ++ L2) k fun z hz => hsub z (by rcases List.mem_append.1 hz with h | h <;> simp [h])
       have hwl := qmm h.s hst (t := u + 1) hkn;have hwp := hp20 (u + 1) (by omega)
       have hm0 : 0 <= wT N state u i * zv := Int.mul_nonneg (qI h.toOkN) (by rw [hzv]; exact h.nn i k)
       have hs3 := spl_row (R := R) (i := k) (x := x + wT N state u i * zv) (by omega)
       subst h1;subst h5;simp only [entS, pr, c66r11, SV.cells, ql, c66r12, Nat.mul_one, Int.toNat_natCast, hx, hgw, ints, hs3, go_sem, Nat.reduceAdd, true_implies];refine ⟨hkn, qb hm0 (by omega), qb (by omega) (by omega), hkn, by omega, ?_⟩
       simp only [c66l13m, go_sem, ↓reduceIte, reduceCtorEq, Nat.reduceLeDiff];refine hI2 (L1 ++ L2).length _ (by simp) ⟨L1 ++ L2, R.set k (x + wT N state u i * zv), some (.agg [.int .i64 i, .int .i64 k], .int .i64 zv), rfl, fun z hz => hsub z (by rcases List.mem_append.1 hz with h | h <;> simp [h]), by rw [List.length_set]; exact hRl, fun q hq => ?_, by rw [List.map_append]; try rfl⟩
       have hRq := hR q hq;rw [hsum] at hRq
       by_cases e : k = q
       ·subst e
        rw [List.getElem?_set_self (by omega), Option.getD_some]
        rw [hbz, hx, Option.getD_some] at hRq;omega
       ·rw [List.getElem?_set_ne e]
        have : brg (wT N state u) q (((i : Int), (k : Int)), zv) = 0 := by unfold brg; rw [if_neg (by simp; omega)]
        omega
   ·have htz : t = 0 := by omega
    subst htz
    have hv : v = .sl 0 0 N.length 1 true := by
     rcases hv with ⟨rfl, _⟩ | ⟨_, h⟩
     ·rfl
     ·omega
    subst hv;simp only [c66r16, go_sem];intro _
    refine qe (fun m τ => ∃ j : Nat, m = N.length - j /\ j <= N.length /\
     τ = ⟨((.s (benchC s N p))::aN::aN::aN::aN::aN::aN::(.sl 0 0 N.length 1 true)::(aI (fT s N p state 0 * s + wpT N p state 0 j))::aN::aN::aN::aN::aN::aN::aN::aN::aN::aN::aN::aN::aN::aN::aN::aN::(aI plays)::(aI (0 : Nat))::aN::aN::aN::aN::aN::aN::aN::aN::aN::aN::aN::aN::aN::aN::aN::aN::aN::aN::aN::aN::aN::aN::aN::aN::aN::aN::aN::aN::aN::aN::aN::aN::aN::aN::aN::aN::aN::aN::aN::(.sl 0 0 N.length 1 true)::(aI N.length)::(aI j)::aN::aN::aN::aZ16), [.row ((natL (wT N state 0) N.length).map (.int .i64))]⟩) N.length rfl ?_ ?_
    ·simp only [c66l21m, go_sem, ↓reduceIte, reduceCtorEq, Nat.reduceLeDiff]
     exact ⟨0, rfl, Nat.zero_le _, by simp [fT, wpT]⟩
    ·rintro I2 m τ ⟨j, rfl, hj, rfl⟩ hI2
     simp only [c66l21, c66r17, go_sem, ↓reduceIte, true_implies];refine ⟨fun hlt => ?_, fun hge => ?_⟩
     ·have hj : j < N.length := by omega
      obtain ⟨y, hy⟩ : ∃ y, p[j]? = some y := ⟨_, List.getElem?_eq_getElem (by rw [h.pl]; exact hj)⟩
      have hg := qaK (f := wT N state 0) hj;have hws := qey (N := N) (p := p) (state := state) (t := 0) (j := j);have hwl := qcw h hst (t := 0) (j := j + 1) (by omega)
      have hw0 := qbe h.toOkP (state := state) (t := 0) (j := j);have hm0 := Int.mul_nonneg (qI h.toOkN (state := state) (t := 0) (k := j)) (qR h.toOkP j).1;rw [hy, Option.getD_some] at hws hm0;simp only [c66r18, ints, Nat.mul_one, hg, c66r19, benchC, bnV, hy, go_sem, Nat.reduceAdd, Nat.reduceLeDiff, true_implies];refine ⟨hj, qb hm0 (by omega), qb (by omega) (by omega), ?_⟩
      simp only [c66r20, c66l21m, go_sem, ↓reduceIte, reduceCtorEq, Nat.reduceLeDiff, true_implies];exact ⟨qb (by omega) (by omega), hI2 (N.length - (j + 1)) _ (by omega) ⟨j + 1, rfl, by omega, by rw [hws, <- Int.add_assoc]; rfl⟩⟩
     ·have hje : j = N.length := by omega
      subst hje;simp only [c66r22, c66l23m, go_sem, ↓reduceIte, reduceCtorEq, Nat.reduceLeDiff, true_implies];exact ⟨qb (by omega) (by omega), hI (plays - (0 + 1)) _ (by omega) ⟨0 + 1, .sl 0 0 N.length 1 true, rfl, by omega, .inl ⟨rfl, by omega⟩, rfl⟩⟩
  ·have hte : t = plays := by omega
   subst hte;simp only [c66r24, go_sem, true_implies]
def firstR (s : Int) (N : List (List Int)) (p : List Int) (state plays : Int) : List SV :=
 if chkM s N p = 0 then (if (0 <= state /\ state < N.length) /\ 0 <= plays /\ plays <= 10 then [rat (lst (fT s N p state.toNat plays.toNat) (s ^ (plays.toNat - 1))), .int .i64 0] else [rat (0, 0), .int .i64 2]) else [rat (0, 0), .int .i64 (chkM s N p)]
theorem qrv {s : Int} {N : List (List Int)} {p : List Int} (h : OkM s N p) {state : Nat} (hs : state < N.length) {t : Nat} (ht : t <= 10) : 0 <= fT s N p state t /\ fT s N p state t <= 11000 * 10240000000000 := by
 refine ⟨(qf7 h hs).1, ?_⟩
 cases t with
 | zero => rw [fT]; decide
 | succ t =>
  have h1 := (qf7 h hs (t := t)).2;have h2 := qdH h.toOkN (t := t)
  have h3 : (20 : Int) ^ t <= 10240000000000 := by
   have := Nat.pow_le_pow_right (show 0 < 20 by decide) (show t <= 10 by omega)
   have h2 : ((20 ^ t : Nat) : Int) <= ((20 ^ 10 : Nat) : Int) := by omega
   simpa using h2
  exact Int.le_trans h1 (Int.mul_le_mul (by omega) (by omega) (by omega) (by decide))
set_option maxHeartbeats 1000000 in
theorem k22 {s : Int} {N : List (List Int)} {p : List Int} {state plays : Int} : E.Fn Tryz.prog 22 [mc s N p, .int .i64 state, .int .i64 plays] (firstR s N p state plays) := by
 refine fn_of_row qqs ?_;have h48 := k49 (s := s) (N := N) (p := p);unfold firstR;unfold openR at h48;simp only [FRow.start, f22, c22r0, c22r1, mc, SV.cells, List.length_cons, List.length_nil, go_sem, Nat.reduceAdd, Nat.reduceSub, true_implies]
 by_cases h0 : chkM s N p = 0
 ·rw [if_pos h0] at h48
  rw [if_pos h0];have h := qH.1 h0;have hn4 := h.n4;refine qa rfl h48 (.inr (.inl rfl)) ?_
  have hin1 : inR .i64 ((N.length : Int) - 1) := qZ (by omega) (by omega)
  have hw1 := qbf (lo := 0) (hi := (N.length : Int) - 1) (x := state);have hw2 := qbf (lo := 0) (hi := 10) (x := plays);simp only [c22r2, c22r4, intss, go_sem, Nat.reduceAdd, Nat.reduceLeDiff, Nat.reduceMul, true_implies];refine ⟨hin1, by decide, by decide, rfl, qr, ?_⟩
  refine qa (by simp only [ints, List.map_cons, List.map_nil, go_sem]) (k50 (lo := 0) (hi := (N.length : Int) - 1) (l := [state])) (.inl rfl) ?_
  by_cases h1 : 0 <= state /\ state < N.length
  ·rw [decide_eq_true (by omega)] at hw1
   simp only [hw1, go_sem, Nat.reduceMul];refine ⟨by decide, by decide, rfl, qr, ?_⟩
   refine qa (by simp only [ints, List.map_cons, List.map_nil, go_sem]) (k50 (lo := 0) (hi := 10) (l := [plays])) (.inl rfl) ?_
   by_cases h2 : 0 <= plays /\ plays <= 10
   ·rw [decide_eq_true (by omega)] at hw2
    rw [if_pos ⟨h1, h2⟩];obtain ⟨st, rfl⟩ : ∃ m : Nat, state = m := ⟨state.toNat, by omega⟩
    obtain ⟨pl, rfl⟩ : ∃ m : Nat, plays = m := ⟨plays.toNat, by omega⟩
    rw [Int.toNat_natCast, Int.toNat_natCast];have h72 := k66 (state := st) (plays := pl) h (by omega) (by omega)
    have hpb := fun t => qdH h.toOkN (t := t)
    have hp20 : ∀ t, t <= 10 -> (20 : Int) ^ t <= 10240000000000 := fun t ht => by
     have := Nat.pow_le_pow_right (show 0 < 20 by decide) ht
     have h2 : ((20 ^ t : Nat) : Int) <= ((20 ^ 10 : Nat) : Int) := by omega
     simpa using h2
    simp only [hw2, c22r6, c22r7, go_sem, true_implies];intro _
    refine qe (fun m τ => ∃ t : Nat, m = pl - t /\ 1 <= t /\ (t <= pl \/ t = 1) /\
     τ = ⟨(aN::(aI st)::(aI pl)::(.s (.ptr [.int .i64 s, intss N, ints p]))::aN::aN::(.loc 0 0)::aN::(.s (benchC s N p))::aN::(aI (s ^ (t - 1)))::(aI t)::aN::aZ40), [.obj [aI 0, aI 0]]⟩) (pl - 1) rfl ?_ ?_
    ·simp only [c22l11m, go_sem, ↓reduceIte, reduceCtorEq, Nat.reduceLeDiff]
     exact ⟨1, rfl, Nat.le_refl _, .inr rfl, by rw [show s ^ (1 - 1) = 1 from Int.pow_zero s]; rfl⟩
    ·rintro I m τ ⟨t, rfl, ht1, ht, rfl⟩ hI
     simp only [c22l11, c22r8, go_sem, ↓reduceIte, true_implies];refine ⟨fun hlt => ?_, fun hge => ?_⟩
     ·have hlt : t < pl := by omega
      have hps : s ^ (t - 1) * s = s ^ (t + 1 - 1) := by rw [<- Int.pow_succ]; congr 1; omega
      have hb1 := hpb (t + 1 - 1);have hb2 := hp20 (t + 1 - 1) (by omega)
      simp only [c22r9, go_sem, Nat.reduceAdd, Nat.reduceLeDiff, true_implies];rw [hps];refine ⟨qb (by omega) (by omega), ?_⟩
      simp only [c22r10, c22l11m, go_sem, ↓reduceIte, reduceCtorEq, Nat.reduceLeDiff, true_implies];exact ⟨qb (by omega) (by omega), hI (pl - (t + 1)) _ (by omega) ⟨t + 1, rfl, by omega, .inl (by omega), rfl⟩⟩
     ·have hte : t - 1 = pl - 1 := by omega
      rw [hte];have hb1 := hpb (pl - 1);have hb2 := hp20 (pl - 1) (by omega)
      have hf := qrv h (state := st) (by omega) (t := pl) (by omega)
      have hk71 := k59 (n := fT s N p st pl) (d := s ^ (pl - 1)) (by omega) (by omega) (by omega)
      simp only [c22r12, go_sem];refine qa (by simp only [benchC, bnV, intss, ints, go_sem]) h72 (.inl rfl) ?_
      simp only [go_sem];refine qa (by simp only [go_sem]) hk71 (.inl rfl) ?_
      simp only [rat, ql, qt, go_sem, Nat.reduceAdd, true_implies]
   ·rw [decide_eq_false (by omega)] at hw2
    rw [if_neg fun h => h2 h.2]
    simp only [hw2, c22r5, rat, ql, qt, go_sem, Nat.reduceAdd, true_implies]
    done
  ·rw [decide_eq_false (by omega)] at hw1
   rw [if_neg fun h => h1 h.1]
   simp only [hw1, c22r5, rat, ql, qt, go_sem, Nat.reduceAdd, true_implies]
   done
 ·rw [if_neg h0] at h48
  rw [if_neg h0];refine qa rfl h48 (.inr (.inl rfl)) ?_
  simp only [h0, c22r2, c22r3, rat, ql, qt, go_sem, Nat.reduceAdd, true_implies]
def fv (far : List Int) (x : Nat) : Int := far[x]?.getD 0
theorem qcy {far : List Int} {k x : Nat} {y : Int} (hk : k < far.length) : fv (far.set k y) x = if k = x then y else fv far x := by
 unfold fv
 by_cases e : k = x
 ·subst e; rw [List.getElem?_set_self hk, if_pos rfl]; rfl
 ·rw [List.getElem?_set_ne e, if_neg e]
structure Pq (g : Nat -> Nat -> Bool) (n c off : Nat) (Q : List Nat) (far : List Int) (d : Nat) : Prop where
  nod : Q.Nodup
  lt : ∀ x ∈ Q, x < n
  hd : Q[0]? = some c
  fl : far.length = n
  neg : ∀ x, x < n -> x ∉ Q -> fv far x = -1
  pos : ∀ (j x : Nat), Q[j]? = some x -> ∃ L : Nat, fv far x = L /\ L <= j /\ Wk g n L c x
  edge : ∀ (j i : Nat), j < off -> Q[j]? = some i -> ∀ k, k < n -> g i k = true -> k ∈ Q /\ (d : Int) ∣ fv far i + 1 - fv far k
  gcd : ∀ e : Nat, (∀ i k, i ∈ Q -> k ∈ Q -> k < n -> g i k = true -> (e : Int) ∣ fv far i + 1 - fv far k) -> e ∣ d
  db : d <= 4
section
variable {g : Nat -> Nat -> Bool} {n c off : Nat} {Q : List Nat} {far : List Int} {d : Nat}
theorem Pq.len (h : Pq g n c off Q far d) : Q.length <= n := by
 have := h.nod.length_le_of_subset (l₂ := List.range n) (fun x hx => List.mem_range.2 (h.lt x hx))
 simpa using this
theorem Pq.fin (h : Pq g n c off Q far d) (hn : n <= 4) {x : Nat} (hx : x ∈ Q) : 0 <= fv far x /\ fv far x <= 3 := by
 obtain ⟨j, hj⟩ := List.mem_iff_getElem?.1 hx;obtain ⟨L, h1, h2, _⟩ := h.pos j x hj;have h3 := (List.getElem?_eq_some_iff.1 hj).1;have h4 := h.len;omega
theorem Pq.add (h : Pq g n c off Q far d) {a k : Nat} (ha : Q[off]? = some a) (hk : k < n) (hg : g a k = true) (hkn : k ∉ Q) : Pq g n c off (Q ++ [k]) (far.set k (fv far a + 1)) d := by
 have hkl : k < far.length := by rw [h.fl]; exact hk
 have same : ∀ x, x ∈ Q -> fv (far.set k (fv far a + 1)) x = fv far x := fun x hx => by
  rw [qcy hkl, if_neg];intro e; subst e; exact hkn hx
 have ham := List.mem_of_getElem? ha;have hoff := (List.getElem?_eq_some_iff.1 ha).1;refine ⟨?_, fun x hx => ?_, ?_, by rw [List.length_set, h.fl], fun x hx hxn => ?_, fun j x hj => ?_, fun j i hj hi x hx hgx => ?_, fun e he => h.gcd e fun i x hi hx hxn hgx => ?_, h.db⟩
 ·rw [List.nodup_append]
  refine ⟨h.nod, by simp, fun x hx y hy e => ?_⟩
  rw [List.mem_singleton] at hy;subst hy; subst e; exact hkn hx
 ·rcases List.mem_append.1 hx with hx | hx
  ·exact h.lt x hx
  ·rw [List.mem_singleton.1 hx]; exact hk
 ·rw [List.getElem?_append_left (by omega)]; exact h.hd
 ·rw [List.mem_append, not_or, List.mem_singleton] at hxn
  rw [qcy hkl, if_neg (fun e => hxn.2 e.symm)]
  exact h.neg x hx hxn.1
 ·by_cases hjl : j < Q.length
  ·rw [List.getElem?_append_left hjl] at hj
   rw [same x (List.mem_of_getElem? hj)];exact h.pos j x hj
  ·have hjl2 := (List.getElem?_eq_some_iff.1 hj).1
   rw [List.length_append, List.length_singleton] at hjl2;have hje : j = Q.length := by omega
   rw [hje, List.getElem?_append_right (Nat.le_refl _), Nat.sub_self] at hj;have hxe : k = x := by simpa using hj
   subst hxe;obtain ⟨L, h1, h2, h3⟩ := h.pos off a ha;refine ⟨L + 1, by rw [qcy hkl, if_pos rfl, h1]; rfl, by omega, .snoc h3 hg hk⟩
 ·rw [List.getElem?_append_left (by omega)] at hi
  obtain ⟨h1, h2⟩ := h.edge j i hj hi x hx hgx;rw [same i (List.mem_of_getElem? hi), same x h1];exact ⟨List.mem_append_left _ h1, h2⟩
 ·have := he i x (List.mem_append_left _ hi) (List.mem_append_left _ hx) hxn hgx
  rwa [same i hi, same x hx] at this
theorem Pq.old (h : Pq g n c off Q far d) (hn : n <= 4) {a k : Nat} (ha : Q[off]? = some a) (hk : k < n) (hg : g a k = true) (hkn : k ∈ Q) : Pq g n c off Q far (Nat.gcd d (fv far a + 1 - fv far k).natAbs) := by
 have hda : ((Nat.gcd d (fv far a + 1 - fv far k).natAbs : Nat) : Int) ∣ (d : Int) := Int.natCast_dvd_natCast.2 (Nat.gcd_dvd_left _ _);have f1 := h.fin hn (List.mem_of_getElem? ha);have f2 := h.fin hn hkn;refine { h with edge := fun j i hj hi x hx hgx => ?_, gcd := fun e he => ?_, db := ?_ }
 ·obtain ⟨h1, h2⟩ := h.edge j i hj hi x hx hgx
  exact ⟨h1, Int.dvd_trans hda h2⟩
 ·refine Nat.dvd_gcd (h.gcd e he) ?_
  exact Int.ofNat_dvd_left.1 (he a k (List.mem_of_getElem? ha) hkn hk hg)
 ·have h1 := h.db
  rcases Nat.eq_zero_or_pos (fv far a + 1 - fv far k).natAbs with h0 | h0
  ·rw [h0, Nat.gcd_zero_right]; exact h1
  ·exact Nat.le_trans (Nat.gcd_le_right _ h0) (by omega)
theorem Pq.next (h : Pq g n c off Q far d) {a : Nat} (ha : Q[off]? = some a) (hp : ∀ k, k < n -> g a k = true -> k ∈ Q /\ (d : Int) ∣ fv far a + 1 - fv far k) : Pq g n c (off + 1) Q far d :=
 ⟨h.nod, h.lt, h.hd, h.fl, h.neg, h.pos, fun j i hj hi x hx hgx => (by
   by_cases e : j = off
   ·rw [e, ha] at hi; cases hi; exact hp x hx hgx
   ·exact h.edge j i (by omega) hi x hx hgx), h.gcd, h.db⟩
theorem Pq.done (h : Pq g n c Q.length Q far d) (hn : n <= 4) (hc : isPC g n c = true) : d = perN g n c := by
 have hcl := qdF hc;have hcn := (qA.1 hc).1.lt;refine qoR (f := fv far) (S := fun x => x ∈ Q) hcn (List.mem_of_getElem? h.hd) ?_ (fun i hi => ?_) (fun i k hi hk hg => ?_) (fun e he => h.gcd e he) (fun k hk => ?_)
 ·obtain ⟨L, h1, h2, _⟩ := h.pos 0 c h.hd
  rw [h1]; omega
 ·obtain ⟨j, hj⟩ := List.mem_iff_getElem?.1 hi
  obtain ⟨L, h1, h2, h3⟩ := h.pos j i hj;have h4 := (List.getElem?_eq_some_iff.1 hj).1;have h5 := h.len;exact ⟨L, h1, by omega, h3⟩
 ·obtain ⟨j, hj⟩ := List.mem_iff_getElem?.1 hi
  exact h.edge j i (List.getElem?_eq_some_iff.1 hj).1 hj k hk hg
 ·obtain ⟨j, hj⟩ := List.mem_iff_getElem?.1 hk
  obtain ⟨L, _, _, h3⟩ := h.pos j k hj
  have hr : Reach g n k c := by
   rcases h3.reach with ⟨_, rfl⟩ | h4
   ·exact (qA.1 hc).1
   ·exact hcl k h4
  obtain ⟨r, r1, r2, r3⟩ := qe5 (qo.1 hr);exact ⟨r, r1, by omega, r3⟩
end
theorem qkN {far : List Int} {x : Nat} (h : x < far.length) : far[x]? = some (fv far x) := by
 unfold fv; rw [List.getElem?_eq_getElem h]; rfl
set_option maxHeartbeats 2000000 in
theorem k55 {s : Int} {N : List (List Int)} {p : List Int} {c : Nat} (h : OkM s N p) (hc : isPC (gr N) N.length c = true) : E.Fn Tryz.prog 55 [benchC s N p, .int .i64 c] [.int .i64 (perN (gr N) N.length c)] := by
 refine fn_of_row qqU ?_;have hn4 := h.n4;have hcn := (qA.1 hc).1.lt;have hm := qbu h.sq;simp only [FRow.start, f55, c55r0, c55r1, benchC, bnV, intss, go_sem, Nat.reduceAdd, Nat.reduceSub, Nat.reduceLT, Nat.reduceLeDiff, true_implies];refine ⟨by omega, by omega, fun _ => ?_⟩
 rw [q7];simp only [c55r2, go_sem];intro _
 refine qe (fun m τ => ∃ i : Nat, m = N.length - i /\ i <= N.length /\
  τ = ⟨((.s (benchC s N p))::(aI c)::aN::aN::aN::(.sl 0 0 N.length 1 true)::aN::aN::aN::aN::aN::aN::aN::aN::aN::aN::aN::aN::aN::(aI N.length)::(aI i)::aN::aZ80), [.row ((List.replicate i (-1) ++ List.replicate (N.length - i) 0).map (.int .i64))]⟩) N.length rfl ?_ ?_
 ·simp only [c55l7m, go_sem, ↓reduceIte, reduceCtorEq, Nat.reduceLeDiff, Int.reduceNeg]
  exact ⟨0, rfl, Nat.zero_le _, rfl⟩
 ·rintro I m τ ⟨i, rfl, hi, rfl⟩ hI
  simp only [c55l7, c55r3, go_sem, ↓reduceIte, Int.reduceNeg, true_implies];refine ⟨fun hlt => ?_, fun hge => ?_⟩
  ·have hlt : i < N.length := by omega
   have hs1 := spl_row (R := List.replicate i (-1) ++ List.replicate (N.length - i) 0) (i := i) (x := -1) (by simp; omega)
   have hset : (List.replicate i (-1 : Int) ++ List.replicate (N.length - i) 0).set i (-1) = List.replicate (i + 1) (-1) ++ List.replicate (N.length - (i + 1)) 0 := by
    rw [List.set_append_right _ _ (by simp), List.length_replicate, Nat.sub_self, show N.length - i = (N.length - (i + 1)) + 1 by omega, List.replicate_succ, List.set_cons_zero, List.replicate_succ', List.append_assoc]; rfl
   rw [hset] at hs1;simp only [c55r4, c55r5, Nat.mul_one, hs1, go_sem, Int.reduceNeg, true_implies];refine ⟨hlt, by simp; omega, ?_⟩
   simp only [c55r6, c55l7m, go_sem, ↓reduceIte, reduceCtorEq, Nat.reduceLeDiff, Int.reduceNeg, true_implies];exact ⟨qb (by omega) (by omega), hI (N.length - (i + 1)) _ (by omega) ⟨i + 1, rfl, by omega, rfl⟩⟩
  ·have hie : i = N.length := by omega
   subst hie;rw [Nat.sub_self, List.replicate_zero, List.append_nil];have hs1 := spl_row (R := List.replicate N.length (-1)) (i := c) (x := 0) (by simpa using hcn)
   obtain ⟨far0, hfar0⟩ : ∃ far0, far0 = (List.replicate N.length (-1 : Int)).set c 0 := ⟨_, rfl⟩;rw [<- hfar0] at hs1
   have hp0 : Pq (gr N) N.length c 0 [c] far0 0 := by
    have hfv : ∀ x, x < N.length -> fv far0 x = if c = x then 0 else -1 := fun x hx => by
     rw [hfar0, qcy (by simpa using hcn)]
     split
     ·rfl
     ·unfold fv; rw [List.getElem?_replicate, if_pos hx]; rfl
    refine ⟨by simp, fun x hx => by rw [List.mem_singleton.1 hx]; exact hcn, rfl, by rw [hfar0]; simp, fun x hx hxn => ?_, fun j x hj => ?_, fun j i hj => absurd hj (Nat.not_lt_zero _), fun e _ => Nat.dvd_zero e, by decide⟩
    ·rw [hfv x hx, if_neg]
     intro e; exact hxn (by simp [e])
    ·match j, hj with
     | 0, hj =>
      have hx : c = x := by simpa using hj
      subst hx;exact ⟨0, by rw [hfv c hcn, if_pos rfl]; rfl, Nat.le_refl _, .nil⟩
     | j + 1, hj => simp at hj
   clear hI I;simp only [c55r8, Nat.mul_one, hs1, c55r9, c55r10, go_sem, Nat.reduceAdd, Nat.reduceLT, Int.reduceNeg, true_implies];refine ⟨hcn, by simp; omega, by decide, by decide, rfl, qr, ?_⟩
   refine qe (fun m τ => ∃ (off o d : Nat) (Q : List Nat) (R far : List Int), m = N.length + 1 - off /\ off <= Q.length /\ Pq (gr N) N.length c off Q far d /\ R.drop o = (nats Q).drop off /\ o + (Q.length - off) = R.length /\
    τ = ⟨((.s (benchC s N p))::aN::aN::aN::aN::(.sl 0 0 N.length 1 true)::aN::(.sl 1 o (Q.length - off) 1 false)::(aI d)::aN::aN::aN::aN::aN::aZ88), [.row (far.map (.int .i64)), .row (R.map (.int .i64))]⟩) (N.length + 1) (qen rfl) ?_ ?_
   ·simp only [c55l24m, go_sem, ↓reduceIte, reduceCtorEq, Nat.reduceAdd, Nat.reduceLeDiff]
    exact ⟨0, 0, 0, [c], [(c : Int)], far0, rfl, Nat.zero_le _, hp0, rfl, rfl, rfl⟩
   ·rintro I m τ ⟨off, o, d, Q, R, far, rfl, hoff, hP, hR, hRl, rfl⟩ hI
    have hQl := hP.len;simp only [c55l24, c55r11, go_sem, ↓reduceIte, Nat.reduceAdd];intro _;refine ⟨fun hlt => ?_, fun hge => ?_⟩
    ·have hlt : off < Q.length := by omega
     obtain ⟨a, ha⟩ : ∃ a, Q[off]? = some a := ⟨_, List.getElem?_eq_getElem hlt⟩;have han := hP.lt a (List.mem_of_getElem? ha)
     have hxm : R[o]? = some (a : Int) := by
      have h9 := congrArg (·[0]?) hR;simp only [List.getElem?_drop, Nat.add_zero] at h9;rw [h9]; unfold nats; rw [List.getElem?_map, ha]; rfl
     have hRd : R.drop (o + 1) = (nats Q).drop (off + 1) := by
      have h9 := congrArg (List.drop 1) hR;rw [List.drop_drop, List.drop_drop] at h9;exact h9
     have hpos : (0 : Int) < ((Q.length - off : Nat) : Int) := by omega
     simp only [c55r12, Nat.add_zero, hxm, hpos, c55r13, c55r14, benchC, bnV, intss, go_sem, ↓reduceIte, Nat.reduceAdd, Nat.reduceLeDiff, Int.reduceLE, Int.reduceToNat, Nat.reduceMul, true_implies];refine ⟨by omega, fun _ => ?_⟩
     rw [show Q.length - off - 1 = Q.length - (off + 1) by omega]
     refine qe (fun m τ => ∃ (k o d : Nat) (Q : List Nat) (R far : List Int), m = N.length - k /\ k <= N.length /\ off < Q.length /\ Q[off]? = some a /\ Pq (gr N) N.length c off Q far d /\ (∀ k', k' < k -> gr N a k' = true -> k' ∈ Q /\ (d : Int) ∣ fv far a + 1 - fv far k') /\ R.drop o = (nats Q).drop (off + 1) /\ o + (Q.length - (off + 1)) = R.length /\
      τ = ⟨((.s (benchC s N p))::aN::aN::aN::aN::(.sl 0 0 N.length 1 true)::aN::(.sl 1 o (Q.length - (off + 1)) 1 false)::(aI d)::(aI a)::aN::aN::aN::aN::aN::aN::aN::aN::aN::aN::aN::aN::aN::aN::aN::aN::aN::aN::aN::aN::aN::aN::aN::aN::aN::aN::aN::aN::aN::aN::aN::aN::aN::aN::aN::(aI N.length)::(aI k)::aN::aN::aN::aN::aN::aN::aN::aZ48), [.row (far.map (.int .i64)), .row (R.map (.int .i64))]⟩) N.length (qen rfl) ?_ ?_
     ·simp only [c55l23m, go_sem, ↓reduceIte, reduceCtorEq, Nat.reduceAdd, Nat.reduceLeDiff]
      exact ⟨0, o + 1, d, Q, R, far, rfl, Nat.zero_le _, hlt, ha, hP, fun k' h => absurd h (Nat.not_lt_zero _), hRd, by omega, rfl⟩
     ·clear hP hR hRl hxm hRd hQl ha hlt hoff
      rintro I2 m τ ⟨k, o, d, Q, R, far, rfl, hk, hlt, ha, hP, hpart, hR, hRl, rfl⟩ hI2;have hQl := hP.len;simp only [c55l23, c55r15, go_sem, ↓reduceIte, Nat.reduceAdd, true_implies];refine ⟨fun hlt2 => ?_, fun hge => ?_⟩
      ·have hk : k < N.length := by omega
       have hgk : gr N a k = decide (0 < tn N a k) := rfl;have htn := h.tn a k;have hfl := hP.fl;have hfa := hP.fin hn4 (List.mem_of_getElem? ha);have hga := qkN (far := far) (x := a) (by omega)
       have hgk2 := qkN (far := far) (x := k) (by omega)
       simp only [c55r16, c55r17, benchC, bnV, go_sem, ↓reduceIte, Nat.reduceAdd, Nat.reduceLeDiff, true_implies];refine ⟨hm.key a k han hk, hm.nod, hm.look han hk ?_⟩
       by_cases hT : tn N a k = 0
       ·have hg0 : gr N a k = false := by rw [hgk]; exact decide_eq_false (by omega)
        simp only [hT, c55r22, c55l23m, go_sem, ↓reduceIte, reduceCtorEq, Nat.reduceAdd, Nat.reduceLeDiff, true_implies];exact ⟨qb (by omega) (by omega), hI2 (N.length - (k + 1)) _ (by omega) ⟨k + 1, o, d, Q, R, far, rfl, by omega, hlt, ha, hP, fun k' h1 h2 => if e : k' = k then absurd (by rw [e, hg0] at h2; exact h2) (by simp) else hpart k' (by omega) h2, hR, hRl, rfl⟩⟩
       ·have hg1 : gr N a k = true := by rw [hgk]; exact decide_eq_true (by omega)
        simp only [hT, c55r18, Nat.mul_one, hgk2, go_sem, Nat.reduceAdd, true_implies];refine ⟨hk, ?_⟩
        by_cases hkq : k ∈ Q
        ·have hfk := hP.fin hn4 hkq
         have hP2 := hP.old hn4 ha hk hg1 hkq;have hdd : ((Nat.gcd d (fv far a + 1 - fv far k).natAbs : Nat) : Int) ∣ (d : Int) := Int.natCast_dvd_natCast.2 (Nat.gcd_dvd_left _ _);have hnd : ((Nat.gcd d (fv far a + 1 - fv far k).natAbs : Nat) : Int) ∣ fv far a + 1 - fv far k := Int.dvd_trans (Int.natCast_dvd_natCast.2 (Nat.gcd_dvd_right _ _)) (Int.natAbs_dvd.2 (Int.dvd_refl _));have hneg : ¬ fv far k < 0 := by omega
         have hmx : maxL [fv far a + 1 - fv far k, fv far k - fv far a - 1] = ((fv far a + 1 - fv far k).natAbs : Int) := by
          simp only [maxL, List.foldl_cons, List.foldl_nil]
          split <;> omega
         have hk89 := k97 (fv far a + 1 - fv far k).natAbs d (by have := hP.db; omega) (by omega)
         simp only [hneg, c55r21, Nat.mul_one, hga, hgk2, go_sem, false_implies, true_implies, not_false_eq_true];refine ⟨han, qZ (by omega) (by omega), hk, qZ (by omega) (by omega), hk, han, qZ (by omega) (by omega), qZ (by omega) (by omega), by simp, ?_⟩
         rw [hmx];refine qa (by simp only [go_sem]) hk89 (.inl rfl) ?_
         simp only [c55r22, c55l23m, go_sem, ↓reduceIte, reduceCtorEq, Nat.reduceAdd, Nat.reduceLeDiff, true_implies];exact ⟨qb (by omega) (by omega), hI2 (N.length - (k + 1)) _ (by omega) ⟨k + 1, o, Nat.gcd d (fv far a + 1 - fv far k).natAbs, Q, R, far, rfl, by omega, hlt, ha, hP2, fun k' h1 h2 => if e : k' = k then by rw [e]; exact ⟨hkq, hnd⟩ else ⟨(hpart k' (by omega) h2).1, Int.dvd_trans hdd (hpart k' (by omega) h2).2⟩, hR, hRl, rfl⟩⟩
        ·have hfk := hP.neg k hk hkq
         have hneg : fv far k < 0 := by omega
         have hP2 := hP.add ha hk hg1 hkq;have hs1 := spl_row (R := far) (i := k) (x := fv far a + 1) (by omega)
         have haq := List.mem_of_getElem? ha;have hak : k ≠ a := fun e => hkq (e ▸ haq)
         have e3 : (R.map (SV.int .i64)).drop o ++ flatE [SV.int .i64 (k : Int)] = (R.drop o ++ [(k : Int)]).map (SV.int .i64) := by rw [List.map_append, List.map_drop]; rfl
         simp only [hneg, c55r19, Nat.mul_one, hga, hs1, go_sem, Nat.reduceAdd, not_true_eq_false, false_implies, true_implies];refine ⟨han, qb (by omega) (by omega), hk, by omega, ?_⟩
         simp only [c55r20, Nat.reduceBEq, Bool.false_eq_true, go_sem, ↓reduceIte, Nat.reduceAdd, Nat.reduceLeDiff, Nat.reduceMul, true_implies];refine ⟨by decide, by decide, rfl, qr, qr, by rw [Nat.mul_one]; omega, by omega, by omega, ?_⟩
         rw [e3]
         have hsame : ∀ x, x ∈ Q -> fv (far.set k (fv far a + 1)) x = fv far x := fun x hx => by
          rw [qcy (by omega), if_neg]
          intro e; subst e; exact hkq hx
         simp only [c55r22, c55l23m, go_sem, ↓reduceIte, reduceCtorEq, Nat.reduceLeDiff, true_implies];refine ⟨qb (by omega) (by omega), hI2 (N.length - (k + 1)) _ (by omega) ⟨k + 1, 0, d, Q ++ [k], R.drop o ++ [(k : Int)], far.set k (fv far a + 1), rfl, by omega, by rw [List.length_append]; omega, by rw [List.getElem?_append_left (by omega)]; exact ha, hP2, fun k' h1 h2 => ?_, ?_, ?_, ?_⟩⟩
         ·rw [hsame a haq]
          by_cases e : k' = k
          ·rw [e]
           refine ⟨by simp, ?_⟩
           rw [qcy (by omega), if_pos rfl, Int.sub_self]
           exact Int.dvd_zero _
          ·have h9 := hpart k' (by omega) h2
           rw [hsame k' h9.1];exact ⟨List.mem_append_left _ h9.1, h9.2⟩
         ·rw [List.drop_zero, hR]
          unfold nats;rw [List.map_append, List.drop_append_of_le_length (by rw [List.length_map]; omega)]; rfl
         ·rw [List.length_append, List.length_append, List.length_drop, List.length_singleton, List.length_singleton]; omega
         ·rw [List.length_append, List.length_singleton, show Q.length + 1 - (off + 1) = Q.length - (off + 1) + 1 by omega]; rfl
      ·have hke : k = N.length := by omega
       subst hke;simp only [c55l24m, go_sem, ↓reduceIte, reduceCtorEq, Nat.reduceLeDiff];exact hI (N.length + 1 - (off + 1)) _ (by omega) ⟨off + 1, o, d, Q, R, far, rfl, by omega, hP.next ha fun k hk hg => hpart k hk hg, hR, hRl, rfl⟩
    ·have hoe : off = Q.length := by omega
     subst hoe;rw [hP.done hn4 hc];simp only [c55r25, go_sem, true_implies]
     done
def partC (N : List (List Int)) (m : Nat) : Nat := ((((parts N)[m]?).getD [])[0]?.getD 0).toNat
theorem ql2 {N : List (List Int)} {m : Nat} (hm : m < (parts N).length) : isPC (gr N) N.length (partC N m) = true /\ (parts N)[m]? = some (rchC (gr N) N.length (partC N m)) := by
 have h1 := List.getElem?_eq_getElem hm;obtain ⟨x, hx⟩ : ∃ x, x = (parts N)[m] := ⟨_, rfl⟩;have hmem : x ∈ parts N := by rw [hx]; exact List.getElem_mem hm
 rw [<- hx] at h1;unfold parts partsC at hmem;obtain ⟨c, hc, rfl⟩ := List.mem_map.1 hmem;obtain ⟨l, hl⟩ := qdL (List.mem_filter.1 hc).2
 have hpc : partC N m = c := by
  unfold partC;rw [h1, Option.getD_some, hl, List.getElem?_cons_zero, Option.getD_some, Int.toNat_natCast]
 rw [hpc];exact ⟨(List.mem_filter.1 hc).2, h1⟩
def perR (s : Int) (N : List (List Int)) (p : List Int) (part : Int) : List SV :=
 if chkM s N p = 0 then (if 0 <= part /\ part < (parts N).length then [.int .i64 (perN (gr N) N.length (partC N part.toNat)), .int .i64 0] else [.int .i64 0, .int .i64 2]) else [.int .i64 0, .int .i64 (chkM s N p)]
theorem k15 {s : Int} {N : List (List Int)} {p : List Int} {part : Int} : E.Fn Tryz.prog 15 [mc s N p, .int .i64 part] (perR s N p part) := by
 refine fn_of_row qqo ?_;have h48 := k49 (s := s) (N := N) (p := p);unfold perR;unfold openR at h48;simp only [FRow.start, f15, c15r0, c15r1, mc, SV.cells, List.length_cons, List.length_nil, go_sem, Nat.reduceAdd, Nat.reduceSub, true_implies]
 by_cases h0 : chkM s N p = 0
 ·rw [if_pos h0] at h48
  rw [if_pos h0];have h := qH.1 h0;have hn4 := h.n4;have hpl := qb5 (N := N);refine qa rfl h48 (.inr (.inl rfl)) ?_
  have hw1 := qbf (lo := 0) (hi := ((parts N).length : Int) - 1) (x := part);simp only [c15r2, c15r4, benchC, bnV, intss, go_sem, Nat.reduceAdd, Nat.reduceLeDiff, Nat.reduceMul, true_implies];refine ⟨qZ (by omega) (by omega), by decide, by decide, rfl, qr, ?_⟩
  refine qa (by simp only [ints, List.map_cons, List.map_nil, go_sem]) (k50 (lo := 0) (hi := ((parts N).length : Int) - 1) (l := [part])) (.inl rfl) ?_
  by_cases h1 : 0 <= part /\ part < (parts N).length
  ·rw [decide_eq_true (by omega)] at hw1
   rw [if_pos h1];obtain ⟨m, rfl⟩ : ∃ m : Nat, part = m := ⟨part.toNat, by omega⟩
   rw [Int.toNat_natCast];have hml : m < (parts N).length := by omega
   obtain ⟨hpc, hpe⟩ := ql2 hml;obtain ⟨l, hl⟩ := qdL hpc;rw [hl] at hpe;have h69 := k55 h hpc;simp only [hw1, c15r6, hpe, go_sem, Nat.reduceAdd, Nat.reduceLeDiff];intro _;simp only [ints, List.map_cons, go_sem, Int.reduceToNat];refine qa (by simp only [ints, benchC, bnV, intss, go_sem]) h69 (.inl rfl) ?_
   simp only [go_sem, true_implies]
  ·rw [decide_eq_false (by omega)] at hw1
   rw [if_neg h1];simp only [hw1, c15r5, go_sem, true_implies]
 ·rw [if_neg h0] at h48
  rw [if_neg h0];refine qa rfl h48 (.inr (.inl rfl)) ?_
  simp only [h0, c15r2, c15r3, go_sem, true_implies]
theorem k36 {l : List Int} : E.Fn Tryz.prog 36 [ints l] [ints l] := by
 refine fn_of_row qmg ?_;simp only [FRow.start, f36, c36r0, c36r1, ints, go_sem, Nat.reduceSub, true_implies]
theorem k47 {l : List Int} : E.Fn Tryz.prog 47 [ints l] [ints l] := by
 refine fn_of_row qqN ?_;simp only [FRow.start, f47, c47r0, c47r1, ints, go_sem, Nat.reduceSub, true_implies]
theorem k48 {a b : Int} : E.Fn Tryz.prog 48 [.int .i64 a, .int .i64 b] [rat (a, b)] := by
 refine fn_of_row qqO ?_;simp only [FRow.start, f48, c48r0, c48r1, ql, qt, rat, go_sem, ↓reduceIte, Nat.reduceAdd, Nat.reduceSub, Nat.reduceLeDiff, true_implies]
theorem k43 {d g : Int} {hs : List Int} : E.Fn Tryz.prog 43 [.int .i64 d, .int .i64 g, ints hs] [prV d g hs] := by
 refine fn_of_row qqJ ?_;simp only [FRow.start, f43, c43r0, c43r1, ints, splice, prV, go_sem, ↓reduceIte, Nat.reduceAdd, Nat.reduceSub, Nat.reduceLeDiff, true_implies]
theorem k37 {s : Int} {N : List (List Int)} {p : List Int} : E.Fn Tryz.prog 37 [mc s N p] [.bool (!greatB N p && decide (chkM s N p = 0))] := by
 refine fn_of_row qqD ?_;simp only [FRow.start, f37, c37r0, c37r1, mc, SV.cells, go_sem, Nat.reduceAdd, Nat.reduceSub, true_implies];refine qa rfl (k11 (s := s) (N := N) (p := p)) (.inl rfl) ?_
 cases hg : greatB N p with
 | true => simp only [go_sem, true_implies]; rfl
 | false =>
  simp only [go_sem, Nat.reduceAdd];refine qa rfl (k52 (s := s) (N := N) (p := p)) (.inl rfl) ?_
  simp only [go_sem, true_implies];rfl
def smallB (q : Int × Int) : Bool := decide (1 <= q.2 /\ q.2 <= 32000 /\ 0 <= q.1 /\ q.1 <= 1000 * q.2) && decide (Nat.gcd q.1.toNat q.2.toNat = 1)
theorem qbE {q : Int × Int} : smallB q = true ↔ (1 <= q.2 /\ q.2 <= 32000 /\ 0 <= q.1 /\ q.1 <= 1000 * q.2) /\ Nat.gcd q.1.toNat q.2.toNat = 1 := by
 unfold smallB; rw [Bool.and_eq_true, decide_eq_true_eq, decide_eq_true_eq]
theorem qca {q : Int × Int} (h : ¬ (1 <= q.2 /\ q.2 <= 32000 /\ 0 <= q.1 /\ q.1 <= 1000 * q.2)) : smallB q = false := by
 unfold smallB; rw [decide_eq_false h]; rfl
theorem k77 {q : Int × Int} : E.Fn Tryz.prog 77 [rat q] [.bool (smallB q)] := by
 refine fn_of_row qq8 ?_;obtain ⟨n, d⟩ := q;simp only [FRow.start, f77, c77r0, c77r1, rat, go_sem, Nat.reduceAdd, Nat.reduceSub, Nat.reduceLeDiff, true_implies];refine ⟨fun h1 => ?_, fun h1 => ⟨fun h2 => ?_, fun h2 => ⟨fun h3 => ?_, fun h3 => ?_⟩⟩⟩
 ·rw [qca (by simp only; omega)]
  simp only [c77r2, go_sem, true_implies]
 ·rw [qca (by simp only; omega)]
  simp only [c77r2, go_sem, true_implies]
 ·rw [qca (by simp only; omega)]
  simp only [c77r2, go_sem, true_implies]
 ·refine ⟨qb (by omega) (by omega), fun h4 => ?_, fun h4 => ?_⟩
  ·rw [qca (by simp only; omega)]
   simp only [c77r2, go_sem, true_implies]
  ·obtain ⟨a, rfl⟩ : ∃ a : Nat, n = a := ⟨n.toNat, by omega⟩
   obtain ⟨b, rfl⟩ : ∃ b : Nat, d = b := ⟨d.toNat, by omega⟩
   have hk := k34 b a (by omega) (by omega)
   have hb : smallB ((a : Int), (b : Int)) = decide (((a.gcd b : Nat) : Int) = 1) := by
    rw [Bool.eq_iff_iff, qbE, decide_eq_true_eq];simp only [Int.toNat_natCast];omega
   rw [hb];simp only [c77r3, go_sem, Nat.reduceAdd, Nat.reduceLeDiff];refine qa (by simp only [go_sem]) hk (.inl rfl) ?_
   simp only [go_sem, true_implies]
def payB (s : Int) (N : List (List Int)) (p : List Int) : List SV :=
 if setE s N p = 0 then [rat (paysQ s N p), .bool (smallB (paysQ s N p))] else [rat (0, 0), .bool false]
theorem k27 {s : Int} {N : List (List Int)} {p : List Int} : E.Fn Tryz.prog 27 [mc s N p] (payB s N p) := by
 refine fn_of_row qqv ?_;have h25 := k19 (s := s) (N := N) (p := p);unfold payB;unfold paysR at h25;simp only [FRow.start, f27, c27r0, c27r1, mc, SV.cells, go_sem, Nat.reduceAdd, Nat.reduceSub, true_implies]
 by_cases h0 : setE s N p = 0
 ·rw [if_pos h0] at h25 ⊢
  refine qa rfl h25 (.inl rfl) ?_
  simp only [rat, ql, c27r2, go_sem, Nat.reduceAdd, true_implies];refine qa (by simp only [rat, go_sem]) (k77 (q := paysQ s N p)) (.inl rfl) ?_
  simp only [ql, qt, go_sem, Nat.reduceAdd, true_implies]
 ·rw [if_neg h0] at h25 ⊢
  refine qa rfl h25 (.inl rfl) ?_
  simp only [rat, ql, c27r2, h0, qt, go_sem, Nat.reduceAdd, true_implies]
theorem k80 {s : Int} {N : List (List Int)} {p : List Int} (hp : 0 < p.length) (hN : ∀ l ∈ N, l.length = p.length) (hl : N.length <= 100) (hp2 : p.length <= 100) : E.Fn Tryz.prog 80 [.int .i64 s, ints p, ints N.flatten] [mc s N p] := by
 refine fn_of_row qrb ?_
 have hfl : N.flatten.length = N.length * p.length := by
  clear hl
  induction N with
  | nil => simp
  | cons a N ih =>
   rw [List.flatten_cons, List.length_append, ih fun l h => hN l (List.mem_cons_of_mem _ h), hN a (by simp), List.length_cons, Nat.succ_mul, Nat.add_comm]
 have hdt : ∀ i l, N[i]? = some l -> (N.flatten.take (i * p.length + p.length)).drop (i * p.length) = l := by
  clear hfl hl
  induction N with
  | nil => intro i l h; cases h
  | cons a N ih =>
   intro i l h;have ha := hN a (by simp)
   cases i with
   | zero =>
    simp only [List.getElem?_cons_zero, Option.some.injEq] at h;subst h;rw [Nat.zero_mul, Nat.zero_add, List.drop_zero, List.flatten_cons, <- ha, List.take_left]
   | succ i =>
    have := ih (fun l h => hN l (List.mem_cons_of_mem _ h)) i l (by simpa using h)
    rw [List.flatten_cons, show (i + 1) * p.length + p.length = a.length + (i * p.length + p.length) by rw [Nat.succ_mul]; omega, List.take_length_add_append, show (i + 1) * p.length = a.length + i * p.length by rw [Nat.succ_mul]; omega, List.drop_length_add_append]
    exact this
 have hpi : (0 : Int) < p.length := by omega
 have hnp : N.length * p.length <= 100 * 100 := Nat.mul_le_mul hl hp2;simp only [FRow.start, f80, c80r0, c80r1, c80r2, ints, splice, go_sem, ↓reduceIte, Nat.reduceAdd, Nat.reduceSub, Nat.reduceLeDiff, true_implies]
 refine qe (fun n τ => ∃ i : Nat, n = N.length - i /\ i <= N.length /\
  τ = ⟨(aN::(.s (ints p))::(.s (ints N.flatten))::aN::aN::aN::(.loc 0 0)::(.loc 1 0)::(aI ((i * p.length : Nat) : Int))::aZ32), [.obj [aI 0, .full [], .full []], .obj [aI s, .sl 2 0 i 1 false, .s (ints p)], .row ((N.take i).map ints)]⟩) N.length (qec rfl rfl rfl) ?_ ?_
 ·simp only [c80l6m, go_sem, ↓reduceIte, reduceCtorEq, Nat.reduceAdd, Nat.reduceLeDiff]
  exact ⟨0, rfl, Nat.zero_le _, by rw [Nat.zero_mul]; rfl⟩
 ·rintro I n τ ⟨i, rfl, hi, rfl⟩ hI
  have hip : i * p.length <= N.length * p.length := Nat.mul_le_mul_right _ hi;have hsucc : (i + 1) * p.length = i * p.length + p.length := Nat.succ_mul _ _;simp only [c80l6, c80r3, ints, go_sem, ↓reduceIte, Nat.reduceAdd];refine ⟨qb (by omega) (by omega), fun hle _ => ⟨fun _ => ?_, fun h => absurd hpi h⟩, fun hgt => ?_⟩
  ·have hlt : i < N.length := Nat.lt_of_mul_lt_mul_right (a := p.length) (by omega)
   have hx : N[i]? = some N[i] := List.getElem?_eq_getElem hlt;have hd := hdt i _ hx;have hts : N.take (i + 1) = N.take i ++ [N[i]] := by rw [List.take_succ, hx]; rfl
   generalize N[i] = l at hx hd hts;have e1 : ((i * p.length : Nat) : Int) + (p.length : Nat) = ((i * p.length + p.length : Nat) : Int) := rfl;simp only [c80r4, splice, e1, Nat.reduceBEq, Bool.false_eq_true, go_sem, ↓reduceIte, Nat.reduceAdd, Nat.reduceLeDiff, Nat.reduceMul];refine ⟨qb (by omega) (by omega), ?_⟩
   have hd2 : ((N.flatten.map (SV.int .i64)).drop (i * p.length)).take (i * p.length + p.length - i * p.length) = l.map (.int .i64) := by
    rw [<- hd, List.drop_take, List.map_take, List.map_drop]
   rw [hd2]
   have e3 : (N.take i).map ints ++ flatE [SV.slice (l.map (.int .i64))] = (N.take (i + 1)).map ints := by
    rw [hts, List.map_append]; rfl
   refine ⟨by omega, by omega, ?_, by decide, by decide, rfl, qaU rfl, qaU rfl, by rw [List.length_take]; omega, by omega, by omega, fun _ => ?_⟩
   ·exact .inr fun e he => by obtain ⟨x, _, rfl⟩ := List.mem_map.1 he; rfl
   rw [e3];simp only [c80r5, c80l6m, go_sem, ↓reduceIte, reduceCtorEq, Nat.reduceLeDiff];refine ⟨qb (by omega) (by omega), fun _ => hI (N.length - (i + 1)) _ (by omega) ⟨i + 1, rfl, by omega, by rw [hsucc]; rfl⟩⟩
  ·have hie : i = N.length := by
    rcases Nat.lt_or_ge i N.length with h | h
    ·have := Nat.mul_le_mul_right p.length (show i + 1 <= N.length from h)
     omega
    ·omega
   subst hie;rw [List.take_length];simp only [c80r7, splice, qaC, mc, go_sem, Nat.reduceAdd, true_implies];exact fun _ => rfl
def mW : SV := mc 4 [[3, 1], [2, 2]] [0, 6]
def mX : SV := mc 2 [[0, 1, 1], [0, 2, 0], [0, 0, 2]] [1, 0, 4]
def mY : SV := mc 1 [[0, 1], [1, 0]] [1, 3]
def mR : SV := mc 4 [[2, 1], [1, 1]] [0, 6]
theorem qM {xs : List Int} : ∀ x ∈ xs.map (SV.int .i64), x.cells.length = 1 := by
 intro x hx;obtain ⟨y, _, rfl⟩ := List.mem_map.1 hx;rfl
theorem k38 : E.Fn Tryz.prog 38 [] [mW] := by
 refine fn_of_row qqE ?_;simp only [FRow.start, f38, c38r0, c38r1, go_sem, Nat.reduceSub, Nat.reduceMul, true_implies];refine ⟨by decide, by decide, rfl, qM (xs := [0, 6]), ?_⟩
 refine qa rfl (k36 (l := [0, 6])) (.inr (.inl rfl)) ?_;simp only [ints, go_sem, Nat.reduceMul];refine ⟨by decide, by decide, rfl, qM (xs := [3, 1, 2, 2]), ?_⟩
 refine qa rfl (k80 (s := 4) (N := [[3, 1], [2, 2]]) (p := [0, 6]) (by decide) (by decide) (by decide) (by decide)) (.inr (.inl rfl)) ?_
 simp only [mW, mc, intss, ints, SV.cells, splice, go_sem, Nat.reduceAdd, true_implies]
theorem k39 : E.Fn Tryz.prog 39 [] [mX] := by
 refine fn_of_row qqF ?_;simp only [FRow.start, f39, c39r0, c39r1, go_sem, Nat.reduceSub, Nat.reduceMul, true_implies];refine ⟨by decide, by decide, rfl, qM (xs := [1, 0, 4]), ?_⟩
 refine qa rfl (k36 (l := [1, 0, 4])) (.inr (.inl rfl)) ?_;simp only [ints, go_sem, Nat.reduceMul];refine ⟨by decide, by decide, rfl, qM (xs := [0, 1, 1, 0, 2, 0, 0, 0, 2]), ?_⟩
 refine qa rfl (k80 (s := 2) (N := [[0, 1, 1], [0, 2, 0], [0, 0, 2]]) (p := [1, 0, 4]) (by decide) (by decide) (by decide) (by decide)) (.inr (.inl rfl)) ?_
 simp only [mX, mc, intss, ints, SV.cells, splice, go_sem, Nat.reduceAdd, true_implies]
theorem k40 : E.Fn Tryz.prog 40 [] [mY] := by
 refine fn_of_row qqG ?_;simp only [FRow.start, f40, c40r0, c40r1, go_sem, Nat.reduceSub, Nat.reduceMul, true_implies];refine ⟨by decide, by decide, rfl, qM (xs := [1, 3]), ?_⟩
 refine qa rfl (k36 (l := [1, 3])) (.inr (.inl rfl)) ?_;simp only [ints, go_sem, Nat.reduceMul];refine ⟨by decide, by decide, rfl, qM (xs := [0, 1, 1, 0]), ?_⟩
 refine qa rfl (k80 (s := 1) (N := [[0, 1], [1, 0]]) (p := [1, 3]) (by decide) (by decide) (by decide) (by decide)) (.inr (.inl rfl)) ?_
 simp only [mY, mc, intss, ints, SV.cells, splice, go_sem, Nat.reduceAdd, true_implies]
theorem k41 : E.Fn Tryz.prog 41 [] [mR] := by
 refine fn_of_row qqH ?_;simp only [FRow.start, f41, c41r0, c41r1, go_sem, Nat.reduceSub, Nat.reduceMul, true_implies];refine ⟨by decide, by decide, rfl, qM (xs := [0, 6]), ?_⟩
 refine qa rfl (k36 (l := [0, 6])) (.inr (.inl rfl)) ?_;simp only [ints, go_sem, Nat.reduceMul];refine ⟨by decide, by decide, rfl, qM (xs := [2, 1, 1, 1]), ?_⟩
 refine qa rfl (k80 (s := 4) (N := [[2, 1], [1, 1]]) (p := [0, 6]) (by decide) (by decide) (by decide) (by decide)) (.inr (.inl rfl)) ?_
 simp only [mR, mc, intss, ints, SV.cells, splice, go_sem, Nat.reduceAdd, true_implies]
def nW : List (List Int) := [[3, 1], [2, 2]]
def nX : List (List Int) := [[0, 1, 1], [0, 2, 0], [0, 0, 2]]
def nY : List (List Int) := [[0, 1], [1, 0]]
def nR : List (List Int) := [[2, 1], [1, 1]]
theorem qW0 : chkM 4 nW [0, 6] = 0 := by decide +kernel
theorem qX0 : chkM 2 nX [1, 0, 4] = 0 := by decide +kernel
theorem qY0 : chkM 1 nY [1, 3] = 0 := by decide +kernel
theorem qR0 : chkR 4 nR [0, 6] = 0 := by decide +kernel
theorem qR1 : chkM 4 nR [0, 6] = 14 := by decide +kernel
theorem qX1 : parts nX = [[1], [2]] := by decide +kernel
theorem qY1 : parts nY = [[0, 1]] := by decide +kernel
theorem qW2 : setE 4 nW [0, 6] = 0 := by decide +kernel
theorem qX2 : setE 2 nX [1, 0, 4] = 17 := by decide +kernel
theorem qX3 : landsQ 2 nX 0 [1] = (1, 2) := by decide +kernel
theorem qW4 : sharesQ 4 nW = [(2, 3), (1, 3)] := by decide +kernel
theorem qW5 : paysQ 4 nW [0, 6] = (2, 1) := by decide +kernel
theorem qW6 : ckP 4 nW [0, 6] 1 2 [0, 8] = (3, 0) := by decide +kernel
theorem qW7 : ckP 4 nW [0, 6] 1 3 [0, 8] = (1, 0) := by decide +kernel
theorem qW8 : ckP 4 nW [0, 6] 1 2 [0, 0] = (0, 14) := by decide +kernel
theorem qW9 : ckP 4 nW [0, 6] (prfD 4 nW (fst0 nW)) (prfG 4 nW [0, 6] (fst0 nW)) (prfH 4 nW [0, 6] (fst0 nW)) = (3, 0) := by decide +kernel
theorem qW10 : lst (fT 4 nW [0, 6] 0 3) (4 ^ 2) = (27, 8) := by decide +kernel
theorem qR11 : bestQ lessQ (payL 4 nR [0, 6]) = (3, 2) := by decide +kernel
theorem qR12 : bestQ moreQ (payL 4 nR [0, 6]) = (4, 1) := by decide +kernel
theorem w0 : E.Fn Tryz.prog 42 [mW] [.int .i64 0] := by
 have h := k42 (s := 4) (N := nW) (p := [0, 6]);rw [qW2] at h;exact h
theorem w1 : E.Fn Tryz.prog 42 [mX] [.int .i64 17] := by
 have h := k42 (s := 2) (N := nX) (p := [1, 0, 4]);rw [qX2] at h;exact h
theorem w2 : E.Fn Tryz.prog 33 [mX] [intss [[1], [2]], .int .i64 0] := by
 have h := k33 (s := 2) (N := nX) (p := [1, 0, 4]);unfold partsR at h;rw [if_pos qX0, qX1] at h;exact h
theorem w3 : E.Fn Tryz.prog 13 [mX, .int .i64 0, .int .i64 0] [rat (1, 2), .int .i64 0] := by
 have h := k13 (s := 2) (N := nX) (p := [1, 0, 4]) (state := 0) (part := 0);unfold landsR at h;rw [if_pos qX0, qX1, if_pos (by decide)] at h
 rw [show landsQ 2 nX 0 ((([[1], [2]] : List (List Int))[(0 : Int).toNat]?).getD []) = (1, 2) from qX3] at h;exact h
theorem w4 : E.Fn Tryz.prog 13 [mX, .int .i64 0, .int .i64 2] [rat (0, 0), .int .i64 2] := by
 have h := k13 (s := 2) (N := nX) (p := [1, 0, 4]) (state := 0) (part := 2);unfold landsR at h;rw [if_pos qX0, qX1, if_neg (by decide)] at h
 exact h
theorem w5 : E.Fn Tryz.prog 15 [mY, .int .i64 0] [.int .i64 2, .int .i64 0] := by
 have h := k15 (s := 1) (N := nY) (p := [1, 3]) (part := 0);unfold perR at h;rw [if_pos qY0, qY1, if_pos (by decide)] at h
 rw [show perN (gr nY) nY.length (partC nY (0 : Int).toNat) = 2 from by decide +kernel] at h
 exact h
theorem w6 : E.Fn Tryz.prog 17 [mW] [rats [(2, 3), (1, 3)], .int .i64 0] := by
 have h := k17 (s := 4) (N := nW) (p := [0, 6]);unfold sharesR at h;rw [if_pos qW2, qW4] at h;exact h
theorem w7 : E.Fn Tryz.prog 19 [mW] [rat (2, 1), .int .i64 0] := by
 have h := k19 (s := 4) (N := nW) (p := [0, 6]);unfold paysR at h;rw [if_pos qW2, qW5] at h;exact h
theorem w8 : E.Fn Tryz.prog 19 [mX] [rat (0, 0), .int .i64 17] := by
 have h := k19 (s := 2) (N := nX) (p := [1, 0, 4]);unfold paysR at h;rw [qX2, if_neg (by decide)] at h
 exact h
theorem w9 : E.Fn Tryz.prog 29 [mW, prV 1 2 [0, 8]] [.int .i64 3, .int .i64 0] := by
 have h := k29 (s := 4) (N := nW) (p := [0, 6]) (d := 1) (g := 2) (hs := [0, 8]);rw [qW6] at h;exact h
theorem w10 : E.Fn Tryz.prog 29 [mW, prV 1 3 [0, 8]] [.int .i64 1, .int .i64 0] := by
 have h := k29 (s := 4) (N := nW) (p := [0, 6]) (d := 1) (g := 3) (hs := [0, 8]);rw [qW7] at h;exact h
theorem w11 : E.Fn Tryz.prog 29 [mW, prV 1 2 [0, 0]] [.int .i64 0, .int .i64 14] := by
 have h := k29 (s := 4) (N := nW) (p := [0, 6]) (d := 1) (g := 2) (hs := [0, 0]);rw [qW8] at h;exact h
theorem w12 : E.Fn Tryz.prog 28 [mW] [prV (prfD 4 nW (fst0 nW)) (prfG 4 nW [0, 6] (fst0 nW)) (prfH 4 nW [0, 6] (fst0 nW)), .int .i64 0] := by
 have h := k28 (s := 4) (N := nW) (p := [0, 6]);unfold proofR at h;rw [if_pos qW2] at h;exact h
theorem w13 : E.Fn Tryz.prog 22 [mW, .int .i64 0, .int .i64 3] [rat (27, 8), .int .i64 0] := by
 have h := k22 (s := 4) (N := nW) (p := [0, 6]) (state := 0) (plays := 3);unfold firstR at h;rw [if_pos qW0, if_pos (by decide), show lst (fT 4 nW [0, 6] (0 : Int).toNat (3 : Int).toNat) (4 ^ ((3 : Int).toNat - 1)) = (27, 8) from qW10] at h
 exact h
theorem w14 : E.Fn Tryz.prog 22 [mW, .int .i64 0, .int .i64 11] [rat (0, 0), .int .i64 2] := by
 have h := k22 (s := 4) (N := nW) (p := [0, 6]) (state := 0) (plays := 11);unfold firstR at h;rw [if_pos qW0, if_neg (by decide)] at h
 exact h
theorem w15 : E.Fn Tryz.prog 44 [mR] [.int .i64 0] := by
 have h := k44 (s := 4) (N := nR) (p := [0, 6]);rw [qR0] at h;exact h
theorem w16 : E.Fn Tryz.prog 45 [mR] [.int .i64 14] := by
 have h := k45 (s := 4) (N := nR) (p := [0, 6]);rw [qR1] at h;exact h
theorem w17 : E.Fn Tryz.prog 24 [mR] [rat (3, 2), rat (4, 1), .int .i64 0] := by
 have h := k24 (s := 4) (N := nR) (p := [0, 6]);unfold betR at h;rw [if_pos qR0, qR11, qR12] at h;exact h
theorem w18 : E.Fn Tryz.prog 30 [mW, prV (prfD 4 nW (fst0 nW)) (prfG 4 nW [0, 6] (fst0 nW)) (prfH 4 nW [0, 6] (fst0 nW))] [.int .i64 3, .int .i64 0] := by
 have h := k30 (s := 4) (N := nW) (p := [0, 6]) (d := prfD 4 nW (fst0 nW)) (g := prfG 4 nW [0, 6] (fst0 nW)) (hs := prfH 4 nW [0, 6] (fst0 nW));rw [qW9] at h;exact h
theorem w19 : E.Fn Tryz.prog 46 [intss [[1], [2]], intss [[1], [2]]] [.bool true] := k46 (xs := [[1], [2]]) (ys := [[1], [2]])
theorem w20 : E.Fn Tryz.prog 21 [rats [(2, 3), (1, 3)], rats [(2, 3), (1, 3)]] [.bool true] := k21 (xs := [(2, 3), (1, 3)]) (ys := [(2, 3), (1, 3)])
set_option maxHeartbeats 4000000 in
theorem ql3 : E.Fn Tryz.prog 12 [] [.bool true] := by
 refine fn_of_row qqm ?_;have e43 : ∀ {a b : Int} {l : List Int}, E.Fn Tryz.prog 43 [.int .i64 a, .int .i64 b, ints l] [prV a b l] := k43;simp only [FRow.start, f12, c12r0, c12r1, go_sem, Nat.reduceSub, true_implies];refine qa rfl k38 (.inr (.inl rfl)) ?_;simp only [go_sem];refine qa rfl k39 (.inr (.inl rfl)) ?_;simp only [go_sem];refine qa rfl k40 (.inr (.inl rfl)) ?_;simp only [go_sem];refine qa rfl k41 (.inr (.inl rfl)) ?_;simp only [mW, mX, mY, mR, mc, SV.cells, splice, go_sem, Nat.reduceAdd, true_implies];simp only [c12r2, go_sem, Nat.reduceAdd];refine qa rfl w0 (.inl rfl) ?_;simp only [go_sem, Nat.reduceAdd];refine qa rfl w1 (.inl rfl) ?_;simp only [c12r3, go_sem, Nat.reduceAdd, true_implies];refine qa rfl w2 (.inr (.inl rfl)) ?_;simp only [c12r4, go_sem, Nat.reduceAdd, true_implies];refine qa rfl w3 (.inl rfl) ?_;simp only [rat, splice, go_sem, Nat.reduceAdd, true_implies];simp only [c12r5, go_sem, Nat.reduceAdd];refine qa rfl w4 (.inl rfl) ?_;simp only [rat, splice, go_sem, Nat.reduceAdd, true_implies];simp only [c12r6, go_sem, Nat.reduceAdd];refine qa rfl w5 (.inl rfl) ?_;simp only [c12r7, go_sem, Nat.reduceAdd, true_implies];refine qa rfl w6 (.inr (.inl rfl)) ?_;simp only [c12r8, go_sem, Nat.reduceAdd, true_implies];refine qa rfl w7 (.inl rfl) ?_;simp only [rat, splice, c12r9, go_sem, Nat.reduceAdd, true_implies];refine qa rfl w8 (.inl rfl) ?_;simp only [rat, splice, c12r10, go_sem, Nat.reduceAdd, Nat.reduceMul, true_implies];refine ⟨by decide, by decide, rfl, qM (xs := [0, 8]), ?_⟩
 refine qa rfl (e43 (a := 1) (b := 2) (l := [0, 8])) (.inr (.inl rfl)) ?_;simp only [go_sem];refine qa rfl w9 (.inl rfl) ?_;simp only [c12r11, go_sem, Nat.reduceAdd, Nat.reduceMul, true_implies];refine ⟨by decide, by decide, rfl, qM (xs := [0, 8]), ?_⟩
 refine qa rfl (e43 (a := 1) (b := 3) (l := [0, 8])) (.inr (.inl rfl)) ?_;simp only [go_sem];refine qa rfl w10 (.inl rfl) ?_;simp only [c12r12, go_sem, Nat.reduceAdd, Nat.reduceMul, true_implies];refine ⟨by decide, by decide, rfl, qM (xs := [0, 0]), ?_⟩
 refine qa rfl (e43 (a := 1) (b := 2) (l := [0, 0])) (.inr (.inl rfl)) ?_;simp only [go_sem];refine qa rfl w11 (.inl rfl) ?_;simp only [c12r13, go_sem, Nat.reduceAdd, true_implies];refine qa rfl w12 (.inr (.inl rfl)) ?_;simp only [prV, SV.cells, splice, c12r14, go_sem, Nat.reduceAdd, true_implies];refine qa rfl w13 (.inl rfl) ?_;simp only [rat, splice, c12r15, go_sem, Nat.reduceAdd, true_implies];refine qa rfl w14 (.inl rfl) ?_;simp only [rat, splice, c12r16, go_sem, Nat.reduceAdd, true_implies];refine qa rfl w15 (.inl rfl) ?_;simp only [go_sem, Nat.reduceAdd];refine qa rfl w16 (.inl rfl) ?_;simp only [c12r17, go_sem, Nat.reduceAdd, true_implies];refine qa rfl w17 (.inl rfl) ?_;simp only [rat, splice, c12r18, c12r20, go_sem, Nat.reduceAdd, true_implies];refine qa rfl w18 (.inl rfl) ?_;simp only [c12r21, go_sem, Nat.reduceAdd, Nat.reduceMul, true_implies];refine ⟨by decide, by decide, rfl, qM (xs := [1]), ?_⟩
 refine qa rfl (k47 (l := [1])) (.inr (.inl rfl)) ?_;simp only [go_sem, Nat.reduceMul];refine ⟨by decide, by decide, rfl, qM (xs := [2]), ?_⟩
 refine qa rfl (k47 (l := [2])) (.inr (.inl rfl)) ?_;simp only [go_sem, Nat.reduceMul];refine ⟨by decide, by decide, rfl, by intro e he; simp only [List.mem_cons, List.not_mem_nil, or_false] at he; rcases he with rfl | rfl <;> rfl, ?_⟩
 refine qa rfl w19 (.inl rfl) ?_;simp only [go_sem, Nat.reduceAdd];refine qa rfl (k48 (a := 1) (b := 2)) (.inl rfl) ?_;simp only [rat, go_sem];refine qa rfl (k48 (a := 2) (b := 3)) (.inl rfl) ?_;simp only [rat, go_sem];refine qa rfl (k48 (a := 1) (b := 3)) (.inl rfl) ?_;simp only [rat, go_sem, Nat.reduceAdd, Nat.reduceMul];refine ⟨by decide, by decide, rfl, by intro e he; simp only [List.mem_cons, List.not_mem_nil, or_false] at he; rcases he with rfl | rfl <;> rfl, ?_⟩
 refine qa rfl w20 (.inl rfl) ?_;simp only [go_sem, Nat.reduceAdd];refine qa rfl (k48 (a := 2) (b := 1)) (.inl rfl) ?_;simp only [rat, go_sem, Nat.reduceAdd];refine qa rfl (k48 (a := 27) (b := 8)) (.inl rfl) ?_;simp only [rat, go_sem, Nat.reduceAdd];refine qa rfl (k48 (a := 3) (b := 2)) (.inl rfl) ?_;simp only [rat, go_sem, Nat.reduceAdd];refine qa rfl (k48 (a := 4) (b := 1)) (.inl rfl) ?_;simp only [rat, go_sem, true_implies]
 done
theorem wk {H : List ABlock} {k : AK} (hk : k (LV.ofResults [.bool true]) H none True) : callK Tryz.prog H 12 [] k := qa rfl ql3 (.inl rfl) hk
end Go.Proofs.YtikfhfgdmlijeaaGreat.Sk
namespace Go.Proofs.YtikfhfgdmlijeaaGreat.Sk
open Go Go.E Go.Deep
def memOf (w : World) : Mem := ⟨fun b o => w.cell? ⟨b, o, Option.none⟩, fun _ => Option.none⟩
theorem memOf_holds (w : World) : E.Holds (memOf w) w := ⟨fun _ _ _ h => h, fun _ _ h => (by cases h)⟩
theorem qg9 {α β : Type} {f : α -> Option β} : ∀ (l : List α) (ys : List β), l.mapM f = some ys -> ys.length = l.length /\ ∀ (i : Nat) x, l[i]? = some x -> ∃ y, f x = some y /\ ys[i]? = some y
 | [], ys, h => by
  simp only [List.mapM_nil, Option.pure_def, Option.some.injEq] at h;subst h;simp
 | x :: l, ys, h => by
  simp only [List.mapM_cons, Option.pure_def, Option.bind_eq_bind, Option.bind_eq_some_iff, Option.some.injEq] at h;obtain ⟨y, h1, zs, h2, rfl⟩ := h;have ih := qg9 l zs h2;refine ⟨by simp [ih.1], fun i x' hx => ?_⟩
  cases i with
  | zero => simp only [List.getElem?_cons_zero, Option.some.injEq] at hx; subst hx; exact ⟨y, h1, rfl⟩
  | succ i => simp only [List.getElem?_cons_succ] at hx ⊢; exact ih.2 i x' hx
theorem qha {w : World} {base n : Nat} {a : Addr} {us : List Value} (h : w.cells? base a n = some us) : us.length = n /\ (memOf w).At a.block a.off us /\ (0 < n -> a.spot = Option.none) := by
 unfold World.cells? at h
 split at h
 ·obtain ⟨h1, h2⟩ := qg9 _ _ h
  simp only [List.length_range] at h1
  have h3 : ∀ i, i < n -> w.cell? (a.add i) = us[i]? := fun i hi => by
   obtain ⟨y, h4, h5⟩ := h2 i i (by rw [List.getElem?_range hi])
   rw [h4, h5]
  have hsp : 0 < n -> a.spot = Option.none := fun h0 => by
   have h4 := h3 0 h0;rw [List.getElem?_eq_getElem (by omega)] at h4
   unfold World.cell? at h4;simp only [Addr.add, if_true] at h4
   split at h4
   ·split at h4
    ·cases h4
    ·rename_i hn; simpa using hn
   ·cases h4
  refine ⟨h1, fun j v hv => ?_, hsp⟩
  have hj : j < n := by have := (List.getElem?_eq_some_iff.1 hv).1; omega
  have h4 := h3 j hj;rw [hv] at h4;simp only [memOf];have h5 := hsp (by omega)
  unfold Addr.add at h4
  split at h4
  ·rename_i h6; subst h6
   rw [Nat.add_zero, <- h4]
   congr 1
   cases a
   simp_all
  ·exact h4
 ·cases h
theorem qkO {M : Mem} {b o : Nat} {us vs : List Value} (h : M.At b o us) (k : M.At b (o + us.length) vs) : M.At b o (us ++ vs) := fun j v hv => by
 rw [List.getElem?_append] at hv
 split at hv
 ·exact h j v hv
 ·have := k _ v hv
  rw [show o + us.length + (j - us.length) = o + j by omega] at this
  exact this
theorem qhb {α : Type} {M : Mem} {e : α -> SV} {G : α -> Prop} {b sz : Nat} : ∀ (n o : Nat), (∀ i, i < n -> ∃ a us, us.length = sz /\ M.At b (o + i * sz) us /\ CRel M (e a) us /\ G a) ->
  ∃ (vs : List α) (uss : List (List Value)), vs.length = n /\ CRelC M (vs.map e) uss /\ (∀ u ∈ uss, u.length = sz) /\ M.At b o uss.flatten /\ ∀ a ∈ vs, G a
 | 0, o, _ => ⟨[], [], rfl, rfl, by simp, fun j v hv => (by simp at hv), by simp⟩
 | n + 1, o, h => by
  obtain ⟨a, us, h1, h2, h3, h4⟩ := h 0 (by omega)
  obtain ⟨vs, uss, k1, k2, k3, k4, k5⟩ := qhb n (o + sz) fun i hi => by
   obtain ⟨a, us, h1, h2, h3, h4⟩ := h (i + 1) (by omega)
   exact ⟨a, us, h1, by rw [Nat.succ_mul] at h2; rw [show o + sz + i * sz = o + (i * sz + sz) by omega]; exact h2, h3, h4⟩
  refine ⟨a :: vs, us :: uss, by simp [k1], ⟨us, uss, rfl, h3, k2⟩, ?_, ?_, ?_⟩
  ·intro u hu
   rcases List.mem_cons.1 hu with rfl | hu
   ·exact h1
   ·exact k3 u hu
  ·rw [List.flatten_cons]
   exact qkO (by simpa using h2) (by rw [h1]; exact k4)
  ·intro x hx
   rcases List.mem_cons.1 hx with rfl | hx
   ·exact h4
   ·exact k5 x hx
section
variable {H : Type} {enc : TypeId × Value -> H} {P : Program} {w : World} {base : Nat} {sp : Nat -> Bool} {held : Bool} {fuel : Nat} {t et : TypeId} {cs : List Value} {x : DataW H × List MemPlace}
theorem trodAll_lt : ∀ {ts : List TypeId} {vs : List Value} {ds : List (DataW H)} {ps : List MemPlace}, DataW.TrodAll enc P w base sp held ts vs ds ps -> ∀ p ∈ ps, p.block < w.heap.size
 | [], _, _, _, h => by
  obtain ⟨rfl, rfl, rfl⟩ := ChangeShapes.trodAll_nil h;simp
 | t :: ts, _, _, _, h => by
  obtain ⟨v, vs, d, ds, p, q, rfl, rfl, rfl, ⟨fuel, h1⟩, h2⟩ := ChangeShapes.trodAll_cons h;intro y hy
  rcases List.mem_append.1 hy with hy | hy
  ·exact DataW.trod_lt _ _ _ _ h1 y hy
  ·exact trodAll_lt h2 y hy
theorem qe8 {k : IntKind} (ht : P.underlying t = some (.int k)) (h : DataW.trod enc P w base sp held fuel t cs = some x) : ∃ n : Int, CRel (memOf w) (.int k n) cs /\ (Lit.int k n).wf = true := by
 obtain ⟨n, rfl, _, hw⟩ := DataW.trod_int ht h;exact ⟨n, rfl, hw⟩
theorem qfV (a : Addr) (n : Nat) : (a.add n).block = a.block /\ (a.add n).off = a.off + n := by
 unfold Addr.add
 split
 ·rename_i h; subst h; exact ⟨rfl, rfl⟩
 ·exact ⟨rfl, rfl⟩
theorem qfW {α : Type} {e : α -> SV} {G : α -> Prop} (ht : P.underlying t = some (.slice et)) (hz : 0 < P.cellsOf et)
  (hel : ∀ (n : Nat) (us : List Value) (y : DataW H × List MemPlace), us.length = P.cellsOf et -> DataW.trod enc P w base sp held n et us = some y -> ∃ a, CRel (memOf w) (e a) us /\ G a)
  (h : DataW.trod enc P w base sp held fuel t cs = some x) : ∃ l : List α, CRel (memOf w) (.slice (l.map e)) cs /\ ∀ a ∈ l, G a := by
 rcases DataW.trod_slice ht h with ⟨rfl, _⟩ | ⟨a, len, cap, elems, rest, n, _, rfl, _, _, hl, hc, hlen, hE, _⟩
 ·exact ⟨[], by simp only [CRel]; exact ⟨Option.none, 0, 0, rfl, rfl, Nat.le_refl _, Nat.zero_le _, .inl rfl⟩, by simp⟩
 ·by_cases h0 : len = 0
  ·subst h0
   exact ⟨[], by simp only [CRel]; exact ⟨_, 0, cap, rfl, rfl, hl, hc, .inl rfl⟩, by simp⟩
  ·have hrow : ∀ i, i < len -> ∃ us y, w.cells? base (a.add (i * P.cellsOf et)) (P.cellsOf et) = some us /\ DataW.trod enc P w base sp held n et us = some y := fun i hi => by
    have h1 := hE i hi;rw [List.getElem?_eq_getElem (by omega)] at h1
    simp only [Option.bind_eq_some_iff] at h1;obtain ⟨us, h2, h3⟩ := h1;exact ⟨us, _, h2, h3⟩
   have hsp : a.spot = Option.none := by
    obtain ⟨us, y, h1, _⟩ := hrow 0 (by omega)
    have := (qha h1).2.2 hz
    simpa [Addr.add] using this
   obtain ⟨vs, uss, k1, k2, k3, k4, k5⟩ := qhb (M := memOf w) (e := e) (G := G) (b := a.block) (sz := P.cellsOf et) len a.off fun i hi => by
    obtain ⟨us, y, h1, h2⟩ := hrow i hi;obtain ⟨h3, h4, _⟩ := qha h1;obtain ⟨v, h5, h6⟩ := hel n us y h3 h2;rw [(qfV a _).1, (qfV a _).2] at h4;exact ⟨v, us, h3, h4, h5, h6⟩
   refine ⟨vs, ?_, k5⟩;simp only [CRel];exact ⟨_, len, cap, rfl, by simp [k1], hl, hc, .inr ⟨a.block, a.off, P.cellsOf et, uss, by cases a; simp_all, k2, k3, k4⟩⟩
theorem vrel_agg {M : Mem} {v : SV} {c : Array Value} (h : CRel M v c.toList) (hv : v.isAgg = true) : VRel M v (.agg c) := ⟨c.toList, h, by simp [SV.mk, hv]⟩
end
section
variable {H : Type} {enc : TypeId × Value -> H} {w : World} {sp : Nat -> Bool} {held : Bool} {fuel : Nat} {cs : List Value} {x : DataW H × List MemPlace}
theorem rel_u8 {n : Int} (h : DataW.trod enc Tryz.prog w 0 sp held fuel 5 [.int .u8 n] = some x) : 0 <= n /\ n < 256 := by
 obtain ⟨m, hc, hw⟩ := qe8 Tryz.underlying5 h;simp only [CRel, List.cons.injEq, Value.int.injEq, true_and, and_true] at hc;subst hc;simp only [Lit.wf, Bool.and_eq_true, decide_eq_true_eq] at hw;exact ⟨hw.1, by have := hw.2; simp [IntKind.max, IntKind.signed, IntKind.bits] at this; omega⟩
theorem qhc (h : DataW.trod enc Tryz.prog w 0 sp held fuel 23 cs = some x) : ∃ l : List Int, CRel (memOf w) (ints l) cs := by
 obtain ⟨l, h1, _⟩ := qfW (e := .int .i64) (G := fun _ => True) Tryz.underlying23 (by rw [show Tryz.prog.cellsOf _ = 1 from by kernel_rfl]; exact Nat.one_pos) (fun n us y _ hy => by obtain ⟨m, hm, _⟩ := qe8 Tryz.underlying2 hy; exact ⟨m, hm, trivial⟩) h
 exact ⟨l, h1⟩
theorem qkP (h : DataW.trod enc Tryz.prog w 0 sp held fuel 22 cs = some x) : ∃ l : List (List Int), CRel (memOf w) (intss l) cs := by
 obtain ⟨l, h1, _⟩ := qfW (e := ints) (G := fun _ => True) Tryz.underlying22 (by rw [show Tryz.prog.cellsOf _ = 1 from by kernel_rfl]; exact Nat.one_pos) (fun n us y _ hy => by obtain ⟨m, hm⟩ := qhc hy; exact ⟨m, hm, trivial⟩) h
 exact ⟨l, h1⟩
set_option maxRecDepth 100000 in
theorem rel_mach (h : DataW.trod enc Tryz.prog w 0 sp held fuel 25 cs = some x) : ∃ s N p, CRel (memOf w) (mc s N p) cs := by
 obtain ⟨y0, y1, y2, m, _, hl, h0, h1, h2⟩ := trod_struct3 Tryz.underlying25 h;have hc : Tryz.prog.cellsOf 25 = 3 := by kernel_rfl
 have hc2 : Tryz.prog.cellsOf 2 = 1 := by kernel_rfl
 have hc22 : Tryz.prog.cellsOf 22 = 1 := by kernel_rfl
 have hc23 : Tryz.prog.cellsOf 23 = 1 := by kernel_rfl
 rw [hc] at hl
 match cs, hl with
 | [c0, c1, c2], _ =>
  simp only [hc2, hc22, hc23, List.drop_zero, List.drop_succ_cons, List.take_succ_cons, List.take_zero] at h0 h1 h2;obtain ⟨s, r0, _⟩ := qe8 Tryz.underlying2 h0;obtain ⟨N, r1⟩ := qkP h1;obtain ⟨p, r2⟩ := qhc h2;exact ⟨s, N, p, by simp only [mc, CRel]; exact ⟨_, _, rfl, r0, _, _, rfl, r1, _, _, rfl, r2, rfl⟩⟩
end
end Go.Proofs.YtikfhfgdmlijeaaGreat.Sk
namespace Go.Proofs.YtikfhfgdmlijeaaGreat.Sk
theorem qbw {k n d : Int} (hk : 0 < k) : lst (k * n) (k * d) = lst n d := by
 have hg : gcdN (k * n) (k * d) = k.natAbs * gcdN n d := by
  unfold gcdN; rw [Int.natAbs_mul, Int.natAbs_mul, Nat.gcd_mul_left]
 unfold lst;rw [hg, Int.natCast_mul, Int.natAbs_of_nonneg (Int.le_of_lt hk), Int.mul_tdiv_mul_of_pos _ _ hk, Int.mul_tdiv_mul_of_pos _ _ hk]
theorem qfX {n d n' d' : Int} (hd : 0 < d) (hd' : 0 < d') (h : n * d' = n' * d) : lst n d = lst n' d' := by
 rw [<- qbw hd' (n := n) (d := d), <- qbw hd (n := n') (d := d'), Int.mul_comm d' n, h, Int.mul_comm d n', Int.mul_comm d' d]
theorem qdM {n d : Int} (hd : 0 < d) : ∃ g : Int, 0 < g /\ n = (lst n d).1 * g /\ d = (lst n d).2 * g := by
 have hg : 0 < gcdN n d := Nat.gcd_pos_of_pos_right _ (by omega)
 refine ⟨gcdN n d, by omega, ?_, ?_⟩
 ·have h : ((gcdN n d : Nat) : Int) ∣ n := Int.dvd_natAbs.1 (Int.natCast_dvd_natCast.2 (Nat.gcd_dvd_left _ _))
  exact (Int.tdiv_mul_cancel h).symm
 ·have h : ((gcdN n d : Nat) : Int) ∣ d := Int.dvd_natAbs.1 (Int.natCast_dvd_natCast.2 (Nat.gcd_dvd_right _ _))
  exact (Int.tdiv_mul_cancel h).symm
theorem qdN {n d : Int} (hd : 0 < d) : (lst n d).1 * d = n * (lst n d).2 := by
 obtain ⟨g, _, h1, h2⟩ := qdM hd (n := n);generalize lst n d = q at *;rw [h1, h2]; grind
theorem qdZ {n d : Int} (hd : 0 < d) : 0 < (lst n d).2 := (qdK hd).2.1
theorem qie {n d : Int} (hd : 0 < d) : Nat.gcd (lst n d).1.natAbs (lst n d).2.natAbs = 1 := by
 unfold lst;simp only;rw [Int.natAbs_tdiv, Int.natAbs_tdiv, Int.natAbs_natCast];unfold gcdN;exact (Nat.gcd_div (Nat.gcd_dvd_left n.natAbs d.natAbs) (Nat.gcd_dvd_right n.natAbs d.natAbs)).trans (Nat.div_self (Nat.gcd_pos_of_pos_right _ (by omega)))
theorem qnM {T P D m : Int} (hD : 0 < D) : lst ((lst T D).1 * (lst P D).2 + m * (lst P D).1 * (lst T D).2) ((lst T D).2 * (lst P D).2) = lst (T + m * P) D := by
 have h1 := qdN hD (n := T);have h2 := qdN hD (n := P);have h3 := qdZ hD (n := T);have h4 := qdZ hD (n := P);refine qfX (Int.mul_pos h3 h4) hD ?_;generalize lst T D = a at *;generalize lst P D = b at *
 grind
theorem qcY {n d : Int} (hd : 0 < d) (hn : 0 <= n) : 0 <= (lst n d).1 := by
 obtain ⟨g, hg, h1, _⟩ := qdM hd (n := n);generalize lst n d = q at *
 by_cases h : q.1 < 0
 ·have := Int.mul_neg_of_neg_of_pos h hg
  omega
 ·omega
theorem qcZ {n d c : Int} (hd : 0 < d) (h : n <= c * d) : (lst n d).1 <= c * (lst n d).2 := by
 obtain ⟨g, hg, h1, h2⟩ := qdM hd (n := n);generalize lst n d = q at *;refine Int.le_of_mul_le_mul_right (a := g) ?_ hg;have e : c * q.2 * g = c * d := by rw [h2, Int.mul_assoc]
 rw [<- h1, e]; exact h
theorem ql4 {d : Int} (hd : 0 < d) : lst d d = (1, 1) := by
 have h := qbw hd (n := 1) (d := 1);rw [Int.mul_one] at h;rw [h]; rfl
theorem qnN {f g : Nat -> Int} {l : List Nat} : (l.map fun k => f k + g k).sum = (l.map f).sum + (l.map g).sum := by
 induction l with
 | nil => rfl
 | cons x l ih => simp only [List.map_cons, List.sum_cons]; rw [ih]; omega
section
variable {s : Int} {N : List (List Int)} {p : List Int} {c : Nat}
end
section
variable {s : Int} {N : List (List Int)} {p : List Int} {d g : Int} {hs : List Int}
end
end Go.Proofs.YtikfhfgdmlijeaaGreat.Sk
namespace Go.Proofs.YtikfhfgdmlijeaaGreat.Sk
open Go Go.E Go.E.Sm
set_option maxRecDepth 10000
theorem qfY {s : Int} {N : List (List Int)} {p : List Int} (h : OkM s N p) (hS : (parts N).length <= 1) : smallB (paysQ s N p) = true := by
 have hd := qaJ h hS;have h3 := qa1 h.s;have h5 : 0 <= gainN s N p := qbd h (Nat.le_refl _);have h6 := qdW h;unfold paysQ;have h1 := qdK hd (n := gainN s N p);have h2 := qcY hd h5;have h7 := qcZ hd h6;have h4 := qie hd (n := gainN s N p);rw [qbE];refine ⟨⟨by omega, by omega, h2, h7⟩, ?_⟩
 rw [show (lst (gainN s N p) (rootsN s N).sum).1.toNat = (lst (gainN s N p) (rootsN s N).sum).1.natAbs by omega, show (lst (gainN s N p) (rootsN s N).sum).2.toNat = (lst (gainN s N p) (rootsN s N).sum).2.natAbs by omega]
 exact h4
theorem k26 {s : Int} {N : List (List Int)} {p : List Int} : E.Fn Tryz.prog 26 [mc s N p] [.bool (!greatB N p && decide (setE s N p = 0))] := by
 refine fn_of_row qqu ?_;simp only [FRow.start, f26, c26r0, c26r1, mc, SV.cells, go_sem, Nat.reduceAdd, Nat.reduceSub, true_implies];refine qa rfl (k11 (s := s) (N := N) (p := p)) (.inl rfl) ?_
 cases hg : greatB N p with
 | true => simp only [go_sem, true_implies]; rfl
 | false =>
  simp only [go_sem, Nat.reduceAdd];refine qa rfl (k61 (s := s) (N := N) (p := p)) (.inl rfl) ?_
  simp only [go_sem, true_implies];rfl
theorem ql5 {n d : Int} (hd : 0 < d) (hd2 : d <= 32000) (hn : 0 <= n) (hn2 : n <= 1000 * d) : smallB (lst n d) = true := by
 have h1 := qdK hd (n := n);have h2 := qcY hd hn;have h3 := qcZ hd hn2;have h4 := qie hd (n := n);rw [qbE];refine ⟨⟨by omega, by omega, h2, h3⟩, ?_⟩
 rw [show (lst n d).1.toNat = (lst n d).1.natAbs by omega, show (lst n d).2.toNat = (lst n d).2.natAbs by omega]
 exact h4
section
variable {s : Int} {N : List (List Int)} {p : List Int}
def rtT (s : Int) (N : List (List Int)) (i : Nat) : Int := ((List.range i).map (rootN s N)).sum
theorem qeA {i : Nat} : rtT s N (i + 1) = rtT s N i + rootN s N i := by
 unfold rtT; rw [List.range_succ, List.map_append, List.sum_append]; simp
theorem qif : rtT s N N.length = (rootsN s N).sum := rfl
theorem qeS (h : OkS s N) {i : Nat} (hi : i <= N.length) : 0 <= rtT s N i /\ rtT s N i <= (rootsN s N).sum := by
 have h0 : ∀ k, k <= N.length -> 0 <= rtT s N k := fun k hk => qC fun x hx => by
  obtain ⟨j, hj, rfl⟩ := List.mem_map.1 hx;exact qy h (by have := List.mem_range.1 hj; omega)
 refine ⟨h0 i hi, ?_⟩;rw [<- qif]
 have key : ∀ d, i + d <= N.length -> rtT s N i <= rtT s N (i + d) := fun d => by
  induction d with
  | zero => intro _; exact Int.le_refl _
  | succ d ih =>
   intro hd;have h1 := ih (by omega)
   have h2 := qy h (i := i + d) (by omega)
   rw [show i + (d + 1) = i + d + 1 by omega, qeA]
   omega
 have := key (N.length - i) (by omega)
 rwa [show i + (N.length - i) = N.length by omega] at this
theorem ql6 (h : OkS s N) {i : Nat} (hi : i < N.length) : 0 <= rootN s N i /\ rootN s N i <= (rootsN s N).sum := by
 have h1 := qeS h (i := i) (by omega)
 have h2 := qeS h (i := i + 1) (by omega)
 have h3 := qy h hi;rw [qeA] at h2;omega
theorem qc0 : (sharesQ s N).length = N.length := by simp [sharesQ, sharesT]
theorem qc1 {i : Nat} (hi : i < N.length) : (sharesQ s N)[i]? = some (lst (rootN s N i) (rootsN s N).sum) := by
 unfold sharesQ sharesT; rw [List.getElem?_map, List.getElem?_range hi]; rfl
def shaB (s : Int) (N : List (List Int)) (p : List Int) : List SV := if setE s N p = 0 then [rats (sharesQ s N), .bool true] else [.slice [], .bool false]
theorem k32 : E.Fn Tryz.prog 32 [mc s N p] (shaB s N p) := by
 refine fn_of_row qqA ?_;have h17 := k17 (s := s) (N := N) (p := p);unfold shaB;unfold sharesR at h17;simp only [FRow.start, f32, c32r0, c32r1, mc, SV.cells, go_sem, Nat.reduceAdd, Nat.reduceSub, true_implies]
 by_cases h0 : setE s N p = 0
 ·rw [if_pos h0] at h17 ⊢
  obtain ⟨h, hS⟩ := qa8 h0;have hsp := qaJ h hS;have hs32 := qa1 h.s;have hn4 := h.n4;have hsl := qc0 (s := s) (N := N);refine qa rfl h17 (.inr (.inl rfl)) ?_
  simp only [c32r2, rats, intss, hsl, go_sem, Nat.reduceAdd, Nat.reduceLeDiff, true_implies];intro _;have a1 : ((N.length : Int) = N.length) = True := eq_self _;simp only [c32r4, go_sem];refine qa (by simp only [go_sem]) (k48 (a := 0) (b := 1)) (.inl rfl) ?_
  simp only [rat, ql, c32r5, go_sem, Nat.reduceAdd, true_implies]
  refine qe (fun m τ => ∃ i : Nat, m = N.length - i /\ i <= N.length /\
   τ = ⟨(aN::aN::aN::aN::(.s (rats (sharesQ s N)))::aN::(.loc 0 0)::(aI i)::aN::aN::aZ72), [.obj [aI (lst (rtT s N i) (rootsN s N).sum).1, aI (lst (rtT s N i) (rootsN s N).sum).2]]⟩) N.length rfl ?_ ?_
  ·simp only [c32l13m, go_sem, ↓reduceIte, reduceCtorEq, Nat.reduceLeDiff]
   exact ⟨0, rfl, Nat.zero_le _, by rw [show rtT s N 0 = 0 from rfl, qgX hsp]; rfl⟩
  ·rintro I m τ ⟨i, rfl, hi, rfl⟩ hI
   simp only [c32l13, c32r6, rats, hsl, go_sem, ↓reduceIte];intro _;refine ⟨fun hlt => ?_, fun hge => ?_⟩
   ·have hg := qc1 (s := s) hlt
    have hr := ql6 h.s hlt;have hb1 := qeS h.s (i := i) (by omega)
    have hb2 := qeS h.s (i := i + 1) (by omega)
    have hadd := qnM (T := rtT s N i) (P := rootN s N i) (D := (rootsN s N).sum) (m := 1) hsp;rw [Int.one_mul, Int.one_mul, <- qeA] at hadd
    have hst : ∀ T : Int, 0 <= T -> T <= (rootsN s N).sum -> 0 <= (lst T (rootsN s N).sum).1 /\ (lst T (rootsN s N).sum).1 <= 32000 /\ 1 <= (lst T (rootsN s N).sum).2 /\ (lst T (rootsN s N).sum).2 <= 32000 := fun T h1 h2 => by
     have q1 := qdK hsp (n := T);have q2 := qcY hsp h1;omega
    have q1 := hst _ hr.1 hr.2;have q2 := hst _ hb1.1 hb1.2;have q3 := hst _ hb2.1 hb2.2;have hsm := ql5 hsp hs32 hr.1 (by omega)
    have hle := qcZ hsp (n := rootN s N i) (c := 1) (by omega)
    generalize hS' : (rootsN s N).sum = S at *;generalize lst (rootN s N i) S = x at *;generalize lst (rtT s N i) S = y at *;generalize hw : lst (rtT s N (i + 1)) S = w at *;have a2 : ¬ x.2 < x.1 := by omega
    have a3 : ¬ (1024000000 : Int) < w.2 := by omega
    have m1 := qau (a := y.1) (b := x.2) (A := 32000) (B := 32000) (by omega) (by omega)
    have m2 := qau (a := x.1) (b := y.2) (A := 32000) (B := 32000) (by omega) (by omega)
    have m3 := qau (a := y.2) (b := x.2) (A := 32000) (B := 32000) (by omega) (by omega)
    have m5 : 0 < y.2 * x.2 := Int.mul_pos (by omega) (by omega)
    have hk31 := k31 (n := y.1 * x.2 + x.1 * y.2) (d := y.2 * x.2) (by omega) m5 (by omega)
    rw [hadd] at hk31;simp only [c32r7, hg, rat, go_sem, Nat.reduceAdd];refine qa (by simp only [rat, go_sem]) (k77 (q := x)) (.inl rfl) ?_
    simp only [hsm, hg, rat, a2, decide_false, c32r9, go_sem, Nat.reduceAdd, Nat.reduceLeDiff, true_implies];refine ⟨qk (by omega), qk (by omega), qk (by omega), qk (by omega), ?_⟩
    refine qa (by simp only [go_sem]) hk31 (.inl rfl) ?_
    simp only [rat, ql, c32r10, a3, decide_false, c32r12, c32l13m, go_sem, ↓reduceIte, reduceCtorEq, Nat.reduceAdd, Nat.reduceLeDiff, true_implies];exact ⟨qb (by omega) (by omega), hI (N.length - (i + 1)) _ (by omega) ⟨i + 1, rfl, by omega, by rw [hw]; rfl⟩⟩
   ·have hie : i = N.length := by omega
    subst hie;rw [qif, ql4 hsp];simp only [c32r14, go_sem, Nat.reduceAdd];refine qa (by simp only [go_sem]) (k48 (a := 1) (b := 1)) (.inl rfl) ?_
    simp only [rat, decide_true, go_sem, true_implies]
    done
 ·rw [if_neg h0] at h17 ⊢
  refine qa rfl h17 (.inr (.inl rfl)) ?_
  simp only [c32r2, h0, decide_false, c32r3, go_sem, true_implies]
  done
end
section
variable {g : Nat -> Nat -> Bool} {n : Nat}
end
end Go.Proofs.YtikfhfgdmlijeaaGreat.Sk
namespace Go.Proofs.YtikfhfgdmlijeaaGreat.Sk
section
variable {s : Int} {N : List (List Int)} {p : List Int}
def shN (s : Int) (N : List (List Int)) (j : Nat) : Int × Int := lst (rootN s N j) (rootsN s N).sum
end
end Go.Proofs.YtikfhfgdmlijeaaGreat.Sk
namespace Go.Proofs.YtikfhfgdmlijeaaGreat.Sk
namespace PE
def subst (f : Nat -> PE) : PE -> PE
 | .v i => f i
 | .c z => .c z
 | .add a b => .add (subst f a) (subst f b)
 | .mul a b => .mul (subst f a) (subst f b)
 | .neg a => .neg (subst f a)
theorem ev_subst {r : Nat -> Int} {f : Nat -> PE} : ∀ e : PE, (subst f e).ev r = e.ev fun i => (f i).ev r
 | .v i => rfl
 | .c z => rfl
 | .add a b => by simp only [subst, ev, ev_subst a, ev_subst b]
 | .mul a b => by simp only [subst, ev, ev_subst a, ev_subst b]
 | .neg a => by simp only [subst, ev, ev_subst a]
end PE
def bk (n m a : Nat) : Nat := (a + (n - m)) % n
theorem qc2 {n m a : Nat} (hn : 0 < n) : bk n m a < n := Nat.mod_lt _ hn
theorem qmp {n m a : Nat} (hm : m < n) (ha : a < n) : (bk n m a + m) % n = a := by
 rw [bk, Nat.mod_add_mod, show a + (n - m) + m = a + n by omega, Nat.add_mod_right, Nat.mod_eq_of_lt ha]
theorem qrw {n m i : Nat} (hm : m < n) (hi : i < n) : bk n m ((i + m) % n) = i := by
 rw [bk, Nat.mod_add_mod, show i + m + (n - m) = i + n by omega, Nat.add_mod_right, Nat.mod_eq_of_lt hi]
theorem qhd {f : Nat -> Int} {n m : Nat} (hn : n <= 4) (hm : m < n) : ((List.range n).map fun a => f (bk n m a)).sum = ((List.range n).map f).sum := by
 have h : n = 1 \/ n = 2 \/ n = 3 \/ n = 4 := by omega
 have h2 : m = 0 \/ m = 1 \/ m = 2 \/ m = 3 := by omega
 rcases h with rfl | rfl | rfl | rfl <;> rcases h2 with rfl | rfl | rfl | rfl <;> first
  | omega
  | (simp only [List.range, List.range.loop, List.map_cons, List.map_nil, List.sum_cons, List.sum_nil, bk, Nat.reduceSub, Nat.reduceAdd, Nat.reduceMod] <;> omega)
def trN (m : Nat) (N : List (List Int)) : List (List Int) := (List.range N.length).map fun a => (List.range N.length).map fun b => tn N (bk N.length m a) (bk N.length m b)
def trP (m n : Nat) (p : List Int) : List Int := (List.range n).map fun a => p[bk n m a]?.getD 0
theorem qba {m : Nat} {N : List (List Int)} : (trN m N).length = N.length := by unfold trN; rw [List.length_map, List.length_range]
theorem qoS {m a b : Nat} {N : List (List Int)} (ha : a < N.length) (hb : b < N.length) : tn (trN m N) a b = tn N (bk N.length m a) (bk N.length m b) := by
 unfold trN;rw [tn, List.getElem?_map, List.getElem?_range ha, Option.map_some, Option.getD_some, List.getElem?_map, List.getElem?_range hb, Option.map_some, Option.getD_some]
theorem qkQ {m a b : Nat} {N : List (List Int)} (h : ¬ (a < N.length /\ b < N.length)) : tn (trN m N) a b = 0 := by
 unfold trN;rw [tn, List.getElem?_map]
 by_cases ha : a < N.length
 ·rw [List.getElem?_range ha, Option.map_some, Option.getD_some, List.getElem?_map, List.getElem?_eq_none (by rw [List.length_range]; omega)]
  rfl
 ·rw [List.getElem?_eq_none (l := List.range N.length) (by rw [List.length_range]; omega)]
  rfl
section
variable {s : Int} {N : List (List Int)} {p : List Int}
theorem qmq (h : OkM s N p) {m : Nat} (hm : m < N.length) : OkM s (trN m N) (trP m N.length p) := by
  have key : ∀ l ∈ trN m N, l.length = N.length /\ (∀ x ∈ l, 0 <= x /\ x <= s) /\ l.sum = s := fun l hl => by
    unfold trN at hl;obtain ⟨a, ha, rfl⟩ := List.mem_map.1 hl;rw [List.mem_range] at ha;refine ⟨by simp, fun x hx => ?_, ?_⟩
    · obtain ⟨b, _, rfl⟩ := List.mem_map.1 hx
      exact h.tn _ _
    · have h1 := qhd (f := tn N (bk N.length m a)) h.n4 hm
      rw [h1];exact h.s.row (qc2 h.n1)
  exact { n1 := by rw [qba]; exact h.n1, n4 := by rw [qba]; exact h.n4, sq := fun l hl => by rw [qba]; exact (key l hl).1, ent := fun l hl => (key l hl).2.1, s1 := h.s1, s20 := h.s20, pl := by rw [qba]; simp [trP], pay := fun x hx => by
            unfold trP at hx;obtain ⟨a, _, rfl⟩ := List.mem_map.1 hx;exact qR h.toOkP _, sum := fun l hl => (key l hl).2.2 }
def trF (n m j : Nat) : PE := if Nat.blt j 16 then (if Nat.blt (j / 4) n && Nat.blt (j % 4) n then .v (4 * bk n m (j / 4) + bk n m (j % 4)) else .c 0) else .v j
def turnB (n : Nat) : Bool := (List.range n).all fun m => (List.range n).all fun i => PE.same (PE.subst (trF n m) (rootP n ((i + m) % n))) (rootP n i)
theorem ql7 : [1, 2, 3, 4].all turnB = true := by decide +kernel
theorem qoT (h : OkM s N p) {m : Nat} {x : Nat -> Int} : rho s (trN m N) x = fun j => (trF N.length m j).ev (rho s N x) := by
 funext j
 have h4 := h.n4;have h1 := h.n1;unfold trF
 by_cases hj : j < 16
 ·have e1 : Nat.blt j 16 = true := by rw [Nat.blt_eq]; exact hj
  rw [e1, if_pos rfl];unfold rho;rw [if_pos hj]
  by_cases hab : j / 4 < N.length /\ j % 4 < N.length
  ·have e2 : (Nat.blt (j / 4) N.length && Nat.blt (j % 4) N.length) = true := by rw [Bool.and_eq_true, Nat.blt_eq, Nat.blt_eq]; exact hab
   rw [e2, if_pos rfl, qoS hab.1 hab.2];have b1 := qc2 (n := N.length) (m := m) (a := j / 4) h1;have b2 := qc2 (n := N.length) (m := m) (a := j % 4) h1;have := qiU (s := s) (N := N) (x := x) (bk N.length m (j / 4)) (bk N.length m (j % 4)) (by omega) (by omega)
   exact this.symm
  ·have e2 : (Nat.blt (j / 4) N.length && Nat.blt (j % 4) N.length) = false := by
    rw [<- Bool.not_eq_true, Bool.and_eq_true, Nat.blt_eq, Nat.blt_eq]; exact hab
   rw [e2, qkQ hab];rfl
 ·have e1 : Nat.blt j 16 = false := by rw [<- Bool.not_eq_true, Nat.blt_eq]; exact hj
  rw [e1]
  show rho s (trN m N) x j = rho s N x j
  unfold rho;rw [if_neg hj, if_neg hj]
theorem qig (h : OkM s N p) {m i : Nat} (hm : m < N.length) (hi : i < N.length) : rootN s (trN m N) ((i + m) % N.length) = rootN s N i := by
 have h1 := PE.same_eq (r := rho s N fun _ => 0) (qac (qac (four ql7 h.n1 h.n4) hm) hi)
 rw [PE.ev_subst, <- qoT h, qbS h.s] at h1;have h2 := qbS (x := fun _ => 0) (qmq h hm).s (i := (i + m) % N.length)
 rw [qba] at h2;rw [<- h2];exact h1
theorem qih (h : OkM s N p) {m a : Nat} (hm : m < N.length) (ha : a < N.length) : rootN s (trN m N) a = rootN s N (bk N.length m a) := by
 have := qig h hm (i := bk N.length m a) (qc2 h.n1)
 rwa [qmp hm ha] at this
theorem qhe (h : OkM s N p) {m : Nat} (hm : m < N.length) : (rootsN s (trN m N)).sum = (rootsN s N).sum := by
 unfold rootsN;rw [qba, <- qhd (f := rootN s N) h.n4 hm];exact congrArg _ (List.map_congr_left fun a ha => qih h hm (List.mem_range.1 ha))
theorem qnO {m a : Nat} (ha : a < N.length) : (trP m N.length p)[a]?.getD 0 = p[bk N.length m a]?.getD 0 := by
 unfold trP;rw [List.getElem?_map, List.getElem?_range ha]; rfl
theorem qnP (h : OkM s N p) {m : Nat} (hm : m < N.length) : gainN s (trN m N) (trP m N.length p) = gainN s N p := by
 unfold gainN gainT;rw [qba, <- qhd (f := fun k => rootN s N k * p[k]?.getD 0) h.n4 hm]
 exact congrArg _ (List.map_congr_left fun a ha => by rw [qih h hm (List.mem_range.1 ha), qnO (List.mem_range.1 ha)])
theorem qnQ (h : OkM s N p) {m : Nat} (hm : m < N.length) : paysQ s (trN m N) (trP m N.length p) = paysQ s N p := by
 unfold paysQ; rw [qnP h hm, qhe h hm]
theorem ql8 (h : OkM s N p) {m i : Nat} (hm : m < N.length) (hi : i < N.length) : shN s (trN m N) ((i + m) % N.length) = shN s N i := by
 unfold shN; rw [qig h hm hi, qhe h hm]
theorem qeT (h : OkM s N p) (hS : 0 < (rootsN s N).sum) : (parts N).length <= 1 := by
 have hpos : ∃ i, i < N.length /\ 0 < rootN s N i := by
  refine Classical.byContradiction fun hno => ?_
  have hz : ∀ x ∈ rootsN s N, x = 0 := fun x hx => by
   obtain ⟨i, hi, rfl⟩ := qU.1 hx;have h1 := qy h.s hi;have h2 : ¬ 0 < rootN s N i := fun h3 => hno ⟨i, hi, h3⟩
   omega
  have : ∀ l : List Int, (∀ x ∈ l, x = 0) -> l.sum = 0 := fun l => by
   induction l with
   | nil => intro _; rfl
   | cons y l ih => intro hl; rw [List.sum_cons, hl y (by simp), ih fun x hx => hl x (List.mem_cons_of_mem _ hx)]; rfl
  rw [this _ hz] at hS;exact absurd hS (by decide)
 obtain ⟨i, hi, hr⟩ := hpos;have hre := (qgU h.s hi).1 hr
 have key : ∀ a ∈ firsts N, ∀ b ∈ firsts N, a <= b := fun a ha b hb => by
  have pa := qA.1 (qad.1 ha);have pb := qA.1 (qad.1 hb)
  have ai : Reach (gr N) N.length a i := by
   by_cases e : a = i
   ·subst e; exact pa.1
   ·exact hre a pa.1.lt e
  have bi : Reach (gr N) N.length b i := by
   by_cases e : b = i
   ·subst e; exact pb.1
   ·exact hre b pb.1.lt e
  have ib : Reach (gr N) N.length i b := ((pb.2 i bi).2 b).2 pb.1;exact (pa.2 b (qD ai ib)).1
 have hnd : (firsts N).Nodup := List.nodup_range.sublist List.filter_sublist;rw [qbk, List.length_map]
 cases hf : firsts N with
 | nil => simp
 | cons x l =>
  cases l with
  | nil => simp
  | cons y l =>
   rw [hf] at key hnd;have h1 := key x (by simp) y (by simp)
   have h2 := key y (by simp) x (by simp)
   have : x = y := by omega
   rw [this] at hnd;simp at hnd
theorem ql9 (hp : p.length = N.length) {c d : Int} : gainN s N (p.map fun z => c * z + d) = c * gainN s N p + d * (rootsN s N).sum := by
 unfold gainN gainT rootsN
 have e : ∀ k ∈ List.range N.length, rootN s N k * (p.map fun z => c * z + d)[k]?.getD 0 = c * (rootN s N k * p[k]?.getD 0) + d * rootN s N k := fun k hk => by
  have hk := List.mem_range.1 hk;obtain ⟨z, hz⟩ : ∃ z, p[k]? = some z := ⟨_, List.getElem?_eq_getElem (by omega)⟩
  rw [List.getElem?_map, hz, Option.map_some, Option.getD_some, Option.getD_some]
  grind
 rw [List.map_congr_left e, qnN, qcv, qcv]
theorem qnR {G S c d : Int} (hS : 0 < S) : lst (c * (lst G S).1 + d * (lst G S).2) (lst G S).2 = lst (c * G + d * S) S := by
 have h1 := qdN hS (n := G);have h2 := qdZ hS (n := G);generalize lst G S = q at *;refine qfX h2 hS ?_;rw [Int.add_mul, Int.add_mul, Int.mul_assoc, h1]
 grind
theorem qma (h : OkM s N p) (hS : 0 < (rootsN s N).sum) {c d : Int} : paysQ s N (p.map fun z => c * z + d) = lst (c * (paysQ s N p).1 + d * (paysQ s N p).2) (paysQ s N p).2 := by
 unfold paysQ;rw [ql9 h.pl, qnR hS]
def zN (c : Int) (N : List (List Int)) : List (List Int) := N.map fun l => l.map (c * ·)
theorem qeU {c : Int} : (zN c N).length = N.length := by simp [zN]
theorem qrx {c : Int} {i k : Nat} : tn (zN c N) i k = c * tn N i k := by
 unfold zN tn;rw [List.getElem?_map]
 cases N[i]? with
 | none => simp
 | some l =>
  simp only [Option.map_some, Option.getD_some];rw [List.getElem?_map]
  cases l[k]? <;> simp
open PE in
def yF (j : Nat) : PE := if Nat.blt j 17 then .mul (.v 17) (.v j) else .v j
open PE in
def yB (n : Nat) : Bool := (List.range n).all fun i => PE.same (PE.subst yF (rootP n i)) (.mul (prod (List.replicate (n - 1) (.v 17))) (rootP n i))
theorem qry : [1, 2, 3, 4].all yB = true := by decide +kernel
def kz (c : Int) (n : Nat) : Int := (List.replicate (n - 1) c).foldr (· * ·) 1
theorem qhf {c : Int} (hc : 0 < c) {n : Nat} : 0 < kz c n := by
 unfold kz
 induction n - 1 with
 | zero => exact Int.one_pos
 | succ k ih => rw [List.replicate_succ, List.foldr_cons]; exact Int.mul_pos hc ih
theorem qhg (h : OkS s N) {c : Int} (hz : OkS (c * s) (zN c N)) {i : Nat} (hi : i < N.length) : rootN (c * s) (zN c N) i = kz c N.length * rootN s N i := by
 have h1 := PE.same_eq (r := rho s N fun _ => c) (qac (four qry h.n1 h.n4) hi)
 have hr : (fun j => (yF j).ev (rho s N fun _ => c)) = rho (c * s) (zN c N) fun _ => c := by
  funext j
  unfold yF
  by_cases hj : j < 17
  ·have e1 : Nat.blt j 17 = true := by rw [Nat.blt_eq]; exact hj
   rw [e1, if_pos rfl]
   show rho s N (fun _ => c) 17 * rho s N (fun _ => c) j = _
   have e2 : rho s N (fun _ => c) 17 = c := rfl
   rw [e2];unfold rho
   by_cases h16 : j < 16
   ·rw [if_pos h16, if_pos h16, qrx]
   ·have : j = 16 := by omega
    subst this;rfl
  ·have e1 : Nat.blt j 17 = false := by rw [<- Bool.not_eq_true, Nat.blt_eq]; exact hj
   rw [e1]
   show rho s N (fun _ => c) j = _
   unfold rho;rw [if_neg (by omega), if_neg (by omega), if_neg (by omega), if_neg (by omega)]
 rw [PE.ev_subst, hr] at h1;have h2 := qbS (x := fun _ => c) hz (i := i)
 rw [qeU] at h2;rw [h2, PE.ev, PE.ev_prod, qbS h] at h1;rw [h1]
 congr 1
 unfold kz;rw [List.map_replicate];rfl
theorem qi2 (h : OkS s N) {c : Int} (hz : OkS (c * s) (zN c N)) : (rootsN (c * s) (zN c N)).sum = kz c N.length * (rootsN s N).sum := by
 unfold rootsN;rw [qeU, <- qcv];exact congrArg _ (List.map_congr_left fun i hi => qhg h hz (List.mem_range.1 hi))
theorem qoU (h : OkS s N) {c : Int} (hz : OkS (c * s) (zN c N)) : gainN (c * s) (zN c N) p = kz c N.length * gainN s N p := by
 unfold gainN gainT;rw [qeU, <- qcv];exact congrArg _ (List.map_congr_left fun i hi => by rw [qhg h hz (List.mem_range.1 hi), Int.mul_assoc])
theorem qoV (h : OkS s N) {c : Int} (hc : 0 < c) (hz : OkS (c * s) (zN c N)) : paysQ (c * s) (zN c N) p = paysQ s N p := by
 unfold paysQ;rw [qoU h hz, qi2 h hz, qbw (qhf hc)]
theorem qnS (h : OkS s N) {c : Int} (hc : 0 < c) (hz : OkS (c * s) (zN c N)) {i : Nat} (hi : i < N.length) : shN (c * s) (zN c N) i = shN s N i := by
 unfold shN;rw [qhg h hz hi, qi2 h hz, qbw (qhf hc)]
end
end Go.Proofs.YtikfhfgdmlijeaaGreat.Sk
namespace Go.Proofs.YtikfhfgdmlijeaaGreat.Sk
open Go Go.E
def c9r0 : LO := [oP 4 (.boxS (.t 0)),oP 8 (.mov bF)]
def c9r1 : LO := [oP 34 (.loadO 3 true (.t 4)),oP 35 (.call 26 [(.t 34)]),oP 36 (.not (.t 35))]
def c9r2 : LO := [oP 37 (.call 12 []),oM 8 37]
def c9r3 : LO := [oF 38 1 4,oP 39 (.loadO 1 false (.t 38)),oN 40 39,oM 9 40]
def c9r4 : LO := [oM 41 2,oP 42 (.div .rem (.t 41) (.c (.s (.int .u8 3)))),oP 43 (.conv .i64 (.t 42)),oP 44 (.arith .add (nI 1) (.t 43)),oM 45 3,oP 46 (.conv .i64 (.t 45)),oM 10 44,oM 11 46]
def c9r5 : LO := [oF 47 0 4,oP 48 (.loadO 1 false (.t 47)),oM 49 9,oP 50 (.mkslice 1 8 [(.int .i64 0)] (.t 49) (.t 49)),oM 51 9,oP 52 (.mkslice 1 24 [(.slice [])] (.t 51) (.t 51)),oP 53 (.build [(.s (.int .i64 0)), (.full []), (.full [])] [(0, 1, (.t 48)), (2, 1, (.t 50)), (1, 1, (.t 52))]),oP 12 (.alloc [(.s (.int .i64 0)), (.full []), (.full [])]),⟨none, none, .store 3 (.t 12) (.t 53)⟩]
def c9r6 : LO := [oF 54 0 4,oP 55 (.loadO 1 false (.t 54)),oF 56 1 4,oP 57 (.loadO 1 false (.t 56)),oP 58 (.build [(.s (.int .i64 0)), (.full []), (.full [])] [(0, 1, (.t 55)), (1, 1, (.t 57))]),oP 13 (.alloc [(.s (.int .i64 0)), (.full []), (.full [])]),⟨none, none, .store 3 (.t 13) (.t 58)⟩]
def c9r7 : LO := [oM 59 10,oF 60 0 4,oP 61 (.loadO 1 false (.t 60)),oP 62 (.arith .mul (.t 59) (.t 61)),oF 63 2 4,oP 64 (.loadO 1 false (.t 63)),oP 65 (.build [(.s (.int .i64 0)), (.full []), (.full [])] [(0, 1, (.t 62)), (2, 1, (.t 64))]),oP 14 (.alloc [(.s (.int .i64 0)), (.full []), (.full [])]),⟨none, none, .store 3 (.t 14) (.t 65)⟩]
def c9r8 : LO := [oP 15 (.mov (nI 0))]
def c9r9 : LO := [oM 66 15,oM 67 9,oP 68 (.cmp .lss (.t 66) (.t 67))]
def c9r10 : LO := [oM 71 15,oM 72 1,oP 73 (.conv .i64 (.t 72)),oM 74 9,oP 75 (.div .rem (.t 73) (.t 74)),oP 76 (.arith .add (.t 71) (.t 75)),oM 77 9,oP 78 (.div .rem (.t 76) (.t 77)),oM 16 78]
def c9r11 : LO := [oM 79 9,oP 80 (.mkslice 1 8 [(.int .i64 0)] (.t 79) (.t 79)),oP 81 (.callN 1 36 [(.c (.full []))]),oM 17 80,oM 18 81]
def c9r12 : LO := [oP 19 (.mov (nI 0))]
def c9r13 : LO := [oM 82 19,oM 83 9,oP 84 (.cmp .lss (.t 82) (.t 83))]
def c9r14 : LO := [oM 87 17,oM 88 19,oM 89 1,oP 90 (.conv .i64 (.t 89)),oM 91 9,oP 92 (.div .rem (.t 90) (.t 91)),oP 93 (.arith .add (.t 88) (.t 92)),oM 94 9,oP 95 (.div .rem (.t 93) (.t 94)),oF 96 1 4,oP 97 (.loadO 1 false (.t 96)),oM 98 15,oI 99 97 98,oL 100 99,oM 101 19,oI 102 100 101,oL 103 102,oI 104 87 95,⟨none, none, .storeR 1 (.t 104) (.t 103)⟩]
def c9r15 : LO := [oM 105 18,oM 106 10,oF 107 1 4,oP 108 (.loadO 1 false (.t 107)),oM 109 15,oI 110 108 109,oL 111 110,oM 112 19,oI 113 111 112,oL 114 113,oP 115 (.arith .mul (.t 106) (.t 114)),oP 116 (.buildSl 1 1 (.int .i64 0) [(0, (.t 115))]),oP 117 (.append 1 8 (.t 105) (.t 116)),oM 18 117]
def c9r16 : LO := [oM 85 19,oP 86 (.arith .add (.t 85) (nI 1)),oM 19 86]
def c9l17 : ACode := (.seq (sR c9r13 (.cond (.t 84) .skip (.exit 2))) (.seq (.block 3 (sR c9r14 (.reg 1 c9r15))) (rG c9r16)))
def c9l17m : List Bool := zF<|zT<|zF<|zF<|zT<|zF<|zF<|zF<|zF<|zT<|zT<|zT<|zT<|zT<|zT<|zT<|zT<|zT<|zT<|zT<|z8<|z8<|z8<|z8<|z8<|z8<|z8<|z8<|z8<|z8<|z8<|z8<|z8<|z8<|z8<|z8<|z8<|z8<|z8<|z8<|z8<|z8<|z8<|z8<|z8<|z8<|z8<|z8<|z8<|z8<|z8<|[]
def c9r18 : LO := [oF 118 1 12,oP 119 (.loadO 1 false (.t 118)),oM 120 16,oF 121 2 12,oP 122 (.loadO 1 false (.t 121)),oM 123 16,oM 124 17,oF 125 2 4,oP 126 (.loadO 1 false (.t 125)),oM 127 15,oI 128 126 127,oL 129 128,oI 130 119 120,⟨none, none, .storeR 1 (.t 130) (.t 124)⟩,oI 131 122 123,⟨none, none, .storeR 1 (.t 131) (.t 129)⟩]
def c9r19 : LO := [oF 132 2 13,oP 133 (.loadO 1 false (.t 132)),oM 134 10,oF 135 2 4,oP 136 (.loadO 1 false (.t 135)),oM 137 15,oI 138 136 137,oL 139 138,oP 140 (.arith .mul (.t 134) (.t 139)),oM 141 11,oP 142 (.arith .add (.t 140) (.t 141)),oP 143 (.buildSl 1 1 (.int .i64 0) [(0, (.t 142))]),oP 144 (.appendY 1 8 (.t 133) (.t 143)),oF 145 1 14,oP 146 (.loadO 1 false (.t 145)),oM 147 18,oP 148 (.buildSl 1 1 (.slice []) [(0, (.t 147))]),oP 149 (.appendY 1 24 (.t 146) (.t 148)),oF 150 2 13,⟨none, none, .store 1 (.t 150) (.t 144)⟩,oF 151 1 14,⟨none, none, .store 1 (.t 151) (.t 149)⟩]
def c9r20 : LO := [oM 69 15,oP 70 (.arith .add (.t 69) (nI 1)),oM 15 70]
def c9l21 : ACode := (.seq (sR c9r9 (.cond (.t 68) .skip (.exit 0))) (.seq (.block 1 (sR c9r10 (.seq (.reg 2 c9r11) (.seq (sR c9r12 (.block 2 (.loop c9l17m [(18, none, 0)] c9l17))) (.seq (.frzt 17 (rG c9r18)) (.frzt 18 (.reg 2 c9r19))))))) (.renr 14 1 6 (.renr 13 2 5 (rG c9r20)))))
def c9l21m : List Bool := zF<|zT<|zF<|zF<|zT<|zF<|zF<|zF<|zF<|zT<|zT<|zT<|zT<|zT<|zT<|zT<|z8<|z8<|z8<|z8<|z8<|z8<|z8<|z8<|z8<|z8<|z8<|z8<|z8<|z8<|z8<|z8<|z8<|z8<|z8<|z8<|z8<|z8<|z8<|z8<|z8<|z8<|z8<|z8<|z8<|z8<|z8<|zF<|zF<|zF<|zF<|[]
def c9r22 : LO := [oP 153 (.loadO 3 true (.t 4)),oP 154 (.call 27 [(.t 153)]),oM 152 154,oP 155 (.ext (.t 152) 0),oP 156 (.ext (.t 152) 1),oP 20 (.alloc [(.s (.int .i64 0)), (.s (.int .i64 0))]),⟨none, none, .store 2 (.t 20) (.t 155)⟩,oM 21 156]
def c9r23 : LO := [oP 158 (.loadO 3 true (.t 12)),oP 159 (.call 27 [(.t 158)]),oM 157 159,oP 160 (.ext (.t 157) 0),oP 161 (.ext (.t 157) 1),oP 22 (.alloc [(.s (.int .i64 0)), (.s (.int .i64 0))]),⟨none, none, .store 2 (.t 22) (.t 160)⟩,oM 23 161]
def c9r24 : LO := [oP 163 (.loadO 3 true (.t 4)),oP 164 (.call 32 [(.t 163)]),oM 162 164,oP 165 (.ext (.t 162) 0),oP 166 (.ext (.t 162) 1),oM 24 165,oM 25 166]
def c9r25 : LO := [oP 168 (.loadO 3 true (.t 12)),oP 169 (.call 32 [(.t 168)]),oM 167 169,oP 170 (.ext (.t 167) 0),oP 171 (.ext (.t 167) 1),oM 26 170,oM 27 171]
def c9r26 : LO := [oM 172 21,oP 173 (.not (.t 172)),oM 174 173,oH 175 174 false 23,oG 176 174 false (.not (.t 175)),oP 177 (.pick (.t 174) bT (.t 176)),oM 178 177,oG 179 178 false (.loadO 2 true (.t 20)),oG 180 178 false (.loadO 2 true (.t 22)),oG 181 178 false (.eql true [(.int .i64), (.int .i64)] true (.t 179) (.t 180)),oP 182 (.pick (.t 178) bT (.t 181)),oM 183 182,oH 184 183 false 25,oG 185 183 false (.not (.t 184)),oP 186 (.pick (.t 183) bT (.t 185)),oM 187 186,oH 188 187 false 27,oG 189 187 false (.not (.t 188)),oP 190 (.pick (.t 187) bT (.t 189))]
def c9r27 : LO := [oP 8 (.mov bF)]
def c9r28 : LO := [oP 28 (.mov (nI 0))]
def c9r29 : LO := [oM 191 28,oM 192 9,oP 193 (.cmp .lss (.t 191) (.t 192))]
def c9r30 : LO := [oM 196 24,oM 197 28,oP 198 (.idxA 2 (.t 196) (.t 197)),oP 199 (.load 2 true (.t 198)),oM 200 26,oM 201 28,oM 202 1,oP 203 (.conv .i64 (.t 202)),oM 204 9,oP 205 (.div .rem (.t 203) (.t 204)),oP 206 (.arith .add (.t 201) (.t 205)),oM 207 9,oP 208 (.div .rem (.t 206) (.t 207)),oP 209 (.idxA 2 (.t 200) (.t 208)),oP 210 (.load 2 true (.t 209)),oP 211 (.eql true [(.int .i64), (.int .i64)] true (.t 199) (.t 210))]
def c9r31 : LO := [oP 8 (.mov bF)]
def c9r32 : LO := [oM 194 28,oP 195 (.arith .add (.t 194) (nI 1)),oM 28 195]
def c9l33 : ACode := (.seq (sR c9r29 (.cond (.t 193) .skip (.exit 4))) (.seq (.block 5 (sR c9r30 (.cond (.t 211) (sR c9r31 .ret) .skip))) (rG c9r32)))
def c9l33m : List Bool := zF<|zT<|zF<|zF<|zF<|zF<|zF<|zF<|zF<|zT<|zT<|zT<|zF<|zT<|zT<|zF<|zF<|zF<|zF<|zF<|zT<|zF<|zT<|zF<|zT<|zF<|zT<|zF<|zT<|z8<|z8<|z8<|z8<|z8<|z8<|z8<|z8<|z8<|z8<|z8<|z8<|z8<|z8<|z8<|z8<|z8<|z8<|z8<|z8<|z8<|z8<|z8<|z8<|z8<|z8<|z8<|z8<|z8<|zF<|zF<|zF<|zF<|zF<|zF<|zF<|[]
def c9r34 : LO := [oP 212 (.loadO 3 true (.t 13)),oP 213 (.call 37 [(.t 212)])]
def c9r35 : LO := [oP 215 (.loadO 3 true (.t 13)),oP 216 (.call 27 [(.t 215)]),oM 214 216,oP 217 (.ext (.t 214) 0),oP 218 (.ext (.t 214) 1),oP 29 (.alloc [(.s (.int .i64 0)), (.s (.int .i64 0))]),⟨none, none, .store 2 (.t 29) (.t 217)⟩,oM 30 218]
def c9r36 : LO := [oM 219 30,oP 220 (.not (.t 219)),oM 221 220,oG 222 221 false (.loadO 2 true (.t 29)),oH 223 221 false 10,oG 224 221 false (.fieldAddr 0 (.t 20)),oG 225 221 false (.loadO 1 false (.t 224)),oG 226 221 false (.arith .mul (.t 223) (.t 225)),oH 227 221 false 11,oG 228 221 false (.fieldAddr 1 (.t 20)),oG 229 221 false (.loadO 1 false (.t 228)),oG 230 221 false (.arith .mul (.t 227) (.t 229)),oG 231 221 false (.arith .add (.t 226) (.t 230)),oG 232 221 false (.fieldAddr 1 (.t 20)),oG 233 221 false (.loadO 1 false (.t 232)),oG 234 221 false (.call 31 [(.t 231), (.t 233)]),oG 235 221 false (.eql true [(.int .i64), (.int .i64)] true (.t 222) (.t 234)),oP 236 (.pick (.t 221) bT (.t 235))]
def c9r37 : LO := [oP 8 (.mov bF)]
def c9r38 : LO := [oP 237 (.loadO 3 true (.t 14)),oP 238 (.call 37 [(.t 237)]),oP 239 (.not (.t 238))]
def c9r39 : LO := [oP 240 (.call 12 []),oM 8 240]
def c9r40 : LO := [oP 242 (.loadO 3 true (.t 14)),oP 243 (.call 27 [(.t 242)]),oM 241 243,oP 244 (.ext (.t 241) 0),oP 245 (.ext (.t 241) 1),⟨none, none, .store 2 (.t 22) (.t 244)⟩,oM 31 245]
def c9r41 : LO := [oP 247 (.loadO 3 true (.t 14)),oP 248 (.call 32 [(.t 247)]),oM 246 248,oP 249 (.ext (.t 246) 0),oP 250 (.ext (.t 246) 1),oM 32 249,oM 33 250]
def c9r42 : LO := [oM 251 31,oM 252 251,oH 253 252 true 33,oP 254 (.pick (.t 252) (.t 253) bF),oM 255 254,oG 256 255 true (.loadO 2 true (.t 22)),oG 257 255 true (.loadO 2 true (.t 20)),oG 258 255 true (.eql true [(.int .i64), (.int .i64)] false (.t 256) (.t 257)),oP 259 (.pick (.t 255) (.t 258) bF),oM 260 259,oH 261 260 true 32,oH 262 260 true 24,oG 263 260 true (.call 21 [(.t 261), (.t 262)]),oP 264 (.pick (.t 260) (.t 263) bF),oM 265 264,oG 266 265 true (.call 12 []),oP 267 (.pick (.t 265) (.t 266) bF),oM 8 267]
def f9 : FRow := ⟨(sR c9r0 (.seq (sR c9r1 (.cond (.t 36) (sR c9r2 .ret) .skip)) (sR c9r3 (sR c9r4 (.seq (.reg 3 c9r5) (.seq (.reg 1 c9r6) (.seq (.reg 1 c9r7) (.seq (sR c9r8 (.block 0 (.loop c9l21m [(13, some 2, 0), (14, some 1, 0)] c9l21))) (.seq (.reg 1 c9r22) (.seq (.zap 12 2 (.zap 12 1 (.reg 1 c9r23))) (sR c9r24 (sR c9r25 (.seq (sR c9r26 (.cond (.t 190) (sR c9r27 .ret) .skip)) (.seq (sR c9r28 (.block 4 (.loop c9l33m [] c9l33))) (.seq (.seq (.zap 13 2 (rG c9r34)) (.cond (.t 213) (.seq (.reg 1 c9r35) (sR c9r36 (.cond (.t 236) (sR c9r37 .ret) .skip))) .skip)) (.seq (.seq (.zap 14 1 (rG c9r38)) (.cond (.t 239) (sR c9r39 .ret) .skip)) (sR c9r40 (sR c9r41 (sR c9r42 .ret))))))))))))))))))), [.tmp 8], 268⟩
theorem okf9 : f9.Ok Tryz.prog 9 := ⟨_, _, Tryz.func9, rfl, by kernel_rfl, by kernel_rfl, by kernel_rfl⟩
end Go.Proofs.YtikfhfgdmlijeaaGreat.Sk
