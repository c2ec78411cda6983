/- Contracts: between which ends the long-run pay lies. -/
import Derived.Test.YtikfhfgdmlijeaaGreatJ7
import Derived.Deep.Strs

set_option linter.all false

namespace Go.Proofs.YtikfhfgdmlijeaaGreat.Sk
open Go Go.E Go.E.Sm
set_option maxRecDepth 10000
def Small (q : Int × Int) : Prop := q.1.natAbs <= 2 ^ 30 /\ q.2.natAbs <= 2 ^ 30
theorem mul_le_nat2 {a b : Int} {A B : Nat} (ha : a.natAbs <= A) (hb : b.natAbs <= B) : (a * b).natAbs <= A * B := by
 rw [Int.natAbs_mul]; exact Nat.mul_le_mul ha hb
theorem small_mul {a b : Int} (ha : a.natAbs <= 2 ^ 30) (hb : b.natAbs <= 2 ^ 30) : inR .i64 (a * b) := inR_abs (Nat.le_trans (mul_le_nat2 ha hb) (by decide))
theorem k69 {a b : Int × Int} (ha : Small a) (hb : Small b) : E.Fn Tryz.prog 69 [rat a, rat b] [.bool (lessQ a b)] := by
 refine fn_of_row okf69 ?_;simp only [FRow.start, f69, c69r0, c69r1, rat, SV.cells, go_sem, Nat.reduceAdd, Nat.reduceSub, Nat.reduceLeDiff, true_implies];exact ⟨small_mul ha.1 hb.2, small_mul hb.1 ha.2, rfl⟩
theorem k70 {a b : Int × Int} (ha : Small a) (hb : Small b) : E.Fn Tryz.prog 70 [rat a, rat b, .ptr [.fn 69 [] []]] [.bool (moreQ a b)] := by
 refine fn_of_row okf70 ?_;simp only [FRow.start, f70, c70r0, c70r1, rat, SV.cells, go_sem, Nat.reduceAdd, Nat.reduceSub, true_implies];refine ⟨by kernel_rfl, ?_⟩
 refine callK_of (by simp only [rat, go_sem]) (k69 hb ha) (.inl rfl) ?_
 simp only [go_sem, true_implies];rfl
theorem k71 {g : FuncId} {caps : List SV} {c : Int × Int} {cs : List (Int × Int)} {lt : Int × Int -> Int × Int -> Bool} (hg : okFn Tryz.prog g = true) (hc : (caps.map LV.s).all LV.isOne = true) (hlt : ∀ a ∈ c :: cs, ∀ b ∈ c :: cs, E.Fn Tryz.prog g ([rat a, rat b] ++ caps) [.bool (lt a b)]) :
  E.Fn Tryz.prog 71 [rats (c :: cs), .fn g [] caps] [rat (bestQ lt (c :: cs))] := by
 refine fn_of_row okf71 ?_;have htk : List.take (cs.length + 1 - 1) (cs.map rat) = cs.map rat := by rw [List.take_of_length_le]; simp
 simp only [FRow.start, f71, c71r0, c71r1, rats, rat, spl_two, c71r2, go_sem, ↓reduceIte, Nat.reduceAdd, Nat.reduceSub, Nat.reduceLeDiff, Int.reduceLE, Int.reduceToNat, true_implies];rw [htk];refine ⟨.inr fun y hy => ?_, fun hlen => ?_⟩
 ·rcases List.mem_cons.1 hy with rfl | hy
  ·rfl
  ·obtain ⟨q, _, rfl⟩ := List.mem_map.1 hy
   rfl
 rw [List.length_map] at hlen;have hlen' : (cs.length : Int) <= 2 ^ 63 - 1 := Int.le_trans (Int.ofNat_le.mpr hlen) maxLen_le
 refine loop_rule (fun m τ => ∃ i : Nat, m = cs.length - i /\ i <= cs.length /\ bestF lt c (cs.take i) ∈ c :: cs /\
  τ = ⟨[.any, .s (.fn g [] caps), .any, .any, .loc 0 0, .loc 1 0, .any, .any, .any, .any, .any, .any, .s (rats cs), aI cs.length, aI i, .any, .any, .any, .any, .any, .any, .any, .any, .any, .any],
   [.obj [aI 0, aI 0], .obj [aI (bestF lt c (cs.take i)).1, aI (bestF lt c (cs.take i)).2]]⟩) cs.length rfl ?_ ?_
 ·simp only [c71l8m, go_sem, ↓reduceIte, reduceCtorEq, Nat.reduceAdd, Nat.reduceLeDiff]
  exact ⟨0, rfl, Nat.zero_le _, by simp [bestF], rfl⟩
 ·rintro I m τ ⟨i, rfl, hi, hmem, rfl⟩ hI
  simp only [c71l8, c71r3, go_sem, ↓reduceIte, Nat.reduceAdd, true_implies];refine ⟨fun hlt2 => ?_, fun hge => ?_⟩
  ·have hlt2 : i < cs.length := by omega
   have hx : cs[i]? = some cs[i] := List.getElem?_eq_getElem hlt2;have hxm : cs[i] ∈ c :: cs := List.mem_cons_of_mem _ (List.getElem_mem hlt2)
   have hbs : bestF lt c (cs.take (i + 1)) = if lt cs[i] (bestF lt c (cs.take i)) then cs[i] else bestF lt c (cs.take i) := by
    rw [take_snoc hx]; unfold bestF; rw [List.foldl_append]; rfl
   have hcall := hlt _ hxm _ hmem
   have hmem2 : bestF lt c (cs.take (i + 1)) ∈ c :: cs := by
    rw [hbs]; split
    ·exact hxm
    ·exact hmem
   generalize cs[i] = x at hx hbs hcall;generalize bestF lt c (cs.take i) = b at hcall hbs;simp only [c71r4, rats, hx, rat, spl_two, c71r5, go_sem, Nat.reduceAdd, true_implies];refine ⟨hg, hc, ?_⟩;refine callK_of (by simp only [rat, go_sem]) hcall (.inl rfl) ?_
   cases hl : lt x b with
   | true =>
    rw [hl, if_pos rfl] at hbs;simp only [c71r6, spl_two, c71r7, c71l8m, go_sem, ↓reduceIte, reduceCtorEq, Nat.reduceAdd, Nat.reduceLeDiff, true_implies];exact ⟨inR_small (by omega) (by omega), hI (cs.length - (i + 1)) _ (by omega) ⟨i + 1, rfl, by omega, hmem2, by rw [hbs]; rfl⟩⟩
   | false =>
    rw [hl, if_neg (by simp)] at hbs
    simp only [c71r7, c71l8m, go_sem, ↓reduceIte, reduceCtorEq, Nat.reduceAdd, Nat.reduceLeDiff, true_implies];exact ⟨inR_small (by omega) (by omega), hI (cs.length - (i + 1)) _ (by omega) ⟨i + 1, rfl, by omega, hmem2, by rw [hbs]; rfl⟩⟩
  ·have hie : i = cs.length := by omega
   subst hie;rw [List.take_length];simp only [c71r9, spl_two, frz_two', List.take_succ_cons, List.take_zero, go_sem, Nat.reduceAdd, true_implies];rfl
theorem pays_small {s : Int} {N : List (List Int)} {p : List Int} (h : OkM s N p) (hS : (parts N).length <= 1) : Small (paysQ s N p) := by
 have h1 := roots_pos h hS;have h2 := roots_32 h.s;have h3 := gain_le h;have h5 : 0 <= gainN s N p := gainT_nonneg h (Nat.le_refl _);have h4 := lst_le (n := gainN s N p) h1;unfold paysQ Small;omega
def betR (s : Int) (N : List (List Int)) (p : List Int) : List SV :=
 if chkR s N p = 0 then [rat (bestQ lessQ (payL s N p)), rat (bestQ moreQ (payL s N p)), .int .i64 0] else [rat (0, 0), rat (0, 0), .int .i64 (chkR s N p)]
set_option maxHeartbeats 1000000 in
theorem k24 {s : Int} {N : List (List Int)} {p : List Int} : E.Fn Tryz.prog 24 [mc s N p] (betR s N p) := by
 refine fn_of_brow okt24 ?_;unfold betR;simp only [BRow.start, t24, c24r0, c24r1, mc, SV.cells, List.length_cons, List.length_nil, go_sem, Nat.reduceAdd, Nat.reduceSub, true_implies];refine callK_of rfl (k44 (s := s) (N := N) (p := p)) (.inl rfl) ?_
 by_cases h0 : chkR s N p = 0
 ·rw [if_pos h0]
  have h := chkR_zero.1 h0;simp only [h0, c24r2, c24r4, c24r5, List.length_cons, List.length_nil, go_sem, Nat.reduceAdd, true_implies];refine callK_of rfl (k67 (s := s) (N := N) (p := p)) (.inr (.inl rfl)) ?_
  have hyl := y100 h;have hn1 := h.n1;have hn4 := h.n4
  have hpw : N.length ^ N.length <= 256 := by
   match N.length, hn1, hn4 with
   | 1, _, _ => decide
   | 2, _, _ => decide
   | 3, _, _ => decide
   | 4, _, _ => decide
  simp only [go_sem, true_implies]
  refine promo_rule (σ' := ⟨[.s (mc s N p), .s (.ptr [.int .i64 s, intss N, ints p]), .loc 0 0, .loc 1 0, aI 0, aI 0, .loc 2 0, .any, .any, .any, .any, .s (mc s N p), aI 0, aI 0, .s (.bool false), .any, .any, .any, .s (mc s N p), .s (.fn 100 [] [.ptr [.int .i64 N.length], .ptr [.int .i64 s, intss N, ints p]]), .any, .any, .any, .any, .any, .any, .any, .any, .any, .any, .any, .any, .any, .any, .any, .any],
   [.obj [aI 0, aI 0], .obj [aI 0, aI 0], .obj [.sl 3 0 0 2 false], .row []]⟩) rfl ?_
  refine range_rule (fun vs H => ∃ k : Nat, k <= N.length ^ N.length /\ vs = ((List.range (N.length ^ N.length)).map fun k => mc s (fillN s N k) p).drop k /\
   H = [.obj [aI 0, aI 0], .obj [aI 0, aI 0], .obj [.sl 3 0 k 2 false], .row ((twoR (payT s N p k)).map (.int .i64))]) rfl (by kernel_rfl) rfl hyl (by decide) ⟨0, Nat.zero_le _, rfl, rfl⟩ rfl ?_ ?_
  ·rintro H ⟨k, hk, hd, rfl⟩
   have hke : k = N.length ^ N.length := by
    have := congrArg List.length hd;simp at this; omega
   subst hke;have hpt : 0 < N.length ^ N.length := Nat.pow_pos (by omega)
   obtain ⟨c, cs, hcs⟩ : ∃ c cs, payL s N p = c :: cs := by
    cases hp : payL s N p with
    | nil => have := congrArg List.length hp; simp [payL, payT] at this
    | cons c cs => exact ⟨c, cs, rfl⟩
   have hpe : payT s N p (N.length ^ N.length) = c :: cs := hcs
   have hsm : ∀ a ∈ c :: cs, Small a := fun a ha => by
    rw [<- hcs] at ha;obtain ⟨k, _, rfl⟩ := List.mem_map.1 ha;exact pays_small (fill_ok h k) (fill_settles h k)
   have h1 := k71 (g := 69) (caps := []) (c := c) (cs := cs) (lt := lessQ) (by kernel_rfl) (by rfl) fun a ha b hb => k69 (hsm a ha) (hsm b hb)
   have h2 := k71 (g := 70) (caps := [.ptr [.fn 69 [] []]]) (c := c) (cs := cs) (lt := moreQ) (by kernel_rfl) (by rfl) fun a ha b hb => k70 (hsm a ha) (hsm b hb)
   have hsl : sliceOf 0 (N.length ^ N.length) 2 ((twoR (c :: cs)).map (SV.int .i64)) = some (rats (c :: cs)) := slice_rats (by rw [<- hpe, payT, List.length_map, List.length_range])
   rw [hcs, hpe];simp only [List.length_cons, List.length_nil, c24r10, c24r11, c24r12, spl_one, go_sem, ↓reduceIte, reduceCtorEq, Nat.reduceAdd, Nat.reduceSub, Nat.reduceLeDiff, true_implies];refine callK_of (by simp only [hsl, go_sem]) h1 (.inl rfl) ?_
   simp only [go_sem];refine callK_of (by simp only [hsl, go_sem]) h2 (.inl rfl) ?_
   simp only [rat, spl_two, frz_two', go_sem, Nat.reduceAdd, true_implies]
   done
  ·rintro v vs H I ⟨k, hk, hd, rfl⟩ hI
   have hk : k < N.length ^ N.length := by
    have := congrArg List.length hd;simp at this; omega
   rw [List.drop_eq_getElem_cons (by simpa using hk)] at hd
   simp only [List.getElem_map, List.getElem_range, List.cons.injEq] at hd;obtain ⟨rfl, rfl⟩ := hd;have hM := fill_ok h k;have h65 := k68' (s := s) (p := p) (by have := hM.n4; omega) hM.sq hM.goOn
   have h60 := k64 hM (fill_settles h k);have htl : (twoR (payT s N p k)).length = k * 2 := by rw [twoR_len]; simp [payT]
   have hts : payT s N p (k + 1) = payT s N p k ++ [paysQ s (fillN s N k) p] := by unfold payT; rw [List.range_succ, List.map_append]; rfl
   have hsn := twoR_snoc (l := payT s N p k) (q := paysQ s (fillN s N k) p);rw [<- hts] at hsn;simp only [List.length_cons, List.length_nil, c24b9a, c24r6, mc, SV.cells, spl_3, c24b9, c24r7, go_sem, ↓reduceIte, reduceCtorEq, Nat.reduceAdd, Nat.reduceSub, Nat.reduceLeDiff, true_implies];refine callK_of (by simp only [intss, ints, go_sem]) h65 (.inr (.inl (by simp only [intss, ints, go_sem]))) ?_
   simp only [c24r8, go_sem, Nat.reduceAdd, true_implies];refine ⟨rfl, by kernel_rfl, rfl, ?_⟩
   refine callK_of (by simp only [benchC, bnV, go_sem]) h60 (.inl rfl) ?_
   simp only [rat, Nat.reduceBEq, Bool.false_eq_true, go_sem, ↓reduceIte, Nat.reduceAdd, Nat.reduceMul, true_implies];refine ⟨by decide, by decide, rfl, one_rat, one_rat, htl.symm, by omega, by omega, ?_⟩
   rw [hsn];simp only [spl_one, go_sem, ↓reduceIte, reduceCtorEq, Nat.reduceLeDiff];exact hI _ ⟨k + 1, hk, rfl, rfl⟩
 ·rw [if_neg h0]
  simp only [h0, c24r2, c24r3, rat, spl_two, frz_two', go_sem, Nat.reduceAdd, true_implies]
  done
end Go.Proofs.YtikfhfgdmlijeaaGreat.Sk
namespace Go.Proofs.YtikfhfgdmlijeaaGreat.Sk
inductive Wk (g : Nat -> Nat -> Bool) (n : Nat) : Nat -> Nat -> Nat -> Prop
 | nil {i : Nat} : Wk g n 0 i i
 | snoc {t i j k : Nat} (h : Wk g n t i j) (hg : g j k = true) (hk : k < n) : Wk g n (t + 1) i k
section
variable {g : Nat -> Nat -> Bool} {n : Nat}
theorem Wk.append {a b i j k : Nat} (h1 : Wk g n a i j) (h2 : Wk g n b j k) : Wk g n (a + b) i k := by
 induction h2 with
 | nil => exact h1
 | snoc _ hg hk ih => exact .snoc (ih h1) hg hk
theorem Wk.reach {t i k : Nat} (h : Wk g n t i k) : t = 0 /\ i = k \/ Reach g n i k := by
 induction h with
 | nil => exact .inl ⟨rfl, rfl⟩
 | snoc _ hg hk ih =>
  rcases ih with ⟨_, rfl⟩ | h
  ·exact .inr (.one hg hk)
  ·exact .inr (.more h hg hk)
theorem rB_walk {i k : Nat} : ∀ {m : Nat}, k ∈ rB g n i m -> ∃ r, 1 <= r /\ r <= m + 1 /\ Wk g n r i k
 | 0, h => ⟨1, Nat.le_refl _, Nat.le_refl _, .snoc .nil (List.mem_filter.1 h).2 (List.mem_range.1 (List.mem_filter.1 h).1)⟩
 | m + 1, h => by
  have hk := rB_lt h;rw [rB] at h;have h2 := (List.mem_filter.1 h).2;rw [Bool.or_eq_true, decide_eq_true_eq, List.any_eq_true] at h2
  rcases h2 with h2 | ⟨j, h2, h3⟩
  ·obtain ⟨r, h4, h5, h6⟩ := rB_walk h2
   exact ⟨r, h4, by omega, h6⟩
  ·obtain ⟨r, h4, h5, h6⟩ := rB_walk h2
   exact ⟨r + 1, by omega, by omega, .snoc h6 h3 hk⟩
end
def wkB (g : Nat -> Nat -> Bool) (n c : Nat) : Nat -> Nat -> Bool
 | 0, k => Nat.beq k c
 | t + 1, k => (List.range n).any fun i => wkB g n c t i && g i k
def perT (g : Nat -> Nat -> Bool) (n c : Nat) : Nat -> Nat
 | 0 => 0
 | m + 1 => if wkB g n c (m + 1) c then Nat.gcd (perT g n c m) (m + 1) else perT g n c m
def perN (g : Nat -> Nat -> Bool) (n c : Nat) : Nat := perT g n c 12
section
variable {g : Nat -> Nat -> Bool} {n c : Nat}
theorem wkB_iff (hc : c < n) : ∀ {t k : Nat}, k < n -> (wkB g n c t k = true ↔ Wk g n t c k)
 | 0, k, _ => by
  rw [wkB];constructor
  ·intro h; rw [Nat.eq_of_beq_eq_true h]; exact .nil
  ·intro h; cases h; exact Nat.beq_refl _
 | t + 1, k, hk => by
  rw [wkB, List.any_eq_true];constructor
  ·rintro ⟨i, hi, h⟩
   rw [Bool.and_eq_true] at h;exact .snoc ((wkB_iff hc (List.mem_range.1 hi)).1 h.1) h.2 hk
  ·intro h
   cases h with
   | @snoc _ _ j _ h hg _ =>
    have hj : j < n := by
     rcases h.reach with ⟨_, rfl⟩ | h
     ·exact hc
     ·exact h.lt
    exact ⟨j, List.mem_range.2 hj, by rw [(wkB_iff hc hj).2 h, hg]; rfl⟩
theorem dvd_perT (hc : c < n) {e : Nat} : ∀ {m : Nat}, e ∣ perT g n c m ↔ ∀ t, 1 <= t -> t <= m -> Wk g n t c c -> e ∣ t
 | 0 => by
  rw [perT];exact ⟨fun _ t h1 h2 => by omega, fun _ => Nat.dvd_zero e⟩
 | m + 1 => by
  have ih := dvd_perT hc (e := e) (m := m);rw [perT]
  have key : (∀ t, 1 <= t -> t <= m + 1 -> Wk g n t c c -> e ∣ t) ↔ (∀ t, 1 <= t -> t <= m -> Wk g n t c c -> e ∣ t) /\ (Wk g n (m + 1) c c -> e ∣ m + 1) := by
   constructor
   ·exact fun h => ⟨fun t h1 h2 => h t h1 (by omega), h (m + 1) (by omega) (Nat.le_refl _)⟩
   ·rintro ⟨h1, h2⟩ t h3 h4
    by_cases e1 : t = m + 1
    ·rw [e1]; exact h2
    ·exact h1 t h3 (by omega)
  rw [key, <- ih]
  by_cases hx : wkB g n c (m + 1) c = true
  ·rw [if_pos hx, Nat.dvd_gcd_iff]
   have := (wkB_iff hc hc).1 hx;exact ⟨fun h => ⟨h.1, fun _ => h.2⟩, fun h => ⟨h.1, h.2 this⟩⟩
  ·rw [if_neg hx]
   exact ⟨fun h => ⟨h, fun hw => absurd ((wkB_iff hc hc).2 hw) hx⟩, fun h => h.1⟩
theorem per_eq (hc : c < n) {d : Nat} {f : Nat -> Int} {S : Nat -> Prop} (h0 : S c) (hf0 : f c = 0) (h1 : ∀ i, S i -> ∃ L : Nat, f i = L /\ L <= 3 /\ Wk g n L c i) (h2 : ∀ i k, S i -> k < n -> g i k = true -> S k /\ (d : Int) ∣ f i + 1 - f k)
  (h3 : ∀ e : Nat, (∀ i k, S i -> S k -> k < n -> g i k = true -> (e : Int) ∣ f i + 1 - f k) -> e ∣ d) (h4 : ∀ k, S k -> ∃ r, 1 <= r /\ r <= 5 /\ Wk g n r k c) : d = perN g n c := by
 have key : ∀ {t i k : Nat}, Wk g n t i k -> i = c -> S k /\ (d : Int) ∣ (t : Int) - f k := by
  intro t i k hw
  induction hw with
  | nil => intro e; subst e; exact ⟨h0, by rw [hf0]; exact ⟨0, by simp⟩⟩
  | snoc _ hg hk ih =>
   intro e;obtain ⟨h5, h6⟩ := ih e;obtain ⟨h7, h8⟩ := h2 _ _ h5 hk hg;refine ⟨h7, ?_⟩;have := Int.dvd_add h6 h8
   rename_i t' _ j k' _
   have e2 : (t' : Int) - f j + (f j + 1 - f k') = ((t' + 1 : Nat) : Int) - f k' := by omega
   rw [e2] at this; exact this
 apply Nat.dvd_antisymm
 ·refine (dvd_perT hc).2 fun t _ _ hw => ?_
  have := (key hw rfl).2;rw [hf0, Int.sub_zero] at this;exact Int.natCast_dvd_natCast.1 this
 ·refine h3 _ fun i k hi hk hkn hg => ?_
  obtain ⟨L1, e1, b1, w1⟩ := h1 i hi;obtain ⟨L2, e2, b2, w2⟩ := h1 k hk;obtain ⟨r, r1, r2, w3⟩ := h4 k hk;have q1 := (dvd_perT hc (e := perN g n c) (m := 12)).1 (Nat.dvd_refl _) (L1 + 1 + r) (by omega) (by omega) ((Wk.snoc w1 hg hkn).append w3)
  have q2 := (dvd_perT hc (e := perN g n c) (m := 12)).1 (Nat.dvd_refl _) (L2 + r) (by omega) (by omega) (w2.append w3)
  have q3 := Int.dvd_sub (Int.natCast_dvd_natCast.2 q1) (Int.natCast_dvd_natCast.2 q2);have e3 : ((L1 + 1 + r : Nat) : Int) - ((L2 + r : Nat) : Int) = f i + 1 - f k := by omega
  rw [e3] at q3;exact q3
end
end Go.Proofs.YtikfhfgdmlijeaaGreat.Sk
namespace Go.Proofs.YtikfhfgdmlijeaaGreat.Sk
open Go Go.E Go.E.Sm
set_option maxRecDepth 10000
def landsQ (s : Int) (N : List (List Int)) (state : Int) (pt : List Int) : Int × Int :=
 if idx (fun x => decide (state = x)) (nats (opL N)) 0 < 0 then (if state ∈ pt then (1, 1) else (0, 1))
 else lst (solK s N (opL N) ((opL N).map (toP N pt)) (idx (fun x => decide (state = x)) (nats (opL N)) 0).toNat) (detS s N (opL N))
theorem rchC_len {g : Nat -> Nat -> Bool} {n i : Nat} : (rchC g n i).length <= n := by
 unfold rchC; rw [List.length_map]; exact rB_len
theorem part_len {N : List (List Int)} {l : List Int} (h : l ∈ parts N) : l.length <= N.length := by
 obtain ⟨c, _, rfl⟩ := mem_part h;exact rchC_len
theorem part_mem {N : List (List Int)} {l : List Int} (h : l ∈ parts N) {x : Int} (hx : x ∈ l) : ∃ k : Nat, x = k /\ k < N.length := by
 obtain ⟨c, _, rfl⟩ := mem_part h;obtain ⟨k, h1, h2⟩ := mem_rchC.1 hx;exact ⟨k, h1, h2.lt⟩
theorem idx_spec {α : Type} {p : α -> Bool} : ∀ {xs : List α} {i : Nat}, idx p xs i < 0 /\ (∀ x ∈ xs, p x = false) \/ ∃ j x, xs[j]? = some x /\ p x = true /\ idx p xs i = ((i + j : Nat) : Int)
 | [], i => .inl ⟨by simp [idx], by simp⟩
 | x :: xs, i => by
  rw [idx]
  cases hp : p x with
  | true => exact .inr ⟨0, x, rfl, hp, rfl⟩
  | false =>
   simp only [Bool.false_eq_true, if_false]
   rcases idx_spec (p := p) (xs := xs) (i := i + 1) with ⟨h1, h2⟩ | ⟨j, y, h1, h2, h3⟩
   ·exact .inl ⟨h1, fun y hy => by rcases List.mem_cons.1 hy with rfl | hy; exact hp; exact h2 y hy⟩
   ·refine .inr ⟨j + 1, y, by simpa using h1, h2, ?_⟩
    rw [show i + (j + 1) = i + 1 + j by omega]
    exact h3
theorem idx_spec0 {α : Type} {p : α -> Bool} {xs : List α} : idx p xs 0 < 0 /\ (∀ x ∈ xs, p x = false) \/ ∃ (j : Nat) (x : α), xs[j]? = some x /\ p x = true /\ idx p xs 0 = (j : Int) := by
 rcases idx_spec (p := p) (xs := xs) (i := 0) with ⟨h1, h2⟩ | ⟨j, x, h1, h2, h3⟩
 ·exact .inl ⟨h1, h2⟩
 ·exact .inr ⟨j, x, h1, h2, by rw [Nat.zero_add] at h3; exact h3⟩
theorem mid_get {A Z : List Int} {x : Int} {m : Nat} (h : A.length = m) : (A ++ x :: Z)[m]? = some x := by
 subst h;rw [List.getElem?_append_right (Nat.le_refl _), Nat.sub_self]; rfl
theorem mid_set {A Z : List Int} {x y : Int} {m : Nat} (h : A.length = m) : (A ++ x :: Z).set m y = A ++ y :: Z := by
 subst h;rw [List.set_append_right _ _ (Nat.le_refl _), Nat.sub_self]; rfl
theorem toP_le {N : List (List Int)} {s : Int} (h : OkN s N) {pt : List Int} (hl : pt.length <= 4) (k : Nat) : (toP N pt k).natAbs <= 80 := by
 unfold toP
 have h1 := sum_abs (l := pt.map fun j => tn N k j.toNat) (B := 20) (fun x hx => by
  obtain ⟨j, _, rfl⟩ := List.mem_map.1 hx;have := h.tn k j.toNat;have := h.s20;omega)
 rw [List.length_map] at h1;exact Nat.le_trans h1 (Nat.le_trans (Nat.mul_le_mul_right _ hl) (by decide))
set_option maxHeartbeats 1000000 in
theorem k51 {s : Int} {N : List (List Int)} {p : List Int} {state : Int} {part : Nat} {pt : List Int} (h : OkM s N p) (hpt : (parts N)[part]? = some pt) (hd : ∀ k ∈ opL N, 0 < detS s N (opL N)) :
  E.Fn Tryz.prog 51 [benchC s N p, .int .i64 state, .int .i64 part] [rat (landsQ s N state pt)] := by
 refine fn_of_row okf51 ?_;have hn4 := h.n4;have hpm := List.mem_of_getElem? hpt;have hpl := part_len hpm;have hps := parts_len (N := N);have hm := map_turns h.sq
 have hk82 : E.Fn Tryz.prog 89 [intss (parts N)] [ints (parts N).flatten] := k89 (by omega) (fun l hl => by have := part_len hl; omega) (by
  obtain ⟨c, hc, rfl⟩ := mem_part hpm;have hcc := (isPC_iff.1 hc).1;have h1 : (c : Int) ∈ rchC (gr N) N.length c := mem_rchC.2 ⟨c, rfl, hcc⟩;have h2 : (c : Int) ∈ (parts N).flatten := List.mem_flatten.2 ⟨_, hpm, h1⟩;exact List.length_pos_of_mem h2)
 have hk80 : E.Fn Tryz.prog 88 [benchC s N p, ints (parts N).flatten] [ints (nats (opL N))] := k88 (by omega)
 have hol : (opL N).length <= N.length := wout_len;have hoL : ∀ i ∈ opL N, i < N.length := fun i => wout_lt
 unfold landsQ;simp only [FRow.start, f51, c51r0, c51r1, benchC, bnV, go_sem, Nat.reduceAdd, Nat.reduceSub, Nat.reduceLeDiff, true_implies];refine callK_of (by simp only [intss, go_sem]) hk82 (.inr (.inl (by simp only [intss, go_sem]))) ?_
 simp only [go_sem];refine callK_of (by simp only [ints, benchC, bnV, go_sem]) hk80 (.inr (.inl (by simp only [ints, benchC, bnV, go_sem]))) ?_
 have hk83 := k90 (xs := nats (opL N)) (v := state)
 have hk81 : ∀ col : List Int, col.length = (opL N).length -> (∀ x ∈ col, x.natAbs <= 2 ^ 38) -> E.Fn Tryz.prog 92 [benchC s N p, ints (nats (opL N)), ints col] [ints (solL s N (opL N) col), .int .i64 (detS s N (opL N))] := fun col h1 h2 =>
  k92 h.toOkN hoL (by omega) h1 h2
 have hsl : ∀ (k : Nat), k < (opL N).length -> (solK s N (opL N) ((opL N).map (toP N pt)) k).natAbs <= 80 * 2 ^ 22 := fun k hk => sol_le h.toOkN (by omega) hk (by decide) (fun x hx => by
  obtain ⟨i, _, rfl⟩ := List.mem_map.1 hx;exact toP_le h.toOkN (by omega) i)
 have hdl : (detS s N (opL N)).natAbs <= 2 ^ 22 := det_le h.toOkN (by omega)
 generalize opL N = st at *;simp only [c51r2, go_sem, true_implies];refine callK_of (by simp only [ints, go_sem]) hk83 (.inl rfl) ?_
 have hcs := idx_spec0 (p := fun x => decide (state = x)) (xs := nats st)
 generalize idx (fun x => decide (state = x)) (nats st) 0 = ix at *
 rcases hcs with ⟨hi1, hi2⟩ | ⟨a, x, hx1, hx2, rfl⟩
 ·rw [if_pos hi1]
  simp only [hi1, c51r3, c51r4, intss, hpt, go_sem, Nat.reduceAdd, Nat.reduceLeDiff, true_implies];refine callK_of (by simp only [ints, go_sem]) (k91 (xs := pt) (v := state)) (.inl rfl) ?_
  by_cases hin : state ∈ pt
  ·rw [if_pos hin]
   simp only [hin, c51r5, spl_two, frz_two', rat, go_sem, ↓reduceIte, Nat.reduceAdd, Nat.reduceLeDiff, true_implies]
  ·rw [if_neg hin]
   simp only [hin, c51r6, spl_two, frz_two', rat, go_sem, ↓reduceIte, Nat.reduceAdd, Nat.reduceLeDiff, true_implies]
 ·rw [if_neg (by omega)]
  have hal : a < st.length := by have := (List.getElem?_eq_some_iff.1 hx1).1; simpa [nats] using this
  have hst0 : ∀ k ∈ st, k < N.length := hoL;have hnl : (nats st).length = st.length := by simp [nats]
  have hd0 := hd st[a] (List.getElem_mem hal);have ea : ¬ ((a : Int) < 0) := by omega
  simp only [ea, c51r3, c51r7, ints, hnl, go_sem, Nat.reduceAdd, Nat.reduceLT, true_implies];refine ⟨by omega, by omega, fun _ => ?_⟩
  rw [rep_flat];simp only [c51r8, hnl, go_sem];intro _
  refine loop_rule (fun m τ => ∃ i : Nat, m = st.length - i /\ i <= st.length /\
   τ = ⟨((.s (benchC s N p))::aN::(aI part)::aN::aN::aN::(.loc 0 0)::(.s (ints (nats st)))::(aI a)::(.sl 1 0 st.length 1 true)::aN::aN::aN::aN::aN::aN::aN::aN::aN::aN::aN::aN::aN::aN::aN::aN::aN::aN::aN::aN::aN::aN::aN::aN::aN::aN::aN::aN::aN::aN::aN::aN::(.s (ints (nats st)))::(aI st.length)::(aI i)::aN::aN::aN::aN::aN::aZ40),
    [.obj [aI 0, aI 0], .row (((st.take i).map (toP N pt) ++ List.replicate (st.length - i) 0).map (.int .i64))]⟩) st.length rfl ?_ ?_
  ·simp only [c51l18m, go_sem, ↓reduceIte, reduceCtorEq, Nat.reduceAdd, Nat.reduceLeDiff]
   exact ⟨0, rfl, Nat.zero_le _, rfl⟩
  ·rintro I m τ ⟨i, rfl, hi, rfl⟩ hI
   simp only [c51l18, c51r9, go_sem, ↓reduceIte, Nat.reduceAdd, true_implies];refine ⟨fun hlt => ?_, fun hge => ?_⟩
   ·have hlt : i < st.length := by omega
    have hx : st[i]? = some st[i] := List.getElem?_eq_getElem hlt;have hk := hst0 _ (List.getElem_mem hlt);have hnx : (nats st)[i]? = some (st[i] : Int) := by unfold nats; rw [List.getElem?_map, hx]; rfl
    have hrow := row_set (f := toP N pt) hx;generalize st[i] = k at hx hk hnx hrow;have hrep : List.replicate (st.length - i) (0 : Int) = 0 :: List.replicate (st.length - (i + 1)) 0 := by rw [show st.length - i = (st.length - (i + 1)) + 1 by omega, List.replicate_succ]
    have hAl : ((st.take i).map (toP N pt)).length = i := by rw [List.length_map, List.length_take]; omega
    simp only [c51r10, ints, hnx, c51r11, benchC, bnV, intss, hpt, go_sem, Nat.reduceAdd, Nat.reduceLeDiff, true_implies];intro _;rw [hrep] at hrow ⊢;rw [mid_set hAl] at hrow;have hZl : ∀ z : Int, ((st.take i).map (toP N pt) ++ z :: List.replicate (st.length - (i + 1)) 0).length = st.length := fun z => by rw [List.length_append, List.length_cons, hAl, List.length_replicate]; omega
    have hget : ∀ z : Int, ((st.take i).map (toP N pt) ++ z :: List.replicate (st.length - (i + 1)) 0)[i]? = some z := fun z => mid_get hAl
    have hset : ∀ z y : Int, ((st.take i).map (toP N pt) ++ z :: List.replicate (st.length - (i + 1)) 0).set i y = (st.take i).map (toP N pt) ++ y :: List.replicate (st.length - (i + 1)) 0 := fun z y => mid_set hAl
    generalize hA : (fun z : Int => (st.take i).map (toP N pt) ++ z :: List.replicate (st.length - (i + 1)) 0) = A
    have hA' : ∀ z, (st.take i).map (toP N pt) ++ z :: List.replicate (st.length - (i + 1)) 0 = A z := fun z => by rw [<- hA]
    simp only [hA'] at hZl hget hset ⊢
    refine loop_rule (fun m τ => ∃ j : Nat, m = pt.length - j /\ j <= pt.length /\
     τ = ⟨((.s (benchC s N p))::aN::(aI part)::aN::aN::aN::(.loc 0 0)::(.s (ints (nats st)))::(aI a)::(.sl 1 0 st.length 1 true)::(aI i)::(aI k)::aN::aN::aN::aN::aN::aN::aN::aN::aN::aN::aN::aN::aN::aN::aN::aN::aN::aN::aN::aN::aN::aN::aN::aN::aN::aN::aN::aN::aN::aN::(.s (ints (nats st)))::(aI st.length)::(aI i)::aN::aN::aN::aN::aN::aN::aN::aN::aN::aN::(.s (ints pt))::(aI pt.length)::(aI j)::aZ32),
      [.obj [aI 0, aI 0], .row ((A (toP N (pt.take j) k)).map (.int .i64))]⟩) pt.length rfl ?_ ?_
    ·simp only [c51l16m, go_sem, ↓reduceIte, reduceCtorEq, Nat.reduceAdd, Nat.reduceLeDiff]
     exact ⟨0, rfl, Nat.zero_le _, rfl⟩
    ·rintro I2 m τ ⟨j, rfl, hj, rfl⟩ hI2
     simp only [c51l16, c51r12, go_sem, ↓reduceIte, Nat.reduceAdd, true_implies];refine ⟨fun hlt2 => ?_, fun hge => ?_⟩
     ·have hlt2 : j < pt.length := by omega
      have hy : pt[j]? = some pt[j] := List.getElem?_eq_getElem hlt2;obtain ⟨b, hyb, hb⟩ := part_mem hpm (List.getElem_mem hlt2);rw [hyb] at hy
      have hts : toP N (pt.take (j + 1)) k = toP N (pt.take j) k + tn N k b := by
       unfold toP;rw [List.take_succ, hy, List.map_append, List.sum_append]; simp
      have hb1 := toP_le h.toOkN (pt := pt.take (j + 1)) (by rw [List.length_take]; omega) k
      simp only [c51r13, ints, hy, c51r14, Nat.mul_one, hget, benchC, bnV, go_sem, ↓reduceIte, Nat.reduceAdd, Nat.reduceLeDiff, true_implies];have hin1 : inR .i64 (toP N (pt.take j) k + tn N k b) := inR_abs (by rw [<- hts]; omega)
      have hs1 := spl_row (R := A (toP N (pt.take j) k)) (i := i) (x := toP N (pt.take j) k + tn N k b) (by rw [hZl]; omega)
      refine ⟨hlt, hm.key k b hk hb, hm.nod, hm.look hk hb ?_⟩;simp only [Nat.mul_one, hs1, hset, c51r15, c51l16m, hZl, List.length_map, go_sem, ↓reduceIte, reduceCtorEq, Nat.reduceAdd, Nat.reduceLeDiff, true_implies];exact ⟨hin1, hlt, by omega, inR_small (by omega) (by omega), hI2 (pt.length - (j + 1)) _ (by omega) ⟨j + 1, rfl, by omega, by rw [hts]; rfl⟩⟩
     ·have hje : j = pt.length := by omega
      subst hje;rw [List.take_length];simp only [c51r17, c51l18m, go_sem, ↓reduceIte, reduceCtorEq, Nat.reduceLeDiff, true_implies];exact ⟨inR_small (by omega) (by omega), hI (st.length - (i + 1)) _ (by omega) ⟨i + 1, rfl, by omega, by rw [<- hrow, hA']; rfl⟩⟩
   ·have hie : i = st.length := by omega
    subst hie;rw [List.take_length, Nat.sub_self, List.replicate_zero, List.append_nil]
    have hsl2 : sliceOf 0 st.length 1 ((st.map (toP N pt)).map (SV.int .i64)) = some (ints (st.map (toP N pt))) := by
     have := slice_ints (l := st.map (toP N pt));rw [List.length_map] at this;exact this
    have h81 := hk81 (st.map (toP N pt)) (by simp) (fun x hx => by
     obtain ⟨i, _, rfl⟩ := List.mem_map.1 hx;have := toP_le h.toOkN (pt := pt) (by omega) i
     omega)
    have hsla := hsl a hal
    have hga : (solL s N st (st.map (toP N pt)))[a]? = some (solK s N st (st.map (toP N pt)) a) := by
     unfold solL;rw [List.getElem?_map, List.getElem?_range hal]; rfl
    have hk71 := k59 (n := solK s N st (st.map (toP N pt)) a) (d := detS s N st) (by omega) hd0 (by omega)
    have hrt : rowOf 0 st.length 1 ((st.map (toP N pt)).map (SV.int .i64)) = some ((st.map (toP N pt)).map (.int .i64)) := by
     rw [rowOf_take (by simp), List.take_of_length_le (by simp)]
    simp only [c51r19, go_sem];refine ⟨_, hrt, ?_⟩;refine callK_of (by simp only [ints, benchC, bnV, go_sem]) h81 (.inr (.inl (by simp only [ints, benchC, bnV, go_sem]))) ?_
    simp only [c51r20, ints, hga, go_sem, Nat.reduceAdd, true_implies];refine callK_of (by simp only [go_sem]) hk71 (.inl rfl) ?_
    simp only [spl_two, frz_two', rat, go_sem, Nat.reduceAdd, true_implies]
    done
def landsR (s : Int) (N : List (List Int)) (p : List Int) (state part : Int) : List SV :=
 if chkM s N p = 0 then (if (0 <= state /\ state < N.length) /\ 0 <= part /\ part < (parts N).length then [rat (landsQ s N state (((parts N)[part.toNat]?).getD [])), .int .i64 0] else [rat (0, 0), .int .i64 2]) else [rat (0, 0), .int .i64 (chkM s N p)]
theorem within_one {lo hi x : Int} : withinB lo hi [x] = decide (lo <= x /\ x <= hi) := by
 rw [Bool.eq_iff_iff, within_iff, decide_eq_true_eq];simp
theorem k13 {s : Int} {N : List (List Int)} {p : List Int} {state part : Int} : E.Fn Tryz.prog 13 [mc s N p, .int .i64 state, .int .i64 part] (landsR s N p state part) := by
 refine fn_of_row okf13 ?_;have h48 := k49 (s := s) (N := N) (p := p);unfold landsR;unfold openR at h48;simp only [FRow.start, f13, c13r0, c13r1, mc, SV.cells, List.length_cons, List.length_nil, go_sem, Nat.reduceAdd, Nat.reduceSub, true_implies]
 by_cases h0 : chkM s N p = 0
 ·rw [if_pos h0] at h48
  rw [if_pos h0];have h := chkM_zero.1 h0;have hn4 := h.n4;have hps := parts_len (N := N);refine callK_of rfl h48 (.inr (.inl rfl)) ?_
  have hin1 : inR .i64 ((N.length : Int) - 1) := inR_i64 (by omega) (by omega)
  have hin2 : inR .i64 (((parts N).length : Int) - 1) := inR_i64 (by omega) (by omega)
  have hw1 := within_one (lo := 0) (hi := (N.length : Int) - 1) (x := state);have hw2 := within_one (lo := 0) (hi := ((parts N).length : Int) - 1) (x := part);simp only [c13r2, c13r4, intss, go_sem, Nat.reduceAdd, Nat.reduceLeDiff, Nat.reduceMul, true_implies];refine ⟨hin1, by decide, by decide, rfl, one_int, ?_⟩
  refine callK_of (by simp only [ints, List.map_cons, List.map_nil, go_sem]) (k50 (lo := 0) (hi := (N.length : Int) - 1) (l := [state])) (.inl rfl) ?_
  by_cases h1 : 0 <= state /\ state < N.length
  ·rw [decide_eq_true (by omega)] at hw1
   simp only [hw1, benchC, bnV, intss, go_sem, Nat.reduceAdd, Nat.reduceLeDiff, Nat.reduceMul];refine ⟨hin2, by decide, by decide, rfl, one_int, ?_⟩
   refine callK_of (by simp only [ints, List.map_cons, List.map_nil, go_sem]) (k50 (lo := 0) (hi := ((parts N).length : Int) - 1) (l := [part])) (.inl rfl) ?_
   by_cases h2 : 0 <= part /\ part < (parts N).length
   ·rw [decide_eq_true (by omega)] at hw2
    rw [if_pos ⟨h1, h2⟩];obtain ⟨m, rfl⟩ : ∃ m : Nat, part = m := ⟨part.toNat, by omega⟩
    have hpt : (parts N)[m]? = some (parts N)[m] := List.getElem?_eq_getElem (by omega)
    have h62 := k51 (state := state) h hpt (fun _ hk => open_pos h hk)
    have e : ((parts N)[(m : Int).toNat]?).getD [] = (parts N)[m] := by rw [Int.toNat_natCast, hpt]; rfl
    rw [e];simp only [hw2, c13r6, go_sem];intro _;refine callK_of (by simp only [benchC, bnV, intss, ints, go_sem]) h62 (.inl rfl) ?_
    simp only [rat, spl_two, frz_two', go_sem, Nat.reduceAdd, true_implies]
    done
   ·rw [decide_eq_false (by omega)] at hw2
    rw [if_neg fun h => h2 h.2]
    simp only [hw2, c13r5, rat, spl_two, frz_two', go_sem, Nat.reduceAdd, true_implies]
    done
  ·rw [decide_eq_false (by omega)] at hw1
   rw [if_neg fun h => h1 h.1]
   simp only [hw1, c13r5, rat, spl_two, frz_two', go_sem, Nat.reduceAdd, true_implies]
   done
 ·rw [if_neg h0] at h48
  rw [if_neg h0];refine callK_of rfl h48 (.inr (.inl rfl)) ?_
  simp only [h0, c13r2, c13r3, rat, spl_two, frz_two', go_sem, Nat.reduceAdd, true_implies]
def prV (d g : Int) (hs : List Int) : SV := .agg [.int .i64 d, .int .i64 g, ints hs]
def ovT (s : Int) (N : List (List Int)) (p : List Int) (d g : Int) (hs : List Int) (i j : Nat) : Int :=
 s * (p[i]?.getD 0 * d - g - hs[i]?.getD 0) + ((List.range j).map fun k => tn N i k * hs[k]?.getD 0).sum
def ovN (s : Int) (N : List (List Int)) (p : List Int) (d g : Int) (hs : List Int) (i : Nat) : Int := ovT s N p d g hs i N.length
structure PrOk (d g : Int) (hs : List Int) : Prop where
  d1 : 1 <= d
  d2 : d <= 2 ^ 40
  g1 : -2 ^ 50 <= g /\ g <= 2 ^ 50
  h1 : ∀ x ∈ hs, -2 ^ 50 <= x /\ x <= 2 ^ 50
section
variable {s : Int} {N : List (List Int)} {p : List Int} {d g : Int} {hs : List Int}
theorem PrOk.get (h : PrOk d g hs) (i : Nat) : (hs[i]?.getD 0).natAbs <= 2 ^ 50 := by
 cases hx : hs[i]? with
 | none => simp
 | some x => have := h.h1 x (List.mem_of_getElem? hx); simp only [Option.getD_some]; omega
theorem ovT_succ {i j : Nat} : ovT s N p d g hs i (j + 1) = ovT s N p d g hs i j + tn N i j * hs[j]?.getD 0 := by
 unfold ovT;rw [List.range_succ, List.map_append, List.sum_append];simp only [List.map_cons, List.map_nil, List.sum_cons, List.sum_nil];omega
theorem payd_le (h : OkP s N p) (q : PrOk d g hs) (i : Nat) : (p[i]?.getD 0 * d).natAbs <= 1000 * 2 ^ 40 := by
 rw [Int.natAbs_mul];have h1 := pay_le h i;have h2 := q.d1;have h3 := q.d2;exact Nat.mul_le_mul (by omega) (by omega)
theorem tnh_le (h : OkP s N p) (q : PrOk d g hs) (i j : Nat) : (tn N i j * hs[j]?.getD 0).natAbs <= 20 * 2 ^ 50 := by
 rw [Int.natAbs_mul];have h1 := h.tn i j;have h2 := h.s20;exact Nat.mul_le_mul (by omega) (q.get j)
theorem sp_le (h : OkP s N p) {x : Int} {B : Nat} (hx : x.natAbs <= B) : (s * x).natAbs <= 20 * B := by
 rw [Int.natAbs_mul];have h1 := h.s1;have h2 := h.s20;exact Nat.mul_le_mul (by omega) hx
theorem ovT_le (h : OkP s N p) (q : PrOk d g hs) {i j : Nat} (hj : j <= 4) : (ovT s N p d g hs i j).natAbs <= 2 ^ 58 := by
 unfold ovT;have h1 := payd_le h q i;have h2 := q.get i;have h3 := q.g1;have h4 := sp_le h (x := p[i]?.getD 0 * d - g - hs[i]?.getD 0) (B := 2 ^ 52) (by omega)
 have h5 := sum_abs (l := (List.range j).map fun k => tn N i k * hs[k]?.getD 0) (B := 20 * 2 ^ 50) (fun x hx => by
  obtain ⟨k, _, rfl⟩ := List.mem_map.1 hx;exact tnh_le h q i k)
 rw [List.length_map, List.length_range] at h5;have h6 := Nat.le_trans h5 (Nat.mul_le_mul_right _ hj);omega
end
theorem k79 {s : Int} {N : List (List Int)} {p : List Int} {d g : Int} {hs : List Int} : E.Fn Tryz.prog 79 [benchC s N p, prV d g hs] [.fn 104 [] [.ptr [benchC s N p], .ptr [.int .i64 d, .int .i64 g, ints hs]]] := by
 refine fn_of_row okf79 ?_;simp only [FRow.start, f79, c79r0, c79r1, prV, SV.cells, benchC, bnV, go_sem, Nat.reduceAdd, Nat.reduceSub, true_implies]
 done
set_option maxHeartbeats 1000000 in
theorem k104 {s : Int} {N : List (List Int)} {p : List Int} {d g : Int} {hs : List Int} (h : OkM s N p) (q : PrOk d g hs) (hl : hs.length = N.length) {i : Nat} (hi : i < N.length) :
  E.Fn Tryz.prog 104 [.int .i64 i, .ptr [benchC s N p], .ptr [.int .i64 d, .int .i64 g, ints hs]] [.int .i64 (ovN s N p d g hs i)] := by
 refine fn_of_row okf104 ?_;have hn4 := h.n4;have hm := map_turns h.sq;obtain ⟨y, hy⟩ : ∃ y, p[i]? = some y := ⟨_, List.getElem?_eq_getElem (by rw [h.pl]; exact hi)⟩
 obtain ⟨z, hz⟩ : ∃ z, hs[i]? = some z := ⟨_, List.getElem?_eq_getElem (by omega)⟩
 have b1 := payd_le h.toOkP q i;have b2 := q.get i;have b3 := q.g1;have b4 := sp_le h.toOkP (x := p[i]?.getD 0 * d - g - hs[i]?.getD 0) (B := 2 ^ 52) (by omega)
 have h0 : ovT s N p d g hs i 0 = s * (y * d - g - z) := by unfold ovT; rw [hy, hz]; simp
 rw [hy, Option.getD_some] at b1 b4;rw [hz, Option.getD_some] at b2 b4;simp only [FRow.start, f104, c104r0, c104r1, benchC, bnV, ints, hy, hz, go_sem, Nat.reduceAdd, Nat.reduceSub, Nat.reduceLeDiff, true_implies];refine ⟨inR_abs (by omega), inR_abs (by omega), inR_abs (by omega), inR_abs (by omega), ?_⟩
 simp only [c104r2, go_sem, Nat.reduceAdd, Nat.reduceLeDiff];intro _;rw [<- h0]
 refine loop_rule (fun m τ => ∃ j : Nat, m = hs.length - j /\ j <= hs.length /\
  τ = ⟨((aI i)::(.s (.ptr [benchC s N p]))::aN::aN::aN::(aI (ovT s N p d g hs i j))::aN::aN::aN::aN::aN::aN::aN::aN::aN::aN::aN::aN::aN::aN::aN::aN::aN::aN::aN::aN::aN::aN::aN::aN::aN::aN::aN::aN::aN::(.s (ints hs))::(aI hs.length)::(aI j)::aN::aN::aZ16), []⟩) hs.length rfl ?_ ?_
 ·simp only [c104l7m, go_sem]
  exact ⟨0, rfl, Nat.zero_le _, rfl⟩
 ·rintro I m τ ⟨j, rfl, hj, rfl⟩ hI
  simp only [c104l7, c104r3, go_sem, ↓reduceIte, true_implies];refine ⟨fun hlt => ?_, fun hge => ?_⟩
  ·have hlt : j < hs.length := by omega
   have hx : hs[j]? = some hs[j] := List.getElem?_eq_getElem hlt;have c1 := tnh_le h.toOkP q i j;have c2 := ovT_le h.toOkP q (i := i) (j := j + 1) (by omega)
   have c3 := ovT_succ (s := s) (N := N) (p := p) (d := d) (g := g) (hs := hs) (i := i) (j := j);rw [hx, Option.getD_some] at c1 c3;generalize hs[j] = x at hx c1 c3;simp only [c104r4, ints, hx, c104r5, benchC, bnV, go_sem, ↓reduceIte, Nat.reduceAdd, Nat.reduceLeDiff, true_implies];refine ⟨hm.key i j hi (by omega), hm.nod, hm.look hi (by omega) ?_⟩
   simp only [go_sem, true_implies];refine ⟨inR_abs (by omega), inR_abs (by omega), ?_⟩
   simp only [c104r6, c104l7m, go_sem, true_implies];exact ⟨inR_small (by omega) (by omega), hI (hs.length - (j + 1)) _ (by omega) ⟨j + 1, rfl, by omega, by rw [c3]; rfl⟩⟩
  ·have hje : j = hs.length := by omega
   subst hje;simp only [c104r8, go_sem, true_implies];unfold ovN;rw [<- hl]
def kd (m l : Bool) : Int := (if m then 1 else 0) + (if l then 2 else 0)
theorem kd_most {m l : Bool} : bitOf .i64 (kd m l) 1 .andNot = kd false l := by cases m <;> cases l <;> decide
theorem kd_least {m l : Bool} : bitOf .i64 (kd m l) 2 .andNot = kd m false := by cases m <;> cases l <;> decide
def mostB (s : Int) (N : List (List Int)) (p : List Int) (d g : Int) (hs : List Int) (i : Nat) : Bool := (List.range i).all fun k => decide (ovN s N p d g hs k <= 0)
def leastB (s : Int) (N : List (List Int)) (p : List Int) (d g : Int) (hs : List Int) (i : Nat) : Bool := (List.range i).all fun k => decide (0 <= ovN s N p d g hs k)
def prB (d g : Int) (hs : List Int) : Bool := withinB 1 1099511627776 [d] && withinB (-1125899906842624) 1125899906842624 [g] && withinB (-1125899906842624) 1125899906842624 hs
theorem prB_iff {d g : Int} {hs : List Int} : prB d g hs = true ↔ PrOk d g hs := by
 unfold prB;rw [Bool.and_eq_true, Bool.and_eq_true, within_iff, within_iff, within_iff];constructor
 ·rintro ⟨⟨h1, h2⟩, h3⟩
  have h1 := h1 d (by simp)
  have h2 := h2 g (by simp)
  exact ⟨h1.1, h1.2, h2, h3⟩
 ·intro h
  refine ⟨⟨?_, ?_⟩, h.h1⟩
  ·intro x hx
   rw [List.mem_singleton.1 hx];exact ⟨h.d1, h.d2⟩
  ·intro x hx
   rw [List.mem_singleton.1 hx];exact h.g1
def ckP (s : Int) (N : List (List Int)) (p : List Int) (d g : Int) (hs : List Int) : Int × Int :=
 if chkM s N p = 0 then (if (hs.length : Int) = N.length then (if prB d g hs = true then (if kd (mostB s N p d g hs N.length) (leastB s N p d g hs N.length) = 0 then (0, 14) else (kd (mostB s N p d g hs N.length) (leastB s N p d g hs N.length), 0)) else (0, 3)) else (0, 15)) else (0, chkM s N p)
def ckPR (q : Int × Int) : List SV := [.int .i64 q.1, .int .i64 q.2]
theorem most_succ {s : Int} {N : List (List Int)} {p : List Int} {d g : Int} {hs : List Int} {i : Nat} : mostB s N p d g hs (i + 1) = (mostB s N p d g hs i && decide (ovN s N p d g hs i <= 0)) := by
 unfold mostB; rw [List.range_succ, List.all_append]; simp
theorem least_succ {s : Int} {N : List (List Int)} {p : List Int} {d g : Int} {hs : List Int} {i : Nat} : leastB s N p d g hs (i + 1) = (leastB s N p d g hs i && decide (0 <= ovN s N p d g hs i)) := by
 unfold leastB; rw [List.range_succ, List.all_append]; simp
set_option maxHeartbeats 1000000 in
theorem k29 {s : Int} {N : List (List Int)} {p : List Int} {d g : Int} {hs : List Int} : E.Fn Tryz.prog 29 [mc s N p, prV d g hs] (ckPR (ckP s N p d g hs)) := by
 refine fn_of_row okf29 ?_;have h48 := k49 (s := s) (N := N) (p := p);unfold ckPR ckP;unfold openR at h48;simp only [FRow.start, f29, c29r0, c29r1, mc, prV, SV.cells, List.length_cons, List.length_nil, go_sem, Nat.reduceAdd, Nat.reduceSub, true_implies]
 by_cases h0 : chkM s N p = 0
 ·rw [if_pos h0] at h48
  rw [if_pos h0];have h := chkM_zero.1 h0;have hn4 := h.n4;refine callK_of rfl h48 (.inr (.inl rfl)) ?_
  simp only [c29r2, c29r4, ints, intss, go_sem, Nat.reduceAdd, Nat.reduceLeDiff, true_implies];intro _
  by_cases h1 : (hs.length : Int) = N.length
  ·rw [if_pos h1]
   simp only [h1, c29r6, go_sem, Nat.reduceAdd, Nat.reduceLeDiff, Nat.reduceMul, Int.reduceNeg, not_true_eq_false, false_implies, true_implies];refine ⟨by decide, by decide, rfl, one_int, ?_⟩
   refine callK_of (by simp only [ints, List.map_cons, List.map_nil, go_sem]) (k50 (lo := 1) (hi := 1099511627776) (l := [d])) (.inl rfl) ?_
   unfold prB
   cases hw1 : withinB 1 1099511627776 [d] with
   | false =>
    simp only [c29r7, go_sem, Int.reduceNeg, true_implies];simp
   | true =>
    simp only [go_sem, Nat.reduceAdd, Nat.reduceLeDiff, Nat.reduceMul, Int.reduceNeg];refine ⟨by decide, by decide, rfl, one_int, ?_⟩
    refine callK_of (by simp only [ints, List.map_cons, List.map_nil, go_sem, Int.reduceNeg]) (k50 (lo := -1125899906842624) (hi := 1125899906842624) (l := [g])) (.inl rfl) ?_
    cases hw2 : withinB (-1125899906842624) 1125899906842624 [g] with
    | false =>
     simp only [c29r7, go_sem, Int.reduceNeg, true_implies];simp
    | true =>
     simp only [go_sem, Nat.reduceAdd, Nat.reduceLeDiff, Int.reduceNeg];refine callK_of (by simp only [ints, go_sem, Int.reduceNeg]) (k50 (lo := -1125899906842624) (hi := 1125899906842624) (l := hs)) (.inl rfl) ?_
     cases hw3 : withinB (-1125899906842624) 1125899906842624 hs with
     | false =>
      simp only [c29r7, go_sem, true_implies];simp
     | true =>
      have q : PrOk d g hs := prB_iff.1 (by unfold prB; rw [hw1, hw2, hw3]; rfl)
      have hl : hs.length = N.length := by omega
      have h79 : ∀ i : Nat, i < N.length -> E.Fn Tryz.prog 104 [.int .i64 i, .ptr [benchC s N p], .ptr [.int .i64 d, .int .i64 g, ints hs]] [.int .i64 (ovN s N p d g hs i)] := fun i hi => k104 h q hl hi
      simp only [c29r8, c29r9, List.length_cons, List.length_nil, go_sem, ↓reduceIte, Nat.reduceAdd, true_implies];refine callK_of (by simp only [prV, benchC, bnV, intss, ints, go_sem]) (k79 (s := s) (N := N) (p := p) (d := d) (g := g) (hs := hs)) (.inr (.inl (by simp only [prV, benchC, bnV, intss, ints, go_sem]))) ?_
      simp only [c29r10, go_sem, Nat.reduceAdd, Nat.reduceLeDiff, true_implies];intro _
      refine loop_rule (fun m τ => ∃ i : Nat, m = N.length - i /\ i <= N.length /\
       τ = ⟨[.any, .any, .any, .any, .any, .any, .any, .any, aI (kd (mostB s N p d g hs i) (leastB s N p d g hs i)), .s (.fn 104 [] [.ptr [benchC s N p], .ptr [.int .i64 d, .int .i64 g, ints hs]]), .any, .any, .any, .any, .any, .any, .any, .any, .any, .any, .any, .any, .any, .any, .any, .any, .any, .any, .any, .any, .any, .any, .any, .any, .any, .any, .any, .any, .any, .any, .any, .any, .any, .any, .any, .any, .any, .any, .any, .any, .any, .any, .any, aI N.length, aI i, .any, .any, .any, .any, .any, .any, .any, .any, .any, .any, .any, .any, .any, .any, .any, .any, .any, .any, .any], []⟩) N.length rfl ?_ ?_
      ·simp only [c29l19m, go_sem]
       exact ⟨0, rfl, Nat.zero_le _, rfl⟩
      ·rintro I m τ ⟨i, rfl, hi, rfl⟩ hI
       simp only [c29l19, c29r11, go_sem, ↓reduceIte, true_implies];refine ⟨fun hlt => ?_, fun hge => ?_⟩
       ·have hlt : i < N.length := by omega
        have e1 := most_succ (s := s) (N := N) (p := p) (d := d) (g := g) (hs := hs) (i := i);have e2 := least_succ (s := s) (N := N) (p := p) (d := d) (g := g) (hs := hs) (i := i);have hk := h79 i hlt;generalize ovN s N p d g hs i = v at hk e1 e2;generalize mostB s N p d g hs i = bm at e1;generalize leastB s N p d g hs i = bl at e2;simp only [c29r12, c29r13, go_sem, true_implies];refine ⟨by kernel_rfl, ?_⟩
        refine callK_of (by simp only [go_sem]) hk (.inl rfl) ?_
        have fin : ∀ kv : Int, kv = kd (bm && decide (v <= 0)) (bl && decide (0 <= v)) -> I ⟨[.any, .any, .any, .any, .any, .any, .any, .any, aI kv, .s (.fn 104 [] [.ptr [benchC s N p], .ptr [.int .i64 d, .int .i64 g, ints hs]]), .any, .any, .any, .any, .any, .any, .any, .any, .any, .any, .any, .any, .any, .any, .any, .any, .any, .any, .any, .any, .any, .any, .any, .any, .any, .any, .any, .any, .any, .any, .any, .any, .any, .any, .any, .any, .any, .any, .any, .any, .any, .any, .any, aI N.length, aI (i + 1), .any, .any, .any, .any, .any, .any, .any, .any, .any, .any, .any, .any, .any, .any, .any, .any, .any, .any, .any], []⟩ := fun kv hk => hI (N.length - (i + 1)) _ (by omega) ⟨i + 1, rfl, by omega, by rw [e1, e2, hk]; rfl⟩
        simp only [c29r14, go_sem, true_implies];refine ⟨fun hv => ?_, fun hv => ?_⟩
        ·rw [decide_eq_false (by omega), decide_eq_true (by omega), Bool.and_false, Bool.and_true] at fin
         simp only [c29r15, kd_most, c29r18, c29l19m, go_sem, true_implies];exact ⟨inR_small (by omega) (by omega), fin _ rfl⟩
        ·rw [decide_eq_true (by omega), Bool.and_true] at fin
         simp only [c29r16, go_sem, true_implies];refine ⟨fun hv2 => ?_, fun hv2 => ?_⟩
         ·rw [decide_eq_false (by omega), Bool.and_false] at fin
          simp only [c29r17, kd_least, c29r18, c29l19m, go_sem, true_implies];exact ⟨inR_small (by omega) (by omega), fin _ rfl⟩
         ·rw [decide_eq_true (by omega), Bool.and_true] at fin
          simp only [c29r18, c29l19m, go_sem, true_implies];exact ⟨inR_small (by omega) (by omega), fin _ rfl⟩
       ·have hie : i = N.length := by omega
        subst hie;simp only [c29r20, go_sem, true_implies];refine ⟨fun hk => ?_, fun hk => ?_⟩
        ·rw [if_pos hk]
         simp only [c29r21, go_sem, true_implies]
        ·rw [if_neg hk]
         simp only [c29r22, go_sem, true_implies]
  ·rw [if_neg h1]
   simp only [h1, c29r5, go_sem, false_implies, true_implies, not_false_eq_true]
   done
 ·rw [if_neg h0] at h48
  rw [if_neg h0];refine callK_of rfl h48 (.inr (.inl rfl)) ?_
  simp only [h0, c29r2, c29r3, go_sem, true_implies]
section
variable {s : Int} {N : List (List Int)} {p : List Int} {d g : Int} {hs : List Int}
def aT (s : Int) (N : List (List Int)) (p : List Int) (d : Int) (hs : List Int) (i j : Nat) : Int := s * p[i]?.getD 0 * d + ((List.range j).map fun k => tn N i k * hs[k]?.getD 0).sum
theorem aT_succ {i j : Nat} : aT s N p d hs i (j + 1) = aT s N p d hs i j + tn N i j * hs[j]?.getD 0 := by
 unfold aT;rw [List.range_succ, List.map_append, List.sum_append];simp only [List.map_cons, List.map_nil, List.sum_cons, List.sum_nil];omega
theorem aT_ov {i j : Nat} : aT s N p d hs i j - s * (g + hs[i]?.getD 0) = ovT s N p d g hs i j := by
 unfold aT ovT;generalize ((List.range j).map fun k => tn N i k * hs[k]?.getD 0).sum = x
 generalize p[i]?.getD 0 = y;generalize hs[i]?.getD 0 = z
 grind
end
theorem prB_false {d g : Int} {hs : List Int} (h : ¬ PrOk d g hs) : prB d g hs = false := by
 cases hb : prB d g hs with
 | false => rfl
 | true => exact absurd (prB_iff.1 hb) h
set_option maxHeartbeats 2000000 in
theorem k30 {s : Int} {N : List (List Int)} {p : List Int} {d g : Int} {hs : List Int} : E.Fn Tryz.prog 30 [mc s N p, prV d g hs] (ckPR (ckP s N p d g hs)) := by
 refine fn_of_row okf30 ?_;have h15 := k52 (s := s) (N := N) (p := p);unfold ckPR ckP;simp only [FRow.start, f30, c30r0, c30r1, mc, prV, SV.cells, List.length_cons, List.length_nil, go_sem, Nat.reduceAdd, Nat.reduceSub, true_implies];refine callK_of rfl h15 (.inl rfl) ?_
 by_cases h0 : chkM s N p = 0
 ·rw [if_pos h0]
  have h := chkM_zero.1 h0;have hn4 := h.n4;simp only [h0, c30r3, ints, intss, go_sem, Nat.reduceAdd, Nat.reduceLeDiff, true_implies];intro _
  by_cases h1 : (hs.length : Int) = N.length
  ·rw [if_pos h1]
   have hl : hs.length = N.length := by omega
   by_cases hd1 : d < 1
   ·rw [prB_false (fun q => absurd q.d1 (by omega))]
    simp only [h1, hd1, c30r5, c30r6, go_sem, ↓reduceIte, reduceCtorEq, Nat.reduceAdd, Nat.reduceLeDiff, Int.reduceNeg, not_true_eq_false, false_implies, true_implies]
    done
   ·by_cases hd2 : 1099511627776 < d
    ·rw [prB_false (fun q => absurd q.d2 (by omega))]
     simp only [h1, hd1, hd2, c30r5, c30r6, go_sem, ↓reduceIte, reduceCtorEq, Nat.reduceAdd, Nat.reduceLeDiff, Int.reduceNeg, not_true_eq_false, false_implies, true_implies]
     done
    ·by_cases hg1 : g < -1125899906842624
     ·rw [prB_false (fun q => absurd q.g1 (by omega))]
      simp only [h1, hd1, hd2, hg1, c30r5, c30r6, go_sem, ↓reduceIte, reduceCtorEq, Nat.reduceAdd, Nat.reduceLeDiff, Int.reduceNeg, not_true_eq_false, false_implies, true_implies]
      done
     ·by_cases hg2 : 1125899906842624 < g
      ·rw [prB_false (fun q => absurd q.g1 (by omega))]
       simp only [h1, hd1, hd2, hg1, hg2, c30r5, c30r6, go_sem, ↓reduceIte, reduceCtorEq, Nat.reduceAdd, Nat.reduceLeDiff, Int.reduceNeg, not_true_eq_false, false_implies, true_implies]
       done
      ·simp only [h1, hd1, hd2, hg1, hg2, c30r5, c30r7, go_sem, Nat.reduceAdd, Nat.reduceLeDiff, Int.reduceNeg, not_true_eq_false, false_implies, true_implies]
       refine loop_rule (fun m τ => ∃ i : Nat, m = hs.length - i /\ i <= hs.length /\ (∀ x ∈ hs.take i, -2 ^ 50 <= x /\ x <= 2 ^ 50) /\
        τ = ⟨(aN::aN::(.s (.ptr [.int .i64 s, intss N, ints p]))::(.s (.ptr [.int .i64 d, .int .i64 g, ints hs]))::aN::aN::(aI i)::aN::aN::aN::aN::aN::aN::aN::aZ120), []⟩) hs.length rfl ?_ ?_
       ·simp only [c30l12m, go_sem]
        exact ⟨0, rfl, Nat.zero_le _, by simp, rfl⟩
       ·rintro I m τ ⟨i, rfl, hi, hall, rfl⟩ hI
        simp only [c30l12, c30r8, ints, go_sem, ↓reduceIte, Nat.reduceAdd, Nat.reduceLeDiff];intro _;refine ⟨fun hlt => ?_, fun hge => ?_⟩
        ·have hlt : i < hs.length := by omega
         have hx : hs[i]? = some hs[i] := List.getElem?_eq_getElem hlt;generalize hs[i] = x at hx;simp only [c30r9, hx, go_sem, Nat.reduceAdd, Nat.reduceLeDiff, Int.reduceNeg, true_implies]
         by_cases hx1 : x < -1125899906842624
         ·rw [prB_false (fun q => absurd (q.h1 x (List.mem_of_getElem? hx)) (by omega))]
          simp only [hx1, c30r10, go_sem, ↓reduceIte, reduceCtorEq, Int.reduceNeg, not_true_eq_false, false_implies, true_implies]
          done
         ·by_cases hx2 : 1125899906842624 < x
          ·rw [prB_false (fun q => absurd (q.h1 x (List.mem_of_getElem? hx)) (by omega))]
           simp only [hx1, hx2, c30r10, go_sem, ↓reduceIte, reduceCtorEq, Int.reduceNeg, not_true_eq_false, false_implies, true_implies, not_false_eq_true]
           done
          ·simp only [hx1, hx2, c30r11, c30l12m, go_sem, Int.reduceNeg, false_implies, true_implies, not_false_eq_true]
           exact ⟨inR_small (by omega) (by omega), hI (hs.length - (i + 1)) _ (by omega) ⟨i + 1, rfl, by omega, all_snoc hx hall (by omega), rfl⟩⟩
        ·have hie : i = hs.length := by omega
         subst hie;rw [List.take_length] at hall;have q : PrOk d g hs := ⟨by omega, by omega, by omega, hall⟩
         rw [prB_iff.2 q, if_pos rfl];simp only [c30r13, c30r14, go_sem, true_implies]
         refine loop_rule (fun m τ => ∃ i : Nat, m = N.length - i /\ i <= N.length /\
          τ = ⟨(aN::aN::(.s (.ptr [.int .i64 s, intss N, ints p]))::(.s (.ptr [.int .i64 d, .int .i64 g, ints hs]))::aN::aN::aN::(.s (.bool (mostB s N p d g hs i)))::(.s (.bool (leastB s N p d g hs i)))::(aI i)::aN::aN::aN::aN::aZ120), []⟩) N.length rfl ?_ ?_
         ·simp only [c30l24m, go_sem]
          exact ⟨0, rfl, Nat.zero_le _, rfl⟩
         ·clear hI I
          rintro I m τ ⟨i, rfl, hi, rfl⟩ hI;simp only [c30l24, c30r15, intss, go_sem, ↓reduceIte, Nat.reduceAdd, Nat.reduceLeDiff];intro _;refine ⟨fun hlt => ?_, fun hge => ?_⟩
          ·have hi : i < N.length := by omega
           have hx : N[i]? = some N[i] := List.getElem?_eq_getElem hi;have hxl := h.sq _ (List.getElem_mem hi);have htn : ∀ k, tn N i k = (N[i][k]?).getD 0 := fun k => by unfold tn; rw [hx]; rfl
           generalize N[i] = l at hx hxl htn;obtain ⟨y, hy⟩ : ∃ y, p[i]? = some y := ⟨_, List.getElem?_eq_getElem (by rw [h.pl]; exact hi)⟩
           obtain ⟨z, hz⟩ : ∃ z, hs[i]? = some z := ⟨_, List.getElem?_eq_getElem (by omega)⟩
           have b0 := pay_le h.toOkP i;have b1 := payd_le h.toOkP q i;have b2 := q.get i;have b5 := sp_le h.toOkP (x := p[i]?.getD 0 * d) b1;have b6 := sp_le h.toOkP (x := g + hs[i]?.getD 0) (B := 2 ^ 51) (by omega)
           have b7 := sp_le h.toOkP (x := p[i]?.getD 0) (B := 1000) (by omega)
           rw [<- Int.mul_assoc] at b5;have ha0 : aT s N p d hs i 0 = s * y * d := by unfold aT; rw [hy]; simp
           have e1 := most_succ (s := s) (N := N) (p := p) (d := d) (g := g) (hs := hs) (i := i);have e2 := least_succ (s := s) (N := N) (p := p) (d := d) (g := g) (hs := hs) (i := i);have hao := fun j => aT_ov (s := s) (N := N) (p := p) (d := d) (g := g) (hs := hs) (i := i) (j := j)
           have hob := fun j (hj : j <= 4) => ovT_le h.toOkP q (i := i) hj
           rw [hz, Option.getD_some] at b2 b6 hao;rw [hy, Option.getD_some] at b5 b7;generalize mostB s N p d g hs i = bm at e1;generalize leastB s N p d g hs i = bl at e2;simp only [c30r16, ints, hy, hz, go_sem, Nat.reduceAdd, Nat.reduceLeDiff, true_implies];refine ⟨inR_abs (by omega), inR_abs (by omega), inR_abs (by omega), inR_abs (by omega), ?_⟩
           simp only [c30r17, go_sem, true_implies];rw [<- ha0]
           refine loop_rule (fun m τ => ∃ j : Nat, m = N.length - j /\ j <= N.length /\
            τ = ⟨(aN::aN::(.s (.ptr [.int .i64 s, intss N, ints p]))::(.s (.ptr [.int .i64 d, .int .i64 g, ints hs]))::aN::aN::aN::(.s (.bool bm))::(.s (.bool bl))::(aI i)::(aI (aT s N p d hs i j))::(aI (s * (g + z)))::(aI j)::aN::aZ120), []⟩) N.length rfl ?_ ?_
           ·simp only [c30l21m, go_sem]
            exact ⟨0, rfl, Nat.zero_le _, rfl⟩
           ·rintro I2 m τ ⟨j, rfl, hj, rfl⟩ hI2
            simp only [c30l21, c30r18, intss, go_sem, ↓reduceIte, Nat.reduceAdd, Nat.reduceLeDiff];intro _;refine ⟨fun hlt => ?_, fun hge => ?_⟩
            ·have hj : j < N.length := by omega
             obtain ⟨u, hu⟩ : ∃ u, l[j]? = some u := ⟨_, List.getElem?_eq_getElem (by omega)⟩
             obtain ⟨v, hv⟩ : ∃ v, hs[j]? = some v := ⟨_, List.getElem?_eq_getElem (by omega)⟩
             have c1 := tnh_le h.toOkP q i j;have c3 := aT_succ (s := s) (N := N) (p := p) (d := d) (hs := hs) (i := i) (j := j);have c4 := hao (j + 1);have c5 := hob (j + 1) (by omega)
             rw [htn, hu, hv] at c1 c3;simp only [Option.getD_some] at c1 c3;simp only [c30r19, hx, ints, hu, hv, go_sem, Nat.reduceAdd, Nat.reduceLeDiff, true_implies];refine ⟨inR_abs (by omega), inR_abs (by omega), ?_⟩
             simp only [c30r20, c30l21m, go_sem, true_implies];exact ⟨inR_small (by omega) (by omega), hI2 (N.length - (j + 1)) _ (by omega) ⟨j + 1, rfl, by omega, by rw [c3]; rfl⟩⟩
            ·have hje : j = N.length := by omega
             subst hje;have c4 := hao N.length;rw [show ovT s N p d g hs i N.length = ovN s N p d g hs i from rfl] at c4;have f1 : (aT s N p d hs i N.length <= s * (g + z)) ↔ ovN s N p d g hs i <= 0 := by omega
             have f2 : (s * (g + z) <= aT s N p d hs i N.length) ↔ 0 <= ovN s N p d g hs i := by omega
             have fin : I ⟨(aN::aN::(.s (.ptr [.int .i64 s, intss N, ints p]))::(.s (.ptr [.int .i64 d, .int .i64 g, ints hs]))::aN::aN::aN::(.s (.bool (bm && decide (ovN s N p d g hs i <= 0))))::(.s (.bool (bl && decide (0 <= ovN s N p d g hs i))))::(aI (i + 1))::aN::aN::aN::aN::aZ120), []⟩ := hI (N.length - (i + 1)) _ (by omega) ⟨i + 1, rfl, by omega, by rw [e1, e2]; rfl⟩
             have g1 : decide (aT s N p d hs i N.length <= s * (g + z)) = decide (ovN s N p d g hs i <= 0) := decide_eq_decide.2 f1;have g2 : decide (s * (g + z) <= aT s N p d hs i N.length) = decide (0 <= ovN s N p d g hs i) := decide_eq_decide.2 f2;clear hI hI2 hob hao;generalize ovN s N p d g hs i = v at *;generalize aT s N p d hs i N.length = av at *;generalize s * (g + z) = bv at *
             cases bm
             all_goals
              cases bl
              all_goals
               simp only [c30r22, go_sem, true_implies];simp only [g1, g2, c30r23, c30l24m, go_sem, true_implies];refine ⟨inR_small (by omega) (by omega), ?_⟩
               simp only [Bool.false_and, Bool.true_and] at fin;exact fin
          ·have hie : i = N.length := by omega
           subst hie;generalize mostB s N p d g hs N.length = bm;generalize leastB s N p d g hs N.length = bl
           cases bm
           all_goals
            cases bl
            all_goals
             simp only [c30r25, c30r26, c30r27, c30r28, c30r29, c30r30, c30r31, go_sem, true_implies]
             try rfl
  ·rw [if_neg h1]
   simp only [h1, c30r4, go_sem, false_implies, true_implies, not_false_eq_true]
   done
 ·rw [if_neg h0]
  simp only [h0, c30r2, List.length_cons, List.length_nil, go_sem, Nat.reduceAdd, true_implies];refine callK_of rfl h15 (.inl rfl) ?_
  simp only [go_sem, true_implies]
  done
theorem spl_three {a b c x y z : LV} : splice [a, b, c] 0 [x, y, z] = [x, y, z] := rfl
theorem rchC_head {g : Nat -> Nat -> Bool} {n c : Nat} (hc : isPC g n c = true) : ∃ l, rchC g n c = (c : Int) :: l := by
 obtain ⟨h1, h2⟩ := isPC_iff.1 hc;have hm := reach_iff.1 h1;unfold rchC;rw [rB_filter] at hm ⊢;have hp : ((List.range n).filter fun k => decide (k ∈ rB g n c n)).Pairwise (· < ·) := List.pairwise_lt_range.filter _
 cases hL : (List.range n).filter fun k => decide (k ∈ rB g n c n) with
 | nil => rw [hL] at hm; cases hm
 | cons x l =>
  rw [hL] at hm hp;have hx : x ∈ (List.range n).filter fun k => decide (k ∈ rB g n c n) := by rw [hL]; simp
  have hx2 := of_decide_eq_true (List.mem_filter.1 hx).2;have hle := (h2 x (reach_iff.2 hx2)).1
  have : x = c := by
   rcases List.mem_cons.1 hm with h | h
   ·exact h.symm
   ·have := (List.pairwise_cons.1 hp).1 c h
    omega
  exact ⟨l.map fun k : Nat => (k : Int), by rw [this]; rfl⟩
def putT (st : List Nat) (l : List Int) (R : List Int) (k : Nat) : List Int := (List.range k).foldl (fun R j => R.set (st[j]?.getD 0) (l[j]?.getD 0)) R
theorem putT_succ {st : List Nat} {l R : List Int} {k : Nat} : putT st l R (k + 1) = (putT st l R k).set (st[k]?.getD 0) (l[k]?.getD 0) := by
 unfold putT; rw [List.range_succ, List.foldl_append]; rfl
theorem putT_len {st : List Nat} {l R : List Int} : ∀ {k : Nat}, (putT st l R k).length = R.length
 | 0 => rfl
 | k + 1 => by rw [putT_succ, List.length_set, putT_len]
def colQ (s : Int) (N : List (List Int)) (p : List Int) (i : Nat) : Int := s * (p[i]?.getD 0 * (rootsN s N).sum - gainN s N p)
def prfH (s : Int) (N : List (List Int)) (p : List Int) (c : Nat) : List Int := putT (stO N.length c) (solL s N (stO N.length c) ((stO N.length c).map (colQ s N p))) (List.replicate N.length 0) (stO N.length c).length
def prfD (s : Int) (N : List (List Int)) (c : Nat) : Int := rootN s N c * (rootsN s N).sum
def prfG (s : Int) (N : List (List Int)) (p : List Int) (c : Nat) : Int := gainN s N p * rootN s N c
theorem stO_len {n c : Nat} : (stO n c).length <= n := by
 unfold stO; exact Nat.le_trans (List.length_filter_le _ _) (by simp)
theorem mul_le_nat {a b : Int} {A B : Nat} (ha : a.natAbs <= A) (hb : b.natAbs <= B) : (a * b).natAbs <= A * B := by
 rw [Int.natAbs_mul]; exact Nat.mul_le_mul ha hb
theorem pr_le {s : Int} {N : List (List Int)} {p : List Int} (h : OkM s N p) (i : Nat) : (p[i]?.getD 0 * (rootsN s N).sum).natAbs <= 1000 * 32000 := by
 have h1 := roots_32 h.s;have h2 := roots_nonneg h.s;have h3 := pay_le h.toOkP i;exact mul_le_nat (by omega) (by omega)
theorem colQ_le {s : Int} {N : List (List Int)} {p : List Int} (h : OkM s N p) (i : Nat) : (p[i]?.getD 0 * (rootsN s N).sum - gainN s N p).natAbs <= 32000000 /\ (colQ s N p i).natAbs <= 640000000 := by
 have h1 := roots_32 h.s;have h2 := roots_nonneg h.s;have h3 := pay_le h.toOkP i;have h4 := gain_le h;have h5 : 0 <= gainN s N p := gainT_nonneg h (Nat.le_refl _);have h6 := pr_le h i;have h7 : 0 <= p[i]?.getD 0 * (rootsN s N).sum := Int.mul_nonneg h3.1 h2;have h8 : (p[i]?.getD 0 * (rootsN s N).sum - gainN s N p).natAbs <= 32000000 := by omega
 have h9 := sp_le h.toOkP h8;exact ⟨h8, h9⟩
set_option maxHeartbeats 2000000 in
theorem k78 {s : Int} {N : List (List Int)} {p : List Int} {c : Nat} (h : OkM s N p) (hS : (parts N).length <= 1) (hc : firsts N = [c]) :
  E.Fn Tryz.prog 78 [benchC s N p] [prV (prfD s N c) (prfG s N p c) (prfH s N p c)] := by
 refine fn_of_row okf78 ?_;have hn4 := h.n4;have hk73 := k58 (p := p) h.toOkN;have hsp := roots_pos h hS;have hrl : (rootsN s N).length = N.length := by simp [rootsN]
 have hrt : ∀ i, i < N.length -> (rootsN s N)[i]? = some (rootN s N i) := fun i hi => by
  unfold rootsN; rw [List.getElem?_map, List.getElem?_range hi]; rfl
 have hk52 := k60 (l := rootsN s N) (by rw [hrl]; omega) (fun x hx => by
  obtain ⟨i, hi, rfl⟩ := mem_rootsN.1 hx;have h1 := root_nonneg h.s hi;have h2 := root_le h.toOkN (i := i);omega)
 have hcp : isPC (gr N) N.length c = true := mem_firsts.1 (by rw [hc]; simp)
 have hcn : c < N.length := (isPC_iff.1 hcp).1.lt;obtain ⟨tl, htl⟩ := rchC_head hcp;have hpt : (parts N)[0]? = some ((c : Int) :: tl) := by rw [parts_eq, hc, <- htl]; rfl
 have h32 := roots_32 h.s;have hroot := root_8 h.s hcn;have hroot0 := root_nonneg h.s hcn;have hgle := gain_le h;have hg0 : 0 <= gainN s N p := gainT_nonneg h (Nat.le_refl _);have hg34 : ∀ i, i <= 4 -> (gainT s N p i).natAbs <= 2 ^ 34 := fun i hi => gainT_le h.toOkP hi
 simp only [FRow.start, f78, c78r0, c78r1, go_sem, Nat.reduceSub, true_implies];refine callK_of (by simp only [ints, benchC, bnV, go_sem]) hk73 (.inr (.inl (by simp only [ints, benchC, bnV, go_sem]))) ?_
 simp only [c78r2, go_sem, true_implies];refine callK_of (by simp only [ints, go_sem]) hk52 (.inl rfl) ?_
 simp only [c78r3, c78r4, ints, hrl, go_sem, true_implies];intro _
 refine loop_rule (fun m τ => ∃ i : Nat, m = N.length - i /\ i <= N.length /\
  τ = ⟨((.s (benchC s N p))::aN::(.loc 0 0)::aN::(.s (.int .i64 (rootsN s N).sum))::(aI (gainT s N p i))::aN::aN::aN::aN::aN::aN::aN::aN::aN::aN::aN::aN::aN::aN::aN::(.s (ints (rootsN s N)))::(aI N.length)::(aI i)::aN::aN::aN::aN::aZ88), [.obj [aI 0, aI 0, .full []]]⟩) N.length rfl ?_ ?_
 ·simp only [c78l9m, go_sem, ↓reduceIte, reduceCtorEq, Nat.reduceLeDiff]
  exact ⟨0, rfl, Nat.zero_le _, rfl⟩
 ·rintro I m τ ⟨i, rfl, hi, rfl⟩ hI
  simp only [c78l9, c78r5, go_sem, ↓reduceIte, true_implies];refine ⟨fun hlt => ?_, fun hge => ?_⟩
  ·have hlt : i < N.length := by omega
   obtain ⟨y, hy⟩ : ∃ y, p[i]? = some y := ⟨_, List.getElem?_eq_getElem (by rw [h.pl]; exact hlt)⟩
   have hrb := root_le h.toOkN (i := i);have hpb := pay_le h.toOkP i;have hmb := mul_le_nat hrb (show (p[i]?.getD 0).natAbs <= 1000 by omega)
   have hs1 := hg34 (i + 1) (by omega)
   have hgs := gainT_succ (s := s) (N := N) (p := p) (i := i);rw [hy, Option.getD_some] at hmb hgs;simp only [c78r6, ints, hrt i hlt, c78r7, benchC, bnV, hy, go_sem, Nat.reduceAdd, Nat.reduceLeDiff, true_implies];refine ⟨inR_abs (by omega), inR_abs (by omega), ?_⟩
   simp only [c78r8, c78l9m, go_sem, ↓reduceIte, reduceCtorEq, Nat.reduceLeDiff, true_implies];exact ⟨inR_small (by omega) (by omega), hI (N.length - (i + 1)) _ (by omega) ⟨i + 1, rfl, by omega, by rw [hgs]; rfl⟩⟩
  ·have hie : i = N.length := by omega
   subst hie;rw [show gainT s N p N.length = gainN s N p from rfl]
   have hk80 : E.Fn Tryz.prog 88 [benchC s N p, ints [(c : Int)]] [ints (nats (stO N.length c))] := by
    rw [<- wout_one];exact k88 (by omega)
   have hk81 := fun col (h1 : col.length = (stO N.length c).length) (h2 : ∀ x ∈ col, x.natAbs <= 2 ^ 38) => k92 (p := p) h.toOkN (st := stO N.length c) (col := col) (fun _ => stO_lt) (by have := stO_len (n := N.length) (c := c); omega) h1 h2
   have hdr : detS s N (stO N.length c) = rootN s N c := by unfold rootN; rw [wout_one]
   rw [hdr] at hk81;have hol := stO_len (n := N.length) (c := c);have hoL : ∀ i ∈ stO N.length c, i < N.length := fun _ => stO_lt
   unfold prfH;have hnl : (nats (stO N.length c)).length = (stO N.length c).length := by simp [nats]
   generalize stO N.length c = st at *;simp only [c78r10, benchC, bnV, intss, hpt, ints, go_sem, ↓reduceIte, Nat.reduceAdd, Nat.reduceSub, Nat.reduceLeDiff, Int.reduceLE, Int.reduceToNat];refine callK_of (by simp only [benchC, bnV, ints, intss, List.map_cons, List.map_nil, go_sem]) hk80 (.inr (.inl (by simp only [benchC, bnV, ints, intss, List.map_cons, List.map_nil, go_sem]))) ?_
   simp only [c78r11, c78r12, ints, hnl, go_sem, true_implies];intro _
   refine loop_rule (fun m τ => ∃ i : Nat, m = st.length - i /\ i <= st.length /\
    τ = ⟨((.s (benchC s N p))::aN::(.loc 0 0)::aN::(.s (.int .i64 (rootsN s N).sum))::(aI (gainN s N p))::aN::aN::(.s (ints (nats st)))::(.sl 1 0 i 1 false)::aN::aN::aN::aN::aN::aN::aN::aN::aN::aN::aN::aN::aN::aN::aN::aN::aN::aN::aN::aN::aN::aN::aN::aN::aN::aN::aN::aN::aN::aN::aN::aN::aN::aN::aN::aN::aN::aN::aN::aN::(.s (ints (nats st)))::(aI st.length)::(aI i)::aN::aN::aN::aN::aN::aN::aN::aZ56), [.obj [aI 0, aI 0, .full []], .row (((st.take i).map (colQ s N p)).map (.int .i64))]⟩) st.length (promo_one rfl) ?_ ?_
   ·simp only [c78l17m, go_sem, ↓reduceIte, reduceCtorEq, Nat.reduceAdd, Nat.reduceLeDiff]
    exact ⟨0, rfl, Nat.zero_le _, rfl⟩
   ·clear hI I
    rintro I m τ ⟨i, rfl, hi, rfl⟩ hI;simp only [c78l17, c78r13, go_sem, ↓reduceIte, Nat.reduceAdd, true_implies];refine ⟨fun hlt => ?_, fun hge => ?_⟩
    ·have hlt : i < st.length := by omega
     have hx : st[i]? = some st[i] := List.getElem?_eq_getElem hlt;have hk := hoL _ (List.getElem_mem hlt);have hnx : (nats st)[i]? = some (st[i] : Int) := by unfold nats; rw [List.getElem?_map, hx]; rfl
     generalize st[i] = a at hx hk hnx;obtain ⟨y, hy⟩ : ∃ y, p[a]? = some y := ⟨_, List.getElem?_eq_getElem (by rw [h.pl]; exact hk)⟩
     obtain ⟨q1, q2⟩ := colQ_le h a;have q3 := pr_le h a;have hcq : colQ s N p a = s * (y * (rootsN s N).sum - gainN s N p) := by unfold colQ; rw [hy]; rfl
     rw [hy, Option.getD_some] at q1 q3;rw [hcq] at q2
     have e3 : ((st.take i).map (colQ s N p)).map (SV.int .i64) ++ flatE [SV.int .i64 (s * (y * (rootsN s N).sum - gainN s N p))] = ((st.take (i + 1)).map (colQ s N p)).map (.int .i64) := by
      rw [take_snoc hx, List.map_append, List.map_append, <- hcq]; rfl
     simp only [c78r14, ints, hnx, c78r15, benchC, bnV, hy, Nat.reduceBEq, Bool.false_eq_true, go_sem, ↓reduceIte, Nat.reduceAdd, Nat.reduceLeDiff, Nat.reduceMul, true_implies];refine ⟨inR_abs (by omega), inR_abs (by omega), inR_abs (by omega), ?_⟩
     refine ⟨by decide, by decide, rfl, one_int, one_int, by simp; omega, by omega, by omega, ?_⟩
     rw [e3];simp only [c78r16, c78l17m, go_sem, ↓reduceIte, reduceCtorEq, Nat.reduceLeDiff, true_implies];exact ⟨inR_small (by omega) (by omega), hI (st.length - (i + 1)) _ (by omega) ⟨i + 1, rfl, by omega, rfl⟩⟩
    ·have hie : i = st.length := by omega
     subst hie;rw [List.take_length]
     have hrow : rowOf 0 st.length 1 ((st.map (colQ s N p)).map (SV.int .i64)) = some ((st.map (colQ s N p)).map (.int .i64)) := by
      rw [rowOf_take (by simp), List.take_of_length_le (by simp)]
     have h81 := hk81 (st.map (colQ s N p)) (by simp) (fun x hx => by
      obtain ⟨i, _, rfl⟩ := List.mem_map.1 hx;have := (colQ_le h i).2;omega)
     have hsl : (solL s N st (st.map (colQ s N p))).length = st.length := by simp [solL]
     generalize solL s N st (st.map (colQ s N p)) = L at *;simp only [c78r18, go_sem];refine ⟨_, hrow, ?_⟩;refine callK_of (by simp only [ints, benchC, bnV, go_sem]) h81 (.inr (.inl (by simp only [ints, benchC, bnV, go_sem]))) ?_
     simp only [c78r19, benchC, bnV, intss, go_sem, ↓reduceIte, Nat.reduceAdd, Nat.reduceLT, Nat.reduceLeDiff, true_implies];have hD := mul_le_nat (show (rootN s N c).natAbs <= 8000 by omega) (show (rootsN s N).sum.natAbs <= 32000 by omega)
     have hG := mul_le_nat (show (gainN s N p).natAbs <= 32000000 by omega) (show (rootN s N c).natAbs <= 8000 by omega)
     refine ⟨inR_abs (by omega), inR_abs (by omega), by omega, by omega, fun _ => ?_⟩
     rw [rep_flat, spl_three];simp only [c78r20, ints, hnl, go_sem];intro _
     refine loop_rule (fun m τ => ∃ k : Nat, m = st.length - k /\ k <= st.length /\
      τ = ⟨(aN::aN::(.loc 0 0)::aN::aN::aN::aN::aN::aN::aN::aN::aN::(.s (ints L))::aN::(.loc 3 0)::aN::aN::aN::aN::aN::aN::aN::aN::aN::aN::aN::aN::aN::aN::aN::aN::aN::aN::aN::aN::aN::aN::aN::aN::aN::aN::aN::aN::aN::aN::aN::aN::aN::aN::aN::aN::aN::aN::aN::aN::aN::aN::aN::aN::aN::aN::aN::aN::aN::aN::aN::aN::aN::aN::aN::aN::aN::aN::aN::aN::aN::aN::aN::aN::aN::aN::aN::aN::aN::aN::aN::aN::aN::aN::aN::aN::aN::aN::aN::aN::aN::aN::aN::aN::(.s (ints (nats st)))::(aI st.length)::(aI k)::aN::aN::aN::aN::aN::aN::aZ8),
       [.obj [aI 0, aI 0, .full []], .frz ((st.map (colQ s N p)).map (.int .i64)), .row ((putT st L (List.replicate N.length 0) k).map (.int .i64)), .obj [aI (rootN s N c * (rootsN s N).sum), aI (gainN s N p * rootN s N c), .sl 2 0 N.length 1 true]]⟩) st.length rfl ?_ ?_
     ·simp only [c78l25m, go_sem, ↓reduceIte, reduceCtorEq, Nat.reduceAdd, Nat.reduceLeDiff]
      exact ⟨0, rfl, Nat.zero_le _, rfl⟩
     ·clear hI I
      rintro I m τ ⟨k, rfl, hk, rfl⟩ hI;simp only [c78l25, c78r21, go_sem, ↓reduceIte, Nat.reduceAdd, true_implies];refine ⟨fun hlt => ?_, fun hge => ?_⟩
      ·have hlt : k < st.length := by omega
       have hx : st[k]? = some st[k] := List.getElem?_eq_getElem hlt;have hka := hoL _ (List.getElem_mem hlt);have hnx : (nats st)[k]? = some (st[k] : Int) := by unfold nats; rw [List.getElem?_map, hx]; rfl
       obtain ⟨y, hy⟩ : ∃ y, L[k]? = some y := ⟨_, List.getElem?_eq_getElem (by omega)⟩
       have hput := putT_succ (st := st) (l := L) (R := List.replicate N.length 0) (k := k);have hpl := putT_len (st := st) (l := L) (R := List.replicate N.length 0) (k := k);rw [List.length_replicate] at hpl;rw [hx, hy] at hput;simp only [Option.getD_some] at hput;generalize st[k] = a at hx hka hnx hput;generalize putT st L (List.replicate N.length 0) k = R at *;have hs1 := spl_row (R := R) (i := a) (x := y) (by omega)
       simp only [c78r22, ints, hnx, c78r23, hy, Nat.mul_one, hs1, Nat.zero_add, go_sem, Nat.reduceAdd, true_implies];refine ⟨hka, by omega, ?_⟩
       simp only [c78r24, c78l25m, go_sem, ↓reduceIte, reduceCtorEq, Nat.reduceLeDiff, true_implies];exact ⟨inR_small (by omega) (by omega), hI (st.length - (k + 1)) _ (by omega) ⟨k + 1, rfl, by omega, by rw [hput]; rfl⟩⟩
      ·have hke : k = st.length := by omega
       subst hke;have hpl := putT_len (st := st) (l := L) (R := List.replicate N.length 0) (k := st.length);rw [List.length_replicate] at hpl;have hsl3 : sliceOf 0 N.length 1 ((putT st L (List.replicate N.length 0) st.length).map (SV.int .i64)) = some (ints (putT st L (List.replicate N.length 0) st.length)) := slice_all hpl.symm;generalize putT st L (List.replicate N.length 0) st.length = R at *;simp only [c78r26, spl_three, hsl3, List.take_succ_cons, List.take_zero, go_sem, Nat.reduceAdd, true_implies];rfl
def fst0 (N : List (List Int)) : Nat := (firsts N).headD 0
def proofR (s : Int) (N : List (List Int)) (p : List Int) : List SV :=
 if setE s N p = 0 then [prV (prfD s N (fst0 N)) (prfG s N p (fst0 N)) (prfH s N p (fst0 N)), .int .i64 0] else [prV 0 0 [], .int .i64 (setE s N p)]
theorem fst0_eq {s : Int} {N : List (List Int)} {p : List Int} (h : OkM s N p) (hS : (parts N).length <= 1) : firsts N = [fst0 N] := by
 obtain ⟨c, hc, _⟩ := settles_first h hS;unfold fst0;rw [hc]; rfl
theorem k28 {s : Int} {N : List (List Int)} {p : List Int} : E.Fn Tryz.prog 28 [mc s N p] (proofR s N p) := by
 refine fn_of_row okf28 ?_;have h56 := k57 (s := s) (N := N) (p := p);unfold proofR;unfold setR at h56;simp only [FRow.start, f28, c28r0, c28r1, mc, SV.cells, List.length_cons, List.length_nil, go_sem, Nat.reduceAdd, Nat.reduceSub, true_implies]
 by_cases h0 : setE s N p = 0
 ·rw [if_pos h0] at h56
  rw [if_pos h0];obtain ⟨h, hS⟩ := setE_zero h0;have h59 := k78 h hS (fst0_eq h hS);refine callK_of rfl h56 (.inr (.inl rfl)) ?_
  simp only [c28r2, c28r4, go_sem, true_implies];refine callK_of (by simp only [benchC, bnV, go_sem]) h59 (.inr (.inl (by simp only [benchC, bnV, go_sem]))) ?_
  simp only [prV, spl_three, SV.cells, go_sem, Nat.reduceAdd, true_implies]
  done
 ·rw [if_neg h0] at h56
  rw [if_neg h0];refine callK_of rfl h56 (.inr (.inl rfl)) ?_
  simp only [h0, c28r2, c28r3, prV, spl_three, go_sem, Nat.reduceAdd, true_implies];rfl
def entS (z : Ent) : SV × SV := (pr z.1, .int .i64 z.2)
theorem zip_kv {L : List Ent} : (kK L).zip (kV L) = L.map entS := by
 unfold kK kV;rw [List.map_map, List.zip_map', List.map_inj_left];intro z _;rfl
def natL (f : Nat -> Int) (n : Nat) : List Int := (List.range n).map f
theorem natL_get {f : Nat -> Int} {n i : Nat} (h : i < n) : (natL f n)[i]? = some (f i) := by
 unfold natL; rw [List.getElem?_map, List.getElem?_range h]; rfl
theorem natL_len {f : Nat -> Int} {n : Nat} : (natL f n).length = n := by simp [natL]
set_option maxHeartbeats 2000000 in
theorem k66 {s : Int} {N : List (List Int)} {p : List Int} {state plays : Nat} (h : OkM s N p) (hst : state < N.length) (hpl : plays <= 10) :
  E.Fn Tryz.prog 66 [benchC s N p, .int .i64 state, .int .i64 plays] [.int .i64 (fT s N p state plays)] := by
 refine fn_of_row okf66 ?_;have hn4 := h.n4
 have h0s : ((List.replicate N.length (0 : Int)).set state 1) = natL (wT N state 0) N.length := by
  apply List.ext_getElem?
  intro k;rw [List.getElem?_set, List.length_replicate, List.getElem?_replicate]
  by_cases hk : k < N.length
  ·rw [natL_get hk, wT]
   by_cases e : state = k
   ·rw [if_pos e, if_pos hst, if_pos e.symm]
   ·rw [if_neg e, if_pos hk, if_neg (fun e2 => e e2.symm)]
  ·rw [if_neg (by omega), if_neg hk]
   exact (List.getElem?_eq_none (by rw [natL_len]; omega)).symm
 have hs1 := spl_row (R := List.replicate N.length 0) (i := state) (x := 1) (by simpa using hst)
 simp only [FRow.start, f66, c66r0, c66r1, benchC, bnV, intss, go_sem, Nat.reduceAdd, Nat.reduceSub, Nat.reduceLT, Nat.reduceLeDiff, true_implies];refine ⟨by omega, by omega, fun _ => ?_⟩
 rw [rep_flat];simp only [c66r2, Nat.mul_one, hs1, h0s, go_sem, true_implies];refine ⟨hst, by simp; omega, ?_⟩
 simp only [c66r3, c66r4, go_sem, true_implies];have hpy := fun i => pay_le h.toOkP i
 have hp20 : ∀ t, t <= 10 -> (20 : Int) ^ t <= 20 ^ 10 := fun t ht => by
  have := Nat.pow_le_pow_right (show 0 < 20 by decide) ht
  have h2 : ((20 ^ t : Nat) : Int) <= ((20 ^ 10 : Nat) : Int) := by omega
  simpa using h2
 refine loop_rule (fun m τ => ∃ (t : Nat) (v : LV), m = plays - t /\ t <= plays /\ (v = .sl 0 0 N.length 1 true /\ t <= 1 \/ v = .s (ints (natL (wT N state (t - 1)) N.length)) /\ 1 <= t) /\
  τ = ⟨((.s (benchC s N p))::aN::aN::aN::aN::aN::aN::v::(aI (fT s N p state t))::aN::aN::aN::aN::aN::aN::aN::aN::aN::aN::aN::aN::aN::aN::aN::aN::(aI plays)::(aI t)::aN::aN::aN::aN::aN::aZ56), [.row ((natL (wT N state 0) N.length).map (.int .i64))]⟩) plays rfl ?_ ?_
 ·simp only [c66l23m, go_sem, ↓reduceIte, reduceCtorEq, Nat.reduceLeDiff]
  exact ⟨0, _, rfl, Nat.zero_le _, .inl ⟨rfl, by omega⟩, rfl⟩
 ·rintro I m τ ⟨t, v, rfl, ht, hv, rfl⟩ hI
  simp only [c66l23, c66r5, go_sem, ↓reduceIte, true_implies];refine ⟨fun hlt => ?_, fun hge => ?_⟩
  ·have hlt : t < plays := by omega
   have hpb := pow_bd h.toOkN (t := t);have hp20t := hp20 t (by omega)
   have hfb := fT_bd h hst (t := t);have hwn := wpT_le h hst (t := t) (Nat.le_refl _);have hfs : fT s N p state (t + 1) = fT s N p state t * s + wpT N p state t N.length := rfl;have hs20 := h.s20;have hs1' := h.s1;have hf0 : 0 <= fT s N p state t * s := Int.mul_nonneg hfb.1 (by omega)
   have hfle : fT s N p state t * s <= 1000 * (t + 1) * s ^ t := by
    have := wpT_nonneg h.toOkP (state := state) (t := t) (j := N.length);omega
   have hfle2 : (1000 * ((t : Int) + 1)) * s ^ t <= 11000 * 10240000000000 := Int.mul_le_mul (by omega) (by omega) (by omega) (by decide)
   simp only [c66r6, c66r7, go_sem, true_implies];refine ⟨fun htp => ?_, fun htz => ?_⟩
   ·have htp : 0 < t := by omega
    rcases hv with ⟨rfl, ht1⟩ | ⟨rfl, _⟩
    ·have ht1 : t = 0 + 1 := by omega
     simp only [c66r8, go_sem, Nat.reduceAdd, Nat.reduceLT];refine ⟨by omega, by omega,  ?_⟩
     rw [rep_flat];simp only [c66r9, benchC, bnV, zip_kv, go_sem, Nat.reduceAdd, Nat.reduceLeDiff, true_implies];intro _
     refine loop_rule (fun m τ => ∃ (left : List Ent) (R : List Int) (last : Option (SV × SV)), m = left.length /\ (∀ z ∈ left, z ∈ turnsL N) /\ R.length = N.length /\ (∀ k, k < N.length -> 0 <= R[k]?.getD 0 /\ R[k]?.getD 0 + (left.map (brg (wT N state 0) k)).sum = wT N state (0 + 1) k) /\
      τ = ⟨((.s (benchC s N p))::aN::aN::aN::aN::aN::aN::(.sl 0 0 N.length 1 true)::(aI (fT s N p state t))::aN::(.sl 1 0 N.length 1 true)::aN::aN::aN::aN::aN::aN::aN::aN::aN::aN::aN::aN::aN::aN::(aI plays)::(aI (t : Nat))::aN::aN::aN::aN::aN::aN::aN::aN::aN::aN::aN::(.loc 2 0)::aN::aZ48), [.row ((natL (wT N state 0) N.length).map (.int .i64)), .row (R.map (.int .i64)), .mit (left.map entS) last]⟩) (turnsL N).length rfl ?_ ?_
     ·simp only [c66l13m, go_sem, ↓reduceIte, reduceCtorEq, Nat.reduceAdd, Nat.reduceLeDiff]
      refine ⟨turnsL N, List.replicate N.length 0, none, rfl, fun _ h => h, by simp, fun k hk => ?_, rfl⟩
      rw [List.getElem?_replicate, if_pos hk, brg_all];exact ⟨by simp, by rw [wT]; simp⟩
     ·rintro I2 m τ ⟨left, R, last, rfl, hsub, hRl, hR, rfl⟩ hI2
      simp only [c66l13, c66r10, go_sem, ↓reduceIte, Nat.reduceAdd, true_implies];refine ⟨fun hnil => ?_, fun l1 e l2 hs => ?_⟩
      ·have hnil : left = [] := by simpa using hnil
       subst hnil
       have hRe : R = natL (wT N state t) N.length := by
        apply List.ext_getElem?
        intro k
        by_cases hk : k < N.length
        ·obtain ⟨x, hx⟩ : ∃ x, R[k]? = some x := ⟨_, List.getElem?_eq_getElem (by omega)⟩
         have := (hR k hk).2;rw [hx] at this ⊢;rw [natL_get hk];simp only [Option.getD_some, List.map_nil, List.sum_nil, Int.add_zero] at this;rw [this, ht1]
        ·rw [List.getElem?_eq_none (by omega), List.getElem?_eq_none (by rw [natL_len]; omega)]
       subst hRe
       have hrow : rowOf 0 N.length 1 ((natL (wT N state t) N.length).map (SV.int .i64)) = some ((natL (wT N state t) N.length).map (.int .i64)) := by
        rw [rowOf_take (by simp [natL_len]), List.take_of_length_le (by simp [natL_len])]
       simp only [c66r14, go_sem, Nat.reduceAdd, true_implies];refine ⟨_, hrow, ?_⟩;simp only [c66r15, benchC, bnV, go_sem, Nat.reduceAdd, Nat.reduceLeDiff, true_implies];refine ⟨inR_small hf0 (by omega), ?_⟩
       simp only [c66r16, ints, natL_len, go_sem];intro _
       refine loop_rule (fun m τ => ∃ j : Nat, m = N.length - j /\ j <= N.length /\
        τ = ⟨((.s (benchC s N p))::aN::aN::aN::aN::aN::aN::(.s (ints (natL (wT N state t) N.length)))::(aI (fT s N p state t * s + wpT N p state t j))::aN::aN::aN::aN::aN::aN::aN::aN::aN::aN::aN::aN::aN::aN::aN::aN::(aI plays)::(aI (t : Nat))::aN::aN::aN::aN::aN::aN::aN::aN::aN::aN::aN::aN::aN::aN::aN::aN::aN::aN::aN::aN::aN::aN::aN::aN::aN::aN::aN::aN::aN::aN::aN::aN::aN::aN::aN::aN::aN::aN::aN::(.s (ints (natL (wT N state t) N.length)))::(aI N.length)::(aI j)::aN::aN::aN::aZ16), [.row ((natL (wT N state 0) N.length).map (.int .i64)), .frz ((natL (wT N state t) N.length).map (.int .i64)), .mit [] last]⟩) N.length rfl ?_ ?_
       ·simp only [c66l21m, go_sem, Nat.reduceAdd]
        exact ⟨0, rfl, Nat.zero_le _, by simp [wpT]; exact ⟨rfl, rfl⟩⟩
       ·rintro I2 m τ ⟨j, rfl, hj, rfl⟩ hI2
        simp only [c66l21, c66r17, go_sem, ↓reduceIte, Nat.reduceAdd, true_implies];refine ⟨fun hlt => ?_, fun hge => ?_⟩
        ·have hj : j < N.length := by omega
         obtain ⟨y, hy⟩ : ∃ y, p[j]? = some y := ⟨_, List.getElem?_eq_getElem (by rw [h.pl]; exact hj)⟩
         have hg := natL_get (f := wT N state t) hj;have hws := wpT_succ (N := N) (p := p) (state := state) (t := t) (j := j);have hwl := wpT_le h hst (t := t) (j := j + 1) (by omega)
         have hw0 := wpT_nonneg h.toOkP (state := state) (t := t) (j := j);have hm0 := Int.mul_nonneg (wT_nonneg h.toOkN (state := state) (t := t) (k := j)) (pay_le h.toOkP j).1;rw [hy, Option.getD_some] at hws hm0;simp only [c66r18, ints, hg, c66r19, benchC, bnV, hy, go_sem, Nat.reduceAdd, Nat.reduceLeDiff, true_implies];refine ⟨inR_small hm0 (by omega), inR_small (by omega) (by omega), ?_⟩
         simp only [c66r20, c66l21m, go_sem, true_implies];exact ⟨inR_small (by omega) (by omega), hI2 (N.length - (j + 1)) _ (by omega) ⟨j + 1, rfl, by omega, by rw [hws, <- Int.add_assoc]; rfl⟩⟩
        ·have hje : j = N.length := by omega
         subst hje;simp only [c66r22, c66l23m, go_sem, true_implies];exact ⟨inR_small (by omega) (by omega), hI (plays - (t + 1)) _ (by omega) ⟨t + 1, .s (ints (natL (wT N state t) N.length)), rfl, by omega, .inr ⟨rfl, by omega⟩, rfl⟩⟩
      ·obtain ⟨L1, L3, rfl, h1, h3⟩ := List.map_eq_append_iff.1 hs
       obtain ⟨z, L2, rfl, h4, h5⟩ := List.map_eq_cons_iff.1 h3;subst h4;have hz := hsub z (by simp)
       obtain ⟨i, k, l, e1, e2, e3⟩ := mem_allE.1 (List.mem_filter.1 hz).1;have hin := (List.getElem?_eq_some_iff.1 e2).1
       have hkn : k < N.length := by
        have := (List.getElem?_eq_some_iff.1 e3).1;rw [h.sq l (List.mem_of_getElem? e2)] at this;exact this
       obtain ⟨⟨zi, zk⟩, zv⟩ := z;simp only [Prod.mk.injEq] at e1 e3;obtain ⟨rfl, rfl⟩ := e1;have hgw := natL_get (f := wT N state 0) hin;obtain ⟨x, hx⟩ : ∃ x, R[k]? = some x := ⟨_, List.getElem?_eq_getElem (by omega)⟩
       have hzv : zv = tn N i k := by unfold tn; rw [e2]; simp [e3]
       have hbz : brg (wT N state 0) k (((i : Int), (k : Int)), zv) = wT N state 0 i * zv := by unfold brg; simp
       have hnn : ∀ (L : List Ent) (q : Nat), (∀ z ∈ L, z ∈ turnsL N) -> 0 <= (L.map (brg (wT N state 0) q)).sum := fun L q hL => sum_nonneg fun y hy => by
        obtain ⟨z, hz, rfl⟩ := List.mem_map.1 hy;obtain ⟨a, b, l', f1, f2, f3⟩ := mem_allE.1 (List.mem_filter.1 (hL z hz)).1;unfold brg
        split
        ·exact Int.mul_nonneg (wT_nonneg h.toOkN) (h.ent l' (List.mem_of_getElem? f2) _ (List.mem_of_getElem? f3)).1
        ·exact Int.le_refl _
       have hsum : ∀ q, ((L1 ++ (((i : Int), (k : Int)), zv) :: L2).map (brg (wT N state 0) q)).sum = brg (wT N state 0) q (((i : Int), (k : Int)), zv) + ((L1 ++ L2).map (brg (wT N state 0) q)).sum := fun q => by
        simp only [List.map_append, List.map_cons, List.sum_append, List.sum_cons]; omega
       have hRk := hR k hkn;rw [hsum, hbz, hx, Option.getD_some] at hRk;have hrest := hnn (L1 ++ L2) k fun z hz => hsub z (by rcases List.mem_append.1 hz with h | h <;> simp [h])
       have hwl := wT_le h.s hst (t := 0 + 1) hkn;have hwp := hp20 (0 + 1) (by omega)
       have hm0 : 0 <= wT N state 0 i * zv := Int.mul_nonneg (wT_nonneg h.toOkN) (by rw [hzv]; exact h.nn i k)
       have hs3 := spl_row (R := R) (i := k) (x := x + wT N state 0 i * zv) (by omega)
       subst h1;subst h5;simp only [entS, pr, c66r11, SV.cells, spl_two, c66r12, Nat.mul_one, Int.toNat_natCast, hx, hgw, hs3, go_sem, Nat.reduceAdd, true_implies];refine ⟨hkn, hin, inR_small hm0 (by omega), inR_small (by omega) (by omega), hkn, by omega, ?_⟩
       simp only [c66l13m, go_sem, ↓reduceIte, reduceCtorEq, Nat.reduceLeDiff];refine hI2 (L1 ++ L2).length _ (by simp) ⟨L1 ++ L2, R.set k (x + wT N state 0 i * zv), some (.agg [.int .i64 i, .int .i64 k], .int .i64 zv), rfl, fun z hz => hsub z (by rcases List.mem_append.1 hz with h | h <;> simp [h]), by rw [List.length_set]; exact hRl, fun q hq => ?_, by rw [List.map_append]; try rfl⟩
       have hRq := hR q hq;rw [hsum] at hRq
       by_cases e : k = q
       ·subst e
        rw [List.getElem?_set_self (by omega), Option.getD_some]
        rw [hbz, hx, Option.getD_some] at hRq;omega
       ·rw [List.getElem?_set_ne e]
        have : brg (wT N state 0) q (((i : Int), (k : Int)), zv) = 0 := by unfold brg; rw [if_neg (by simp; omega)]
        omega
    ·obtain ⟨u, rfl⟩ : ∃ u, t = u + 1 := ⟨t - 1, by omega⟩
     rw [Nat.add_sub_cancel];simp only [c66r8, ints, natL_len, go_sem, Nat.reduceAdd, Nat.reduceLT];refine ⟨by omega, by omega, fun _ => ?_⟩
     rw [rep_flat];simp only [c66r9, benchC, bnV, zip_kv, go_sem, Nat.reduceAdd, Nat.reduceLeDiff, true_implies]
     refine loop_rule (fun m τ => ∃ (left : List Ent) (R : List Int) (last : Option (SV × SV)), m = left.length /\ (∀ z ∈ left, z ∈ turnsL N) /\ R.length = N.length /\ (∀ k, k < N.length -> 0 <= R[k]?.getD 0 /\ R[k]?.getD 0 + (left.map (brg (wT N state u) k)).sum = wT N state (u + 1) k) /\
      τ = ⟨((.s (benchC s N p))::aN::aN::aN::aN::aN::aN::(.s (ints (natL (wT N state u) N.length)))::(aI (fT s N p state (u + 1)))::aN::(.sl 1 0 N.length 1 true)::aN::aN::aN::aN::aN::aN::aN::aN::aN::aN::aN::aN::aN::aN::(aI plays)::(aI ((u + 1) : Nat))::aN::aN::aN::aN::aN::aN::aN::aN::aN::aN::aN::(.loc 2 0)::aN::aZ48), [.row ((natL (wT N state 0) N.length).map (.int .i64)), .row (R.map (.int .i64)), .mit (left.map entS) last]⟩) (turnsL N).length rfl ?_ ?_
     ·simp only [c66l13m, go_sem, ↓reduceIte, reduceCtorEq, Nat.reduceAdd, Nat.reduceLeDiff]
      refine ⟨turnsL N, List.replicate N.length 0, none, rfl, fun _ h => h, by simp, fun k hk => ?_, rfl⟩
      rw [List.getElem?_replicate, if_pos hk, brg_all];exact ⟨by simp, by rw [wT]; simp⟩
     ·rintro I2 m τ ⟨left, R, last, rfl, hsub, hRl, hR, rfl⟩ hI2
      simp only [c66l13, c66r10, go_sem, ↓reduceIte, Nat.reduceAdd, true_implies];refine ⟨fun hnil => ?_, fun l1 e l2 hs => ?_⟩
      ·have hnil : left = [] := by simpa using hnil
       subst hnil
       have hRe : R = natL (wT N state (u + 1)) N.length := by
        apply List.ext_getElem?
        intro k
        by_cases hk : k < N.length
        ·obtain ⟨x, hx⟩ : ∃ x, R[k]? = some x := ⟨_, List.getElem?_eq_getElem (by omega)⟩
         have := (hR k hk).2;rw [hx] at this ⊢;rw [natL_get hk];simp only [Option.getD_some, List.map_nil, List.sum_nil, Int.add_zero] at this;rw [this]
        ·rw [List.getElem?_eq_none (by omega), List.getElem?_eq_none (by rw [natL_len]; omega)]
       subst hRe
       have hrow : rowOf 0 N.length 1 ((natL (wT N state (u + 1)) N.length).map (SV.int .i64)) = some ((natL (wT N state (u + 1)) N.length).map (.int .i64)) := by
        rw [rowOf_take (by simp [natL_len]), List.take_of_length_le (by simp [natL_len])]
       simp only [c66r14, go_sem, Nat.reduceAdd, true_implies];refine ⟨_, hrow, ?_⟩;simp only [c66r15, benchC, bnV, go_sem, Nat.reduceAdd, Nat.reduceLeDiff, true_implies];refine ⟨inR_small hf0 (by omega), ?_⟩
       simp only [c66r16, ints, natL_len, go_sem];intro _
       refine loop_rule (fun m τ => ∃ j : Nat, m = N.length - j /\ j <= N.length /\
        τ = ⟨((.s (benchC s N p))::aN::aN::aN::aN::aN::aN::(.s (ints (natL (wT N state (u + 1)) N.length)))::(aI (fT s N p state (u + 1) * s + wpT N p state (u + 1) j))::aN::aN::aN::aN::aN::aN::aN::aN::aN::aN::aN::aN::aN::aN::aN::aN::(aI plays)::(aI ((u + 1) : Nat))::aN::aN::aN::aN::aN::aN::aN::aN::aN::aN::aN::aN::aN::aN::aN::aN::aN::aN::aN::aN::aN::aN::aN::aN::aN::aN::aN::aN::aN::aN::aN::aN::aN::aN::aN::aN::aN::aN::aN::(.s (ints (natL (wT N state (u + 1)) N.length)))::(aI N.length)::(aI j)::aN::aN::aN::aZ16), [.row ((natL (wT N state 0) N.length).map (.int .i64)), .frz ((natL (wT N state (u + 1)) N.length).map (.int .i64)), .mit [] last]⟩) N.length rfl ?_ ?_
       ·simp only [c66l21m, go_sem, Nat.reduceAdd]
        exact ⟨0, rfl, Nat.zero_le _, by simp [wpT]; exact ⟨rfl, rfl⟩⟩
       ·rintro I2 m τ ⟨j, rfl, hj, rfl⟩ hI2
        simp only [c66l21, c66r17, go_sem, ↓reduceIte, Nat.reduceAdd, true_implies];refine ⟨fun hlt => ?_, fun hge => ?_⟩
        ·have hj : j < N.length := by omega
         obtain ⟨y, hy⟩ : ∃ y, p[j]? = some y := ⟨_, List.getElem?_eq_getElem (by rw [h.pl]; exact hj)⟩
         have hg := natL_get (f := wT N state (u + 1)) hj;have hws := wpT_succ (N := N) (p := p) (state := state) (t := (u + 1)) (j := j);have hwl := wpT_le h hst (t := (u + 1)) (j := j + 1) (by omega)
         have hw0 := wpT_nonneg h.toOkP (state := state) (t := (u + 1)) (j := j);have hm0 := Int.mul_nonneg (wT_nonneg h.toOkN (state := state) (t := (u + 1)) (k := j)) (pay_le h.toOkP j).1;rw [hy, Option.getD_some] at hws hm0;simp only [c66r18, ints, hg, c66r19, benchC, bnV, hy, go_sem, Nat.reduceAdd, Nat.reduceLeDiff, true_implies];refine ⟨inR_small hm0 (by omega), inR_small (by omega) (by omega), ?_⟩
         simp only [c66r20, c66l21m, go_sem, true_implies];exact ⟨inR_small (by omega) (by omega), hI2 (N.length - (j + 1)) _ (by omega) ⟨j + 1, rfl, by omega, by rw [hws, <- Int.add_assoc]; rfl⟩⟩
        ·have hje : j = N.length := by omega
         subst hje;simp only [c66r22, c66l23m, go_sem, true_implies];exact ⟨inR_small (by omega) (by omega), hI (plays - ((u + 1) + 1)) _ (by omega) ⟨(u + 1) + 1, .s (ints (natL (wT N state (u + 1)) N.length)), rfl, by omega, .inr ⟨rfl, by omega⟩, rfl⟩⟩
      ·obtain ⟨L1, L3, rfl, h1, h3⟩ := List.map_eq_append_iff.1 hs
       obtain ⟨z, L2, rfl, h4, h5⟩ := List.map_eq_cons_iff.1 h3;subst h4;have hz := hsub z (by simp)
       obtain ⟨i, k, l, e1, e2, e3⟩ := mem_allE.1 (List.mem_filter.1 hz).1;have hin := (List.getElem?_eq_some_iff.1 e2).1
       have hkn : k < N.length := by
        have := (List.getElem?_eq_some_iff.1 e3).1;rw [h.sq l (List.mem_of_getElem? e2)] at this;exact this
       obtain ⟨⟨zi, zk⟩, zv⟩ := z;simp only [Prod.mk.injEq] at e1 e3;obtain ⟨rfl, rfl⟩ := e1;have hgw := natL_get (f := wT N state u) hin;obtain ⟨x, hx⟩ : ∃ x, R[k]? = some x := ⟨_, List.getElem?_eq_getElem (by omega)⟩
       have hzv : zv = tn N i k := by unfold tn; rw [e2]; simp [e3]
       have hbz : brg (wT N state u) k (((i : Int), (k : Int)), zv) = wT N state u i * zv := by unfold brg; simp
       have hnn : ∀ (L : List Ent) (q : Nat), (∀ z ∈ L, z ∈ turnsL N) -> 0 <= (L.map (brg (wT N state u) q)).sum := fun L q hL => sum_nonneg fun y hy => by
        obtain ⟨z, hz, rfl⟩ := List.mem_map.1 hy;obtain ⟨a, b, l', f1, f2, f3⟩ := mem_allE.1 (List.mem_filter.1 (hL z hz)).1;unfold brg
        split
        ·exact Int.mul_nonneg (wT_nonneg h.toOkN) (h.ent l' (List.mem_of_getElem? f2) _ (List.mem_of_getElem? f3)).1
        ·exact Int.le_refl _
       have hsum : ∀ q, ((L1 ++ (((i : Int), (k : Int)), zv) :: L2).map (brg (wT N state u) q)).sum = brg (wT N state u) q (((i : Int), (k : Int)), zv) + ((L1 ++ L2).map (brg (wT N state u) q)).sum := fun q => by
        simp only [List.map_append, List.map_cons, List.sum_append, List.sum_cons]; omega
       have hRk := hR k hkn;rw [hsum, hbz, hx, Option.getD_some] at hRk;have hrest := hnn (L1 ++ L2) k fun z hz => hsub z (by rcases List.mem_append.1 hz with h | h <;> simp [h])
       have hwl := wT_le h.s hst (t := u + 1) hkn;have hwp := hp20 (u + 1) (by omega)
       have hm0 : 0 <= wT N state u i * zv := Int.mul_nonneg (wT_nonneg h.toOkN) (by rw [hzv]; exact h.nn i k)
       have hs3 := spl_row (R := R) (i := k) (x := x + wT N state u i * zv) (by omega)
       subst h1;subst h5;simp only [entS, pr, c66r11, SV.cells, spl_two, c66r12, Nat.mul_one, Int.toNat_natCast, hx, hgw, ints, hs3, go_sem, Nat.reduceAdd, true_implies];refine ⟨hkn, inR_small hm0 (by omega), inR_small (by omega) (by omega), hkn, by omega, ?_⟩
       simp only [c66l13m, go_sem, ↓reduceIte, reduceCtorEq, Nat.reduceLeDiff];refine hI2 (L1 ++ L2).length _ (by simp) ⟨L1 ++ L2, R.set k (x + wT N state u i * zv), some (.agg [.int .i64 i, .int .i64 k], .int .i64 zv), rfl, fun z hz => hsub z (by rcases List.mem_append.1 hz with h | h <;> simp [h]), by rw [List.length_set]; exact hRl, fun q hq => ?_, by rw [List.map_append]; try rfl⟩
       have hRq := hR q hq;rw [hsum] at hRq
       by_cases e : k = q
       ·subst e
        rw [List.getElem?_set_self (by omega), Option.getD_some]
        rw [hbz, hx, Option.getD_some] at hRq;omega
       ·rw [List.getElem?_set_ne e]
        have : brg (wT N state u) q (((i : Int), (k : Int)), zv) = 0 := by unfold brg; rw [if_neg (by simp; omega)]
        omega
   ·have htz : t = 0 := by omega
    subst htz
    have hv : v = .sl 0 0 N.length 1 true := by
     rcases hv with ⟨rfl, _⟩ | ⟨_, h⟩
     ·rfl
     ·omega
    subst hv;simp only [c66r16, go_sem];intro _
    refine loop_rule (fun m τ => ∃ j : Nat, m = N.length - j /\ j <= N.length /\
     τ = ⟨((.s (benchC s N p))::aN::aN::aN::aN::aN::aN::(.sl 0 0 N.length 1 true)::(aI (fT s N p state 0 * s + wpT N p state 0 j))::aN::aN::aN::aN::aN::aN::aN::aN::aN::aN::aN::aN::aN::aN::aN::aN::(aI plays)::(aI (0 : Nat))::aN::aN::aN::aN::aN::aN::aN::aN::aN::aN::aN::aN::aN::aN::aN::aN::aN::aN::aN::aN::aN::aN::aN::aN::aN::aN::aN::aN::aN::aN::aN::aN::aN::aN::aN::aN::aN::aN::aN::(.sl 0 0 N.length 1 true)::(aI N.length)::(aI j)::aN::aN::aN::aZ16), [.row ((natL (wT N state 0) N.length).map (.int .i64))]⟩) N.length rfl ?_ ?_
    ·simp only [c66l21m, go_sem, ↓reduceIte, reduceCtorEq, Nat.reduceLeDiff]
     exact ⟨0, rfl, Nat.zero_le _, by simp [fT, wpT]⟩
    ·rintro I2 m τ ⟨j, rfl, hj, rfl⟩ hI2
     simp only [c66l21, c66r17, go_sem, ↓reduceIte, true_implies];refine ⟨fun hlt => ?_, fun hge => ?_⟩
     ·have hj : j < N.length := by omega
      obtain ⟨y, hy⟩ : ∃ y, p[j]? = some y := ⟨_, List.getElem?_eq_getElem (by rw [h.pl]; exact hj)⟩
      have hg := natL_get (f := wT N state 0) hj;have hws := wpT_succ (N := N) (p := p) (state := state) (t := 0) (j := j);have hwl := wpT_le h hst (t := 0) (j := j + 1) (by omega)
      have hw0 := wpT_nonneg h.toOkP (state := state) (t := 0) (j := j);have hm0 := Int.mul_nonneg (wT_nonneg h.toOkN (state := state) (t := 0) (k := j)) (pay_le h.toOkP j).1;rw [hy, Option.getD_some] at hws hm0;simp only [c66r18, ints, Nat.mul_one, hg, c66r19, benchC, bnV, hy, go_sem, Nat.reduceAdd, Nat.reduceLeDiff, true_implies];refine ⟨hj, inR_small hm0 (by omega), inR_small (by omega) (by omega), ?_⟩
      simp only [c66r20, c66l21m, go_sem, ↓reduceIte, reduceCtorEq, Nat.reduceLeDiff, true_implies];exact ⟨inR_small (by omega) (by omega), hI2 (N.length - (j + 1)) _ (by omega) ⟨j + 1, rfl, by omega, by rw [hws, <- Int.add_assoc]; rfl⟩⟩
     ·have hje : j = N.length := by omega
      subst hje;simp only [c66r22, c66l23m, go_sem, ↓reduceIte, reduceCtorEq, Nat.reduceLeDiff, true_implies];exact ⟨inR_small (by omega) (by omega), hI (plays - (0 + 1)) _ (by omega) ⟨0 + 1, .sl 0 0 N.length 1 true, rfl, by omega, .inl ⟨rfl, by omega⟩, rfl⟩⟩
  ·have hte : t = plays := by omega
   subst hte;simp only [c66r24, go_sem, true_implies]
def firstR (s : Int) (N : List (List Int)) (p : List Int) (state plays : Int) : List SV :=
 if chkM s N p = 0 then (if (0 <= state /\ state < N.length) /\ 0 <= plays /\ plays <= 10 then [rat (lst (fT s N p state.toNat plays.toNat) (s ^ (plays.toNat - 1))), .int .i64 0] else [rat (0, 0), .int .i64 2]) else [rat (0, 0), .int .i64 (chkM s N p)]
theorem fT_le {s : Int} {N : List (List Int)} {p : List Int} (h : OkM s N p) {state : Nat} (hs : state < N.length) {t : Nat} (ht : t <= 10) : 0 <= fT s N p state t /\ fT s N p state t <= 11000 * 10240000000000 := by
 refine ⟨(fT_bd h hs).1, ?_⟩
 cases t with
 | zero => rw [fT]; decide
 | succ t =>
  have h1 := (fT_bd h hs (t := t)).2;have h2 := pow_bd h.toOkN (t := t)
  have h3 : (20 : Int) ^ t <= 10240000000000 := by
   have := Nat.pow_le_pow_right (show 0 < 20 by decide) (show t <= 10 by omega)
   have h2 : ((20 ^ t : Nat) : Int) <= ((20 ^ 10 : Nat) : Int) := by omega
   simpa using h2
  exact Int.le_trans h1 (Int.mul_le_mul (by omega) (by omega) (by omega) (by decide))
set_option maxHeartbeats 1000000 in
theorem k22 {s : Int} {N : List (List Int)} {p : List Int} {state plays : Int} : E.Fn Tryz.prog 22 [mc s N p, .int .i64 state, .int .i64 plays] (firstR s N p state plays) := by
 refine fn_of_row okf22 ?_;have h48 := k49 (s := s) (N := N) (p := p);unfold firstR;unfold openR at h48;simp only [FRow.start, f22, c22r0, c22r1, mc, SV.cells, List.length_cons, List.length_nil, go_sem, Nat.reduceAdd, Nat.reduceSub, true_implies]
 by_cases h0 : chkM s N p = 0
 ·rw [if_pos h0] at h48
  rw [if_pos h0];have h := chkM_zero.1 h0;have hn4 := h.n4;refine callK_of rfl h48 (.inr (.inl rfl)) ?_
  have hin1 : inR .i64 ((N.length : Int) - 1) := inR_i64 (by omega) (by omega)
  have hw1 := within_one (lo := 0) (hi := (N.length : Int) - 1) (x := state);have hw2 := within_one (lo := 0) (hi := 10) (x := plays);simp only [c22r2, c22r4, intss, go_sem, Nat.reduceAdd, Nat.reduceLeDiff, Nat.reduceMul, true_implies];refine ⟨hin1, by decide, by decide, rfl, one_int, ?_⟩
  refine callK_of (by simp only [ints, List.map_cons, List.map_nil, go_sem]) (k50 (lo := 0) (hi := (N.length : Int) - 1) (l := [state])) (.inl rfl) ?_
  by_cases h1 : 0 <= state /\ state < N.length
  ·rw [decide_eq_true (by omega)] at hw1
   simp only [hw1, go_sem, Nat.reduceMul];refine ⟨by decide, by decide, rfl, one_int, ?_⟩
   refine callK_of (by simp only [ints, List.map_cons, List.map_nil, go_sem]) (k50 (lo := 0) (hi := 10) (l := [plays])) (.inl rfl) ?_
   by_cases h2 : 0 <= plays /\ plays <= 10
   ·rw [decide_eq_true (by omega)] at hw2
    rw [if_pos ⟨h1, h2⟩];obtain ⟨st, rfl⟩ : ∃ m : Nat, state = m := ⟨state.toNat, by omega⟩
    obtain ⟨pl, rfl⟩ : ∃ m : Nat, plays = m := ⟨plays.toNat, by omega⟩
    rw [Int.toNat_natCast, Int.toNat_natCast];have h72 := k66 (state := st) (plays := pl) h (by omega) (by omega)
    have hpb := fun t => pow_bd h.toOkN (t := t)
    have hp20 : ∀ t, t <= 10 -> (20 : Int) ^ t <= 10240000000000 := fun t ht => by
     have := Nat.pow_le_pow_right (show 0 < 20 by decide) ht
     have h2 : ((20 ^ t : Nat) : Int) <= ((20 ^ 10 : Nat) : Int) := by omega
     simpa using h2
    simp only [hw2, c22r6, c22r7, go_sem, true_implies];intro _
    refine loop_rule (fun m τ => ∃ t : Nat, m = pl - t /\ 1 <= t /\ (t <= pl \/ t = 1) /\
     τ = ⟨(aN::(aI st)::(aI pl)::(.s (.ptr [.int .i64 s, intss N, ints p]))::aN::aN::(.loc 0 0)::aN::(.s (benchC s N p))::aN::(aI (s ^ (t - 1)))::(aI t)::aN::aZ40), [.obj [aI 0, aI 0]]⟩) (pl - 1) rfl ?_ ?_
    ·simp only [c22l11m, go_sem, ↓reduceIte, reduceCtorEq, Nat.reduceLeDiff]
     exact ⟨1, rfl, Nat.le_refl _, .inr rfl, by rw [show s ^ (1 - 1) = 1 from Int.pow_zero s]; rfl⟩
    ·rintro I m τ ⟨t, rfl, ht1, ht, rfl⟩ hI
     simp only [c22l11, c22r8, go_sem, ↓reduceIte, true_implies];refine ⟨fun hlt => ?_, fun hge => ?_⟩
     ·have hlt : t < pl := by omega
      have hps : s ^ (t - 1) * s = s ^ (t + 1 - 1) := by rw [<- Int.pow_succ]; congr 1; omega
      have hb1 := hpb (t + 1 - 1);have hb2 := hp20 (t + 1 - 1) (by omega)
      simp only [c22r9, go_sem, Nat.reduceAdd, Nat.reduceLeDiff, true_implies];rw [hps];refine ⟨inR_small (by omega) (by omega), ?_⟩
      simp only [c22r10, c22l11m, go_sem, ↓reduceIte, reduceCtorEq, Nat.reduceLeDiff, true_implies];exact ⟨inR_small (by omega) (by omega), hI (pl - (t + 1)) _ (by omega) ⟨t + 1, rfl, by omega, .inl (by omega), rfl⟩⟩
     ·have hte : t - 1 = pl - 1 := by omega
      rw [hte];have hb1 := hpb (pl - 1);have hb2 := hp20 (pl - 1) (by omega)
      have hf := fT_le h (state := st) (by omega) (t := pl) (by omega)
      have hk71 := k59 (n := fT s N p st pl) (d := s ^ (pl - 1)) (by omega) (by omega) (by omega)
      simp only [c22r12, go_sem];refine callK_of (by simp only [benchC, bnV, intss, ints, go_sem]) h72 (.inl rfl) ?_
      simp only [go_sem];refine callK_of (by simp only [go_sem]) hk71 (.inl rfl) ?_
      simp only [rat, spl_two, frz_two', go_sem, Nat.reduceAdd, true_implies]
   ·rw [decide_eq_false (by omega)] at hw2
    rw [if_neg fun h => h2 h.2]
    simp only [hw2, c22r5, rat, spl_two, frz_two', go_sem, Nat.reduceAdd, true_implies]
    done
  ·rw [decide_eq_false (by omega)] at hw1
   rw [if_neg fun h => h1 h.1]
   simp only [hw1, c22r5, rat, spl_two, frz_two', go_sem, Nat.reduceAdd, true_implies]
   done
 ·rw [if_neg h0] at h48
  rw [if_neg h0];refine callK_of rfl h48 (.inr (.inl rfl)) ?_
  simp only [h0, c22r2, c22r3, rat, spl_two, frz_two', go_sem, Nat.reduceAdd, true_implies]
def fv (far : List Int) (x : Nat) : Int := far[x]?.getD 0
theorem fv_set {far : List Int} {k x : Nat} {y : Int} (hk : k < far.length) : fv (far.set k y) x = if k = x then y else fv far x := by
 unfold fv
 by_cases e : k = x
 ·subst e; rw [List.getElem?_set_self hk, if_pos rfl]; rfl
 ·rw [List.getElem?_set_ne e, if_neg e]
structure Pq (g : Nat -> Nat -> Bool) (n c off : Nat) (Q : List Nat) (far : List Int) (d : Nat) : Prop where
  nod : Q.Nodup
  lt : ∀ x ∈ Q, x < n
  hd : Q[0]? = some c
  fl : far.length = n
  neg : ∀ x, x < n -> x ∉ Q -> fv far x = -1
  pos : ∀ (j x : Nat), Q[j]? = some x -> ∃ L : Nat, fv far x = L /\ L <= j /\ Wk g n L c x
  edge : ∀ (j i : Nat), j < off -> Q[j]? = some i -> ∀ k, k < n -> g i k = true -> k ∈ Q /\ (d : Int) ∣ fv far i + 1 - fv far k
  gcd : ∀ e : Nat, (∀ i k, i ∈ Q -> k ∈ Q -> k < n -> g i k = true -> (e : Int) ∣ fv far i + 1 - fv far k) -> e ∣ d
  db : d <= 4
section
variable {g : Nat -> Nat -> Bool} {n c off : Nat} {Q : List Nat} {far : List Int} {d : Nat}
theorem Pq.len (h : Pq g n c off Q far d) : Q.length <= n := by
 have := h.nod.length_le_of_subset (l₂ := List.range n) (fun x hx => List.mem_range.2 (h.lt x hx))
 simpa using this
theorem Pq.fin (h : Pq g n c off Q far d) (hn : n <= 4) {x : Nat} (hx : x ∈ Q) : 0 <= fv far x /\ fv far x <= 3 := by
 obtain ⟨j, hj⟩ := List.mem_iff_getElem?.1 hx;obtain ⟨L, h1, h2, _⟩ := h.pos j x hj;have h3 := (List.getElem?_eq_some_iff.1 hj).1;have h4 := h.len;omega
theorem Pq.add (h : Pq g n c off Q far d) {a k : Nat} (ha : Q[off]? = some a) (hk : k < n) (hg : g a k = true) (hkn : k ∉ Q) : Pq g n c off (Q ++ [k]) (far.set k (fv far a + 1)) d := by
 have hkl : k < far.length := by rw [h.fl]; exact hk
 have same : ∀ x, x ∈ Q -> fv (far.set k (fv far a + 1)) x = fv far x := fun x hx => by
  rw [fv_set hkl, if_neg];intro e; subst e; exact hkn hx
 have ham := List.mem_of_getElem? ha;have hoff := (List.getElem?_eq_some_iff.1 ha).1;refine ⟨?_, fun x hx => ?_, ?_, by rw [List.length_set, h.fl], fun x hx hxn => ?_, fun j x hj => ?_, fun j i hj hi x hx hgx => ?_, fun e he => h.gcd e fun i x hi hx hxn hgx => ?_, h.db⟩
 ·rw [List.nodup_append]
  refine ⟨h.nod, by simp, fun x hx y hy e => ?_⟩
  rw [List.mem_singleton] at hy;subst hy; subst e; exact hkn hx
 ·rcases List.mem_append.1 hx with hx | hx
  ·exact h.lt x hx
  ·rw [List.mem_singleton.1 hx]; exact hk
 ·rw [List.getElem?_append_left (by omega)]; exact h.hd
 ·rw [List.mem_append, not_or, List.mem_singleton] at hxn
  rw [fv_set hkl, if_neg (fun e => hxn.2 e.symm)]
  exact h.neg x hx hxn.1
 ·by_cases hjl : j < Q.length
  ·rw [List.getElem?_append_left hjl] at hj
   rw [same x (List.mem_of_getElem? hj)];exact h.pos j x hj
  ·have hjl2 := (List.getElem?_eq_some_iff.1 hj).1
   rw [List.length_append, List.length_singleton] at hjl2;have hje : j = Q.length := by omega
   rw [hje, List.getElem?_append_right (Nat.le_refl _), Nat.sub_self] at hj;have hxe : k = x := by simpa using hj
   subst hxe;obtain ⟨L, h1, h2, h3⟩ := h.pos off a ha;refine ⟨L + 1, by rw [fv_set hkl, if_pos rfl, h1]; rfl, by omega, .snoc h3 hg hk⟩
 ·rw [List.getElem?_append_left (by omega)] at hi
  obtain ⟨h1, h2⟩ := h.edge j i hj hi x hx hgx;rw [same i (List.mem_of_getElem? hi), same x h1];exact ⟨List.mem_append_left _ h1, h2⟩
 ·have := he i x (List.mem_append_left _ hi) (List.mem_append_left _ hx) hxn hgx
  rwa [same i hi, same x hx] at this
theorem Pq.old (h : Pq g n c off Q far d) (hn : n <= 4) {a k : Nat} (ha : Q[off]? = some a) (hk : k < n) (hg : g a k = true) (hkn : k ∈ Q) : Pq g n c off Q far (Nat.gcd d (fv far a + 1 - fv far k).natAbs) := by
 have hda : ((Nat.gcd d (fv far a + 1 - fv far k).natAbs : Nat) : Int) ∣ (d : Int) := Int.natCast_dvd_natCast.2 (Nat.gcd_dvd_left _ _);have f1 := h.fin hn (List.mem_of_getElem? ha);have f2 := h.fin hn hkn;refine { h with edge := fun j i hj hi x hx hgx => ?_, gcd := fun e he => ?_, db := ?_ }
 ·obtain ⟨h1, h2⟩ := h.edge j i hj hi x hx hgx
  exact ⟨h1, Int.dvd_trans hda h2⟩
 ·refine Nat.dvd_gcd (h.gcd e he) ?_
  exact Int.ofNat_dvd_left.1 (he a k (List.mem_of_getElem? ha) hkn hk hg)
 ·have h1 := h.db
  rcases Nat.eq_zero_or_pos (fv far a + 1 - fv far k).natAbs with h0 | h0
  ·rw [h0, Nat.gcd_zero_right]; exact h1
  ·exact Nat.le_trans (Nat.gcd_le_right _ h0) (by omega)
theorem Pq.next (h : Pq g n c off Q far d) {a : Nat} (ha : Q[off]? = some a) (hp : ∀ k, k < n -> g a k = true -> k ∈ Q /\ (d : Int) ∣ fv far a + 1 - fv far k) : Pq g n c (off + 1) Q far d :=
 ⟨h.nod, h.lt, h.hd, h.fl, h.neg, h.pos, fun j i hj hi x hx hgx => (by
   by_cases e : j = off
   ·rw [e, ha] at hi; cases hi; exact hp x hx hgx
   ·exact h.edge j i (by omega) hi x hx hgx), h.gcd, h.db⟩
theorem Pq.done (h : Pq g n c Q.length Q far d) (hn : n <= 4) (hc : isPC g n c = true) : d = perN g n c := by
 have hcl := isPC_clsd hc;have hcn := (isPC_iff.1 hc).1.lt;refine per_eq (f := fv far) (S := fun x => x ∈ Q) hcn (List.mem_of_getElem? h.hd) ?_ (fun i hi => ?_) (fun i k hi hk hg => ?_) (fun e he => h.gcd e he) (fun k hk => ?_)
 ·obtain ⟨L, h1, h2, _⟩ := h.pos 0 c h.hd
  rw [h1]; omega
 ·obtain ⟨j, hj⟩ := List.mem_iff_getElem?.1 hi
  obtain ⟨L, h1, h2, h3⟩ := h.pos j i hj;have h4 := (List.getElem?_eq_some_iff.1 hj).1;have h5 := h.len;exact ⟨L, h1, by omega, h3⟩
 ·obtain ⟨j, hj⟩ := List.mem_iff_getElem?.1 hi
  exact h.edge j i (List.getElem?_eq_some_iff.1 hj).1 hj k hk hg
 ·obtain ⟨j, hj⟩ := List.mem_iff_getElem?.1 hk
  obtain ⟨L, _, _, h3⟩ := h.pos j k hj
  have hr : Reach g n k c := by
   rcases h3.reach with ⟨_, rfl⟩ | h4
   ·exact (isPC_iff.1 hc).1
   ·exact hcl k h4
  obtain ⟨r, r1, r2, r3⟩ := rB_walk (reach_iff.1 hr);exact ⟨r, r1, by omega, r3⟩
end
theorem fv_get {far : List Int} {x : Nat} (h : x < far.length) : far[x]? = some (fv far x) := by
 unfold fv; rw [List.getElem?_eq_getElem h]; rfl
set_option maxHeartbeats 2000000 in
theorem k55 {s : Int} {N : List (List Int)} {p : List Int} {c : Nat} (h : OkM s N p) (hc : isPC (gr N) N.length c = true) : E.Fn Tryz.prog 55 [benchC s N p, .int .i64 c] [.int .i64 (perN (gr N) N.length c)] := by
 refine fn_of_row okf55 ?_;have hn4 := h.n4;have hcn := (isPC_iff.1 hc).1.lt;have hm := map_turns h.sq;simp only [FRow.start, f55, c55r0, c55r1, benchC, bnV, intss, go_sem, Nat.reduceAdd, Nat.reduceSub, Nat.reduceLT, Nat.reduceLeDiff, true_implies];refine ⟨by omega, by omega, fun _ => ?_⟩
 rw [rep_flat];simp only [c55r2, go_sem];intro _
 refine loop_rule (fun m τ => ∃ i : Nat, m = N.length - i /\ i <= N.length /\
  τ = ⟨((.s (benchC s N p))::(aI c)::aN::aN::aN::(.sl 0 0 N.length 1 true)::aN::aN::aN::aN::aN::aN::aN::aN::aN::aN::aN::aN::aN::(aI N.length)::(aI i)::aN::aZ80), [.row ((List.replicate i (-1) ++ List.replicate (N.length - i) 0).map (.int .i64))]⟩) N.length rfl ?_ ?_
 ·simp only [c55l7m, go_sem, ↓reduceIte, reduceCtorEq, Nat.reduceLeDiff, Int.reduceNeg]
  exact ⟨0, rfl, Nat.zero_le _, rfl⟩
 ·rintro I m τ ⟨i, rfl, hi, rfl⟩ hI
  simp only [c55l7, c55r3, go_sem, ↓reduceIte, Int.reduceNeg, true_implies];refine ⟨fun hlt => ?_, fun hge => ?_⟩
  ·have hlt : i < N.length := by omega
   have hs1 := spl_row (R := List.replicate i (-1) ++ List.replicate (N.length - i) 0) (i := i) (x := -1) (by simp; omega)
   have hset : (List.replicate i (-1 : Int) ++ List.replicate (N.length - i) 0).set i (-1) = List.replicate (i + 1) (-1) ++ List.replicate (N.length - (i + 1)) 0 := by
    rw [List.set_append_right _ _ (by simp), List.length_replicate, Nat.sub_self, show N.length - i = (N.length - (i + 1)) + 1 by omega, List.replicate_succ, List.set_cons_zero, List.replicate_succ', List.append_assoc]; rfl
   rw [hset] at hs1;simp only [c55r4, c55r5, Nat.mul_one, hs1, go_sem, Int.reduceNeg, true_implies];refine ⟨hlt, by simp; omega, ?_⟩
   simp only [c55r6, c55l7m, go_sem, ↓reduceIte, reduceCtorEq, Nat.reduceLeDiff, Int.reduceNeg, true_implies];exact ⟨inR_small (by omega) (by omega), hI (N.length - (i + 1)) _ (by omega) ⟨i + 1, rfl, by omega, rfl⟩⟩
  ·have hie : i = N.length := by omega
   subst hie;rw [Nat.sub_self, List.replicate_zero, List.append_nil];have hs1 := spl_row (R := List.replicate N.length (-1)) (i := c) (x := 0) (by simpa using hcn)
   obtain ⟨far0, hfar0⟩ : ∃ far0, far0 = (List.replicate N.length (-1 : Int)).set c 0 := ⟨_, rfl⟩;rw [<- hfar0] at hs1
   have hp0 : Pq (gr N) N.length c 0 [c] far0 0 := by
    have hfv : ∀ x, x < N.length -> fv far0 x = if c = x then 0 else -1 := fun x hx => by
     rw [hfar0, fv_set (by simpa using hcn)]
     split
     ·rfl
     ·unfold fv; rw [List.getElem?_replicate, if_pos hx]; rfl
    refine ⟨by simp, fun x hx => by rw [List.mem_singleton.1 hx]; exact hcn, rfl, by rw [hfar0]; simp, fun x hx hxn => ?_, fun j x hj => ?_, fun j i hj => absurd hj (Nat.not_lt_zero _), fun e _ => Nat.dvd_zero e, by decide⟩
    ·rw [hfv x hx, if_neg]
     intro e; exact hxn (by simp [e])
    ·match j, hj with
     | 0, hj =>
      have hx : c = x := by simpa using hj
      subst hx;exact ⟨0, by rw [hfv c hcn, if_pos rfl]; rfl, Nat.le_refl _, .nil⟩
     | j + 1, hj => simp at hj
   clear hI I;simp only [c55r8, Nat.mul_one, hs1, c55r9, c55r10, go_sem, Nat.reduceAdd, Nat.reduceLT, Int.reduceNeg, true_implies];refine ⟨hcn, by simp; omega, by decide, by decide, rfl, one_int, ?_⟩
   refine loop_rule (fun m τ => ∃ (off o d : Nat) (Q : List Nat) (R far : List Int), m = N.length + 1 - off /\ off <= Q.length /\ Pq (gr N) N.length c off Q far d /\ R.drop o = (nats Q).drop off /\ o + (Q.length - off) = R.length /\
    τ = ⟨((.s (benchC s N p))::aN::aN::aN::aN::(.sl 0 0 N.length 1 true)::aN::(.sl 1 o (Q.length - off) 1 false)::(aI d)::aN::aN::aN::aN::aN::aZ88), [.row (far.map (.int .i64)), .row (R.map (.int .i64))]⟩) (N.length + 1) (promo_sl rfl) ?_ ?_
   ·simp only [c55l24m, go_sem, ↓reduceIte, reduceCtorEq, Nat.reduceAdd, Nat.reduceLeDiff]
    exact ⟨0, 0, 0, [c], [(c : Int)], far0, rfl, Nat.zero_le _, hp0, rfl, rfl, rfl⟩
   ·rintro I m τ ⟨off, o, d, Q, R, far, rfl, hoff, hP, hR, hRl, rfl⟩ hI
    have hQl := hP.len;simp only [c55l24, c55r11, go_sem, ↓reduceIte, Nat.reduceAdd];intro _;refine ⟨fun hlt => ?_, fun hge => ?_⟩
    ·have hlt : off < Q.length := by omega
     obtain ⟨a, ha⟩ : ∃ a, Q[off]? = some a := ⟨_, List.getElem?_eq_getElem hlt⟩;have han := hP.lt a (List.mem_of_getElem? ha)
     have hxm : R[o]? = some (a : Int) := by
      have h9 := congrArg (·[0]?) hR;simp only [List.getElem?_drop, Nat.add_zero] at h9;rw [h9]; unfold nats; rw [List.getElem?_map, ha]; rfl
     have hRd : R.drop (o + 1) = (nats Q).drop (off + 1) := by
      have h9 := congrArg (List.drop 1) hR;rw [List.drop_drop, List.drop_drop] at h9;exact h9
     have hpos : (0 : Int) < ((Q.length - off : Nat) : Int) := by omega
     simp only [c55r12, Nat.add_zero, hxm, hpos, c55r13, c55r14, benchC, bnV, intss, go_sem, ↓reduceIte, Nat.reduceAdd, Nat.reduceLeDiff, Int.reduceLE, Int.reduceToNat, Nat.reduceMul, true_implies];refine ⟨by omega, fun _ => ?_⟩
     rw [show Q.length - off - 1 = Q.length - (off + 1) by omega]
     refine loop_rule (fun m τ => ∃ (k o d : Nat) (Q : List Nat) (R far : List Int), m = N.length - k /\ k <= N.length /\ off < Q.length /\ Q[off]? = some a /\ Pq (gr N) N.length c off Q far d /\ (∀ k', k' < k -> gr N a k' = true -> k' ∈ Q /\ (d : Int) ∣ fv far a + 1 - fv far k') /\ R.drop o = (nats Q).drop (off + 1) /\ o + (Q.length - (off + 1)) = R.length /\
      τ = ⟨((.s (benchC s N p))::aN::aN::aN::aN::(.sl 0 0 N.length 1 true)::aN::(.sl 1 o (Q.length - (off + 1)) 1 false)::(aI d)::(aI a)::aN::aN::aN::aN::aN::aN::aN::aN::aN::aN::aN::aN::aN::aN::aN::aN::aN::aN::aN::aN::aN::aN::aN::aN::aN::aN::aN::aN::aN::aN::aN::aN::aN::aN::aN::(aI N.length)::(aI k)::aN::aN::aN::aN::aN::aN::aN::aZ48), [.row (far.map (.int .i64)), .row (R.map (.int .i64))]⟩) N.length (promo_sl rfl) ?_ ?_
     ·simp only [c55l23m, go_sem, ↓reduceIte, reduceCtorEq, Nat.reduceAdd, Nat.reduceLeDiff]
      exact ⟨0, o + 1, d, Q, R, far, rfl, Nat.zero_le _, hlt, ha, hP, fun k' h => absurd h (Nat.not_lt_zero _), hRd, by omega, rfl⟩
     ·clear hP hR hRl hxm hRd hQl ha hlt hoff
      rintro I2 m τ ⟨k, o, d, Q, R, far, rfl, hk, hlt, ha, hP, hpart, hR, hRl, rfl⟩ hI2;have hQl := hP.len;simp only [c55l23, c55r15, go_sem, ↓reduceIte, Nat.reduceAdd, true_implies];refine ⟨fun hlt2 => ?_, fun hge => ?_⟩
      ·have hk : k < N.length := by omega
       have hgk : gr N a k = decide (0 < tn N a k) := rfl;have htn := h.tn a k;have hfl := hP.fl;have hfa := hP.fin hn4 (List.mem_of_getElem? ha);have hga := fv_get (far := far) (x := a) (by omega)
       have hgk2 := fv_get (far := far) (x := k) (by omega)
       simp only [c55r16, c55r17, benchC, bnV, go_sem, ↓reduceIte, Nat.reduceAdd, Nat.reduceLeDiff, true_implies];refine ⟨hm.key a k han hk, hm.nod, hm.look han hk ?_⟩
       by_cases hT : tn N a k = 0
       ·have hg0 : gr N a k = false := by rw [hgk]; exact decide_eq_false (by omega)
        simp only [hT, c55r22, c55l23m, go_sem, ↓reduceIte, reduceCtorEq, Nat.reduceAdd, Nat.reduceLeDiff, true_implies];exact ⟨inR_small (by omega) (by omega), hI2 (N.length - (k + 1)) _ (by omega) ⟨k + 1, o, d, Q, R, far, rfl, by omega, hlt, ha, hP, fun k' h1 h2 => if e : k' = k then absurd (by rw [e, hg0] at h2; exact h2) (by simp) else hpart k' (by omega) h2, hR, hRl, rfl⟩⟩
       ·have hg1 : gr N a k = true := by rw [hgk]; exact decide_eq_true (by omega)
        simp only [hT, c55r18, Nat.mul_one, hgk2, go_sem, Nat.reduceAdd, true_implies];refine ⟨hk, ?_⟩
        by_cases hkq : k ∈ Q
        ·have hfk := hP.fin hn4 hkq
         have hP2 := hP.old hn4 ha hk hg1 hkq;have hdd : ((Nat.gcd d (fv far a + 1 - fv far k).natAbs : Nat) : Int) ∣ (d : Int) := Int.natCast_dvd_natCast.2 (Nat.gcd_dvd_left _ _);have hnd : ((Nat.gcd d (fv far a + 1 - fv far k).natAbs : Nat) : Int) ∣ fv far a + 1 - fv far k := Int.dvd_trans (Int.natCast_dvd_natCast.2 (Nat.gcd_dvd_right _ _)) (Int.natAbs_dvd.2 (Int.dvd_refl _));have hneg : ¬ fv far k < 0 := by omega
         have hmx : maxL [fv far a + 1 - fv far k, fv far k - fv far a - 1] = ((fv far a + 1 - fv far k).natAbs : Int) := by
          simp only [maxL, List.foldl_cons, List.foldl_nil]
          split <;> omega
         have hk89 := k97 (fv far a + 1 - fv far k).natAbs d (by have := hP.db; omega) (by omega)
         simp only [hneg, c55r21, Nat.mul_one, hga, hgk2, go_sem, false_implies, true_implies, not_false_eq_true];refine ⟨han, inR_i64 (by omega) (by omega), hk, inR_i64 (by omega) (by omega), hk, han, inR_i64 (by omega) (by omega), inR_i64 (by omega) (by omega), by simp, ?_⟩
         rw [hmx];refine callK_of (by simp only [go_sem]) hk89 (.inl rfl) ?_
         simp only [c55r22, c55l23m, go_sem, ↓reduceIte, reduceCtorEq, Nat.reduceAdd, Nat.reduceLeDiff, true_implies];exact ⟨inR_small (by omega) (by omega), hI2 (N.length - (k + 1)) _ (by omega) ⟨k + 1, o, Nat.gcd d (fv far a + 1 - fv far k).natAbs, Q, R, far, rfl, by omega, hlt, ha, hP2, fun k' h1 h2 => if e : k' = k then by rw [e]; exact ⟨hkq, hnd⟩ else ⟨(hpart k' (by omega) h2).1, Int.dvd_trans hdd (hpart k' (by omega) h2).2⟩, hR, hRl, rfl⟩⟩
        ·have hfk := hP.neg k hk hkq
         have hneg : fv far k < 0 := by omega
         have hP2 := hP.add ha hk hg1 hkq;have hs1 := spl_row (R := far) (i := k) (x := fv far a + 1) (by omega)
         have haq := List.mem_of_getElem? ha;have hak : k ≠ a := fun e => hkq (e ▸ haq)
         have e3 : (R.map (SV.int .i64)).drop o ++ flatE [SV.int .i64 (k : Int)] = (R.drop o ++ [(k : Int)]).map (SV.int .i64) := by rw [List.map_append, List.map_drop]; rfl
         simp only [hneg, c55r19, Nat.mul_one, hga, hs1, go_sem, Nat.reduceAdd, not_true_eq_false, false_implies, true_implies];refine ⟨han, inR_small (by omega) (by omega), hk, by omega, ?_⟩
         simp only [c55r20, Nat.reduceBEq, Bool.false_eq_true, go_sem, ↓reduceIte, Nat.reduceAdd, Nat.reduceLeDiff, Nat.reduceMul, true_implies];refine ⟨by decide, by decide, rfl, one_int, one_int, by rw [Nat.mul_one]; omega, by omega, by omega, ?_⟩
         rw [e3]
         have hsame : ∀ x, x ∈ Q -> fv (far.set k (fv far a + 1)) x = fv far x := fun x hx => by
          rw [fv_set (by omega), if_neg]
          intro e; subst e; exact hkq hx
         simp only [c55r22, c55l23m, go_sem, ↓reduceIte, reduceCtorEq, Nat.reduceLeDiff, true_implies];refine ⟨inR_small (by omega) (by omega), hI2 (N.length - (k + 1)) _ (by omega) ⟨k + 1, 0, d, Q ++ [k], R.drop o ++ [(k : Int)], far.set k (fv far a + 1), rfl, by omega, by rw [List.length_append]; omega, by rw [List.getElem?_append_left (by omega)]; exact ha, hP2, fun k' h1 h2 => ?_, ?_, ?_, ?_⟩⟩
         ·rw [hsame a haq]
          by_cases e : k' = k
          ·rw [e]
           refine ⟨by simp, ?_⟩
           rw [fv_set (by omega), if_pos rfl, Int.sub_self]
           exact Int.dvd_zero _
          ·have h9 := hpart k' (by omega) h2
           rw [hsame k' h9.1];exact ⟨List.mem_append_left _ h9.1, h9.2⟩
         ·rw [List.drop_zero, hR]
          unfold nats;rw [List.map_append, List.drop_append_of_le_length (by rw [List.length_map]; omega)]; rfl
         ·rw [List.length_append, List.length_append, List.length_drop, List.length_singleton, List.length_singleton]; omega
         ·rw [List.length_append, List.length_singleton, show Q.length + 1 - (off + 1) = Q.length - (off + 1) + 1 by omega]; rfl
      ·have hke : k = N.length := by omega
       subst hke;simp only [c55l24m, go_sem, ↓reduceIte, reduceCtorEq, Nat.reduceLeDiff];exact hI (N.length + 1 - (off + 1)) _ (by omega) ⟨off + 1, o, d, Q, R, far, rfl, by omega, hP.next ha fun k hk hg => hpart k hk hg, hR, hRl, rfl⟩
    ·have hoe : off = Q.length := by omega
     subst hoe;rw [hP.done hn4 hc];simp only [c55r25, go_sem, true_implies]
     done
def partC (N : List (List Int)) (m : Nat) : Nat := ((((parts N)[m]?).getD [])[0]?.getD 0).toNat
theorem partC_pc {N : List (List Int)} {m : Nat} (hm : m < (parts N).length) : isPC (gr N) N.length (partC N m) = true /\ (parts N)[m]? = some (rchC (gr N) N.length (partC N m)) := by
 have h1 := List.getElem?_eq_getElem hm;obtain ⟨x, hx⟩ : ∃ x, x = (parts N)[m] := ⟨_, rfl⟩;have hmem : x ∈ parts N := by rw [hx]; exact List.getElem_mem hm
 rw [<- hx] at h1;unfold parts partsC at hmem;obtain ⟨c, hc, rfl⟩ := List.mem_map.1 hmem;obtain ⟨l, hl⟩ := rchC_head (List.mem_filter.1 hc).2
 have hpc : partC N m = c := by
  unfold partC;rw [h1, Option.getD_some, hl, List.getElem?_cons_zero, Option.getD_some, Int.toNat_natCast]
 rw [hpc];exact ⟨(List.mem_filter.1 hc).2, h1⟩
def perR (s : Int) (N : List (List Int)) (p : List Int) (part : Int) : List SV :=
 if chkM s N p = 0 then (if 0 <= part /\ part < (parts N).length then [.int .i64 (perN (gr N) N.length (partC N part.toNat)), .int .i64 0] else [.int .i64 0, .int .i64 2]) else [.int .i64 0, .int .i64 (chkM s N p)]
theorem k15 {s : Int} {N : List (List Int)} {p : List Int} {part : Int} : E.Fn Tryz.prog 15 [mc s N p, .int .i64 part] (perR s N p part) := by
 refine fn_of_row okf15 ?_;have h48 := k49 (s := s) (N := N) (p := p);unfold perR;unfold openR at h48;simp only [FRow.start, f15, c15r0, c15r1, mc, SV.cells, List.length_cons, List.length_nil, go_sem, Nat.reduceAdd, Nat.reduceSub, true_implies]
 by_cases h0 : chkM s N p = 0
 ·rw [if_pos h0] at h48
  rw [if_pos h0];have h := chkM_zero.1 h0;have hn4 := h.n4;have hpl := parts_len (N := N);refine callK_of rfl h48 (.inr (.inl rfl)) ?_
  have hw1 := within_one (lo := 0) (hi := ((parts N).length : Int) - 1) (x := part);simp only [c15r2, c15r4, benchC, bnV, intss, go_sem, Nat.reduceAdd, Nat.reduceLeDiff, Nat.reduceMul, true_implies];refine ⟨inR_i64 (by omega) (by omega), by decide, by decide, rfl, one_int, ?_⟩
  refine callK_of (by simp only [ints, List.map_cons, List.map_nil, go_sem]) (k50 (lo := 0) (hi := ((parts N).length : Int) - 1) (l := [part])) (.inl rfl) ?_
  by_cases h1 : 0 <= part /\ part < (parts N).length
  ·rw [decide_eq_true (by omega)] at hw1
   rw [if_pos h1];obtain ⟨m, rfl⟩ : ∃ m : Nat, part = m := ⟨part.toNat, by omega⟩
   rw [Int.toNat_natCast];have hml : m < (parts N).length := by omega
   obtain ⟨hpc, hpe⟩ := partC_pc hml;obtain ⟨l, hl⟩ := rchC_head hpc;rw [hl] at hpe;have h69 := k55 h hpc;simp only [hw1, c15r6, hpe, go_sem, Nat.reduceAdd, Nat.reduceLeDiff];intro _;simp only [ints, List.map_cons, go_sem, Int.reduceToNat];refine callK_of (by simp only [ints, benchC, bnV, intss, go_sem]) h69 (.inl rfl) ?_
   simp only [go_sem, true_implies]
  ·rw [decide_eq_false (by omega)] at hw1
   rw [if_neg h1];simp only [hw1, c15r5, go_sem, true_implies]
 ·rw [if_neg h0] at h48
  rw [if_neg h0];refine callK_of rfl h48 (.inr (.inl rfl)) ?_
  simp only [h0, c15r2, c15r3, go_sem, true_implies]
theorem k36 {l : List Int} : E.Fn Tryz.prog 36 [ints l] [ints l] := by
 refine fn_of_row okf36 ?_;simp only [FRow.start, f36, c36r0, c36r1, ints, go_sem, Nat.reduceSub, true_implies]
theorem k47 {l : List Int} : E.Fn Tryz.prog 47 [ints l] [ints l] := by
 refine fn_of_row okf47 ?_;simp only [FRow.start, f47, c47r0, c47r1, ints, go_sem, Nat.reduceSub, true_implies]
theorem k48 {a b : Int} : E.Fn Tryz.prog 48 [.int .i64 a, .int .i64 b] [rat (a, b)] := by
 refine fn_of_row okf48 ?_;simp only [FRow.start, f48, c48r0, c48r1, spl_two, frz_two', rat, go_sem, ↓reduceIte, Nat.reduceAdd, Nat.reduceSub, Nat.reduceLeDiff, true_implies]
theorem k43 {d g : Int} {hs : List Int} : E.Fn Tryz.prog 43 [.int .i64 d, .int .i64 g, ints hs] [prV d g hs] := by
 refine fn_of_row okf43 ?_;simp only [FRow.start, f43, c43r0, c43r1, ints, splice, prV, go_sem, ↓reduceIte, Nat.reduceAdd, Nat.reduceSub, Nat.reduceLeDiff, true_implies]
def smallB (q : Int × Int) : Bool := decide (1 <= q.2 /\ q.2 <= 32000 /\ 0 <= q.1 /\ q.1 <= 1000 * q.2) && decide (Nat.gcd q.1.toNat q.2.toNat = 1)
theorem smallB_iff {q : Int × Int} : smallB q = true ↔ (1 <= q.2 /\ q.2 <= 32000 /\ 0 <= q.1 /\ q.1 <= 1000 * q.2) /\ Nat.gcd q.1.toNat q.2.toNat = 1 := by
 unfold smallB; rw [Bool.and_eq_true, decide_eq_true_eq, decide_eq_true_eq]
theorem smallB_no {q : Int × Int} (h : ¬ (1 <= q.2 /\ q.2 <= 32000 /\ 0 <= q.1 /\ q.1 <= 1000 * q.2)) : smallB q = false := by
 unfold smallB; rw [decide_eq_false h]; rfl
theorem k77 {q : Int × Int} : E.Fn Tryz.prog 77 [rat q] [.bool (smallB q)] := by
 refine fn_of_row okf77 ?_;obtain ⟨n, d⟩ := q;simp only [FRow.start, f77, c77r0, c77r1, rat, go_sem, Nat.reduceAdd, Nat.reduceSub, Nat.reduceLeDiff, true_implies];refine ⟨fun h1 => ?_, fun h1 => ⟨fun h2 => ?_, fun h2 => ⟨fun h3 => ?_, fun h3 => ?_⟩⟩⟩
 ·rw [smallB_no (by simp only; omega)]
  simp only [c77r2, go_sem, true_implies]
 ·rw [smallB_no (by simp only; omega)]
  simp only [c77r2, go_sem, true_implies]
 ·rw [smallB_no (by simp only; omega)]
  simp only [c77r2, go_sem, true_implies]
 ·refine ⟨inR_small (by omega) (by omega), fun h4 => ?_, fun h4 => ?_⟩
  ·rw [smallB_no (by simp only; omega)]
   simp only [c77r2, go_sem, true_implies]
  ·obtain ⟨a, rfl⟩ : ∃ a : Nat, n = a := ⟨n.toNat, by omega⟩
   obtain ⟨b, rfl⟩ : ∃ b : Nat, d = b := ⟨d.toNat, by omega⟩
   have hk := k34 b a (by omega) (by omega)
   have hb : smallB ((a : Int), (b : Int)) = decide (((a.gcd b : Nat) : Int) = 1) := by
    rw [Bool.eq_iff_iff, smallB_iff, decide_eq_true_eq];simp only [Int.toNat_natCast];omega
   rw [hb];simp only [c77r3, go_sem, Nat.reduceAdd, Nat.reduceLeDiff];refine callK_of (by simp only [go_sem]) hk (.inl rfl) ?_
   simp only [go_sem, true_implies]
def payB (s : Int) (N : List (List Int)) (p : List Int) : List SV :=
 if setE s N p = 0 then [rat (paysQ s N p), .bool (smallB (paysQ s N p))] else [rat (0, 0), .bool false]
theorem k27 {s : Int} {N : List (List Int)} {p : List Int} : E.Fn Tryz.prog 27 [mc s N p] (payB s N p) := by
 refine fn_of_row okf27 ?_;have h25 := k19 (s := s) (N := N) (p := p);unfold payB;unfold paysR at h25;simp only [FRow.start, f27, c27r0, c27r1, mc, SV.cells, go_sem, Nat.reduceAdd, Nat.reduceSub, true_implies]
 by_cases h0 : setE s N p = 0
 ·rw [if_pos h0] at h25 ⊢
  refine callK_of rfl h25 (.inl rfl) ?_
  simp only [rat, spl_two, c27r2, go_sem, Nat.reduceAdd, true_implies];refine callK_of (by simp only [rat, go_sem]) (k77 (q := paysQ s N p)) (.inl rfl) ?_
  simp only [spl_two, frz_two', go_sem, Nat.reduceAdd, true_implies]
 ·rw [if_neg h0] at h25 ⊢
  refine callK_of rfl h25 (.inl rfl) ?_
  simp only [rat, spl_two, c27r2, h0, frz_two', go_sem, Nat.reduceAdd, true_implies]
theorem k80 {s : Int} {N : List (List Int)} {p : List Int} (hp : 0 < p.length) (hN : ∀ l ∈ N, l.length = p.length) (hl : N.length <= 100) (hp2 : p.length <= 100) : E.Fn Tryz.prog 80 [.int .i64 s, ints p, ints N.flatten] [mc s N p] := by
 refine fn_of_row okf80 ?_
 have hfl : N.flatten.length = N.length * p.length := by
  clear hl
  induction N with
  | nil => simp
  | cons a N ih =>
   rw [List.flatten_cons, List.length_append, ih fun l h => hN l (List.mem_cons_of_mem _ h), hN a (by simp), List.length_cons, Nat.succ_mul, Nat.add_comm]
 have hdt : ∀ i l, N[i]? = some l -> (N.flatten.take (i * p.length + p.length)).drop (i * p.length) = l := by
  clear hfl hl
  induction N with
  | nil => intro i l h; cases h
  | cons a N ih =>
   intro i l h;have ha := hN a (by simp)
   cases i with
   | zero =>
    simp only [List.getElem?_cons_zero, Option.some.injEq] at h;subst h;rw [Nat.zero_mul, Nat.zero_add, List.drop_zero, List.flatten_cons, <- ha, List.take_left]
   | succ i =>
    have := ih (fun l h => hN l (List.mem_cons_of_mem _ h)) i l (by simpa using h)
    rw [List.flatten_cons, show (i + 1) * p.length + p.length = a.length + (i * p.length + p.length) by rw [Nat.succ_mul]; omega, List.take_length_add_append, show (i + 1) * p.length = a.length + i * p.length by rw [Nat.succ_mul]; omega, List.drop_length_add_append]
    exact this
 have hpi : (0 : Int) < p.length := by omega
 have hnp : N.length * p.length <= 100 * 100 := Nat.mul_le_mul hl hp2;simp only [FRow.start, f80, c80r0, c80r1, c80r2, ints, splice, go_sem, ↓reduceIte, Nat.reduceAdd, Nat.reduceSub, Nat.reduceLeDiff, true_implies]
 refine loop_rule (fun n τ => ∃ i : Nat, n = N.length - i /\ i <= N.length /\
  τ = ⟨(aN::(.s (ints p))::(.s (ints N.flatten))::aN::aN::aN::(.loc 0 0)::(.loc 1 0)::(aI ((i * p.length : Nat) : Int))::aZ32), [.obj [aI 0, .full [], .full []], .obj [aI s, .sl 2 0 i 1 false, .s (ints p)], .row ((N.take i).map ints)]⟩) N.length (promo_cell2 rfl rfl rfl) ?_ ?_
 ·simp only [c80l6m, go_sem, ↓reduceIte, reduceCtorEq, Nat.reduceAdd, Nat.reduceLeDiff]
  exact ⟨0, rfl, Nat.zero_le _, by rw [Nat.zero_mul]; rfl⟩
 ·rintro I n τ ⟨i, rfl, hi, rfl⟩ hI
  have hip : i * p.length <= N.length * p.length := Nat.mul_le_mul_right _ hi;have hsucc : (i + 1) * p.length = i * p.length + p.length := Nat.succ_mul _ _;simp only [c80l6, c80r3, ints, go_sem, ↓reduceIte, Nat.reduceAdd];refine ⟨inR_small (by omega) (by omega), fun hle _ => ⟨fun _ => ?_, fun h => absurd hpi h⟩, fun hgt => ?_⟩
  ·have hlt : i < N.length := Nat.lt_of_mul_lt_mul_right (a := p.length) (by omega)
   have hx : N[i]? = some N[i] := List.getElem?_eq_getElem hlt;have hd := hdt i _ hx;have hts : N.take (i + 1) = N.take i ++ [N[i]] := by rw [List.take_succ, hx]; rfl
   generalize N[i] = l at hx hd hts;have e1 : ((i * p.length : Nat) : Int) + (p.length : Nat) = ((i * p.length + p.length : Nat) : Int) := rfl;simp only [c80r4, splice, e1, Nat.reduceBEq, Bool.false_eq_true, go_sem, ↓reduceIte, Nat.reduceAdd, Nat.reduceLeDiff, Nat.reduceMul];refine ⟨inR_small (by omega) (by omega), ?_⟩
   have hd2 : ((N.flatten.map (SV.int .i64)).drop (i * p.length)).take (i * p.length + p.length - i * p.length) = l.map (.int .i64) := by
    rw [<- hd, List.drop_take, List.map_take, List.map_drop]
   rw [hd2]
   have e3 : (N.take i).map ints ++ flatE [SV.slice (l.map (.int .i64))] = (N.take (i + 1)).map ints := by
    rw [hts, List.map_append]; rfl
   refine ⟨by omega, by omega, ?_, by decide, by decide, rfl, one_s rfl, one_s rfl, by rw [List.length_take]; omega, by omega, by omega, fun _ => ?_⟩
   ·exact .inr fun e he => by obtain ⟨x, _, rfl⟩ := List.mem_map.1 he; rfl
   rw [e3];simp only [c80r5, c80l6m, go_sem, ↓reduceIte, reduceCtorEq, Nat.reduceLeDiff];refine ⟨inR_small (by omega) (by omega), fun _ => hI (N.length - (i + 1)) _ (by omega) ⟨i + 1, rfl, by omega, by rw [hsucc]; rfl⟩⟩
  ·have hie : i = N.length := by
    rcases Nat.lt_or_ge i N.length with h | h
    ·have := Nat.mul_le_mul_right p.length (show i + 1 <= N.length from h)
     omega
    ·omega
   subst hie;rw [List.take_length];simp only [c80r7, splice, slice_intss, mc, go_sem, Nat.reduceAdd, true_implies];exact fun _ => rfl
def mW : SV := mc 4 [[3, 1], [2, 2]] [0, 6]
def mX : SV := mc 2 [[0, 1, 1], [0, 2, 0], [0, 0, 2]] [1, 0, 4]
def mY : SV := mc 1 [[0, 1], [1, 0]] [1, 3]
def mR : SV := mc 4 [[2, 1], [1, 1]] [0, 6]
theorem ints_one {xs : List Int} : ∀ x ∈ xs.map (SV.int .i64), x.cells.length = 1 := by
 intro x hx;obtain ⟨y, _, rfl⟩ := List.mem_map.1 hx;rfl
theorem k38 : E.Fn Tryz.prog 38 [] [mW] := by
 refine fn_of_row okf38 ?_;simp only [FRow.start, f38, c38r0, c38r1, go_sem, Nat.reduceSub, Nat.reduceMul, true_implies];refine ⟨by decide, by decide, rfl, ints_one (xs := [0, 6]), ?_⟩
 refine callK_of rfl (k36 (l := [0, 6])) (.inr (.inl rfl)) ?_;simp only [ints, go_sem, Nat.reduceMul];refine ⟨by decide, by decide, rfl, ints_one (xs := [3, 1, 2, 2]), ?_⟩
 refine callK_of rfl (k80 (s := 4) (N := [[3, 1], [2, 2]]) (p := [0, 6]) (by decide) (by decide) (by decide) (by decide)) (.inr (.inl rfl)) ?_
 simp only [mW, mc, intss, ints, SV.cells, splice, go_sem, Nat.reduceAdd, true_implies]
theorem k39 : E.Fn Tryz.prog 39 [] [mX] := by
 refine fn_of_row okf39 ?_;simp only [FRow.start, f39, c39r0, c39r1, go_sem, Nat.reduceSub, Nat.reduceMul, true_implies];refine ⟨by decide, by decide, rfl, ints_one (xs := [1, 0, 4]), ?_⟩
 refine callK_of rfl (k36 (l := [1, 0, 4])) (.inr (.inl rfl)) ?_;simp only [ints, go_sem, Nat.reduceMul];refine ⟨by decide, by decide, rfl, ints_one (xs := [0, 1, 1, 0, 2, 0, 0, 0, 2]), ?_⟩
 refine callK_of rfl (k80 (s := 2) (N := [[0, 1, 1], [0, 2, 0], [0, 0, 2]]) (p := [1, 0, 4]) (by decide) (by decide) (by decide) (by decide)) (.inr (.inl rfl)) ?_
 simp only [mX, mc, intss, ints, SV.cells, splice, go_sem, Nat.reduceAdd, true_implies]
theorem k40 : E.Fn Tryz.prog 40 [] [mY] := by
 refine fn_of_row okf40 ?_;simp only [FRow.start, f40, c40r0, c40r1, go_sem, Nat.reduceSub, Nat.reduceMul, true_implies];refine ⟨by decide, by decide, rfl, ints_one (xs := [1, 3]), ?_⟩
 refine callK_of rfl (k36 (l := [1, 3])) (.inr (.inl rfl)) ?_;simp only [ints, go_sem, Nat.reduceMul];refine ⟨by decide, by decide, rfl, ints_one (xs := [0, 1, 1, 0]), ?_⟩
 refine callK_of rfl (k80 (s := 1) (N := [[0, 1], [1, 0]]) (p := [1, 3]) (by decide) (by decide) (by decide) (by decide)) (.inr (.inl rfl)) ?_
 simp only [mY, mc, intss, ints, SV.cells, splice, go_sem, Nat.reduceAdd, true_implies]
theorem k41 : E.Fn Tryz.prog 41 [] [mR] := by
 refine fn_of_row okf41 ?_;simp only [FRow.start, f41, c41r0, c41r1, go_sem, Nat.reduceSub, Nat.reduceMul, true_implies];refine ⟨by decide, by decide, rfl, ints_one (xs := [0, 6]), ?_⟩
 refine callK_of rfl (k36 (l := [0, 6])) (.inr (.inl rfl)) ?_;simp only [ints, go_sem, Nat.reduceMul];refine ⟨by decide, by decide, rfl, ints_one (xs := [2, 1, 1, 1]), ?_⟩
 refine callK_of rfl (k80 (s := 4) (N := [[2, 1], [1, 1]]) (p := [0, 6]) (by decide) (by decide) (by decide) (by decide)) (.inr (.inl rfl)) ?_
 simp only [mR, mc, intss, ints, SV.cells, splice, go_sem, Nat.reduceAdd, true_implies]
def nW : List (List Int) := [[3, 1], [2, 2]]
def nX : List (List Int) := [[0, 1, 1], [0, 2, 0], [0, 0, 2]]
def nY : List (List Int) := [[0, 1], [1, 0]]
def nR : List (List Int) := [[2, 1], [1, 1]]
theorem qW0 : chkM 4 nW [0, 6] = 0 := by decide +kernel
theorem qX0 : chkM 2 nX [1, 0, 4] = 0 := by decide +kernel
theorem qY0 : chkM 1 nY [1, 3] = 0 := by decide +kernel
theorem qR0 : chkR 4 nR [0, 6] = 0 := by decide +kernel
theorem qR1 : chkM 4 nR [0, 6] = 14 := by decide +kernel
theorem qX1 : parts nX = [[1], [2]] := by decide +kernel
theorem qY1 : parts nY = [[0, 1]] := by decide +kernel
theorem qW2 : setE 4 nW [0, 6] = 0 := by decide +kernel
theorem qX2 : setE 2 nX [1, 0, 4] = 17 := by decide +kernel
theorem qX3 : landsQ 2 nX 0 [1] = (1, 2) := by decide +kernel
theorem qW4 : sharesQ 4 nW = [(2, 3), (1, 3)] := by decide +kernel
theorem qW5 : paysQ 4 nW [0, 6] = (2, 1) := by decide +kernel
theorem qW6 : ckP 4 nW [0, 6] 1 2 [0, 8] = (3, 0) := by decide +kernel
theorem qW7 : ckP 4 nW [0, 6] 1 3 [0, 8] = (1, 0) := by decide +kernel
theorem qW8 : ckP 4 nW [0, 6] 1 2 [0, 0] = (0, 14) := by decide +kernel
theorem qW9 : ckP 4 nW [0, 6] (prfD 4 nW (fst0 nW)) (prfG 4 nW [0, 6] (fst0 nW)) (prfH 4 nW [0, 6] (fst0 nW)) = (3, 0) := by decide +kernel
theorem qW10 : lst (fT 4 nW [0, 6] 0 3) (4 ^ 2) = (27, 8) := by decide +kernel
theorem qR11 : bestQ lessQ (payL 4 nR [0, 6]) = (3, 2) := by decide +kernel
theorem qR12 : bestQ moreQ (payL 4 nR [0, 6]) = (4, 1) := by decide +kernel
theorem w0 : E.Fn Tryz.prog 42 [mW] [.int .i64 0] := by
 have h := k42 (s := 4) (N := nW) (p := [0, 6]);rw [qW2] at h;exact h
theorem w1 : E.Fn Tryz.prog 42 [mX] [.int .i64 17] := by
 have h := k42 (s := 2) (N := nX) (p := [1, 0, 4]);rw [qX2] at h;exact h
theorem w2 : E.Fn Tryz.prog 33 [mX] [intss [[1], [2]], .int .i64 0] := by
 have h := k33 (s := 2) (N := nX) (p := [1, 0, 4]);unfold partsR at h;rw [if_pos qX0, qX1] at h;exact h
theorem w3 : E.Fn Tryz.prog 13 [mX, .int .i64 0, .int .i64 0] [rat (1, 2), .int .i64 0] := by
 have h := k13 (s := 2) (N := nX) (p := [1, 0, 4]) (state := 0) (part := 0);unfold landsR at h;rw [if_pos qX0, qX1, if_pos (by decide)] at h
 rw [show landsQ 2 nX 0 ((([[1], [2]] : List (List Int))[(0 : Int).toNat]?).getD []) = (1, 2) from qX3] at h;exact h
theorem w4 : E.Fn Tryz.prog 13 [mX, .int .i64 0, .int .i64 2] [rat (0, 0), .int .i64 2] := by
 have h := k13 (s := 2) (N := nX) (p := [1, 0, 4]) (state := 0) (part := 2);unfold landsR at h;rw [if_pos qX0, qX1, if_neg (by decide)] at h
 exact h
theorem w5 : E.Fn Tryz.prog 15 [mY, .int .i64 0] [.int .i64 2, .int .i64 0] := by
 have h := k15 (s := 1) (N := nY) (p := [1, 3]) (part := 0);unfold perR at h;rw [if_pos qY0, qY1, if_pos (by decide)] at h
 rw [show perN (gr nY) nY.length (partC nY (0 : Int).toNat) = 2 from by decide +kernel] at h
 exact h
theorem w6 : E.Fn Tryz.prog 17 [mW] [rats [(2, 3), (1, 3)], .int .i64 0] := by
 have h := k17 (s := 4) (N := nW) (p := [0, 6]);unfold sharesR at h;rw [if_pos qW2, qW4] at h;exact h
theorem w7 : E.Fn Tryz.prog 19 [mW] [rat (2, 1), .int .i64 0] := by
 have h := k19 (s := 4) (N := nW) (p := [0, 6]);unfold paysR at h;rw [if_pos qW2, qW5] at h;exact h
theorem w8 : E.Fn Tryz.prog 19 [mX] [rat (0, 0), .int .i64 17] := by
 have h := k19 (s := 2) (N := nX) (p := [1, 0, 4]);unfold paysR at h;rw [qX2, if_neg (by decide)] at h
 exact h
theorem w9 : E.Fn Tryz.prog 29 [mW, prV 1 2 [0, 8]] [.int .i64 3, .int .i64 0] := by
 have h := k29 (s := 4) (N := nW) (p := [0, 6]) (d := 1) (g := 2) (hs := [0, 8]);rw [qW6] at h;exact h
theorem w10 : E.Fn Tryz.prog 29 [mW, prV 1 3 [0, 8]] [.int .i64 1, .int .i64 0] := by
 have h := k29 (s := 4) (N := nW) (p := [0, 6]) (d := 1) (g := 3) (hs := [0, 8]);rw [qW7] at h;exact h
theorem w11 : E.Fn Tryz.prog 29 [mW, prV 1 2 [0, 0]] [.int .i64 0, .int .i64 14] := by
 have h := k29 (s := 4) (N := nW) (p := [0, 6]) (d := 1) (g := 2) (hs := [0, 0]);rw [qW8] at h;exact h
theorem w12 : E.Fn Tryz.prog 28 [mW] [prV (prfD 4 nW (fst0 nW)) (prfG 4 nW [0, 6] (fst0 nW)) (prfH 4 nW [0, 6] (fst0 nW)), .int .i64 0] := by
 have h := k28 (s := 4) (N := nW) (p := [0, 6]);unfold proofR at h;rw [if_pos qW2] at h;exact h
theorem w13 : E.Fn Tryz.prog 22 [mW, .int .i64 0, .int .i64 3] [rat (27, 8), .int .i64 0] := by
 have h := k22 (s := 4) (N := nW) (p := [0, 6]) (state := 0) (plays := 3);unfold firstR at h;rw [if_pos qW0, if_pos (by decide), show lst (fT 4 nW [0, 6] (0 : Int).toNat (3 : Int).toNat) (4 ^ ((3 : Int).toNat - 1)) = (27, 8) from qW10] at h
 exact h
theorem w14 : E.Fn Tryz.prog 22 [mW, .int .i64 0, .int .i64 11] [rat (0, 0), .int .i64 2] := by
 have h := k22 (s := 4) (N := nW) (p := [0, 6]) (state := 0) (plays := 11);unfold firstR at h;rw [if_pos qW0, if_neg (by decide)] at h
 exact h
theorem w15 : E.Fn Tryz.prog 44 [mR] [.int .i64 0] := by
 have h := k44 (s := 4) (N := nR) (p := [0, 6]);rw [qR0] at h;exact h
theorem w16 : E.Fn Tryz.prog 45 [mR] [.int .i64 14] := by
 have h := k45 (s := 4) (N := nR) (p := [0, 6]);rw [qR1] at h;exact h
theorem w17 : E.Fn Tryz.prog 24 [mR] [rat (3, 2), rat (4, 1), .int .i64 0] := by
 have h := k24 (s := 4) (N := nR) (p := [0, 6]);unfold betR at h;rw [if_pos qR0, qR11, qR12] at h;exact h
theorem w18 : E.Fn Tryz.prog 30 [mW, prV (prfD 4 nW (fst0 nW)) (prfG 4 nW [0, 6] (fst0 nW)) (prfH 4 nW [0, 6] (fst0 nW))] [.int .i64 3, .int .i64 0] := by
 have h := k30 (s := 4) (N := nW) (p := [0, 6]) (d := prfD 4 nW (fst0 nW)) (g := prfG 4 nW [0, 6] (fst0 nW)) (hs := prfH 4 nW [0, 6] (fst0 nW));rw [qW9] at h;exact h
theorem w19 : E.Fn Tryz.prog 46 [intss [[1], [2]], intss [[1], [2]]] [.bool true] := k46 (xs := [[1], [2]]) (ys := [[1], [2]])
theorem w20 : E.Fn Tryz.prog 21 [rats [(2, 3), (1, 3)], rats [(2, 3), (1, 3)]] [.bool true] := k21 (xs := [(2, 3), (1, 3)]) (ys := [(2, 3), (1, 3)])
set_option maxHeartbeats 4000000 in
theorem works_ok : E.Fn Tryz.prog 12 [] [.bool true] := by
 refine fn_of_row okf12 ?_;have e43 : ∀ {a b : Int} {l : List Int}, E.Fn Tryz.prog 43 [.int .i64 a, .int .i64 b, ints l] [prV a b l] := k43;simp only [FRow.start, f12, c12r0, c12r1, go_sem, Nat.reduceSub, true_implies];refine callK_of rfl k38 (.inr (.inl rfl)) ?_;simp only [go_sem];refine callK_of rfl k39 (.inr (.inl rfl)) ?_;simp only [go_sem];refine callK_of rfl k40 (.inr (.inl rfl)) ?_;simp only [go_sem];refine callK_of rfl k41 (.inr (.inl rfl)) ?_;simp only [mW, mX, mY, mR, mc, SV.cells, splice, go_sem, Nat.reduceAdd, true_implies];simp only [c12r2, go_sem, Nat.reduceAdd];refine callK_of rfl w0 (.inl rfl) ?_;simp only [go_sem, Nat.reduceAdd];refine callK_of rfl w1 (.inl rfl) ?_;simp only [c12r3, go_sem, Nat.reduceAdd, true_implies];refine callK_of rfl w2 (.inr (.inl rfl)) ?_;simp only [c12r4, go_sem, Nat.reduceAdd, true_implies];refine callK_of rfl w3 (.inl rfl) ?_;simp only [rat, splice, go_sem, Nat.reduceAdd, true_implies];simp only [c12r5, go_sem, Nat.reduceAdd];refine callK_of rfl w4 (.inl rfl) ?_;simp only [rat, splice, go_sem, Nat.reduceAdd, true_implies];simp only [c12r6, go_sem, Nat.reduceAdd];refine callK_of rfl w5 (.inl rfl) ?_;simp only [c12r7, go_sem, Nat.reduceAdd, true_implies];refine callK_of rfl w6 (.inr (.inl rfl)) ?_;simp only [c12r8, go_sem, Nat.reduceAdd, true_implies];refine callK_of rfl w7 (.inl rfl) ?_;simp only [rat, splice, c12r9, go_sem, Nat.reduceAdd, true_implies];refine callK_of rfl w8 (.inl rfl) ?_;simp only [rat, splice, c12r10, go_sem, Nat.reduceAdd, Nat.reduceMul, true_implies];refine ⟨by decide, by decide, rfl, ints_one (xs := [0, 8]), ?_⟩
 refine callK_of rfl (e43 (a := 1) (b := 2) (l := [0, 8])) (.inr (.inl rfl)) ?_;simp only [go_sem];refine callK_of rfl w9 (.inl rfl) ?_;simp only [c12r11, go_sem, Nat.reduceAdd, Nat.reduceMul, true_implies];refine ⟨by decide, by decide, rfl, ints_one (xs := [0, 8]), ?_⟩
 refine callK_of rfl (e43 (a := 1) (b := 3) (l := [0, 8])) (.inr (.inl rfl)) ?_;simp only [go_sem];refine callK_of rfl w10 (.inl rfl) ?_;simp only [c12r12, go_sem, Nat.reduceAdd, Nat.reduceMul, true_implies];refine ⟨by decide, by decide, rfl, ints_one (xs := [0, 0]), ?_⟩
 refine callK_of rfl (e43 (a := 1) (b := 2) (l := [0, 0])) (.inr (.inl rfl)) ?_;simp only [go_sem];refine callK_of rfl w11 (.inl rfl) ?_;simp only [c12r13, go_sem, Nat.reduceAdd, true_implies];refine callK_of rfl w12 (.inr (.inl rfl)) ?_;simp only [prV, SV.cells, splice, c12r14, go_sem, Nat.reduceAdd, true_implies];refine callK_of rfl w13 (.inl rfl) ?_;simp only [rat, splice, c12r15, go_sem, Nat.reduceAdd, true_implies];refine callK_of rfl w14 (.inl rfl) ?_;simp only [rat, splice, c12r16, go_sem, Nat.reduceAdd, true_implies];refine callK_of rfl w15 (.inl rfl) ?_;simp only [go_sem, Nat.reduceAdd];refine callK_of rfl w16 (.inl rfl) ?_;simp only [c12r17, go_sem, Nat.reduceAdd, true_implies];refine callK_of rfl w17 (.inl rfl) ?_;simp only [rat, splice, c12r18, c12r20, go_sem, Nat.reduceAdd, true_implies];refine callK_of rfl w18 (.inl rfl) ?_;simp only [c12r21, go_sem, Nat.reduceAdd, Nat.reduceMul, true_implies];refine ⟨by decide, by decide, rfl, ints_one (xs := [1]), ?_⟩
 refine callK_of rfl (k47 (l := [1])) (.inr (.inl rfl)) ?_;simp only [go_sem, Nat.reduceMul];refine ⟨by decide, by decide, rfl, ints_one (xs := [2]), ?_⟩
 refine callK_of rfl (k47 (l := [2])) (.inr (.inl rfl)) ?_;simp only [go_sem, Nat.reduceMul];refine ⟨by decide, by decide, rfl, by intro e he; simp only [List.mem_cons, List.not_mem_nil, or_false] at he; rcases he with rfl | rfl <;> rfl, ?_⟩
 refine callK_of rfl w19 (.inl rfl) ?_;simp only [go_sem, Nat.reduceAdd];refine callK_of rfl (k48 (a := 1) (b := 2)) (.inl rfl) ?_;simp only [rat, go_sem];refine callK_of rfl (k48 (a := 2) (b := 3)) (.inl rfl) ?_;simp only [rat, go_sem];refine callK_of rfl (k48 (a := 1) (b := 3)) (.inl rfl) ?_;simp only [rat, go_sem, Nat.reduceAdd, Nat.reduceMul];refine ⟨by decide, by decide, rfl, by intro e he; simp only [List.mem_cons, List.not_mem_nil, or_false] at he; rcases he with rfl | rfl <;> rfl, ?_⟩
 refine callK_of rfl w20 (.inl rfl) ?_;simp only [go_sem, Nat.reduceAdd];refine callK_of rfl (k48 (a := 2) (b := 1)) (.inl rfl) ?_;simp only [rat, go_sem, Nat.reduceAdd];refine callK_of rfl (k48 (a := 27) (b := 8)) (.inl rfl) ?_;simp only [rat, go_sem, Nat.reduceAdd];refine callK_of rfl (k48 (a := 3) (b := 2)) (.inl rfl) ?_;simp only [rat, go_sem, Nat.reduceAdd];refine callK_of rfl (k48 (a := 4) (b := 1)) (.inl rfl) ?_;simp only [rat, go_sem, true_implies]
 done
theorem wk {H : List ABlock} {k : AK} (hk : k (LV.ofResults [.bool true]) H none True) : callK Tryz.prog H 12 [] k := callK_of rfl works_ok (.inl rfl) hk
end Go.Proofs.YtikfhfgdmlijeaaGreat.Sk
namespace Go.Proofs.YtikfhfgdmlijeaaGreat.Sk
open Go Go.E Go.Deep
def memOf (w : World) : Mem := ⟨fun b o => w.cell? ⟨b, o, Option.none⟩, fun _ => Option.none⟩
theorem memOf_holds (w : World) : E.Holds (memOf w) w := ⟨fun _ _ _ h => h, fun _ _ h => (by cases h)⟩
theorem mapM_get {α β : Type} {f : α -> Option β} : ∀ (l : List α) (ys : List β), l.mapM f = some ys -> ys.length = l.length /\ ∀ (i : Nat) x, l[i]? = some x -> ∃ y, f x = some y /\ ys[i]? = some y
 | [], ys, h => by
  simp only [List.mapM_nil, Option.pure_def, Option.some.injEq] at h;subst h;simp
 | x :: l, ys, h => by
  simp only [List.mapM_cons, Option.pure_def, Option.bind_eq_bind, Option.bind_eq_some_iff, Option.some.injEq] at h;obtain ⟨y, h1, zs, h2, rfl⟩ := h;have ih := mapM_get l zs h2;refine ⟨by simp [ih.1], fun i x' hx => ?_⟩
  cases i with
  | zero => simp only [List.getElem?_cons_zero, Option.some.injEq] at hx; subst hx; exact ⟨y, h1, rfl⟩
  | succ i => simp only [List.getElem?_cons_succ] at hx ⊢; exact ih.2 i x' hx
theorem cells_at {w : World} {base n : Nat} {a : Addr} {us : List Value} (h : w.cells? base a n = some us) : us.length = n /\ (memOf w).At a.block a.off us /\ (0 < n -> a.spot = Option.none) := by
 unfold World.cells? at h
 split at h
 ·obtain ⟨h1, h2⟩ := mapM_get _ _ h
  simp only [List.length_range] at h1
  have h3 : ∀ i, i < n -> w.cell? (a.add i) = us[i]? := fun i hi => by
   obtain ⟨y, h4, h5⟩ := h2 i i (by rw [List.getElem?_range hi])
   rw [h4, h5]
  have hsp : 0 < n -> a.spot = Option.none := fun h0 => by
   have h4 := h3 0 h0;rw [List.getElem?_eq_getElem (by omega)] at h4
   unfold World.cell? at h4;simp only [Addr.add, if_true] at h4
   split at h4
   ·split at h4
    ·cases h4
    ·rename_i hn; simpa using hn
   ·cases h4
  refine ⟨h1, fun j v hv => ?_, hsp⟩
  have hj : j < n := by have := (List.getElem?_eq_some_iff.1 hv).1; omega
  have h4 := h3 j hj;rw [hv] at h4;simp only [memOf];have h5 := hsp (by omega)
  unfold Addr.add at h4
  split at h4
  ·rename_i h6; subst h6
   rw [Nat.add_zero, <- h4]
   congr 1
   cases a
   simp_all
  ·exact h4
 ·cases h
theorem at_append {M : Mem} {b o : Nat} {us vs : List Value} (h : M.At b o us) (k : M.At b (o + us.length) vs) : M.At b o (us ++ vs) := fun j v hv => by
 rw [List.getElem?_append] at hv
 split at hv
 ·exact h j v hv
 ·have := k _ v hv
  rw [show o + us.length + (j - us.length) = o + j by omega] at this
  exact this
theorem rows_rel {α : Type} {M : Mem} {e : α -> SV} {G : α -> Prop} {b sz : Nat} : ∀ (n o : Nat), (∀ i, i < n -> ∃ a us, us.length = sz /\ M.At b (o + i * sz) us /\ CRel M (e a) us /\ G a) ->
  ∃ (vs : List α) (uss : List (List Value)), vs.length = n /\ CRelC M (vs.map e) uss /\ (∀ u ∈ uss, u.length = sz) /\ M.At b o uss.flatten /\ ∀ a ∈ vs, G a
 | 0, o, _ => ⟨[], [], rfl, rfl, by simp, fun j v hv => (by simp at hv), by simp⟩
 | n + 1, o, h => by
  obtain ⟨a, us, h1, h2, h3, h4⟩ := h 0 (by omega)
  obtain ⟨vs, uss, k1, k2, k3, k4, k5⟩ := rows_rel n (o + sz) fun i hi => by
   obtain ⟨a, us, h1, h2, h3, h4⟩ := h (i + 1) (by omega)
   exact ⟨a, us, h1, by rw [Nat.succ_mul] at h2; rw [show o + sz + i * sz = o + (i * sz + sz) by omega]; exact h2, h3, h4⟩
  refine ⟨a :: vs, us :: uss, by simp [k1], ⟨us, uss, rfl, h3, k2⟩, ?_, ?_, ?_⟩
  ·intro u hu
   rcases List.mem_cons.1 hu with rfl | hu
   ·exact h1
   ·exact k3 u hu
  ·rw [List.flatten_cons]
   exact at_append (by simpa using h2) (by rw [h1]; exact k4)
  ·intro x hx
   rcases List.mem_cons.1 hx with rfl | hx
   ·exact h4
   ·exact k5 x hx
section
variable {H : Type} {enc : TypeId × Value -> H} {P : Program} {w : World} {base : Nat} {sp : Nat -> Bool} {held : Bool} {fuel : Nat} {t et : TypeId} {cs : List Value} {x : DataW H × List MemPlace}
theorem trodAll_lt : ∀ {ts : List TypeId} {vs : List Value} {ds : List (DataW H)} {ps : List MemPlace}, DataW.TrodAll enc P w base sp held ts vs ds ps -> ∀ p ∈ ps, p.block < w.heap.size
 | [], _, _, _, h => by
  obtain ⟨rfl, rfl, rfl⟩ := ChangeShapes.trodAll_nil h;simp
 | t :: ts, _, _, _, h => by
  obtain ⟨v, vs, d, ds, p, q, rfl, rfl, rfl, ⟨fuel, h1⟩, h2⟩ := ChangeShapes.trodAll_cons h;intro y hy
  rcases List.mem_append.1 hy with hy | hy
  ·exact DataW.trod_lt _ _ _ _ h1 y hy
  ·exact trodAll_lt h2 y hy
theorem rel_int {k : IntKind} (ht : P.underlying t = some (.int k)) (h : DataW.trod enc P w base sp held fuel t cs = some x) : ∃ n : Int, CRel (memOf w) (.int k n) cs /\ (Lit.int k n).wf = true := by
 obtain ⟨n, rfl, _, hw⟩ := DataW.trod_int ht h;exact ⟨n, rfl, hw⟩
theorem add_block (a : Addr) (n : Nat) : (a.add n).block = a.block /\ (a.add n).off = a.off + n := by
 unfold Addr.add
 split
 ·rename_i h; subst h; exact ⟨rfl, rfl⟩
 ·exact ⟨rfl, rfl⟩
theorem rel_slice {α : Type} {e : α -> SV} {G : α -> Prop} (ht : P.underlying t = some (.slice et)) (hz : 0 < P.cellsOf et)
  (hel : ∀ (n : Nat) (us : List Value) (y : DataW H × List MemPlace), us.length = P.cellsOf et -> DataW.trod enc P w base sp held n et us = some y -> ∃ a, CRel (memOf w) (e a) us /\ G a)
  (h : DataW.trod enc P w base sp held fuel t cs = some x) : ∃ l : List α, CRel (memOf w) (.slice (l.map e)) cs /\ ∀ a ∈ l, G a := by
 rcases DataW.trod_slice ht h with ⟨rfl, _⟩ | ⟨a, len, cap, elems, rest, n, _, rfl, _, _, hl, hc, hlen, hE, _⟩
 ·exact ⟨[], by simp only [CRel]; exact ⟨Option.none, 0, 0, rfl, rfl, Nat.le_refl _, Nat.zero_le _, .inl rfl⟩, by simp⟩
 ·by_cases h0 : len = 0
  ·subst h0
   exact ⟨[], by simp only [CRel]; exact ⟨_, 0, cap, rfl, rfl, hl, hc, .inl rfl⟩, by simp⟩
  ·have hrow : ∀ i, i < len -> ∃ us y, w.cells? base (a.add (i * P.cellsOf et)) (P.cellsOf et) = some us /\ DataW.trod enc P w base sp held n et us = some y := fun i hi => by
    have h1 := hE i hi;rw [List.getElem?_eq_getElem (by omega)] at h1
    simp only [Option.bind_eq_some_iff] at h1;obtain ⟨us, h2, h3⟩ := h1;exact ⟨us, _, h2, h3⟩
   have hsp : a.spot = Option.none := by
    obtain ⟨us, y, h1, _⟩ := hrow 0 (by omega)
    have := (cells_at h1).2.2 hz
    simpa [Addr.add] using this
   obtain ⟨vs, uss, k1, k2, k3, k4, k5⟩ := rows_rel (M := memOf w) (e := e) (G := G) (b := a.block) (sz := P.cellsOf et) len a.off fun i hi => by
    obtain ⟨us, y, h1, h2⟩ := hrow i hi;obtain ⟨h3, h4, _⟩ := cells_at h1;obtain ⟨v, h5, h6⟩ := hel n us y h3 h2;rw [(add_block a _).1, (add_block a _).2] at h4;exact ⟨v, us, h3, h4, h5, h6⟩
   refine ⟨vs, ?_, k5⟩;simp only [CRel];exact ⟨_, len, cap, rfl, by simp [k1], hl, hc, .inr ⟨a.block, a.off, P.cellsOf et, uss, by cases a; simp_all, k2, k3, k4⟩⟩
theorem vrel_agg {M : Mem} {v : SV} {c : Array Value} (h : CRel M v c.toList) (hv : v.isAgg = true) : VRel M v (.agg c) := ⟨c.toList, h, by simp [SV.mk, hv]⟩
end
section
variable {H : Type} {enc : TypeId × Value -> H} {w : World} {sp : Nat -> Bool} {held : Bool} {fuel : Nat} {cs : List Value} {x : DataW H × List MemPlace}
theorem rel_u8 {n : Int} (h : DataW.trod enc Tryz.prog w 0 sp held fuel 5 [.int .u8 n] = some x) : 0 <= n /\ n < 256 := by
 obtain ⟨m, hc, hw⟩ := rel_int Tryz.underlying5 h;simp only [CRel, List.cons.injEq, Value.int.injEq, true_and, and_true] at hc;subst hc;simp only [Lit.wf, Bool.and_eq_true, decide_eq_true_eq] at hw;exact ⟨hw.1, by have := hw.2; simp [IntKind.max, IntKind.signed, IntKind.bits] at this; omega⟩
theorem rel_ints (h : DataW.trod enc Tryz.prog w 0 sp held fuel 23 cs = some x) : ∃ l : List Int, CRel (memOf w) (ints l) cs := by
 obtain ⟨l, h1, _⟩ := rel_slice (e := .int .i64) (G := fun _ => True) Tryz.underlying23 (by rw [show Tryz.prog.cellsOf _ = 1 from by kernel_rfl]; exact Nat.one_pos) (fun n us y _ hy => by obtain ⟨m, hm, _⟩ := rel_int Tryz.underlying2 hy; exact ⟨m, hm, trivial⟩) h
 exact ⟨l, h1⟩
theorem rel_intss (h : DataW.trod enc Tryz.prog w 0 sp held fuel 22 cs = some x) : ∃ l : List (List Int), CRel (memOf w) (intss l) cs := by
 obtain ⟨l, h1, _⟩ := rel_slice (e := ints) (G := fun _ => True) Tryz.underlying22 (by rw [show Tryz.prog.cellsOf _ = 1 from by kernel_rfl]; exact Nat.one_pos) (fun n us y _ hy => by obtain ⟨m, hm⟩ := rel_ints hy; exact ⟨m, hm, trivial⟩) h
 exact ⟨l, h1⟩
set_option maxRecDepth 100000 in
theorem rel_mach (h : DataW.trod enc Tryz.prog w 0 sp held fuel 25 cs = some x) : ∃ s N p, CRel (memOf w) (mc s N p) cs := by
 obtain ⟨y0, y1, y2, m, _, hl, h0, h1, h2⟩ := trod_struct3 Tryz.underlying25 h;have hc : Tryz.prog.cellsOf 25 = 3 := by kernel_rfl
 have hc2 : Tryz.prog.cellsOf 2 = 1 := by kernel_rfl
 have hc22 : Tryz.prog.cellsOf 22 = 1 := by kernel_rfl
 have hc23 : Tryz.prog.cellsOf 23 = 1 := by kernel_rfl
 rw [hc] at hl
 match cs, hl with
 | [c0, c1, c2], _ =>
  simp only [hc2, hc22, hc23, List.drop_zero, List.drop_succ_cons, List.take_succ_cons, List.take_zero] at h0 h1 h2;obtain ⟨s, r0, _⟩ := rel_int Tryz.underlying2 h0;obtain ⟨N, r1⟩ := rel_intss h1;obtain ⟨p, r2⟩ := rel_ints h2;exact ⟨s, N, p, by simp only [mc, CRel]; exact ⟨_, _, rfl, r0, _, _, rfl, r1, _, _, rfl, r2, rfl⟩⟩
end
end Go.Proofs.YtikfhfgdmlijeaaGreat.Sk
namespace Go.Proofs.YtikfhfgdmlijeaaGreat.Sk
theorem lst_scale {k n d : Int} (hk : 0 < k) : lst (k * n) (k * d) = lst n d := by
 have hg : gcdN (k * n) (k * d) = k.natAbs * gcdN n d := by
  unfold gcdN; rw [Int.natAbs_mul, Int.natAbs_mul, Nat.gcd_mul_left]
 unfold lst;rw [hg, Int.natCast_mul, Int.natAbs_of_nonneg (Int.le_of_lt hk), Int.mul_tdiv_mul_of_pos _ _ hk, Int.mul_tdiv_mul_of_pos _ _ hk]
theorem lst_split {n d : Int} (hd : 0 < d) : ∃ g : Int, 0 < g /\ n = (lst n d).1 * g /\ d = (lst n d).2 * g := by
 have hg : 0 < gcdN n d := Nat.gcd_pos_of_pos_right _ (by omega)
 refine ⟨gcdN n d, by omega, ?_, ?_⟩
 ·have h : ((gcdN n d : Nat) : Int) ∣ n := Int.dvd_natAbs.1 (Int.natCast_dvd_natCast.2 (Nat.gcd_dvd_left _ _))
  exact (Int.tdiv_mul_cancel h).symm
 ·have h : ((gcdN n d : Nat) : Int) ∣ d := Int.dvd_natAbs.1 (Int.natCast_dvd_natCast.2 (Nat.gcd_dvd_right _ _))
  exact (Int.tdiv_mul_cancel h).symm
theorem lst_cross {n d : Int} (hd : 0 < d) : (lst n d).1 * d = n * (lst n d).2 := by
 obtain ⟨g, _, h1, h2⟩ := lst_split hd (n := n);generalize lst n d = q at *;rw [h1, h2]; grind
theorem lst_pos {n d : Int} (hd : 0 < d) : 0 < (lst n d).2 := (lst_le hd).2.1
theorem lst_gcd {n d : Int} (hd : 0 < d) : Nat.gcd (lst n d).1.natAbs (lst n d).2.natAbs = 1 := by
 unfold lst;simp only;rw [Int.natAbs_tdiv, Int.natAbs_tdiv, Int.natAbs_natCast];unfold gcdN;exact (Nat.gcd_div (Nat.gcd_dvd_left n.natAbs d.natAbs) (Nat.gcd_dvd_right n.natAbs d.natAbs)).trans (Nat.div_self (Nat.gcd_pos_of_pos_right _ (by omega)))
theorem lst_nonneg {n d : Int} (hd : 0 < d) (hn : 0 <= n) : 0 <= (lst n d).1 := by
 obtain ⟨g, hg, h1, _⟩ := lst_split hd (n := n);generalize lst n d = q at *
 by_cases h : q.1 < 0
 ·have := Int.mul_neg_of_neg_of_pos h hg
  omega
 ·omega
theorem lst_mul_le {n d c : Int} (hd : 0 < d) (h : n <= c * d) : (lst n d).1 <= c * (lst n d).2 := by
 obtain ⟨g, hg, h1, h2⟩ := lst_split hd (n := n);generalize lst n d = q at *;refine Int.le_of_mul_le_mul_right (a := g) ?_ hg;have e : c * q.2 * g = c * d := by rw [h2, Int.mul_assoc]
 rw [<- h1, e]; exact h
theorem sum_add {f g : Nat -> Int} {l : List Nat} : (l.map fun k => f k + g k).sum = (l.map f).sum + (l.map g).sum := by
 induction l with
 | nil => rfl
 | cons x l ih => simp only [List.map_cons, List.sum_cons]; rw [ih]; omega
theorem putT_get {st : List Nat} {l R : List Int} (hn : st.Nodup) : ∀ {m : Nat}, m <= st.length -> ∀ {x : Nat}, x < R.length ->
  (∀ j, j < m -> st[j]? = some x -> (putT st l R m)[x]?.getD 0 = l[j]?.getD 0) /\ ((∀ j, j < m -> st[j]? ≠ some x) -> (putT st l R m)[x]?.getD 0 = R[x]?.getD 0)
 | 0, _, x, _ => ⟨fun j h => absurd h (Nat.not_lt_zero _), fun _ => rfl⟩
 | m + 1, hm, x, hx => by
  obtain ⟨h1, h2⟩ := putT_get (l := l) (R := R) hn (Nat.le_of_succ_le hm) hx;have hy : st[m]? = some st[m] := List.getElem?_eq_getElem hm;rw [putT_succ, hy, Option.getD_some, List.getElem?_set];have hlen := putT_len (st := st) (l := l) (R := R) (k := m);constructor
  ·intro j hj hjx
   by_cases e : j = m
   ·subst e
    rw [hy] at hjx
    cases hjx
    rw [if_pos rfl, if_pos (by omega)]; rfl
   ·have hne : ¬ st[m] = x := fun h => e (by
     obtain ⟨hjl, hje⟩ := List.getElem?_eq_some_iff.1 hjx;exact (List.getElem_inj hn).1 (hje.trans h.symm))
    rw [if_neg hne];exact h1 j (by omega) hjx
  ·intro hno
   have hne : ¬ st[m] = x := fun h => hno m (by omega) (by rw [hy, h])
   rw [if_neg hne];exact h2 fun j hj => hno j (by omega)
theorem stO_nodup {n c : Nat} : (stO n c).Nodup := List.nodup_range.filter _
theorem mem_stO {n c k : Nat} : k ∈ stO n c ↔ k < n /\ k ≠ c := by
 unfold stO;rw [List.mem_filter, List.mem_range];constructor
 ·rintro ⟨h1, h2⟩
  exact ⟨h1, fun e => by subst e; simp at h2⟩
 ·rintro ⟨h1, h2⟩
  refine ⟨h1, ?_⟩
  cases hb : Nat.beq c k with
  | false => rfl
  | true => exact absurd (Nat.eq_of_beq_eq_true hb).symm h2
theorem stO_3 {n c : Nat} (hc : c < n) (h4 : n <= 4) : (stO n c).length <= 3 := by
 have h1 : (c :: stO n c).Nodup := List.nodup_cons.2 ⟨fun h => (mem_stO.1 h).2 rfl, stO_nodup⟩
 have := h1.length_le_of_subset (l₂ := List.range n) (fun x hx => by
  rcases List.mem_cons.1 hx with rfl | hx
  ·exact List.mem_range.2 hc
  ·exact List.mem_range.2 (mem_stO.1 hx).1)
 rw [List.length_cons, List.length_range] at this;omega
theorem sum_sub {f g : Nat -> Int} {l : List Nat} : (l.map fun k => f k - g k).sum = (l.map f).sum - (l.map g).sum := by
 induction l with
 | nil => rfl
 | cons x l ih => simp only [List.map_cons, List.sum_cons]; rw [ih]; omega
theorem sum_one {f : Nat -> Int} {a : Nat} : ∀ {m : Nat}, ((List.range m).map fun b => if a = b then f b else 0).sum = if a < m then f a else 0
 | 0 => rfl
 | m + 1 => by
  rw [List.range_succ, List.map_append, List.sum_append, sum_one];simp only [List.map_cons, List.map_nil, List.sum_cons, List.sum_nil]
  by_cases e : a = m
  ·subst e; rw [if_neg (by omega), if_pos rfl, if_pos (by omega)]; omega
  ·rw [if_neg e]
   by_cases h : a < m
   ·rw [if_pos h, if_pos (by omega)]; omega
   ·rw [if_neg h, if_neg (by omega)]; omega
section
variable {s : Int} {N : List (List Int)} {p : List Int} {c : Nat}
def htN (s : Int) (N : List (List Int)) (p : List Int) (c k : Nat) : Int := (prfH s N p c)[k]?.getD 0
theorem prfH_len : (prfH s N p c).length = N.length := by unfold prfH; rw [putT_len, List.length_replicate]
theorem ht_c (hc : c < N.length) : htN s N p c c = 0 := by
 unfold htN prfH
 have h := (putT_get (st := stO N.length c) (l := solL s N (stO N.length c) ((stO N.length c).map (colQ s N p))) (R := List.replicate N.length 0) stO_nodup (Nat.le_refl _) (x := c) (by simpa using hc)).2
  fun j _ e => (mem_stO.1 (List.mem_of_getElem? e)).2 rfl
 rw [h, List.getElem?_replicate, if_pos hc]; rfl
theorem ht_o {j k : Nat} (hj : (stO N.length c)[j]? = some k) : htN s N p c k = solK s N (stO N.length c) ((stO N.length c).map (colQ s N p)) j := by
 have hjl := (List.getElem?_eq_some_iff.1 hj).1;have hk := (mem_stO.1 (List.mem_of_getElem? hj)).1;unfold htN prfH;have h := (putT_get (st := stO N.length c) (l := solL s N (stO N.length c) ((stO N.length c).map (colQ s N p))) (R := List.replicate N.length 0) stO_nodup (Nat.le_refl _) (x := k) (by simpa using hk)).1 j hjl hj
 rw [h];unfold solL;rw [List.getElem?_map, List.getElem?_range hjl]; rfl
theorem sum_o {f : Nat -> Int} (hc : c < N.length) : ((List.range N.length).map f).sum = f c + ((List.range (stO N.length c).length).map fun j => f ((stO N.length c)[j]?.getD 0)).sum := by
 rw [sum_filter hc];have h := list_range (l := stO N.length c) (d := 0)
 have h2 : ((stO N.length c).map f).sum = ((List.range (stO N.length c).length).map fun j => f ((stO N.length c)[j]?.getD 0)).sum := by
  conv => lhs; rw [<- h, List.map_map]
  rfl
 rw [<- h2]; rfl
theorem ht_solves (h : OkM s N p) (hc : c < N.length) {i : Nat} (hi : i < N.length) (hic : i ≠ c) :
  s * htN s N p c i - ((List.range N.length).map fun k => tn N i k * htN s N p c k).sum = rootN s N c * colQ s N p i := by
 obtain ⟨a, ha⟩ := List.mem_iff_getElem?.1 (mem_stO.2 ⟨hi, hic⟩);have hal := (List.getElem?_eq_some_iff.1 ha).1;have hl3 := stO_3 hc h.n4;have htl : (tabT s (tn N) (stO N.length c)).length = (stO N.length c).length := by simp [tabT]
 have hcr := cramer (m := (stO N.length c).length) (t := tabT s (tn N) (stO N.length c)) (col := (stO N.length c).map (colQ s N p)) hl3 htl
  (fun r hr => by obtain ⟨x, _, rfl⟩ := List.mem_map.1 hr; simp [tabR]) (by simp) hal
 rw [List.getElem?_map, ha, Option.map_some, Option.getD_some] at hcr
 have hroot : detT (stO N.length c).length (tabT s (tn N) (stO N.length c)) = rootN s N c := by
  unfold rootN; rw [wout_one]; rfl
 rw [hroot] at hcr;rw [<- hcr, sum_o hc, ht_c hc, Int.mul_zero, Int.zero_add, ht_o ha]
 have hrow : ((tabT s (tn N) (stO N.length c))[a]?).getD [] = tabR s (tn N) (stO N.length c) i := by
  unfold tabT; rw [List.getElem?_map, ha]; rfl
 rw [hrow]
 have hterm : ∀ b, b < (stO N.length c).length -> (tabR s (tn N) (stO N.length c) i)[b]?.getD 0 * detT (stO N.length c).length (repC (tabT s (tn N) (stO N.length c)) b ((stO N.length c).map (colQ s N p))) =
   (if a = b then s * solK s N (stO N.length c) ((stO N.length c).map (colQ s N p)) b else 0) - tn N i ((stO N.length c)[b]?.getD 0) * htN s N p c ((stO N.length c)[b]?.getD 0) := fun b hb => by
  have hbk : (stO N.length c)[b]? = some (stO N.length c)[b] := List.getElem?_eq_getElem hb
  have e1 : (tabR s (tn N) (stO N.length c) i)[b]?.getD 0 = tabF s (tn N) i (stO N.length c)[b] := by
   unfold tabR; rw [List.getElem?_map, hbk]; rfl
  rw [e1, hbk, Option.getD_some, ht_o hbk];unfold tabF solK
  have e2 : i = (stO N.length c)[b] ↔ a = b := by
   obtain ⟨h1, h2⟩ := List.getElem?_eq_some_iff.1 ha;constructor
   ·intro e
    exact (List.getElem_inj stO_nodup).1 (h2.trans e)
   ·intro e; subst e; exact h2.symm
  by_cases e : a = b
  ·rw [if_pos (e2.2 e), if_pos e, Int.sub_mul]
  ·rw [if_neg (fun h => e (e2.1 h)), if_neg e, Int.sub_mul, Int.zero_mul]
 rw [List.map_congr_left fun b hb => hterm b (List.mem_range.1 hb), sum_sub, sum_one, if_pos hal]
theorem ov_other (h : OkM s N p) (hc : c < N.length) {i : Nat} (hi : i < N.length) (hic : i ≠ c) : ovN s N p (prfD s N c) (prfG s N p c) (prfH s N p c) i = 0 := by
 have h1 := ht_solves h hc hi hic;unfold htN at h1;unfold ovN ovT prfD prfG;unfold colQ at h1
 grind
theorem ov_zero (h : OkM s N p) (hc : c < N.length) (hr : 0 < rootN s N c) {i : Nat} (hi : i < N.length) : ovN s N p (prfD s N c) (prfG s N p c) (prfH s N p c) i = 0 := by
 by_cases hic : i = c
 ·subst hic
  -- all places together
  have h0 : ((List.range N.length).map fun k => rootN s N k * ovN s N p (prfD s N i) (prfG s N p i) (prfH s N p i) k).sum = 0 := by
   have e1 : ∀ k ∈ List.range N.length, rootN s N k * ovN s N p (prfD s N i) (prfG s N p i) (prfH s N p i) k =
     (s * prfD s N i * (rootN s N k * p[k]?.getD 0) - s * prfG s N p i * rootN s N k) - (s * (rootN s N k * htN s N p i k) - ((List.range N.length).map fun j => rootN s N k * (tn N k j * htN s N p i j)).sum) := fun k hk => by
    rw [mul_sum];unfold ovN ovT htN
    grind
   rw [List.map_congr_left e1, sum_sub, sum_sub, sum_sub, mul_sum, mul_sum, mul_sum, sum_swap]
   have e2 : ∀ j ∈ List.range N.length, ((List.range N.length).map fun k => rootN s N k * (tn N k j * htN s N p i j)).sum = s * (rootN s N j * htN s N p i j) := fun j hj => by
    have hb := bal h.s (List.mem_range.1 hj);have e3 : ∀ k ∈ List.range N.length, rootN s N k * (tn N k j * htN s N p i j) = (rootN s N k * tn N k j) * htN s N p i j := fun k _ => (Int.mul_assoc _ _ _).symm
    rw [List.map_congr_left e3, sum_mul, hb, Int.mul_assoc]
   rw [List.map_congr_left e2, mul_sum];have eg : ((List.range N.length).map fun k => rootN s N k * p[k]?.getD 0).sum = gainN s N p := rfl
   have er : ((List.range N.length).map fun k => rootN s N k).sum = (rootsN s N).sum := rfl
   rw [eg, er];unfold prfD prfG
   grind
  rw [sum_filter hi] at h0
  have h1 : (((List.range N.length).filter fun j => !Nat.beq i j).map fun k => rootN s N k * ovN s N p (prfD s N i) (prfG s N p i) (prfH s N p i) k).sum = 0 := by
   rw [List.map_congr_left (g := fun _ => (0 : Int)) fun k hk => by
    have := mem_stO.1 (show k ∈ stO N.length i from hk);rw [ov_other h hi this.1 this.2, Int.mul_zero]]
   exact sum_zero fun _ _ => rfl
  rw [h1, Int.add_zero] at h0
  rcases Int.mul_eq_zero.1 h0 with h2 | h2
  ·omega
  ·exact h2
 ·exact ov_other h hc hi hic
theorem sol_bd3 {m C k : Nat} (h : m <= 3) (h1 : 1 <= C) : fact m * prodN ((List.replicate m 20).set k C) <= C * 48000 := by
 have h2 := prod_set (cs := List.replicate m 20) (k := k) (C := C) (fun c hc => by have := List.eq_of_mem_replicate hc; omega)
 rw [Nat.max_eq_left h1] at h2;refine Nat.le_trans (Nat.mul_le_mul_left _ h2) ?_;rw [Nat.mul_left_comm];refine Nat.mul_le_mul_left _ ?_;rw [prod_rep]
 match m, h with
 | 0, _ => decide
 | 1, _ => decide
 | 2, _ => decide
 | 3, _ => decide
theorem prf_ok (h : OkM s N p) (hc : c < N.length) (hr : 0 < rootN s N c) (hsp : 0 < (rootsN s N).sum) : PrOk (prfD s N c) (prfG s N p c) (prfH s N p c) := by
 have h1 := root_8 h.s hc;have h2 := roots_32 h.s;have h3 := gain_le h;have h4 : 0 <= gainN s N p := gainT_nonneg h (Nat.le_refl _);have hd : (rootN s N c * (rootsN s N).sum).natAbs <= 8000 * 32000 := mul_le_nat (by omega) (by omega)
 have hg : (gainN s N p * rootN s N c).natAbs <= 32000000 * 8000 := mul_le_nat (by omega) (by omega)
 have hd1 : 0 < rootN s N c * (rootsN s N).sum := Int.mul_pos hr hsp;refine ⟨hd1, by unfold prfD; omega, by unfold prfG; omega, fun x hx => ?_⟩
 obtain ⟨k, hk⟩ := List.mem_iff_getElem?.1 hx;have hkl := (List.getElem?_eq_some_iff.1 hk).1;rw [prfH_len] at hkl;have hxe : x = htN s N p c k := by unfold htN; rw [hk]; rfl
 by_cases hkc : k = c
 ·subst hkc
  rw [hxe, ht_c hc]; decide
 ·obtain ⟨j, hj⟩ := List.mem_iff_getElem?.1 (mem_stO.2 ⟨hkl, hkc⟩)
  have hjl := (List.getElem?_eq_some_iff.1 hj).1;rw [ht_o hj] at hxe
  have hb := Nat.le_trans (det_bd (rep_Tb h.toOkN hjl (C := 640000000) (col := (stO N.length c).map (colQ s N p)) (fun y hy => by
   obtain ⟨z, _, rfl⟩ := List.mem_map.1 hy;exact (colQ_le h z).2))) (sol_bd3 (stO_3 hc h.n4) (by decide))
  have : x.natAbs <= 640000000 * 48000 := by rw [hxe]; exact hb
  omega
theorem prf_both (h : OkM s N p) (hS : (parts N).length <= 1) (h0 : chkM s N p = 0) : ckP s N p (prfD s N (fst0 N)) (prfG s N p (fst0 N)) (prfH s N p (fst0 N)) = (3, 0) := by
 obtain ⟨c, hc, _, hcn, hr⟩ := settles_first h hS
 have hf : fst0 N = c := by
  have h1 := fst0_eq h hS;rw [hc] at h1
  simpa using h1.symm
 rw [hf];have hr0 := (root_pos h.s hcn).2 fun j hj _ => hr j hj
 have hz := fun i hi => ov_zero h hcn hr0 (i := i) hi
 have hm : mostB s N p (prfD s N c) (prfG s N p c) (prfH s N p c) N.length = true := List.all_eq_true.2 fun k hk => by
  rw [hz k (List.mem_range.1 hk)]; rfl
 have hl : leastB s N p (prfD s N c) (prfG s N p c) (prfH s N p c) N.length = true := List.all_eq_true.2 fun k hk => by
  rw [hz k (List.mem_range.1 hk)]; rfl
 unfold ckP;rw [if_pos h0, if_pos (by rw [prfH_len]), if_pos (prB_iff.2 (prf_ok h hcn hr0 (roots_pos h hS))), hm, hl]
 rfl
end
section
variable {s : Int} {N : List (List Int)} {p : List Int} {d g : Int} {hs : List Int}
end
def flo (g d : Int) : Int := if g.tmod d < 0 then g.tdiv d - 1 else g.tdiv d
theorem flo_le {g d : Int} (hd : 0 < d) : flo g d * d <= g /\ g < flo g d * d + d := by
 have h1 := Int.mul_tdiv_add_tmod g d;have h2 := Int.tmod_lt_of_pos g hd;have h3 : -d < g.tmod d := Int.lt_tmod_of_pos g hd;unfold flo
 split
 ·rw [Int.sub_mul, Int.one_mul, Int.mul_comm (g.tdiv d)]
  omega
 ·rw [Int.mul_comm (g.tdiv d)]
  omega
end Go.Proofs.YtikfhfgdmlijeaaGreat.Sk
namespace Go.Proofs.YtikfhfgdmlijeaaGreat.Sk
open Go Go.E Go.E.Sm
set_option maxRecDepth 10000
theorem small_pay {s : Int} {N : List (List Int)} {p : List Int} (h : OkM s N p) (hS : (parts N).length <= 1) : smallB (paysQ s N p) = true := by
 have hd := roots_pos h hS;have h3 := roots_32 h.s;have h5 : 0 <= gainN s N p := gainT_nonneg h (Nat.le_refl _);have h6 := gain_le h;unfold paysQ;have h1 := lst_le hd (n := gainN s N p);have h2 := lst_nonneg hd h5;have h7 := lst_mul_le hd h6;have h4 := lst_gcd hd (n := gainN s N p);rw [smallB_iff];refine ⟨⟨by omega, by omega, h2, h7⟩, ?_⟩
 rw [show (lst (gainN s N p) (rootsN s N).sum).1.toNat = (lst (gainN s N p) (rootsN s N).sum).1.natAbs by omega, show (lst (gainN s N p) (rootsN s N).sum).2.toNat = (lst (gainN s N p) (rootsN s N).sum).2.natAbs by omega]
 exact h4
theorem k26 {s : Int} {N : List (List Int)} {p : List Int} : E.Fn Tryz.prog 26 [mc s N p] [.bool (!greatB N p && decide (setE s N p = 0))] := by
 refine fn_of_row okf26 ?_;simp only [FRow.start, f26, c26r0, c26r1, mc, SV.cells, go_sem, Nat.reduceAdd, Nat.reduceSub, true_implies];refine callK_of rfl (k11 (s := s) (N := N) (p := p)) (.inl rfl) ?_
 cases hg : greatB N p with
 | true => simp only [go_sem, true_implies]; rfl
 | false =>
  simp only [go_sem, Nat.reduceAdd];refine callK_of rfl (k61 (s := s) (N := N) (p := p)) (.inl rfl) ?_
  simp only [go_sem, true_implies];rfl
theorem tdiv_bd {a c : Int} : (a.tdiv c).natAbs <= a.natAbs := by
 rw [Int.natAbs_tdiv]; exact Nat.div_le_self _ _
def belowB (a c b d : Int) : Bool := decide (flo a c <= (if 0 < b.tmod d then b.tdiv d + 1 else b.tdiv d))
theorem k35 {a b c d : Int} (ha : a.natAbs <= 2 ^ 60) (hb : b.natAbs <= 2 ^ 60) (hc : 0 < c) (hd : 0 < d) : E.Fn Tryz.prog 35 [.int .i64 a, .int .i64 c, .int .i64 b, .int .i64 d] [.bool (belowB a c b d)] := by
 refine fn_of_row okf35 ?_;have h1 := tdiv_bd (a := a) (c := c);have h2 := tdiv_bd (a := b) (c := d);unfold belowB flo;simp only [FRow.start, f35, c35r0, c35r1, c35r2, go_sem, Nat.reduceAdd, Nat.reduceSub, true_implies];refine ⟨by omega, inR_abs (by omega), by omega, inR_abs (by omega), by omega, fun h3 => ?_, fun h3 => ?_⟩
 ·rw [if_pos h3]
  simp only [c35r3, c35r4, go_sem, true_implies];refine ⟨inR_abs (by omega), by omega, fun h4 => ?_, fun h4 => ?_⟩
  ·rw [if_pos h4]
   simp only [c35r5, c35r6, go_sem, true_implies];exact inR_abs (by omega)
  ·rw [if_neg h4]
   simp only [c35r6, go_sem, true_implies]
   done
 ·rw [if_neg h3]
  simp only [c35r4, go_sem, true_implies];refine ⟨by omega, fun h4 => ?_, fun h4 => ?_⟩
  ·rw [if_pos h4]
   simp only [c35r5, c35r6, go_sem, true_implies];exact inR_abs (by omega)
  ·rw [if_neg h4]
   simp only [c35r6, go_sem, true_implies]
   done
end Go.Proofs.YtikfhfgdmlijeaaGreat.Sk
namespace Go.Proofs.YtikfhfgdmlijeaaGreat.Sk
section
variable {s : Int} {N : List (List Int)} {p : List Int} {d g : Int} {hs : List Int} {st : Nat}
def hgT (N : List (List Int)) (hs : List Int) (st t : Nat) : Int := ((List.range N.length).map fun k => wT N st t k * hs[k]?.getD 0).sum
theorem hg_zero (hst : st < N.length) : hgT N hs st 0 = hs[st]?.getD 0 := by
 unfold hgT
 have e : ∀ k ∈ List.range N.length, wT N st 0 k * hs[k]?.getD 0 = if k = st then hs[k]?.getD 0 else 0 := fun k _ => by
  rw [wT]
  split
  ·rw [Int.one_mul]
  ·rw [Int.zero_mul]
 rw [List.map_congr_left e, sum_pick (f := fun k => hs[k]?.getD 0) hst]
theorem hg_step (h : OkS s N) (hst : st < N.length) (hz : ∀ k, k < N.length -> ovN s N p d g hs k = 0) {t : Nat} :
  d * (s * wpT N p st t N.length) = s * g * s ^ t + s * hgT N hs st t - hgT N hs st (t + 1) := by
 have e1 : ∀ k ∈ List.range N.length, d * s * (wT N st t k * p[k]?.getD 0) = (s * g * wT N st t k + s * (wT N st t k * hs[k]?.getD 0)) - ((List.range N.length).map fun j => wT N st t k * tn N k j * hs[j]?.getD 0).sum := fun k hk => by
  have h1 := hz k (List.mem_range.1 hk);unfold ovN ovT at h1
  have e2 : ((List.range N.length).map fun j => wT N st t k * tn N k j * hs[j]?.getD 0).sum = wT N st t k * ((List.range N.length).map fun j => tn N k j * hs[j]?.getD 0).sum := by
   rw [<- mul_sum];exact congrArg _ (List.map_congr_left fun j _ => Int.mul_assoc _ _ _)
  rw [e2]
  grind
 have e3 : d * (s * wpT N p st t N.length) = ((List.range N.length).map fun k => d * s * (wT N st t k * p[k]?.getD 0)).sum := by
  unfold wpT; rw [mul_sum, Int.mul_assoc]
 rw [e3, List.map_congr_left e1, sum_sub, sum_add, mul_sum, mul_sum, wT_sum h hst, sum_swap];unfold hgT
 congr 1
 refine congrArg _ (List.map_congr_left fun j _ => ?_)
 rw [wT, sum_mul]
theorem near_id (h : OkS s N) (hst : st < N.length) (hz : ∀ k, k < N.length -> ovN s N p d g hs k = 0) : ∀ {t : Nat},
  d * (s * fT s N p st t) = s ^ t * (t * g + hs[st]?.getD 0) - hgT N hs st t
 | 0 => by
  rw [hg_zero hst, show fT s N p st 0 = 0 from rfl];simp
 | t + 1 => by
  have ih := near_id h hst hz (t := t);have h1 := hg_step h hst hz (t := t);have hp : s ^ (t + 1) = s ^ t * s := Int.pow_succ s t;have hf : fT s N p st (t + 1) = fT s N p st t * s + wpT N p st t N.length := rfl;have e1 : d * (s * fT s N p st (t + 1)) = s * (d * (s * fT s N p st t)) + d * (s * wpT N p st t N.length) := by rw [hf]; grind
  have e2 : (((t + 1 : Nat) : Int)) = (t : Int) + 1 := by omega
  rw [e1, ih, h1, hp, e2]
  grind
theorem hg_bd (h : OkS s N) (hst : st < N.length) {lo up : Int} (hb : ∀ k, k < N.length -> lo <= hs[k]?.getD 0 /\ hs[k]?.getD 0 <= up) {t : Nat} : s ^ t * lo <= hgT N hs st t /\ hgT N hs st t <= s ^ t * up := by
 have hw := wT_sum h hst (t := t)
 have hl : 0 <= ((List.range N.length).map fun k => wT N st t k * hs[k]?.getD 0 - wT N st t k * lo).sum := sum_nonneg fun x hx => by
  obtain ⟨k, hk, rfl⟩ := List.mem_map.1 hx;rw [<- Int.mul_sub];exact Int.mul_nonneg (wT_nonneg h.toOkN) (by have := (hb k (List.mem_range.1 hk)).1; omega)
 have hu : 0 <= ((List.range N.length).map fun k => wT N st t k * up - wT N st t k * hs[k]?.getD 0).sum := sum_nonneg fun x hx => by
  obtain ⟨k, hk, rfl⟩ := List.mem_map.1 hx;rw [<- Int.mul_sub];exact Int.mul_nonneg (wT_nonneg h.toOkN) (by have := (hb k (List.mem_range.1 hk)).2; omega)
 rw [sum_sub, sum_mul, hw] at hl;rw [sum_sub, sum_mul, hw] at hu;unfold hgT;omega
theorem near_bd (h : OkS s N) (hst : st < N.length) (hz : ∀ k, k < N.length -> ovN s N p d g hs k = 0) {lo up : Int} (hb : ∀ k, k < N.length -> lo <= hs[k]?.getD 0 /\ hs[k]?.getD 0 <= up) {t : Nat} :
  s ^ (t - 1) * (t * g + (hs[st]?.getD 0 - up)) <= d * fT s N p st t /\ d * fT s N p st t <= s ^ (t - 1) * (t * g + (hs[st]?.getD 0 - lo)) := by
 have h1 := near_id h hst hz (t := t);have h2 := hg_bd h hst hb (t := t);have hs1 := h.s1
 cases t with
 | zero =>
  have := hb st hst;rw [show fT s N p st 0 = 0 from rfl, Int.mul_zero, show (0 - 1 : Nat) = 0 from rfl, Int.pow_zero];simp only [Int.one_mul];omega
 | succ t =>
  have hp : s ^ (t + 1) = s ^ t * s := Int.pow_succ s t;rw [show t + 1 - 1 = t from rfl];rw [hp] at h1 h2;constructor
  ·have h3 : (s ^ t * (((t + 1 : Nat) : Int) * g + (hs[st]?.getD 0 - up))) * s <= (d * fT s N p st (t + 1)) * s := by grind
   exact Int.le_of_mul_le_mul_right h3 (by omega)
  ·have h3 : (d * fT s N p st (t + 1)) * s <= (s ^ t * (((t + 1 : Nat) : Int) * g + (hs[st]?.getD 0 - lo))) * s := by grind
   exact Int.le_of_mul_le_mul_right h3 (by omega)
end
theorem near_frac {F P d g t own lo up : Int} {x : Int × Int} (hP : 0 < P) (hd : 0 < d) (hx : 0 < x.2) (hxg : x.1 * d = g * x.2)
  (h1 : P * (t * g + (own - up)) <= d * F) (h2 : d * F <= P * (t * g + (own - lo))) {w u : Int}
  (hw : w * (lst F P).2 <= (lst F P).1) (hu : (lst F P).1 <= u * (lst F P).2) :
  (own - up) * x.2 <= (u * x.2 - t * x.1) * d /\ (w * x.2 - t * x.1) * d <= (own - lo) * x.2 := by
 have hc := lst_cross hP (n := F);have hf := lst_pos hP (n := F);generalize lst F P = f at *;generalize hA : t * g + (own - up) = A at *;generalize hB : t * g + (own - lo) = B at *;have c1 : (d * f.1) * P = d * F * f.2 := by rw [Int.mul_assoc, hc, Int.mul_assoc]
 -- the fraction itself
 have k1 : f.2 * A <= d * f.1 := by
  have h3 := Int.mul_le_mul_of_nonneg_right h1 (Int.le_of_lt hf);have c2 : (f.2 * A) * P = P * A * f.2 := by grind
  exact Int.le_of_mul_le_mul_right (by rw [c1, c2]; exact h3) hP
 have k2 : d * f.1 <= f.2 * B := by
  have h3 := Int.mul_le_mul_of_nonneg_right h2 (Int.le_of_lt hf);have c2 : (f.2 * B) * P = P * B * f.2 := by grind
  exact Int.le_of_mul_le_mul_right (by rw [c1, c2]; exact h3) hP
 have k3 : A <= d * u := by
  have h3 := Int.le_trans k1 (Int.mul_le_mul_of_nonneg_left hu (Int.le_of_lt hd));have c2 : d * (u * f.2) = (d * u) * f.2 := by grind
  rw [c2, Int.mul_comm f.2] at h3;exact Int.le_of_mul_le_mul_right h3 hf
 have k4 : d * w <= B := by
  have h3 := Int.le_trans (Int.mul_le_mul_of_nonneg_left hw (Int.le_of_lt hd)) k2;have c2 : d * (w * f.2) = (d * w) * f.2 := by grind
  rw [c2, Int.mul_comm f.2] at h3;exact Int.le_of_mul_le_mul_right h3 hf
 constructor
 ·have h3 := Int.mul_le_mul_of_nonneg_right (show own - up <= d * u - t * g by omega) (Int.le_of_lt hx)
  have c2 : (d * u - t * g) * x.2 = (u * x.2 - t * x.1) * d := by
   have : t * g * x.2 = t * x.1 * d := by rw [Int.mul_assoc, Int.mul_assoc, hxg]
   grind
  rw [<- c2]; exact h3
 ·have h3 := Int.mul_le_mul_of_nonneg_right (show d * w - t * g <= own - lo by omega) (Int.le_of_lt hx)
  have c2 : (d * w - t * g) * x.2 = (w * x.2 - t * x.1) * d := by
   have : t * g * x.2 = t * x.1 * d := by rw [Int.mul_assoc, Int.mul_assoc, hxg]
   grind
  rw [<- c2]; exact h3
end Go.Proofs.YtikfhfgdmlijeaaGreat.Sk
namespace Go.Proofs.YtikfhfgdmlijeaaGreat.Sk
open Go Go.E
def c8r0 : LO := [oP 3 (.boxS (.t 0)),oP 6 (.mov bF)]
def c8r1 : LO := [oP 26 (.load 3 true (.t 3)),oP 27 (.call 26 [(.t 26)]),oP 28 (.not (.t 27))]
def c8r2 : LO := [oP 29 (.call 12 []),oM 6 29]
def c8r3 : LO := [oM 30 1,oP 31 (.conv .i64 (.t 30)),oF 32 1 3,oL 33 32,oN 34 33,oP 35 (.div .rem (.t 31) (.t 34)),oM 36 2,oP 37 (.conv .i64 (.t 36)),oP 38 (.div .rem (.t 37) (nI 11)),oM 7 35,oM 8 38]
def c8r4 : LO := [oP 40 (.load 3 true (.t 3)),oM 41 7,oM 42 8,oP 43 (.call 22 [(.t 40), (.t 41), (.t 42)]),oM 39 43,oP 44 (.ext (.t 39) 0),oP 45 (.ext (.t 39) 1),oP 9 (.alloc [(.s (.int .i64 0)), (.s (.int .i64 0))]),⟨none, none, .store 2 (.t 9) (.t 44)⟩,oM 10 45]
def c8r5 : LO := [oP 47 (.load 3 true (.t 3)),oP 48 (.call 27 [(.t 47)]),oM 46 48,oP 49 (.ext (.t 46) 0),oP 50 (.ext (.t 46) 1),oP 11 (.alloc [(.s (.int .i64 0)), (.s (.int .i64 0))]),⟨none, none, .store 2 (.t 11) (.t 49)⟩,oM 12 50]
def c8r6 : LO := [oP 52 (.load 3 true (.t 3)),oP 53 (.call 28 [(.t 52)]),oM 51 53,oP 54 (.ext (.t 51) 0),oP 55 (.ext (.t 51) 1),oP 13 (.alloc [(.s (.int .i64 0)), (.s (.int .i64 0)), (.full [])]),⟨none, none, .store 3 (.t 13) (.t 54)⟩,oM 14 55]
def c8r7 : LO := [oM 56 10,oP 57 (.cmp .neq (.t 56) (nI 0)),oM 58 57,oH 59 58 false 12,oG 60 58 false (.not (.t 59)),oP 61 (.pick (.t 58) bT (.t 60)),oM 62 61,oH 63 62 false 14,oG 64 62 false (.cmp .neq (.t 63) (nI 0)),oP 65 (.pick (.t 62) bT (.t 64)),oM 66 65,oG 67 66 false (.fieldAddr 2 (.t 13)),oG 68 66 false (.load 1 false (.t 67)),oG 69 66 false (.len false (.t 68)),oG 70 66 false (.fieldAddr 1 (.t 3)),oG 71 66 false (.load 1 false (.t 70)),oG 72 66 false (.len false (.t 71)),oG 73 66 false (.cmp .neq (.t 69) (.t 72)),oP 74 (.pick (.t 66) bT (.t 73)),oM 75 74,oG 76 75 false (.fieldAddr 1 (.t 9)),oG 77 75 false (.load 1 false (.t 76)),oG 78 75 false (.cmp .lss (.t 77) (nI 1)),oP 79 (.pick (.t 75) bT (.t 78)),oM 80 79,oG 81 80 false (.fieldAddr 0 (.t 9)),oG 82 80 false (.load 1 false (.t 81)),oG 83 80 false (.cmp .lss (.t 82) (nI 0)),oP 84 (.pick (.t 80) bT (.t 83)),oM 85 84,oG 86 85 false (.fieldAddr 1 (.t 9)),oG 87 85 false (.load 1 false (.t 86)),oG 88 85 false (.cmp .gtr (.t 87) (nI 512000000000)),oP 89 (.pick (.t 85) bT (.t 88)),oM 90 89,oG 91 90 false (.fieldAddr 0 (.t 9)),oG 92 90 false (.load 1 false (.t 91)),oG 93 90 false (.fieldAddr 1 (.t 9)),oG 94 90 false (.load 1 false (.t 93)),oG 95 90 false (.div .quo (.t 92) (.t 94)),oG 96 90 false (.cmp .gtr (.t 95) (nI 10000)),oP 97 (.pick (.t 90) bT (.t 96))]
def c8r8 : LO := [oP 6 (.mov bF)]
def c8r9 : LO := [oP 99 (.load 3 true (.t 3)),oP 100 (.load 3 true (.t 13)),oP 101 (.call 30 [(.t 99), (.t 100)]),oM 98 101,oP 102 (.ext (.t 98) 0),oP 103 (.ext (.t 98) 1),oM 15 102,oM 16 103]
def c8r10 : LO := [oM 104 16,oP 105 (.cmp .neq (.t 104) (nI 0)),oM 106 105,oH 107 106 false 15,oG 108 106 false (.cmp .neq (.t 107) (nI 3)),oP 109 (.pick (.t 106) bT (.t 108))]
def c8r11 : LO := [oP 6 (.mov bF)]
def c8r12 : LO := [oF 110 2 13,oL 111 110,oP 112 (.idxA 1 (.t 111) (nI 0)),oL 113 112,oF 114 2 13,oL 115 114,oP 116 (.idxA 1 (.t 115) (nI 0)),oL 117 116,oM 17 113,oM 18 117]
def c8r13 : LO := [oP 19 (.mov (nI 0))]
def c8r14 : LO := [oM 118 19,oF 119 2 13,oL 120 119,oN 121 120,oP 122 (.cmp .lss (.t 118) (.t 121))]
def c8r15 : LO := [oM 125 17,oF 126 2 13,oL 127 126,oM 128 19,oI 129 127 128,oL 130 129,oP 131 (.min [(.t 125), (.t 130)]),oM 132 18,oF 133 2 13,oL 134 133,oM 135 19,oI 136 134 135,oL 137 136,oP 138 (.max [(.t 132), (.t 137)]),oM 17 131,oM 18 138]
def c8r16 : LO := [oM 123 19,oP 124 (.arith .add (.t 123) (nI 1)),oM 19 124]
def c8l17 : ACode := (.seq (sR c8r14 (.cond (.t 122) .skip (.exit 0))) (.seq (.block 1 (rG c8r15)) (rG c8r16)))
def c8l17m : List Bool := zF<|zF<|zF<|zF<|zF<|zF<|zF<|zT<|zT<|zT<|zF<|zT<|zF<|zT<|zF<|zF<|zF<|zT<|zT<|zT<|z8<|z8<|z8<|z8<|z8<|z8<|z8<|z8<|z8<|z8<|z8<|z8<|z8<|z8<|z8<|z8<|z8<|z8<|z8<|z8<|z8<|z8<|zF<|zF<|zF<|zF<|[]
def c8r18 : LO := [oF 139 0 9,oL 140 139,oF 141 1 9,oL 142 141,oP 143 (.div .quo (.t 140) (.t 142)),oF 144 0 9,oL 145 144,oF 146 1 9,oL 147 146,oP 148 (.div .rem (.t 145) (.t 147)),oM 20 143,oM 21 148]
def c8r19 : LO := [oM 149 20,oM 22 149]
def c8r20 : LO := [oM 150 21,oP 151 (.cmp .gtr (.t 150) (nI 0))]
def c8r21 : LO := [oM 152 22,oP 153 (.arith .add (.t 152) (nI 1)),oM 22 153]
def c8r22 : LO := [oF 154 2 13,oL 155 154,oM 156 7,oI 157 155 156,oL 158 157,oM 23 158]
def c8r23 : LO := [oM 159 20,oF 160 1 11,oL 161 160,oP 162 (.arith .mul (.t 159) (.t 161)),oM 163 8,oF 164 0 11,oL 165 164,oP 166 (.arith .mul (.t 163) (.t 165)),oP 167 (.arith .sub (.t 162) (.t 166)),oM 168 22,oF 169 1 11,oL 170 169,oP 171 (.arith .mul (.t 168) (.t 170)),oM 172 8,oF 173 0 11,oL 174 173,oP 175 (.arith .mul (.t 172) (.t 174)),oP 176 (.arith .sub (.t 171) (.t 175)),oM 24 167,oM 25 176]
def c8r24 : LO := [oM 177 23,oM 178 18,oP 179 (.arith .sub (.t 177) (.t 178)),oF 180 0 13,oL 181 180,oM 182 25,oF 183 1 11,oL 184 183,oP 185 (.call 35 [(.t 179), (.t 181), (.t 182), (.t 184)]),oM 186 185,oH 187 186 true 24,oG 188 186 true (.fieldAddr 1 (.t 11)),oG 189 186 true (.load 1 false (.t 188)),oH 190 186 true 23,oH 191 186 true 17,oG 192 186 true (.arith .sub (.t 190) (.t 191)),oG 193 186 true (.fieldAddr 0 (.t 13)),oG 194 186 true (.load 1 false (.t 193)),oG 195 186 true (.call 35 [(.t 187), (.t 189), (.t 192), (.t 194)]),oP 196 (.pick (.t 186) (.t 195) bF),oM 197 196,oG 198 197 true (.call 12 []),oP 199 (.pick (.t 197) (.t 198) bF),oM 6 199]
def f8 : FRow := ⟨(sR c8r0 (.seq (sR c8r1 (.cond (.t 28) (sR c8r2 .ret) .skip)) (sR c8r3 (.seq (.reg 1 c8r4) (.seq (.reg 1 c8r5) (.seq (.reg 1 c8r6) (.seq (sR c8r7 (.cond (.t 97) (sR c8r8 .ret) .skip)) (sR c8r9 (.seq (sR c8r10 (.cond (.t 109) (sR c8r11 .ret) .skip)) (sR c8r12 (.seq (sR c8r13 (.block 0 (.loop c8l17m [] c8l17))) (sR c8r18 (sR c8r19 (.seq (sR c8r20 (.cond (.t 151) (rG c8r21) .skip)) (sR c8r22 (sR c8r23 (sR c8r24 .ret))))))))))))))))), [.tmp 6], 200⟩
theorem okf8 : f8.Ok Tryz.prog 8 := ⟨_, _, Tryz.func8, rfl, by kernel_rfl, by kernel_rfl, by kernel_rfl⟩
end Go.Proofs.YtikfhfgdmlijeaaGreat.Sk
namespace Go.Proofs.YtikfhfgdmlijeaaGreat.Sk
open Go Go.E Go.E.Sm
set_option maxRecDepth 10000
theorem below_of {a c b d : Int} (hc : 0 < c) (hd : 0 < d) (h : a * d <= b * c) : belowB a c b d = true := by
 unfold belowB;rw [decide_eq_true_eq];have h1 := (flo_le (g := a) hc).1;generalize flo a c = x at *
 have h2 : b <= (if 0 < b.tmod d then b.tdiv d + 1 else b.tdiv d) * d := by
  have h3 := Int.mul_tdiv_add_tmod b d;have h4 := Int.tmod_lt_of_pos b hd
  split
  ·rw [Int.add_mul, Int.one_mul, Int.mul_comm (b.tdiv d)]; omega
  ·rw [Int.mul_comm (b.tdiv d)]; omega
 generalize (if 0 < b.tmod d then b.tdiv d + 1 else b.tdiv d) = y at *;have h5 := Int.mul_le_mul_of_nonneg_right h1 (Int.le_of_lt hd);have h6 := Int.mul_le_mul_of_nonneg_right h2 (Int.le_of_lt hc)
 have h7 : x * (c * d) <= y * (c * d) := by
  have e1 : x * (c * d) = x * c * d := by grind
  have e2 : y * (c * d) = y * d * c := by grind
  rw [e1, e2];exact Int.le_trans h5 (Int.le_trans h h6)
 exact Int.le_of_mul_le_mul_right h7 (Int.mul_pos hc hd)
theorem mn2 {a b : Int} : minL [a, b] = min a b := by
 simp only [minL, List.foldl_cons, List.foldl_nil]
 split <;> omega
theorem mx2 {a b : Int} : maxL [a, b] = max a b := by
 simp only [maxL, List.foldl_cons, List.foldl_nil]
 split <;> omega
set_option maxHeartbeats 4000000 in
theorem law8 {s : Int} {N : List (List Int)} {p : List Int} {b c : Int} (hb : 0 <= b /\ b < 256) (hc : 0 <= c /\ c < 256) : E.Fn Tryz.prog 8 [mc s N p, .int .u8 b, .int .u8 c] [.bool true] := by
 refine fn_of_row okf8 ?_;simp only [FRow.start, f8, c8r0, c8r1, mc, SV.cells, go_sem, Nat.reduceAdd, Nat.reduceSub, true_implies];refine callK_of rfl (k26 (s := s) (N := N) (p := p)) (.inl rfl) ?_
 cases hf : !greatB N p && decide (setE s N p = 0) with
 | false =>
  simp only [c8r2, go_sem, true_implies];refine wk ?_;simp only [go_sem, true_implies]
 | true =>
  rw [Bool.and_eq_true, decide_eq_true_eq] at hf;obtain ⟨h, hP⟩ := setE_zero hf.2;have hn1 := h.n1;have hn4 := h.n4;have hs1 := h.s1;have hs20 := h.s20;have hS := roots_pos h hP;have hsm := small_pay h hP
  have hpay : E.Fn Tryz.prog 27 [mc s N p] [rat (paysQ s N p), .bool true] := by
   have h1 := k27 (s := s) (N := N) (p := p);unfold payB at h1
   rwa [if_pos hf.2, hsm] at h1
  have h28 := k28 (s := s) (N := N) (p := p);unfold proofR at h28;rw [if_pos hf.2] at h28;obtain ⟨bn, rfl⟩ : ∃ bn : Nat, b = bn := ⟨b.toNat, by omega⟩
  obtain ⟨cn, rfl⟩ : ∃ cn : Nat, c = cn := ⟨c.toNat, by omega⟩
  simp only [c8r3, intss, go_sem, Nat.reduceAdd, Nat.reduceLeDiff, true_implies];refine ⟨inR_small (by omega) (by omega), by omega, inR_small (by omega) (by omega), by decide, fun _ => ?_⟩
  rw [show (bn : Int).tmod (N.length : Nat) = ((bn % N.length : Nat) : Int) from (Int.ofNat_tmod _ _).symm, show (cn : Int).tmod 11 = ((cn % 11 : Nat) : Int) from (Int.ofNat_tmod _ _).symm];have hi : bn % N.length < N.length := Nat.mod_lt _ hn1;have ht : cn % 11 < 11 := Nat.mod_lt _ (by decide)
  generalize bn % N.length = i at *;generalize cn % 11 = t at *;have h22 := k22 (s := s) (N := N) (p := p) (state := i) (plays := t);unfold firstR at h22;rw [if_pos (chkM_zero.2 h), if_pos (by omega), Int.toNat_natCast, Int.toNat_natCast] at h22
  -- the proof
  have hlen := prfH_len (s := s) (N := N) (p := p) (c := fst0 N);have hpb := prf_both h hP (chkM_zero.2 h);have h30 := k30 (s := s) (N := N) (p := p) (d := prfD s N (fst0 N)) (g := prfG s N p (fst0 N)) (hs := prfH s N p (fst0 N));rw [hpb] at h30;obtain ⟨c0, hc0, hcp, hcn, hcr⟩ := settles_first h hP
  have hf0 : fst0 N = c0 := by
   have h1 := fst0_eq h hP;rw [hc0] at h1
   simpa using h1.symm
  have hr0 := (root_pos h.s hcn).2 fun j hj _ => hcr j hj
  rw [<- hf0] at hr0 hcn;have hz : ∀ k, k < N.length -> ovN s N p (prfD s N (fst0 N)) (prfG s N p (fst0 N)) (prfH s N p (fst0 N)) k = 0 := fun k hk => ov_zero h hcn hr0 hk
  have hok := prf_ok h hcn hr0 hS
  have hxg : (paysQ s N p).1 * prfD s N (fst0 N) = prfG s N p (fst0 N) * (paysQ s N p).2 := by
   have hls : lst (prfG s N p (fst0 N)) (prfD s N (fst0 N)) = paysQ s N p := by
    unfold prfG prfD paysQ;rw [Int.mul_comm, lst_scale hr0]
   have := lst_cross (n := prfG s N p (fst0 N)) (d := prfD s N (fst0 N)) (by have := hok.d1; omega)
   rwa [hls] at this
  have hnb := fun lo up hb => near_bd (st := i) h.s hi hz (lo := lo) (up := up) hb (t := t)
  have hpw := pow_bd h.toOkN (t := t - 1)
  have hp20 : (20 : Int) ^ (t - 1) <= 512000000000 := by
   have := Nat.pow_le_pow_right (show 0 < 20 by decide) (show t - 1 <= 9 by omega)
   have h2 : ((20 ^ (t - 1) : Nat) : Int) <= ((20 ^ 9 : Nat) : Int) := by omega
   simpa using h2
  have hF0 : 0 <= fT s N p i t := (fT_bd h hi).1
  have hF1 : fT s N p i t <= 10000 * s ^ (t - 1) := by
   cases t with
   | zero => rw [show fT s N p i 0 = 0 from rfl]; omega
   | succ t =>
    have h1 := (fT_bd h hi (t := t)).2;rw [show t + 1 - 1 = t from rfl] at hpw ⊢;have h2 := Int.mul_le_mul_of_nonneg_right (show 1000 * ((t : Int) + 1) <= 10000 by omega) (show (0 : Int) <= s ^ t by omega)
    exact Int.le_trans h1 h2
  have hfl := lst_le (n := fT s N p i t) (d := s ^ (t - 1)) (by omega)
  have hfn := lst_nonneg (n := fT s N p i t) (d := s ^ (t - 1)) (by omega) hF0
  have hfm := lst_mul_le (n := fT s N p i t) (d := s ^ (t - 1)) (c := 10000) (by omega) hF1
  have hfr := fun lo up hb w u hw hu => near_frac (F := fT s N p i t) (P := s ^ (t - 1)) (d := prfD s N (fst0 N)) (x := paysQ s N p) (by omega) (by have := hok.d1; omega) (smallB_iff.1 hsm).1.1 hxg (hnb lo up hb).1 (hnb lo up hb).2 (w := w) (u := u) hw hu
  obtain ⟨hq, _⟩ := smallB_iff.1 hsm;obtain ⟨hd1, hd2, hg1, hH⟩ := hok;generalize lst (fT s N p i t) (s ^ (t - 1)) = f at *;generalize paysQ s N p = x at *;generalize prfD s N (fst0 N) = d at *;generalize prfG s N p (fst0 N) = g at *;generalize prfH s N p (fst0 N) = H at *;simp only [c8r4, go_sem, Nat.reduceAdd];refine callK_of rfl h22 (.inl rfl) ?_
  simp only [rat, spl_two, c8r5, go_sem, Nat.reduceAdd, true_implies];refine callK_of rfl hpay (.inl rfl) ?_
  simp only [rat, spl_two, c8r6, go_sem, Nat.reduceAdd, true_implies];refine callK_of rfl h28 (.inr (.inl rfl)) ?_
  have a1 : ((N.length : Int) = N.length) = True := eq_self _;have a2 : ¬ f.2 < 1 := by omega
  have a3 : ¬ f.1 < 0 := by omega
  have a4 : ¬ (512000000000 : Int) < f.2 := by omega
  simp only [prV, spl_three, SV.cells, c8r7, ints, hlen, a2, a3, a4, decide_false, go_sem, Nat.reduceAdd, Nat.reduceLeDiff, true_implies];have hf2 : 0 < f.2 := by omega
  have hdv := Int.mul_tdiv_add_tmod f.1 f.2;have hr1 := Int.tmod_lt_of_pos f.1 hf2;have hr2 := Int.tmod_nonneg f.2 hfn;have hw0 := Int.tdiv_nonneg hfn (show 0 <= f.2 by omega)
  generalize hwd : f.1.tdiv f.2 = w at *;generalize hrd : f.1.tmod f.2 = r at *;rw [Int.mul_comm] at hdv
  have hw1 : w <= 10000 := by
   have h1 : w * f.2 <= 10000 * f.2 := by omega
   exact Int.le_of_mul_le_mul_right h1 hf2
  refine ⟨by omega, inR_small (by omega) (by omega), fun _ => ⟨fun h1 => by omega, fun _ => ?_⟩⟩
  simp only [c8r9, go_sem, Nat.reduceAdd];refine callK_of (by simp only [mc, prV, intss, ints, go_sem]) h30 (.inl rfl) ?_
  obtain ⟨z0, hz0⟩ : ∃ z, H[0]? = some z := ⟨_, List.getElem?_eq_getElem (by omega)⟩
  have hz0b := hH z0 (List.mem_of_getElem? hz0);simp only [ckPR, c8r10, decide_true, c8r12, hz0, c8r13, go_sem, Nat.reduceAdd, Int.reduceToNat, true_implies]
  refine loop_rule (fun m τ => ∃ (j : Nat) (lo up : Int), m = N.length - j /\ j <= N.length /\ (-1125899906842624 <= lo /\ lo <= up /\ up <= 1125899906842624) /\ (∀ k, k < j -> lo <= H[k]?.getD 0 /\ H[k]?.getD 0 <= up) /\
   τ = ⟨(aN::aN::aN::aN::aN::aN::aN::(aI i)::(aI t)::(.loc 0 0)::aN::(.loc 1 0)::aN::(.loc 2 0)::aN::aN::aN::(aI lo)::(aI up)::(aI j)::aN::aN::aN::aN::aZ176), [.obj [aI f.1, aI f.2], .obj [aI x.1, aI x.2], .obj [aI d, aI g, .s (ints H)]]⟩) N.length rfl ?_ ?_
  ·simp only [c8l17m, go_sem, ↓reduceIte, reduceCtorEq, Nat.reduceAdd, Nat.reduceLeDiff, Int.reduceNeg]
   exact ⟨0, z0, z0, rfl, Nat.zero_le _, by omega, fun k hk => absurd hk (Nat.not_lt_zero _), rfl⟩
  ·rintro I m τ ⟨j, lo, up, rfl, hj, hlu, hbd, rfl⟩ hI
   simp only [c8l17, c8r14, ints, hlen, go_sem, ↓reduceIte, Nat.reduceAdd];intro _;refine ⟨fun hlt => ?_, fun hge => ?_⟩
   ·obtain ⟨z, hz1⟩ : ∃ z, H[j]? = some z := ⟨_, List.getElem?_eq_getElem (by omega)⟩
    have hzb := hH z (List.mem_of_getElem? hz1);simp only [c8r15, hz1, mn2, mx2, c8r16, c8l17m, go_sem, ↓reduceIte, reduceCtorEq, Nat.reduceAdd, Nat.reduceLeDiff, true_implies];refine ⟨by simp, by simp, inR_small (by omega) (by omega), hI (N.length - (j + 1)) _ (by omega) ⟨j + 1, min lo z, max up z, rfl, by omega, by omega, fun k hk => ?_, rfl⟩⟩
    by_cases e : k = j
    ·subst e
     rw [hz1, Option.getD_some];omega
    ·have := hbd k (by omega)
     omega
   ·have hje : j = N.length := by omega
    subst hje;clear hI I;obtain ⟨z, hz1⟩ : ∃ z, H[i]? = some z := ⟨_, List.getElem?_eq_getElem (by omega)⟩
    have hzb := hH z (List.mem_of_getElem? hz1);have hzl := hbd i hi;have hown : H[i]?.getD 0 = z := by rw [hz1]; rfl
    rw [hown] at hzl;simp only [hown] at hfr;have m1 := mul_le_nat (a := w) (b := x.2) (A := 10000) (B := 32000) (by omega) (by omega)
    have m2 := mul_le_nat (a := (t : Int)) (b := x.1) (A := 10) (B := 32000000) (by omega) (by omega)
    have m3 := mul_le_nat (a := w + 1) (b := x.2) (A := 10001) (B := 32000) (by omega) (by omega)
    simp only [c8r18, hwd, hrd, go_sem, Nat.reduceAdd, true_implies];refine ⟨by omega, inR_small (by omega) (by omega), by omega, ?_⟩
    simp only [c8r19, c8r20, go_sem, Nat.reduceAdd, true_implies];refine ⟨fun hr => ?_, fun hr => ?_⟩
    case' refine_1 =>
     obtain ⟨k1, k2⟩ := hfr lo up hbd w (w + 1) (by omega) (by rw [Int.add_mul, Int.one_mul]; omega)
     have b1 := below_of (by omega) (by omega) k1
     have b2 := below_of (by omega) (by omega) k2
     have kb1 := k35 (a := z - up) (b := (w + 1) * x.2 - t * x.1) (c := d) (d := x.2) (by omega) (by omega) (by omega) (by omega)
     have kb2 := k35 (a := w * x.2 - t * x.1) (b := z - lo) (c := x.2) (d := d) (by omega) (by omega) (by omega) (by omega)
     rw [b1] at kb1;rw [b2] at kb2;simp only [c8r21, go_sem, Nat.reduceAdd, true_implies];refine ⟨inR_small (by omega) (by omega), ?_⟩
    case' refine_2 =>
     obtain ⟨k1, k2⟩ := hfr lo up hbd w w (by omega) (by omega)
     have b1 := below_of (by omega) (by omega) k1
     have b2 := below_of (by omega) (by omega) k2
     have kb1 := k35 (a := z - up) (b := w * x.2 - t * x.1) (c := d) (d := x.2) (by omega) (by omega) (by omega) (by omega)
     have kb2 := k35 (a := w * x.2 - t * x.1) (b := z - lo) (c := x.2) (d := d) (by omega) (by omega) (by omega) (by omega)
     rw [b1] at kb1;rw [b2] at kb2
    all_goals
     simp only [c8r22, hz1, c8r23, go_sem, Nat.reduceAdd, true_implies];refine ⟨inR_abs (by omega), inR_abs (by omega), inR_abs (by omega), inR_abs (by omega), inR_abs (by omega), inR_abs (by omega), ?_⟩
     simp only [c8r24, go_sem];refine ⟨inR_abs (by omega), ?_⟩
     refine callK_of (by simp only [go_sem]) kb1 (.inl rfl) ?_
     simp only [go_sem];refine ⟨inR_abs (by omega), ?_⟩
     refine callK_of (by simp only [go_sem]) kb2 (.inl rfl) ?_
     simp only [go_sem];refine wk ?_;simp only [go_sem, true_implies]
end Go.Proofs.YtikfhfgdmlijeaaGreat.Sk
