/- Contracts: how likely a state comes to a closed part. -/
import Derived.Test.YtikfhfgdmlijeaaGreatJ7
import Derived.Deep.Strs

set_option linter.all false

namespace Go.Proofs.YtikfhfgdmlijeaaGreat.Sk
open Go Go.E Go.E.Sm
set_option maxRecDepth 10000
def landsQ (s : Int) (N : List (List Int)) (state : Int) (pt : List Int) : Int × Int :=
 if idx (fun x => decide (state = x)) (nats (opL N)) 0 < 0 then (if state ∈ pt then (1, 1) else (0, 1))
 else lst (solK s N (opL N) ((opL N).map (toP N pt)) (idx (fun x => decide (state = x)) (nats (opL N)) 0).toNat) (detS s N (opL N))
theorem rchC_len {g : Nat -> Nat -> Bool} {n i : Nat} : (rchC g n i).length <= n := by
 unfold rchC; rw [List.length_map]; exact rB_len
theorem part_len {N : List (List Int)} {l : List Int} (h : l ∈ parts N) : l.length <= N.length := by
 obtain ⟨c, _, rfl⟩ := mem_part h;exact rchC_len
theorem part_mem {N : List (List Int)} {l : List Int} (h : l ∈ parts N) {x : Int} (hx : x ∈ l) : ∃ k : Nat, x = k /\ k < N.length := by
 obtain ⟨c, _, rfl⟩ := mem_part h;obtain ⟨k, h1, h2⟩ := mem_rchC.1 hx;exact ⟨k, h1, h2.lt⟩
theorem idx_spec {α : Type} {p : α -> Bool} : ∀ {xs : List α} {i : Nat}, idx p xs i < 0 /\ (∀ x ∈ xs, p x = false) \/ ∃ j x, xs[j]? = some x /\ p x = true /\ idx p xs i = ((i + j : Nat) : Int)
 | [], i => .inl ⟨by simp [idx], by simp⟩
 | x :: xs, i => by
  rw [idx]
  cases hp : p x with
  | true => exact .inr ⟨0, x, rfl, hp, rfl⟩
  | false =>
   simp only [Bool.false_eq_true, if_false]
   rcases idx_spec (p := p) (xs := xs) (i := i + 1) with ⟨h1, h2⟩ | ⟨j, y, h1, h2, h3⟩
   ·exact .inl ⟨h1, fun y hy => by rcases List.mem_cons.1 hy with rfl | hy; exact hp; exact h2 y hy⟩
   ·refine .inr ⟨j + 1, y, by simpa using h1, h2, ?_⟩
    rw [show i + (j + 1) = i + 1 + j by omega]
    exact h3
theorem idx_spec0 {α : Type} {p : α -> Bool} {xs : List α} : idx p xs 0 < 0 /\ (∀ x ∈ xs, p x = false) \/ ∃ (j : Nat) (x : α), xs[j]? = some x /\ p x = true /\ idx p xs 0 = (j : Int) := by
 rcases idx_spec (p := p) (xs := xs) (i := 0) with ⟨h1, h2⟩ | ⟨j, x, h1, h2, h3⟩
 ·exact .inl ⟨h1, h2⟩
 ·exact .inr ⟨j, x, h1, h2, by rw [Nat.zero_add] at h3; exact h3⟩
theorem mid_get {A Z : List Int} {x : Int} {m : Nat} (h : A.length = m) : (A ++ x :: Z)[m]? = some x := by
 subst h;rw [List.getElem?_append_right (Nat.le_refl _), Nat.sub_self]; rfl
theorem mid_set {A Z : List Int} {x y : Int} {m : Nat} (h : A.length = m) : (A ++ x :: Z).set m y = A ++ y :: Z := by
 subst h;rw [List.set_append_right _ _ (Nat.le_refl _), Nat.sub_self]; rfl
theorem toP_le {N : List (List Int)} {s : Int} (h : OkN s N) {pt : List Int} (hl : pt.length <= 4) (k : Nat) : (toP N pt k).natAbs <= 80 := by
 unfold toP
 have h1 := sum_abs (l := pt.map fun j => tn N k j.toNat) (B := 20) (fun x hx => by
  obtain ⟨j, _, rfl⟩ := List.mem_map.1 hx;have := h.tn k j.toNat;have := h.s20;omega)
 rw [List.length_map] at h1;exact Nat.le_trans h1 (Nat.le_trans (Nat.mul_le_mul_right _ hl) (by decide))
set_option maxHeartbeats 1000000 in
theorem k51 {s : Int} {N : List (List Int)} {p : List Int} {state : Int} {part : Nat} {pt : List Int} (h : OkM s N p) (hpt : (parts N)[part]? = some pt) (hd : ∀ k ∈ opL N, 0 < detS s N (opL N)) :
  E.Fn Tryz.prog 51 [benchC s N p, .int .i64 state, .int .i64 part] [rat (landsQ s N state pt)] := by
 refine fn_of_row okf51 ?_;have hn4 := h.n4;have hpm := List.mem_of_getElem? hpt;have hpl := part_len hpm;have hps := parts_len (N := N);have hm := map_turns h.sq
 have hk82 : E.Fn Tryz.prog 89 [intss (parts N)] [ints (parts N).flatten] := k89 (by omega) (fun l hl => by have := part_len hl; omega) (by
  obtain ⟨c, hc, rfl⟩ := mem_part hpm;have hcc := (isPC_iff.1 hc).1;have h1 : (c : Int) ∈ rchC (gr N) N.length c := mem_rchC.2 ⟨c, rfl, hcc⟩;have h2 : (c : Int) ∈ (parts N).flatten := List.mem_flatten.2 ⟨_, hpm, h1⟩;exact List.length_pos_of_mem h2)
 have hk80 : E.Fn Tryz.prog 88 [benchC s N p, ints (parts N).flatten] [ints (nats (opL N))] := k88 (by omega)
 have hol : (opL N).length <= N.length := wout_len;have hoL : ∀ i ∈ opL N, i < N.length := fun i => wout_lt
 unfold landsQ;simp only [FRow.start, f51, c51r0, c51r1, benchC, bnV, go_sem, Nat.reduceAdd, Nat.reduceSub, Nat.reduceLeDiff, true_implies];refine callK_of (by simp only [intss, go_sem]) hk82 (.inr (.inl (by simp only [intss, go_sem]))) ?_
 simp only [go_sem];refine callK_of (by simp only [ints, benchC, bnV, go_sem]) hk80 (.inr (.inl (by simp only [ints, benchC, bnV, go_sem]))) ?_
 have hk83 := k90 (xs := nats (opL N)) (v := state)
 have hk81 : ∀ col : List Int, col.length = (opL N).length -> (∀ x ∈ col, x.natAbs <= 2 ^ 38) -> E.Fn Tryz.prog 92 [benchC s N p, ints (nats (opL N)), ints col] [ints (solL s N (opL N) col), .int .i64 (detS s N (opL N))] := fun col h1 h2 =>
  k92 h.toOkN hoL (by omega) h1 h2
 have hsl : ∀ (k : Nat), k < (opL N).length -> (solK s N (opL N) ((opL N).map (toP N pt)) k).natAbs <= 80 * 2 ^ 22 := fun k hk => sol_le h.toOkN (by omega) hk (by decide) (fun x hx => by
  obtain ⟨i, _, rfl⟩ := List.mem_map.1 hx;exact toP_le h.toOkN (by omega) i)
 have hdl : (detS s N (opL N)).natAbs <= 2 ^ 22 := det_le h.toOkN (by omega)
 generalize opL N = st at *;simp only [c51r2, go_sem, true_implies];refine callK_of (by simp only [ints, go_sem]) hk83 (.inl rfl) ?_
 have hcs := idx_spec0 (p := fun x => decide (state = x)) (xs := nats st)
 generalize idx (fun x => decide (state = x)) (nats st) 0 = ix at *
 rcases hcs with ⟨hi1, hi2⟩ | ⟨a, x, hx1, hx2, rfl⟩
 ·rw [if_pos hi1]
  simp only [hi1, c51r3, c51r4, intss, hpt, go_sem, Nat.reduceAdd, Nat.reduceLeDiff, true_implies];refine callK_of (by simp only [ints, go_sem]) (k91 (xs := pt) (v := state)) (.inl rfl) ?_
  by_cases hin : state ∈ pt
  ·rw [if_pos hin]
   simp only [hin, c51r5, spl_two, frz_two', rat, go_sem, ↓reduceIte, Nat.reduceAdd, Nat.reduceLeDiff, true_implies]
  ·rw [if_neg hin]
   simp only [hin, c51r6, spl_two, frz_two', rat, go_sem, ↓reduceIte, Nat.reduceAdd, Nat.reduceLeDiff, true_implies]
 ·rw [if_neg (by omega)]
  have hal : a < st.length := by have := (List.getElem?_eq_some_iff.1 hx1).1; simpa [nats] using this
  have hst0 : ∀ k ∈ st, k < N.length := hoL;have hnl : (nats st).length = st.length := by simp [nats]
  have hd0 := hd st[a] (List.getElem_mem hal);have ea : ¬ ((a : Int) < 0) := by omega
  simp only [ea, c51r3, c51r7, ints, hnl, go_sem, Nat.reduceAdd, Nat.reduceLT, true_implies];refine ⟨by omega, by omega, fun _ => ?_⟩
  rw [rep_flat];simp only [c51r8, hnl, go_sem];intro _
  refine loop_rule (fun m τ => ∃ i : Nat, m = st.length - i /\ i <= st.length /\
   τ = ⟨((.s (benchC s N p))::aN::(aI part)::aN::aN::aN::(.loc 0 0)::(.s (ints (nats st)))::(aI a)::(.sl 1 0 st.length 1 true)::aN::aN::aN::aN::aN::aN::aN::aN::aN::aN::aN::aN::aN::aN::aN::aN::aN::aN::aN::aN::aN::aN::aN::aN::aN::aN::aN::aN::aN::aN::aN::aN::(.s (ints (nats st)))::(aI st.length)::(aI i)::aN::aN::aN::aN::aN::aZ40),
    [.obj [aI 0, aI 0], .row (((st.take i).map (toP N pt) ++ List.replicate (st.length - i) 0).map (.int .i64))]⟩) st.length rfl ?_ ?_
  ·simp only [c51l18m, go_sem, ↓reduceIte, reduceCtorEq, Nat.reduceAdd, Nat.reduceLeDiff]
   exact ⟨0, rfl, Nat.zero_le _, rfl⟩
  ·rintro I m τ ⟨i, rfl, hi, rfl⟩ hI
   simp only [c51l18, c51r9, go_sem, ↓reduceIte, Nat.reduceAdd, true_implies];refine ⟨fun hlt => ?_, fun hge => ?_⟩
   ·have hlt : i < st.length := by omega
    have hx : st[i]? = some st[i] := List.getElem?_eq_getElem hlt;have hk := hst0 _ (List.getElem_mem hlt);have hnx : (nats st)[i]? = some (st[i] : Int) := by unfold nats; rw [List.getElem?_map, hx]; rfl
    have hrow := row_set (f := toP N pt) hx;generalize st[i] = k at hx hk hnx hrow;have hrep : List.replicate (st.length - i) (0 : Int) = 0 :: List.replicate (st.length - (i + 1)) 0 := by rw [show st.length - i = (st.length - (i + 1)) + 1 by omega, List.replicate_succ]
    have hAl : ((st.take i).map (toP N pt)).length = i := by rw [List.length_map, List.length_take]; omega
    simp only [c51r10, ints, hnx, c51r11, benchC, bnV, intss, hpt, go_sem, Nat.reduceAdd, Nat.reduceLeDiff, true_implies];intro _;rw [hrep] at hrow ⊢;rw [mid_set hAl] at hrow;have hZl : ∀ z : Int, ((st.take i).map (toP N pt) ++ z :: List.replicate (st.length - (i + 1)) 0).length = st.length := fun z => by rw [List.length_append, List.length_cons, hAl, List.length_replicate]; omega
    have hget : ∀ z : Int, ((st.take i).map (toP N pt) ++ z :: List.replicate (st.length - (i + 1)) 0)[i]? = some z := fun z => mid_get hAl
    have hset : ∀ z y : Int, ((st.take i).map (toP N pt) ++ z :: List.replicate (st.length - (i + 1)) 0).set i y = (st.take i).map (toP N pt) ++ y :: List.replicate (st.length - (i + 1)) 0 := fun z y => mid_set hAl
    generalize hA : (fun z : Int => (st.take i).map (toP N pt) ++ z :: List.replicate (st.length - (i + 1)) 0) = A
    have hA' : ∀ z, (st.take i).map (toP N pt) ++ z :: List.replicate (st.length - (i + 1)) 0 = A z := fun z => by rw [<- hA]
    simp only [hA'] at hZl hget hset ⊢
    refine loop_rule (fun m τ => ∃ j : Nat, m = pt.length - j /\ j <= pt.length /\
     τ = ⟨((.s (benchC s N p))::aN::(aI part)::aN::aN::aN::(.loc 0 0)::(.s (ints (nats st)))::(aI a)::(.sl 1 0 st.length 1 true)::(aI i)::(aI k)::aN::aN::aN::aN::aN::aN::aN::aN::aN::aN::aN::aN::aN::aN::aN::aN::aN::aN::aN::aN::aN::aN::aN::aN::aN::aN::aN::aN::aN::aN::(.s (ints (nats st)))::(aI st.length)::(aI i)::aN::aN::aN::aN::aN::aN::aN::aN::aN::aN::(.s (ints pt))::(aI pt.length)::(aI j)::aZ32),
      [.obj [aI 0, aI 0], .row ((A (toP N (pt.take j) k)).map (.int .i64))]⟩) pt.length rfl ?_ ?_
    ·simp only [c51l16m, go_sem, ↓reduceIte, reduceCtorEq, Nat.reduceAdd, Nat.reduceLeDiff]
     exact ⟨0, rfl, Nat.zero_le _, rfl⟩
    ·rintro I2 m τ ⟨j, rfl, hj, rfl⟩ hI2
     simp only [c51l16, c51r12, go_sem, ↓reduceIte, Nat.reduceAdd, true_implies];refine ⟨fun hlt2 => ?_, fun hge => ?_⟩
     ·have hlt2 : j < pt.length := by omega
      have hy : pt[j]? = some pt[j] := List.getElem?_eq_getElem hlt2;obtain ⟨b, hyb, hb⟩ := part_mem hpm (List.getElem_mem hlt2);rw [hyb] at hy
      have hts : toP N (pt.take (j + 1)) k = toP N (pt.take j) k + tn N k b := by
       unfold toP;rw [List.take_succ, hy, List.map_append, List.sum_append]; simp
      have hb1 := toP_le h.toOkN (pt := pt.take (j + 1)) (by rw [List.length_take]; omega) k
      simp only [c51r13, ints, hy, c51r14, Nat.mul_one, hget, benchC, bnV, go_sem, ↓reduceIte, Nat.reduceAdd, Nat.reduceLeDiff, true_implies];have hin1 : inR .i64 (toP N (pt.take j) k + tn N k b) := inR_abs (by rw [<- hts]; omega)
      have hs1 := spl_row (R := A (toP N (pt.take j) k)) (i := i) (x := toP N (pt.take j) k + tn N k b) (by rw [hZl]; omega)
      refine ⟨hlt, hm.key k b hk hb, hm.nod, hm.look hk hb ?_⟩;simp only [Nat.mul_one, hs1, hset, c51r15, c51l16m, hZl, List.length_map, go_sem, ↓reduceIte, reduceCtorEq, Nat.reduceAdd, Nat.reduceLeDiff, true_implies];exact ⟨hin1, hlt, by omega, inR_small (by omega) (by omega), hI2 (pt.length - (j + 1)) _ (by omega) ⟨j + 1, rfl, by omega, by rw [hts]; rfl⟩⟩
     ·have hje : j = pt.length := by omega
      subst hje;rw [List.take_length];simp only [c51r17, c51l18m, go_sem, ↓reduceIte, reduceCtorEq, Nat.reduceLeDiff, true_implies];exact ⟨inR_small (by omega) (by omega), hI (st.length - (i + 1)) _ (by omega) ⟨i + 1, rfl, by omega, by rw [<- hrow, hA']; rfl⟩⟩
   ·have hie : i = st.length := by omega
    subst hie;rw [List.take_length, Nat.sub_self, List.replicate_zero, List.append_nil]
    have hsl2 : sliceOf 0 st.length 1 ((st.map (toP N pt)).map (SV.int .i64)) = some (ints (st.map (toP N pt))) := by
     have := slice_ints (l := st.map (toP N pt));rw [List.length_map] at this;exact this
    have h81 := hk81 (st.map (toP N pt)) (by simp) (fun x hx => by
     obtain ⟨i, _, rfl⟩ := List.mem_map.1 hx;have := toP_le h.toOkN (pt := pt) (by omega) i
     omega)
    have hsla := hsl a hal
    have hga : (solL s N st (st.map (toP N pt)))[a]? = some (solK s N st (st.map (toP N pt)) a) := by
     unfold solL;rw [List.getElem?_map, List.getElem?_range hal]; rfl
    have hk71 := k59 (n := solK s N st (st.map (toP N pt)) a) (d := detS s N st) (by omega) hd0 (by omega)
    have hrt : rowOf 0 st.length 1 ((st.map (toP N pt)).map (SV.int .i64)) = some ((st.map (toP N pt)).map (.int .i64)) := by
     rw [rowOf_take (by simp), List.take_of_length_le (by simp)]
    simp only [c51r19, go_sem];refine ⟨_, hrt, ?_⟩;refine callK_of (by simp only [ints, benchC, bnV, go_sem]) h81 (.inr (.inl (by simp only [ints, benchC, bnV, go_sem]))) ?_
    simp only [c51r20, ints, hga, go_sem, Nat.reduceAdd, true_implies];refine callK_of (by simp only [go_sem]) hk71 (.inl rfl) ?_
    simp only [spl_two, frz_two', rat, go_sem, Nat.reduceAdd, true_implies]
    done
def landsR (s : Int) (N : List (List Int)) (p : List Int) (state part : Int) : List SV :=
 if chkM s N p = 0 then (if (0 <= state /\ state < N.length) /\ 0 <= part /\ part < (parts N).length then [rat (landsQ s N state (((parts N)[part.toNat]?).getD [])), .int .i64 0] else [rat (0, 0), .int .i64 2]) else [rat (0, 0), .int .i64 (chkM s N p)]
theorem within_one {lo hi x : Int} : withinB lo hi [x] = decide (lo <= x /\ x <= hi) := by
 rw [Bool.eq_iff_iff, within_iff, decide_eq_true_eq];simp
theorem k13 {s : Int} {N : List (List Int)} {p : List Int} {state part : Int} : E.Fn Tryz.prog 13 [mc s N p, .int .i64 state, .int .i64 part] (landsR s N p state part) := by
 refine fn_of_row okf13 ?_;have h48 := k49 (s := s) (N := N) (p := p);unfold landsR;unfold openR at h48;simp only [FRow.start, f13, c13r0, c13r1, mc, SV.cells, List.length_cons, List.length_nil, go_sem, Nat.reduceAdd, Nat.reduceSub, true_implies]
 by_cases h0 : chkM s N p = 0
 ·rw [if_pos h0] at h48
  rw [if_pos h0];have h := chkM_zero.1 h0;have hn4 := h.n4;have hps := parts_len (N := N);refine callK_of rfl h48 (.inr (.inl rfl)) ?_
  have hin1 : inR .i64 ((N.length : Int) - 1) := inR_i64 (by omega) (by omega)
  have hin2 : inR .i64 (((parts N).length : Int) - 1) := inR_i64 (by omega) (by omega)
  have hw1 := within_one (lo := 0) (hi := (N.length : Int) - 1) (x := state);have hw2 := within_one (lo := 0) (hi := ((parts N).length : Int) - 1) (x := part);simp only [c13r2, c13r4, intss, go_sem, Nat.reduceAdd, Nat.reduceLeDiff, Nat.reduceMul, true_implies];refine ⟨hin1, by decide, by decide, rfl, one_int, ?_⟩
  refine callK_of (by simp only [ints, List.map_cons, List.map_nil, go_sem]) (k50 (lo := 0) (hi := (N.length : Int) - 1) (l := [state])) (.inl rfl) ?_
  by_cases h1 : 0 <= state /\ state < N.length
  ·rw [decide_eq_true (by omega)] at hw1
   simp only [hw1, benchC, bnV, intss, go_sem, Nat.reduceAdd, Nat.reduceLeDiff, Nat.reduceMul];refine ⟨hin2, by decide, by decide, rfl, one_int, ?_⟩
   refine callK_of (by simp only [ints, List.map_cons, List.map_nil, go_sem]) (k50 (lo := 0) (hi := ((parts N).length : Int) - 1) (l := [part])) (.inl rfl) ?_
   by_cases h2 : 0 <= part /\ part < (parts N).length
   ·rw [decide_eq_true (by omega)] at hw2
    rw [if_pos ⟨h1, h2⟩];obtain ⟨m, rfl⟩ : ∃ m : Nat, part = m := ⟨part.toNat, by omega⟩
    have hpt : (parts N)[m]? = some (parts N)[m] := List.getElem?_eq_getElem (by omega)
    have h62 := k51 (state := state) h hpt (fun _ hk => open_pos h hk)
    have e : ((parts N)[(m : Int).toNat]?).getD [] = (parts N)[m] := by rw [Int.toNat_natCast, hpt]; rfl
    rw [e];simp only [hw2, c13r6, go_sem];intro _;refine callK_of (by simp only [benchC, bnV, intss, ints, go_sem]) h62 (.inl rfl) ?_
    simp only [rat, spl_two, frz_two', go_sem, Nat.reduceAdd, true_implies]
    done
   ·rw [decide_eq_false (by omega)] at hw2
    rw [if_neg fun h => h2 h.2]
    simp only [hw2, c13r5, rat, spl_two, frz_two', go_sem, Nat.reduceAdd, true_implies]
    done
  ·rw [decide_eq_false (by omega)] at hw1
   rw [if_neg fun h => h1 h.1]
   simp only [hw1, c13r5, rat, spl_two, frz_two', go_sem, Nat.reduceAdd, true_implies]
   done
 ·rw [if_neg h0] at h48
  rw [if_neg h0];refine callK_of rfl h48 (.inr (.inl rfl)) ?_
  simp only [h0, c13r2, c13r3, rat, spl_two, frz_two', go_sem, Nat.reduceAdd, true_implies]
def prV (d g : Int) (hs : List Int) : SV := .agg [.int .i64 d, .int .i64 g, ints hs]
def ovT (s : Int) (N : List (List Int)) (p : List Int) (d g : Int) (hs : List Int) (i j : Nat) : Int :=
 s * (p[i]?.getD 0 * d - g - hs[i]?.getD 0) + ((List.range j).map fun k => tn N i k * hs[k]?.getD 0).sum
def ovN (s : Int) (N : List (List Int)) (p : List Int) (d g : Int) (hs : List Int) (i : Nat) : Int := ovT s N p d g hs i N.length
structure PrOk (d g : Int) (hs : List Int) : Prop where
  d1 : 1 <= d
  d2 : d <= 2 ^ 40
  g1 : -2 ^ 50 <= g /\ g <= 2 ^ 50
  h1 : ∀ x ∈ hs, -2 ^ 50 <= x /\ x <= 2 ^ 50
section
variable {s : Int} {N : List (List Int)} {p : List Int} {d g : Int} {hs : List Int}
theorem PrOk.get (h : PrOk d g hs) (i : Nat) : (hs[i]?.getD 0).natAbs <= 2 ^ 50 := by
 cases hx : hs[i]? with
 | none => simp
 | some x => have := h.h1 x (List.mem_of_getElem? hx); simp only [Option.getD_some]; omega
theorem ovT_succ {i j : Nat} : ovT s N p d g hs i (j + 1) = ovT s N p d g hs i j + tn N i j * hs[j]?.getD 0 := by
 unfold ovT;rw [List.range_succ, List.map_append, List.sum_append];simp only [List.map_cons, List.map_nil, List.sum_cons, List.sum_nil];omega
theorem payd_le (h : OkP s N p) (q : PrOk d g hs) (i : Nat) : (p[i]?.getD 0 * d).natAbs <= 1000 * 2 ^ 40 := by
 rw [Int.natAbs_mul];have h1 := pay_le h i;have h2 := q.d1;have h3 := q.d2;exact Nat.mul_le_mul (by omega) (by omega)
theorem tnh_le (h : OkP s N p) (q : PrOk d g hs) (i j : Nat) : (tn N i j * hs[j]?.getD 0).natAbs <= 20 * 2 ^ 50 := by
 rw [Int.natAbs_mul];have h1 := h.tn i j;have h2 := h.s20;exact Nat.mul_le_mul (by omega) (q.get j)
theorem sp_le (h : OkP s N p) {x : Int} {B : Nat} (hx : x.natAbs <= B) : (s * x).natAbs <= 20 * B := by
 rw [Int.natAbs_mul];have h1 := h.s1;have h2 := h.s20;exact Nat.mul_le_mul (by omega) hx
theorem ovT_le (h : OkP s N p) (q : PrOk d g hs) {i j : Nat} (hj : j <= 4) : (ovT s N p d g hs i j).natAbs <= 2 ^ 58 := by
 unfold ovT;have h1 := payd_le h q i;have h2 := q.get i;have h3 := q.g1;have h4 := sp_le h (x := p[i]?.getD 0 * d - g - hs[i]?.getD 0) (B := 2 ^ 52) (by omega)
 have h5 := sum_abs (l := (List.range j).map fun k => tn N i k * hs[k]?.getD 0) (B := 20 * 2 ^ 50) (fun x hx => by
  obtain ⟨k, _, rfl⟩ := List.mem_map.1 hx;exact tnh_le h q i k)
 rw [List.length_map, List.length_range] at h5;have h6 := Nat.le_trans h5 (Nat.mul_le_mul_right _ hj);omega
end
theorem k79 {s : Int} {N : List (List Int)} {p : List Int} {d g : Int} {hs : List Int} : E.Fn Tryz.prog 79 [benchC s N p, prV d g hs] [.fn 104 [] [.ptr [benchC s N p], .ptr [.int .i64 d, .int .i64 g, ints hs]]] := by
 refine fn_of_row okf79 ?_;simp only [FRow.start, f79, c79r0, c79r1, prV, SV.cells, benchC, bnV, go_sem, Nat.reduceAdd, Nat.reduceSub, true_implies]
 done
set_option maxHeartbeats 1000000 in
theorem k104 {s : Int} {N : List (List Int)} {p : List Int} {d g : Int} {hs : List Int} (h : OkM s N p) (q : PrOk d g hs) (hl : hs.length = N.length) {i : Nat} (hi : i < N.length) :
  E.Fn Tryz.prog 104 [.int .i64 i, .ptr [benchC s N p], .ptr [.int .i64 d, .int .i64 g, ints hs]] [.int .i64 (ovN s N p d g hs i)] := by
 refine fn_of_row okf104 ?_;have hn4 := h.n4;have hm := map_turns h.sq;obtain ⟨y, hy⟩ : ∃ y, p[i]? = some y := ⟨_, List.getElem?_eq_getElem (by rw [h.pl]; exact hi)⟩
 obtain ⟨z, hz⟩ : ∃ z, hs[i]? = some z := ⟨_, List.getElem?_eq_getElem (by omega)⟩
 have b1 := payd_le h.toOkP q i;have b2 := q.get i;have b3 := q.g1;have b4 := sp_le h.toOkP (x := p[i]?.getD 0 * d - g - hs[i]?.getD 0) (B := 2 ^ 52) (by omega)
 have h0 : ovT s N p d g hs i 0 = s * (y * d - g - z) := by unfold ovT; rw [hy, hz]; simp
 rw [hy, Option.getD_some] at b1 b4;rw [hz, Option.getD_some] at b2 b4;simp only [FRow.start, f104, c104r0, c104r1, benchC, bnV, ints, hy, hz, go_sem, Nat.reduceAdd, Nat.reduceSub, Nat.reduceLeDiff, true_implies];refine ⟨inR_abs (by omega), inR_abs (by omega), inR_abs (by omega), inR_abs (by omega), ?_⟩
 simp only [c104r2, go_sem, Nat.reduceAdd, Nat.reduceLeDiff];intro _;rw [<- h0]
 refine loop_rule (fun m τ => ∃ j : Nat, m = hs.length - j /\ j <= hs.length /\
  τ = ⟨((aI i)::(.s (.ptr [benchC s N p]))::aN::aN::aN::(aI (ovT s N p d g hs i j))::aN::aN::aN::aN::aN::aN::aN::aN::aN::aN::aN::aN::aN::aN::aN::aN::aN::aN::aN::aN::aN::aN::aN::aN::aN::aN::aN::aN::aN::(.s (ints hs))::(aI hs.length)::(aI j)::aN::aN::aZ16), []⟩) hs.length rfl ?_ ?_
 ·simp only [c104l7m, go_sem]
  exact ⟨0, rfl, Nat.zero_le _, rfl⟩
 ·rintro I m τ ⟨j, rfl, hj, rfl⟩ hI
  simp only [c104l7, c104r3, go_sem, ↓reduceIte, true_implies];refine ⟨fun hlt => ?_, fun hge => ?_⟩
  ·have hlt : j < hs.length := by omega
   have hx : hs[j]? = some hs[j] := List.getElem?_eq_getElem hlt;have c1 := tnh_le h.toOkP q i j;have c2 := ovT_le h.toOkP q (i := i) (j := j + 1) (by omega)
   have c3 := ovT_succ (s := s) (N := N) (p := p) (d := d) (g := g) (hs := hs) (i := i) (j := j);rw [hx, Option.getD_some] at c1 c3;generalize hs[j] = x at hx c1 c3;simp only [c104r4, ints, hx, c104r5, benchC, bnV, go_sem, ↓reduceIte, Nat.reduceAdd, Nat.reduceLeDiff, true_implies];refine ⟨hm.key i j hi (by omega), hm.nod, hm.look hi (by omega) ?_⟩
   simp only [go_sem, true_implies];refine ⟨inR_abs (by omega), inR_abs (by omega), ?_⟩
   simp only [c104r6, c104l7m, go_sem, true_implies];exact ⟨inR_small (by omega) (by omega), hI (hs.length - (j + 1)) _ (by omega) ⟨j + 1, rfl, by omega, by rw [c3]; rfl⟩⟩
  ·have hje : j = hs.length := by omega
   subst hje;simp only [c104r8, go_sem, true_implies];unfold ovN;rw [<- hl]
def kd (m l : Bool) : Int := (if m then 1 else 0) + (if l then 2 else 0)
theorem kd_most {m l : Bool} : bitOf .i64 (kd m l) 1 .andNot = kd false l := by cases m <;> cases l <;> decide
theorem kd_least {m l : Bool} : bitOf .i64 (kd m l) 2 .andNot = kd m false := by cases m <;> cases l <;> decide
def mostB (s : Int) (N : List (List Int)) (p : List Int) (d g : Int) (hs : List Int) (i : Nat) : Bool := (List.range i).all fun k => decide (ovN s N p d g hs k <= 0)
def leastB (s : Int) (N : List (List Int)) (p : List Int) (d g : Int) (hs : List Int) (i : Nat) : Bool := (List.range i).all fun k => decide (0 <= ovN s N p d g hs k)
def prB (d g : Int) (hs : List Int) : Bool := withinB 1 1099511627776 [d] && withinB (-1125899906842624) 1125899906842624 [g] && withinB (-1125899906842624) 1125899906842624 hs
theorem prB_iff {d g : Int} {hs : List Int} : prB d g hs = true ↔ PrOk d g hs := by
 unfold prB;rw [Bool.and_eq_true, Bool.and_eq_true, within_iff, within_iff, within_iff];constructor
 ·rintro ⟨⟨h1, h2⟩, h3⟩
  have h1 := h1 d (by simp)
  have h2 := h2 g (by simp)
  exact ⟨h1.1, h1.2, h2, h3⟩
 ·intro h
  refine ⟨⟨?_, ?_⟩, h.h1⟩
  ·intro x hx
   rw [List.mem_singleton.1 hx];exact ⟨h.d1, h.d2⟩
  ·intro x hx
   rw [List.mem_singleton.1 hx];exact h.g1
def ckP (s : Int) (N : List (List Int)) (p : List Int) (d g : Int) (hs : List Int) : Int × Int :=
 if chkM s N p = 0 then (if (hs.length : Int) = N.length then (if prB d g hs = true then (if kd (mostB s N p d g hs N.length) (leastB s N p d g hs N.length) = 0 then (0, 14) else (kd (mostB s N p d g hs N.length) (leastB s N p d g hs N.length), 0)) else (0, 3)) else (0, 15)) else (0, chkM s N p)
def ckPR (q : Int × Int) : List SV := [.int .i64 q.1, .int .i64 q.2]
theorem most_succ {s : Int} {N : List (List Int)} {p : List Int} {d g : Int} {hs : List Int} {i : Nat} : mostB s N p d g hs (i + 1) = (mostB s N p d g hs i && decide (ovN s N p d g hs i <= 0)) := by
 unfold mostB; rw [List.range_succ, List.all_append]; simp
theorem least_succ {s : Int} {N : List (List Int)} {p : List Int} {d g : Int} {hs : List Int} {i : Nat} : leastB s N p d g hs (i + 1) = (leastB s N p d g hs i && decide (0 <= ovN s N p d g hs i)) := by
 unfold leastB; rw [List.range_succ, List.all_append]; simp
set_option maxHeartbeats 1000000 in
theorem k29 {s : Int} {N : List (List Int)} {p : List Int} {d g : Int} {hs : List Int} : E.Fn Tryz.prog 29 [mc s N p, prV d g hs] (ckPR (ckP s N p d g hs)) := by
 refine fn_of_row okf29 ?_;have h48 := k49 (s := s) (N := N) (p := p);unfold ckPR ckP;unfold openR at h48;simp only [FRow.start, f29, c29r0, c29r1, mc, prV, SV.cells, List.length_cons, List.length_nil, go_sem, Nat.reduceAdd, Nat.reduceSub, true_implies]
 by_cases h0 : chkM s N p = 0
 ·rw [if_pos h0] at h48
  rw [if_pos h0];have h := chkM_zero.1 h0;have hn4 := h.n4;refine callK_of rfl h48 (.inr (.inl rfl)) ?_
  simp only [c29r2, c29r4, ints, intss, go_sem, Nat.reduceAdd, Nat.reduceLeDiff, true_implies];intro _
  by_cases h1 : (hs.length : Int) = N.length
  ·rw [if_pos h1]
   simp only [h1, c29r6, go_sem, Nat.reduceAdd, Nat.reduceLeDiff, Nat.reduceMul, Int.reduceNeg, not_true_eq_false, false_implies, true_implies];refine ⟨by decide, by decide, rfl, one_int, ?_⟩
   refine callK_of (by simp only [ints, List.map_cons, List.map_nil, go_sem]) (k50 (lo := 1) (hi := 1099511627776) (l := [d])) (.inl rfl) ?_
   unfold prB
   cases hw1 : withinB 1 1099511627776 [d] with
   | false =>
    simp only [c29r7, go_sem, Int.reduceNeg, true_implies];simp
   | true =>
    simp only [go_sem, Nat.reduceAdd, Nat.reduceLeDiff, Nat.reduceMul, Int.reduceNeg];refine ⟨by decide, by decide, rfl, one_int, ?_⟩
    refine callK_of (by simp only [ints, List.map_cons, List.map_nil, go_sem, Int.reduceNeg]) (k50 (lo := -1125899906842624) (hi := 1125899906842624) (l := [g])) (.inl rfl) ?_
    cases hw2 : withinB (-1125899906842624) 1125899906842624 [g] with
    | false =>
     simp only [c29r7, go_sem, Int.reduceNeg, true_implies];simp
    | true =>
     simp only [go_sem, Nat.reduceAdd, Nat.reduceLeDiff, Int.reduceNeg];refine callK_of (by simp only [ints, go_sem, Int.reduceNeg]) (k50 (lo := -1125899906842624) (hi := 1125899906842624) (l := hs)) (.inl rfl) ?_
     cases hw3 : withinB (-1125899906842624) 1125899906842624 hs with
     | false =>
      simp only [c29r7, go_sem, true_implies];simp
     | true =>
      have q : PrOk d g hs := prB_iff.1 (by unfold prB; rw [hw1, hw2, hw3]; rfl)
      have hl : hs.length = N.length := by omega
      have h79 : ∀ i : Nat, i < N.length -> E.Fn Tryz.prog 104 [.int .i64 i, .ptr [benchC s N p], .ptr [.int .i64 d, .int .i64 g, ints hs]] [.int .i64 (ovN s N p d g hs i)] := fun i hi => k104 h q hl hi
      simp only [c29r8, c29r9, List.length_cons, List.length_nil, go_sem, ↓reduceIte, Nat.reduceAdd, true_implies];refine callK_of (by simp only [prV, benchC, bnV, intss, ints, go_sem]) (k79 (s := s) (N := N) (p := p) (d := d) (g := g) (hs := hs)) (.inr (.inl (by simp only [prV, benchC, bnV, intss, ints, go_sem]))) ?_
      simp only [c29r10, go_sem, Nat.reduceAdd, Nat.reduceLeDiff, true_implies];intro _
      refine loop_rule (fun m τ => ∃ i : Nat, m = N.length - i /\ i <= N.length /\
       τ = ⟨[.any, .any, .any, .any, .any, .any, .any, .any, aI (kd (mostB s N p d g hs i) (leastB s N p d g hs i)), .s (.fn 104 [] [.ptr [benchC s N p], .ptr [.int .i64 d, .int .i64 g, ints hs]]), .any, .any, .any, .any, .any, .any, .any, .any, .any, .any, .any, .any, .any, .any, .any, .any, .any, .any, .any, .any, .any, .any, .any, .any, .any, .any, .any, .any, .any, .any, .any, .any, .any, .any, .any, .any, .any, .any, .any, .any, .any, .any, .any, aI N.length, aI i, .any, .any, .any, .any, .any, .any, .any, .any, .any, .any, .any, .any, .any, .any, .any, .any, .any, .any, .any], []⟩) N.length rfl ?_ ?_
      ·simp only [c29l19m, go_sem]
       exact ⟨0, rfl, Nat.zero_le _, rfl⟩
      ·rintro I m τ ⟨i, rfl, hi, rfl⟩ hI
       simp only [c29l19, c29r11, go_sem, ↓reduceIte, true_implies];refine ⟨fun hlt => ?_, fun hge => ?_⟩
       ·have hlt : i < N.length := by omega
        have e1 := most_succ (s := s) (N := N) (p := p) (d := d) (g := g) (hs := hs) (i := i);have e2 := least_succ (s := s) (N := N) (p := p) (d := d) (g := g) (hs := hs) (i := i);have hk := h79 i hlt;generalize ovN s N p d g hs i = v at hk e1 e2;generalize mostB s N p d g hs i = bm at e1;generalize leastB s N p d g hs i = bl at e2;simp only [c29r12, c29r13, go_sem, true_implies];refine ⟨by kernel_rfl, ?_⟩
        refine callK_of (by simp only [go_sem]) hk (.inl rfl) ?_
        have fin : ∀ kv : Int, kv = kd (bm && decide (v <= 0)) (bl && decide (0 <= v)) -> I ⟨[.any, .any, .any, .any, .any, .any, .any, .any, aI kv, .s (.fn 104 [] [.ptr [benchC s N p], .ptr [.int .i64 d, .int .i64 g, ints hs]]), .any, .any, .any, .any, .any, .any, .any, .any, .any, .any, .any, .any, .any, .any, .any, .any, .any, .any, .any, .any, .any, .any, .any, .any, .any, .any, .any, .any, .any, .any, .any, .any, .any, .any, .any, .any, .any, .any, .any, .any, .any, .any, .any, aI N.length, aI (i + 1), .any, .any, .any, .any, .any, .any, .any, .any, .any, .any, .any, .any, .any, .any, .any, .any, .any, .any, .any], []⟩ := fun kv hk => hI (N.length - (i + 1)) _ (by omega) ⟨i + 1, rfl, by omega, by rw [e1, e2, hk]; rfl⟩
        simp only [c29r14, go_sem, true_implies];refine ⟨fun hv => ?_, fun hv => ?_⟩
        ·rw [decide_eq_false (by omega), decide_eq_true (by omega), Bool.and_false, Bool.and_true] at fin
         simp only [c29r15, kd_most, c29r18, c29l19m, go_sem, true_implies];exact ⟨inR_small (by omega) (by omega), fin _ rfl⟩
        ·rw [decide_eq_true (by omega), Bool.and_true] at fin
         simp only [c29r16, go_sem, true_implies];refine ⟨fun hv2 => ?_, fun hv2 => ?_⟩
         ·rw [decide_eq_false (by omega), Bool.and_false] at fin
          simp only [c29r17, kd_least, c29r18, c29l19m, go_sem, true_implies];exact ⟨inR_small (by omega) (by omega), fin _ rfl⟩
         ·rw [decide_eq_true (by omega), Bool.and_true] at fin
          simp only [c29r18, c29l19m, go_sem, true_implies];exact ⟨inR_small (by omega) (by omega), fin _ rfl⟩
       ·have hie : i = N.length := by omega
        subst hie;simp only [c29r20, go_sem, true_implies];refine ⟨fun hk => ?_, fun hk => ?_⟩
        ·rw [if_pos hk]
         simp only [c29r21, go_sem, true_implies]
        ·rw [if_neg hk]
         simp only [c29r22, go_sem, true_implies]
  ·rw [if_neg h1]
   simp only [h1, c29r5, go_sem, false_implies, true_implies, not_false_eq_true]
   done
 ·rw [if_neg h0] at h48
  rw [if_neg h0];refine callK_of rfl h48 (.inr (.inl rfl)) ?_
  simp only [h0, c29r2, c29r3, go_sem, true_implies]
section
variable {s : Int} {N : List (List Int)} {p : List Int} {d g : Int} {hs : List Int}
def aT (s : Int) (N : List (List Int)) (p : List Int) (d : Int) (hs : List Int) (i j : Nat) : Int := s * p[i]?.getD 0 * d + ((List.range j).map fun k => tn N i k * hs[k]?.getD 0).sum
theorem aT_succ {i j : Nat} : aT s N p d hs i (j + 1) = aT s N p d hs i j + tn N i j * hs[j]?.getD 0 := by
 unfold aT;rw [List.range_succ, List.map_append, List.sum_append];simp only [List.map_cons, List.map_nil, List.sum_cons, List.sum_nil];omega
theorem aT_ov {i j : Nat} : aT s N p d hs i j - s * (g + hs[i]?.getD 0) = ovT s N p d g hs i j := by
 unfold aT ovT;generalize ((List.range j).map fun k => tn N i k * hs[k]?.getD 0).sum = x
 generalize p[i]?.getD 0 = y;generalize hs[i]?.getD 0 = z
 grind
end
theorem prB_false {d g : Int} {hs : List Int} (h : ¬ PrOk d g hs) : prB d g hs = false := by
 cases hb : prB d g hs with
 | false => rfl
 | true => exact absurd (prB_iff.1 hb) h
set_option maxHeartbeats 2000000 in
theorem k30 {s : Int} {N : List (List Int)} {p : List Int} {d g : Int} {hs : List Int} : E.Fn Tryz.prog 30 [mc s N p, prV d g hs] (ckPR (ckP s N p d g hs)) := by
 refine fn_of_row okf30 ?_;have h15 := k52 (s := s) (N := N) (p := p);unfold ckPR ckP;simp only [FRow.start, f30, c30r0, c30r1, mc, prV, SV.cells, List.length_cons, List.length_nil, go_sem, Nat.reduceAdd, Nat.reduceSub, true_implies];refine callK_of rfl h15 (.inl rfl) ?_
 by_cases h0 : chkM s N p = 0
 ·rw [if_pos h0]
  have h := chkM_zero.1 h0;have hn4 := h.n4;simp only [h0, c30r3, ints, intss, go_sem, Nat.reduceAdd, Nat.reduceLeDiff, true_implies];intro _
  by_cases h1 : (hs.length : Int) = N.length
  ·rw [if_pos h1]
   have hl : hs.length = N.length := by omega
   by_cases hd1 : d < 1
   ·rw [prB_false (fun q => absurd q.d1 (by omega))]
    simp only [h1, hd1, c30r5, c30r6, go_sem, ↓reduceIte, reduceCtorEq, Nat.reduceAdd, Nat.reduceLeDiff, Int.reduceNeg, not_true_eq_false, false_implies, true_implies]
    done
   ·by_cases hd2 : 1099511627776 < d
    ·rw [prB_false (fun q => absurd q.d2 (by omega))]
     simp only [h1, hd1, hd2, c30r5, c30r6, go_sem, ↓reduceIte, reduceCtorEq, Nat.reduceAdd, Nat.reduceLeDiff, Int.reduceNeg, not_true_eq_false, false_implies, true_implies]
     done
    ·by_cases hg1 : g < -1125899906842624
     ·rw [prB_false (fun q => absurd q.g1 (by omega))]
      simp only [h1, hd1, hd2, hg1, c30r5, c30r6, go_sem, ↓reduceIte, reduceCtorEq, Nat.reduceAdd, Nat.reduceLeDiff, Int.reduceNeg, not_true_eq_false, false_implies, true_implies]
      done
     ·by_cases hg2 : 1125899906842624 < g
      ·rw [prB_false (fun q => absurd q.g1 (by omega))]
       simp only [h1, hd1, hd2, hg1, hg2, c30r5, c30r6, go_sem, ↓reduceIte, reduceCtorEq, Nat.reduceAdd, Nat.reduceLeDiff, Int.reduceNeg, not_true_eq_false, false_implies, true_implies]
       done
      ·simp only [h1, hd1, hd2, hg1, hg2, c30r5, c30r7, go_sem, Nat.reduceAdd, Nat.reduceLeDiff, Int.reduceNeg, not_true_eq_false, false_implies, true_implies]
       refine loop_rule (fun m τ => ∃ i : Nat, m = hs.length - i /\ i <= hs.length /\ (∀ x ∈ hs.take i, -2 ^ 50 <= x /\ x <= 2 ^ 50) /\
        τ = ⟨(aN::aN::(.s (.ptr [.int .i64 s, intss N, ints p]))::(.s (.ptr [.int .i64 d, .int .i64 g, ints hs]))::aN::aN::(aI i)::aN::aN::aN::aN::aN::aN::aN::aZ120), []⟩) hs.length rfl ?_ ?_
       ·simp only [c30l12m, go_sem]
        exact ⟨0, rfl, Nat.zero_le _, by simp, rfl⟩
       ·rintro I m τ ⟨i, rfl, hi, hall, rfl⟩ hI
        simp only [c30l12, c30r8, ints, go_sem, ↓reduceIte, Nat.reduceAdd, Nat.reduceLeDiff];intro _;refine ⟨fun hlt => ?_, fun hge => ?_⟩
        ·have hlt : i < hs.length := by omega
         have hx : hs[i]? = some hs[i] := List.getElem?_eq_getElem hlt;generalize hs[i] = x at hx;simp only [c30r9, hx, go_sem, Nat.reduceAdd, Nat.reduceLeDiff, Int.reduceNeg, true_implies]
         by_cases hx1 : x < -1125899906842624
         ·rw [prB_false (fun q => absurd (q.h1 x (List.mem_of_getElem? hx)) (by omega))]
          simp only [hx1, c30r10, go_sem, ↓reduceIte, reduceCtorEq, Int.reduceNeg, not_true_eq_false, false_implies, true_implies]
          done
         ·by_cases hx2 : 1125899906842624 < x
          ·rw [prB_false (fun q => absurd (q.h1 x (List.mem_of_getElem? hx)) (by omega))]
           simp only [hx1, hx2, c30r10, go_sem, ↓reduceIte, reduceCtorEq, Int.reduceNeg, not_true_eq_false, false_implies, true_implies, not_false_eq_true]
           done
          ·simp only [hx1, hx2, c30r11, c30l12m, go_sem, Int.reduceNeg, false_implies, true_implies, not_false_eq_true]
           exact ⟨inR_small (by omega) (by omega), hI (hs.length - (i + 1)) _ (by omega) ⟨i + 1, rfl, by omega, all_snoc hx hall (by omega), rfl⟩⟩
        ·have hie : i = hs.length := by omega
         subst hie;rw [List.take_length] at hall;have q : PrOk d g hs := ⟨by omega, by omega, by omega, hall⟩
         rw [prB_iff.2 q, if_pos rfl];simp only [c30r13, c30r14, go_sem, true_implies]
         refine loop_rule (fun m τ => ∃ i : Nat, m = N.length - i /\ i <= N.length /\
          τ = ⟨(aN::aN::(.s (.ptr [.int .i64 s, intss N, ints p]))::(.s (.ptr [.int .i64 d, .int .i64 g, ints hs]))::aN::aN::aN::(.s (.bool (mostB s N p d g hs i)))::(.s (.bool (leastB s N p d g hs i)))::(aI i)::aN::aN::aN::aN::aZ120), []⟩) N.length rfl ?_ ?_
         ·simp only [c30l24m, go_sem]
          exact ⟨0, rfl, Nat.zero_le _, rfl⟩
         ·clear hI I
          rintro I m τ ⟨i, rfl, hi, rfl⟩ hI;simp only [c30l24, c30r15, intss, go_sem, ↓reduceIte, Nat.reduceAdd, Nat.reduceLeDiff];intro _;refine ⟨fun hlt => ?_, fun hge => ?_⟩
          ·have hi : i < N.length := by omega
           have hx : N[i]? = some N[i] := List.getElem?_eq_getElem hi;have hxl := h.sq _ (List.getElem_mem hi);have htn : ∀ k, tn N i k = (N[i][k]?).getD 0 := fun k => by unfold tn; rw [hx]; rfl
           generalize N[i] = l at hx hxl htn;obtain ⟨y, hy⟩ : ∃ y, p[i]? = some y := ⟨_, List.getElem?_eq_getElem (by rw [h.pl]; exact hi)⟩
           obtain ⟨z, hz⟩ : ∃ z, hs[i]? = some z := ⟨_, List.getElem?_eq_getElem (by omega)⟩
           have b0 := pay_le h.toOkP i;have b1 := payd_le h.toOkP q i;have b2 := q.get i;have b5 := sp_le h.toOkP (x := p[i]?.getD 0 * d) b1;have b6 := sp_le h.toOkP (x := g + hs[i]?.getD 0) (B := 2 ^ 51) (by omega)
           have b7 := sp_le h.toOkP (x := p[i]?.getD 0) (B := 1000) (by omega)
           rw [<- Int.mul_assoc] at b5;have ha0 : aT s N p d hs i 0 = s * y * d := by unfold aT; rw [hy]; simp
           have e1 := most_succ (s := s) (N := N) (p := p) (d := d) (g := g) (hs := hs) (i := i);have e2 := least_succ (s := s) (N := N) (p := p) (d := d) (g := g) (hs := hs) (i := i);have hao := fun j => aT_ov (s := s) (N := N) (p := p) (d := d) (g := g) (hs := hs) (i := i) (j := j)
           have hob := fun j (hj : j <= 4) => ovT_le h.toOkP q (i := i) hj
           rw [hz, Option.getD_some] at b2 b6 hao;rw [hy, Option.getD_some] at b5 b7;generalize mostB s N p d g hs i = bm at e1;generalize leastB s N p d g hs i = bl at e2;simp only [c30r16, ints, hy, hz, go_sem, Nat.reduceAdd, Nat.reduceLeDiff, true_implies];refine ⟨inR_abs (by omega), inR_abs (by omega), inR_abs (by omega), inR_abs (by omega), ?_⟩
           simp only [c30r17, go_sem, true_implies];rw [<- ha0]
           refine loop_rule (fun m τ => ∃ j : Nat, m = N.length - j /\ j <= N.length /\
            τ = ⟨(aN::aN::(.s (.ptr [.int .i64 s, intss N, ints p]))::(.s (.ptr [.int .i64 d, .int .i64 g, ints hs]))::aN::aN::aN::(.s (.bool bm))::(.s (.bool bl))::(aI i)::(aI (aT s N p d hs i j))::(aI (s * (g + z)))::(aI j)::aN::aZ120), []⟩) N.length rfl ?_ ?_
           ·simp only [c30l21m, go_sem]
            exact ⟨0, rfl, Nat.zero_le _, rfl⟩
           ·rintro I2 m τ ⟨j, rfl, hj, rfl⟩ hI2
            simp only [c30l21, c30r18, intss, go_sem, ↓reduceIte, Nat.reduceAdd, Nat.reduceLeDiff];intro _;refine ⟨fun hlt => ?_, fun hge => ?_⟩
            ·have hj : j < N.length := by omega
             obtain ⟨u, hu⟩ : ∃ u, l[j]? = some u := ⟨_, List.getElem?_eq_getElem (by omega)⟩
             obtain ⟨v, hv⟩ : ∃ v, hs[j]? = some v := ⟨_, List.getElem?_eq_getElem (by omega)⟩
             have c1 := tnh_le h.toOkP q i j;have c3 := aT_succ (s := s) (N := N) (p := p) (d := d) (hs := hs) (i := i) (j := j);have c4 := hao (j + 1);have c5 := hob (j + 1) (by omega)
             rw [htn, hu, hv] at c1 c3;simp only [Option.getD_some] at c1 c3;simp only [c30r19, hx, ints, hu, hv, go_sem, Nat.reduceAdd, Nat.reduceLeDiff, true_implies];refine ⟨inR_abs (by omega), inR_abs (by omega), ?_⟩
             simp only [c30r20, c30l21m, go_sem, true_implies];exact ⟨inR_small (by omega) (by omega), hI2 (N.length - (j + 1)) _ (by omega) ⟨j + 1, rfl, by omega, by rw [c3]; rfl⟩⟩
            ·have hje : j = N.length := by omega
             subst hje;have c4 := hao N.length;rw [show ovT s N p d g hs i N.length = ovN s N p d g hs i from rfl] at c4;have f1 : (aT s N p d hs i N.length <= s * (g + z)) ↔ ovN s N p d g hs i <= 0 := by omega
             have f2 : (s * (g + z) <= aT s N p d hs i N.length) ↔ 0 <= ovN s N p d g hs i := by omega
             have fin : I ⟨(aN::aN::(.s (.ptr [.int .i64 s, intss N, ints p]))::(.s (.ptr [.int .i64 d, .int .i64 g, ints hs]))::aN::aN::aN::(.s (.bool (bm && decide (ovN s N p d g hs i <= 0))))::(.s (.bool (bl && decide (0 <= ovN s N p d g hs i))))::(aI (i + 1))::aN::aN::aN::aN::aZ120), []⟩ := hI (N.length - (i + 1)) _ (by omega) ⟨i + 1, rfl, by omega, by rw [e1, e2]; rfl⟩
             have g1 : decide (aT s N p d hs i N.length <= s * (g + z)) = decide (ovN s N p d g hs i <= 0) := decide_eq_decide.2 f1;have g2 : decide (s * (g + z) <= aT s N p d hs i N.length) = decide (0 <= ovN s N p d g hs i) := decide_eq_decide.2 f2;clear hI hI2 hob hao;generalize ovN s N p d g hs i = v at *;generalize aT s N p d hs i N.length = av at *;generalize s * (g + z) = bv at *
             cases bm
             all_goals
              cases bl
              all_goals
               simp only [c30r22, go_sem, true_implies];simp only [g1, g2, c30r23, c30l24m, go_sem, true_implies];refine ⟨inR_small (by omega) (by omega), ?_⟩
               simp only [Bool.false_and, Bool.true_and] at fin;exact fin
          ·have hie : i = N.length := by omega
           subst hie;generalize mostB s N p d g hs N.length = bm;generalize leastB s N p d g hs N.length = bl
           cases bm
           all_goals
            cases bl
            all_goals
             simp only [c30r25, c30r26, c30r27, c30r28, c30r29, c30r30, c30r31, go_sem, true_implies]
             try rfl
  ·rw [if_neg h1]
   simp only [h1, c30r4, go_sem, false_implies, true_implies, not_false_eq_true]
   done
 ·rw [if_neg h0]
  simp only [h0, c30r2, List.length_cons, List.length_nil, go_sem, Nat.reduceAdd, true_implies];refine callK_of rfl h15 (.inl rfl) ?_
  simp only [go_sem, true_implies]
  done
theorem spl_three {a b c x y z : LV} : splice [a, b, c] 0 [x, y, z] = [x, y, z] := rfl
theorem rchC_head {g : Nat -> Nat -> Bool} {n c : Nat} (hc : isPC g n c = true) : ∃ l, rchC g n c = (c : Int) :: l := by
 obtain ⟨h1, h2⟩ := isPC_iff.1 hc;have hm := reach_iff.1 h1;unfold rchC;rw [rB_filter] at hm ⊢;have hp : ((List.range n).filter fun k => decide (k ∈ rB g n c n)).Pairwise (· < ·) := List.pairwise_lt_range.filter _
 cases hL : (List.range n).filter fun k => decide (k ∈ rB g n c n) with
 | nil => rw [hL] at hm; cases hm
 | cons x l =>
  rw [hL] at hm hp;have hx : x ∈ (List.range n).filter fun k => decide (k ∈ rB g n c n) := by rw [hL]; simp
  have hx2 := of_decide_eq_true (List.mem_filter.1 hx).2;have hle := (h2 x (reach_iff.2 hx2)).1
  have : x = c := by
   rcases List.mem_cons.1 hm with h | h
   ·exact h.symm
   ·have := (List.pairwise_cons.1 hp).1 c h
    omega
  exact ⟨l.map fun k : Nat => (k : Int), by rw [this]; rfl⟩
def putT (st : List Nat) (l : List Int) (R : List Int) (k : Nat) : List Int := (List.range k).foldl (fun R j => R.set (st[j]?.getD 0) (l[j]?.getD 0)) R
theorem putT_succ {st : List Nat} {l R : List Int} {k : Nat} : putT st l R (k + 1) = (putT st l R k).set (st[k]?.getD 0) (l[k]?.getD 0) := by
 unfold putT; rw [List.range_succ, List.foldl_append]; rfl
theorem putT_len {st : List Nat} {l R : List Int} : ∀ {k : Nat}, (putT st l R k).length = R.length
 | 0 => rfl
 | k + 1 => by rw [putT_succ, List.length_set, putT_len]
def colQ (s : Int) (N : List (List Int)) (p : List Int) (i : Nat) : Int := s * (p[i]?.getD 0 * (rootsN s N).sum - gainN s N p)
def prfH (s : Int) (N : List (List Int)) (p : List Int) (c : Nat) : List Int := putT (stO N.length c) (solL s N (stO N.length c) ((stO N.length c).map (colQ s N p))) (List.replicate N.length 0) (stO N.length c).length
def prfD (s : Int) (N : List (List Int)) (c : Nat) : Int := rootN s N c * (rootsN s N).sum
def prfG (s : Int) (N : List (List Int)) (p : List Int) (c : Nat) : Int := gainN s N p * rootN s N c
theorem stO_len {n c : Nat} : (stO n c).length <= n := by
 unfold stO; exact Nat.le_trans (List.length_filter_le _ _) (by simp)
theorem mul_le_nat {a b : Int} {A B : Nat} (ha : a.natAbs <= A) (hb : b.natAbs <= B) : (a * b).natAbs <= A * B := by
 rw [Int.natAbs_mul]; exact Nat.mul_le_mul ha hb
theorem pr_le {s : Int} {N : List (List Int)} {p : List Int} (h : OkM s N p) (i : Nat) : (p[i]?.getD 0 * (rootsN s N).sum).natAbs <= 1000 * 32000 := by
 have h1 := roots_32 h.s;have h2 := roots_nonneg h.s;have h3 := pay_le h.toOkP i;exact mul_le_nat (by omega) (by omega)
theorem colQ_le {s : Int} {N : List (List Int)} {p : List Int} (h : OkM s N p) (i : Nat) : (p[i]?.getD 0 * (rootsN s N).sum - gainN s N p).natAbs <= 32000000 /\ (colQ s N p i).natAbs <= 640000000 := by
 have h1 := roots_32 h.s;have h2 := roots_nonneg h.s;have h3 := pay_le h.toOkP i;have h4 := gain_le h;have h5 : 0 <= gainN s N p := gainT_nonneg h (Nat.le_refl _);have h6 := pr_le h i;have h7 : 0 <= p[i]?.getD 0 * (rootsN s N).sum := Int.mul_nonneg h3.1 h2;have h8 : (p[i]?.getD 0 * (rootsN s N).sum - gainN s N p).natAbs <= 32000000 := by omega
 have h9 := sp_le h.toOkP h8;exact ⟨h8, h9⟩
set_option maxHeartbeats 2000000 in
theorem k78 {s : Int} {N : List (List Int)} {p : List Int} {c : Nat} (h : OkM s N p) (hS : (parts N).length <= 1) (hc : firsts N = [c]) :
  E.Fn Tryz.prog 78 [benchC s N p] [prV (prfD s N c) (prfG s N p c) (prfH s N p c)] := by
 refine fn_of_row okf78 ?_;have hn4 := h.n4;have hk73 := k58 (p := p) h.toOkN;have hsp := roots_pos h hS;have hrl : (rootsN s N).length = N.length := by simp [rootsN]
 have hrt : ∀ i, i < N.length -> (rootsN s N)[i]? = some (rootN s N i) := fun i hi => by
  unfold rootsN; rw [List.getElem?_map, List.getElem?_range hi]; rfl
 have hk52 := k60 (l := rootsN s N) (by rw [hrl]; omega) (fun x hx => by
  obtain ⟨i, hi, rfl⟩ := mem_rootsN.1 hx;have h1 := root_nonneg h.s hi;have h2 := root_le h.toOkN (i := i);omega)
 have hcp : isPC (gr N) N.length c = true := mem_firsts.1 (by rw [hc]; simp)
 have hcn : c < N.length := (isPC_iff.1 hcp).1.lt;obtain ⟨tl, htl⟩ := rchC_head hcp;have hpt : (parts N)[0]? = some ((c : Int) :: tl) := by rw [parts_eq, hc, <- htl]; rfl
 have h32 := roots_32 h.s;have hroot := root_8 h.s hcn;have hroot0 := root_nonneg h.s hcn;have hgle := gain_le h;have hg0 : 0 <= gainN s N p := gainT_nonneg h (Nat.le_refl _);have hg34 : ∀ i, i <= 4 -> (gainT s N p i).natAbs <= 2 ^ 34 := fun i hi => gainT_le h.toOkP hi
 simp only [FRow.start, f78, c78r0, c78r1, go_sem, Nat.reduceSub, true_implies];refine callK_of (by simp only [ints, benchC, bnV, go_sem]) hk73 (.inr (.inl (by simp only [ints, benchC, bnV, go_sem]))) ?_
 simp only [c78r2, go_sem, true_implies];refine callK_of (by simp only [ints, go_sem]) hk52 (.inl rfl) ?_
 simp only [c78r3, c78r4, ints, hrl, go_sem, true_implies];intro _
 refine loop_rule (fun m τ => ∃ i : Nat, m = N.length - i /\ i <= N.length /\
  τ = ⟨((.s (benchC s N p))::aN::(.loc 0 0)::aN::(.s (.int .i64 (rootsN s N).sum))::(aI (gainT s N p i))::aN::aN::aN::aN::aN::aN::aN::aN::aN::aN::aN::aN::aN::aN::aN::(.s (ints (rootsN s N)))::(aI N.length)::(aI i)::aN::aN::aN::aN::aZ88), [.obj [aI 0, aI 0, .full []]]⟩) N.length rfl ?_ ?_
 ·simp only [c78l9m, go_sem, ↓reduceIte, reduceCtorEq, Nat.reduceLeDiff]
  exact ⟨0, rfl, Nat.zero_le _, rfl⟩
 ·rintro I m τ ⟨i, rfl, hi, rfl⟩ hI
  simp only [c78l9, c78r5, go_sem, ↓reduceIte, true_implies];refine ⟨fun hlt => ?_, fun hge => ?_⟩
  ·have hlt : i < N.length := by omega
   obtain ⟨y, hy⟩ : ∃ y, p[i]? = some y := ⟨_, List.getElem?_eq_getElem (by rw [h.pl]; exact hlt)⟩
   have hrb := root_le h.toOkN (i := i);have hpb := pay_le h.toOkP i;have hmb := mul_le_nat hrb (show (p[i]?.getD 0).natAbs <= 1000 by omega)
   have hs1 := hg34 (i + 1) (by omega)
   have hgs := gainT_succ (s := s) (N := N) (p := p) (i := i);rw [hy, Option.getD_some] at hmb hgs;simp only [c78r6, ints, hrt i hlt, c78r7, benchC, bnV, hy, go_sem, Nat.reduceAdd, Nat.reduceLeDiff, true_implies];refine ⟨inR_abs (by omega), inR_abs (by omega), ?_⟩
   simp only [c78r8, c78l9m, go_sem, ↓reduceIte, reduceCtorEq, Nat.reduceLeDiff, true_implies];exact ⟨inR_small (by omega) (by omega), hI (N.length - (i + 1)) _ (by omega) ⟨i + 1, rfl, by omega, by rw [hgs]; rfl⟩⟩
  ·have hie : i = N.length := by omega
   subst hie;rw [show gainT s N p N.length = gainN s N p from rfl]
   have hk80 : E.Fn Tryz.prog 88 [benchC s N p, ints [(c : Int)]] [ints (nats (stO N.length c))] := by
    rw [<- wout_one];exact k88 (by omega)
   have hk81 := fun col (h1 : col.length = (stO N.length c).length) (h2 : ∀ x ∈ col, x.natAbs <= 2 ^ 38) => k92 (p := p) h.toOkN (st := stO N.length c) (col := col) (fun _ => stO_lt) (by have := stO_len (n := N.length) (c := c); omega) h1 h2
   have hdr : detS s N (stO N.length c) = rootN s N c := by unfold rootN; rw [wout_one]
   rw [hdr] at hk81;have hol := stO_len (n := N.length) (c := c);have hoL : ∀ i ∈ stO N.length c, i < N.length := fun _ => stO_lt
   unfold prfH;have hnl : (nats (stO N.length c)).length = (stO N.length c).length := by simp [nats]
   generalize stO N.length c = st at *;simp only [c78r10, benchC, bnV, intss, hpt, ints, go_sem, ↓reduceIte, Nat.reduceAdd, Nat.reduceSub, Nat.reduceLeDiff, Int.reduceLE, Int.reduceToNat];refine callK_of (by simp only [benchC, bnV, ints, intss, List.map_cons, List.map_nil, go_sem]) hk80 (.inr (.inl (by simp only [benchC, bnV, ints, intss, List.map_cons, List.map_nil, go_sem]))) ?_
   simp only [c78r11, c78r12, ints, hnl, go_sem, true_implies];intro _
   refine loop_rule (fun m τ => ∃ i : Nat, m = st.length - i /\ i <= st.length /\
    τ = ⟨((.s (benchC s N p))::aN::(.loc 0 0)::aN::(.s (.int .i64 (rootsN s N).sum))::(aI (gainN s N p))::aN::aN::(.s (ints (nats st)))::(.sl 1 0 i 1 false)::aN::aN::aN::aN::aN::aN::aN::aN::aN::aN::aN::aN::aN::aN::aN::aN::aN::aN::aN::aN::aN::aN::aN::aN::aN::aN::aN::aN::aN::aN::aN::aN::aN::aN::aN::aN::aN::aN::aN::aN::(.s (ints (nats st)))::(aI st.length)::(aI i)::aN::aN::aN::aN::aN::aN::aN::aZ56), [.obj [aI 0, aI 0, .full []], .row (((st.take i).map (colQ s N p)).map (.int .i64))]⟩) st.length (promo_one rfl) ?_ ?_
   ·simp only [c78l17m, go_sem, ↓reduceIte, reduceCtorEq, Nat.reduceAdd, Nat.reduceLeDiff]
    exact ⟨0, rfl, Nat.zero_le _, rfl⟩
   ·clear hI I
    rintro I m τ ⟨i, rfl, hi, rfl⟩ hI;simp only [c78l17, c78r13, go_sem, ↓reduceIte, Nat.reduceAdd, true_implies];refine ⟨fun hlt => ?_, fun hge => ?_⟩
    ·have hlt : i < st.length := by omega
     have hx : st[i]? = some st[i] := List.getElem?_eq_getElem hlt;have hk := hoL _ (List.getElem_mem hlt);have hnx : (nats st)[i]? = some (st[i] : Int) := by unfold nats; rw [List.getElem?_map, hx]; rfl
     generalize st[i] = a at hx hk hnx;obtain ⟨y, hy⟩ : ∃ y, p[a]? = some y := ⟨_, List.getElem?_eq_getElem (by rw [h.pl]; exact hk)⟩
     obtain ⟨q1, q2⟩ := colQ_le h a;have q3 := pr_le h a;have hcq : colQ s N p a = s * (y * (rootsN s N).sum - gainN s N p) := by unfold colQ; rw [hy]; rfl
     rw [hy, Option.getD_some] at q1 q3;rw [hcq] at q2
     have e3 : ((st.take i).map (colQ s N p)).map (SV.int .i64) ++ flatE [SV.int .i64 (s * (y * (rootsN s N).sum - gainN s N p))] = ((st.take (i + 1)).map (colQ s N p)).map (.int .i64) := by
      rw [take_snoc hx, List.map_append, List.map_append, <- hcq]; rfl
     simp only [c78r14, ints, hnx, c78r15, benchC, bnV, hy, Nat.reduceBEq, Bool.false_eq_true, go_sem, ↓reduceIte, Nat.reduceAdd, Nat.reduceLeDiff, Nat.reduceMul, true_implies];refine ⟨inR_abs (by omega), inR_abs (by omega), inR_abs (by omega), ?_⟩
     refine ⟨by decide, by decide, rfl, one_int, one_int, by simp; omega, by omega, by omega, ?_⟩
     rw [e3];simp only [c78r16, c78l17m, go_sem, ↓reduceIte, reduceCtorEq, Nat.reduceLeDiff, true_implies];exact ⟨inR_small (by omega) (by omega), hI (st.length - (i + 1)) _ (by omega) ⟨i + 1, rfl, by omega, rfl⟩⟩
    ·have hie : i = st.length := by omega
     subst hie;rw [List.take_length]
     have hrow : rowOf 0 st.length 1 ((st.map (colQ s N p)).map (SV.int .i64)) = some ((st.map (colQ s N p)).map (.int .i64)) := by
      rw [rowOf_take (by simp), List.take_of_length_le (by simp)]
     have h81 := hk81 (st.map (colQ s N p)) (by simp) (fun x hx => by
      obtain ⟨i, _, rfl⟩ := List.mem_map.1 hx;have := (colQ_le h i).2;omega)
     have hsl : (solL s N st (st.map (colQ s N p))).length = st.length := by simp [solL]
     generalize solL s N st (st.map (colQ s N p)) = L at *;simp only [c78r18, go_sem];refine ⟨_, hrow, ?_⟩;refine callK_of (by simp only [ints, benchC, bnV, go_sem]) h81 (.inr (.inl (by simp only [ints, benchC, bnV, go_sem]))) ?_
     simp only [c78r19, benchC, bnV, intss, go_sem, ↓reduceIte, Nat.reduceAdd, Nat.reduceLT, Nat.reduceLeDiff, true_implies];have hD := mul_le_nat (show (rootN s N c).natAbs <= 8000 by omega) (show (rootsN s N).sum.natAbs <= 32000 by omega)
     have hG := mul_le_nat (show (gainN s N p).natAbs <= 32000000 by omega) (show (rootN s N c).natAbs <= 8000 by omega)
     refine ⟨inR_abs (by omega), inR_abs (by omega), by omega, by omega, fun _ => ?_⟩
     rw [rep_flat, spl_three];simp only [c78r20, ints, hnl, go_sem];intro _
     refine loop_rule (fun m τ => ∃ k : Nat, m = st.length - k /\ k <= st.length /\
      τ = ⟨(aN::aN::(.loc 0 0)::aN::aN::aN::aN::aN::aN::aN::aN::aN::(.s (ints L))::aN::(.loc 3 0)::aN::aN::aN::aN::aN::aN::aN::aN::aN::aN::aN::aN::aN::aN::aN::aN::aN::aN::aN::aN::aN::aN::aN::aN::aN::aN::aN::aN::aN::aN::aN::aN::aN::aN::aN::aN::aN::aN::aN::aN::aN::aN::aN::aN::aN::aN::aN::aN::aN::aN::aN::aN::aN::aN::aN::aN::aN::aN::aN::aN::aN::aN::aN::aN::aN::aN::aN::aN::aN::aN::aN::aN::aN::aN::aN::aN::aN::aN::aN::aN::aN::aN::aN::aN::(.s (ints (nats st)))::(aI st.length)::(aI k)::aN::aN::aN::aN::aN::aN::aZ8),
       [.obj [aI 0, aI 0, .full []], .frz ((st.map (colQ s N p)).map (.int .i64)), .row ((putT st L (List.replicate N.length 0) k).map (.int .i64)), .obj [aI (rootN s N c * (rootsN s N).sum), aI (gainN s N p * rootN s N c), .sl 2 0 N.length 1 true]]⟩) st.length rfl ?_ ?_
     ·simp only [c78l25m, go_sem, ↓reduceIte, reduceCtorEq, Nat.reduceAdd, Nat.reduceLeDiff]
      exact ⟨0, rfl, Nat.zero_le _, rfl⟩
     ·clear hI I
      rintro I m τ ⟨k, rfl, hk, rfl⟩ hI;simp only [c78l25, c78r21, go_sem, ↓reduceIte, Nat.reduceAdd, true_implies];refine ⟨fun hlt => ?_, fun hge => ?_⟩
      ·have hlt : k < st.length := by omega
       have hx : st[k]? = some st[k] := List.getElem?_eq_getElem hlt;have hka := hoL _ (List.getElem_mem hlt);have hnx : (nats st)[k]? = some (st[k] : Int) := by unfold nats; rw [List.getElem?_map, hx]; rfl
       obtain ⟨y, hy⟩ : ∃ y, L[k]? = some y := ⟨_, List.getElem?_eq_getElem (by omega)⟩
       have hput := putT_succ (st := st) (l := L) (R := List.replicate N.length 0) (k := k);have hpl := putT_len (st := st) (l := L) (R := List.replicate N.length 0) (k := k);rw [List.length_replicate] at hpl;rw [hx, hy] at hput;simp only [Option.getD_some] at hput;generalize st[k] = a at hx hka hnx hput;generalize putT st L (List.replicate N.length 0) k = R at *;have hs1 := spl_row (R := R) (i := a) (x := y) (by omega)
       simp only [c78r22, ints, hnx, c78r23, hy, Nat.mul_one, hs1, Nat.zero_add, go_sem, Nat.reduceAdd, true_implies];refine ⟨hka, by omega, ?_⟩
       simp only [c78r24, c78l25m, go_sem, ↓reduceIte, reduceCtorEq, Nat.reduceLeDiff, true_implies];exact ⟨inR_small (by omega) (by omega), hI (st.length - (k + 1)) _ (by omega) ⟨k + 1, rfl, by omega, by rw [hput]; rfl⟩⟩
      ·have hke : k = st.length := by omega
       subst hke;have hpl := putT_len (st := st) (l := L) (R := List.replicate N.length 0) (k := st.length);rw [List.length_replicate] at hpl;have hsl3 : sliceOf 0 N.length 1 ((putT st L (List.replicate N.length 0) st.length).map (SV.int .i64)) = some (ints (putT st L (List.replicate N.length 0) st.length)) := slice_all hpl.symm;generalize putT st L (List.replicate N.length 0) st.length = R at *;simp only [c78r26, spl_three, hsl3, List.take_succ_cons, List.take_zero, go_sem, Nat.reduceAdd, true_implies];rfl
def fst0 (N : List (List Int)) : Nat := (firsts N).headD 0
def proofR (s : Int) (N : List (List Int)) (p : List Int) : List SV :=
 if setE s N p = 0 then [prV (prfD s N (fst0 N)) (prfG s N p (fst0 N)) (prfH s N p (fst0 N)), .int .i64 0] else [prV 0 0 [], .int .i64 (setE s N p)]
theorem fst0_eq {s : Int} {N : List (List Int)} {p : List Int} (h : OkM s N p) (hS : (parts N).length <= 1) : firsts N = [fst0 N] := by
 obtain ⟨c, hc, _⟩ := settles_first h hS;unfold fst0;rw [hc]; rfl
theorem k28 {s : Int} {N : List (List Int)} {p : List Int} : E.Fn Tryz.prog 28 [mc s N p] (proofR s N p) := by
 refine fn_of_row okf28 ?_;have h56 := k57 (s := s) (N := N) (p := p);unfold proofR;unfold setR at h56;simp only [FRow.start, f28, c28r0, c28r1, mc, SV.cells, List.length_cons, List.length_nil, go_sem, Nat.reduceAdd, Nat.reduceSub, true_implies]
 by_cases h0 : setE s N p = 0
 ·rw [if_pos h0] at h56
  rw [if_pos h0];obtain ⟨h, hS⟩ := setE_zero h0;have h59 := k78 h hS (fst0_eq h hS);refine callK_of rfl h56 (.inr (.inl rfl)) ?_
  simp only [c28r2, c28r4, go_sem, true_implies];refine callK_of (by simp only [benchC, bnV, go_sem]) h59 (.inr (.inl (by simp only [benchC, bnV, go_sem]))) ?_
  simp only [prV, spl_three, SV.cells, go_sem, Nat.reduceAdd, true_implies]
  done
 ·rw [if_neg h0] at h56
  rw [if_neg h0];refine callK_of rfl h56 (.inr (.inl rfl)) ?_
  simp only [h0, c28r2, c28r3, prV, spl_three, go_sem, Nat.reduceAdd, true_implies];rfl
def entS (z : Ent) : SV × SV := (pr z.1, .int .i64 z.2)
theorem zip_kv {L : List Ent} : (kK L).zip (kV L) = L.map entS := by
 unfold kK kV;rw [List.map_map, List.zip_map', List.map_inj_left];intro z _;rfl
def natL (f : Nat -> Int) (n : Nat) : List Int := (List.range n).map f
theorem natL_get {f : Nat -> Int} {n i : Nat} (h : i < n) : (natL f n)[i]? = some (f i) := by
 unfold natL; rw [List.getElem?_map, List.getElem?_range h]; rfl
theorem natL_len {f : Nat -> Int} {n : Nat} : (natL f n).length = n := by simp [natL]
set_option maxHeartbeats 2000000 in
theorem k66 {s : Int} {N : List (List Int)} {p : List Int} {state plays : Nat} (h : OkM s N p) (hst : state < N.length) (hpl : plays <= 10) :
  E.Fn Tryz.prog 66 [benchC s N p, .int .i64 state, .int .i64 plays] [.int .i64 (fT s N p state plays)] := by
 refine fn_of_row okf66 ?_;have hn4 := h.n4
 have h0s : ((List.replicate N.length (0 : Int)).set state 1) = natL (wT N state 0) N.length := by
  apply List.ext_getElem?
  intro k;rw [List.getElem?_set, List.length_replicate, List.getElem?_replicate]
  by_cases hk : k < N.length
  ·rw [natL_get hk, wT]
   by_cases e : state = k
   ·rw [if_pos e, if_pos hst, if_pos e.symm]
   ·rw [if_neg e, if_pos hk, if_neg (fun e2 => e e2.symm)]
  ·rw [if_neg (by omega), if_neg hk]
   exact (List.getElem?_eq_none (by rw [natL_len]; omega)).symm
 have hs1 := spl_row (R := List.replicate N.length 0) (i := state) (x := 1) (by simpa using hst)
 simp only [FRow.start, f66, c66r0, c66r1, benchC, bnV, intss, go_sem, Nat.reduceAdd, Nat.reduceSub, Nat.reduceLT, Nat.reduceLeDiff, true_implies];refine ⟨by omega, by omega, fun _ => ?_⟩
 rw [rep_flat];simp only [c66r2, Nat.mul_one, hs1, h0s, go_sem, true_implies];refine ⟨hst, by simp; omega, ?_⟩
 simp only [c66r3, c66r4, go_sem, true_implies];have hpy := fun i => pay_le h.toOkP i
 have hp20 : ∀ t, t <= 10 -> (20 : Int) ^ t <= 20 ^ 10 := fun t ht => by
  have := Nat.pow_le_pow_right (show 0 < 20 by decide) ht
  have h2 : ((20 ^ t : Nat) : Int) <= ((20 ^ 10 : Nat) : Int) := by omega
  simpa using h2
 refine loop_rule (fun m τ => ∃ (t : Nat) (v : LV), m = plays - t /\ t <= plays /\ (v = .sl 0 0 N.length 1 true /\ t <= 1 \/ v = .s (ints (natL (wT N state (t - 1)) N.length)) /\ 1 <= t) /\
  τ = ⟨((.s (benchC s N p))::aN::aN::aN::aN::aN::aN::v::(aI (fT s N p state t))::aN::aN::aN::aN::aN::aN::aN::aN::aN::aN::aN::aN::aN::aN::aN::aN::(aI plays)::(aI t)::aN::aN::aN::aN::aN::aZ56), [.row ((natL (wT N state 0) N.length).map (.int .i64))]⟩) plays rfl ?_ ?_
 ·simp only [c66l23m, go_sem, ↓reduceIte, reduceCtorEq, Nat.reduceLeDiff]
  exact ⟨0, _, rfl, Nat.zero_le _, .inl ⟨rfl, by omega⟩, rfl⟩
 ·rintro I m τ ⟨t, v, rfl, ht, hv, rfl⟩ hI
  simp only [c66l23, c66r5, go_sem, ↓reduceIte, true_implies];refine ⟨fun hlt => ?_, fun hge => ?_⟩
  ·have hlt : t < plays := by omega
   have hpb := pow_bd h.toOkN (t := t);have hp20t := hp20 t (by omega)
   have hfb := fT_bd h hst (t := t);have hwn := wpT_le h hst (t := t) (Nat.le_refl _);have hfs : fT s N p state (t + 1) = fT s N p state t * s + wpT N p state t N.length := rfl;have hs20 := h.s20;have hs1' := h.s1;have hf0 : 0 <= fT s N p state t * s := Int.mul_nonneg hfb.1 (by omega)
   have hfle : fT s N p state t * s <= 1000 * (t + 1) * s ^ t := by
    have := wpT_nonneg h.toOkP (state := state) (t := t) (j := N.length);omega
   have hfle2 : (1000 * ((t : Int) + 1)) * s ^ t <= 11000 * 10240000000000 := Int.mul_le_mul (by omega) (by omega) (by omega) (by decide)
   simp only [c66r6, c66r7, go_sem, true_implies];refine ⟨fun htp => ?_, fun htz => ?_⟩
   ·have htp : 0 < t := by omega
    rcases hv with ⟨rfl, ht1⟩ | ⟨rfl, _⟩
    ·have ht1 : t = 0 + 1 := by omega
     simp only [c66r8, go_sem, Nat.reduceAdd, Nat.reduceLT];refine ⟨by omega, by omega,  ?_⟩
     rw [rep_flat];simp only [c66r9, benchC, bnV, zip_kv, go_sem, Nat.reduceAdd, Nat.reduceLeDiff, true_implies];intro _
     refine loop_rule (fun m τ => ∃ (left : List Ent) (R : List Int) (last : Option (SV × SV)), m = left.length /\ (∀ z ∈ left, z ∈ turnsL N) /\ R.length = N.length /\ (∀ k, k < N.length -> 0 <= R[k]?.getD 0 /\ R[k]?.getD 0 + (left.map (brg (wT N state 0) k)).sum = wT N state (0 + 1) k) /\
      τ = ⟨((.s (benchC s N p))::aN::aN::aN::aN::aN::aN::(.sl 0 0 N.length 1 true)::(aI (fT s N p state t))::aN::(.sl 1 0 N.length 1 true)::aN::aN::aN::aN::aN::aN::aN::aN::aN::aN::aN::aN::aN::aN::(aI plays)::(aI (t : Nat))::aN::aN::aN::aN::aN::aN::aN::aN::aN::aN::aN::(.loc 2 0)::aN::aZ48), [.row ((natL (wT N state 0) N.length).map (.int .i64)), .row (R.map (.int .i64)), .mit (left.map entS) last]⟩) (turnsL N).length rfl ?_ ?_
     ·simp only [c66l13m, go_sem, ↓reduceIte, reduceCtorEq, Nat.reduceAdd, Nat.reduceLeDiff]
      refine ⟨turnsL N, List.replicate N.length 0, none, rfl, fun _ h => h, by simp, fun k hk => ?_, rfl⟩
      rw [List.getElem?_replicate, if_pos hk, brg_all];exact ⟨by simp, by rw [wT]; simp⟩
     ·rintro I2 m τ ⟨left, R, last, rfl, hsub, hRl, hR, rfl⟩ hI2
      simp only [c66l13, c66r10, go_sem, ↓reduceIte, Nat.reduceAdd, true_implies];refine ⟨fun hnil => ?_, fun l1 e l2 hs => ?_⟩
      ·have hnil : left = [] := by simpa using hnil
       subst hnil
       have hRe : R = natL (wT N state t) N.length := by
        apply List.ext_getElem?
        intro k
        by_cases hk : k < N.length
        ·obtain ⟨x, hx⟩ : ∃ x, R[k]? = some x := ⟨_, List.getElem?_eq_getElem (by omega)⟩
         have := (hR k hk).2;rw [hx] at this ⊢;rw [natL_get hk];simp only [Option.getD_some, List.map_nil, List.sum_nil, Int.add_zero] at this;rw [this, ht1]
        ·rw [List.getElem?_eq_none (by omega), List.getElem?_eq_none (by rw [natL_len]; omega)]
       subst hRe
       have hrow : rowOf 0 N.length 1 ((natL (wT N state t) N.length).map (SV.int .i64)) = some ((natL (wT N state t) N.length).map (.int .i64)) := by
        rw [rowOf_take (by simp [natL_len]), List.take_of_length_le (by simp [natL_len])]
       simp only [c66r14, go_sem, Nat.reduceAdd, true_implies];refine ⟨_, hrow, ?_⟩;simp only [c66r15, benchC, bnV, go_sem, Nat.reduceAdd, Nat.reduceLeDiff, true_implies];refine ⟨inR_small hf0 (by omega), ?_⟩
       simp only [c66r16, ints, natL_len, go_sem];intro _
       refine loop_rule (fun m τ => ∃ j : Nat, m = N.length - j /\ j <= N.length /\
        τ = ⟨((.s (benchC s N p))::aN::aN::aN::aN::aN::aN::(.s (ints (natL (wT N state t) N.length)))::(aI (fT s N p state t * s + wpT N p state t j))::aN::aN::aN::aN::aN::aN::aN::aN::aN::aN::aN::aN::aN::aN::aN::aN::(aI plays)::(aI (t : Nat))::aN::aN::aN::aN::aN::aN::aN::aN::aN::aN::aN::aN::aN::aN::aN::aN::aN::aN::aN::aN::aN::aN::aN::aN::aN::aN::aN::aN::aN::aN::aN::aN::aN::aN::aN::aN::aN::aN::aN::(.s (ints (natL (wT N state t) N.length)))::(aI N.length)::(aI j)::aN::aN::aN::aZ16), [.row ((natL (wT N state 0) N.length).map (.int .i64)), .frz ((natL (wT N state t) N.length).map (.int .i64)), .mit [] last]⟩) N.length rfl ?_ ?_
       ·simp only [c66l21m, go_sem, Nat.reduceAdd]
        exact ⟨0, rfl, Nat.zero_le _, by simp [wpT]; exact ⟨rfl, rfl⟩⟩
       ·rintro I2 m τ ⟨j, rfl, hj, rfl⟩ hI2
        simp only [c66l21, c66r17, go_sem, ↓reduceIte, Nat.reduceAdd, true_implies];refine ⟨fun hlt => ?_, fun hge => ?_⟩
        ·have hj : j < N.length := by omega
         obtain ⟨y, hy⟩ : ∃ y, p[j]? = some y := ⟨_, List.getElem?_eq_getElem (by rw [h.pl]; exact hj)⟩
         have hg := natL_get (f := wT N state t) hj;have hws := wpT_succ (N := N) (p := p) (state := state) (t := t) (j := j);have hwl := wpT_le h hst (t := t) (j := j + 1) (by omega)
         have hw0 := wpT_nonneg h.toOkP (state := state) (t := t) (j := j);have hm0 := Int.mul_nonneg (wT_nonneg h.toOkN (state := state) (t := t) (k := j)) (pay_le h.toOkP j).1;rw [hy, Option.getD_some] at hws hm0;simp only [c66r18, ints, hg, c66r19, benchC, bnV, hy, go_sem, Nat.reduceAdd, Nat.reduceLeDiff, true_implies];refine ⟨inR_small hm0 (by omega), inR_small (by omega) (by omega), ?_⟩
         simp only [c66r20, c66l21m, go_sem, true_implies];exact ⟨inR_small (by omega) (by omega), hI2 (N.length - (j + 1)) _ (by omega) ⟨j + 1, rfl, by omega, by rw [hws, <- Int.add_assoc]; rfl⟩⟩
        ·have hje : j = N.length := by omega
         subst hje;simp only [c66r22, c66l23m, go_sem, true_implies];exact ⟨inR_small (by omega) (by omega), hI (plays - (t + 1)) _ (by omega) ⟨t + 1, .s (ints (natL (wT N state t) N.length)), rfl, by omega, .inr ⟨rfl, by omega⟩, rfl⟩⟩
      ·obtain ⟨L1, L3, rfl, h1, h3⟩ := List.map_eq_append_iff.1 hs
       obtain ⟨z, L2, rfl, h4, h5⟩ := List.map_eq_cons_iff.1 h3;subst h4;have hz := hsub z (by simp)
       obtain ⟨i, k, l, e1, e2, e3⟩ := mem_allE.1 (List.mem_filter.1 hz).1;have hin := (List.getElem?_eq_some_iff.1 e2).1
       have hkn : k < N.length := by
        have := (List.getElem?_eq_some_iff.1 e3).1;rw [h.sq l (List.mem_of_getElem? e2)] at this;exact this
       obtain ⟨⟨zi, zk⟩, zv⟩ := z;simp only [Prod.mk.injEq] at e1 e3;obtain ⟨rfl, rfl⟩ := e1;have hgw := natL_get (f := wT N state 0) hin;obtain ⟨x, hx⟩ : ∃ x, R[k]? = some x := ⟨_, List.getElem?_eq_getElem (by omega)⟩
       have hzv : zv = tn N i k := by unfold tn; rw [e2]; simp [e3]
       have hbz : brg (wT N state 0) k (((i : Int), (k : Int)), zv) = wT N state 0 i * zv := by unfold brg; simp
       have hnn : ∀ (L : List Ent) (q : Nat), (∀ z ∈ L, z ∈ turnsL N) -> 0 <= (L.map (brg (wT N state 0) q)).sum := fun L q hL => sum_nonneg fun y hy => by
        obtain ⟨z, hz, rfl⟩ := List.mem_map.1 hy;obtain ⟨a, b, l', f1, f2, f3⟩ := mem_allE.1 (List.mem_filter.1 (hL z hz)).1;unfold brg
        split
        ·exact Int.mul_nonneg (wT_nonneg h.toOkN) (h.ent l' (List.mem_of_getElem? f2) _ (List.mem_of_getElem? f3)).1
        ·exact Int.le_refl _
       have hsum : ∀ q, ((L1 ++ (((i : Int), (k : Int)), zv) :: L2).map (brg (wT N state 0) q)).sum = brg (wT N state 0) q (((i : Int), (k : Int)), zv) + ((L1 ++ L2).map (brg (wT N state 0) q)).sum := fun q => by
        simp only [List.map_append, List.map_cons, List.sum_append, List.sum_cons]; omega
       have hRk := hR k hkn;rw [hsum, hbz, hx, Option.getD_some] at hRk;have hrest := hnn (L1 ++ L2) k fun z hz => hsub z (by rcases List.mem_append.1 hz with h | h <;> simp [h])
       have hwl := wT_le h.s hst (t := 0 + 1) hkn;have hwp := hp20 (0 + 1) (by omega)
       have hm0 : 0 <= wT N state 0 i * zv := Int.mul_nonneg (wT_nonneg h.toOkN) (by rw [hzv]; exact h.nn i k)
       have hs3 := spl_row (R := R) (i := k) (x := x + wT N state 0 i * zv) (by omega)
       subst h1;subst h5;simp only [entS, pr, c66r11, SV.cells, spl_two, c66r12, Nat.mul_one, Int.toNat_natCast, hx, hgw, hs3, go_sem, Nat.reduceAdd, true_implies];refine ⟨hkn, hin, inR_small hm0 (by omega), inR_small (by omega) (by omega), hkn, by omega, ?_⟩
       simp only [c66l13m, go_sem, ↓reduceIte, reduceCtorEq, Nat.reduceLeDiff];refine hI2 (L1 ++ L2).length _ (by simp) ⟨L1 ++ L2, R.set k (x + wT N state 0 i * zv), some (.agg [.int .i64 i, .int .i64 k], .int .i64 zv), rfl, fun z hz => hsub z (by rcases List.mem_append.1 hz with h | h <;> simp [h]), by rw [List.length_set]; exact hRl, fun q hq => ?_, by rw [List.map_append]; try rfl⟩
       have hRq := hR q hq;rw [hsum] at hRq
       by_cases e : k = q
       ·subst e
        rw [List.getElem?_set_self (by omega), Option.getD_some]
        rw [hbz, hx, Option.getD_some] at hRq;omega
       ·rw [List.getElem?_set_ne e]
        have : brg (wT N state 0) q (((i : Int), (k : Int)), zv) = 0 := by unfold brg; rw [if_neg (by simp; omega)]
        omega
    ·obtain ⟨u, rfl⟩ : ∃ u, t = u + 1 := ⟨t - 1, by omega⟩
     rw [Nat.add_sub_cancel];simp only [c66r8, ints, natL_len, go_sem, Nat.reduceAdd, Nat.reduceLT];refine ⟨by omega, by omega, fun _ => ?_⟩
     rw [rep_flat];simp only [c66r9, benchC, bnV, zip_kv, go_sem, Nat.reduceAdd, Nat.reduceLeDiff, true_implies]
     refine loop_rule (fun m τ => ∃ (left : List Ent) (R : List Int) (last : Option (SV × SV)), m = left.length /\ (∀ z ∈ left, z ∈ turnsL N) /\ R.length = N.length /\ (∀ k, k < N.length -> 0 <= R[k]?.getD 0 /\ R[k]?.getD 0 + (left.map (brg (wT N state u) k)).sum = wT N state (u + 1) k) /\
      τ = ⟨((.s (benchC s N p))::aN::aN::aN::aN::aN::aN::(.s (ints (natL (wT N state u) N.length)))::(aI (fT s N p state (u + 1)))::aN::(.sl 1 0 N.length 1 true)::aN::aN::aN::aN::aN::aN::aN::aN::aN::aN::aN::aN::aN::aN::(aI plays)::(aI ((u + 1) : Nat))::aN::aN::aN::aN::aN::aN::aN::aN::aN::aN::aN::(.loc 2 0)::aN::aZ48), [.row ((natL (wT N state 0) N.length).map (.int .i64)), .row (R.map (.int .i64)), .mit (left.map entS) last]⟩) (turnsL N).length rfl ?_ ?_
     ·simp only [c66l13m, go_sem, ↓reduceIte, reduceCtorEq, Nat.reduceAdd, Nat.reduceLeDiff]
      refine ⟨turnsL N, List.replicate N.length 0, none, rfl, fun _ h => h, by simp, fun k hk => ?_, rfl⟩
      rw [List.getElem?_replicate, if_pos hk, brg_all];exact ⟨by simp, by rw [wT]; simp⟩
     ·rintro I2 m τ ⟨left, R, last, rfl, hsub, hRl, hR, rfl⟩ hI2
      simp only [c66l13, c66r10, go_sem, ↓reduceIte, Nat.reduceAdd, true_implies];refine ⟨fun hnil => ?_, fun l1 e l2 hs => ?_⟩
      ·have hnil : left = [] := by simpa using hnil
       subst hnil
       have hRe : R = natL (wT N state (u + 1)) N.length := by
        apply List.ext_getElem?
        intro k
        by_cases hk : k < N.length
        ·obtain ⟨x, hx⟩ : ∃ x, R[k]? = some x := ⟨_, List.getElem?_eq_getElem (by omega)⟩
         have := (hR k hk).2;rw [hx] at this ⊢;rw [natL_get hk];simp only [Option.getD_some, List.map_nil, List.sum_nil, Int.add_zero] at this;rw [this]
        ·rw [List.getElem?_eq_none (by omega), List.getElem?_eq_none (by rw [natL_len]; omega)]
       subst hRe
       have hrow : rowOf 0 N.length 1 ((natL (wT N state (u + 1)) N.length).map (SV.int .i64)) = some ((natL (wT N state (u + 1)) N.length).map (.int .i64)) := by
        rw [rowOf_take (by simp [natL_len]), List.take_of_length_le (by simp [natL_len])]
       simp only [c66r14, go_sem, Nat.reduceAdd, true_implies];refine ⟨_, hrow, ?_⟩;simp only [c66r15, benchC, bnV, go_sem, Nat.reduceAdd, Nat.reduceLeDiff, true_implies];refine ⟨inR_small hf0 (by omega), ?_⟩
       simp only [c66r16, ints, natL_len, go_sem];intro _
       refine loop_rule (fun m τ => ∃ j : Nat, m = N.length - j /\ j <= N.length /\
        τ = ⟨((.s (benchC s N p))::aN::aN::aN::aN::aN::aN::(.s (ints (natL (wT N state (u + 1)) N.length)))::(aI (fT s N p state (u + 1) * s + wpT N p state (u + 1) j))::aN::aN::aN::aN::aN::aN::aN::aN::aN::aN::aN::aN::aN::aN::aN::aN::(aI plays)::(aI ((u + 1) : Nat))::aN::aN::aN::aN::aN::aN::aN::aN::aN::aN::aN::aN::aN::aN::aN::aN::aN::aN::aN::aN::aN::aN::aN::aN::aN::aN::aN::aN::aN::aN::aN::aN::aN::aN::aN::aN::aN::aN::aN::(.s (ints (natL (wT N state (u + 1)) N.length)))::(aI N.length)::(aI j)::aN::aN::aN::aZ16), [.row ((natL (wT N state 0) N.length).map (.int .i64)), .frz ((natL (wT N state (u + 1)) N.length).map (.int .i64)), .mit [] last]⟩) N.length rfl ?_ ?_
       ·simp only [c66l21m, go_sem, Nat.reduceAdd]
        exact ⟨0, rfl, Nat.zero_le _, by simp [wpT]; exact ⟨rfl, rfl⟩⟩
       ·rintro I2 m τ ⟨j, rfl, hj, rfl⟩ hI2
        simp only [c66l21, c66r17, go_sem, ↓reduceIte, Nat.reduceAdd, true_implies];refine ⟨fun hlt => ?_, fun hge => ?_⟩
        ·have hj : j < N.length := by omega
         obtain ⟨y, hy⟩ : ∃ y, p[j]? = some y := ⟨_, List.getElem?_eq_getElem (by rw [h.pl]; exact hj)⟩
         have hg := natL_get (f := wT N state (u + 1)) hj;have hws := wpT_succ (N := N) (p := p) (state := state) (t := (u + 1)) (j := j);have hwl := wpT_le h hst (t := (u + 1)) (j := j + 1) (by omega)
         have hw0 := wpT_nonneg h.toOkP (state := state) (t := (u + 1)) (j := j);have hm0 := Int.mul_nonneg (wT_nonneg h.toOkN (state := state) (t := (u + 1)) (k := j)) (pay_le h.toOkP j).1;rw [hy, Option.getD_some] at hws hm0;simp only [c66r18, ints, hg, c66r19, benchC, bnV, hy, go_sem, Nat.reduceAdd, Nat.reduceLeDiff, true_implies];refine ⟨inR_small hm0 (by omega), inR_small (by omega) (by omega), ?_⟩
         simp only [c66r20, c66l21m, go_sem, true_implies];exact ⟨inR_small (by omega) (by omega), hI2 (N.length - (j + 1)) _ (by omega) ⟨j + 1, rfl, by omega, by rw [hws, <- Int.add_assoc]; rfl⟩⟩
        ·have hje : j = N.length := by omega
         subst hje;simp only [c66r22, c66l23m, go_sem, true_implies];exact ⟨inR_small (by omega) (by omega), hI (plays - ((u + 1) + 1)) _ (by omega) ⟨(u + 1) + 1, .s (ints (natL (wT N state (u + 1)) N.length)), rfl, by omega, .inr ⟨rfl, by omega⟩, rfl⟩⟩
      ·obtain ⟨L1, L3, rfl, h1, h3⟩ := List.map_eq_append_iff.1 hs
       obtain ⟨z, L2, rfl, h4, h5⟩ := List.map_eq_cons_iff.1 h3;subst h4;have hz := hsub z (by simp)
       obtain ⟨i, k, l, e1, e2, e3⟩ := mem_allE.1 (List.mem_filter.1 hz).1;have hin := (List.getElem?_eq_some_iff.1 e2).1
       have hkn : k < N.length := by
        have := (List.getElem?_eq_some_iff.1 e3).1;rw [h.sq l (List.mem_of_getElem? e2)] at this;exact this
       obtain ⟨⟨zi, zk⟩, zv⟩ := z;simp only [Prod.mk.injEq] at e1 e3;obtain ⟨rfl, rfl⟩ := e1;have hgw := natL_get (f := wT N state u) hin;obtain ⟨x, hx⟩ : ∃ x, R[k]? = some x := ⟨_, List.getElem?_eq_getElem (by omega)⟩
       have hzv : zv = tn N i k := by unfold tn; rw [e2]; simp [e3]
       have hbz : brg (wT N state u) k (((i : Int), (k : Int)), zv) = wT N state u i * zv := by unfold brg; simp
       have hnn : ∀ (L : List Ent) (q : Nat), (∀ z ∈ L, z ∈ turnsL N) -> 0 <= (L.map (brg (wT N state u) q)).sum := fun L q hL => sum_nonneg fun y hy => by
        obtain ⟨z, hz, rfl⟩ := List.mem_map.1 hy;obtain ⟨a, b, l', f1, f2, f3⟩ := mem_allE.1 (List.mem_filter.1 (hL z hz)).1;unfold brg
        split
        ·exact Int.mul_nonneg (wT_nonneg h.toOkN) (h.ent l' (List.mem_of_getElem? f2) _ (List.mem_of_getElem? f3)).1
        ·exact Int.le_refl _
       have hsum : ∀ q, ((L1 ++ (((i : Int), (k : Int)), zv) :: L2).map (brg (wT N state u) q)).sum = brg (wT N state u) q (((i : Int), (k : Int)), zv) + ((L1 ++ L2).map (brg (wT N state u) q)).sum := fun q => by
        simp only [List.map_append, List.map_cons, List.sum_append, List.sum_cons]; omega
       have hRk := hR k hkn;rw [hsum, hbz, hx, Option.getD_some] at hRk;have hrest := hnn (L1 ++ L2) k fun z hz => hsub z (by rcases List.mem_append.1 hz with h | h <;> simp [h])
       have hwl := wT_le h.s hst (t := u + 1) hkn;have hwp := hp20 (u + 1) (by omega)
       have hm0 : 0 <= wT N state u i * zv := Int.mul_nonneg (wT_nonneg h.toOkN) (by rw [hzv]; exact h.nn i k)
       have hs3 := spl_row (R := R) (i := k) (x := x + wT N state u i * zv) (by omega)
       subst h1;subst h5;simp only [entS, pr, c66r11, SV.cells, spl_two, c66r12, Nat.mul_one, Int.toNat_natCast, hx, hgw, ints, hs3, go_sem, Nat.reduceAdd, true_implies];refine ⟨hkn, inR_small hm0 (by omega), inR_small (by omega) (by omega), hkn, by omega, ?_⟩
       simp only [c66l13m, go_sem, ↓reduceIte, reduceCtorEq, Nat.reduceLeDiff];refine hI2 (L1 ++ L2).length _ (by simp) ⟨L1 ++ L2, R.set k (x + wT N state u i * zv), some (.agg [.int .i64 i, .int .i64 k], .int .i64 zv), rfl, fun z hz => hsub z (by rcases List.mem_append.1 hz with h | h <;> simp [h]), by rw [List.length_set]; exact hRl, fun q hq => ?_, by rw [List.map_append]; try rfl⟩
       have hRq := hR q hq;rw [hsum] at hRq
       by_cases e : k = q
       ·subst e
        rw [List.getElem?_set_self (by omega), Option.getD_some]
        rw [hbz, hx, Option.getD_some] at hRq;omega
       ·rw [List.getElem?_set_ne e]
        have : brg (wT N state u) q (((i : Int), (k : Int)), zv) = 0 := by unfold brg; rw [if_neg (by simp; omega)]
        omega
   ·have htz : t = 0 := by omega
    subst htz
    have hv : v = .sl 0 0 N.length 1 true := by
     rcases hv with ⟨rfl, _⟩ | ⟨_, h⟩
     ·rfl
     ·omega
    subst hv;simp only [c66r16, go_sem];intro _
    refine loop_rule (fun m τ => ∃ j : Nat, m = N.length - j /\ j <= N.length /\
     τ = ⟨((.s (benchC s N p))::aN::aN::aN::aN::aN::aN::(.sl 0 0 N.length 1 true)::(aI (fT s N p state 0 * s + wpT N p state 0 j))::aN::aN::aN::aN::aN::aN::aN::aN::aN::aN::aN::aN::aN::aN::aN::aN::(aI plays)::(aI (0 : Nat))::aN::aN::aN::aN::aN::aN::aN::aN::aN::aN::aN::aN::aN::aN::aN::aN::aN::aN::aN::aN::aN::aN::aN::aN::aN::aN::aN::aN::aN::aN::aN::aN::aN::aN::aN::aN::aN::aN::aN::(.sl 0 0 N.length 1 true)::(aI N.length)::(aI j)::aN::aN::aN::aZ16), [.row ((natL (wT N state 0) N.length).map (.int .i64))]⟩) N.length rfl ?_ ?_
    ·simp only [c66l21m, go_sem, ↓reduceIte, reduceCtorEq, Nat.reduceLeDiff]
     exact ⟨0, rfl, Nat.zero_le _, by simp [fT, wpT]⟩
    ·rintro I2 m τ ⟨j, rfl, hj, rfl⟩ hI2
     simp only [c66l21, c66r17, go_sem, ↓reduceIte, true_implies];refine ⟨fun hlt => ?_, fun hge => ?_⟩
     ·have hj : j < N.length := by omega
      obtain ⟨y, hy⟩ : ∃ y, p[j]? = some y := ⟨_, List.getElem?_eq_getElem (by rw [h.pl]; exact hj)⟩
      have hg := natL_get (f := wT N state 0) hj;have hws := wpT_succ (N := N) (p := p) (state := state) (t := 0) (j := j);have hwl := wpT_le h hst (t := 0) (j := j + 1) (by omega)
      have hw0 := wpT_nonneg h.toOkP (state := state) (t := 0) (j := j);have hm0 := Int.mul_nonneg (wT_nonneg h.toOkN (state := state) (t := 0) (k := j)) (pay_le h.toOkP j).1;rw [hy, Option.getD_some] at hws hm0;simp only [c66r18, ints, Nat.mul_one, hg, c66r19, benchC, bnV, hy, go_sem, Nat.reduceAdd, Nat.reduceLeDiff, true_implies];refine ⟨hj, inR_small hm0 (by omega), inR_small (by omega) (by omega), ?_⟩
      simp only [c66r20, c66l21m, go_sem, ↓reduceIte, reduceCtorEq, Nat.reduceLeDiff, true_implies];exact ⟨inR_small (by omega) (by omega), hI2 (N.length - (j + 1)) _ (by omega) ⟨j + 1, rfl, by omega, by rw [hws, <- Int.add_assoc]; rfl⟩⟩
     ·have hje : j = N.length := by omega
      subst hje;simp only [c66r22, c66l23m, go_sem, ↓reduceIte, reduceCtorEq, Nat.reduceLeDiff, true_implies];exact ⟨inR_small (by omega) (by omega), hI (plays - (0 + 1)) _ (by omega) ⟨0 + 1, .sl 0 0 N.length 1 true, rfl, by omega, .inl ⟨rfl, by omega⟩, rfl⟩⟩
  ·have hte : t = plays := by omega
   subst hte;simp only [c66r24, go_sem, true_implies]
def firstR (s : Int) (N : List (List Int)) (p : List Int) (state plays : Int) : List SV :=
 if chkM s N p = 0 then (if (0 <= state /\ state < N.length) /\ 0 <= plays /\ plays <= 10 then [rat (lst (fT s N p state.toNat plays.toNat) (s ^ (plays.toNat - 1))), .int .i64 0] else [rat (0, 0), .int .i64 2]) else [rat (0, 0), .int .i64 (chkM s N p)]
theorem fT_le {s : Int} {N : List (List Int)} {p : List Int} (h : OkM s N p) {state : Nat} (hs : state < N.length) {t : Nat} (ht : t <= 10) : 0 <= fT s N p state t /\ fT s N p state t <= 11000 * 10240000000000 := by
 refine ⟨(fT_bd h hs).1, ?_⟩
 cases t with
 | zero => rw [fT]; decide
 | succ t =>
  have h1 := (fT_bd h hs (t := t)).2;have h2 := pow_bd h.toOkN (t := t)
  have h3 : (20 : Int) ^ t <= 10240000000000 := by
   have := Nat.pow_le_pow_right (show 0 < 20 by decide) (show t <= 10 by omega)
   have h2 : ((20 ^ t : Nat) : Int) <= ((20 ^ 10 : Nat) : Int) := by omega
   simpa using h2
  exact Int.le_trans h1 (Int.mul_le_mul (by omega) (by omega) (by omega) (by decide))
set_option maxHeartbeats 1000000 in
theorem k22 {s : Int} {N : List (List Int)} {p : List Int} {state plays : Int} : E.Fn Tryz.prog 22 [mc s N p, .int .i64 state, .int .i64 plays] (firstR s N p state plays) := by
 refine fn_of_row okf22 ?_;have h48 := k49 (s := s) (N := N) (p := p);unfold firstR;unfold openR at h48;simp only [FRow.start, f22, c22r0, c22r1, mc, SV.cells, List.length_cons, List.length_nil, go_sem, Nat.reduceAdd, Nat.reduceSub, true_implies]
 by_cases h0 : chkM s N p = 0
 ·rw [if_pos h0] at h48
  rw [if_pos h0];have h := chkM_zero.1 h0;have hn4 := h.n4;refine callK_of rfl h48 (.inr (.inl rfl)) ?_
  have hin1 : inR .i64 ((N.length : Int) - 1) := inR_i64 (by omega) (by omega)
  have hw1 := within_one (lo := 0) (hi := (N.length : Int) - 1) (x := state);have hw2 := within_one (lo := 0) (hi := 10) (x := plays);simp only [c22r2, c22r4, intss, go_sem, Nat.reduceAdd, Nat.reduceLeDiff, Nat.reduceMul, true_implies];refine ⟨hin1, by decide, by decide, rfl, one_int, ?_⟩
  refine callK_of (by simp only [ints, List.map_cons, List.map_nil, go_sem]) (k50 (lo := 0) (hi := (N.length : Int) - 1) (l := [state])) (.inl rfl) ?_
  by_cases h1 : 0 <= state /\ state < N.length
  ·rw [decide_eq_true (by omega)] at hw1
   simp only [hw1, go_sem, Nat.reduceMul];refine ⟨by decide, by decide, rfl, one_int, ?_⟩
   refine callK_of (by simp only [ints, List.map_cons, List.map_nil, go_sem]) (k50 (lo := 0) (hi := 10) (l := [plays])) (.inl rfl) ?_
   by_cases h2 : 0 <= plays /\ plays <= 10
   ·rw [decide_eq_true (by omega)] at hw2
    rw [if_pos ⟨h1, h2⟩];obtain ⟨st, rfl⟩ : ∃ m : Nat, state = m := ⟨state.toNat, by omega⟩
    obtain ⟨pl, rfl⟩ : ∃ m : Nat, plays = m := ⟨plays.toNat, by omega⟩
    rw [Int.toNat_natCast, Int.toNat_natCast];have h72 := k66 (state := st) (plays := pl) h (by omega) (by omega)
    have hpb := fun t => pow_bd h.toOkN (t := t)
    have hp20 : ∀ t, t <= 10 -> (20 : Int) ^ t <= 10240000000000 := fun t ht => by
     have := Nat.pow_le_pow_right (show 0 < 20 by decide) ht
     have h2 : ((20 ^ t : Nat) : Int) <= ((20 ^ 10 : Nat) : Int) := by omega
     simpa using h2
    simp only [hw2, c22r6, c22r7, go_sem, true_implies];intro _
    refine loop_rule (fun m τ => ∃ t : Nat, m = pl - t /\ 1 <= t /\ (t <= pl \/ t = 1) /\
     τ = ⟨(aN::(aI st)::(aI pl)::(.s (.ptr [.int .i64 s, intss N, ints p]))::aN::aN::(.loc 0 0)::aN::(.s (benchC s N p))::aN::(aI (s ^ (t - 1)))::(aI t)::aN::aZ40), [.obj [aI 0, aI 0]]⟩) (pl - 1) rfl ?_ ?_
    ·simp only [c22l11m, go_sem, ↓reduceIte, reduceCtorEq, Nat.reduceLeDiff]
     exact ⟨1, rfl, Nat.le_refl _, .inr rfl, by rw [show s ^ (1 - 1) = 1 from Int.pow_zero s]; rfl⟩
    ·rintro I m τ ⟨t, rfl, ht1, ht, rfl⟩ hI
     simp only [c22l11, c22r8, go_sem, ↓reduceIte, true_implies];refine ⟨fun hlt => ?_, fun hge => ?_⟩
     ·have hlt : t < pl := by omega
      have hps : s ^ (t - 1) * s = s ^ (t + 1 - 1) := by rw [<- Int.pow_succ]; congr 1; omega
      have hb1 := hpb (t + 1 - 1);have hb2 := hp20 (t + 1 - 1) (by omega)
      simp only [c22r9, go_sem, Nat.reduceAdd, Nat.reduceLeDiff, true_implies];rw [hps];refine ⟨inR_small (by omega) (by omega), ?_⟩
      simp only [c22r10, c22l11m, go_sem, ↓reduceIte, reduceCtorEq, Nat.reduceLeDiff, true_implies];exact ⟨inR_small (by omega) (by omega), hI (pl - (t + 1)) _ (by omega) ⟨t + 1, rfl, by omega, .inl (by omega), rfl⟩⟩
     ·have hte : t - 1 = pl - 1 := by omega
      rw [hte];have hb1 := hpb (pl - 1);have hb2 := hp20 (pl - 1) (by omega)
      have hf := fT_le h (state := st) (by omega) (t := pl) (by omega)
      have hk71 := k59 (n := fT s N p st pl) (d := s ^ (pl - 1)) (by omega) (by omega) (by omega)
      simp only [c22r12, go_sem];refine callK_of (by simp only [benchC, bnV, intss, ints, go_sem]) h72 (.inl rfl) ?_
      simp only [go_sem];refine callK_of (by simp only [go_sem]) hk71 (.inl rfl) ?_
      simp only [rat, spl_two, frz_two', go_sem, Nat.reduceAdd, true_implies]
   ·rw [decide_eq_false (by omega)] at hw2
    rw [if_neg fun h => h2 h.2]
    simp only [hw2, c22r5, rat, spl_two, frz_two', go_sem, Nat.reduceAdd, true_implies]
    done
  ·rw [decide_eq_false (by omega)] at hw1
   rw [if_neg fun h => h1 h.1]
   simp only [hw1, c22r5, rat, spl_two, frz_two', go_sem, Nat.reduceAdd, true_implies]
   done
 ·rw [if_neg h0] at h48
  rw [if_neg h0];refine callK_of rfl h48 (.inr (.inl rfl)) ?_
  simp only [h0, c22r2, c22r3, rat, spl_two, frz_two', go_sem, Nat.reduceAdd, true_implies]
def fv (far : List Int) (x : Nat) : Int := far[x]?.getD 0
theorem fv_set {far : List Int} {k x : Nat} {y : Int} (hk : k < far.length) : fv (far.set k y) x = if k = x then y else fv far x := by
 unfold fv
 by_cases e : k = x
 ·subst e; rw [List.getElem?_set_self hk, if_pos rfl]; rfl
 ·rw [List.getElem?_set_ne e, if_neg e]
structure Pq (g : Nat -> Nat -> Bool) (n c off : Nat) (Q : List Nat) (far : List Int) (d : Nat) : Prop where
  nod : Q.Nodup
  lt : ∀ x ∈ Q, x < n
  hd : Q[0]? = some c
  fl : far.length = n
  neg : ∀ x, x < n -> x ∉ Q -> fv far x = -1
  pos : ∀ (j x : Nat), Q[j]? = some x -> ∃ L : Nat, fv far x = L /\ L <= j /\ Wk g n L c x
  edge : ∀ (j i : Nat), j < off -> Q[j]? = some i -> ∀ k, k < n -> g i k = true -> k ∈ Q /\ (d : Int) ∣ fv far i + 1 - fv far k
  gcd : ∀ e : Nat, (∀ i k, i ∈ Q -> k ∈ Q -> k < n -> g i k = true -> (e : Int) ∣ fv far i + 1 - fv far k) -> e ∣ d
  db : d <= 4
section
variable {g : Nat -> Nat -> Bool} {n c off : Nat} {Q : List Nat} {far : List Int} {d : Nat}
theorem Pq.len (h : Pq g n c off Q far d) : Q.length <= n := by
 have := h.nod.length_le_of_subset (l₂ := List.range n) (fun x hx => List.mem_range.2 (h.lt x hx))
 simpa using this
theorem Pq.fin (h : Pq g n c off Q far d) (hn : n <= 4) {x : Nat} (hx : x ∈ Q) : 0 <= fv far x /\ fv far x <= 3 := by
 obtain ⟨j, hj⟩ := List.mem_iff_getElem?.1 hx;obtain ⟨L, h1, h2, _⟩ := h.pos j x hj;have h3 := (List.getElem?_eq_some_iff.1 hj).1;have h4 := h.len;omega
theorem Pq.add (h : Pq g n c off Q far d) {a k : Nat} (ha : Q[off]? = some a) (hk : k < n) (hg : g a k = true) (hkn : k ∉ Q) : Pq g n c off (Q ++ [k]) (far.set k (fv far a + 1)) d := by
 have hkl : k < far.length := by rw [h.fl]; exact hk
 have same : ∀ x, x ∈ Q -> fv (far.set k (fv far a + 1)) x = fv far x := fun x hx => by
  rw [fv_set hkl, if_neg];intro e; subst e; exact hkn hx
 have ham := List.mem_of_getElem? ha;have hoff := (List.getElem?_eq_some_iff.1 ha).1;refine ⟨?_, fun x hx => ?_, ?_, by rw [List.length_set, h.fl], fun x hx hxn => ?_, fun j x hj => ?_, fun j i hj hi x hx hgx => ?_, fun e he => h.gcd e fun i x hi hx hxn hgx => ?_, h.db⟩
 ·rw [List.nodup_append]
  refine ⟨h.nod, by simp, fun x hx y hy e => ?_⟩
  rw [List.mem_singleton] at hy;subst hy; subst e; exact hkn hx
 ·rcases List.mem_append.1 hx with hx | hx
  ·exact h.lt x hx
  ·rw [List.mem_singleton.1 hx]; exact hk
 ·rw [List.getElem?_append_left (by omega)]; exact h.hd
 ·rw [List.mem_append, not_or, List.mem_singleton] at hxn
  rw [fv_set hkl, if_neg (fun e => hxn.2 e.symm)]
  exact h.neg x hx hxn.1
 ·by_cases hjl : j < Q.length
  ·rw [List.getElem?_append_left hjl] at hj
   rw [same x (List.mem_of_getElem? hj)];exact h.pos j x hj
  ·have hjl2 := (List.getElem?_eq_some_iff.1 hj).1
   rw [List.length_append, List.length_singleton] at hjl2;have hje : j = Q.length := by omega
   rw [hje, List.getElem?_append_right (Nat.le_refl _), Nat.sub_self] at hj;have hxe : k = x := by simpa using hj
   subst hxe;obtain ⟨L, h1, h2, h3⟩ := h.pos off a ha;refine ⟨L + 1, by rw [fv_set hkl, if_pos rfl, h1]; rfl, by omega, .snoc h3 hg hk⟩
 ·rw [List.getElem?_append_left (by omega)] at hi
  obtain ⟨h1, h2⟩ := h.edge j i hj hi x hx hgx;rw [same i (List.mem_of_getElem? hi), same x h1];exact ⟨List.mem_append_left _ h1, h2⟩
 ·have := he i x (List.mem_append_left _ hi) (List.mem_append_left _ hx) hxn hgx
  rwa [same i hi, same x hx] at this
theorem Pq.old (h : Pq g n c off Q far d) (hn : n <= 4) {a k : Nat} (ha : Q[off]? = some a) (hk : k < n) (hg : g a k = true) (hkn : k ∈ Q) : Pq g n c off Q far (Nat.gcd d (fv far a + 1 - fv far k).natAbs) := by
 have hda : ((Nat.gcd d (fv far a + 1 - fv far k).natAbs : Nat) : Int) ∣ (d : Int) := Int.natCast_dvd_natCast.2 (Nat.gcd_dvd_left _ _);have f1 := h.fin hn (List.mem_of_getElem? ha);have f2 := h.fin hn hkn;refine { h with edge := fun j i hj hi x hx hgx => ?_, gcd := fun e he => ?_, db := ?_ }
 ·obtain ⟨h1, h2⟩ := h.edge j i hj hi x hx hgx
  exact ⟨h1, Int.dvd_trans hda h2⟩
 ·refine Nat.dvd_gcd (h.gcd e he) ?_
  exact Int.ofNat_dvd_left.1 (he a k (List.mem_of_getElem? ha) hkn hk hg)
 ·have h1 := h.db
  rcases Nat.eq_zero_or_pos (fv far a + 1 - fv far k).natAbs with h0 | h0
  ·rw [h0, Nat.gcd_zero_right]; exact h1
  ·exact Nat.le_trans (Nat.gcd_le_right _ h0) (by omega)
theorem Pq.next (h : Pq g n c off Q far d) {a : Nat} (ha : Q[off]? = some a) (hp : ∀ k, k < n -> g a k = true -> k ∈ Q /\ (d : Int) ∣ fv far a + 1 - fv far k) : Pq g n c (off + 1) Q far d :=
 ⟨h.nod, h.lt, h.hd, h.fl, h.neg, h.pos, fun j i hj hi x hx hgx => (by
   by_cases e : j = off
   ·rw [e, ha] at hi; cases hi; exact hp x hx hgx
   ·exact h.edge j i (by omega) hi x hx hgx), h.gcd, h.db⟩
theorem Pq.done (h : Pq g n c Q.length Q far d) (hn : n <= 4) (hc : isPC g n c = true) : d = perN g n c := by
 have hcl := isPC_clsd hc;have hcn := (isPC_iff.1 hc).1.lt;refine per_eq (f := fv far) (S := fun x => x ∈ Q) hcn (List.mem_of_getElem? h.hd) ?_ (fun i hi => ?_) (fun i k hi hk hg => ?_) (fun e he => h.gcd e he) (fun k hk => ?_)
 ·obtain ⟨L, h1, h2, _⟩ := h.pos 0 c h.hd
  rw [h1]; omega
 ·obtain ⟨j, hj⟩ := List.mem_iff_getElem?.1 hi
  obtain ⟨L, h1, h2, h3⟩ := h.pos j i hj;have h4 := (List.getElem?_eq_some_iff.1 hj).1;have h5 := h.len;exact ⟨L, h1, by omega, h3⟩
 ·obtain ⟨j, hj⟩ := List.mem_iff_getElem?.1 hi
  exact h.edge j i (List.getElem?_eq_some_iff.1 hj).1 hj k hk hg
 ·obtain ⟨j, hj⟩ := List.mem_iff_getElem?.1 hk
  obtain ⟨L, _, _, h3⟩ := h.pos j k hj
  have hr : Reach g n k c := by
   rcases h3.reach with ⟨_, rfl⟩ | h4
   ·exact (isPC_iff.1 hc).1
   ·exact hcl k h4
  obtain ⟨r, r1, r2, r3⟩ := rB_walk (reach_iff.1 hr);exact ⟨r, r1, by omega, r3⟩
end
theorem fv_get {far : List Int} {x : Nat} (h : x < far.length) : far[x]? = some (fv far x) := by
 unfold fv; rw [List.getElem?_eq_getElem h]; rfl
set_option maxHeartbeats 2000000 in
theorem k55 {s : Int} {N : List (List Int)} {p : List Int} {c : Nat} (h : OkM s N p) (hc : isPC (gr N) N.length c = true) : E.Fn Tryz.prog 55 [benchC s N p, .int .i64 c] [.int .i64 (perN (gr N) N.length c)] := by
 refine fn_of_row okf55 ?_;have hn4 := h.n4;have hcn := (isPC_iff.1 hc).1.lt;have hm := map_turns h.sq;simp only [FRow.start, f55, c55r0, c55r1, benchC, bnV, intss, go_sem, Nat.reduceAdd, Nat.reduceSub, Nat.reduceLT, Nat.reduceLeDiff, true_implies];refine ⟨by omega, by omega, fun _ => ?_⟩
 rw [rep_flat];simp only [c55r2, go_sem];intro _
 refine loop_rule (fun m τ => ∃ i : Nat, m = N.length - i /\ i <= N.length /\
  τ = ⟨((.s (benchC s N p))::(aI c)::aN::aN::aN::(.sl 0 0 N.length 1 true)::aN::aN::aN::aN::aN::aN::aN::aN::aN::aN::aN::aN::aN::(aI N.length)::(aI i)::aN::aZ80), [.row ((List.replicate i (-1) ++ List.replicate (N.length - i) 0).map (.int .i64))]⟩) N.length rfl ?_ ?_
 ·simp only [c55l7m, go_sem, ↓reduceIte, reduceCtorEq, Nat.reduceLeDiff, Int.reduceNeg]
  exact ⟨0, rfl, Nat.zero_le _, rfl⟩
 ·rintro I m τ ⟨i, rfl, hi, rfl⟩ hI
  simp only [c55l7, c55r3, go_sem, ↓reduceIte, Int.reduceNeg, true_implies];refine ⟨fun hlt => ?_, fun hge => ?_⟩
  ·have hlt : i < N.length := by omega
   have hs1 := spl_row (R := List.replicate i (-1) ++ List.replicate (N.length - i) 0) (i := i) (x := -1) (by simp; omega)
   have hset : (List.replicate i (-1 : Int) ++ List.replicate (N.length - i) 0).set i (-1) = List.replicate (i + 1) (-1) ++ List.replicate (N.length - (i + 1)) 0 := by
    rw [List.set_append_right _ _ (by simp), List.length_replicate, Nat.sub_self, show N.length - i = (N.length - (i + 1)) + 1 by omega, List.replicate_succ, List.set_cons_zero, List.replicate_succ', List.append_assoc]; rfl
   rw [hset] at hs1;simp only [c55r4, c55r5, Nat.mul_one, hs1, go_sem, Int.reduceNeg, true_implies];refine ⟨hlt, by simp; omega, ?_⟩
   simp only [c55r6, c55l7m, go_sem, ↓reduceIte, reduceCtorEq, Nat.reduceLeDiff, Int.reduceNeg, true_implies];exact ⟨inR_small (by omega) (by omega), hI (N.length - (i + 1)) _ (by omega) ⟨i + 1, rfl, by omega, rfl⟩⟩
  ·have hie : i = N.length := by omega
   subst hie;rw [Nat.sub_self, List.replicate_zero, List.append_nil];have hs1 := spl_row (R := List.replicate N.length (-1)) (i := c) (x := 0) (by simpa using hcn)
   obtain ⟨far0, hfar0⟩ : ∃ far0, far0 = (List.replicate N.length (-1 : Int)).set c 0 := ⟨_, rfl⟩;rw [<- hfar0] at hs1
   have hp0 : Pq (gr N) N.length c 0 [c] far0 0 := by
    have hfv : ∀ x, x < N.length -> fv far0 x = if c = x then 0 else -1 := fun x hx => by
     rw [hfar0, fv_set (by simpa using hcn)]
     split
     ·rfl
     ·unfold fv; rw [List.getElem?_replicate, if_pos hx]; rfl
    refine ⟨by simp, fun x hx => by rw [List.mem_singleton.1 hx]; exact hcn, rfl, by rw [hfar0]; simp, fun x hx hxn => ?_, fun j x hj => ?_, fun j i hj => absurd hj (Nat.not_lt_zero _), fun e _ => Nat.dvd_zero e, by decide⟩
    ·rw [hfv x hx, if_neg]
     intro e; exact hxn (by simp [e])
    ·match j, hj with
     | 0, hj =>
      have hx : c = x := by simpa using hj
      subst hx;exact ⟨0, by rw [hfv c hcn, if_pos rfl]; rfl, Nat.le_refl _, .nil⟩
     | j + 1, hj => simp at hj
   clear hI I;simp only [c55r8, Nat.mul_one, hs1, c55r9, c55r10, go_sem, Nat.reduceAdd, Nat.reduceLT, Int.reduceNeg, true_implies];refine ⟨hcn, by simp; omega, by decide, by decide, rfl, one_int, ?_⟩
   refine loop_rule (fun m τ => ∃ (off o d : Nat) (Q : List Nat) (R far : List Int), m = N.length + 1 - off /\ off <= Q.length /\ Pq (gr N) N.length c off Q far d /\ R.drop o = (nats Q).drop off /\ o + (Q.length - off) = R.length /\
    τ = ⟨((.s (benchC s N p))::aN::aN::aN::aN::(.sl 0 0 N.length 1 true)::aN::(.sl 1 o (Q.length - off) 1 false)::(aI d)::aN::aN::aN::aN::aN::aZ88), [.row (far.map (.int .i64)), .row (R.map (.int .i64))]⟩) (N.length + 1) (promo_sl rfl) ?_ ?_
   ·simp only [c55l24m, go_sem, ↓reduceIte, reduceCtorEq, Nat.reduceAdd, Nat.reduceLeDiff]
    exact ⟨0, 0, 0, [c], [(c : Int)], far0, rfl, Nat.zero_le _, hp0, rfl, rfl, rfl⟩
   ·rintro I m τ ⟨off, o, d, Q, R, far, rfl, hoff, hP, hR, hRl, rfl⟩ hI
    have hQl := hP.len;simp only [c55l24, c55r11, go_sem, ↓reduceIte, Nat.reduceAdd];intro _;refine ⟨fun hlt => ?_, fun hge => ?_⟩
    ·have hlt : off < Q.length := by omega
     obtain ⟨a, ha⟩ : ∃ a, Q[off]? = some a := ⟨_, List.getElem?_eq_getElem hlt⟩;have han := hP.lt a (List.mem_of_getElem? ha)
     have hxm : R[o]? = some (a : Int) := by
      have h9 := congrArg (·[0]?) hR;simp only [List.getElem?_drop, Nat.add_zero] at h9;rw [h9]; unfold nats; rw [List.getElem?_map, ha]; rfl
     have hRd : R.drop (o + 1) = (nats Q).drop (off + 1) := by
      have h9 := congrArg (List.drop 1) hR;rw [List.drop_drop, List.drop_drop] at h9;exact h9
     have hpos : (0 : Int) < ((Q.length - off : Nat) : Int) := by omega
     simp only [c55r12, Nat.add_zero, hxm, hpos, c55r13, c55r14, benchC, bnV, intss, go_sem, ↓reduceIte, Nat.reduceAdd, Nat.reduceLeDiff, Int.reduceLE, Int.reduceToNat, Nat.reduceMul, true_implies];refine ⟨by omega, fun _ => ?_⟩
     rw [show Q.length - off - 1 = Q.length - (off + 1) by omega]
     refine loop_rule (fun m τ => ∃ (k o d : Nat) (Q : List Nat) (R far : List Int), m = N.length - k /\ k <= N.length /\ off < Q.length /\ Q[off]? = some a /\ Pq (gr N) N.length c off Q far d /\ (∀ k', k' < k -> gr N a k' = true -> k' ∈ Q /\ (d : Int) ∣ fv far a + 1 - fv far k') /\ R.drop o = (nats Q).drop (off + 1) /\ o + (Q.length - (off + 1)) = R.length /\
      τ = ⟨((.s (benchC s N p))::aN::aN::aN::aN::(.sl 0 0 N.length 1 true)::aN::(.sl 1 o (Q.length - (off + 1)) 1 false)::(aI d)::(aI a)::aN::aN::aN::aN::aN::aN::aN::aN::aN::aN::aN::aN::aN::aN::aN::aN::aN::aN::aN::aN::aN::aN::aN::aN::aN::aN::aN::aN::aN::aN::aN::aN::aN::aN::aN::(aI N.length)::(aI k)::aN::aN::aN::aN::aN::aN::aN::aZ48), [.row (far.map (.int .i64)), .row (R.map (.int .i64))]⟩) N.length (promo_sl rfl) ?_ ?_
     ·simp only [c55l23m, go_sem, ↓reduceIte, reduceCtorEq, Nat.reduceAdd, Nat.reduceLeDiff]
      exact ⟨0, o + 1, d, Q, R, far, rfl, Nat.zero_le _, hlt, ha, hP, fun k' h => absurd h (Nat.not_lt_zero _), hRd, by omega, rfl⟩
     ·clear hP hR hRl hxm hRd hQl ha hlt hoff
      rintro I2 m τ ⟨k, o, d, Q, R, far, rfl, hk, hlt, ha, hP, hpart, hR, hRl, rfl⟩ hI2;have hQl := hP.len;simp only [c55l23, c55r15, go_sem, ↓reduceIte, Nat.reduceAdd, true_implies];refine ⟨fun hlt2 => ?_, fun hge => ?_⟩
      ·have hk : k < N.length := by omega
       have hgk : gr N a k = decide (0 < tn N a k) := rfl;have htn := h.tn a k;have hfl := hP.fl;have hfa := hP.fin hn4 (List.mem_of_getElem? ha);have hga := fv_get (far := far) (x := a) (by omega)
       have hgk2 := fv_get (far := far) (x := k) (by omega)
       simp only [c55r16, c55r17, benchC, bnV, go_sem, ↓reduceIte, Nat.reduceAdd, Nat.reduceLeDiff, true_implies];refine ⟨hm.key a k han hk, hm.nod, hm.look han hk ?_⟩
       by_cases hT : tn N a k = 0
       ·have hg0 : gr N a k = false := by rw [hgk]; exact decide_eq_false (by omega)
        simp only [hT, c55r22, c55l23m, go_sem, ↓reduceIte, reduceCtorEq, Nat.reduceAdd, Nat.reduceLeDiff, true_implies];exact ⟨inR_small (by omega) (by omega), hI2 (N.length - (k + 1)) _ (by omega) ⟨k + 1, o, d, Q, R, far, rfl, by omega, hlt, ha, hP, fun k' h1 h2 => if e : k' = k then absurd (by rw [e, hg0] at h2; exact h2) (by simp) else hpart k' (by omega) h2, hR, hRl, rfl⟩⟩
       ·have hg1 : gr N a k = true := by rw [hgk]; exact decide_eq_true (by omega)
        simp only [hT, c55r18, Nat.mul_one, hgk2, go_sem, Nat.reduceAdd, true_implies];refine ⟨hk, ?_⟩
        by_cases hkq : k ∈ Q
        ·have hfk := hP.fin hn4 hkq
         have hP2 := hP.old hn4 ha hk hg1 hkq;have hdd : ((Nat.gcd d (fv far a + 1 - fv far k).natAbs : Nat) : Int) ∣ (d : Int) := Int.natCast_dvd_natCast.2 (Nat.gcd_dvd_left _ _);have hnd : ((Nat.gcd d (fv far a + 1 - fv far k).natAbs : Nat) : Int) ∣ fv far a + 1 - fv far k := Int.dvd_trans (Int.natCast_dvd_natCast.2 (Nat.gcd_dvd_right _ _)) (Int.natAbs_dvd.2 (Int.dvd_refl _));have hneg : ¬ fv far k < 0 := by omega
         have hmx : maxL [fv far a + 1 - fv far k, fv far k - fv far a - 1] = ((fv far a + 1 - fv far k).natAbs : Int) := by
          simp only [maxL, List.foldl_cons, List.foldl_nil]
          split <;> omega
         have hk89 := k97 (fv far a + 1 - fv far k).natAbs d (by have := hP.db; omega) (by omega)
         simp only [hneg, c55r21, Nat.mul_one, hga, hgk2, go_sem, false_implies, true_implies, not_false_eq_true];refine ⟨han, inR_i64 (by omega) (by omega), hk, inR_i64 (by omega) (by omega), hk, han, inR_i64 (by omega) (by omega), inR_i64 (by omega) (by omega), by simp, ?_⟩
         rw [hmx];refine callK_of (by simp only [go_sem]) hk89 (.inl rfl) ?_
         simp only [c55r22, c55l23m, go_sem, ↓reduceIte, reduceCtorEq, Nat.reduceAdd, Nat.reduceLeDiff, true_implies];exact ⟨inR_small (by omega) (by omega), hI2 (N.length - (k + 1)) _ (by omega) ⟨k + 1, o, Nat.gcd d (fv far a + 1 - fv far k).natAbs, Q, R, far, rfl, by omega, hlt, ha, hP2, fun k' h1 h2 => if e : k' = k then by rw [e]; exact ⟨hkq, hnd⟩ else ⟨(hpart k' (by omega) h2).1, Int.dvd_trans hdd (hpart k' (by omega) h2).2⟩, hR, hRl, rfl⟩⟩
        ·have hfk := hP.neg k hk hkq
         have hneg : fv far k < 0 := by omega
         have hP2 := hP.add ha hk hg1 hkq;have hs1 := spl_row (R := far) (i := k) (x := fv far a + 1) (by omega)
         have haq := List.mem_of_getElem? ha;have hak : k ≠ a := fun e => hkq (e ▸ haq)
         have e3 : (R.map (SV.int .i64)).drop o ++ flatE [SV.int .i64 (k : Int)] = (R.drop o ++ [(k : Int)]).map (SV.int .i64) := by rw [List.map_append, List.map_drop]; rfl
         simp only [hneg, c55r19, Nat.mul_one, hga, hs1, go_sem, Nat.reduceAdd, not_true_eq_false, false_implies, true_implies];refine ⟨han, inR_small (by omega) (by omega), hk, by omega, ?_⟩
         simp only [c55r20, Nat.reduceBEq, Bool.false_eq_true, go_sem, ↓reduceIte, Nat.reduceAdd, Nat.reduceLeDiff, Nat.reduceMul, true_implies];refine ⟨by decide, by decide, rfl, one_int, one_int, by rw [Nat.mul_one]; omega, by omega, by omega, ?_⟩
         rw [e3]
         have hsame : ∀ x, x ∈ Q -> fv (far.set k (fv far a + 1)) x = fv far x := fun x hx => by
          rw [fv_set (by omega), if_neg]
          intro e; subst e; exact hkq hx
         simp only [c55r22, c55l23m, go_sem, ↓reduceIte, reduceCtorEq, Nat.reduceLeDiff, true_implies];refine ⟨inR_small (by omega) (by omega), hI2 (N.length - (k + 1)) _ (by omega) ⟨k + 1, 0, d, Q ++ [k], R.drop o ++ [(k : Int)], far.set k (fv far a + 1), rfl, by omega, by rw [List.length_append]; omega, by rw [List.getElem?_append_left (by omega)]; exact ha, hP2, fun k' h1 h2 => ?_, ?_, ?_, ?_⟩⟩
         ·rw [hsame a haq]
          by_cases e : k' = k
          ·rw [e]
           refine ⟨by simp, ?_⟩
           rw [fv_set (by omega), if_pos rfl, Int.sub_self]
           exact Int.dvd_zero _
          ·have h9 := hpart k' (by omega) h2
           rw [hsame k' h9.1];exact ⟨List.mem_append_left _ h9.1, h9.2⟩
         ·rw [List.drop_zero, hR]
          unfold nats;rw [List.map_append, List.drop_append_of_le_length (by rw [List.length_map]; omega)]; rfl
         ·rw [List.length_append, List.length_append, List.length_drop, List.length_singleton, List.length_singleton]; omega
         ·rw [List.length_append, List.length_singleton, show Q.length + 1 - (off + 1) = Q.length - (off + 1) + 1 by omega]; rfl
      ·have hke : k = N.length := by omega
       subst hke;simp only [c55l24m, go_sem, ↓reduceIte, reduceCtorEq, Nat.reduceLeDiff];exact hI (N.length + 1 - (off + 1)) _ (by omega) ⟨off + 1, o, d, Q, R, far, rfl, by omega, hP.next ha fun k hk hg => hpart k hk hg, hR, hRl, rfl⟩
    ·have hoe : off = Q.length := by omega
     subst hoe;rw [hP.done hn4 hc];simp only [c55r25, go_sem, true_implies]
     done
def partC (N : List (List Int)) (m : Nat) : Nat := ((((parts N)[m]?).getD [])[0]?.getD 0).toNat
theorem partC_pc {N : List (List Int)} {m : Nat} (hm : m < (parts N).length) : isPC (gr N) N.length (partC N m) = true /\ (parts N)[m]? = some (rchC (gr N) N.length (partC N m)) := by
 have h1 := List.getElem?_eq_getElem hm;obtain ⟨x, hx⟩ : ∃ x, x = (parts N)[m] := ⟨_, rfl⟩;have hmem : x ∈ parts N := by rw [hx]; exact List.getElem_mem hm
 rw [<- hx] at h1;unfold parts partsC at hmem;obtain ⟨c, hc, rfl⟩ := List.mem_map.1 hmem;obtain ⟨l, hl⟩ := rchC_head (List.mem_filter.1 hc).2
 have hpc : partC N m = c := by
  unfold partC;rw [h1, Option.getD_some, hl, List.getElem?_cons_zero, Option.getD_some, Int.toNat_natCast]
 rw [hpc];exact ⟨(List.mem_filter.1 hc).2, h1⟩
def perR (s : Int) (N : List (List Int)) (p : List Int) (part : Int) : List SV :=
 if chkM s N p = 0 then (if 0 <= part /\ part < (parts N).length then [.int .i64 (perN (gr N) N.length (partC N part.toNat)), .int .i64 0] else [.int .i64 0, .int .i64 2]) else [.int .i64 0, .int .i64 (chkM s N p)]
theorem k15 {s : Int} {N : List (List Int)} {p : List Int} {part : Int} : E.Fn Tryz.prog 15 [mc s N p, .int .i64 part] (perR s N p part) := by
 refine fn_of_row okf15 ?_;have h48 := k49 (s := s) (N := N) (p := p);unfold perR;unfold openR at h48;simp only [FRow.start, f15, c15r0, c15r1, mc, SV.cells, List.length_cons, List.length_nil, go_sem, Nat.reduceAdd, Nat.reduceSub, true_implies]
 by_cases h0 : chkM s N p = 0
 ·rw [if_pos h0] at h48
  rw [if_pos h0];have h := chkM_zero.1 h0;have hn4 := h.n4;have hpl := parts_len (N := N);refine callK_of rfl h48 (.inr (.inl rfl)) ?_
  have hw1 := within_one (lo := 0) (hi := ((parts N).length : Int) - 1) (x := part);simp only [c15r2, c15r4, benchC, bnV, intss, go_sem, Nat.reduceAdd, Nat.reduceLeDiff, Nat.reduceMul, true_implies];refine ⟨inR_i64 (by omega) (by omega), by decide, by decide, rfl, one_int, ?_⟩
  refine callK_of (by simp only [ints, List.map_cons, List.map_nil, go_sem]) (k50 (lo := 0) (hi := ((parts N).length : Int) - 1) (l := [part])) (.inl rfl) ?_
  by_cases h1 : 0 <= part /\ part < (parts N).length
  ·rw [decide_eq_true (by omega)] at hw1
   rw [if_pos h1];obtain ⟨m, rfl⟩ : ∃ m : Nat, part = m := ⟨part.toNat, by omega⟩
   rw [Int.toNat_natCast];have hml : m < (parts N).length := by omega
   obtain ⟨hpc, hpe⟩ := partC_pc hml;obtain ⟨l, hl⟩ := rchC_head hpc;rw [hl] at hpe;have h69 := k55 h hpc;simp only [hw1, c15r6, hpe, go_sem, Nat.reduceAdd, Nat.reduceLeDiff];intro _;simp only [ints, List.map_cons, go_sem, Int.reduceToNat];refine callK_of (by simp only [ints, benchC, bnV, intss, go_sem]) h69 (.inl rfl) ?_
   simp only [go_sem, true_implies]
  ·rw [decide_eq_false (by omega)] at hw1
   rw [if_neg h1];simp only [hw1, c15r5, go_sem, true_implies]
 ·rw [if_neg h0] at h48
  rw [if_neg h0];refine callK_of rfl h48 (.inr (.inl rfl)) ?_
  simp only [h0, c15r2, c15r3, go_sem, true_implies]
theorem k36 {l : List Int} : E.Fn Tryz.prog 36 [ints l] [ints l] := by
 refine fn_of_row okf36 ?_;simp only [FRow.start, f36, c36r0, c36r1, ints, go_sem, Nat.reduceSub, true_implies]
theorem k47 {l : List Int} : E.Fn Tryz.prog 47 [ints l] [ints l] := by
 refine fn_of_row okf47 ?_;simp only [FRow.start, f47, c47r0, c47r1, ints, go_sem, Nat.reduceSub, true_implies]
theorem k48 {a b : Int} : E.Fn Tryz.prog 48 [.int .i64 a, .int .i64 b] [rat (a, b)] := by
 refine fn_of_row okf48 ?_;simp only [FRow.start, f48, c48r0, c48r1, spl_two, frz_two', rat, go_sem, ↓reduceIte, Nat.reduceAdd, Nat.reduceSub, Nat.reduceLeDiff, true_implies]
theorem k43 {d g : Int} {hs : List Int} : E.Fn Tryz.prog 43 [.int .i64 d, .int .i64 g, ints hs] [prV d g hs] := by
 refine fn_of_row okf43 ?_;simp only [FRow.start, f43, c43r0, c43r1, ints, splice, prV, go_sem, ↓reduceIte, Nat.reduceAdd, Nat.reduceSub, Nat.reduceLeDiff, true_implies]
theorem k76 {a b : Int × Int} (ha : Small a) (hb : Small b) : E.Fn Tryz.prog 76 [rat a, rat b] [.bool (lessQ a b)] := by
 refine fn_of_row okf76 ?_;have h1 := small_mul ha.1 hb.2;have h2 := small_mul hb.1 ha.2;simp only [FRow.start, f76, c76r0, c76r1, rat, lessQ, go_sem, Nat.reduceAdd, Nat.reduceSub, Nat.reduceLeDiff, true_implies];exact ⟨h1, h2⟩
theorem k80 {s : Int} {N : List (List Int)} {p : List Int} (hp : 0 < p.length) (hN : ∀ l ∈ N, l.length = p.length) (hl : N.length <= 100) (hp2 : p.length <= 100) : E.Fn Tryz.prog 80 [.int .i64 s, ints p, ints N.flatten] [mc s N p] := by
 refine fn_of_row okf80 ?_
 have hfl : N.flatten.length = N.length * p.length := by
  clear hl
  induction N with
  | nil => simp
  | cons a N ih =>
   rw [List.flatten_cons, List.length_append, ih fun l h => hN l (List.mem_cons_of_mem _ h), hN a (by simp), List.length_cons, Nat.succ_mul, Nat.add_comm]
 have hdt : ∀ i l, N[i]? = some l -> (N.flatten.take (i * p.length + p.length)).drop (i * p.length) = l := by
  clear hfl hl
  induction N with
  | nil => intro i l h; cases h
  | cons a N ih =>
   intro i l h;have ha := hN a (by simp)
   cases i with
   | zero =>
    simp only [List.getElem?_cons_zero, Option.some.injEq] at h;subst h;rw [Nat.zero_mul, Nat.zero_add, List.drop_zero, List.flatten_cons, <- ha, List.take_left]
   | succ i =>
    have := ih (fun l h => hN l (List.mem_cons_of_mem _ h)) i l (by simpa using h)
    rw [List.flatten_cons, show (i + 1) * p.length + p.length = a.length + (i * p.length + p.length) by rw [Nat.succ_mul]; omega, List.take_length_add_append, show (i + 1) * p.length = a.length + i * p.length by rw [Nat.succ_mul]; omega, List.drop_length_add_append]
    exact this
 have hpi : (0 : Int) < p.length := by omega
 have hnp : N.length * p.length <= 100 * 100 := Nat.mul_le_mul hl hp2;simp only [FRow.start, f80, c80r0, c80r1, c80r2, ints, splice, go_sem, ↓reduceIte, Nat.reduceAdd, Nat.reduceSub, Nat.reduceLeDiff, true_implies]
 refine loop_rule (fun n τ => ∃ i : Nat, n = N.length - i /\ i <= N.length /\
  τ = ⟨(aN::(.s (ints p))::(.s (ints N.flatten))::aN::aN::aN::(.loc 0 0)::(.loc 1 0)::(aI ((i * p.length : Nat) : Int))::aZ32), [.obj [aI 0, .full [], .full []], .obj [aI s, .sl 2 0 i 1 false, .s (ints p)], .row ((N.take i).map ints)]⟩) N.length (promo_cell2 rfl rfl rfl) ?_ ?_
 ·simp only [c80l6m, go_sem, ↓reduceIte, reduceCtorEq, Nat.reduceAdd, Nat.reduceLeDiff]
  exact ⟨0, rfl, Nat.zero_le _, by rw [Nat.zero_mul]; rfl⟩
 ·rintro I n τ ⟨i, rfl, hi, rfl⟩ hI
  have hip : i * p.length <= N.length * p.length := Nat.mul_le_mul_right _ hi;have hsucc : (i + 1) * p.length = i * p.length + p.length := Nat.succ_mul _ _;simp only [c80l6, c80r3, ints, go_sem, ↓reduceIte, Nat.reduceAdd];refine ⟨inR_small (by omega) (by omega), fun hle _ => ⟨fun _ => ?_, fun h => absurd hpi h⟩, fun hgt => ?_⟩
  ·have hlt : i < N.length := Nat.lt_of_mul_lt_mul_right (a := p.length) (by omega)
   have hx : N[i]? = some N[i] := List.getElem?_eq_getElem hlt;have hd := hdt i _ hx;have hts : N.take (i + 1) = N.take i ++ [N[i]] := by rw [List.take_succ, hx]; rfl
   generalize N[i] = l at hx hd hts;have e1 : ((i * p.length : Nat) : Int) + (p.length : Nat) = ((i * p.length + p.length : Nat) : Int) := rfl;simp only [c80r4, splice, e1, Nat.reduceBEq, Bool.false_eq_true, go_sem, ↓reduceIte, Nat.reduceAdd, Nat.reduceLeDiff, Nat.reduceMul];refine ⟨inR_small (by omega) (by omega), ?_⟩
   have hd2 : ((N.flatten.map (SV.int .i64)).drop (i * p.length)).take (i * p.length + p.length - i * p.length) = l.map (.int .i64) := by
    rw [<- hd, List.drop_take, List.map_take, List.map_drop]
   rw [hd2]
   have e3 : (N.take i).map ints ++ flatE [SV.slice (l.map (.int .i64))] = (N.take (i + 1)).map ints := by
    rw [hts, List.map_append]; rfl
   refine ⟨by omega, by omega, ?_, by decide, by decide, rfl, one_s rfl, one_s rfl, by rw [List.length_take]; omega, by omega, by omega, fun _ => ?_⟩
   ·exact .inr fun e he => by obtain ⟨x, _, rfl⟩ := List.mem_map.1 he; rfl
   rw [e3];simp only [c80r5, c80l6m, go_sem, ↓reduceIte, reduceCtorEq, Nat.reduceLeDiff];refine ⟨inR_small (by omega) (by omega), fun _ => hI (N.length - (i + 1)) _ (by omega) ⟨i + 1, rfl, by omega, by rw [hsucc]; rfl⟩⟩
  ·have hie : i = N.length := by
    rcases Nat.lt_or_ge i N.length with h | h
    ·have := Nat.mul_le_mul_right p.length (show i + 1 <= N.length from h)
     omega
    ·omega
   subst hie;rw [List.take_length];simp only [c80r7, splice, slice_intss, mc, go_sem, Nat.reduceAdd, true_implies];exact fun _ => rfl
def mW : SV := mc 4 [[3, 1], [2, 2]] [0, 6]
def mX : SV := mc 2 [[0, 1, 1], [0, 2, 0], [0, 0, 2]] [1, 0, 4]
def mY : SV := mc 1 [[0, 1], [1, 0]] [1, 3]
def mR : SV := mc 4 [[2, 1], [1, 1]] [0, 6]
theorem ints_one {xs : List Int} : ∀ x ∈ xs.map (SV.int .i64), x.cells.length = 1 := by
 intro x hx;obtain ⟨y, _, rfl⟩ := List.mem_map.1 hx;rfl
theorem k38 : E.Fn Tryz.prog 38 [] [mW] := by
 refine fn_of_row okf38 ?_;simp only [FRow.start, f38, c38r0, c38r1, go_sem, Nat.reduceSub, Nat.reduceMul, true_implies];refine ⟨by decide, by decide, rfl, ints_one (xs := [0, 6]), ?_⟩
 refine callK_of rfl (k36 (l := [0, 6])) (.inr (.inl rfl)) ?_;simp only [ints, go_sem, Nat.reduceMul];refine ⟨by decide, by decide, rfl, ints_one (xs := [3, 1, 2, 2]), ?_⟩
 refine callK_of rfl (k80 (s := 4) (N := [[3, 1], [2, 2]]) (p := [0, 6]) (by decide) (by decide) (by decide) (by decide)) (.inr (.inl rfl)) ?_
 simp only [mW, mc, intss, ints, SV.cells, splice, go_sem, Nat.reduceAdd, true_implies]
theorem k39 : E.Fn Tryz.prog 39 [] [mX] := by
 refine fn_of_row okf39 ?_;simp only [FRow.start, f39, c39r0, c39r1, go_sem, Nat.reduceSub, Nat.reduceMul, true_implies];refine ⟨by decide, by decide, rfl, ints_one (xs := [1, 0, 4]), ?_⟩
 refine callK_of rfl (k36 (l := [1, 0, 4])) (.inr (.inl rfl)) ?_;simp only [ints, go_sem, Nat.reduceMul];refine ⟨by decide, by decide, rfl, ints_one (xs := [0, 1, 1, 0, 2, 0, 0, 0, 2]), ?_⟩
 refine callK_of rfl (k80 (s := 2) (N := [[0, 1, 1], [0, 2, 0], [0, 0, 2]]) (p := [1, 0, 4]) (by decide) (by decide) (by decide) (by decide)) (.inr (.inl rfl)) ?_
 simp only [mX, mc, intss, ints, SV.cells, splice, go_sem, Nat.reduceAdd, true_implies]
theorem k40 : E.Fn Tryz.prog 40 [] [mY] := by
 refine fn_of_row okf40 ?_;simp only [FRow.start, f40, c40r0, c40r1, go_sem, Nat.reduceSub, Nat.reduceMul, true_implies];refine ⟨by decide, by decide, rfl, ints_one (xs := [1, 3]), ?_⟩
 refine callK_of rfl (k36 (l := [1, 3])) (.inr (.inl rfl)) ?_;simp only [ints, go_sem, Nat.reduceMul];refine ⟨by decide, by decide, rfl, ints_one (xs := [0, 1, 1, 0]), ?_⟩
 refine callK_of rfl (k80 (s := 1) (N := [[0, 1], [1, 0]]) (p := [1, 3]) (by decide) (by decide) (by decide) (by decide)) (.inr (.inl rfl)) ?_
 simp only [mY, mc, intss, ints, SV.cells, splice, go_sem, Nat.reduceAdd, true_implies]
theorem k41 : E.Fn Tryz.prog 41 [] [mR] := by
 refine fn_of_row okf41 ?_;simp only [FRow.start, f41, c41r0, c41r1, go_sem, Nat.reduceSub, Nat.reduceMul, true_implies];refine ⟨by decide, by decide, rfl, ints_one (xs := [0, 6]), ?_⟩
 refine callK_of rfl (k36 (l := [0, 6])) (.inr (.inl rfl)) ?_;simp only [ints, go_sem, Nat.reduceMul];refine ⟨by decide, by decide, rfl, ints_one (xs := [2, 1, 1, 1]), ?_⟩
 refine callK_of rfl (k80 (s := 4) (N := [[2, 1], [1, 1]]) (p := [0, 6]) (by decide) (by decide) (by decide) (by decide)) (.inr (.inl rfl)) ?_
 simp only [mR, mc, intss, ints, SV.cells, splice, go_sem, Nat.reduceAdd, true_implies]
def nW : List (List Int) := [[3, 1], [2, 2]]
def nX : List (List Int) := [[0, 1, 1], [0, 2, 0], [0, 0, 2]]
def nY : List (List Int) := [[0, 1], [1, 0]]
def nR : List (List Int) := [[2, 1], [1, 1]]
theorem qW0 : chkM 4 nW [0, 6] = 0 := by decide +kernel
theorem qX0 : chkM 2 nX [1, 0, 4] = 0 := by decide +kernel
theorem qY0 : chkM 1 nY [1, 3] = 0 := by decide +kernel
theorem qR0 : chkR 4 nR [0, 6] = 0 := by decide +kernel
theorem qR1 : chkM 4 nR [0, 6] = 14 := by decide +kernel
theorem qX1 : parts nX = [[1], [2]] := by decide +kernel
theorem qY1 : parts nY = [[0, 1]] := by decide +kernel
theorem qW2 : setE 4 nW [0, 6] = 0 := by decide +kernel
theorem qX2 : setE 2 nX [1, 0, 4] = 17 := by decide +kernel
theorem qX3 : landsQ 2 nX 0 [1] = (1, 2) := by decide +kernel
theorem qW4 : sharesQ 4 nW = [(2, 3), (1, 3)] := by decide +kernel
theorem qW5 : paysQ 4 nW [0, 6] = (2, 1) := by decide +kernel
theorem qW6 : ckP 4 nW [0, 6] 1 2 [0, 8] = (3, 0) := by decide +kernel
theorem qW7 : ckP 4 nW [0, 6] 1 3 [0, 8] = (1, 0) := by decide +kernel
theorem qW8 : ckP 4 nW [0, 6] 1 2 [0, 0] = (0, 14) := by decide +kernel
theorem qW9 : ckP 4 nW [0, 6] (prfD 4 nW (fst0 nW)) (prfG 4 nW [0, 6] (fst0 nW)) (prfH 4 nW [0, 6] (fst0 nW)) = (3, 0) := by decide +kernel
theorem qW10 : lst (fT 4 nW [0, 6] 0 3) (4 ^ 2) = (27, 8) := by decide +kernel
theorem qR11 : bestQ lessQ (payL 4 nR [0, 6]) = (3, 2) := by decide +kernel
theorem qR12 : bestQ moreQ (payL 4 nR [0, 6]) = (4, 1) := by decide +kernel
theorem w0 : E.Fn Tryz.prog 42 [mW] [.int .i64 0] := by
 have h := k42 (s := 4) (N := nW) (p := [0, 6]);rw [qW2] at h;exact h
theorem w1 : E.Fn Tryz.prog 42 [mX] [.int .i64 17] := by
 have h := k42 (s := 2) (N := nX) (p := [1, 0, 4]);rw [qX2] at h;exact h
theorem w2 : E.Fn Tryz.prog 33 [mX] [intss [[1], [2]], .int .i64 0] := by
 have h := k33 (s := 2) (N := nX) (p := [1, 0, 4]);unfold partsR at h;rw [if_pos qX0, qX1] at h;exact h
theorem w3 : E.Fn Tryz.prog 13 [mX, .int .i64 0, .int .i64 0] [rat (1, 2), .int .i64 0] := by
 have h := k13 (s := 2) (N := nX) (p := [1, 0, 4]) (state := 0) (part := 0);unfold landsR at h;rw [if_pos qX0, qX1, if_pos (by decide)] at h
 rw [show landsQ 2 nX 0 ((([[1], [2]] : List (List Int))[(0 : Int).toNat]?).getD []) = (1, 2) from qX3] at h;exact h
theorem w4 : E.Fn Tryz.prog 13 [mX, .int .i64 0, .int .i64 2] [rat (0, 0), .int .i64 2] := by
 have h := k13 (s := 2) (N := nX) (p := [1, 0, 4]) (state := 0) (part := 2);unfold landsR at h;rw [if_pos qX0, qX1, if_neg (by decide)] at h
 exact h
theorem w5 : E.Fn Tryz.prog 15 [mY, .int .i64 0] [.int .i64 2, .int .i64 0] := by
 have h := k15 (s := 1) (N := nY) (p := [1, 3]) (part := 0);unfold perR at h;rw [if_pos qY0, qY1, if_pos (by decide)] at h
 rw [show perN (gr nY) nY.length (partC nY (0 : Int).toNat) = 2 from by decide +kernel] at h
 exact h
theorem w6 : E.Fn Tryz.prog 17 [mW] [rats [(2, 3), (1, 3)], .int .i64 0] := by
 have h := k17 (s := 4) (N := nW) (p := [0, 6]);unfold sharesR at h;rw [if_pos qW2, qW4] at h;exact h
theorem w7 : E.Fn Tryz.prog 19 [mW] [rat (2, 1), .int .i64 0] := by
 have h := k19 (s := 4) (N := nW) (p := [0, 6]);unfold paysR at h;rw [if_pos qW2, qW5] at h;exact h
theorem w8 : E.Fn Tryz.prog 19 [mX] [rat (0, 0), .int .i64 17] := by
 have h := k19 (s := 2) (N := nX) (p := [1, 0, 4]);unfold paysR at h;rw [qX2, if_neg (by decide)] at h
 exact h
theorem w9 : E.Fn Tryz.prog 29 [mW, prV 1 2 [0, 8]] [.int .i64 3, .int .i64 0] := by
 have h := k29 (s := 4) (N := nW) (p := [0, 6]) (d := 1) (g := 2) (hs := [0, 8]);rw [qW6] at h;exact h
theorem w10 : E.Fn Tryz.prog 29 [mW, prV 1 3 [0, 8]] [.int .i64 1, .int .i64 0] := by
 have h := k29 (s := 4) (N := nW) (p := [0, 6]) (d := 1) (g := 3) (hs := [0, 8]);rw [qW7] at h;exact h
theorem w11 : E.Fn Tryz.prog 29 [mW, prV 1 2 [0, 0]] [.int .i64 0, .int .i64 14] := by
 have h := k29 (s := 4) (N := nW) (p := [0, 6]) (d := 1) (g := 2) (hs := [0, 0]);rw [qW8] at h;exact h
theorem w12 : E.Fn Tryz.prog 28 [mW] [prV (prfD 4 nW (fst0 nW)) (prfG 4 nW [0, 6] (fst0 nW)) (prfH 4 nW [0, 6] (fst0 nW)), .int .i64 0] := by
 have h := k28 (s := 4) (N := nW) (p := [0, 6]);unfold proofR at h;rw [if_pos qW2] at h;exact h
theorem w13 : E.Fn Tryz.prog 22 [mW, .int .i64 0, .int .i64 3] [rat (27, 8), .int .i64 0] := by
 have h := k22 (s := 4) (N := nW) (p := [0, 6]) (state := 0) (plays := 3);unfold firstR at h;rw [if_pos qW0, if_pos (by decide), show lst (fT 4 nW [0, 6] (0 : Int).toNat (3 : Int).toNat) (4 ^ ((3 : Int).toNat - 1)) = (27, 8) from qW10] at h
 exact h
theorem w14 : E.Fn Tryz.prog 22 [mW, .int .i64 0, .int .i64 11] [rat (0, 0), .int .i64 2] := by
 have h := k22 (s := 4) (N := nW) (p := [0, 6]) (state := 0) (plays := 11);unfold firstR at h;rw [if_pos qW0, if_neg (by decide)] at h
 exact h
theorem w15 : E.Fn Tryz.prog 44 [mR] [.int .i64 0] := by
 have h := k44 (s := 4) (N := nR) (p := [0, 6]);rw [qR0] at h;exact h
theorem w16 : E.Fn Tryz.prog 45 [mR] [.int .i64 14] := by
 have h := k45 (s := 4) (N := nR) (p := [0, 6]);rw [qR1] at h;exact h
theorem w17 : E.Fn Tryz.prog 24 [mR] [rat (3, 2), rat (4, 1), .int .i64 0] := by
 have h := k24 (s := 4) (N := nR) (p := [0, 6]);unfold betR at h;rw [if_pos qR0, qR11, qR12] at h;exact h
theorem w18 : E.Fn Tryz.prog 30 [mW, prV (prfD 4 nW (fst0 nW)) (prfG 4 nW [0, 6] (fst0 nW)) (prfH 4 nW [0, 6] (fst0 nW))] [.int .i64 3, .int .i64 0] := by
 have h := k30 (s := 4) (N := nW) (p := [0, 6]) (d := prfD 4 nW (fst0 nW)) (g := prfG 4 nW [0, 6] (fst0 nW)) (hs := prfH 4 nW [0, 6] (fst0 nW));rw [qW9] at h;exact h
theorem w19 : E.Fn Tryz.prog 46 [intss [[1], [2]], intss [[1], [2]]] [.bool true] := k46 (xs := [[1], [2]]) (ys := [[1], [2]])
theorem w20 : E.Fn Tryz.prog 21 [rats [(2, 3), (1, 3)], rats [(2, 3), (1, 3)]] [.bool true] := k21 (xs := [(2, 3), (1, 3)]) (ys := [(2, 3), (1, 3)])
set_option maxHeartbeats 4000000 in
theorem works_ok : E.Fn Tryz.prog 12 [] [.bool true] := by
 refine fn_of_row okf12 ?_;have e43 : ∀ {a b : Int} {l : List Int}, E.Fn Tryz.prog 43 [.int .i64 a, .int .i64 b, ints l] [prV a b l] := k43;simp only [FRow.start, f12, c12r0, c12r1, go_sem, Nat.reduceSub, true_implies];refine callK_of rfl k38 (.inr (.inl rfl)) ?_;simp only [go_sem];refine callK_of rfl k39 (.inr (.inl rfl)) ?_;simp only [go_sem];refine callK_of rfl k40 (.inr (.inl rfl)) ?_;simp only [go_sem];refine callK_of rfl k41 (.inr (.inl rfl)) ?_;simp only [mW, mX, mY, mR, mc, SV.cells, splice, go_sem, Nat.reduceAdd, true_implies];simp only [c12r2, go_sem, Nat.reduceAdd];refine callK_of rfl w0 (.inl rfl) ?_;simp only [go_sem, Nat.reduceAdd];refine callK_of rfl w1 (.inl rfl) ?_;simp only [c12r3, go_sem, Nat.reduceAdd, true_implies];refine callK_of rfl w2 (.inr (.inl rfl)) ?_;simp only [c12r4, go_sem, Nat.reduceAdd, true_implies];refine callK_of rfl w3 (.inl rfl) ?_;simp only [rat, splice, go_sem, Nat.reduceAdd, true_implies];simp only [c12r5, go_sem, Nat.reduceAdd];refine callK_of rfl w4 (.inl rfl) ?_;simp only [rat, splice, go_sem, Nat.reduceAdd, true_implies];simp only [c12r6, go_sem, Nat.reduceAdd];refine callK_of rfl w5 (.inl rfl) ?_;simp only [c12r7, go_sem, Nat.reduceAdd, true_implies];refine callK_of rfl w6 (.inr (.inl rfl)) ?_;simp only [c12r8, go_sem, Nat.reduceAdd, true_implies];refine callK_of rfl w7 (.inl rfl) ?_;simp only [rat, splice, c12r9, go_sem, Nat.reduceAdd, true_implies];refine callK_of rfl w8 (.inl rfl) ?_;simp only [rat, splice, c12r10, go_sem, Nat.reduceAdd, Nat.reduceMul, true_implies];refine ⟨by decide, by decide, rfl, ints_one (xs := [0, 8]), ?_⟩
 refine callK_of rfl (e43 (a := 1) (b := 2) (l := [0, 8])) (.inr (.inl rfl)) ?_;simp only [go_sem];refine callK_of rfl w9 (.inl rfl) ?_;simp only [c12r11, go_sem, Nat.reduceAdd, Nat.reduceMul, true_implies];refine ⟨by decide, by decide, rfl, ints_one (xs := [0, 8]), ?_⟩
 refine callK_of rfl (e43 (a := 1) (b := 3) (l := [0, 8])) (.inr (.inl rfl)) ?_;simp only [go_sem];refine callK_of rfl w10 (.inl rfl) ?_;simp only [c12r12, go_sem, Nat.reduceAdd, Nat.reduceMul, true_implies];refine ⟨by decide, by decide, rfl, ints_one (xs := [0, 0]), ?_⟩
 refine callK_of rfl (e43 (a := 1) (b := 2) (l := [0, 0])) (.inr (.inl rfl)) ?_;simp only [go_sem];refine callK_of rfl w11 (.inl rfl) ?_;simp only [c12r13, go_sem, Nat.reduceAdd, true_implies];refine callK_of rfl w12 (.inr (.inl rfl)) ?_;simp only [prV, SV.cells, splice, c12r14, go_sem, Nat.reduceAdd, true_implies];refine callK_of rfl w13 (.inl rfl) ?_;simp only [rat, splice, c12r15, go_sem, Nat.reduceAdd, true_implies];refine callK_of rfl w14 (.inl rfl) ?_;simp only [rat, splice, c12r16, go_sem, Nat.reduceAdd, true_implies];refine callK_of rfl w15 (.inl rfl) ?_;simp only [go_sem, Nat.reduceAdd];refine callK_of rfl w16 (.inl rfl) ?_;simp only [c12r17, go_sem, Nat.reduceAdd, true_implies];refine callK_of rfl w17 (.inl rfl) ?_;simp only [rat, splice, c12r18, c12r20, go_sem, Nat.reduceAdd, true_implies];refine callK_of rfl w18 (.inl rfl) ?_;simp only [c12r21, go_sem, Nat.reduceAdd, Nat.reduceMul, true_implies];refine ⟨by decide, by decide, rfl, ints_one (xs := [1]), ?_⟩
 refine callK_of rfl (k47 (l := [1])) (.inr (.inl rfl)) ?_;simp only [go_sem, Nat.reduceMul];refine ⟨by decide, by decide, rfl, ints_one (xs := [2]), ?_⟩
 refine callK_of rfl (k47 (l := [2])) (.inr (.inl rfl)) ?_;simp only [go_sem, Nat.reduceMul];refine ⟨by decide, by decide, rfl, by intro e he; simp only [List.mem_cons, List.not_mem_nil, or_false] at he; rcases he with rfl | rfl <;> rfl, ?_⟩
 refine callK_of rfl w19 (.inl rfl) ?_;simp only [go_sem, Nat.reduceAdd];refine callK_of rfl (k48 (a := 1) (b := 2)) (.inl rfl) ?_;simp only [rat, go_sem];refine callK_of rfl (k48 (a := 2) (b := 3)) (.inl rfl) ?_;simp only [rat, go_sem];refine callK_of rfl (k48 (a := 1) (b := 3)) (.inl rfl) ?_;simp only [rat, go_sem, Nat.reduceAdd, Nat.reduceMul];refine ⟨by decide, by decide, rfl, by intro e he; simp only [List.mem_cons, List.not_mem_nil, or_false] at he; rcases he with rfl | rfl <;> rfl, ?_⟩
 refine callK_of rfl w20 (.inl rfl) ?_;simp only [go_sem, Nat.reduceAdd];refine callK_of rfl (k48 (a := 2) (b := 1)) (.inl rfl) ?_;simp only [rat, go_sem, Nat.reduceAdd];refine callK_of rfl (k48 (a := 27) (b := 8)) (.inl rfl) ?_;simp only [rat, go_sem, Nat.reduceAdd];refine callK_of rfl (k48 (a := 3) (b := 2)) (.inl rfl) ?_;simp only [rat, go_sem, Nat.reduceAdd];refine callK_of rfl (k48 (a := 4) (b := 1)) (.inl rfl) ?_;simp only [rat, go_sem, true_implies]
 done
theorem wk {H : List ABlock} {k : AK} (hk : k (LV.ofResults [.bool true]) H none True) : callK Tryz.prog H 12 [] k := callK_of rfl works_ok (.inl rfl) hk
end Go.Proofs.YtikfhfgdmlijeaaGreat.Sk
namespace Go.Proofs.YtikfhfgdmlijeaaGreat.Sk
open Go Go.E Go.Deep
def memOf (w : World) : Mem := ⟨fun b o => w.cell? ⟨b, o, Option.none⟩, fun _ => Option.none⟩
theorem memOf_holds (w : World) : E.Holds (memOf w) w := ⟨fun _ _ _ h => h, fun _ _ h => (by cases h)⟩
theorem mapM_get {α β : Type} {f : α -> Option β} : ∀ (l : List α) (ys : List β), l.mapM f = some ys -> ys.length = l.length /\ ∀ (i : Nat) x, l[i]? = some x -> ∃ y, f x = some y /\ ys[i]? = some y
 | [], ys, h => by
  simp only [List.mapM_nil, Option.pure_def, Option.some.injEq] at h;subst h;simp
 | x :: l, ys, h => by
  simp only [List.mapM_cons, Option.pure_def, Option.bind_eq_bind, Option.bind_eq_some_iff, Option.some.injEq] at h;obtain ⟨y, h1, zs, h2, rfl⟩ := h;have ih := mapM_get l zs h2;refine ⟨by simp [ih.1], fun i x' hx => ?_⟩
  cases i with
  | zero => simp only [List.getElem?_cons_zero, Option.some.injEq] at hx; subst hx; exact ⟨y, h1, rfl⟩
  | succ i => simp only [List.getElem?_cons_succ] at hx ⊢; exact ih.2 i x' hx
theorem cells_at {w : World} {base n : Nat} {a : Addr} {us : List Value} (h : w.cells? base a n = some us) : us.length = n /\ (memOf w).At a.block a.off us /\ (0 < n -> a.spot = Option.none) := by
 unfold World.cells? at h
 split at h
 ·obtain ⟨h1, h2⟩ := mapM_get _ _ h
  simp only [List.length_range] at h1
  have h3 : ∀ i, i < n -> w.cell? (a.add i) = us[i]? := fun i hi => by
   obtain ⟨y, h4, h5⟩ := h2 i i (by rw [List.getElem?_range hi])
   rw [h4, h5]
  have hsp : 0 < n -> a.spot = Option.none := fun h0 => by
   have h4 := h3 0 h0;rw [List.getElem?_eq_getElem (by omega)] at h4
   unfold World.cell? at h4;simp only [Addr.add, if_true] at h4
   split at h4
   ·split at h4
    ·cases h4
    ·rename_i hn; simpa using hn
   ·cases h4
  refine ⟨h1, fun j v hv => ?_, hsp⟩
  have hj : j < n := by have := (List.getElem?_eq_some_iff.1 hv).1; omega
  have h4 := h3 j hj;rw [hv] at h4;simp only [memOf];have h5 := hsp (by omega)
  unfold Addr.add at h4
  split at h4
  ·rename_i h6; subst h6
   rw [Nat.add_zero, <- h4]
   congr 1
   cases a
   simp_all
  ·exact h4
 ·cases h
theorem at_append {M : Mem} {b o : Nat} {us vs : List Value} (h : M.At b o us) (k : M.At b (o + us.length) vs) : M.At b o (us ++ vs) := fun j v hv => by
 rw [List.getElem?_append] at hv
 split at hv
 ·exact h j v hv
 ·have := k _ v hv
  rw [show o + us.length + (j - us.length) = o + j by omega] at this
  exact this
theorem rows_rel {α : Type} {M : Mem} {e : α -> SV} {G : α -> Prop} {b sz : Nat} : ∀ (n o : Nat), (∀ i, i < n -> ∃ a us, us.length = sz /\ M.At b (o + i * sz) us /\ CRel M (e a) us /\ G a) ->
  ∃ (vs : List α) (uss : List (List Value)), vs.length = n /\ CRelC M (vs.map e) uss /\ (∀ u ∈ uss, u.length = sz) /\ M.At b o uss.flatten /\ ∀ a ∈ vs, G a
 | 0, o, _ => ⟨[], [], rfl, rfl, by simp, fun j v hv => (by simp at hv), by simp⟩
 | n + 1, o, h => by
  obtain ⟨a, us, h1, h2, h3, h4⟩ := h 0 (by omega)
  obtain ⟨vs, uss, k1, k2, k3, k4, k5⟩ := rows_rel n (o + sz) fun i hi => by
   obtain ⟨a, us, h1, h2, h3, h4⟩ := h (i + 1) (by omega)
   exact ⟨a, us, h1, by rw [Nat.succ_mul] at h2; rw [show o + sz + i * sz = o + (i * sz + sz) by omega]; exact h2, h3, h4⟩
  refine ⟨a :: vs, us :: uss, by simp [k1], ⟨us, uss, rfl, h3, k2⟩, ?_, ?_, ?_⟩
  ·intro u hu
   rcases List.mem_cons.1 hu with rfl | hu
   ·exact h1
   ·exact k3 u hu
  ·rw [List.flatten_cons]
   exact at_append (by simpa using h2) (by rw [h1]; exact k4)
  ·intro x hx
   rcases List.mem_cons.1 hx with rfl | hx
   ·exact h4
   ·exact k5 x hx
section
variable {H : Type} {enc : TypeId × Value -> H} {P : Program} {w : World} {base : Nat} {sp : Nat -> Bool} {held : Bool} {fuel : Nat} {t et : TypeId} {cs : List Value} {x : DataW H × List MemPlace}
theorem trodAll_lt : ∀ {ts : List TypeId} {vs : List Value} {ds : List (DataW H)} {ps : List MemPlace}, DataW.TrodAll enc P w base sp held ts vs ds ps -> ∀ p ∈ ps, p.block < w.heap.size
 | [], _, _, _, h => by
  obtain ⟨rfl, rfl, rfl⟩ := ChangeShapes.trodAll_nil h;simp
 | t :: ts, _, _, _, h => by
  obtain ⟨v, vs, d, ds, p, q, rfl, rfl, rfl, ⟨fuel, h1⟩, h2⟩ := ChangeShapes.trodAll_cons h;intro y hy
  rcases List.mem_append.1 hy with hy | hy
  ·exact DataW.trod_lt _ _ _ _ h1 y hy
  ·exact trodAll_lt h2 y hy
theorem rel_int {k : IntKind} (ht : P.underlying t = some (.int k)) (h : DataW.trod enc P w base sp held fuel t cs = some x) : ∃ n : Int, CRel (memOf w) (.int k n) cs /\ (Lit.int k n).wf = true := by
 obtain ⟨n, rfl, _, hw⟩ := DataW.trod_int ht h;exact ⟨n, rfl, hw⟩
theorem add_block (a : Addr) (n : Nat) : (a.add n).block = a.block /\ (a.add n).off = a.off + n := by
 unfold Addr.add
 split
 ·rename_i h; subst h; exact ⟨rfl, rfl⟩
 ·exact ⟨rfl, rfl⟩
theorem rel_slice {α : Type} {e : α -> SV} {G : α -> Prop} (ht : P.underlying t = some (.slice et)) (hz : 0 < P.cellsOf et)
  (hel : ∀ (n : Nat) (us : List Value) (y : DataW H × List MemPlace), us.length = P.cellsOf et -> DataW.trod enc P w base sp held n et us = some y -> ∃ a, CRel (memOf w) (e a) us /\ G a)
  (h : DataW.trod enc P w base sp held fuel t cs = some x) : ∃ l : List α, CRel (memOf w) (.slice (l.map e)) cs /\ ∀ a ∈ l, G a := by
 rcases DataW.trod_slice ht h with ⟨rfl, _⟩ | ⟨a, len, cap, elems, rest, n, _, rfl, _, _, hl, hc, hlen, hE, _⟩
 ·exact ⟨[], by simp only [CRel]; exact ⟨Option.none, 0, 0, rfl, rfl, Nat.le_refl _, Nat.zero_le _, .inl rfl⟩, by simp⟩
 ·by_cases h0 : len = 0
  ·subst h0
   exact ⟨[], by simp only [CRel]; exact ⟨_, 0, cap, rfl, rfl, hl, hc, .inl rfl⟩, by simp⟩
  ·have hrow : ∀ i, i < len -> ∃ us y, w.cells? base (a.add (i * P.cellsOf et)) (P.cellsOf et) = some us /\ DataW.trod enc P w base sp held n et us = some y := fun i hi => by
    have h1 := hE i hi;rw [List.getElem?_eq_getElem (by omega)] at h1
    simp only [Option.bind_eq_some_iff] at h1;obtain ⟨us, h2, h3⟩ := h1;exact ⟨us, _, h2, h3⟩
   have hsp : a.spot = Option.none := by
    obtain ⟨us, y, h1, _⟩ := hrow 0 (by omega)
    have := (cells_at h1).2.2 hz
    simpa [Addr.add] using this
   obtain ⟨vs, uss, k1, k2, k3, k4, k5⟩ := rows_rel (M := memOf w) (e := e) (G := G) (b := a.block) (sz := P.cellsOf et) len a.off fun i hi => by
    obtain ⟨us, y, h1, h2⟩ := hrow i hi;obtain ⟨h3, h4, _⟩ := cells_at h1;obtain ⟨v, h5, h6⟩ := hel n us y h3 h2;rw [(add_block a _).1, (add_block a _).2] at h4;exact ⟨v, us, h3, h4, h5, h6⟩
   refine ⟨vs, ?_, k5⟩;simp only [CRel];exact ⟨_, len, cap, rfl, by simp [k1], hl, hc, .inr ⟨a.block, a.off, P.cellsOf et, uss, by cases a; simp_all, k2, k3, k4⟩⟩
theorem vrel_agg {M : Mem} {v : SV} {c : Array Value} (h : CRel M v c.toList) (hv : v.isAgg = true) : VRel M v (.agg c) := ⟨c.toList, h, by simp [SV.mk, hv]⟩
end
section
variable {H : Type} {enc : TypeId × Value -> H} {w : World} {sp : Nat -> Bool} {held : Bool} {fuel : Nat} {cs : List Value} {x : DataW H × List MemPlace}
theorem rel_ints (h : DataW.trod enc Tryz.prog w 0 sp held fuel 23 cs = some x) : ∃ l : List Int, CRel (memOf w) (ints l) cs := by
 obtain ⟨l, h1, _⟩ := rel_slice (e := .int .i64) (G := fun _ => True) Tryz.underlying23 (by rw [show Tryz.prog.cellsOf _ = 1 from by kernel_rfl]; exact Nat.one_pos) (fun n us y _ hy => by obtain ⟨m, hm, _⟩ := rel_int Tryz.underlying2 hy; exact ⟨m, hm, trivial⟩) h
 exact ⟨l, h1⟩
theorem rel_intss (h : DataW.trod enc Tryz.prog w 0 sp held fuel 22 cs = some x) : ∃ l : List (List Int), CRel (memOf w) (intss l) cs := by
 obtain ⟨l, h1, _⟩ := rel_slice (e := ints) (G := fun _ => True) Tryz.underlying22 (by rw [show Tryz.prog.cellsOf _ = 1 from by kernel_rfl]; exact Nat.one_pos) (fun n us y _ hy => by obtain ⟨m, hm⟩ := rel_ints hy; exact ⟨m, hm, trivial⟩) h
 exact ⟨l, h1⟩
set_option maxRecDepth 100000 in
theorem rel_mach (h : DataW.trod enc Tryz.prog w 0 sp held fuel 25 cs = some x) : ∃ s N p, CRel (memOf w) (mc s N p) cs := by
 obtain ⟨y0, y1, y2, m, _, hl, h0, h1, h2⟩ := trod_struct3 Tryz.underlying25 h;have hc : Tryz.prog.cellsOf 25 = 3 := by kernel_rfl
 have hc2 : Tryz.prog.cellsOf 2 = 1 := by kernel_rfl
 have hc22 : Tryz.prog.cellsOf 22 = 1 := by kernel_rfl
 have hc23 : Tryz.prog.cellsOf 23 = 1 := by kernel_rfl
 rw [hc] at hl
 match cs, hl with
 | [c0, c1, c2], _ =>
  simp only [hc2, hc22, hc23, List.drop_zero, List.drop_succ_cons, List.take_succ_cons, List.take_zero] at h0 h1 h2;obtain ⟨s, r0, _⟩ := rel_int Tryz.underlying2 h0;obtain ⟨N, r1⟩ := rel_intss h1;obtain ⟨p, r2⟩ := rel_ints h2;exact ⟨s, N, p, by simp only [mc, CRel]; exact ⟨_, _, rfl, r0, _, _, rfl, r1, _, _, rfl, r2, rfl⟩⟩
end
end Go.Proofs.YtikfhfgdmlijeaaGreat.Sk
namespace Go.Proofs.YtikfhfgdmlijeaaGreat.Sk
section
variable {s : Int} {N : List (List Int)} {p : List Int} {c : Nat}
end
end Go.Proofs.YtikfhfgdmlijeaaGreat.Sk
namespace Go.Proofs.YtikfhfgdmlijeaaGreat.Sk
open Go Go.E Go.E.Sm
set_option maxRecDepth 10000
section
variable {g : Nat -> Nat -> Bool} {n : Nat}
end
end Go.Proofs.YtikfhfgdmlijeaaGreat.Sk
namespace Go.Proofs.YtikfhfgdmlijeaaGreat.Sk
section
variable {s : Int} {N : List (List Int)} {p : List Int}
end
end Go.Proofs.YtikfhfgdmlijeaaGreat.Sk
namespace Go.Proofs.YtikfhfgdmlijeaaGreat.Sk
open Go Go.E Go.E.Sm
set_option maxRecDepth 10000
theorem k75 {n t : Nat} (hn : n <= 4) (ht : t <= 4) : E.Fn Tryz.prog 75 [.int .i64 n, .int .i64 t] [.int .i64 (n ^ t : Nat)] := by
 refine fn_of_row okf75 ?_;have hb : ∀ i, i <= 4 -> n ^ i <= 256 := fun i hi => Nat.le_trans (Nat.pow_le_pow_left hn i) (Nat.le_trans (Nat.pow_le_pow_right (by decide) hi) (by decide))
 simp only [FRow.start, f75, c75r0, c75r1, c75r2, go_sem, Nat.reduceAdd, Nat.reduceSub, true_implies]
 refine loop_rule (fun k τ => ∃ i : Nat, k = t - i /\ i <= t /\
  τ = ⟨[aI n, aI t, .any, .any, .any, aI (n ^ i : Nat), aI i, .any, .any, .any, .any, .any, .any, .any, .any, .any], []⟩) t rfl ?_ ?_
 ·simp only [c75l6m, go_sem]
  exact ⟨0, rfl, Nat.zero_le _, rfl⟩
 ·rintro I k τ ⟨i, rfl, hi, rfl⟩ hI
  have h1 := hb i (by omega)
  have e1 : ((n ^ i : Nat) : Int) * (n : Nat) = ((n ^ (i + 1) : Nat) : Int) := by rw [Nat.pow_succ, Int.natCast_mul]
  simp only [c75l6, c75r3, go_sem, ↓reduceIte, true_implies];refine ⟨fun hlt => ?_, fun hge => ?_⟩
  ·have h2 := hb (i + 1) (by omega)
   simp only [c75r4, e1, c75r5, c75l6m, go_sem, true_implies];exact ⟨inR_small (by omega) (by omega), inR_small (by omega) (by omega), hI (t - (i + 1)) _ (by omega) ⟨i + 1, rfl, by omega, rfl⟩⟩
  ·have hie : i = t := by omega
   subst hie;simp only [c75r7, go_sem, true_implies]
   done
theorem k74 {n num : Nat} (hn : 1 <= n) (h4 : n <= 4) (hm : num < 2 ^ 60) : E.Fn Tryz.prog 74 [.int .i64 n, .int .i64 num] [ints (nats (toL n num))] := by
 refine fn_of_row okf74 ?_;obtain ⟨T, hT⟩ : ∃ T : Nat -> List Int, ∀ i, T i = (List.range i).map fun j => ((chN n num j : Nat) : Int) := ⟨_, fun _ => rfl⟩
 have hTs : ∀ i, T (i + 1) = T i ++ [((chN n num i : Nat) : Int)] := fun i => by rw [hT, hT, List.range_succ, List.map_append]; rfl
 have hTl : ∀ i, (T i).length = i := fun i => by rw [hT]; simp
 have hTn : T n = nats (toL n num) := by rw [hT]; unfold nats toL; rw [List.map_map]; rfl
 simp only [FRow.start, f74, c74r0, c74r1, c74r2, go_sem, Nat.reduceAdd, Nat.reduceSub, true_implies]
 refine loop_rule (fun k τ => ∃ i : Nat, k = n - i /\ i <= n /\
  τ = ⟨((aI n)::(aI (num / n ^ i : Nat))::aN::aN::aN::(.sl 0 0 i 1 false)::(aI i)::aN::aN::aN::aN::aN::aN::aN::aZ8), [.row ((T i).map (.int .i64))]⟩) n (promo_one rfl) ?_ ?_
 ·simp only [c74l7m, go_sem, ↓reduceIte, reduceCtorEq, Nat.reduceLeDiff]
  exact ⟨0, rfl, Nat.zero_le _, by rw [Nat.pow_zero, Nat.div_one, hT]; rfl⟩
 ·rintro I k τ ⟨i, rfl, hi, rfl⟩ hI
  have hb : num / n ^ i <= num := Nat.div_le_self _ _;have e1 : ((num / n ^ i : Nat) : Int).tmod (n : Nat) = ((chN n num i : Nat) : Int) := (Int.ofNat_tmod _ _).symm
  have e2 : ((num / n ^ i : Nat) : Int).tdiv (n : Nat) = ((num / n ^ (i + 1) : Nat) : Int) := by
   rw [<- Int.ofNat_tdiv, Nat.div_div_eq_div_mul, Nat.pow_succ]
  have hs := hTs i;have hl := hTl i;simp only [c74l7, c74r3, go_sem, ↓reduceIte, true_implies];refine ⟨fun hlt => ?_, fun hge => ?_⟩
  ·simp only [c74r4, e1, go_sem, Nat.reduceAdd, Nat.reduceMul, true_implies]
   refine ⟨by omega, by decide, by decide, rfl, one_int, one_int, by rw [hl, Nat.mul_one], by omega, by omega, ?_⟩
   have e3 : (T i).map (SV.int .i64) ++ flatE [.int .i64 ((chN n num i : Nat) : Int)] = (T (i + 1)).map (.int .i64) := by rw [hs, List.map_append]; rfl
   rw [e3];simp only [c74r5, e2, c74r6, c74l7m, go_sem, ↓reduceIte, reduceCtorEq, Nat.reduceAdd, Nat.reduceLeDiff, true_implies];have hb2 : num / n ^ (i + 1) <= num := Nat.div_le_self _ _;generalize hz : num / n ^ (i + 1) = z at *;exact ⟨by omega, inR_small (by omega) (by omega), inR_small (by omega) (by omega), hI (n - (i + 1)) _ (by omega) ⟨i + 1, rfl, by omega, by rw [hz]; rfl⟩⟩
  ·have hie : i = n := by omega
   subst hie;simp only [c74r8, go_sem, true_implies];refine exO_of (slice_all hl.symm) ?_;rw [hTn]
def endI (to : Nat -> Nat) (stops m a : Nat) : Int := match endK to stops m a with | some x => (x : Nat) | none => -1
theorem k110 {to : List Nat} {f stops : Nat} (hl : to.length <= 8) (ht : ∀ x ∈ to, x < to.length) (hf : f < to.length) (hs : stops < 2 ^ 62) : E.Fn Tryz.prog 110 [ints (nats to), .int .i64 f, .int .i64 stops] [.int .i64 (endI (fun i => to[i]?.getD 0) stops (to.length + 1) f)] := by
 refine fn_of_row okf110 ?_;generalize hq : endI (fun i => to[i]?.getD 0) stops (to.length + 1) f = q
 unfold endI at hq;simp only [FRow.start, f110, c110r0, c110r1, c110r2, ints, go_sem, Nat.reduceAdd, Nat.reduceSub, true_implies]
 refine loop_rule (fun k τ => ∃ i a : Nat, k = to.length + 1 - i /\ i <= to.length + 1 /\ a < to.length /\ endK (fun i => to[i]?.getD 0) stops (to.length + 1) f = endK (fun i => to[i]?.getD 0) stops (to.length + 1 - i) a /\
  τ = ⟨((.s (ints (nats to)))::aN::(aI stops)::aN::aN::aN::aN::(aI a)::(aI i)::aN::aZ16), []⟩) (to.length + 1) rfl ?_ ?_
 ·simp only [c110l8m, go_sem]
  exact ⟨0, f, rfl, Nat.zero_le _, hf, rfl, rfl⟩
 ·rintro I k τ ⟨i, a, rfl, hi, ha, he, rfl⟩ hI
  have hnl : (nats to).length = to.length := by simp [nats]
  simp only [c110l8, c110r3, ints, hnl, go_sem, ↓reduceIte];intro _;refine ⟨fun hlt => ?_, fun hge => ?_⟩
  ·have hm : endK (fun i => to[i]?.getD 0) stops (to.length + 1 - i) a = if stops.testBit a then some a else endK (fun i => to[i]?.getD 0) stops (to.length + 1 - (i + 1)) (to[a]?.getD 0) := by
    rw [show to.length + 1 - i = to.length + 1 - (i + 1) + 1 by omega, endK]
   rw [hm] at he;simp only [c110r4, go_sem, true_implies];refine ⟨by omega, ?_⟩
   rw [low_bit hs]
   cases hb : stops.testBit a with
   | true =>
    rw [hb, if_pos rfl] at he;rw [he] at hq;simp only [c110r5, go_sem, ↓reduceIte, not_true_eq_false, false_implies, true_implies];rw [<- hq]
   | false =>
    rw [hb, if_neg (by simp)] at he
    obtain ⟨x, hx⟩ : ∃ x, to[a]? = some x := ⟨_, List.getElem?_eq_getElem ha⟩;have hx2 : (nats to)[a]? = some (x : Int) := by unfold nats; rw [List.getElem?_map, hx]; rfl
    rw [hx, Option.getD_some] at he;simp only [Bool.false_eq_true, Int.reduceEq, c110r6, hx2, c110r7, c110l8m, go_sem, ↓reduceIte, false_implies, true_implies, not_false_eq_true];exact ⟨inR_small (by omega) (by omega), hI (to.length + 1 - (i + 1)) _ (by omega) ⟨i + 1, x, rfl, by omega, ht x (List.mem_of_getElem? hx), he, by rw [ints]; rfl⟩⟩
  ·have hie : i = to.length + 1 := by omega
   subst hie;rw [Nat.sub_self, endK] at he;rw [he] at hq;simp only [c110r9, go_sem, Int.reduceNeg, true_implies];rw [<- hq]
def wyT (a : Nat -> Nat -> Int) (n stops num : Nat) : Nat -> Int
 | 0 => 1
 | j + 1 => if stops.testBit j then (if chN n num j = 0 then wyT a n stops num j else 0) else (if (endK (chN n num) stops (n + 1) j).isSome then wyT a n stops num j * a j (chN n num j) else 0)
theorem foldr_mul {l : List Int} {c : Int} : l.foldr (· * ·) c = l.foldr (· * ·) 1 * c := by
 induction l with
 | nil => simp
 | cons x l ih => rw [List.foldr_cons, List.foldr_cons, ih, Int.mul_assoc]
section
variable {a : Nat -> Nat -> Int} {n stops num : Nat}
theorem wy_all : ∀ {j : Nat}, wyT a n stops num j = if (List.range j).all (fun i => if stops.testBit i then Nat.beq (chN n num i) 0 else (endK (chN n num) stops (n + 1) i).isSome) then ((List.range j).map fun i => if stops.testBit i then 1 else a i (chN n num i)).foldr (· * ·) 1 else 0
 | 0 => rfl
 | j + 1 => by
  rw [wyT, wy_all, List.range_succ, List.all_append, List.map_append, List.foldr_append, foldr_mul];simp only [List.map_cons, List.map_nil, List.all_cons, List.all_nil, List.foldr_cons, List.foldr_nil, Bool.and_true, Bool.and_eq_true, Int.mul_one]
  cases stops.testBit j with
  | true =>
   simp only [if_true]
   by_cases h : chN n num j = 0
   ·have hb : Nat.beq (chN n num j) 0 = true := by rw [h]; rfl
    rw [if_pos h, hb];simp
   ·have hb : ¬ Nat.beq (chN n num j) 0 = true := fun e => h (Nat.eq_of_beq_eq_true e)
    rw [if_neg h, if_neg fun e => hb e.2]
  | false =>
   simp only [Bool.false_eq_true, if_false]
   by_cases h : (endK (chN n num) stops (n + 1) j).isSome = true
   ·rw [if_pos h]
    simp only [h, and_true]
    split
    ·exact foldr_mul.symm
    ·rw [Int.zero_mul]
   ·rw [if_neg h, if_neg fun e => h e.2]
theorem wy_eq : wyT a n stops num n = if okW n stops num then prW a n stops num else 0 := wy_all
theorem wy_bd (ha : ∀ i k, 0 <= a i k /\ a i k <= 20) : ∀ {j : Nat}, 0 <= wyT a n stops num j /\ wyT a n stops num j <= ((20 ^ j : Nat) : Int)
 | 0 => ⟨show (0 : Int) <= 1 by decide, show (1 : Int) <= 1 by decide⟩
 | j + 1 => by
  have ih := wy_bd ha (j := j);have h0 : (0 : Int) <= ((20 ^ (j + 1) : Nat) : Int) := Int.natCast_nonneg _;have hp : ((20 ^ (j + 1) : Nat) : Int) = ((20 ^ j : Nat) : Int) * 20 := by rw [Nat.pow_succ, Int.natCast_mul]; rfl
  rw [wyT];generalize wyT a n stops num j = w at *;generalize ((20 ^ j : Nat) : Int) = t at *
  split
  ·split
   ·omega
   ·omega
  ·split
   ·have h1 := ha j (chN n num j)
    exact ⟨Int.mul_nonneg ih.1 h1.1, by rw [hp]; exact Int.mul_le_mul ih.2 h1.2 h1.1 (by omega)⟩
   ·omega
def woodT (a : Nat -> Nat -> Int) (n f stops e k : Nat) : Int := (((List.range k).filter (leadsTo n f stops e)).map (prW a n stops)).sum
theorem woodT_succ {f e k : Nat} : woodT a n f stops e (k + 1) = woodT a n f stops e k + if leadsTo n f stops e k then prW a n stops k else 0 := by
 unfold woodT;rw [List.range_succ, List.filter_append, List.map_append, List.sum_append]
 congr 1
 cases h : leadsTo n f stops e k with
 | true => simp [h]
 | false => simp [h]
def woodL (a : Nat -> Nat -> Int) (n f stops k : Nat) : List Int := (List.range n).map fun e => woodT a n f stops e k
theorem woodL_len {f k : Nat} : (woodL a n f stops k).length = n := by simp [woodL]
theorem woodL_get {f k e : Nat} (he : e < n) : (woodL a n f stops k)[e]? = some (woodT a n f stops e k) := by unfold woodL; rw [List.getElem?_map, List.getElem?_range he]; rfl
theorem woodL_zero {f : Nat} : woodL a n f stops 0 = List.replicate n 0 := by
 apply List.ext_getElem?
 intro i;rw [List.getElem?_replicate]
 by_cases h : i < n
 ·rw [woodL_get h, if_pos h]; rfl
 ·rw [if_neg h, List.getElem?_eq_none (by rw [woodL_len]; omega)]
theorem woodL_add {f k x : Nat} (ho : okW n stops k = true) (hx : endK (chN n k) stops (n + 1) f = some x) (hxn : x < n) : (woodL a n f stops k).set x (woodT a n f stops x k + prW a n stops k) = woodL a n f stops (k + 1) := by
 apply List.ext_getElem?
 intro i
 by_cases h : i < n
 ·rw [woodL_get h, woodT_succ]
  have hl : leadsTo n f stops i k = Nat.beq x i := by unfold leadsTo; rw [ho, hx]; rfl
  by_cases e : i = x
  ·subst e
   rw [List.getElem?_set_self (by rw [woodL_len]; exact h), hl, if_pos (Nat.beq_refl _)]
  ·rw [List.getElem?_set_ne (fun h => e h.symm), woodL_get h, hl, if_neg (fun hb => e (Nat.eq_of_beq_eq_true hb).symm), Int.add_zero]
 ·rw [List.getElem?_eq_none (by rw [List.length_set, woodL_len]; omega), List.getElem?_eq_none (by rw [woodL_len]; omega)]
theorem woodL_stay {f k : Nat} (hz : wyT a n stops k n = 0) : woodL a n f stops (k + 1) = woodL a n f stops k := by
 unfold woodL;refine List.map_congr_left fun e _ => ?_
 rw [woodT_succ]
 split
 ·rename_i hl
  have ho : okW n stops k = true := by
   unfold leadsTo at hl;rw [Bool.and_eq_true] at hl;exact hl.1
  rw [wy_eq, if_pos ho] at hz;rw [hz, Int.add_zero]
 ·rw [Int.add_zero]
theorem endK_ext {to to' : Nat -> Nat} (h : ∀ i, i < n -> to i = to' i /\ to i < n) : ∀ {m x : Nat}, x < n -> endK to stops m x = endK to' stops m x
 | 0, _, _ => rfl
 | m + 1, x, hx => by
  rw [endK, endK, (h x hx).1]
  split
  ·rfl
  ·exact endK_ext h (by rw [<- (h x hx).1]; exact (h x hx).2)
theorem endK_lt {to : Nat -> Nat} (h : ∀ i, i < n -> to i < n) : ∀ {m x y : Nat}, x < n -> endK to stops m x = some y -> y < n
 | 0, _, _, _, e => by cases e
 | m + 1, x, y, hx, e => by
  rw [endK] at e
  split at e
  ·cases e; exact hx
  ·exact endK_lt h (h x hx) e
theorem ok_end {f k : Nat} (ho : okW n stops k = true) (hf : f < n) : ∃ x, endK (chN n k) stops (n + 1) f = some x := by
 unfold okW at ho;have h := List.all_eq_true.1 ho f (List.mem_range.2 hf)
 cases hb : stops.testBit f with
 | true => exact ⟨f, by rw [endK, if_pos hb]⟩
 | false =>
  rw [hb, if_neg (by simp)] at h
  exact Option.isSome_iff_exists.1 h
end
theorem endI_toL {n k stops m x : Nat} (h1 : 1 <= n) (hx : x < n) : endI (fun i => (toL n k)[i]?.getD 0) stops m x = endI (chN n k) stops m x := by
 have h := endK_ext (n := n) (stops := stops) (to := fun i => (toL n k)[i]?.getD 0) (to' := chN n k) (fun i hi => by simp only [toL_get hi, Option.getD_some]; exact ⟨trivial, chN_lt h1⟩) (m := m) hx
 unfold endI;rw [h]
theorem woodT_bd {a : Nat -> Nat -> Int} {n f stops e : Nat} (h4 : n <= 4) (ha : ∀ i k, 0 <= a i k /\ a i k <= 20) : ∀ {k : Nat}, 0 <= woodT a n f stops e k /\ woodT a n f stops e k <= 160000 * (k : Int)
 | 0 => ⟨by show (0 : Int) <= 0; decide, by show (0 : Int) <= _; omega⟩
 | k + 1 => by
  have ih := woodT_bd (f := f) (stops := stops) (e := e) h4 ha (k := k);rw [woodT_succ]
  split
  ·rename_i hl
   have ho : okW n stops k = true := by
    unfold leadsTo at hl;rw [Bool.and_eq_true] at hl;exact hl.1
   have hb := wy_bd (n := n) (stops := stops) (num := k) ha (j := n);rw [wy_eq, if_pos ho] at hb;have h20 : 20 ^ n <= 160000 := Nat.le_trans (Nat.pow_le_pow_right (by decide) h4) (by decide)
   omega
  ·omega
set_option maxHeartbeats 2000000 in
theorem k96 {s : Int} {N : List (List Int)} {p : List Int} {f stops : Nat} (h : OkN s N) (hf : f < N.length) (hs : stops < 2 ^ 62) : E.Fn Tryz.prog 96 [mc s N p, .int .i64 f, .int .i64 stops] [ints ((List.range N.length).map fun e => wood (tn N) N.length f stops e)] := by
 refine fn_of_row okf96 ?_;have hn1 := h.n1;have hn4 := h.n4;have ha : ∀ i k, 0 <= tn N i k /\ tn N i k <= 20 := fun i k => by have h1 := h.tn i k; have h2 := h.s20; omega
 have hpw : N.length ^ N.length <= 256 := Nat.le_trans (Nat.pow_le_pow_left hn4 _) (Nat.le_trans (Nat.pow_le_pow_right (by decide) hn4) (by decide))
 have h75 := k75 hn4 hn4;have hW : (List.range N.length).map (fun e => wood (tn N) N.length f stops e) = woodL (tn N) N.length f stops (N.length ^ N.length) := rfl
 rw [hW];simp only [FRow.start, f96, c96r0, c96r1, c96r2, c96r3, mc, SV.cells, intss, go_sem, Nat.reduceAdd, Nat.reduceSub, Nat.reduceLT, Nat.reduceLeDiff, true_implies];intro _;refine ⟨by omega, by omega, ?_⟩
 rw [rep_flat, <- woodL_zero (a := tn N) (f := f) (stops := stops)]
 refine loop_rule (fun m τ => ∃ k : Nat, m = N.length ^ N.length - k /\ k <= N.length ^ N.length /\
  τ = ⟨(aN::(aI f)::(aI stops)::(.s (.ptr [.int .i64 s, intss N, ints p]))::aN::aN::aN::(aI N.length)::(.sl 0 0 N.length 1 true)::(aI k)::aZ64), [.row ((woodL (tn N) N.length f stops k).map (.int .i64))]⟩) (N.length ^ N.length) rfl ?_ ?_
 ·simp only [c96l20m, go_sem, ↓reduceIte, reduceCtorEq, Nat.reduceLeDiff]
  exact ⟨0, rfl, Nat.zero_le _, rfl⟩
 ·rintro I m τ ⟨k, rfl, hk, rfl⟩ hI
  simp only [c96l20, c96r4, go_sem];refine callK_of (by simp only [go_sem]) h75 (.inl rfl) ?_
  simp only [go_sem, ↓reduceIte, true_implies];refine ⟨fun hlt => ?_, fun hge => ?_⟩
  ·have h110 : ∀ j, j < N.length -> E.Fn Tryz.prog 110 [ints (nats (toL N.length k)), .int .i64 j, .int .i64 stops] [.int .i64 (endI (chN N.length k) stops (N.length + 1) j)] := fun j hj => by
    have h1 := k110 (to := toL N.length k) (f := j) (stops := stops) (by rw [toL_len]; omega) (fun x hx => by rw [toL_len]; exact toL_lt hn1 x hx) (by rw [toL_len]; exact hj) hs
    rw [toL_len, endI_toL hn1 hj] at h1;exact h1
   have h74 := k74 (n := N.length) (num := k) hn1 hn4 (by omega)
   simp only [c96r5, go_sem];refine callK_of (by simp only [go_sem]) h74 (.inr (.inl (by simp only [go_sem]))) ?_
   simp only [c96r6, c96r7, go_sem, true_implies]
   refine loop_rule (fun m τ => ∃ j : Nat, m = N.length - j /\ j <= N.length /\
    τ = ⟨(aN::(aI f)::(aI stops)::(.s (.ptr [.int .i64 s, intss N, ints p]))::aN::aN::aN::(aI N.length)::(.sl 0 0 N.length 1 true)::(aI k)::(.s (ints (nats (toL N.length k))))::(aI (wyT (tn N) N.length stops k j))::(aI j)::aN::aN::aN::aN::aN::aZ56), [.row ((woodL (tn N) N.length f stops k).map (.int .i64))]⟩) N.length rfl ?_ ?_
   ·simp only [c96l16m, go_sem, ↓reduceIte, reduceCtorEq, Nat.reduceLeDiff]
    exact ⟨0, rfl, Nat.zero_le _, rfl⟩
   ·rintro I2 m τ ⟨j, rfl, hj, rfl⟩ hI2
    simp only [c96l16, c96r8, go_sem, ↓reduceIte, true_implies];refine ⟨fun hlt2 => ?_, fun hge2 => ?_⟩
    ·have hlt2 : j < N.length := by omega
     have hin : inR .i64 ((j : Int) + 1) := inR_small (by omega) (by omega)
     have hch : (nats (toL N.length k))[j]? = some ((chN N.length k j : Nat) : Int) := by unfold nats; rw [List.getElem?_map, toL_get hlt2]; rfl
     have hchl := chN_lt (n := N.length) (num := k) (i := j) hn1;have hb := wy_bd (n := N.length) (stops := stops) (num := k) ha (j := j);have hb2 := wy_bd (n := N.length) (stops := stops) (num := k) ha (j := j + 1);have h20 : 20 ^ (j + 1) <= 160000 := Nat.le_trans (Nat.pow_le_pow_right (by decide) (by omega)) (by decide : 20 ^ 4 <= 160000)
     have hw : wyT (tn N) N.length stops k (j + 1) = if stops.testBit j then (if chN N.length k j = 0 then wyT (tn N) N.length stops k j else 0) else (if (endK (chN N.length k) stops (N.length + 1) j).isSome then wyT (tn N) N.length stops k j * tn N j (chN N.length k j) else 0) := rfl
     have fin : ∀ y, wyT (tn N) N.length stops k (j + 1) = y -> I2 ⟨(aN::(aI f)::(aI stops)::(.s (.ptr [.int .i64 s, intss N, ints p]))::aN::aN::aN::(aI N.length)::(.sl 0 0 N.length 1 true)::(aI k)::(.s (ints (nats (toL N.length k))))::(aI y)::(aI (j + 1))::aN::aN::aN::aN::aN::aZ56), [.row ((woodL (tn N) N.length f stops k).map (.int .i64))]⟩ := fun y hy => by
      subst hy;exact hI2 (N.length - (j + 1)) _ (by omega) ⟨j + 1, rfl, by omega, rfl⟩
     simp only [c96r9, go_sem, true_implies];refine ⟨by omega, ?_⟩
     rw [low_bit hs]
     cases hbit : stops.testBit j with
     | true =>
      rw [hbit, if_pos rfl] at hw;simp only [c96r10, ints, hch, go_sem, ↓reduceIte, not_true_eq_false, false_implies, true_implies];refine ⟨fun hz => ?_, fun hz => ?_⟩
      ·rw [if_pos (by omega)] at hw
       simp only [c96r15, c96l16m, go_sem, ↓reduceIte, reduceCtorEq, Nat.reduceLeDiff, true_implies];exact ⟨hin, fin _ hw⟩
      ·rw [if_neg (by omega)] at hw
       simp only [c96r11, c96r15, c96l16m, go_sem, ↓reduceIte, reduceCtorEq, Nat.reduceLeDiff, true_implies];exact ⟨hin, fin _ hw⟩
     | false =>
      rw [hbit, if_neg (by simp)] at hw
      have hxN : N[j]? = some N[j] := List.getElem?_eq_getElem hlt2;have hl := h.sq _ (List.getElem_mem hlt2);have htn : tn N j (chN N.length k j) = (N[j][chN N.length k j]?).getD 0 := by unfold tn; rw [hxN]; rfl
      generalize N[j] = row at hxN hl htn;obtain ⟨z, hz⟩ : ∃ z, row[chN N.length k j]? = some z := ⟨_, List.getElem?_eq_getElem (by omega)⟩
      rw [hz, Option.getD_some] at htn;have hzb := ha j (chN N.length k j);rw [htn] at hzb hw;have hm := mul_le_nat (a := wyT (tn N) N.length stops k j) (b := z) (A := 160000) (B := 20) (by have : 20 ^ j <= 20 ^ (j + 1) := Nat.pow_le_pow_right (by decide) (by omega); omega) (by omega)
      simp only [Bool.false_eq_true, Int.reduceEq, c96r12, intss, hxN, ints, hch, hz, go_sem, ↓reduceIte, Nat.reduceAdd, Nat.reduceLeDiff, false_implies, true_implies, not_false_eq_true];refine ⟨inR_abs (by omega), ?_⟩
      simp only [c96r13, go_sem];refine callK_of (by simp only [ints, go_sem]) (h110 j hlt2) (.inl rfl) ?_
      unfold endI
      cases hE : endK (chN N.length k) stops (N.length + 1) j with
      | none =>
       rw [hE, if_neg (by simp)] at hw
       simp only [Int.reduceNeg, Int.reduceLT, c96r14, c96r15, c96l16m, go_sem, ↓reduceIte, reduceCtorEq, Nat.reduceLeDiff, Int.reduceLT, Int.reduceNeg, true_implies];exact ⟨hin, fin _ hw⟩
      | some x =>
       rw [hE, if_pos (show (some x).isSome = true from rfl)] at hw;have a1 : ¬ ((x : Nat) : Int) < 0 := by omega
       simp only [a1, c96r15, c96l16m, go_sem, ↓reduceIte, reduceCtorEq, Nat.reduceLeDiff, true_implies];exact ⟨hin, fin _ hw⟩
    ·have hje : j = N.length := by omega
     subst hje;clear hI2 I2;have hb := wy_bd (n := N.length) (stops := stops) (num := k) ha (j := N.length);have h20 : 20 ^ N.length <= 160000 := Nat.le_trans (Nat.pow_le_pow_right (by decide) hn4) (by decide : 20 ^ 4 <= 160000)
     have hwe := wy_eq (a := tn N) (n := N.length) (stops := stops) (num := k);generalize hv : wyT (tn N) N.length stops k N.length = v at *;simp only [c96r17, go_sem, true_implies];refine ⟨fun hpos => ?_, fun hnp => ?_⟩
     ·have ho : okW N.length stops k = true := by
       cases ho : okW N.length stops k with
       | true => rfl
       | false => rw [ho, if_neg (by simp)] at hwe; omega
      rw [if_pos ho] at hwe;obtain ⟨x, hx⟩ := ok_end ho hf;have hxn := endK_lt (fun i _ => chN_lt hn1) hf hx
      have hadd := woodL_add (a := tn N) ho hx hxn;rw [<- hwe] at hadd;have hg := woodL_get (a := tn N) (f := f) (stops := stops) (k := k) hxn;have hwb := woodT_bd (a := tn N) (n := N.length) (f := f) (stops := stops) (e := x) hn4 ha (k := k);have hf110 := h110 f hf;unfold endI at hf110;rw [hx] at hf110;have hwl := woodL_len (a := tn N) (n := N.length) (f := f) (stops := stops) (k := k);have hspl := spl_row (R := woodL (tn N) N.length f stops k) (i := x) (x := woodT (tn N) N.length f stops x k + v) (by omega)
      rw [hadd] at hspl;simp only [c96r18, go_sem];refine callK_of (by simp only [go_sem]) hf110 (.inl rfl) ?_
      simp only [Nat.mul_one, hg, go_sem, true_implies];refine ⟨by omega, inR_small (by omega) (by omega), by omega, by omega, ?_⟩
      rw [hspl];simp only [c96r19, c96l20m, go_sem, ↓reduceIte, reduceCtorEq, Nat.reduceLeDiff, true_implies];exact ⟨inR_small (by omega) (by omega), hI (N.length ^ N.length - (k + 1)) _ (by omega) ⟨k + 1, rfl, by omega, rfl⟩⟩
     ·have hst := woodL_stay (f := f) (by rw [hv]; omega : wyT (tn N) N.length stops k N.length = 0)
      simp only [c96r19, c96l20m, go_sem, ↓reduceIte, reduceCtorEq, Nat.reduceLeDiff, true_implies];exact ⟨inR_small (by omega) (by omega), hI (N.length ^ N.length - (k + 1)) _ (by omega) ⟨k + 1, rfl, by omega, by rw [hst]; rfl⟩⟩
  ·have hke : k = N.length ^ N.length := by omega
   subst hke;simp only [c96r21, go_sem, true_implies];exact exO_of (slice_all woodL_len.symm) rfl
theorem rootsN_len {s : Int} {N : List (List Int)} : (rootsN s N).length = N.length := by simp [rootsN]
theorem rootsN_get {s : Int} {N : List (List Int)} {i : Nat} (hi : i < N.length) : (rootsN s N)[i]? = some (rootN s N i) := by
 unfold rootsN; rw [List.getElem?_map, List.getElem?_range hi]; rfl
theorem take_snoc' {α : Type} {l : List α} {i : Nat} {x : α} (h : l[i]? = some x) : l.take (i + 1) = l.take i ++ [x] := by rw [List.take_succ, h]; rfl
theorem k62 {s : Int} {N : List (List Int)} {p : List Int} (h : OkS s N) : E.Fn Tryz.prog 62 [mc s N p] [ints (rootsN s N)] := by
 refine fn_of_row okf62 ?_;have hn4 := h.n4;simp only [FRow.start, f62, c62r0, c62r1, c62r2, mc, SV.cells, go_sem, Nat.reduceSub, true_implies]
 refine loop_rule (fun m τ => ∃ i : Nat, m = N.length - i /\ i <= N.length /\
  τ = ⟨(aN::(.s (.ptr [.int .i64 s, intss N, ints p]))::aN::(.sl 0 0 i 1 false)::(aI i)::aN::aN::aN::aZ16), [.row (((rootsN s N).take i).map (.int .i64))]⟩) N.length (promo_one rfl) ?_ ?_
 ·simp only [c62l6m, go_sem, ↓reduceIte, reduceCtorEq, Nat.reduceLeDiff]
  exact ⟨0, rfl, Nat.zero_le _, rfl⟩
 ·rintro I m τ ⟨i, rfl, hi, rfl⟩ hI
  simp only [c62l6, c62r3, intss, go_sem, ↓reduceIte, Nat.reduceAdd, Nat.reduceLeDiff];intro _;refine ⟨fun hlt => ?_, fun hge => ?_⟩
  ·have hp2 : 2 ^ i <= 2 ^ 4 := Nat.pow_le_pow_right (by decide) (by omega)
   have hk := k96 (p := p) h.toOkN (f := i) (stops := 2 ^ i) hlt (by omega)
   have hg : ((List.range N.length).map fun e => wood (tn N) N.length i (2 ^ i) e)[i]? = some (rootN s N i) := by
    rw [List.getElem?_map, List.getElem?_range hlt, Option.map_some, root_wood h hlt]
   generalize (List.range N.length).map (fun e => wood (tn N) N.length i (2 ^ i) e) = W at *
   have hts := take_snoc' (rootsN_get (s := s) hlt);simp only [c62r4, go_sem, Nat.reduceAdd];rw [shl_nat];refine ⟨by omega, inR_small (Int.natCast_nonneg _) (by omega), ?_⟩
   refine callK_of rfl hk (.inr (.inl rfl)) ?_
   simp only [ints, hg, go_sem, Nat.reduceAdd, Nat.reduceMul, true_implies];refine ⟨by decide, by decide, rfl, one_int, one_int, by rw [List.length_take, rootsN_len]; omega, by omega, by omega, ?_⟩
   have e3 : ((rootsN s N).take i).map (SV.int .i64) ++ flatE [.int .i64 (rootN s N i)] = ((rootsN s N).take (i + 1)).map (.int .i64) := by rw [hts, List.map_append]; rfl
   rw [e3];simp only [c62r5, c62l6m, Bool.false_eq_true, BEq.rfl, go_sem, ↓reduceIte, Nat.reduceLeDiff, true_implies];exact ⟨inR_small (by omega) (by omega), hI (N.length - (i + 1)) _ (by omega) ⟨i + 1, rfl, by omega, rfl⟩⟩
  ·have hie : i = N.length := by omega
   subst hie;rw [List.take_of_length_le (by rw [rootsN_len]; omega)]
   simp only [c62r7, go_sem, true_implies];exact exO_of (slice_all rootsN_len.symm) rfl
section
variable {s : Int} {N : List (List Int)} {p : List Int}
theorem sum_roots (h : OkS s N) : E.Fn Tryz.prog 63 [ints (rootsN s N)] [.int .i64 (rootsN s N).sum] := k63 (l := rootsN s N) (by rw [rootsN_len]; have := h.n4; omega) (fun x hx => by
 obtain ⟨i, hi, rfl⟩ := mem_rootsN.1 hx;have h1 := root_nonneg h hi;have h2 := root_8 h hi;omega)
theorem k65 (h : OkM s N p) (hS : (parts N).length <= 1) : E.Fn Tryz.prog 65 [mc s N p] [rat (paysQ s N p)] := by
 refine fn_of_row okf65 ?_;have hn4 := h.n4;have hpl := h.pl;have hk62 := k62 (p := p) h.s;have hk63 := sum_roots h.s;have hsp := roots_pos h hS;have hs32 := roots_32 h.s;have hg34 : ∀ i, i <= 4 -> (gainT s N p i).natAbs <= 2 ^ 34 := fun i hi => gainT_le h.toOkP hi
 have hk31 := k31 (n := gainT s N p N.length) (d := (rootsN s N).sum) (by have := hg34 N.length hn4; omega) hsp (by omega)
 have hq : paysQ s N p = lst (gainT s N p N.length) (rootsN s N).sum := rfl;rw [hq];have hrl := rootsN_len (s := s) (N := N);simp only [FRow.start, f65, c65r0, c65r1, mc, SV.cells, go_sem, Nat.reduceAdd, Nat.reduceSub, true_implies];refine callK_of rfl hk62 (.inr (.inl rfl)) ?_
 simp only [c65r2, c65r3, go_sem, true_implies]
 refine loop_rule (fun m τ => ∃ i : Nat, m = N.length - i /\ i <= N.length /\
  τ = ⟨(aN::(.s (.ptr [.int .i64 s, intss N, ints p]))::(.loc 0 0)::(.s (ints (rootsN s N)))::(aI (gainT s N p i))::(aI i)::aZ24), [.obj [aI 0, aI 0]]⟩) N.length rfl ?_ ?_
 ·simp only [c65l7m, go_sem, ↓reduceIte, reduceCtorEq, Nat.reduceLeDiff]
  exact ⟨0, rfl, Nat.zero_le _, rfl⟩
 ·rintro I m τ ⟨i, rfl, hi, rfl⟩ hI
  simp only [c65l7, c65r4, ints, hrl, go_sem, ↓reduceIte];intro _;refine ⟨fun hlt => ?_, fun hge => ?_⟩
  ·obtain ⟨y, hy⟩ : ∃ y, p[i]? = some y := ⟨_, List.getElem?_eq_getElem (by omega)⟩
   have hpb := pay_le h.toOkP i;have hgs := gainT_succ (s := s) (N := N) (p := p) (i := i);rw [hy, Option.getD_some] at hpb hgs;have hrb := root_le h.toOkN (i := i)
   have hmb : (rootN s N i * y).natAbs <= 2 ^ 22 * 1000 := by
    rw [Int.natAbs_mul];exact Nat.mul_le_mul hrb (by omega)
   have hs1 := hg34 (i + 1) (by omega)
   have hin2 : inR .i64 (gainT s N p i + rootN s N i * y) := inR_abs (by rw [<- hgs]; omega)
   simp only [c65r5, rootsN_get (s := s) hlt, hy, go_sem, Nat.reduceAdd, Nat.reduceLeDiff, true_implies];refine ⟨inR_abs (by omega), hin2, ?_⟩
   simp only [c65r6, c65l7m, go_sem, ↓reduceIte, reduceCtorEq, Nat.reduceLeDiff, true_implies];exact ⟨inR_small (by omega) (by omega), hI (N.length - (i + 1)) _ (by omega) ⟨i + 1, rfl, by omega, by rw [hgs]; rfl⟩⟩
  ·have hie : i = N.length := by omega
   subst hie;simp only [c65r8, go_sem];refine callK_of (by simp only [ints, go_sem]) hk63 (.inl rfl) ?_
   simp only [go_sem];refine callK_of (by simp only [go_sem]) hk31 (.inl rfl) ?_
   simp only [rat, spl_two, frz_two', go_sem, Nat.reduceAdd, true_implies]
   done
end
end Go.Proofs.YtikfhfgdmlijeaaGreat.Sk
namespace Go.Proofs.YtikfhfgdmlijeaaGreat.Sk
section
variable {s : Int} {N : List (List Int)}
end
structure IsFill (s : Int) (N N' : List (List Int)) : Prop where
  len : N'.length = N.length
  sq : ∀ l ∈ N', l.length = N.length
  ge : ∀ i k, tn N i k <= tn N' i k
  sum : ∀ l ∈ N', l.sum = s
section
variable {s : Int} {N N' : List (List Int)}
end
section
variable {s : Int} {N N' : List (List Int)} {p : List Int}
theorem OkR.tn0 (h : OkR s N p) {i : Nat} (hi : i < N.length) : 0 < Sk.tn N i 0 := by
 have h1 := h.first _ (List.getElem_mem hi);unfold Sk.tn;rw [List.getElem?_eq_getElem hi];exact h1
theorem IsFill.settles (hf : IsFill s N N') (h : OkR s N p) : (parts N').length <= 1 :=
 zero_settles (by rw [hf.len]; exact h.n1) fun i hi => by
  have h1 := hf.ge i 0;have h2 := h.tn0 (i := i) (by rw [hf.len] at hi; exact hi)
  omega
end
end Go.Proofs.YtikfhfgdmlijeaaGreat.Sk
namespace Go.Proofs.YtikfhfgdmlijeaaGreat.Sk
open Go Go.E Go.E.Sm
set_option maxRecDepth 10000
theorem cells_is {l : List Int} : (ints l).cells = [ints l] := rfl
theorem nats_at {n k i : Nat} (hi : i < n) : (nats (toL n k))[i]? = some ((chN n k i : Nat) : Int) := by unfold nats; rw [List.getElem?_map, toL_get hi]; rfl
set_option maxHeartbeats 1000000 in
theorem k73 {s : Int} {N : List (List Int)} {p : List Int} {k : Nat} (h : OkR s N p) : E.Fn Tryz.prog 73 [mc s N p, ints (nats (toL N.length k))] [mc s (fillN s N k) p] := by
 refine fn_of_row okf73 ?_;have hn4 := h.n4;have hn1 := h.n1;have hs1 := h.s1;have hs20 := h.s20;have hfN : fillN s N k = fillT s N k N.length := rfl;rw [hfN];simp only [FRow.start, f73, c73r0, c73r1, c73r2, mc, cells_is, splice, List.length_cons, List.length_nil, go_sem, ↓reduceIte, Nat.reduceAdd, Nat.reduceSub, Nat.reduceLeDiff, true_implies]
 refine loop_rule (fun m τ => ∃ i : Nat, m = N.length - i /\ i <= N.length /\
  τ = ⟨(aN::(.s (ints (nats (toL N.length k))))::(.s (.ptr [.int .i64 s, intss N, ints p]))::aN::(.loc 0 0)::(.loc 1 0)::(aI i)::aN::aZ40),
   [.obj [aI 0, .full [], .full []], .obj [aI s, .sl 2 0 i 1 false, .s (ints p)], .row ((fillT s N k i).map ints)]⟩) N.length (promo_cell2 rfl rfl rfl) ?_ ?_
 ·simp only [c73l8m, go_sem, ↓reduceIte, reduceCtorEq, Nat.reduceAdd, Nat.reduceLeDiff]
  exact ⟨0, rfl, Nat.zero_le _, rfl⟩
 ·rintro I m τ ⟨i, rfl, hi, rfl⟩ hI
  simp only [c73l8, c73r3, intss, go_sem, ↓reduceIte, Nat.reduceAdd, Nat.reduceLeDiff];intro _;refine ⟨fun hlt => ?_, fun hge => ?_⟩
  ·have hx : N[i]? = some N[i] := List.getElem?_eq_getElem hlt
   have hm := List.getElem_mem hlt;have hts := fillT_succ (s := s) (N := N) (k := k) (i := i);have hfl := fillT_len (s := s) (N := N) (k := k) (i := i);rw [hx, Option.getD_some] at hts;generalize N[i] = l at hx hm hts;have hl := h.sq _ hm;have hent := h.ent _ hm;have hle := h.le _ hm;have hsum0 : 0 <= l.sum := sum_nonneg fun x hx => (hent x hx).1
   have hk63 := k63 (l := l) (by omega) fun x hx => ⟨(hent x hx).1, by have := (hent x hx).2; omega⟩
   have hch := nats_at (k := k) hlt;have hchl := chN_lt (n := N.length) (num := k) (i := i) hn1;generalize chN N.length k i = t at *;obtain ⟨z, hz⟩ : ∃ z, l[t]? = some z := ⟨_, List.getElem?_eq_getElem (by omega)⟩
   have hzb := hent _ (List.mem_of_getElem? hz);have hsl : sliceOf 0 l.length 1 (l.map (SV.int .i64)) = some (ints l) := slice_all rfl;have hspl := spl_row (R := l) (i := t) (x := z + (s - l.sum)) (by omega)
   have hfr : fillR s l t = l.set t (z + (s - l.sum)) := by unfold fillR; rw [hz, Option.getD_some]
   rw [hfr] at hts;have hne : l.map (SV.int .i64) ≠ [] := fun e => by have := congrArg List.length e; rw [List.length_map, List.length_nil] at this; omega
   simp only [c73r4, ints, hx, go_sem, Nat.reduceAdd, Nat.reduceLeDiff, Nat.reduceMul];refine ⟨by decide, by decide, rfl, by simp, ⟨by simp, cells_ints, by simp only [List.length_nil, List.length_map]; omega, by simp only [List.length_nil, List.length_map]; omega, by decide⟩, ?_⟩
   rw [newRowK_def];refine ⟨fun e => absurd e hne, fun _ => ⟨rfl, ?_⟩⟩
   simp only [flatE_ints, c73r5, hch, Nat.mul_one, hz, go_sem, Nat.reduceAdd, Nat.reduceLeDiff, true_implies];refine ⟨by omega, ?_⟩
   refine callK_of (by simp only [hsl, go_sem]) hk63 (.inl rfl) ?_
   simp only [Nat.mul_one, go_sem, Nat.reduceAdd, true_implies];refine ⟨inR_small (by omega) (by omega), inR_small (by omega) (by omega), by omega, by omega, ?_⟩
   rw [hspl];have hsll : (l.set t (z + (s - l.sum))).length = l.length := List.length_set;generalize l.set t (z + (s - l.sum)) = r at *;simp only [c73r6, go_sem, Nat.reduceAdd, Nat.reduceLeDiff, Nat.reduceMul];refine ⟨_, rowOf_all (by rw [List.length_map]; omega), by decide, by decide, rfl, one_s rfl, one_s rfl, by omega, by omega, by omega, ?_⟩
   have e3 : (fillT s N k i).map ints ++ flatE [SV.slice (r.map (.int .i64))] = (fillT s N k (i + 1)).map ints := by
    rw [hts, List.map_append]; rfl
   rw [e3];simp only [c73r7, c73l8m, Nat.reduceBEq, Bool.false_eq_true, BEq.rfl, go_sem, ↓reduceIte, Nat.reduceAdd, Nat.reduceLeDiff, true_implies];exact ⟨inR_small (by omega) (by omega), hI (N.length - (i + 1)) _ (by omega) ⟨i + 1, rfl, by omega, rfl⟩⟩
  ·have hie : i = N.length := by omega
   subst hie
   have hsl : sliceOf 0 N.length 1 ((fillT s N k N.length).map ints) = some (intss (fillT s N k N.length)) := by
    have := slice_intss (l := fillT s N k N.length)
    rwa [fillT_len] at this
   simp only [c73r9, intss, ints, splice, List.length_cons, List.length_nil, hsl, go_sem, Nat.reduceAdd, true_implies]
   done
theorem best_snoc {lt : Int × Int -> Int × Int -> Bool} {l : List (Int × Int)} {x : Int × Int} (h : l ≠ []) : bestQ lt (l ++ [x]) = if lt x (bestQ lt l) then x else bestQ lt l := by
 cases l with
 | nil => exact absurd rfl h
 | cons c cs =>
  show bestF lt c (cs ++ [x]) = if lt x (bestF lt c cs) then x else bestF lt c cs
  unfold bestF;rw [List.foldl_append]; rfl
theorem best_mem {lt : Int × Int -> Int × Int -> Bool} : ∀ {l : List (Int × Int)} {c : Int × Int}, bestF lt c l ∈ c :: l
 | [], c => by simp [bestF]
 | y :: l, c => by
  have e : bestF lt c (y :: l) = bestF lt (if lt y c then y else c) l := rfl;rw [e]
  split
  ·exact List.mem_cons_of_mem _ best_mem
  ·rcases List.mem_cons.1 (best_mem (lt := lt) (l := l) (c := c)) with h | h
   ·rw [h]; simp
   ·exact List.mem_cons_of_mem _ (List.mem_cons_of_mem _ h)
set_option maxHeartbeats 1000000 in
theorem k25 {s : Int} {N : List (List Int)} {p : List Int} : E.Fn Tryz.prog 25 [mc s N p] (betR s N p) := by
 refine fn_of_row okf25 ?_;have h72 := k72 (s := s) (N := N) (p := p);unfold betR;simp only [FRow.start, f25, c25r0, c25r1, mc, SV.cells, go_sem, Nat.reduceAdd, Nat.reduceSub, true_implies];refine callK_of rfl h72 (.inl rfl) ?_
 by_cases h0 : chkR s N p = 0
 ·rw [if_pos h0]
  have h := chkR_zero.1 h0;have hn1 := h.n1;have hn4 := h.n4;have h75 := k75 hn4 hn4;have hpw : N.length ^ N.length <= 256 := Nat.le_trans (Nat.pow_le_pow_left hn4 _) (Nat.le_trans (Nat.pow_le_pow_right (by decide) hn4) (by decide))
  have hpp : 0 < N.length ^ N.length := Nat.pow_pos (by omega)
  have hpay : ∀ k, E.Fn Tryz.prog 65 [mc s (fillN s N k) p] [rat (paysQ s (fillN s N k) p)] := fun k => k65 (fill_ok h k) (fill_settles h k)
  have hsm : ∀ k, Small (paysQ s (fillN s N k) p) := fun k => pays_small (fill_ok h k) (fill_settles h k)
  have hts : ∀ k, payT s N p (k + 1) = payT s N p k ++ [paysQ s (fillN s N k) p] := fun k => by unfold payT; rw [List.range_succ, List.map_append]; rfl
  have hbs : ∀ lt, ∀ k, 1 <= k -> Small (bestQ lt (payT s N p k)) := fun lt k hk => by
   obtain ⟨j, rfl⟩ : ∃ j, k = j + 1 := ⟨k - 1, by omega⟩
   have hm : bestQ lt (payT s N p (j + 1)) ∈ payT s N p (j + 1) := by
    cases hp : payT s N p (j + 1) with
    | nil => have := congrArg List.length hp; simp [payT] at this
    | cons c cs => exact best_mem
   obtain ⟨i, _, e⟩ := List.mem_map.1 hm;rw [<- e];exact hsm i
  have hstep : ∀ lt, ∀ k, 1 <= k -> bestQ lt (payT s N p (k + 1)) = if lt (paysQ s (fillN s N k) p) (bestQ lt (payT s N p k)) then paysQ s (fillN s N k) p else bestQ lt (payT s N p k) := fun lt k hk => by
   rw [hts, best_snoc fun e => by have := congrArg List.length e; simp [payT] at this; omega]
  have hone : ∀ lt, bestQ lt (payT s N p 1) = paysQ s (fillN s N 0) p := fun lt => rfl
  have hL : payL s N p = payT s N p (N.length ^ N.length) := rfl;rw [hL];have h73 := fun k => k73 (k := k) h
  have h74 := fun k (hk : k < 257) => k74 (n := N.length) (num := k) hn1 hn4 (by omega)
  have h740 : E.Fn Tryz.prog 74 [.int .i64 N.length, .int .i64 0] [ints (nats (toL N.length 0))] := h74 0 (by decide)
  simp only [h0, decide_true, c25r3, intss, go_sem, Nat.reduceAdd, Nat.reduceLeDiff, true_implies];intro _;simp only [c25r4, go_sem, Nat.reduceAdd];refine callK_of (by simp only [go_sem]) h740 (.inr (.inl (by simp only [go_sem]))) ?_
  simp only [go_sem];refine callK_of rfl (h73 0) (.inr (.inl rfl)) ?_
  simp only [mc, go_sem];refine callK_of rfl (hpay 0) (.inl rfl) ?_
  simp only [rat, spl_two, c25r5, c25r6, go_sem, Nat.reduceAdd, true_implies]
  refine loop_rule (fun m τ => ∃ k : Nat, m = N.length ^ N.length - k /\ 1 <= k /\ k <= N.length ^ N.length /\
   τ = ⟨(aN::(.s (.ptr [.int .i64 s, intss N, ints p]))::(.loc 0 0)::(.loc 1 0)::aN::(aI N.length)::(.loc 2 0)::(.loc 3 0)::(aI k)::aZ40),
    [.obj [aI 0, aI 0], .obj [aI 0, aI 0], .obj [aI (bestQ lessQ (payT s N p k)).1, aI (bestQ lessQ (payT s N p k)).2], .obj [aI (bestQ moreQ (payT s N p k)).1, aI (bestQ moreQ (payT s N p k)).2]]⟩) (N.length ^ N.length - 1) rfl ?_ ?_
  ·simp only [c25l14m, go_sem, ↓reduceIte, reduceCtorEq, Nat.reduceAdd, Nat.reduceLeDiff]
   exact ⟨1, rfl, Nat.le_refl _, by omega, rfl⟩
  ·rintro I m τ ⟨k, rfl, hk1, hk, rfl⟩ hI
   simp only [c25l14, c25r7, go_sem, Nat.reduceAdd];refine callK_of (by simp only [go_sem]) h75 (.inl rfl) ?_
   simp only [go_sem, ↓reduceIte, Nat.reduceAdd, true_implies];refine ⟨fun hlt => ?_, fun hge => ?_⟩
   ·have hlt : k < N.length ^ N.length := by omega
    have hl1 := hstep lessQ k hk1;have hm1 := hstep moreQ k hk1;have hsl := hbs lessQ k hk1;have hsh := hbs moreQ k hk1;have hsx := hsm k;have hpk := hpay k;have hin : inR .i64 ((k : Int) + 1) := inR_small (by omega) (by omega)
    have fin : ∀ y z, bestQ lessQ (payT s N p (k + 1)) = y -> bestQ moreQ (payT s N p (k + 1)) = z -> I ⟨(aN::(.s (.ptr [.int .i64 s, intss N, ints p]))::(.loc 0 0)::(.loc 1 0)::aN::(aI N.length)::(.loc 2 0)::(.loc 3 0)::(aI (k + 1))::aZ40),
      [.obj [aI 0, aI 0], .obj [aI 0, aI 0], .obj [aI y.1, aI y.2], .obj [aI z.1, aI z.2]]⟩ := fun y z hy hz => by
     subst hy; subst hz;exact hI (N.length ^ N.length - (k + 1)) _ (by omega) ⟨k + 1, rfl, by omega, by omega, rfl⟩
    generalize bestQ lessQ (payT s N p k) = lo at *;generalize bestQ moreQ (payT s N p k) = up at *;generalize paysQ s (fillN s N k) p = x at *;simp only [c25r8, go_sem, Nat.reduceAdd];refine callK_of (by simp only [go_sem]) (h74 k (by omega)) (.inr (.inl (by simp only [go_sem]))) ?_
    simp only [go_sem];refine callK_of rfl (h73 k) (.inr (.inl rfl)) ?_
    simp only [mc, go_sem];refine callK_of rfl hpk (.inl rfl) ?_
    simp only [rat, spl_two, c25r9, go_sem, Nat.reduceAdd, true_implies];refine callK_of (by simp only [rat, frz_two', go_sem]) (k76 hsx hsl) (.inl rfl) ?_
    cases hb1 : lessQ x lo with
    | true =>
     rw [hb1, if_pos rfl] at hl1;simp only [c25r10, spl_two, c25r11, go_sem, Nat.reduceAdd, true_implies];refine callK_of (by simp only [rat, frz_two', go_sem]) (k76 hsh hsx) (.inl rfl) ?_
     have e1 : moreQ x up = lessQ up x := rfl
     cases hb2 : lessQ up x with
     | true =>
      rw [e1, hb2, if_pos rfl] at hm1;simp only [c25r12, spl_two, c25r13, c25l14m, go_sem, ↓reduceIte, reduceCtorEq, Nat.reduceAdd, Nat.reduceLeDiff, true_implies];exact ⟨hin, fin _ _ hl1 hm1⟩
     | false =>
      rw [e1, hb2, if_neg (by simp)] at hm1
      simp only [c25r13, c25l14m, go_sem, ↓reduceIte, reduceCtorEq, Nat.reduceAdd, Nat.reduceLeDiff, true_implies];exact ⟨hin, fin _ _ hl1 hm1⟩
    | false =>
     rw [hb1, if_neg (by simp)] at hl1
     simp only [c25r11, go_sem, Nat.reduceAdd, true_implies];refine callK_of (by simp only [rat, frz_two', go_sem]) (k76 hsh hsx) (.inl rfl) ?_
     have e1 : moreQ x up = lessQ up x := rfl
     cases hb2 : lessQ up x with
     | true =>
      rw [e1, hb2, if_pos rfl] at hm1;simp only [c25r12, spl_two, c25r13, c25l14m, go_sem, ↓reduceIte, reduceCtorEq, Nat.reduceAdd, Nat.reduceLeDiff, true_implies];exact ⟨hin, fin _ _ hl1 hm1⟩
     | false =>
      rw [e1, hb2, if_neg (by simp)] at hm1
      simp only [c25r13, c25l14m, go_sem, ↓reduceIte, reduceCtorEq, Nat.reduceAdd, Nat.reduceLeDiff, true_implies];exact ⟨hin, fin _ _ hl1 hm1⟩
   ·have hke : k = N.length ^ N.length := by omega
    subst hke;simp only [c25r15, spl_two, frz_two', go_sem, Nat.reduceAdd, true_implies];decide
 ·rw [if_neg h0]
  simp only [h0, decide_false, c25r2, go_sem, Nat.reduceAdd, true_implies];refine callK_of rfl h72 (.inl rfl) ?_
  simp only [rat, spl_two, frz_two', go_sem, Nat.reduceAdd, true_implies]
  done
section
variable {s : Int} {N : List (List Int)} {p : List Int}
end
section
variable {s : Int} {N : List (List Int)} {p : List Int}
end
@[go_sem] theorem stRK_loc {H : List ABlock} {n b off : Nat} {x : LV} {k : AK} : stRK H n x k (.loc b off) = stRB H b off n x k H[b]? := propext Iff.rfl
@[go_sem] theorem stRB_int {H : List ABlock} {n b off : Nat} {K : IntKind} {x : Int} {k : AK} {cs : List SV} : stRB H b off n (.s (.int K x)) k (some (.row cs)) = (1 = n /\ off + n <= cs.length /\ k (.tup []) (H.set b (.row (splice cs off [.int K x]))) none True) := propext Iff.rfl
def inT (N : List (List Int)) (st t j k : Nat) : Int := ((List.range k).map fun i => wT N st t i * tn N i j).sum
theorem inT_succ {N : List (List Int)} {st t j k : Nat} : inT N st t j (k + 1) = inT N st t j k + wT N st t k * tn N k j := by
 unfold inT; rw [List.range_succ, List.map_append, List.sum_append]; simp
theorem inT_all {N : List (List Int)} {st t j : Nat} : inT N st t j N.length = wT N st (t + 1) j := rfl
def nxL (N : List (List Int)) (st t k jj : Nat) : List Int := (List.range N.length).map fun j => if j < jj then inT N st t j (k + 1) else inT N st t j k
theorem nxL_len {N : List (List Int)} {st t k jj : Nat} : (nxL N st t k jj).length = N.length := by simp [nxL]
theorem nxL_get {N : List (List Int)} {st t k jj : Nat} (h : jj < N.length) : (nxL N st t k jj)[jj]? = some (inT N st t jj k) := by
 unfold nxL; rw [List.getElem?_map, List.getElem?_range h, Option.map_some, if_neg (Nat.lt_irrefl _)]
theorem nxL_set {N : List (List Int)} {st t k jj : Nat} (h : jj < N.length) : (nxL N st t k jj).set jj (inT N st t jj k + wT N st t k * tn N k jj) = nxL N st t k (jj + 1) := by
 apply List.ext_getElem?
 intro i
 by_cases hi : i < N.length
 ·by_cases e : i = jj
  ·subst e
   rw [List.getElem?_set_self (by rw [nxL_len]; exact hi)]
   unfold nxL;rw [List.getElem?_map, List.getElem?_range hi, Option.map_some, if_pos (Nat.lt_succ_self _), inT_succ]
  ·rw [List.getElem?_set_ne (fun h => e h.symm)]
   unfold nxL;rw [List.getElem?_map, List.getElem?_range hi, List.getElem?_map, List.getElem?_range hi, Option.map_some, Option.map_some]
   by_cases h2 : i < jj
   ·rw [if_pos h2, if_pos (by omega)]
   ·rw [if_neg h2, if_neg (by omega)]
 ·rw [List.getElem?_eq_none (by rw [List.length_set, nxL_len]; omega), List.getElem?_eq_none (by rw [nxL_len]; omega)]
theorem nxL_next {N : List (List Int)} {st t k : Nat} : nxL N st t k N.length = nxL N st t (k + 1) 0 := by
 unfold nxL;refine List.map_congr_left fun j hj => ?_
 rw [if_pos (List.mem_range.1 hj), if_neg (Nat.not_lt_zero _)]
theorem nxL_zero {N : List (List Int)} {st t : Nat} : nxL N st t 0 0 = List.replicate N.length 0 := by
 unfold nxL
 apply List.ext_getElem?
 intro i;rw [List.getElem?_replicate, List.getElem?_map]
 by_cases hi : i < N.length
 ·rw [List.getElem?_range hi, if_pos hi]; rfl
 ·rw [if_neg hi, List.getElem?_eq_none (by simpa using hi)]; rfl
theorem nxL_all {N : List (List Int)} {st t : Nat} : nxL N st t N.length 0 = natL (wT N st (t + 1)) N.length := by
 unfold nxL natL;refine List.map_congr_left fun j _ => ?_
 rw [if_neg (Nat.not_lt_zero _), inT_all]
theorem inT_bd {s : Int} {N : List (List Int)} (h : OkS s N) {st t j : Nat} (hs : st < N.length) (hj : j < N.length) : ∀ {k : Nat}, k <= N.length -> 0 <= inT N st t j k /\ inT N st t j k <= 20 ^ (t + 1) := fun {k} hk => by
 have hterm : ∀ i, 0 <= wT N st t i * tn N i j := fun i => Int.mul_nonneg (wT_nonneg h.toOkN) (h.tn i j).1
 refine ⟨sum_nonneg fun x hx => ?_, ?_⟩
 ·obtain ⟨i, _, rfl⟩ := List.mem_map.1 hx
  exact hterm i
 ·refine Int.le_trans ?_ (wT_le h hs (t := t + 1) hj)
  rw [<- inT_all]
  have key : ∀ d, k + d <= N.length -> inT N st t j k <= inT N st t j (k + d) := fun d => by
   induction d with
   | zero => intro _; exact Int.le_refl _
   | succ d ih =>
    intro hd;have h1 := ih (by omega)
    rw [show k + (d + 1) = k + d + 1 by omega, inT_succ]
    have := hterm (k + d);omega
  have := key (N.length - k) (by omega)
  rwa [show k + (N.length - k) = N.length by omega] at this
set_option maxHeartbeats 4000000 in
theorem first_ok {s : Int} {N : List (List Int)} {p : List Int} {st pl : Nat} (h : OkM s N p) (hst : st < N.length) (hpl : pl <= 10) (h0 : chkM s N p = 0) :
  E.Fn Tryz.prog 23 [mc s N p, .int .i64 st, .int .i64 pl] [rat (lst (fT s N p st pl) (s ^ (pl - 1))), .int .i64 0] := by
 refine fn_of_row okf23 ?_;have h52 := k52 (s := s) (N := N) (p := p);have hn4 := h.n4;have hpll := h.pl;have hs20 := h.s20;have hs1 := h.s1
 have h0s : ((List.replicate N.length (0 : Int)).set st 1) = natL (wT N st 0) N.length := by
  apply List.ext_getElem?
  intro k;rw [List.getElem?_set, List.length_replicate, List.getElem?_replicate]
  by_cases hk : k < N.length
  ·rw [natL_get hk, wT]
   by_cases e : st = k
   ·rw [if_pos e, if_pos hst, if_pos e.symm]
   ·rw [if_neg e, if_pos hk, if_neg (fun e2 => e e2.symm)]
  ·rw [if_neg (by omega), if_neg hk]
   exact (List.getElem?_eq_none (by rw [natL_len]; omega)).symm
 have hsp1 := spl_row (R := List.replicate N.length 0) (i := st) (x := 1) (by simpa using hst)
 have hp20 : ∀ t, t <= 10 -> (20 : Int) ^ t <= 10240000000000 := fun t ht => by
  have := Nat.pow_le_pow_right (show 0 < 20 by decide) ht
  have h2 : ((20 ^ t : Nat) : Int) <= ((20 ^ 10 : Nat) : Int) := by omega
  simpa using h2
 have a1 : ¬ ((st : Nat) : Int) < 0 := by omega
 have a2 : ¬ ((N.length : Nat) : Int) <= st := by omega
 have a3 : ¬ ((pl : Nat) : Int) < 0 := by omega
 have a4 : ¬ (10 : Int) < pl := by omega
 simp only [FRow.start, f23, c23r0, c23r1, mc, SV.cells, go_sem, Nat.reduceAdd, Nat.reduceSub, true_implies];refine callK_of rfl h52 (.inl rfl) ?_
 simp only [h0, decide_true, c23r3, intss, go_sem, Nat.reduceAdd, Nat.reduceLeDiff, true_implies];intro _;simp only [c23r4, a1, a2, a3, a4, decide_false, c23r6, go_sem, Nat.reduceAdd, Nat.reduceLT, true_implies];refine ⟨by omega, by omega, ?_⟩
 rw [rep_flat];simp only [c23r7, Nat.mul_one, hsp1, h0s, go_sem, Nat.reduceAdd, true_implies];refine ⟨hst, by simp; omega, ?_⟩
 simp only [c23r8, c23r9, go_sem, Nat.reduceAdd, true_implies]
 refine loop_rule (fun m τ => ∃ (t : Nat) (v : LV), m = pl - t /\ t <= pl /\ (v = .sl 1 0 N.length 1 true /\ t <= 1 \/ v = .s (ints (natL (wT N st (t - 1)) N.length)) /\ 1 <= t) /\
  τ = ⟨(aN::aN::(aI pl)::(.s (.ptr [.int .i64 s, intss N, ints p]))::aN::aN::(.loc 0 0)::aN::(aI N.length)::v::(aI (fT s N p st t))::(aI (s ^ (t - 1)))::(aI t)::aN::aN::aN::aN::aN::aZ96), [.obj [aI 0, aI 0], .row ((natL (wT N st 0) N.length).map (.int .i64))]⟩) pl rfl ?_ ?_
 ·simp only [c23l29m, go_sem, ↓reduceIte, reduceCtorEq, Nat.reduceAdd, Nat.reduceLeDiff]
  exact ⟨0, _, rfl, Nat.zero_le _, .inl ⟨rfl, by omega⟩, by rw [show s ^ (0 - 1) = 1 from Int.pow_zero s]; rfl⟩
 ·rintro I m τ ⟨t, v, rfl, ht, hv, rfl⟩ hI
  have hpb := pow_bd h.toOkN (t := t);have hp20t := fun h => hp20 t h
  have hfb := fT_bd h hst (t := t);have hfs : fT s N p st (t + 1) = fT s N p st t * s + wpT N p st t N.length := rfl;have hf0 : 0 <= fT s N p st t * s := Int.mul_nonneg hfb.1 (by omega)
  have hwn0 := wpT_nonneg h.toOkP (state := st) (t := t) (j := N.length);have hfle : fT s N p st t * s <= 1000 * (t + 1) * s ^ t := by omega
  have hfle2 : t <= 10 -> (1000 * ((t : Int) + 1)) * s ^ t <= 11000 * 10240000000000 := fun ht => by
   have := hp20t ht;exact Int.mul_le_mul (by omega) (by omega) (by omega) (by decide)
  have htail : ∀ (j : Nat), j < N.length -> ∃ y, p[j]? = some y /\ wpT N p st t (j + 1) = wpT N p st t j + wT N st t j * y /\ 0 <= wT N st t j * y /\ 0 <= wpT N p st t j /\ wpT N p st t (j + 1) <= 1000 * s ^ t := fun j hj => by
   obtain ⟨y, hy⟩ : ∃ y, p[j]? = some y := ⟨_, List.getElem?_eq_getElem (by omega)⟩
   have hws := wpT_succ (N := N) (p := p) (state := st) (t := t) (j := j);have hm0 := Int.mul_nonneg (wT_nonneg h.toOkN (state := st) (t := t) (k := j)) (pay_le h.toOkP j).1;rw [hy, Option.getD_some] at hws hm0;exact ⟨y, hy, hws, hm0, wpT_nonneg h.toOkP, wpT_le h hst (by omega)⟩
  simp only [c23l29, c23r10, go_sem, ↓reduceIte, Nat.reduceAdd, true_implies];refine ⟨fun hlt => ?_, fun hge => ?_⟩
  ·have hlt : t < pl := by omega
   have hp20t := hp20t (by omega)
   have hfle2 := hfle2 (by omega)
   simp only [c23r11, go_sem, Nat.reduceAdd, true_implies];refine ⟨fun htp => ?_, fun htz => ?_⟩
   ·obtain ⟨u, rfl⟩ : ∃ u, t = u + 1 := ⟨t - 1, by omega⟩
    have hfg3 : fgt (fun b => decide (3 <= b)) v = v := by
     rcases hv with ⟨rfl, _⟩ | ⟨rfl, _⟩ <;> rfl
    have hpu := pow_bd h.toOkN (t := u);have hpu20 := hp20 u (by omega)
    have hps : s ^ (u + 1) = s ^ u * s := Int.pow_succ s u
    have hid : ∀ j k, j < N.length -> k <= N.length -> 0 <= inT N st u j k /\ inT N st u j k <= 10240000000000 := fun j k hj hk => by
     have h1 := inT_bd h.s (t := u) hst hj hk;have h2 := hp20 (u + 1) (by omega)
     omega
    rw [show u + 1 - 1 = u from rfl] at hv ⊢;simp only [c23r12, go_sem, Nat.reduceAdd, Nat.reduceLT, true_implies];refine ⟨by omega, by omega, ?_⟩
    rw [rep_flat, <- nxL_zero (st := st) (t := u)];simp only [c23r13, go_sem, true_implies]
    refine loop_rule (fun m τ => ∃ k : Nat, m = N.length - k /\ k <= N.length /\
     τ = ⟨(aN::aN::(aI pl)::(.s (.ptr [.int .i64 s, intss N, ints p]))::aN::aN::(.loc 0 0)::aN::(aI N.length)::v::(aI (fT s N p st (u + 1)))::(aI (s ^ u))::(aI (u + 1))::(.sl 2 0 N.length 1 true)::(aI k)::aN::aN::aN::aZ96), [.obj [aI 0, aI 0], .row ((natL (wT N st 0) N.length).map (.int .i64)), .row ((nxL N st u k 0).map (.int .i64))]⟩) N.length rfl ?_ ?_
    ·simp only [c23l21m, hfg3, go_sem, ↓reduceIte, reduceCtorEq, Nat.reduceAdd, Nat.reduceLeDiff]
     exact ⟨0, rfl, Nat.zero_le _, rfl⟩
    ·rintro I2 m τ ⟨k, rfl, hk, rfl⟩ hI2
     simp only [c23l21, c23r14, go_sem, ↓reduceIte, Nat.reduceAdd, true_implies];refine ⟨fun hlt2 => ?_, fun hge2 => ?_⟩
     ·have hlt2 : k < N.length := by omega
      have hxN : N[k]? = some N[k] := List.getElem?_eq_getElem hlt2;have hl := h.sq _ (List.getElem_mem hlt2);have htn : ∀ j, tn N k j = (N[k][j]?).getD 0 := fun j => by unfold tn; rw [hxN]; rfl
      generalize N[k] = row at hxN hl htn;simp only [c23r15, go_sem, true_implies]
      refine loop_rule (fun m τ => ∃ j : Nat, m = N.length - j /\ j <= N.length /\
       τ = ⟨(aN::aN::(aI pl)::(.s (.ptr [.int .i64 s, intss N, ints p]))::aN::aN::(.loc 0 0)::aN::(aI N.length)::v::(aI (fT s N p st (u + 1)))::(aI (s ^ u))::(aI (u + 1))::(.sl 2 0 N.length 1 true)::(aI k)::(aI j)::aN::aN::aZ96), [.obj [aI 0, aI 0], .row ((natL (wT N st 0) N.length).map (.int .i64)), .row ((nxL N st u k j).map (.int .i64))]⟩) N.length rfl ?_ ?_
      ·simp only [c23l19m, hfg3, go_sem, ↓reduceIte, reduceCtorEq, Nat.reduceAdd, Nat.reduceLeDiff]
       exact ⟨0, rfl, Nat.zero_le _, rfl⟩
      ·rintro I3 m τ ⟨j, rfl, hj, rfl⟩ hI3
       simp only [c23l19, c23r16, go_sem, ↓reduceIte, Nat.reduceAdd, true_implies];refine ⟨fun hlt3 => ?_, fun hge3 => ?_⟩
       ·have hlt3 : j < N.length := by omega
        obtain ⟨z, hz⟩ : ∃ z, row[j]? = some z := ⟨_, List.getElem?_eq_getElem (by omega)⟩
        have hzt : tn N k j = z := by rw [htn, hz]; rfl
        have hzb := h.tn k j;have hg1 := nxL_get (N := N) (st := st) (t := u) (k := k) hlt3;have hset := nxL_set (N := N) (st := st) (t := u) (k := k) hlt3;have hid1 := hid j k hlt3 (by omega)
        have hid2 := hid j (k + 1) hlt3 (by omega)
        have hw0 := wT_nonneg h.toOkN (state := st) (t := u) (k := k);have hm0 : 0 <= wT N st u k * z := by rw [<- hzt]; exact Int.mul_nonneg hw0 hzb.1
        rw [inT_succ, hzt] at hid2;rw [hzt] at hset;have hnl := nxL_len (N := N) (st := st) (t := u) (k := k) (jj := j);have hspl := spl_row (R := nxL N st u k j) (i := j) (x := inT N st u j k + wT N st u k * z) (by omega)
        rw [hset] at hspl;have hwg := natL_get (f := wT N st u) hlt2
        rcases hv with ⟨rfl, hv1⟩ | ⟨rfl, hv1⟩
        case' inl =>
         have hu0 : u = 0 := by omega
         subst hu0;simp only [c23r17, intss, hxN, ints, hz, Nat.mul_one, hg1, hwg, go_sem, Nat.reduceAdd, Nat.reduceLeDiff, true_implies];refine ⟨hlt3, hlt2, inR_small hm0 (by omega), inR_small (by omega) (by omega), hlt3, by omega, ?_⟩
        case' inr =>
         simp only [c23r17, intss, hxN, ints, hz, Nat.mul_one, hg1, hwg, go_sem, Nat.reduceAdd, Nat.reduceLeDiff, true_implies];refine ⟨hlt3, inR_small hm0 (by omega), inR_small (by omega) (by omega), hlt3, by omega, ?_⟩
        all_goals
         rw [hspl];simp only [c23r18, c23l19m, fgt_s, fgt_sl, go_sem, ↓reduceIte, reduceCtorEq, Nat.reduceLeDiff, true_implies];exact ⟨inR_small (by omega) (by omega), hI3 (N.length - (j + 1)) _ (by omega) ⟨j + 1, rfl, by omega, rfl⟩⟩
       ·have hje : j = N.length := by omega
        subst hje;rw [nxL_next];simp only [c23r20, c23l21m, hfg3, go_sem, ↓reduceIte, reduceCtorEq, Nat.reduceLeDiff, true_implies];exact ⟨inR_small (by omega) (by omega), hI2 (N.length - (k + 1)) _ (by omega) ⟨k + 1, rfl, by omega, rfl⟩⟩
     ·have hke : k = N.length := by omega
      subst hke;rw [nxL_all];have hrow : rowOf 0 N.length 1 ((natL (wT N st (u + 1)) N.length).map (SV.int .i64)) = some ((natL (wT N st (u + 1)) N.length).map (.int .i64)) := rowOf_all (by rw [List.length_map, natL_len])
      simp only [c23r22, go_sem, Nat.reduceAdd, Nat.reduceLeDiff, true_implies];rw [<- hps];clear hI2 I2;refine ⟨_, hrow, inR_small hf0 (by omega), inR_small (by omega) (by omega), ?_⟩
      simp only [c23r23, go_sem, true_implies]
      refine loop_rule (fun m τ => ∃ j : Nat, m = N.length - j /\ j <= N.length /\
       τ = ⟨(aN::aN::(aI pl)::(.s (.ptr [.int .i64 s, intss N, ints p]))::aN::aN::(.loc 0 0)::aN::(aI N.length)::(.s (ints (natL (wT N st (u + 1)) N.length)))::(aI (fT s N p st (u + 1) * s + wpT N p st (u + 1) j))::(aI (s ^ (u + 1)))::(aI ((u + 1) : Nat))::aN::aN::aN::(aI j)::aN::aZ96), [.obj [aI 0, aI 0], .row ((natL (wT N st 0) N.length).map (.int .i64)), .frz ((natL (wT N st (u + 1)) N.length).map (.int .i64))]⟩) N.length rfl ?_ ?_
      ·simp only [c23l27m, go_sem, ↓reduceIte, reduceCtorEq, Nat.reduceAdd, Nat.reduceLeDiff]
       exact ⟨0, rfl, Nat.zero_le _, by rw [show wpT N p st (u + 1) 0 = 0 from rfl, Int.add_zero]; rfl⟩
      ·rintro I2 m τ ⟨j, rfl, hj, rfl⟩ hI2
       simp only [c23l27, c23r24, go_sem, ↓reduceIte, Nat.reduceAdd, true_implies];refine ⟨fun hlt2 => ?_, fun hge2 => ?_⟩
       ·have hlt2 : j < N.length := by omega
        obtain ⟨y, hy, hws, hm0, hw0, hwl⟩ := htail j hlt2;have hwg := natL_get (f := wT N st (u + 1)) hlt2;simp only [c23r25, ints, hy, hwg, go_sem, Nat.reduceAdd, Nat.reduceLeDiff, true_implies];refine ⟨inR_small hm0 (by omega), inR_small (by omega) (by omega), ?_⟩
        simp only [c23r26, c23l27m, go_sem, ↓reduceIte, reduceCtorEq, Nat.reduceLeDiff, true_implies];exact ⟨inR_small (by omega) (by omega), hI2 (N.length - (j + 1)) _ (by omega) ⟨j + 1, rfl, by omega, by rw [hws, <- Int.add_assoc]; rfl⟩⟩
       ·have hje : j = N.length := by omega
        subst hje;rw [<- hfs];simp only [c23r28, c23l29m, go_sem, ↓reduceIte, reduceCtorEq, Nat.reduceLeDiff, true_implies];exact ⟨inR_small (by omega) (by omega), hI (pl - ((u + 1) + 1)) _ (by omega) ⟨(u + 1) + 1, .s (ints (natL (wT N st (u + 1)) N.length)), rfl, by omega, .inr ⟨rfl, by omega⟩, rfl⟩⟩
   ·have ht0 : t = 0 := by omega
    subst ht0
    rcases hv with ⟨rfl, _⟩ | ⟨_, hv⟩
    case inr => omega
    simp only [c23r23, go_sem, Nat.reduceSub, true_implies]
    refine loop_rule (fun m τ => ∃ j : Nat, m = N.length - j /\ j <= N.length /\
     τ = ⟨(aN::aN::(aI pl)::(.s (.ptr [.int .i64 s, intss N, ints p]))::aN::aN::(.loc 0 0)::aN::(aI N.length)::(.sl 1 0 N.length 1 true)::(aI (fT s N p st 0 * s + wpT N p st 0 j))::(aI (s ^ 0))::(aI (0 : Nat))::aN::aN::aN::(aI j)::aN::aZ96), [.obj [aI 0, aI 0], .row ((natL (wT N st 0) N.length).map (.int .i64))]⟩) N.length rfl ?_ ?_
    ·simp only [c23l27m, go_sem, ↓reduceIte, reduceCtorEq, Nat.reduceAdd, Nat.reduceLeDiff]
     exact ⟨0, rfl, Nat.zero_le _, by rw [show s ^ (0 - 1) = s ^ 0 from rfl, show fT s N p st 0 * s + wpT N p st 0 0 = 0 by rw [show fT s N p st 0 = 0 from rfl, Int.zero_mul]; rfl]; rfl⟩
    ·rintro I2 m τ ⟨j, rfl, hj, rfl⟩ hI2
     simp only [c23l27, c23r24, go_sem, ↓reduceIte, Nat.reduceAdd, true_implies];refine ⟨fun hlt2 => ?_, fun hge2 => ?_⟩
     ·have hlt2 : j < N.length := by omega
      obtain ⟨y, hy, hws, hm0, hw0, hwl⟩ := htail j hlt2;have hwg := natL_get (f := wT N st 0) hlt2;simp only [c23r25, ints, hy, hwg, Nat.mul_one, go_sem, Nat.reduceAdd, Nat.reduceLeDiff, true_implies];refine ⟨hlt2, inR_small hm0 (by omega), inR_small (by omega) (by omega), ?_⟩
      simp only [c23r26, c23l27m, go_sem, ↓reduceIte, reduceCtorEq, Nat.reduceLeDiff, true_implies];exact ⟨inR_small (by omega) (by omega), hI2 (N.length - (j + 1)) _ (by omega) ⟨j + 1, rfl, by omega, by rw [hws, <- Int.add_assoc]; rfl⟩⟩
     ·have hje : j = N.length := by omega
      subst hje;rw [<- hfs];simp only [c23r28, c23l29m, go_sem, ↓reduceIte, reduceCtorEq, Nat.reduceLeDiff, true_implies];exact ⟨inR_small (by omega) (by omega), hI (pl - (0 + 1)) _ (by omega) ⟨0 + 1, .sl 1 0 N.length 1 true, rfl, by omega, .inl ⟨rfl, by omega⟩, rfl⟩⟩
  ·have hte : t = pl := by omega
   subst hte;have hfl := fT_le h hst (t := t) hpl;have hpb1 := pow_bd h.toOkN (t := t - 1);have hp201 := hp20 (t - 1) (by omega)
   have hk31 := k31 (n := fT s N p st t) (d := s ^ (t - 1)) (by omega) (by omega) (by omega)
   simp only [c23r30, go_sem];refine callK_of (by simp only [go_sem]) hk31 (.inl rfl) ?_
   simp only [rat, spl_two, frz_two', go_sem, Nat.reduceAdd, true_implies]
   done
theorem k23 {s : Int} {N : List (List Int)} {p : List Int} {state plays : Int} : E.Fn Tryz.prog 23 [mc s N p, .int .i64 state, .int .i64 plays] (firstR s N p state plays) := by
 unfold firstR
 by_cases h0 : chkM s N p = 0
 ·rw [if_pos h0]
  have h := chkM_zero.1 h0
  by_cases hok : (0 <= state /\ state < N.length) /\ 0 <= plays /\ plays <= 10
  ·rw [if_pos hok]
   obtain ⟨st, rfl⟩ : ∃ m : Nat, state = m := ⟨state.toNat, by omega⟩
   obtain ⟨pl, rfl⟩ : ∃ m : Nat, plays = m := ⟨plays.toNat, by omega⟩
   rw [Int.toNat_natCast, Int.toNat_natCast];exact first_ok h (by omega) (by omega) h0
  ·rw [if_neg hok]
   refine fn_of_row okf23 ?_;have h52 := k52 (s := s) (N := N) (p := p);simp only [FRow.start, f23, c23r0, c23r1, mc, SV.cells, go_sem, Nat.reduceAdd, Nat.reduceSub, true_implies];refine callK_of rfl h52 (.inl rfl) ?_
   simp only [h0, decide_true, c23r3, intss, go_sem, Nat.reduceAdd, Nat.reduceLeDiff, true_implies];intro _;simp only [c23r4, go_sem, true_implies];refine ⟨fun h1 => ?_, fun h1 => ⟨fun h2 => ?_, fun h2 => ⟨fun h3 => ?_, fun h3 => ⟨fun h4 => ?_, fun h4 => ?_⟩⟩⟩⟩
   ·simp only [c23r5, rat, spl_two, frz_two', go_sem, Nat.reduceAdd, true_implies]
    done
   ·simp only [c23r5, rat, spl_two, frz_two', go_sem, Nat.reduceAdd, true_implies]
    done
   ·simp only [c23r5, rat, spl_two, frz_two', go_sem, Nat.reduceAdd, true_implies]
    done
   ·simp only [c23r5, rat, spl_two, frz_two', go_sem, Nat.reduceAdd, true_implies]
    done
   ·omega
 ·rw [if_neg h0]
  refine fn_of_row okf23 ?_;have h52 := k52 (s := s) (N := N) (p := p);simp only [FRow.start, f23, c23r0, c23r1, mc, SV.cells, go_sem, Nat.reduceAdd, Nat.reduceSub, true_implies];refine callK_of rfl h52 (.inl rfl) ?_
  simp only [h0, decide_false, c23r2, go_sem, Nat.reduceAdd, true_implies];refine callK_of rfl h52 (.inl rfl) ?_
  simp only [rat, spl_two, frz_two', go_sem, Nat.reduceAdd, true_implies]
  done
end Go.Proofs.YtikfhfgdmlijeaaGreat.Sk
namespace Go.Proofs.YtikfhfgdmlijeaaGreat.Sk
open Go Go.E
def c5r0 : LO := [oP 3 (.boxS (.t 0)),oP 6 (.mov bF)]
def c5r1 : LO := [oP 17 (.load 3 true (.t 3)),oP 18 (.call 11 [(.t 17)])]
def c5r2 : LO := [oP 19 (.call 12 []),oM 6 19]
def c5r3 : LO := [oP 21 (.load 3 true (.t 3)),oM 22 1,oM 23 2,oP 24 (.call 22 [(.t 21), (.t 22), (.t 23)]),oM 20 24,oP 25 (.ext (.t 20) 0),oP 26 (.ext (.t 20) 1),oP 7 (.alloc [(.s (.int .i64 0)), (.s (.int .i64 0))]),⟨none, none, .store 2 (.t 7) (.t 25)⟩,oM 8 26]
def c5r4 : LO := [oP 28 (.load 3 true (.t 3)),oM 29 1,oM 30 2,oP 31 (.call 23 [(.t 28), (.t 29), (.t 30)]),oM 27 31,oP 32 (.ext (.t 27) 0),oP 33 (.ext (.t 27) 1),oP 9 (.alloc [(.s (.int .i64 0)), (.s (.int .i64 0))]),⟨none, none, .store 2 (.t 9) (.t 32)⟩,oM 10 33]
def c5r5 : LO := [oP 35 (.load 3 true (.t 3)),oP 36 (.call 24 [(.t 35)]),oM 34 36,oP 37 (.ext (.t 34) 0),oP 38 (.ext (.t 34) 1),oP 39 (.ext (.t 34) 2),oP 11 (.alloc [(.s (.int .i64 0)), (.s (.int .i64 0))]),oP 12 (.alloc [(.s (.int .i64 0)), (.s (.int .i64 0))]),⟨none, none, .store 2 (.t 11) (.t 37)⟩,⟨none, none, .store 2 (.t 12) (.t 38)⟩,oM 13 39]
def c5r6 : LO := [oP 41 (.load 3 true (.t 3)),oP 42 (.call 25 [(.t 41)]),oM 40 42,oP 43 (.ext (.t 40) 0),oP 44 (.ext (.t 40) 1),oP 45 (.ext (.t 40) 2),oP 14 (.alloc [(.s (.int .i64 0)), (.s (.int .i64 0))]),oP 15 (.alloc [(.s (.int .i64 0)), (.s (.int .i64 0))]),⟨none, none, .store 2 (.t 14) (.t 43)⟩,⟨none, none, .store 2 (.t 15) (.t 44)⟩,oM 16 45]
def c5r7 : LO := [oP 46 (.load 2 true (.t 7)),oP 47 (.load 2 true (.t 9)),oP 48 (.eql true [(.int .i64), (.int .i64)] false (.t 46) (.t 47)),oM 49 48,oH 50 49 true 8,oH 51 49 true 10,oG 52 49 true (.cmp .eql (.t 50) (.t 51)),oP 53 (.pick (.t 49) (.t 52) bF),oM 54 53,oG 55 54 true (.load 2 true (.t 11)),oG 56 54 true (.load 2 true (.t 14)),oG 57 54 true (.eql true [(.int .i64), (.int .i64)] false (.t 55) (.t 56)),oP 58 (.pick (.t 54) (.t 57) bF),oM 59 58,oG 60 59 true (.load 2 true (.t 12)),oG 61 59 true (.load 2 true (.t 15)),oG 62 59 true (.eql true [(.int .i64), (.int .i64)] false (.t 60) (.t 61)),oP 63 (.pick (.t 59) (.t 62) bF),oM 64 63,oH 65 64 true 13,oH 66 64 true 16,oG 67 64 true (.cmp .eql (.t 65) (.t 66)),oP 68 (.pick (.t 64) (.t 67) bF),oM 69 68,oG 70 69 true (.call 12 []),oP 71 (.pick (.t 69) (.t 70) bF),oM 6 71]
def f5 : FRow := ⟨(sR c5r0 (.seq (sR c5r1 (.cond (.t 18) (sR c5r2 .ret) .skip)) (.seq (.reg 1 c5r3) (.seq (.reg 1 c5r4) (.seq (.reg 2 c5r5) (.seq (.reg 2 c5r6) (sR c5r7 .ret))))))), [.tmp 6], 72⟩
theorem okf5 : f5.Ok Tryz.prog 5 := ⟨_, _, Tryz.func5, rfl, by kernel_rfl, by kernel_rfl, by kernel_rfl⟩
end Go.Proofs.YtikfhfgdmlijeaaGreat.Sk
namespace Go.Proofs.YtikfhfgdmlijeaaGreat.Sk
open Go Go.E Go.E.Sm
set_option maxRecDepth 10000
theorem first_form {s : Int} {N : List (List Int)} {p : List Int} {a b : Int} : ∃ q e, firstR s N p a b = [rat q, .int .i64 e] := by
 unfold firstR
 split
 ·split
  ·exact ⟨_, _, rfl⟩
  ·exact ⟨_, _, rfl⟩
 ·exact ⟨_, _, rfl⟩
theorem bet_form {s : Int} {N : List (List Int)} {p : List Int} : ∃ q r e, betR s N p = [rat q, rat r, .int .i64 e] := by
 unfold betR
 split
 ·exact ⟨_, _, _, rfl⟩
 ·exact ⟨_, _, _, rfl⟩
theorem law5 {s : Int} {N : List (List Int)} {p : List Int} {a b : Int} : E.Fn Tryz.prog 5 [mc s N p, .int .i64 a, .int .i64 b] [.bool true] := by
 refine fn_of_row okf5 ?_;have h22 := k22 (s := s) (N := N) (p := p) (state := a) (plays := b);have h23 := k23 (s := s) (N := N) (p := p) (state := a) (plays := b);have h24 := k24 (s := s) (N := N) (p := p);have h25 := k25 (s := s) (N := N) (p := p);obtain ⟨q, e, hq⟩ := first_form (s := s) (N := N) (p := p) (a := a) (b := b);obtain ⟨x, y, e2, hx⟩ := bet_form (s := s) (N := N) (p := p);rw [hq] at h22 h23;rw [hx] at h24 h25;simp only [FRow.start, f5, c5r0, c5r1, mc, SV.cells, go_sem, Nat.reduceAdd, Nat.reduceSub, true_implies];refine callK_of rfl (k11 (s := s) (N := N) (p := p)) (.inl rfl) ?_
 cases hg : greatB N p with
 | true =>
  simp only [c5r2, go_sem, true_implies];refine wk ?_;simp only [go_sem, true_implies]
 | false =>
  simp only [c5r3, go_sem, Nat.reduceAdd, true_implies];refine callK_of rfl h22 (.inl rfl) ?_
  simp only [rat, spl_two, c5r4, go_sem, Nat.reduceAdd, true_implies];refine callK_of rfl h23 (.inl rfl) ?_
  simp only [rat, spl_two, c5r5, go_sem, Nat.reduceAdd, true_implies];refine callK_of rfl h24 (.inl rfl) ?_
  simp only [rat, spl_two, c5r6, go_sem, Nat.reduceAdd, true_implies];refine callK_of rfl h25 (.inl rfl) ?_
  simp only [rat, spl_two, c5r7, decide_true, go_sem, Nat.reduceAdd, true_implies];refine wk ?_;simp only [go_sem, true_implies]
end Go.Proofs.YtikfhfgdmlijeaaGreat.Sk
