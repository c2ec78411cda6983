/- Contracts: how likely a state comes to a closed part. -/
import Derived.Test.YtikfhfgdmlijeaaJ7
import Derived.Deep.Strs

set_option linter.all false

namespace Go.Proofs.Ytikfhfgdmlijeaa.Sk
open Go Go.E Go.E.Sm
set_option maxRecDepth 10000
def landsQ (s : Int) (N : List (List Int)) (state : Int) (pt : List Int) : Int × Int :=
 if idx (fun x => decide (state = x)) (nats (opL N)) 0 < 0 then (if state ∈ pt then (1, 1) else (0, 1))
 else lst (solK s N (opL N) ((opL N).map (toP N pt)) (idx (fun x => decide (state = x)) (nats (opL N)) 0).toNat) (detS s N (opL N))
theorem rchC_len {g : Nat -> Nat -> Bool} {n i : Nat} : (rchC g n i).length <= n := by
 unfold rchC; rw [List.length_map]; exact rB_len
theorem part_len {N : List (List Int)} {l : List Int} (h : l ∈ parts N) : l.length <= N.length := by
 obtain ⟨c, _, rfl⟩ := mem_part h
 exact rchC_len
theorem part_mem {N : List (List Int)} {l : List Int} (h : l ∈ parts N) {x : Int} (hx : x ∈ l) : ∃ k : Nat, x = k /\ k < N.length := by
 obtain ⟨c, _, rfl⟩ := mem_part h
 obtain ⟨k, h1, h2⟩ := mem_rchC.1 hx
 exact ⟨k, h1, h2.lt⟩
theorem idx_spec {α : Type} {p : α -> Bool} : ∀ {xs : List α} {i : Nat}, idx p xs i < 0 /\ (∀ x ∈ xs, p x = false) \/ ∃ j x, xs[j]? = some x /\ p x = true /\ idx p xs i = ((i + j : Nat) : Int)
 | [], i => .inl ⟨by simp [idx], by simp⟩
 | x :: xs, i => by
  rw [idx]
  cases hp : p x with
  | true => exact .inr ⟨0, x, rfl, hp, rfl⟩
  | false =>
   simp only [Bool.false_eq_true, if_false]
   rcases idx_spec (p := p) (xs := xs) (i := i + 1) with ⟨h1, h2⟩ | ⟨j, y, h1, h2, h3⟩
   ·exact .inl ⟨h1, fun y hy => by rcases List.mem_cons.1 hy with rfl | hy; exact hp; exact h2 y hy⟩
   ·refine .inr ⟨j + 1, y, by simpa using h1, h2, ?_⟩
    rw [show i + (j + 1) = i + 1 + j by omega]
    exact h3
theorem idx_spec0 {α : Type} {p : α -> Bool} {xs : List α} : idx p xs 0 < 0 /\ (∀ x ∈ xs, p x = false) \/ ∃ (j : Nat) (x : α), xs[j]? = some x /\ p x = true /\ idx p xs 0 = (j : Int) := by
 rcases idx_spec (p := p) (xs := xs) (i := 0) with ⟨h1, h2⟩ | ⟨j, x, h1, h2, h3⟩
 ·exact .inl ⟨h1, h2⟩
 ·exact .inr ⟨j, x, h1, h2, by rw [Nat.zero_add] at h3; exact h3⟩
theorem mid_get {A Z : List Int} {x : Int} {m : Nat} (h : A.length = m) : (A ++ x :: Z)[m]? = some x := by
 subst h
 rw [List.getElem?_append_right (Nat.le_refl _), Nat.sub_self]; rfl
theorem mid_set {A Z : List Int} {x y : Int} {m : Nat} (h : A.length = m) : (A ++ x :: Z).set m y = A ++ y :: Z := by
 subst h
 rw [List.set_append_right _ _ (Nat.le_refl _), Nat.sub_self]; rfl
theorem toP_le {N : List (List Int)} {s : Int} (h : OkN s N) {pt : List Int} (hl : pt.length <= 4) (k : Nat) : (toP N pt k).natAbs <= 80 := by
 unfold toP
 have h1 := sum_abs (l := pt.map fun j => tn N k j.toNat) (B := 20) (fun x hx => by
  obtain ⟨j, _, rfl⟩ := List.mem_map.1 hx
  have := h.tn k j.toNat
  have := h.s20
  omega)
 rw [List.length_map] at h1
 exact Nat.le_trans h1 (Nat.le_trans (Nat.mul_le_mul_right _ hl) (by decide))
set_option maxHeartbeats 1000000 in
theorem k62 {s : Int} {N : List (List Int)} {p : List Int} {state : Int} {part : Nat} {pt : List Int} (h : OkM s N p) (hpt : (parts N)[part]? = some pt) (hd : ∀ k ∈ opL N, 0 < detS s N (opL N)) :
  E.Fn Try.prog 62 [benchC s N p, .int .i64 state, .int .i64 part] [rat (landsQ s N state pt)] := by
 refine fn_of_row okf62 ?_
 have hn4 := h.n4
 have hpm := List.mem_of_getElem? hpt
 have hpl := part_len hpm
 have hps := parts_len (N := N)
 have hm := map_turns h.sq
 have hk82 : E.Fn Try.prog 82 [intss (parts N)] [ints (parts N).flatten] := k82 (by omega) (fun l hl => by have := part_len hl; omega) (by
  obtain ⟨c, hc, rfl⟩ := mem_part hpm
  have hcc := (isPC_iff.1 hc).1
  have h1 : (c : Int) ∈ rchC (gr N) N.length c := mem_rchC.2 ⟨c, rfl, hcc⟩
  have h2 : (c : Int) ∈ (parts N).flatten := List.mem_flatten.2 ⟨_, hpm, h1⟩
  exact List.length_pos_of_mem h2)
 have hk80 : E.Fn Try.prog 80 [benchC s N p, ints (parts N).flatten] [ints (nats (opL N))] := k80 (by omega)
 have hol : (opL N).length <= N.length := wout_len
 have hoL : ∀ i ∈ opL N, i < N.length := fun i => wout_lt
 unfold landsQ
 simp only [FRow.start, f62, c62r0, c62r1, benchC, bnV, go_sem, Nat.reduceAdd, Nat.reduceSub, Nat.reduceLeDiff, true_implies]
 refine callK_of (by simp only [intss, go_sem]) hk82 (.inr (.inl (by simp only [intss, go_sem]))) ?_
 simp only [go_sem]
 refine callK_of (by simp only [ints, benchC, bnV, go_sem]) hk80 (.inr (.inl (by simp only [ints, benchC, bnV, go_sem]))) ?_
 have hk83 := k83 (xs := nats (opL N)) (v := state)
 have hk81 : ∀ col : List Int, col.length = (opL N).length -> (∀ x ∈ col, x.natAbs <= 2 ^ 38) -> E.Fn Try.prog 81 [benchC s N p, ints (nats (opL N)), ints col] [ints (solL s N (opL N) col), .int .i64 (detS s N (opL N))] := fun col h1 h2 =>
  k81 h.toOkN hoL (by omega) h1 h2
 have hsl : ∀ (k : Nat), k < (opL N).length -> (solK s N (opL N) ((opL N).map (toP N pt)) k).natAbs <= 80 * 2 ^ 22 := fun k hk => sol_le h.toOkN (by omega) hk (by decide) (fun x hx => by
  obtain ⟨i, _, rfl⟩ := List.mem_map.1 hx
  exact toP_le h.toOkN (by omega) i)
 have hdl : (detS s N (opL N)).natAbs <= 2 ^ 22 := det_le h.toOkN (by omega)
 generalize opL N = st at *
 simp only [c62r2, go_sem, true_implies]
 refine callK_of (by simp only [ints, go_sem]) hk83 (.inl rfl) ?_
 have hcs := idx_spec0 (p := fun x => decide (state = x)) (xs := nats st)
 generalize idx (fun x => decide (state = x)) (nats st) 0 = ix at *
 rcases hcs with ⟨hi1, hi2⟩ | ⟨a, x, hx1, hx2, rfl⟩
 ·rw [if_pos hi1]
  simp only [hi1, c62r3, c62r4, intss, hpt, go_sem, Nat.reduceAdd, Nat.reduceLeDiff, true_implies]
  refine callK_of (by simp only [ints, go_sem]) (k84 (xs := pt) (v := state)) (.inl rfl) ?_
  by_cases hin : state ∈ pt
  ·rw [if_pos hin]
   simp only [hin, c62r5, spl_two, frz_two', rat, go_sem, ↓reduceIte, Nat.reduceAdd, Nat.reduceLeDiff, true_implies]
  ·rw [if_neg hin]
   simp only [hin, c62r6, spl_two, frz_two', rat, go_sem, ↓reduceIte, Nat.reduceAdd, Nat.reduceLeDiff, true_implies]
 ·rw [if_neg (by omega)]
  have hal : a < st.length := by have := (List.getElem?_eq_some_iff.1 hx1).1; simpa [nats] using this
  have hst0 : ∀ k ∈ st, k < N.length := hoL
  have hnl : (nats st).length = st.length := by simp [nats]
  have hd0 := hd st[a] (List.getElem_mem hal)
  have ea : ¬ ((a : Int) < 0) := by omega
  simp only [ea, c62r3, c62r7, ints, hnl, go_sem, Nat.reduceAdd, Nat.reduceLT, true_implies]
  refine ⟨by omega, by omega, fun _ => ?_⟩
  rw [rep_flat]
  simp only [c62r8, hnl, go_sem]
  intro _
  refine loop_rule (fun m τ => ∃ i : Nat, m = st.length - i /\ i <= st.length /\
   τ = ⟨((.s (benchC s N p))::aN::(aI part)::aN::aN::aN::(.loc 0 0)::(.s (ints (nats st)))::(aI a)::(.sl 1 0 st.length 1 true)::aN::aN::aN::aN::aN::aN::aN::aN::aN::aN::aN::aN::aN::aN::aN::aN::aN::aN::aN::aN::aN::aN::aN::aN::aN::aN::aN::aN::aN::aN::aN::aN::(.s (ints (nats st)))::(aI st.length)::(aI i)::aN::aN::aN::aN::aN::aZ40),
    [.obj [aI 0, aI 0], .row (((st.take i).map (toP N pt) ++ List.replicate (st.length - i) 0).map (.int .i64))]⟩) st.length rfl ?_ ?_
  ·simp only [c62l18m, go_sem, ↓reduceIte, reduceCtorEq, Nat.reduceAdd, Nat.reduceLeDiff]
   exact ⟨0, rfl, Nat.zero_le _, rfl⟩
  ·rintro I m τ ⟨i, rfl, hi, rfl⟩ hI
   simp only [c62l18, c62r9, go_sem, ↓reduceIte, Nat.reduceAdd, true_implies]
   refine ⟨fun hlt => ?_, fun hge => ?_⟩
   ·have hlt : i < st.length := by omega
    have hx : st[i]? = some st[i] := List.getElem?_eq_getElem hlt
    have hk := hst0 _ (List.getElem_mem hlt)
    have hnx : (nats st)[i]? = some (st[i] : Int) := by unfold nats; rw [List.getElem?_map, hx]; rfl
    have hrow := row_set (f := toP N pt) hx
    generalize st[i] = k at hx hk hnx hrow
    have hrep : List.replicate (st.length - i) (0 : Int) = 0 :: List.replicate (st.length - (i + 1)) 0 := by rw [show st.length - i = (st.length - (i + 1)) + 1 by omega, List.replicate_succ]
    have hAl : ((st.take i).map (toP N pt)).length = i := by rw [List.length_map, List.length_take]; omega
    simp only [c62r10, ints, hnx, c62r11, benchC, bnV, intss, hpt, go_sem, Nat.reduceAdd, Nat.reduceLeDiff, true_implies]
    intro _
    rw [hrep] at hrow ⊢
    rw [mid_set hAl] at hrow
    have hZl : ∀ z : Int, ((st.take i).map (toP N pt) ++ z :: List.replicate (st.length - (i + 1)) 0).length = st.length := fun z => by rw [List.length_append, List.length_cons, hAl, List.length_replicate]; omega
    have hget : ∀ z : Int, ((st.take i).map (toP N pt) ++ z :: List.replicate (st.length - (i + 1)) 0)[i]? = some z := fun z => mid_get hAl
    have hset : ∀ z y : Int, ((st.take i).map (toP N pt) ++ z :: List.replicate (st.length - (i + 1)) 0).set i y = (st.take i).map (toP N pt) ++ y :: List.replicate (st.length - (i + 1)) 0 := fun z y => mid_set hAl
    generalize hA : (fun z : Int => (st.take i).map (toP N pt) ++ z :: List.replicate (st.length - (i + 1)) 0) = A
    have hA' : ∀ z, (st.take i).map (toP N pt) ++ z :: List.replicate (st.length - (i + 1)) 0 = A z := fun z => by rw [<- hA]
    simp only [hA'] at hZl hget hset ⊢
    refine loop_rule (fun m τ => ∃ j : Nat, m = pt.length - j /\ j <= pt.length /\
     τ = ⟨((.s (benchC s N p))::aN::(aI part)::aN::aN::aN::(.loc 0 0)::(.s (ints (nats st)))::(aI a)::(.sl 1 0 st.length 1 true)::(aI i)::(aI k)::aN::aN::aN::aN::aN::aN::aN::aN::aN::aN::aN::aN::aN::aN::aN::aN::aN::aN::aN::aN::aN::aN::aN::aN::aN::aN::aN::aN::aN::aN::(.s (ints (nats st)))::(aI st.length)::(aI i)::aN::aN::aN::aN::aN::aN::aN::aN::aN::aN::(.s (ints pt))::(aI pt.length)::(aI j)::aZ32),
      [.obj [aI 0, aI 0], .row ((A (toP N (pt.take j) k)).map (.int .i64))]⟩) pt.length rfl ?_ ?_
    ·simp only [c62l16m, go_sem, ↓reduceIte, reduceCtorEq, Nat.reduceAdd, Nat.reduceLeDiff]
     exact ⟨0, rfl, Nat.zero_le _, rfl⟩
    ·rintro I2 m τ ⟨j, rfl, hj, rfl⟩ hI2
     simp only [c62l16, c62r12, go_sem, ↓reduceIte, Nat.reduceAdd, true_implies]
     refine ⟨fun hlt2 => ?_, fun hge => ?_⟩
     ·have hlt2 : j < pt.length := by omega
      have hy : pt[j]? = some pt[j] := List.getElem?_eq_getElem hlt2
      obtain ⟨b, hyb, hb⟩ := part_mem hpm (List.getElem_mem hlt2)
      rw [hyb] at hy
      have hts : toP N (pt.take (j + 1)) k = toP N (pt.take j) k + tn N k b := by
       unfold toP
       rw [List.take_succ, hy, List.map_append, List.sum_append]; simp
      have hb1 := toP_le h.toOkN (pt := pt.take (j + 1)) (by rw [List.length_take]; omega) k
      simp only [c62r13, ints, hy, c62r14, Nat.mul_one, hget, benchC, bnV, go_sem, ↓reduceIte, Nat.reduceAdd, Nat.reduceLeDiff, true_implies]
      have hin1 : inR .i64 (toP N (pt.take j) k + tn N k b) := inR_abs (by rw [<- hts]; omega)
      have hs1 := spl_row (R := A (toP N (pt.take j) k)) (i := i) (x := toP N (pt.take j) k + tn N k b) (by rw [hZl]; omega)
      refine ⟨hlt, hm.key k b hk hb, hm.nod, hm.look hk hb ?_⟩
      simp only [Nat.mul_one, hs1, hset, c62r15, c62l16m, hZl, List.length_map, go_sem, ↓reduceIte, reduceCtorEq, Nat.reduceAdd, Nat.reduceLeDiff, true_implies]
      exact ⟨hin1, hlt, by omega, inR_small (by omega) (by omega), hI2 (pt.length - (j + 1)) _ (by omega) ⟨j + 1, rfl, by omega, by rw [hts]; rfl⟩⟩
     ·have hje : j = pt.length := by omega
      subst hje
      rw [List.take_length]
      simp only [c62r17, c62l18m, go_sem, ↓reduceIte, reduceCtorEq, Nat.reduceLeDiff, true_implies]
      exact ⟨inR_small (by omega) (by omega), hI (st.length - (i + 1)) _ (by omega) ⟨i + 1, rfl, by omega, by rw [<- hrow, hA']; rfl⟩⟩
   ·have hie : i = st.length := by omega
    subst hie
    rw [List.take_length, Nat.sub_self, List.replicate_zero, List.append_nil]
    have hsl2 : sliceOf 0 st.length 1 ((st.map (toP N pt)).map (SV.int .i64)) = some (ints (st.map (toP N pt))) := by
     have := slice_ints (l := st.map (toP N pt))
     rw [List.length_map] at this
     exact this
    have h81 := hk81 (st.map (toP N pt)) (by simp) (fun x hx => by
     obtain ⟨i, _, rfl⟩ := List.mem_map.1 hx
     have := toP_le h.toOkN (pt := pt) (by omega) i
     omega)
    have hsla := hsl a hal
    have hga : (solL s N st (st.map (toP N pt)))[a]? = some (solK s N st (st.map (toP N pt)) a) := by
     unfold solL
     rw [List.getElem?_map, List.getElem?_range hal]; rfl
    have hk71 := k71 (n := solK s N st (st.map (toP N pt)) a) (d := detS s N st) (by omega) hd0 (by omega)
    have hrt : rowOf 0 st.length 1 ((st.map (toP N pt)).map (SV.int .i64)) = some ((st.map (toP N pt)).map (.int .i64)) := by
     rw [rowOf_take (by simp), List.take_of_length_le (by simp)]
    simp only [c62r19, go_sem]
    refine ⟨_, hrt, ?_⟩
    refine callK_of (by simp only [ints, benchC, bnV, go_sem]) h81 (.inr (.inl (by simp only [ints, benchC, bnV, go_sem]))) ?_
    simp only [c62r20, ints, hga, go_sem, Nat.reduceAdd, true_implies]
    refine callK_of (by simp only [go_sem]) hk71 (.inl rfl) ?_
    simp only [spl_two, frz_two', rat, go_sem, Nat.reduceAdd, true_implies]
    done
def landsR (s : Int) (N : List (List Int)) (p : List Int) (state part : Int) : List SV :=
 if chkM s N p = 0 then (if (0 <= state /\ state < N.length) /\ 0 <= part /\ part < (parts N).length then [rat (landsQ s N state (((parts N)[part.toNat]?).getD [])), .int .i64 0] else [rat (0, 0), .int .i64 2]) else [rat (0, 0), .int .i64 (chkM s N p)]
theorem within_one {lo hi x : Int} : withinB lo hi [x] = decide (lo <= x /\ x <= hi) := by
 rw [Bool.eq_iff_iff, within_iff, decide_eq_true_eq]
 simp
theorem k29 {s : Int} {N : List (List Int)} {p : List Int} {state part : Int} : E.Fn Try.prog 29 [mc s N p, .int .i64 state, .int .i64 part] (landsR s N p state part) := by
 refine fn_of_row okf29 ?_
 have h48 := k48 (s := s) (N := N) (p := p)
 unfold landsR
 unfold openR at h48
 simp only [FRow.start, f29, c29r0, c29r1, mc, SV.cells, List.length_cons, List.length_nil, go_sem, Nat.reduceAdd, Nat.reduceSub, true_implies]
 by_cases h0 : chkM s N p = 0
 ·rw [if_pos h0] at h48
  rw [if_pos h0]
  have h := chkM_zero.1 h0
  have hn4 := h.n4
  have hps := parts_len (N := N)
  refine callK_of rfl h48 (.inr (.inl rfl)) ?_
  have hin1 : inR .i64 ((N.length : Int) - 1) := inR_i64 (by omega) (by omega)
  have hin2 : inR .i64 (((parts N).length : Int) - 1) := inR_i64 (by omega) (by omega)
  have hw1 := within_one (lo := 0) (hi := (N.length : Int) - 1) (x := state)
  have hw2 := within_one (lo := 0) (hi := ((parts N).length : Int) - 1) (x := part)
  simp only [c29r2, c29r4, intss, go_sem, Nat.reduceAdd, Nat.reduceLeDiff, Nat.reduceMul, true_implies]
  refine ⟨hin1, by decide, by decide, rfl, one_int, ?_⟩
  refine callK_of (by simp only [ints, List.map_cons, List.map_nil, go_sem]) (k57 (lo := 0) (hi := (N.length : Int) - 1) (l := [state])) (.inl rfl) ?_
  by_cases h1 : 0 <= state /\ state < N.length
  ·rw [decide_eq_true (by omega)] at hw1
   simp only [hw1, benchC, bnV, intss, go_sem, Nat.reduceAdd, Nat.reduceLeDiff, Nat.reduceMul]
   refine ⟨hin2, by decide, by decide, rfl, one_int, ?_⟩
   refine callK_of (by simp only [ints, List.map_cons, List.map_nil, go_sem]) (k57 (lo := 0) (hi := ((parts N).length : Int) - 1) (l := [part])) (.inl rfl) ?_
   by_cases h2 : 0 <= part /\ part < (parts N).length
   ·rw [decide_eq_true (by omega)] at hw2
    rw [if_pos ⟨h1, h2⟩]
    obtain ⟨m, rfl⟩ : ∃ m : Nat, part = m := ⟨part.toNat, by omega⟩
    have hpt : (parts N)[m]? = some (parts N)[m] := List.getElem?_eq_getElem (by omega)
    have h62 := k62 (state := state) h hpt (fun _ hk => open_pos h hk)
    have e : ((parts N)[(m : Int).toNat]?).getD [] = (parts N)[m] := by rw [Int.toNat_natCast, hpt]; rfl
    rw [e]
    simp only [hw2, c29r6, go_sem]
    intro _
    refine callK_of (by simp only [benchC, bnV, intss, ints, go_sem]) h62 (.inl rfl) ?_
    simp only [rat, spl_two, frz_two', go_sem, Nat.reduceAdd, true_implies]
    done
   ·rw [decide_eq_false (by omega)] at hw2
    rw [if_neg fun h => h2 h.2]
    simp only [hw2, c29r5, rat, spl_two, frz_two', go_sem, Nat.reduceAdd, true_implies]
    done
  ·rw [decide_eq_false (by omega)] at hw1
   rw [if_neg fun h => h1 h.1]
   simp only [hw1, c29r5, rat, spl_two, frz_two', go_sem, Nat.reduceAdd, true_implies]
   done
 ·rw [if_neg h0] at h48
  rw [if_neg h0]
  refine callK_of rfl h48 (.inr (.inl rfl)) ?_
  simp only [h0, c29r2, c29r3, rat, spl_two, frz_two', go_sem, Nat.reduceAdd, true_implies]
def prV (d g : Int) (hs : List Int) : SV := .agg [.int .i64 d, .int .i64 g, ints hs]
def ovT (s : Int) (N : List (List Int)) (p : List Int) (d g : Int) (hs : List Int) (i j : Nat) : Int :=
 s * (p[i]?.getD 0 * d - g - hs[i]?.getD 0) + ((List.range j).map fun k => tn N i k * hs[k]?.getD 0).sum
def ovN (s : Int) (N : List (List Int)) (p : List Int) (d g : Int) (hs : List Int) (i : Nat) : Int := ovT s N p d g hs i N.length
structure PrOk (d g : Int) (hs : List Int) : Prop where
  d1 : 1 <= d
  d2 : d <= 2 ^ 40
  g1 : -2 ^ 50 <= g /\ g <= 2 ^ 50
  h1 : ∀ x ∈ hs, -2 ^ 50 <= x /\ x <= 2 ^ 50
section
variable {s : Int} {N : List (List Int)} {p : List Int} {d g : Int} {hs : List Int}
theorem PrOk.get (h : PrOk d g hs) (i : Nat) : (hs[i]?.getD 0).natAbs <= 2 ^ 50 := by
 cases hx : hs[i]? with
 | none => simp
 | some x => have := h.h1 x (List.mem_of_getElem? hx); simp only [Option.getD_some]; omega
theorem ovT_succ {i j : Nat} : ovT s N p d g hs i (j + 1) = ovT s N p d g hs i j + tn N i j * hs[j]?.getD 0 := by
 unfold ovT
 rw [List.range_succ, List.map_append, List.sum_append]
 simp only [List.map_cons, List.map_nil, List.sum_cons, List.sum_nil]
 omega
theorem payd_le (h : OkP s N p) (q : PrOk d g hs) (i : Nat) : (p[i]?.getD 0 * d).natAbs <= 1000 * 2 ^ 40 := by
 rw [Int.natAbs_mul]
 have h1 := pay_le h i
 have h2 := q.d1
 have h3 := q.d2
 exact Nat.mul_le_mul (by omega) (by omega)
theorem tnh_le (h : OkP s N p) (q : PrOk d g hs) (i j : Nat) : (tn N i j * hs[j]?.getD 0).natAbs <= 20 * 2 ^ 50 := by
 rw [Int.natAbs_mul]
 have h1 := h.tn i j
 have h2 := h.s20
 exact Nat.mul_le_mul (by omega) (q.get j)
theorem sp_le (h : OkP s N p) {x : Int} {B : Nat} (hx : x.natAbs <= B) : (s * x).natAbs <= 20 * B := by
 rw [Int.natAbs_mul]
 have h1 := h.s1
 have h2 := h.s20
 exact Nat.mul_le_mul (by omega) hx
theorem ovT_le (h : OkP s N p) (q : PrOk d g hs) {i j : Nat} (hj : j <= 4) : (ovT s N p d g hs i j).natAbs <= 2 ^ 58 := by
 unfold ovT
 have h1 := payd_le h q i
 have h2 := q.get i
 have h3 := q.g1
 have h4 := sp_le h (x := p[i]?.getD 0 * d - g - hs[i]?.getD 0) (B := 2 ^ 52) (by omega)
 have h5 := sum_abs (l := (List.range j).map fun k => tn N i k * hs[k]?.getD 0) (B := 20 * 2 ^ 50) (fun x hx => by
  obtain ⟨k, _, rfl⟩ := List.mem_map.1 hx
  exact tnh_le h q i k)
 rw [List.length_map, List.length_range] at h5
 have h6 := Nat.le_trans h5 (Nat.mul_le_mul_right _ hj)
 omega
end
theorem k58 {s : Int} {N : List (List Int)} {p : List Int} {d g : Int} {hs : List Int} : E.Fn Try.prog 58 [benchC s N p, prV d g hs] [.fn 79 [] [.ptr [benchC s N p], .ptr [.int .i64 d, .int .i64 g, ints hs]]] := by
 refine fn_of_row okf58 ?_
 simp only [FRow.start, f58, c58r0, c58r1, prV, SV.cells, benchC, bnV, go_sem, Nat.reduceAdd, Nat.reduceSub, true_implies]
 done
set_option maxHeartbeats 1000000 in
theorem k79 {s : Int} {N : List (List Int)} {p : List Int} {d g : Int} {hs : List Int} (h : OkM s N p) (q : PrOk d g hs) (hl : hs.length = N.length) {i : Nat} (hi : i < N.length) :
  E.Fn Try.prog 79 [.int .i64 i, .ptr [benchC s N p], .ptr [.int .i64 d, .int .i64 g, ints hs]] [.int .i64 (ovN s N p d g hs i)] := by
 refine fn_of_row okf79 ?_
 have hn4 := h.n4
 have hm := map_turns h.sq
 obtain ⟨y, hy⟩ : ∃ y, p[i]? = some y := ⟨_, List.getElem?_eq_getElem (by rw [h.pl]; exact hi)⟩
 obtain ⟨z, hz⟩ : ∃ z, hs[i]? = some z := ⟨_, List.getElem?_eq_getElem (by omega)⟩
 have b1 := payd_le h.toOkP q i
 have b2 := q.get i
 have b3 := q.g1
 have b4 := sp_le h.toOkP (x := p[i]?.getD 0 * d - g - hs[i]?.getD 0) (B := 2 ^ 52) (by omega)
 have h0 : ovT s N p d g hs i 0 = s * (y * d - g - z) := by unfold ovT; rw [hy, hz]; simp
 rw [hy, Option.getD_some] at b1 b4
 rw [hz, Option.getD_some] at b2 b4
 simp only [FRow.start, f79, c79r0, c79r1, benchC, bnV, ints, hy, hz, go_sem, Nat.reduceAdd, Nat.reduceSub, Nat.reduceLeDiff, true_implies]
 refine ⟨inR_abs (by omega), inR_abs (by omega), inR_abs (by omega), inR_abs (by omega), ?_⟩
 simp only [c79r2, go_sem, Nat.reduceAdd, Nat.reduceLeDiff]
 intro _
 rw [<- h0]
 refine loop_rule (fun m τ => ∃ j : Nat, m = hs.length - j /\ j <= hs.length /\
  τ = ⟨((aI i)::(.s (.ptr [benchC s N p]))::aN::aN::aN::(aI (ovT s N p d g hs i j))::aN::aN::aN::aN::aN::aN::aN::aN::aN::aN::aN::aN::aN::aN::aN::aN::aN::aN::aN::aN::aN::aN::aN::aN::aN::aN::aN::aN::aN::(.s (ints hs))::(aI hs.length)::(aI j)::aN::aN::aZ16), []⟩) hs.length rfl ?_ ?_
 ·simp only [c79l7m, go_sem]
  exact ⟨0, rfl, Nat.zero_le _, rfl⟩
 ·rintro I m τ ⟨j, rfl, hj, rfl⟩ hI
  simp only [c79l7, c79r3, go_sem, ↓reduceIte, true_implies]
  refine ⟨fun hlt => ?_, fun hge => ?_⟩
  ·have hlt : j < hs.length := by omega
   have hx : hs[j]? = some hs[j] := List.getElem?_eq_getElem hlt
   have c1 := tnh_le h.toOkP q i j
   have c2 := ovT_le h.toOkP q (i := i) (j := j + 1) (by omega)
   have c3 := ovT_succ (s := s) (N := N) (p := p) (d := d) (g := g) (hs := hs) (i := i) (j := j)
   rw [hx, Option.getD_some] at c1 c3
   generalize hs[j] = x at hx c1 c3
   simp only [c79r4, ints, hx, c79r5, benchC, bnV, go_sem, ↓reduceIte, Nat.reduceAdd, Nat.reduceLeDiff, true_implies]
   refine ⟨hm.key i j hi (by omega), hm.nod, hm.look hi (by omega) ?_⟩
   simp only [go_sem, true_implies]
   refine ⟨inR_abs (by omega), inR_abs (by omega), ?_⟩
   simp only [c79r6, c79l7m, go_sem, true_implies]
   exact ⟨inR_small (by omega) (by omega), hI (hs.length - (j + 1)) _ (by omega) ⟨j + 1, rfl, by omega, by rw [c3]; rfl⟩⟩
  ·have hje : j = hs.length := by omega
   subst hje
   simp only [c79r8, go_sem, true_implies]
   unfold ovN
   rw [<- hl]
def kd (m l : Bool) : Int := (if m then 1 else 0) + (if l then 2 else 0)
theorem kd_most {m l : Bool} : bitOf .i64 (kd m l) 1 .andNot = kd false l := by cases m <;> cases l <;> decide
theorem kd_least {m l : Bool} : bitOf .i64 (kd m l) 2 .andNot = kd m false := by cases m <;> cases l <;> decide
def mostB (s : Int) (N : List (List Int)) (p : List Int) (d g : Int) (hs : List Int) (i : Nat) : Bool := (List.range i).all fun k => decide (ovN s N p d g hs k <= 0)
def leastB (s : Int) (N : List (List Int)) (p : List Int) (d g : Int) (hs : List Int) (i : Nat) : Bool := (List.range i).all fun k => decide (0 <= ovN s N p d g hs k)
def prB (d g : Int) (hs : List Int) : Bool := withinB 1 1099511627776 [d] && withinB (-1125899906842624) 1125899906842624 [g] && withinB (-1125899906842624) 1125899906842624 hs
theorem prB_iff {d g : Int} {hs : List Int} : prB d g hs = true ↔ PrOk d g hs := by
 unfold prB
 rw [Bool.and_eq_true, Bool.and_eq_true, within_iff, within_iff, within_iff]
 constructor
 ·rintro ⟨⟨h1, h2⟩, h3⟩
  have h1 := h1 d (by simp)
  have h2 := h2 g (by simp)
  exact ⟨h1.1, h1.2, h2, h3⟩
 ·intro h
  refine ⟨⟨?_, ?_⟩, h.h1⟩
  ·intro x hx
   rw [List.mem_singleton.1 hx]
   exact ⟨h.d1, h.d2⟩
  ·intro x hx
   rw [List.mem_singleton.1 hx]
   exact h.g1
def ckP (s : Int) (N : List (List Int)) (p : List Int) (d g : Int) (hs : List Int) : Int × Int :=
 if chkM s N p = 0 then (if (hs.length : Int) = N.length then (if prB d g hs = true then (if kd (mostB s N p d g hs N.length) (leastB s N p d g hs N.length) = 0 then (0, 14) else (kd (mostB s N p d g hs N.length) (leastB s N p d g hs N.length), 0)) else (0, 3)) else (0, 15)) else (0, chkM s N p)
def ckPR (q : Int × Int) : List SV := [.int .i64 q.1, .int .i64 q.2]
theorem most_succ {s : Int} {N : List (List Int)} {p : List Int} {d g : Int} {hs : List Int} {i : Nat} : mostB s N p d g hs (i + 1) = (mostB s N p d g hs i && decide (ovN s N p d g hs i <= 0)) := by
 unfold mostB; rw [List.range_succ, List.all_append]; simp
theorem least_succ {s : Int} {N : List (List Int)} {p : List Int} {d g : Int} {hs : List Int} {i : Nat} : leastB s N p d g hs (i + 1) = (leastB s N p d g hs i && decide (0 <= ovN s N p d g hs i)) := by
 unfold leastB; rw [List.range_succ, List.all_append]; simp
set_option maxHeartbeats 1000000 in
theorem k21 {s : Int} {N : List (List Int)} {p : List Int} {d g : Int} {hs : List Int} : E.Fn Try.prog 21 [mc s N p, prV d g hs] (ckPR (ckP s N p d g hs)) := by
 refine fn_of_row okf21 ?_
 have h48 := k48 (s := s) (N := N) (p := p)
 unfold ckPR ckP
 unfold openR at h48
 simp only [FRow.start, f21, c21r0, c21r1, mc, prV, SV.cells, List.length_cons, List.length_nil, go_sem, Nat.reduceAdd, Nat.reduceSub, true_implies]
 by_cases h0 : chkM s N p = 0
 ·rw [if_pos h0] at h48
  rw [if_pos h0]
  have h := chkM_zero.1 h0
  have hn4 := h.n4
  refine callK_of rfl h48 (.inr (.inl rfl)) ?_
  simp only [c21r2, c21r4, ints, intss, go_sem, Nat.reduceAdd, Nat.reduceLeDiff, true_implies]
  intro _
  by_cases h1 : (hs.length : Int) = N.length
  ·rw [if_pos h1]
   simp only [h1, c21r6, go_sem, Nat.reduceAdd, Nat.reduceLeDiff, Nat.reduceMul, Int.reduceNeg, not_true_eq_false, false_implies, true_implies]
   refine ⟨by decide, by decide, rfl, one_int, ?_⟩
   refine callK_of (by simp only [ints, List.map_cons, List.map_nil, go_sem]) (k57 (lo := 1) (hi := 1099511627776) (l := [d])) (.inl rfl) ?_
   unfold prB
   cases hw1 : withinB 1 1099511627776 [d] with
   | false =>
    simp only [c21r7, go_sem, Int.reduceNeg, true_implies]
    simp
   | true =>
    simp only [go_sem, Nat.reduceAdd, Nat.reduceLeDiff, Nat.reduceMul, Int.reduceNeg]
    refine ⟨by decide, by decide, rfl, one_int, ?_⟩
    refine callK_of (by simp only [ints, List.map_cons, List.map_nil, go_sem, Int.reduceNeg]) (k57 (lo := -1125899906842624) (hi := 1125899906842624) (l := [g])) (.inl rfl) ?_
    cases hw2 : withinB (-1125899906842624) 1125899906842624 [g] with
    | false =>
     simp only [c21r7, go_sem, Int.reduceNeg, true_implies]
     simp
    | true =>
     simp only [go_sem, Nat.reduceAdd, Nat.reduceLeDiff, Int.reduceNeg]
     refine callK_of (by simp only [ints, go_sem, Int.reduceNeg]) (k57 (lo := -1125899906842624) (hi := 1125899906842624) (l := hs)) (.inl rfl) ?_
     cases hw3 : withinB (-1125899906842624) 1125899906842624 hs with
     | false =>
      simp only [c21r7, go_sem, true_implies]
      simp
     | true =>
      have q : PrOk d g hs := prB_iff.1 (by unfold prB; rw [hw1, hw2, hw3]; rfl)
      have hl : hs.length = N.length := by omega
      have h79 : ∀ i : Nat, i < N.length -> E.Fn Try.prog 79 [.int .i64 i, .ptr [benchC s N p], .ptr [.int .i64 d, .int .i64 g, ints hs]] [.int .i64 (ovN s N p d g hs i)] := fun i hi => k79 h q hl hi
      simp only [c21r8, c21r9, List.length_cons, List.length_nil, go_sem, ↓reduceIte, Nat.reduceAdd, true_implies]
      refine callK_of (by simp only [prV, benchC, bnV, intss, ints, go_sem]) (k58 (s := s) (N := N) (p := p) (d := d) (g := g) (hs := hs)) (.inr (.inl (by simp only [prV, benchC, bnV, intss, ints, go_sem]))) ?_
      simp only [c21r10, go_sem, Nat.reduceAdd, Nat.reduceLeDiff, true_implies]
      intro _
      refine loop_rule (fun m τ => ∃ i : Nat, m = N.length - i /\ i <= N.length /\
       τ = ⟨[.any, .any, .any, .any, .any, .any, .any, .any, aI (kd (mostB s N p d g hs i) (leastB s N p d g hs i)), .s (.fn 79 [] [.ptr [benchC s N p], .ptr [.int .i64 d, .int .i64 g, ints hs]]), .any, .any, .any, .any, .any, .any, .any, .any, .any, .any, .any, .any, .any, .any, .any, .any, .any, .any, .any, .any, .any, .any, .any, .any, .any, .any, .any, .any, .any, .any, .any, .any, .any, .any, .any, .any, .any, .any, .any, .any, .any, .any, .any, aI N.length, aI i, .any, .any, .any, .any, .any, .any, .any, .any, .any, .any, .any, .any, .any, .any, .any, .any, .any, .any, .any], []⟩) N.length rfl ?_ ?_
      ·simp only [c21l19m, go_sem]
       exact ⟨0, rfl, Nat.zero_le _, rfl⟩
      ·rintro I m τ ⟨i, rfl, hi, rfl⟩ hI
       simp only [c21l19, c21r11, go_sem, ↓reduceIte, true_implies]
       refine ⟨fun hlt => ?_, fun hge => ?_⟩
       ·have hlt : i < N.length := by omega
        have e1 := most_succ (s := s) (N := N) (p := p) (d := d) (g := g) (hs := hs) (i := i)
        have e2 := least_succ (s := s) (N := N) (p := p) (d := d) (g := g) (hs := hs) (i := i)
        have hk := h79 i hlt
        generalize ovN s N p d g hs i = v at hk e1 e2
        generalize mostB s N p d g hs i = bm at e1
        generalize leastB s N p d g hs i = bl at e2
        simp only [c21r12, c21r13, go_sem, true_implies]
        refine ⟨by kernel_rfl, ?_⟩
        refine callK_of (by simp only [go_sem]) hk (.inl rfl) ?_
        have fin : ∀ kv : Int, kv = kd (bm && decide (v <= 0)) (bl && decide (0 <= v)) -> I ⟨[.any, .any, .any, .any, .any, .any, .any, .any, aI kv, .s (.fn 79 [] [.ptr [benchC s N p], .ptr [.int .i64 d, .int .i64 g, ints hs]]), .any, .any, .any, .any, .any, .any, .any, .any, .any, .any, .any, .any, .any, .any, .any, .any, .any, .any, .any, .any, .any, .any, .any, .any, .any, .any, .any, .any, .any, .any, .any, .any, .any, .any, .any, .any, .any, .any, .any, .any, .any, .any, .any, aI N.length, aI (i + 1), .any, .any, .any, .any, .any, .any, .any, .any, .any, .any, .any, .any, .any, .any, .any, .any, .any, .any, .any], []⟩ := fun kv hk => hI (N.length - (i + 1)) _ (by omega) ⟨i + 1, rfl, by omega, by rw [e1, e2, hk]; rfl⟩
        simp only [c21r14, go_sem, true_implies]
        refine ⟨fun hv => ?_, fun hv => ?_⟩
        ·rw [decide_eq_false (by omega), decide_eq_true (by omega), Bool.and_false, Bool.and_true] at fin
         simp only [c21r15, kd_most, c21r18, c21l19m, go_sem, true_implies]
         exact ⟨inR_small (by omega) (by omega), fin _ rfl⟩
        ·rw [decide_eq_true (by omega), Bool.and_true] at fin
         simp only [c21r16, go_sem, true_implies]
         refine ⟨fun hv2 => ?_, fun hv2 => ?_⟩
         ·rw [decide_eq_false (by omega), Bool.and_false] at fin
          simp only [c21r17, kd_least, c21r18, c21l19m, go_sem, true_implies]
          exact ⟨inR_small (by omega) (by omega), fin _ rfl⟩
         ·rw [decide_eq_true (by omega), Bool.and_true] at fin
          simp only [c21r18, c21l19m, go_sem, true_implies]
          exact ⟨inR_small (by omega) (by omega), fin _ rfl⟩
       ·have hie : i = N.length := by omega
        subst hie
        simp only [c21r20, go_sem, true_implies]
        refine ⟨fun hk => ?_, fun hk => ?_⟩
        ·rw [if_pos hk]
         simp only [c21r21, go_sem, true_implies]
        ·rw [if_neg hk]
         simp only [c21r22, go_sem, true_implies]
  ·rw [if_neg h1]
   simp only [h1, c21r5, go_sem, false_implies, true_implies, not_false_eq_true]
   done
 ·rw [if_neg h0] at h48
  rw [if_neg h0]
  refine callK_of rfl h48 (.inr (.inl rfl)) ?_
  simp only [h0, c21r2, c21r3, go_sem, true_implies]
section
variable {s : Int} {N : List (List Int)} {p : List Int} {d g : Int} {hs : List Int}
def aT (s : Int) (N : List (List Int)) (p : List Int) (d : Int) (hs : List Int) (i j : Nat) : Int := s * p[i]?.getD 0 * d + ((List.range j).map fun k => tn N i k * hs[k]?.getD 0).sum
theorem aT_succ {i j : Nat} : aT s N p d hs i (j + 1) = aT s N p d hs i j + tn N i j * hs[j]?.getD 0 := by
 unfold aT
 rw [List.range_succ, List.map_append, List.sum_append]
 simp only [List.map_cons, List.map_nil, List.sum_cons, List.sum_nil]
 omega
theorem aT_ov {i j : Nat} : aT s N p d hs i j - s * (g + hs[i]?.getD 0) = ovT s N p d g hs i j := by
 unfold aT ovT
 generalize ((List.range j).map fun k => tn N i k * hs[k]?.getD 0).sum = x
 generalize p[i]?.getD 0 = y
 generalize hs[i]?.getD 0 = z
 grind
end
theorem prB_false {d g : Int} {hs : List Int} (h : ¬ PrOk d g hs) : prB d g hs = false := by
 cases hb : prB d g hs with
 | false => rfl
 | true => exact absurd (prB_iff.1 hb) h
set_option maxHeartbeats 2000000 in
theorem k22 {s : Int} {N : List (List Int)} {p : List Int} {d g : Int} {hs : List Int} : E.Fn Try.prog 22 [mc s N p, prV d g hs] (ckPR (ckP s N p d g hs)) := by
 refine fn_of_row okf22 ?_
 have h15 := k15 (s := s) (N := N) (p := p)
 unfold ckPR ckP
 simp only [FRow.start, f22, c22r0, c22r1, mc, prV, SV.cells, List.length_cons, List.length_nil, go_sem, Nat.reduceAdd, Nat.reduceSub, true_implies]
 refine callK_of rfl h15 (.inl rfl) ?_
 by_cases h0 : chkM s N p = 0
 ·rw [if_pos h0]
  have h := chkM_zero.1 h0
  have hn4 := h.n4
  simp only [h0, c22r3, ints, intss, go_sem, Nat.reduceAdd, Nat.reduceLeDiff, true_implies]
  intro _
  by_cases h1 : (hs.length : Int) = N.length
  ·rw [if_pos h1]
   have hl : hs.length = N.length := by omega
   by_cases hd1 : d < 1
   ·rw [prB_false (fun q => absurd q.d1 (by omega))]
    simp only [h1, hd1, c22r5, c22r6, go_sem, ↓reduceIte, reduceCtorEq, Nat.reduceAdd, Nat.reduceLeDiff, Int.reduceNeg, not_true_eq_false, false_implies, true_implies]
    done
   ·by_cases hd2 : 1099511627776 < d
    ·rw [prB_false (fun q => absurd q.d2 (by omega))]
     simp only [h1, hd1, hd2, c22r5, c22r6, go_sem, ↓reduceIte, reduceCtorEq, Nat.reduceAdd, Nat.reduceLeDiff, Int.reduceNeg, not_true_eq_false, false_implies, true_implies]
     done
    ·by_cases hg1 : g < -1125899906842624
     ·rw [prB_false (fun q => absurd q.g1 (by omega))]
      simp only [h1, hd1, hd2, hg1, c22r5, c22r6, go_sem, ↓reduceIte, reduceCtorEq, Nat.reduceAdd, Nat.reduceLeDiff, Int.reduceNeg, not_true_eq_false, false_implies, true_implies]
      done
     ·by_cases hg2 : 1125899906842624 < g
      ·rw [prB_false (fun q => absurd q.g1 (by omega))]
       simp only [h1, hd1, hd2, hg1, hg2, c22r5, c22r6, go_sem, ↓reduceIte, reduceCtorEq, Nat.reduceAdd, Nat.reduceLeDiff, Int.reduceNeg, not_true_eq_false, false_implies, true_implies]
       done
      ·simp only [h1, hd1, hd2, hg1, hg2, c22r5, c22r7, go_sem, Nat.reduceAdd, Nat.reduceLeDiff, Int.reduceNeg, not_true_eq_false, false_implies, true_implies]
       refine loop_rule (fun m τ => ∃ i : Nat, m = hs.length - i /\ i <= hs.length /\ (∀ x ∈ hs.take i, -2 ^ 50 <= x /\ x <= 2 ^ 50) /\
        τ = ⟨(aN::aN::(.s (.ptr [.int .i64 s, intss N, ints p]))::(.s (.ptr [.int .i64 d, .int .i64 g, ints hs]))::aN::aN::(aI i)::aN::aN::aN::aN::aN::aN::aN::aZ120), []⟩) hs.length rfl ?_ ?_
       ·simp only [c22l12m, go_sem]
        exact ⟨0, rfl, Nat.zero_le _, by simp, rfl⟩
       ·rintro I m τ ⟨i, rfl, hi, hall, rfl⟩ hI
        simp only [c22l12, c22r8, ints, go_sem, ↓reduceIte, Nat.reduceAdd, Nat.reduceLeDiff]
        intro _
        refine ⟨fun hlt => ?_, fun hge => ?_⟩
        ·have hlt : i < hs.length := by omega
         have hx : hs[i]? = some hs[i] := List.getElem?_eq_getElem hlt
         generalize hs[i] = x at hx
         simp only [c22r9, hx, go_sem, Nat.reduceAdd, Nat.reduceLeDiff, Int.reduceNeg, true_implies]
         by_cases hx1 : x < -1125899906842624
         ·rw [prB_false (fun q => absurd (q.h1 x (List.mem_of_getElem? hx)) (by omega))]
          simp only [hx1, c22r10, go_sem, ↓reduceIte, reduceCtorEq, Int.reduceNeg, not_true_eq_false, false_implies, true_implies]
          done
         ·by_cases hx2 : 1125899906842624 < x
          ·rw [prB_false (fun q => absurd (q.h1 x (List.mem_of_getElem? hx)) (by omega))]
           simp only [hx1, hx2, c22r10, go_sem, ↓reduceIte, reduceCtorEq, Int.reduceNeg, not_true_eq_false, false_implies, true_implies, not_false_eq_true]
           done
          ·simp only [hx1, hx2, c22r11, c22l12m, go_sem, Int.reduceNeg, false_implies, true_implies, not_false_eq_true]
           exact ⟨inR_small (by omega) (by omega), hI (hs.length - (i + 1)) _ (by omega) ⟨i + 1, rfl, by omega, all_snoc hx hall (by omega), rfl⟩⟩
        ·have hie : i = hs.length := by omega
         subst hie
         rw [List.take_length] at hall
         have q : PrOk d g hs := ⟨by omega, by omega, by omega, hall⟩
         rw [prB_iff.2 q, if_pos rfl]
         simp only [c22r13, c22r14, go_sem, true_implies]
         refine loop_rule (fun m τ => ∃ i : Nat, m = N.length - i /\ i <= N.length /\
          τ = ⟨(aN::aN::(.s (.ptr [.int .i64 s, intss N, ints p]))::(.s (.ptr [.int .i64 d, .int .i64 g, ints hs]))::aN::aN::aN::(.s (.bool (mostB s N p d g hs i)))::(.s (.bool (leastB s N p d g hs i)))::(aI i)::aN::aN::aN::aN::aZ120), []⟩) N.length rfl ?_ ?_
         ·simp only [c22l24m, go_sem]
          exact ⟨0, rfl, Nat.zero_le _, rfl⟩
         ·clear hI I
          rintro I m τ ⟨i, rfl, hi, rfl⟩ hI
          simp only [c22l24, c22r15, intss, go_sem, ↓reduceIte, Nat.reduceAdd, Nat.reduceLeDiff]
          intro _
          refine ⟨fun hlt => ?_, fun hge => ?_⟩
          ·have hi : i < N.length := by omega
           have hx : N[i]? = some N[i] := List.getElem?_eq_getElem hi
           have hxl := h.sq _ (List.getElem_mem hi)
           have htn : ∀ k, tn N i k = (N[i][k]?).getD 0 := fun k => by unfold tn; rw [hx]; rfl
           generalize N[i] = l at hx hxl htn
           obtain ⟨y, hy⟩ : ∃ y, p[i]? = some y := ⟨_, List.getElem?_eq_getElem (by rw [h.pl]; exact hi)⟩
           obtain ⟨z, hz⟩ : ∃ z, hs[i]? = some z := ⟨_, List.getElem?_eq_getElem (by omega)⟩
           have b0 := pay_le h.toOkP i
           have b1 := payd_le h.toOkP q i
           have b2 := q.get i
           have b5 := sp_le h.toOkP (x := p[i]?.getD 0 * d) b1
           have b6 := sp_le h.toOkP (x := g + hs[i]?.getD 0) (B := 2 ^ 51) (by omega)
           have b7 := sp_le h.toOkP (x := p[i]?.getD 0) (B := 1000) (by omega)
           rw [<- Int.mul_assoc] at b5
           have ha0 : aT s N p d hs i 0 = s * y * d := by unfold aT; rw [hy]; simp
           have e1 := most_succ (s := s) (N := N) (p := p) (d := d) (g := g) (hs := hs) (i := i)
           have e2 := least_succ (s := s) (N := N) (p := p) (d := d) (g := g) (hs := hs) (i := i)
           have hao := fun j => aT_ov (s := s) (N := N) (p := p) (d := d) (g := g) (hs := hs) (i := i) (j := j)
           have hob := fun j (hj : j <= 4) => ovT_le h.toOkP q (i := i) hj
           rw [hz, Option.getD_some] at b2 b6 hao
           rw [hy, Option.getD_some] at b5 b7
           generalize mostB s N p d g hs i = bm at e1
           generalize leastB s N p d g hs i = bl at e2
           simp only [c22r16, ints, hy, hz, go_sem, Nat.reduceAdd, Nat.reduceLeDiff, true_implies]
           refine ⟨inR_abs (by omega), inR_abs (by omega), inR_abs (by omega), inR_abs (by omega), ?_⟩
           simp only [c22r17, go_sem, true_implies]
           rw [<- ha0]
           refine loop_rule (fun m τ => ∃ j : Nat, m = N.length - j /\ j <= N.length /\
            τ = ⟨(aN::aN::(.s (.ptr [.int .i64 s, intss N, ints p]))::(.s (.ptr [.int .i64 d, .int .i64 g, ints hs]))::aN::aN::aN::(.s (.bool bm))::(.s (.bool bl))::(aI i)::(aI (aT s N p d hs i j))::(aI (s * (g + z)))::(aI j)::aN::aZ120), []⟩) N.length rfl ?_ ?_
           ·simp only [c22l21m, go_sem]
            exact ⟨0, rfl, Nat.zero_le _, rfl⟩
           ·rintro I2 m τ ⟨j, rfl, hj, rfl⟩ hI2
            simp only [c22l21, c22r18, intss, go_sem, ↓reduceIte, Nat.reduceAdd, Nat.reduceLeDiff]
            intro _
            refine ⟨fun hlt => ?_, fun hge => ?_⟩
            ·have hj : j < N.length := by omega
             obtain ⟨u, hu⟩ : ∃ u, l[j]? = some u := ⟨_, List.getElem?_eq_getElem (by omega)⟩
             obtain ⟨v, hv⟩ : ∃ v, hs[j]? = some v := ⟨_, List.getElem?_eq_getElem (by omega)⟩
             have c1 := tnh_le h.toOkP q i j
             have c3 := aT_succ (s := s) (N := N) (p := p) (d := d) (hs := hs) (i := i) (j := j)
             have c4 := hao (j + 1)
             have c5 := hob (j + 1) (by omega)
             rw [htn, hu, hv] at c1 c3
             simp only [Option.getD_some] at c1 c3
             simp only [c22r19, hx, ints, hu, hv, go_sem, Nat.reduceAdd, Nat.reduceLeDiff, true_implies]
             refine ⟨inR_abs (by omega), inR_abs (by omega), ?_⟩
             simp only [c22r20, c22l21m, go_sem, true_implies]
             exact ⟨inR_small (by omega) (by omega), hI2 (N.length - (j + 1)) _ (by omega) ⟨j + 1, rfl, by omega, by rw [c3]; rfl⟩⟩
            ·have hje : j = N.length := by omega
             subst hje
             have c4 := hao N.length
             rw [show ovT s N p d g hs i N.length = ovN s N p d g hs i from rfl] at c4
             have f1 : (aT s N p d hs i N.length <= s * (g + z)) ↔ ovN s N p d g hs i <= 0 := by omega
             have f2 : (s * (g + z) <= aT s N p d hs i N.length) ↔ 0 <= ovN s N p d g hs i := by omega
             have fin : I ⟨(aN::aN::(.s (.ptr [.int .i64 s, intss N, ints p]))::(.s (.ptr [.int .i64 d, .int .i64 g, ints hs]))::aN::aN::aN::(.s (.bool (bm && decide (ovN s N p d g hs i <= 0))))::(.s (.bool (bl && decide (0 <= ovN s N p d g hs i))))::(aI (i + 1))::aN::aN::aN::aN::aZ120), []⟩ := hI (N.length - (i + 1)) _ (by omega) ⟨i + 1, rfl, by omega, by rw [e1, e2]; rfl⟩
             have g1 : decide (aT s N p d hs i N.length <= s * (g + z)) = decide (ovN s N p d g hs i <= 0) := decide_eq_decide.2 f1
             have g2 : decide (s * (g + z) <= aT s N p d hs i N.length) = decide (0 <= ovN s N p d g hs i) := decide_eq_decide.2 f2
             clear hI hI2 hob hao
             generalize ovN s N p d g hs i = v at *
             generalize aT s N p d hs i N.length = av at *
             generalize s * (g + z) = bv at *
             cases bm
             all_goals
              cases bl
              all_goals
               simp only [c22r22, go_sem, true_implies]
               simp only [g1, g2, c22r23, c22l24m, go_sem, true_implies]
               refine ⟨inR_small (by omega) (by omega), ?_⟩
               simp only [Bool.false_and, Bool.true_and] at fin
               exact fin
          ·have hie : i = N.length := by omega
           subst hie
           generalize mostB s N p d g hs N.length = bm
           generalize leastB s N p d g hs N.length = bl
           cases bm
           all_goals
            cases bl
            all_goals
             simp only [c22r25, c22r26, c22r27, c22r28, c22r29, c22r30, c22r31, go_sem, true_implies]
             try rfl
  ·rw [if_neg h1]
   simp only [h1, c22r4, go_sem, false_implies, true_implies, not_false_eq_true]
   done
 ·rw [if_neg h0]
  simp only [h0, c22r2, List.length_cons, List.length_nil, go_sem, Nat.reduceAdd, true_implies]
  refine callK_of rfl h15 (.inl rfl) ?_
  simp only [go_sem, true_implies]
  done
theorem spl_three {a b c x y z : LV} : splice [a, b, c] 0 [x, y, z] = [x, y, z] := rfl
theorem rchC_head {g : Nat -> Nat -> Bool} {n c : Nat} (hc : isPC g n c = true) : ∃ l, rchC g n c = (c : Int) :: l := by
 obtain ⟨h1, h2⟩ := isPC_iff.1 hc
 have hm := reach_iff.1 h1
 unfold rchC
 rw [rB_filter] at hm ⊢
 have hp : ((List.range n).filter fun k => decide (k ∈ rB g n c n)).Pairwise (· < ·) := List.pairwise_lt_range.filter _
 cases hL : (List.range n).filter fun k => decide (k ∈ rB g n c n) with
 | nil => rw [hL] at hm; cases hm
 | cons x l =>
  rw [hL] at hm hp
  have hx : x ∈ (List.range n).filter fun k => decide (k ∈ rB g n c n) := by rw [hL]; simp
  have hx2 := of_decide_eq_true (List.mem_filter.1 hx).2
  have hle := (h2 x (reach_iff.2 hx2)).1
  have : x = c := by
   rcases List.mem_cons.1 hm with h | h
   ·exact h.symm
   ·have := (List.pairwise_cons.1 hp).1 c h
    omega
  exact ⟨l.map fun k : Nat => (k : Int), by rw [this]; rfl⟩
def putT (st : List Nat) (l : List Int) (R : List Int) (k : Nat) : List Int := (List.range k).foldl (fun R j => R.set (st[j]?.getD 0) (l[j]?.getD 0)) R
theorem putT_succ {st : List Nat} {l R : List Int} {k : Nat} : putT st l R (k + 1) = (putT st l R k).set (st[k]?.getD 0) (l[k]?.getD 0) := by
 unfold putT; rw [List.range_succ, List.foldl_append]; rfl
theorem putT_len {st : List Nat} {l R : List Int} : ∀ {k : Nat}, (putT st l R k).length = R.length
 | 0 => rfl
 | k + 1 => by rw [putT_succ, List.length_set, putT_len]
def colQ (s : Int) (N : List (List Int)) (p : List Int) (i : Nat) : Int := s * (p[i]?.getD 0 * (rootsN s N).sum - gainN s N p)
def prfH (s : Int) (N : List (List Int)) (p : List Int) (c : Nat) : List Int := putT (stO N.length c) (solL s N (stO N.length c) ((stO N.length c).map (colQ s N p))) (List.replicate N.length 0) (stO N.length c).length
def prfD (s : Int) (N : List (List Int)) (c : Nat) : Int := rootN s N c * (rootsN s N).sum
def prfG (s : Int) (N : List (List Int)) (p : List Int) (c : Nat) : Int := gainN s N p * rootN s N c
theorem stO_len {n c : Nat} : (stO n c).length <= n := by
 unfold stO; exact Nat.le_trans (List.length_filter_le _ _) (by simp)
theorem mul_le_nat {a b : Int} {A B : Nat} (ha : a.natAbs <= A) (hb : b.natAbs <= B) : (a * b).natAbs <= A * B := by
 rw [Int.natAbs_mul]; exact Nat.mul_le_mul ha hb
theorem pr_le {s : Int} {N : List (List Int)} {p : List Int} (h : OkM s N p) (i : Nat) : (p[i]?.getD 0 * (rootsN s N).sum).natAbs <= 1000 * 32000 := by
 have h1 := roots_32 h.s
 have h2 := roots_nonneg h.s
 have h3 := pay_le h.toOkP i
 exact mul_le_nat (by omega) (by omega)
theorem colQ_le {s : Int} {N : List (List Int)} {p : List Int} (h : OkM s N p) (i : Nat) : (p[i]?.getD 0 * (rootsN s N).sum - gainN s N p).natAbs <= 32000000 /\ (colQ s N p i).natAbs <= 640000000 := by
 have h1 := roots_32 h.s
 have h2 := roots_nonneg h.s
 have h3 := pay_le h.toOkP i
 have h4 := gain_le h
 have h5 : 0 <= gainN s N p := gainT_nonneg h (Nat.le_refl _)
 have h6 := pr_le h i
 have h7 : 0 <= p[i]?.getD 0 * (rootsN s N).sum := Int.mul_nonneg h3.1 h2
 have h8 : (p[i]?.getD 0 * (rootsN s N).sum - gainN s N p).natAbs <= 32000000 := by omega
 have h9 := sp_le h.toOkP h8
 exact ⟨h8, h9⟩
set_option maxHeartbeats 2000000 in
theorem k59 {s : Int} {N : List (List Int)} {p : List Int} {c : Nat} (h : OkM s N p) (hS : (parts N).length <= 1) (hc : firsts N = [c]) :
  E.Fn Try.prog 59 [benchC s N p] [prV (prfD s N c) (prfG s N p c) (prfH s N p c)] := by
 refine fn_of_row okf59 ?_
 have hn4 := h.n4
 have hk73 := k73 (p := p) h.toOkN
 have hsp := roots_pos h hS
 have hrl : (rootsN s N).length = N.length := by simp [rootsN]
 have hrt : ∀ i, i < N.length -> (rootsN s N)[i]? = some (rootN s N i) := fun i hi => by
  unfold rootsN; rw [List.getElem?_map, List.getElem?_range hi]; rfl
 have hk52 := k52 (l := rootsN s N) (by rw [hrl]; omega) (fun x hx => by
  obtain ⟨i, hi, rfl⟩ := mem_rootsN.1 hx
  have h1 := root_nonneg h.s hi
  have h2 := root_le h.toOkN (i := i)
  omega)
 have hcp : isPC (gr N) N.length c = true := mem_firsts.1 (by rw [hc]; simp)
 have hcn : c < N.length := (isPC_iff.1 hcp).1.lt
 obtain ⟨tl, htl⟩ := rchC_head hcp
 have hpt : (parts N)[0]? = some ((c : Int) :: tl) := by rw [parts_eq, hc, <- htl]; rfl
 have h32 := roots_32 h.s
 have hroot := root_8 h.s hcn
 have hroot0 := root_nonneg h.s hcn
 have hgle := gain_le h
 have hg0 : 0 <= gainN s N p := gainT_nonneg h (Nat.le_refl _)
 have hg34 : ∀ i, i <= 4 -> (gainT s N p i).natAbs <= 2 ^ 34 := fun i hi => gainT_le h.toOkP hi
 simp only [FRow.start, f59, c59r0, c59r1, go_sem, Nat.reduceSub, true_implies]
 refine callK_of (by simp only [ints, benchC, bnV, go_sem]) hk73 (.inr (.inl (by simp only [ints, benchC, bnV, go_sem]))) ?_
 simp only [c59r2, go_sem, true_implies]
 refine callK_of (by simp only [ints, go_sem]) hk52 (.inl rfl) ?_
 simp only [c59r3, c59r4, ints, hrl, go_sem, true_implies]
 intro _
 refine loop_rule (fun m τ => ∃ i : Nat, m = N.length - i /\ i <= N.length /\
  τ = ⟨((.s (benchC s N p))::aN::(.loc 0 0)::aN::(.s (.int .i64 (rootsN s N).sum))::(aI (gainT s N p i))::aN::aN::aN::aN::aN::aN::aN::aN::aN::aN::aN::aN::aN::aN::aN::(.s (ints (rootsN s N)))::(aI N.length)::(aI i)::aN::aN::aN::aN::aZ88), [.obj [aI 0, aI 0, .full []]]⟩) N.length rfl ?_ ?_
 ·simp only [c59l9m, go_sem, ↓reduceIte, reduceCtorEq, Nat.reduceLeDiff]
  exact ⟨0, rfl, Nat.zero_le _, rfl⟩
 ·rintro I m τ ⟨i, rfl, hi, rfl⟩ hI
  simp only [c59l9, c59r5, go_sem, ↓reduceIte, true_implies]
  refine ⟨fun hlt => ?_, fun hge => ?_⟩
  ·have hlt : i < N.length := by omega
   obtain ⟨y, hy⟩ : ∃ y, p[i]? = some y := ⟨_, List.getElem?_eq_getElem (by rw [h.pl]; exact hlt)⟩
   have hrb := root_le h.toOkN (i := i)
   have hpb := pay_le h.toOkP i
   have hmb := mul_le_nat hrb (show (p[i]?.getD 0).natAbs <= 1000 by omega)
   have hs1 := hg34 (i + 1) (by omega)
   have hgs := gainT_succ (s := s) (N := N) (p := p) (i := i)
   rw [hy, Option.getD_some] at hmb hgs
   simp only [c59r6, ints, hrt i hlt, c59r7, benchC, bnV, hy, go_sem, Nat.reduceAdd, Nat.reduceLeDiff, true_implies]
   refine ⟨inR_abs (by omega), inR_abs (by omega), ?_⟩
   simp only [c59r8, c59l9m, go_sem, ↓reduceIte, reduceCtorEq, Nat.reduceLeDiff, true_implies]
   exact ⟨inR_small (by omega) (by omega), hI (N.length - (i + 1)) _ (by omega) ⟨i + 1, rfl, by omega, by rw [hgs]; rfl⟩⟩
  ·have hie : i = N.length := by omega
   subst hie
   rw [show gainT s N p N.length = gainN s N p from rfl]
   have hk80 : E.Fn Try.prog 80 [benchC s N p, ints [(c : Int)]] [ints (nats (stO N.length c))] := by
    rw [<- wout_one]
    exact k80 (by omega)
   have hk81 := fun col (h1 : col.length = (stO N.length c).length) (h2 : ∀ x ∈ col, x.natAbs <= 2 ^ 38) => k81 (p := p) h.toOkN (st := stO N.length c) (col := col) (fun _ => stO_lt) (by have := stO_len (n := N.length) (c := c); omega) h1 h2
   have hdr : detS s N (stO N.length c) = rootN s N c := by unfold rootN; rw [wout_one]
   rw [hdr] at hk81
   have hol := stO_len (n := N.length) (c := c)
   have hoL : ∀ i ∈ stO N.length c, i < N.length := fun _ => stO_lt
   unfold prfH
   have hnl : (nats (stO N.length c)).length = (stO N.length c).length := by simp [nats]
   generalize stO N.length c = st at *
   simp only [c59r10, benchC, bnV, intss, hpt, ints, go_sem, ↓reduceIte, Nat.reduceAdd, Nat.reduceSub, Nat.reduceLeDiff, Int.reduceLE, Int.reduceToNat]
   refine callK_of (by simp only [benchC, bnV, ints, intss, List.map_cons, List.map_nil, go_sem]) hk80 (.inr (.inl (by simp only [benchC, bnV, ints, intss, List.map_cons, List.map_nil, go_sem]))) ?_
   simp only [c59r11, c59r12, ints, hnl, go_sem, true_implies]
   intro _
   refine loop_rule (fun m τ => ∃ i : Nat, m = st.length - i /\ i <= st.length /\
    τ = ⟨((.s (benchC s N p))::aN::(.loc 0 0)::aN::(.s (.int .i64 (rootsN s N).sum))::(aI (gainN s N p))::aN::aN::(.s (ints (nats st)))::(.sl 1 0 i 1 false)::aN::aN::aN::aN::aN::aN::aN::aN::aN::aN::aN::aN::aN::aN::aN::aN::aN::aN::aN::aN::aN::aN::aN::aN::aN::aN::aN::aN::aN::aN::aN::aN::aN::aN::aN::aN::aN::aN::aN::aN::(.s (ints (nats st)))::(aI st.length)::(aI i)::aN::aN::aN::aN::aN::aN::aN::aZ56), [.obj [aI 0, aI 0, .full []], .row (((st.take i).map (colQ s N p)).map (.int .i64))]⟩) st.length (promo_one rfl) ?_ ?_
   ·simp only [c59l17m, go_sem, ↓reduceIte, reduceCtorEq, Nat.reduceAdd, Nat.reduceLeDiff]
    exact ⟨0, rfl, Nat.zero_le _, rfl⟩
   ·clear hI I
    rintro I m τ ⟨i, rfl, hi, rfl⟩ hI
    simp only [c59l17, c59r13, go_sem, ↓reduceIte, Nat.reduceAdd, true_implies]
    refine ⟨fun hlt => ?_, fun hge => ?_⟩
    ·have hlt : i < st.length := by omega
     have hx : st[i]? = some st[i] := List.getElem?_eq_getElem hlt
     have hk := hoL _ (List.getElem_mem hlt)
     have hnx : (nats st)[i]? = some (st[i] : Int) := by unfold nats; rw [List.getElem?_map, hx]; rfl
     generalize st[i] = a at hx hk hnx
     obtain ⟨y, hy⟩ : ∃ y, p[a]? = some y := ⟨_, List.getElem?_eq_getElem (by rw [h.pl]; exact hk)⟩
     obtain ⟨q1, q2⟩ := colQ_le h a
     have q3 := pr_le h a
     have hcq : colQ s N p a = s * (y * (rootsN s N).sum - gainN s N p) := by unfold colQ; rw [hy]; rfl
     rw [hy, Option.getD_some] at q1 q3
     rw [hcq] at q2
     have e3 : ((st.take i).map (colQ s N p)).map (SV.int .i64) ++ flatE [SV.int .i64 (s * (y * (rootsN s N).sum - gainN s N p))] = ((st.take (i + 1)).map (colQ s N p)).map (.int .i64) := by
      rw [take_snoc hx, List.map_append, List.map_append, <- hcq]; rfl
     simp only [c59r14, ints, hnx, c59r15, benchC, bnV, hy, Nat.reduceBEq, Bool.false_eq_true, go_sem, ↓reduceIte, Nat.reduceAdd, Nat.reduceLeDiff, Nat.reduceMul, true_implies]
     refine ⟨inR_abs (by omega), inR_abs (by omega), inR_abs (by omega), ?_⟩
     refine ⟨by decide, by decide, rfl, one_int, one_int, by simp; omega, by omega, by omega, ?_⟩
     rw [e3]
     simp only [c59r16, c59l17m, go_sem, ↓reduceIte, reduceCtorEq, Nat.reduceLeDiff, true_implies]
     exact ⟨inR_small (by omega) (by omega), hI (st.length - (i + 1)) _ (by omega) ⟨i + 1, rfl, by omega, rfl⟩⟩
    ·have hie : i = st.length := by omega
     subst hie
     rw [List.take_length]
     have hrow : rowOf 0 st.length 1 ((st.map (colQ s N p)).map (SV.int .i64)) = some ((st.map (colQ s N p)).map (.int .i64)) := by
      rw [rowOf_take (by simp), List.take_of_length_le (by simp)]
     have h81 := hk81 (st.map (colQ s N p)) (by simp) (fun x hx => by
      obtain ⟨i, _, rfl⟩ := List.mem_map.1 hx
      have := (colQ_le h i).2
      omega)
     have hsl : (solL s N st (st.map (colQ s N p))).length = st.length := by simp [solL]
     generalize solL s N st (st.map (colQ s N p)) = L at *
     simp only [c59r18, go_sem]
     refine ⟨_, hrow, ?_⟩
     refine callK_of (by simp only [ints, benchC, bnV, go_sem]) h81 (.inr (.inl (by simp only [ints, benchC, bnV, go_sem]))) ?_
     simp only [c59r19, benchC, bnV, intss, go_sem, ↓reduceIte, Nat.reduceAdd, Nat.reduceLT, Nat.reduceLeDiff, true_implies]
     have hD := mul_le_nat (show (rootN s N c).natAbs <= 8000 by omega) (show (rootsN s N).sum.natAbs <= 32000 by omega)
     have hG := mul_le_nat (show (gainN s N p).natAbs <= 32000000 by omega) (show (rootN s N c).natAbs <= 8000 by omega)
     refine ⟨inR_abs (by omega), inR_abs (by omega), by omega, by omega, fun _ => ?_⟩
     rw [rep_flat, spl_three]
     simp only [c59r20, ints, hnl, go_sem]
     intro _
     refine loop_rule (fun m τ => ∃ k : Nat, m = st.length - k /\ k <= st.length /\
      τ = ⟨(aN::aN::(.loc 0 0)::aN::aN::aN::aN::aN::aN::aN::aN::aN::(.s (ints L))::aN::(.loc 3 0)::aN::aN::aN::aN::aN::aN::aN::aN::aN::aN::aN::aN::aN::aN::aN::aN::aN::aN::aN::aN::aN::aN::aN::aN::aN::aN::aN::aN::aN::aN::aN::aN::aN::aN::aN::aN::aN::aN::aN::aN::aN::aN::aN::aN::aN::aN::aN::aN::aN::aN::aN::aN::aN::aN::aN::aN::aN::aN::aN::aN::aN::aN::aN::aN::aN::aN::aN::aN::aN::aN::aN::aN::aN::aN::aN::aN::aN::aN::aN::aN::aN::aN::aN::aN::(.s (ints (nats st)))::(aI st.length)::(aI k)::aN::aN::aN::aN::aN::aN::aZ8),
       [.obj [aI 0, aI 0, .full []], .frz ((st.map (colQ s N p)).map (.int .i64)), .row ((putT st L (List.replicate N.length 0) k).map (.int .i64)), .obj [aI (rootN s N c * (rootsN s N).sum), aI (gainN s N p * rootN s N c), .sl 2 0 N.length 1 true]]⟩) st.length rfl ?_ ?_
     ·simp only [c59l25m, go_sem, ↓reduceIte, reduceCtorEq, Nat.reduceAdd, Nat.reduceLeDiff]
      exact ⟨0, rfl, Nat.zero_le _, rfl⟩
     ·clear hI I
      rintro I m τ ⟨k, rfl, hk, rfl⟩ hI
      simp only [c59l25, c59r21, go_sem, ↓reduceIte, Nat.reduceAdd, true_implies]
      refine ⟨fun hlt => ?_, fun hge => ?_⟩
      ·have hlt : k < st.length := by omega
       have hx : st[k]? = some st[k] := List.getElem?_eq_getElem hlt
       have hka := hoL _ (List.getElem_mem hlt)
       have hnx : (nats st)[k]? = some (st[k] : Int) := by unfold nats; rw [List.getElem?_map, hx]; rfl
       obtain ⟨y, hy⟩ : ∃ y, L[k]? = some y := ⟨_, List.getElem?_eq_getElem (by omega)⟩
       have hput := putT_succ (st := st) (l := L) (R := List.replicate N.length 0) (k := k)
       have hpl := putT_len (st := st) (l := L) (R := List.replicate N.length 0) (k := k)
       rw [List.length_replicate] at hpl
       rw [hx, hy] at hput
       simp only [Option.getD_some] at hput
       generalize st[k] = a at hx hka hnx hput
       generalize putT st L (List.replicate N.length 0) k = R at *
       have hs1 := spl_row (R := R) (i := a) (x := y) (by omega)
       simp only [c59r22, ints, hnx, c59r23, hy, Nat.mul_one, hs1, Nat.zero_add, go_sem, Nat.reduceAdd, true_implies]
       refine ⟨hka, by omega, ?_⟩
       simp only [c59r24, c59l25m, go_sem, ↓reduceIte, reduceCtorEq, Nat.reduceLeDiff, true_implies]
       exact ⟨inR_small (by omega) (by omega), hI (st.length - (k + 1)) _ (by omega) ⟨k + 1, rfl, by omega, by rw [hput]; rfl⟩⟩
      ·have hke : k = st.length := by omega
       subst hke
       have hpl := putT_len (st := st) (l := L) (R := List.replicate N.length 0) (k := st.length)
       rw [List.length_replicate] at hpl
       have hsl3 : sliceOf 0 N.length 1 ((putT st L (List.replicate N.length 0) st.length).map (SV.int .i64)) = some (ints (putT st L (List.replicate N.length 0) st.length)) := slice_all hpl.symm
       generalize putT st L (List.replicate N.length 0) st.length = R at *
       simp only [c59r26, spl_three, hsl3, List.take_succ_cons, List.take_zero, go_sem, Nat.reduceAdd, true_implies]
       rfl
def fst0 (N : List (List Int)) : Nat := (firsts N).headD 0
def proofR (s : Int) (N : List (List Int)) (p : List Int) : List SV :=
 if setE s N p = 0 then [prV (prfD s N (fst0 N)) (prfG s N p (fst0 N)) (prfH s N p (fst0 N)), .int .i64 0] else [prV 0 0 [], .int .i64 (setE s N p)]
theorem fst0_eq {s : Int} {N : List (List Int)} {p : List Int} (h : OkM s N p) (hS : (parts N).length <= 1) : firsts N = [fst0 N] := by
 obtain ⟨c, hc, _⟩ := settles_first h hS
 unfold fst0
 rw [hc]; rfl
theorem k23 {s : Int} {N : List (List Int)} {p : List Int} : E.Fn Try.prog 23 [mc s N p] (proofR s N p) := by
 refine fn_of_row okf23 ?_
 have h56 := k56 (s := s) (N := N) (p := p)
 unfold proofR
 unfold setR at h56
 simp only [FRow.start, f23, c23r0, c23r1, mc, SV.cells, List.length_cons, List.length_nil, go_sem, Nat.reduceAdd, Nat.reduceSub, true_implies]
 by_cases h0 : setE s N p = 0
 ·rw [if_pos h0] at h56
  rw [if_pos h0]
  obtain ⟨h, hS⟩ := setE_zero h0
  have h59 := k59 h hS (fst0_eq h hS)
  refine callK_of rfl h56 (.inr (.inl rfl)) ?_
  simp only [c23r2, c23r4, go_sem, true_implies]
  refine callK_of (by simp only [benchC, bnV, go_sem]) h59 (.inr (.inl (by simp only [benchC, bnV, go_sem]))) ?_
  simp only [prV, spl_three, SV.cells, go_sem, Nat.reduceAdd, true_implies]
  done
 ·rw [if_neg h0] at h56
  rw [if_neg h0]
  refine callK_of rfl h56 (.inr (.inl rfl)) ?_
  simp only [h0, c23r2, c23r3, prV, spl_three, go_sem, Nat.reduceAdd, true_implies]
  rfl
def entS (z : Ent) : SV × SV := (pr z.1, .int .i64 z.2)
theorem zip_kv {L : List Ent} : (kK L).zip (kV L) = L.map entS := by
 unfold kK kV
 rw [List.map_map, List.zip_map', List.map_inj_left]
 intro z _
 rfl
def natL (f : Nat -> Int) (n : Nat) : List Int := (List.range n).map f
theorem natL_get {f : Nat -> Int} {n i : Nat} (h : i < n) : (natL f n)[i]? = some (f i) := by
 unfold natL; rw [List.getElem?_map, List.getElem?_range h]; rfl
theorem natL_len {f : Nat -> Int} {n : Nat} : (natL f n).length = n := by simp [natL]
set_option maxHeartbeats 2000000 in
theorem k72 {s : Int} {N : List (List Int)} {p : List Int} {state plays : Nat} (h : OkM s N p) (hst : state < N.length) (hpl : plays <= 10) :
  E.Fn Try.prog 72 [benchC s N p, .int .i64 state, .int .i64 plays] [.int .i64 (fT s N p state plays)] := by
 refine fn_of_row okf72 ?_
 have hn4 := h.n4
 have h0s : ((List.replicate N.length (0 : Int)).set state 1) = natL (wT N state 0) N.length := by
  apply List.ext_getElem?
  intro k
  rw [List.getElem?_set, List.length_replicate, List.getElem?_replicate]
  by_cases hk : k < N.length
  ·rw [natL_get hk, wT]
   by_cases e : state = k
   ·rw [if_pos e, if_pos hst, if_pos e.symm]
   ·rw [if_neg e, if_pos hk, if_neg (fun e2 => e e2.symm)]
  ·rw [if_neg (by omega), if_neg hk]
   exact (List.getElem?_eq_none (by rw [natL_len]; omega)).symm
 have hs1 := spl_row (R := List.replicate N.length 0) (i := state) (x := 1) (by simpa using hst)
 simp only [FRow.start, f72, c72r0, c72r1, benchC, bnV, intss, go_sem, Nat.reduceAdd, Nat.reduceSub, Nat.reduceLT, Nat.reduceLeDiff, true_implies]
 refine ⟨by omega, by omega, fun _ => ?_⟩
 rw [rep_flat]
 simp only [c72r2, Nat.mul_one, hs1, h0s, go_sem, true_implies]
 refine ⟨hst, by simp; omega, ?_⟩
 simp only [c72r3, c72r4, go_sem, true_implies]
 have hpy := fun i => pay_le h.toOkP i
 have hp20 : ∀ t, t <= 10 -> (20 : Int) ^ t <= 20 ^ 10 := fun t ht => by
  have := Nat.pow_le_pow_right (show 0 < 20 by decide) ht
  have h2 : ((20 ^ t : Nat) : Int) <= ((20 ^ 10 : Nat) : Int) := by omega
  simpa using h2
 refine loop_rule (fun m τ => ∃ (t : Nat) (v : LV), m = plays - t /\ t <= plays /\ (v = .sl 0 0 N.length 1 true /\ t <= 1 \/ v = .s (ints (natL (wT N state (t - 1)) N.length)) /\ 1 <= t) /\
  τ = ⟨((.s (benchC s N p))::aN::aN::aN::aN::aN::aN::v::(aI (fT s N p state t))::aN::aN::aN::aN::aN::aN::aN::aN::aN::aN::aN::aN::aN::aN::aN::aN::(aI plays)::(aI t)::aN::aN::aN::aN::aN::aZ56), [.row ((natL (wT N state 0) N.length).map (.int .i64))]⟩) plays rfl ?_ ?_
 ·simp only [c72l23m, go_sem, ↓reduceIte, reduceCtorEq, Nat.reduceLeDiff]
  exact ⟨0, _, rfl, Nat.zero_le _, .inl ⟨rfl, by omega⟩, rfl⟩
 ·rintro I m τ ⟨t, v, rfl, ht, hv, rfl⟩ hI
  simp only [c72l23, c72r5, go_sem, ↓reduceIte, true_implies]
  refine ⟨fun hlt => ?_, fun hge => ?_⟩
  ·have hlt : t < plays := by omega
   have hpb := pow_bd h.toOkN (t := t)
   have hp20t := hp20 t (by omega)
   have hfb := fT_bd h hst (t := t)
   have hwn := wpT_le h hst (t := t) (Nat.le_refl _)
   have hfs : fT s N p state (t + 1) = fT s N p state t * s + wpT N p state t N.length := rfl
   have hs20 := h.s20
   have hs1' := h.s1
   have hf0 : 0 <= fT s N p state t * s := Int.mul_nonneg hfb.1 (by omega)
   have hfle : fT s N p state t * s <= 1000 * (t + 1) * s ^ t := by
    have := wpT_nonneg h.toOkP (state := state) (t := t) (j := N.length)
    omega
   have hfle2 : (1000 * ((t : Int) + 1)) * s ^ t <= 11000 * 10240000000000 := Int.mul_le_mul (by omega) (by omega) (by omega) (by decide)
   simp only [c72r6, c72r7, go_sem, true_implies]
   refine ⟨fun htp => ?_, fun htz => ?_⟩
   ·have htp : 0 < t := by omega
    rcases hv with ⟨rfl, ht1⟩ | ⟨rfl, _⟩
    ·have ht1 : t = 0 + 1 := by omega
     simp only [c72r8, go_sem, Nat.reduceAdd, Nat.reduceLT]
     refine ⟨by omega, by omega,  ?_⟩
     rw [rep_flat]
     simp only [c72r9, benchC, bnV, zip_kv, go_sem, Nat.reduceAdd, Nat.reduceLeDiff, true_implies]
     intro _
     refine loop_rule (fun m τ => ∃ (left : List Ent) (R : List Int) (last : Option (SV × SV)), m = left.length /\ (∀ z ∈ left, z ∈ turnsL N) /\ R.length = N.length /\ (∀ k, k < N.length -> 0 <= R[k]?.getD 0 /\ R[k]?.getD 0 + (left.map (brg (wT N state 0) k)).sum = wT N state (0 + 1) k) /\
      τ = ⟨((.s (benchC s N p))::aN::aN::aN::aN::aN::aN::(.sl 0 0 N.length 1 true)::(aI (fT s N p state t))::aN::(.sl 1 0 N.length 1 true)::aN::aN::aN::aN::aN::aN::aN::aN::aN::aN::aN::aN::aN::aN::(aI plays)::(aI (t : Nat))::aN::aN::aN::aN::aN::aN::aN::aN::aN::aN::aN::(.loc 2 0)::aN::aZ48), [.row ((natL (wT N state 0) N.length).map (.int .i64)), .row (R.map (.int .i64)), .mit (left.map entS) last]⟩) (turnsL N).length rfl ?_ ?_
     ·simp only [c72l13m, go_sem, ↓reduceIte, reduceCtorEq, Nat.reduceAdd, Nat.reduceLeDiff]
      refine ⟨turnsL N, List.replicate N.length 0, none, rfl, fun _ h => h, by simp, fun k hk => ?_, rfl⟩
      rw [List.getElem?_replicate, if_pos hk, brg_all]
      exact ⟨by simp, by rw [wT]; simp⟩
     ·rintro I2 m τ ⟨left, R, last, rfl, hsub, hRl, hR, rfl⟩ hI2
      simp only [c72l13, c72r10, go_sem, ↓reduceIte, Nat.reduceAdd, true_implies]
      refine ⟨fun hnil => ?_, fun l1 e l2 hs => ?_⟩
      ·have hnil : left = [] := by simpa using hnil
       subst hnil
       have hRe : R = natL (wT N state t) N.length := by
        apply List.ext_getElem?
        intro k
        by_cases hk : k < N.length
        ·obtain ⟨x, hx⟩ : ∃ x, R[k]? = some x := ⟨_, List.getElem?_eq_getElem (by omega)⟩
         have := (hR k hk).2
         rw [hx] at this ⊢
         rw [natL_get hk]
         simp only [Option.getD_some, List.map_nil, List.sum_nil, Int.add_zero] at this
         rw [this, ht1]
        ·rw [List.getElem?_eq_none (by omega), List.getElem?_eq_none (by rw [natL_len]; omega)]
       subst hRe
       have hrow : rowOf 0 N.length 1 ((natL (wT N state t) N.length).map (SV.int .i64)) = some ((natL (wT N state t) N.length).map (.int .i64)) := by
        rw [rowOf_take (by simp [natL_len]), List.take_of_length_le (by simp [natL_len])]
       simp only [c72r14, go_sem, Nat.reduceAdd, true_implies]
       refine ⟨_, hrow, ?_⟩
       simp only [c72r15, benchC, bnV, go_sem, Nat.reduceAdd, Nat.reduceLeDiff, true_implies]
       refine ⟨inR_small hf0 (by omega), ?_⟩
       simp only [c72r16, ints, natL_len, go_sem]
       intro _
       refine loop_rule (fun m τ => ∃ j : Nat, m = N.length - j /\ j <= N.length /\
        τ = ⟨((.s (benchC s N p))::aN::aN::aN::aN::aN::aN::(.s (ints (natL (wT N state t) N.length)))::(aI (fT s N p state t * s + wpT N p state t j))::aN::aN::aN::aN::aN::aN::aN::aN::aN::aN::aN::aN::aN::aN::aN::aN::(aI plays)::(aI (t : Nat))::aN::aN::aN::aN::aN::aN::aN::aN::aN::aN::aN::aN::aN::aN::aN::aN::aN::aN::aN::aN::aN::aN::aN::aN::aN::aN::aN::aN::aN::aN::aN::aN::aN::aN::aN::aN::aN::aN::aN::(.s (ints (natL (wT N state t) N.length)))::(aI N.length)::(aI j)::aN::aN::aN::aZ16), [.row ((natL (wT N state 0) N.length).map (.int .i64)), .frz ((natL (wT N state t) N.length).map (.int .i64)), .mit [] last]⟩) N.length rfl ?_ ?_
       ·simp only [c72l21m, go_sem, Nat.reduceAdd]
        exact ⟨0, rfl, Nat.zero_le _, by simp [wpT]; exact ⟨rfl, rfl⟩⟩
       ·rintro I2 m τ ⟨j, rfl, hj, rfl⟩ hI2
        simp only [c72l21, c72r17, go_sem, ↓reduceIte, Nat.reduceAdd, true_implies]
        refine ⟨fun hlt => ?_, fun hge => ?_⟩
        ·have hj : j < N.length := by omega
         obtain ⟨y, hy⟩ : ∃ y, p[j]? = some y := ⟨_, List.getElem?_eq_getElem (by rw [h.pl]; exact hj)⟩
         have hg := natL_get (f := wT N state t) hj
         have hws := wpT_succ (N := N) (p := p) (state := state) (t := t) (j := j)
         have hwl := wpT_le h hst (t := t) (j := j + 1) (by omega)
         have hw0 := wpT_nonneg h.toOkP (state := state) (t := t) (j := j)
         have hm0 := Int.mul_nonneg (wT_nonneg h.toOkN (state := state) (t := t) (k := j)) (pay_le h.toOkP j).1
         rw [hy, Option.getD_some] at hws hm0
         simp only [c72r18, ints, hg, c72r19, benchC, bnV, hy, go_sem, Nat.reduceAdd, Nat.reduceLeDiff, true_implies]
         refine ⟨inR_small hm0 (by omega), inR_small (by omega) (by omega), ?_⟩
         simp only [c72r20, c72l21m, go_sem, true_implies]
         exact ⟨inR_small (by omega) (by omega), hI2 (N.length - (j + 1)) _ (by omega) ⟨j + 1, rfl, by omega, by rw [hws, <- Int.add_assoc]; rfl⟩⟩
        ·have hje : j = N.length := by omega
         subst hje
         simp only [c72r22, c72l23m, go_sem, true_implies]
         exact ⟨inR_small (by omega) (by omega), hI (plays - (t + 1)) _ (by omega) ⟨t + 1, .s (ints (natL (wT N state t) N.length)), rfl, by omega, .inr ⟨rfl, by omega⟩, rfl⟩⟩
      ·obtain ⟨L1, L3, rfl, h1, h3⟩ := List.map_eq_append_iff.1 hs
       obtain ⟨z, L2, rfl, h4, h5⟩ := List.map_eq_cons_iff.1 h3
       subst h4
       have hz := hsub z (by simp)
       obtain ⟨i, k, l, e1, e2, e3⟩ := mem_allE.1 (List.mem_filter.1 hz).1
       have hin := (List.getElem?_eq_some_iff.1 e2).1
       have hkn : k < N.length := by
        have := (List.getElem?_eq_some_iff.1 e3).1
        rw [h.sq l (List.mem_of_getElem? e2)] at this
        exact this
       obtain ⟨⟨zi, zk⟩, zv⟩ := z
       simp only [Prod.mk.injEq] at e1 e3
       obtain ⟨rfl, rfl⟩ := e1
       have hgw := natL_get (f := wT N state 0) hin
       obtain ⟨x, hx⟩ : ∃ x, R[k]? = some x := ⟨_, List.getElem?_eq_getElem (by omega)⟩
       have hzv : zv = tn N i k := by unfold tn; rw [e2]; simp [e3]
       have hbz : brg (wT N state 0) k (((i : Int), (k : Int)), zv) = wT N state 0 i * zv := by unfold brg; simp
       have hnn : ∀ (L : List Ent) (q : Nat), (∀ z ∈ L, z ∈ turnsL N) -> 0 <= (L.map (brg (wT N state 0) q)).sum := fun L q hL => sum_nonneg fun y hy => by
        obtain ⟨z, hz, rfl⟩ := List.mem_map.1 hy
        obtain ⟨a, b, l', f1, f2, f3⟩ := mem_allE.1 (List.mem_filter.1 (hL z hz)).1
        unfold brg
        split
        ·exact Int.mul_nonneg (wT_nonneg h.toOkN) (h.ent l' (List.mem_of_getElem? f2) _ (List.mem_of_getElem? f3)).1
        ·exact Int.le_refl _
       have hsum : ∀ q, ((L1 ++ (((i : Int), (k : Int)), zv) :: L2).map (brg (wT N state 0) q)).sum = brg (wT N state 0) q (((i : Int), (k : Int)), zv) + ((L1 ++ L2).map (brg (wT N state 0) q)).sum := fun q => by
        simp only [List.map_append, List.map_cons, List.sum_append, List.sum_cons]; omega
       have hRk := hR k hkn
       rw [hsum, hbz, hx, Option.getD_some] at hRk
       have hrest := hnn (L1 ++ L2) k fun z hz => hsub z (by rcases List.mem_append.1 hz with h | h <;> simp [h])
       have hwl := wT_le h.s hst (t := 0 + 1) hkn
       have hwp := hp20 (0 + 1) (by omega)
       have hm0 : 0 <= wT N state 0 i * zv := Int.mul_nonneg (wT_nonneg h.toOkN) (by rw [hzv]; exact h.nn i k)
       have hs3 := spl_row (R := R) (i := k) (x := x + wT N state 0 i * zv) (by omega)
       subst h1
       subst h5
       simp only [entS, pr, c72r11, SV.cells, spl_two, c72r12, Nat.mul_one, Int.toNat_natCast, hx, hgw, hs3, go_sem, Nat.reduceAdd, true_implies]
       refine ⟨hkn, hin, inR_small hm0 (by omega), inR_small (by omega) (by omega), hkn, by omega, ?_⟩
       simp only [c72l13m, go_sem, ↓reduceIte, reduceCtorEq, Nat.reduceLeDiff]
       refine hI2 (L1 ++ L2).length _ (by simp) ⟨L1 ++ L2, R.set k (x + wT N state 0 i * zv), some (.agg [.int .i64 i, .int .i64 k], .int .i64 zv), rfl, fun z hz => hsub z (by rcases List.mem_append.1 hz with h | h <;> simp [h]), by rw [List.length_set]; exact hRl, fun q hq => ?_, by rw [List.map_append]; try rfl⟩
       have hRq := hR q hq
       rw [hsum] at hRq
       by_cases e : k = q
       ·subst e
        rw [List.getElem?_set_self (by omega), Option.getD_some]
        rw [hbz, hx, Option.getD_some] at hRq
        omega
       ·rw [List.getElem?_set_ne e]
        have : brg (wT N state 0) q (((i : Int), (k : Int)), zv) = 0 := by unfold brg; rw [if_neg (by simp; omega)]
        omega
    ·obtain ⟨u, rfl⟩ : ∃ u, t = u + 1 := ⟨t - 1, by omega⟩
     rw [Nat.add_sub_cancel]
     simp only [c72r8, ints, natL_len, go_sem, Nat.reduceAdd, Nat.reduceLT]
     refine ⟨by omega, by omega, fun _ => ?_⟩
     rw [rep_flat]
     simp only [c72r9, benchC, bnV, zip_kv, go_sem, Nat.reduceAdd, Nat.reduceLeDiff, true_implies]
     refine loop_rule (fun m τ => ∃ (left : List Ent) (R : List Int) (last : Option (SV × SV)), m = left.length /\ (∀ z ∈ left, z ∈ turnsL N) /\ R.length = N.length /\ (∀ k, k < N.length -> 0 <= R[k]?.getD 0 /\ R[k]?.getD 0 + (left.map (brg (wT N state u) k)).sum = wT N state (u + 1) k) /\
      τ = ⟨((.s (benchC s N p))::aN::aN::aN::aN::aN::aN::(.s (ints (natL (wT N state u) N.length)))::(aI (fT s N p state (u + 1)))::aN::(.sl 1 0 N.length 1 true)::aN::aN::aN::aN::aN::aN::aN::aN::aN::aN::aN::aN::aN::aN::(aI plays)::(aI ((u + 1) : Nat))::aN::aN::aN::aN::aN::aN::aN::aN::aN::aN::aN::(.loc 2 0)::aN::aZ48), [.row ((natL (wT N state 0) N.length).map (.int .i64)), .row (R.map (.int .i64)), .mit (left.map entS) last]⟩) (turnsL N).length rfl ?_ ?_
     ·simp only [c72l13m, go_sem, ↓reduceIte, reduceCtorEq, Nat.reduceAdd, Nat.reduceLeDiff]
      refine ⟨turnsL N, List.replicate N.length 0, none, rfl, fun _ h => h, by simp, fun k hk => ?_, rfl⟩
      rw [List.getElem?_replicate, if_pos hk, brg_all]
      exact ⟨by simp, by rw [wT]; simp⟩
     ·rintro I2 m τ ⟨left, R, last, rfl, hsub, hRl, hR, rfl⟩ hI2
      simp only [c72l13, c72r10, go_sem, ↓reduceIte, Nat.reduceAdd, true_implies]
      refine ⟨fun hnil => ?_, fun l1 e l2 hs => ?_⟩
      ·have hnil : left = [] := by simpa using hnil
       subst hnil
       have hRe : R = natL (wT N state (u + 1)) N.length := by
        apply List.ext_getElem?
        intro k
        by_cases hk : k < N.length
        ·obtain ⟨x, hx⟩ : ∃ x, R[k]? = some x := ⟨_, List.getElem?_eq_getElem (by omega)⟩
         have := (hR k hk).2
         rw [hx] at this ⊢
         rw [natL_get hk]
         simp only [Option.getD_some, List.map_nil, List.sum_nil, Int.add_zero] at this
         rw [this]
        ·rw [List.getElem?_eq_none (by omega), List.getElem?_eq_none (by rw [natL_len]; omega)]
       subst hRe
       have hrow : rowOf 0 N.length 1 ((natL (wT N state (u + 1)) N.length).map (SV.int .i64)) = some ((natL (wT N state (u + 1)) N.length).map (.int .i64)) := by
        rw [rowOf_take (by simp [natL_len]), List.take_of_length_le (by simp [natL_len])]
       simp only [c72r14, go_sem, Nat.reduceAdd, true_implies]
       refine ⟨_, hrow, ?_⟩
       simp only [c72r15, benchC, bnV, go_sem, Nat.reduceAdd, Nat.reduceLeDiff, true_implies]
       refine ⟨inR_small hf0 (by omega), ?_⟩
       simp only [c72r16, ints, natL_len, go_sem]
       intro _
       refine loop_rule (fun m τ => ∃ j : Nat, m = N.length - j /\ j <= N.length /\
        τ = ⟨((.s (benchC s N p))::aN::aN::aN::aN::aN::aN::(.s (ints (natL (wT N state (u + 1)) N.length)))::(aI (fT s N p state (u + 1) * s + wpT N p state (u + 1) j))::aN::aN::aN::aN::aN::aN::aN::aN::aN::aN::aN::aN::aN::aN::aN::aN::(aI plays)::(aI ((u + 1) : Nat))::aN::aN::aN::aN::aN::aN::aN::aN::aN::aN::aN::aN::aN::aN::aN::aN::aN::aN::aN::aN::aN::aN::aN::aN::aN::aN::aN::aN::aN::aN::aN::aN::aN::aN::aN::aN::aN::aN::aN::(.s (ints (natL (wT N state (u + 1)) N.length)))::(aI N.length)::(aI j)::aN::aN::aN::aZ16), [.row ((natL (wT N state 0) N.length).map (.int .i64)), .frz ((natL (wT N state (u + 1)) N.length).map (.int .i64)), .mit [] last]⟩) N.length rfl ?_ ?_
       ·simp only [c72l21m, go_sem, Nat.reduceAdd]
        exact ⟨0, rfl, Nat.zero_le _, by simp [wpT]; exact ⟨rfl, rfl⟩⟩
       ·rintro I2 m τ ⟨j, rfl, hj, rfl⟩ hI2
        simp only [c72l21, c72r17, go_sem, ↓reduceIte, Nat.reduceAdd, true_implies]
        refine ⟨fun hlt => ?_, fun hge => ?_⟩
        ·have hj : j < N.length := by omega
         obtain ⟨y, hy⟩ : ∃ y, p[j]? = some y := ⟨_, List.getElem?_eq_getElem (by rw [h.pl]; exact hj)⟩
         have hg := natL_get (f := wT N state (u + 1)) hj
         have hws := wpT_succ (N := N) (p := p) (state := state) (t := (u + 1)) (j := j)
         have hwl := wpT_le h hst (t := (u + 1)) (j := j + 1) (by omega)
         have hw0 := wpT_nonneg h.toOkP (state := state) (t := (u + 1)) (j := j)
         have hm0 := Int.mul_nonneg (wT_nonneg h.toOkN (state := state) (t := (u + 1)) (k := j)) (pay_le h.toOkP j).1
         rw [hy, Option.getD_some] at hws hm0
         simp only [c72r18, ints, hg, c72r19, benchC, bnV, hy, go_sem, Nat.reduceAdd, Nat.reduceLeDiff, true_implies]
         refine ⟨inR_small hm0 (by omega), inR_small (by omega) (by omega), ?_⟩
         simp only [c72r20, c72l21m, go_sem, true_implies]
         exact ⟨inR_small (by omega) (by omega), hI2 (N.length - (j + 1)) _ (by omega) ⟨j + 1, rfl, by omega, by rw [hws, <- Int.add_assoc]; rfl⟩⟩
        ·have hje : j = N.length := by omega
         subst hje
         simp only [c72r22, c72l23m, go_sem, true_implies]
         exact ⟨inR_small (by omega) (by omega), hI (plays - ((u + 1) + 1)) _ (by omega) ⟨(u + 1) + 1, .s (ints (natL (wT N state (u + 1)) N.length)), rfl, by omega, .inr ⟨rfl, by omega⟩, rfl⟩⟩
      ·obtain ⟨L1, L3, rfl, h1, h3⟩ := List.map_eq_append_iff.1 hs
       obtain ⟨z, L2, rfl, h4, h5⟩ := List.map_eq_cons_iff.1 h3
       subst h4
       have hz := hsub z (by simp)
       obtain ⟨i, k, l, e1, e2, e3⟩ := mem_allE.1 (List.mem_filter.1 hz).1
       have hin := (List.getElem?_eq_some_iff.1 e2).1
       have hkn : k < N.length := by
        have := (List.getElem?_eq_some_iff.1 e3).1
        rw [h.sq l (List.mem_of_getElem? e2)] at this
        exact this
       obtain ⟨⟨zi, zk⟩, zv⟩ := z
       simp only [Prod.mk.injEq] at e1 e3
       obtain ⟨rfl, rfl⟩ := e1
       have hgw := natL_get (f := wT N state u) hin
       obtain ⟨x, hx⟩ : ∃ x, R[k]? = some x := ⟨_, List.getElem?_eq_getElem (by omega)⟩
       have hzv : zv = tn N i k := by unfold tn; rw [e2]; simp [e3]
       have hbz : brg (wT N state u) k (((i : Int), (k : Int)), zv) = wT N state u i * zv := by unfold brg; simp
       have hnn : ∀ (L : List Ent) (q : Nat), (∀ z ∈ L, z ∈ turnsL N) -> 0 <= (L.map (brg (wT N state u) q)).sum := fun L q hL => sum_nonneg fun y hy => by
        obtain ⟨z, hz, rfl⟩ := List.mem_map.1 hy
        obtain ⟨a, b, l', f1, f2, f3⟩ := mem_allE.1 (List.mem_filter.1 (hL z hz)).1
        unfold brg
        split
        ·exact Int.mul_nonneg (wT_nonneg h.toOkN) (h.ent l' (List.mem_of_getElem? f2) _ (List.mem_of_getElem? f3)).1
        ·exact Int.le_refl _
       have hsum : ∀ q, ((L1 ++ (((i : Int), (k : Int)), zv) :: L2).map (brg (wT N state u) q)).sum = brg (wT N state u) q (((i : Int), (k : Int)), zv) + ((L1 ++ L2).map (brg (wT N state u) q)).sum := fun q => by
        simp only [List.map_append, List.map_cons, List.sum_append, List.sum_cons]; omega
       have hRk := hR k hkn
       rw [hsum, hbz, hx, Option.getD_some] at hRk
       have hrest := hnn (L1 ++ L2) k fun z hz => hsub z (by rcases List.mem_append.1 hz with h | h <;> simp [h])
       have hwl := wT_le h.s hst (t := u + 1) hkn
       have hwp := hp20 (u + 1) (by omega)
       have hm0 : 0 <= wT N state u i * zv := Int.mul_nonneg (wT_nonneg h.toOkN) (by rw [hzv]; exact h.nn i k)
       have hs3 := spl_row (R := R) (i := k) (x := x + wT N state u i * zv) (by omega)
       subst h1
       subst h5
       simp only [entS, pr, c72r11, SV.cells, spl_two, c72r12, Nat.mul_one, Int.toNat_natCast, hx, hgw, ints, hs3, go_sem, Nat.reduceAdd, true_implies]
       refine ⟨hkn, inR_small hm0 (by omega), inR_small (by omega) (by omega), hkn, by omega, ?_⟩
       simp only [c72l13m, go_sem, ↓reduceIte, reduceCtorEq, Nat.reduceLeDiff]
       refine hI2 (L1 ++ L2).length _ (by simp) ⟨L1 ++ L2, R.set k (x + wT N state u i * zv), some (.agg [.int .i64 i, .int .i64 k], .int .i64 zv), rfl, fun z hz => hsub z (by rcases List.mem_append.1 hz with h | h <;> simp [h]), by rw [List.length_set]; exact hRl, fun q hq => ?_, by rw [List.map_append]; try rfl⟩
       have hRq := hR q hq
       rw [hsum] at hRq
       by_cases e : k = q
       ·subst e
        rw [List.getElem?_set_self (by omega), Option.getD_some]
        rw [hbz, hx, Option.getD_some] at hRq
        omega
       ·rw [List.getElem?_set_ne e]
        have : brg (wT N state u) q (((i : Int), (k : Int)), zv) = 0 := by unfold brg; rw [if_neg (by simp; omega)]
        omega
   ·have htz : t = 0 := by omega
    subst htz
    have hv : v = .sl 0 0 N.length 1 true := by
     rcases hv with ⟨rfl, _⟩ | ⟨_, h⟩
     ·rfl
     ·omega
    subst hv
    simp only [c72r16, go_sem]
    intro _
    refine loop_rule (fun m τ => ∃ j : Nat, m = N.length - j /\ j <= N.length /\
     τ = ⟨((.s (benchC s N p))::aN::aN::aN::aN::aN::aN::(.sl 0 0 N.length 1 true)::(aI (fT s N p state 0 * s + wpT N p state 0 j))::aN::aN::aN::aN::aN::aN::aN::aN::aN::aN::aN::aN::aN::aN::aN::aN::(aI plays)::(aI (0 : Nat))::aN::aN::aN::aN::aN::aN::aN::aN::aN::aN::aN::aN::aN::aN::aN::aN::aN::aN::aN::aN::aN::aN::aN::aN::aN::aN::aN::aN::aN::aN::aN::aN::aN::aN::aN::aN::aN::aN::aN::(.sl 0 0 N.length 1 true)::(aI N.length)::(aI j)::aN::aN::aN::aZ16), [.row ((natL (wT N state 0) N.length).map (.int .i64))]⟩) N.length rfl ?_ ?_
    ·simp only [c72l21m, go_sem, ↓reduceIte, reduceCtorEq, Nat.reduceLeDiff]
     exact ⟨0, rfl, Nat.zero_le _, by simp [fT, wpT]⟩
    ·rintro I2 m τ ⟨j, rfl, hj, rfl⟩ hI2
     simp only [c72l21, c72r17, go_sem, ↓reduceIte, true_implies]
     refine ⟨fun hlt => ?_, fun hge => ?_⟩
     ·have hj : j < N.length := by omega
      obtain ⟨y, hy⟩ : ∃ y, p[j]? = some y := ⟨_, List.getElem?_eq_getElem (by rw [h.pl]; exact hj)⟩
      have hg := natL_get (f := wT N state 0) hj
      have hws := wpT_succ (N := N) (p := p) (state := state) (t := 0) (j := j)
      have hwl := wpT_le h hst (t := 0) (j := j + 1) (by omega)
      have hw0 := wpT_nonneg h.toOkP (state := state) (t := 0) (j := j)
      have hm0 := Int.mul_nonneg (wT_nonneg h.toOkN (state := state) (t := 0) (k := j)) (pay_le h.toOkP j).1
      rw [hy, Option.getD_some] at hws hm0
      simp only [c72r18, ints, Nat.mul_one, hg, c72r19, benchC, bnV, hy, go_sem, Nat.reduceAdd, Nat.reduceLeDiff, true_implies]
      refine ⟨hj, inR_small hm0 (by omega), inR_small (by omega) (by omega), ?_⟩
      simp only [c72r20, c72l21m, go_sem, ↓reduceIte, reduceCtorEq, Nat.reduceLeDiff, true_implies]
      exact ⟨inR_small (by omega) (by omega), hI2 (N.length - (j + 1)) _ (by omega) ⟨j + 1, rfl, by omega, by rw [hws, <- Int.add_assoc]; rfl⟩⟩
     ·have hje : j = N.length := by omega
      subst hje
      simp only [c72r22, c72l23m, go_sem, ↓reduceIte, reduceCtorEq, Nat.reduceLeDiff, true_implies]
      exact ⟨inR_small (by omega) (by omega), hI (plays - (0 + 1)) _ (by omega) ⟨0 + 1, .sl 0 0 N.length 1 true, rfl, by omega, .inl ⟨rfl, by omega⟩, rfl⟩⟩
  ·have hte : t = plays := by omega
   subst hte
   simp only [c72r24, go_sem, true_implies]
def firstR (s : Int) (N : List (List Int)) (p : List Int) (state plays : Int) : List SV :=
 if chkM s N p = 0 then (if (0 <= state /\ state < N.length) /\ 0 <= plays /\ plays <= 10 then [rat (lst (fT s N p state.toNat plays.toNat) (s ^ (plays.toNat - 1))), .int .i64 0] else [rat (0, 0), .int .i64 2]) else [rat (0, 0), .int .i64 (chkM s N p)]
theorem fT_le {s : Int} {N : List (List Int)} {p : List Int} (h : OkM s N p) {state : Nat} (hs : state < N.length) {t : Nat} (ht : t <= 10) : 0 <= fT s N p state t /\ fT s N p state t <= 11000 * 10240000000000 := by
 refine ⟨(fT_bd h hs).1, ?_⟩
 cases t with
 | zero => rw [fT]; decide
 | succ t =>
  have h1 := (fT_bd h hs (t := t)).2
  have h2 := pow_bd h.toOkN (t := t)
  have h3 : (20 : Int) ^ t <= 10240000000000 := by
   have := Nat.pow_le_pow_right (show 0 < 20 by decide) (show t <= 10 by omega)
   have h2 : ((20 ^ t : Nat) : Int) <= ((20 ^ 10 : Nat) : Int) := by omega
   simpa using h2
  exact Int.le_trans h1 (Int.mul_le_mul (by omega) (by omega) (by omega) (by decide))
set_option maxHeartbeats 1000000 in
theorem k44 {s : Int} {N : List (List Int)} {p : List Int} {state plays : Int} : E.Fn Try.prog 44 [mc s N p, .int .i64 state, .int .i64 plays] (firstR s N p state plays) := by
 refine fn_of_row okf44 ?_
 have h48 := k48 (s := s) (N := N) (p := p)
 unfold firstR
 unfold openR at h48
 simp only [FRow.start, f44, c44r0, c44r1, mc, SV.cells, List.length_cons, List.length_nil, go_sem, Nat.reduceAdd, Nat.reduceSub, true_implies]
 by_cases h0 : chkM s N p = 0
 ·rw [if_pos h0] at h48
  rw [if_pos h0]
  have h := chkM_zero.1 h0
  have hn4 := h.n4
  refine callK_of rfl h48 (.inr (.inl rfl)) ?_
  have hin1 : inR .i64 ((N.length : Int) - 1) := inR_i64 (by omega) (by omega)
  have hw1 := within_one (lo := 0) (hi := (N.length : Int) - 1) (x := state)
  have hw2 := within_one (lo := 0) (hi := 10) (x := plays)
  simp only [c44r2, c44r4, intss, go_sem, Nat.reduceAdd, Nat.reduceLeDiff, Nat.reduceMul, true_implies]
  refine ⟨hin1, by decide, by decide, rfl, one_int, ?_⟩
  refine callK_of (by simp only [ints, List.map_cons, List.map_nil, go_sem]) (k57 (lo := 0) (hi := (N.length : Int) - 1) (l := [state])) (.inl rfl) ?_
  by_cases h1 : 0 <= state /\ state < N.length
  ·rw [decide_eq_true (by omega)] at hw1
   simp only [hw1, go_sem, Nat.reduceMul]
   refine ⟨by decide, by decide, rfl, one_int, ?_⟩
   refine callK_of (by simp only [ints, List.map_cons, List.map_nil, go_sem]) (k57 (lo := 0) (hi := 10) (l := [plays])) (.inl rfl) ?_
   by_cases h2 : 0 <= plays /\ plays <= 10
   ·rw [decide_eq_true (by omega)] at hw2
    rw [if_pos ⟨h1, h2⟩]
    obtain ⟨st, rfl⟩ : ∃ m : Nat, state = m := ⟨state.toNat, by omega⟩
    obtain ⟨pl, rfl⟩ : ∃ m : Nat, plays = m := ⟨plays.toNat, by omega⟩
    rw [Int.toNat_natCast, Int.toNat_natCast]
    have h72 := k72 (state := st) (plays := pl) h (by omega) (by omega)
    have hpb := fun t => pow_bd h.toOkN (t := t)
    have hp20 : ∀ t, t <= 10 -> (20 : Int) ^ t <= 10240000000000 := fun t ht => by
     have := Nat.pow_le_pow_right (show 0 < 20 by decide) ht
     have h2 : ((20 ^ t : Nat) : Int) <= ((20 ^ 10 : Nat) : Int) := by omega
     simpa using h2
    simp only [hw2, c44r6, c44r7, go_sem, true_implies]
    intro _
    refine loop_rule (fun m τ => ∃ t : Nat, m = pl - t /\ 1 <= t /\ (t <= pl \/ t = 1) /\
     τ = ⟨(aN::(aI st)::(aI pl)::(.s (.ptr [.int .i64 s, intss N, ints p]))::aN::aN::(.loc 0 0)::aN::(.s (benchC s N p))::aN::(aI (s ^ (t - 1)))::(aI t)::aN::aZ40), [.obj [aI 0, aI 0]]⟩) (pl - 1) rfl ?_ ?_
    ·simp only [c44l11m, go_sem, ↓reduceIte, reduceCtorEq, Nat.reduceLeDiff]
     exact ⟨1, rfl, Nat.le_refl _, .inr rfl, by rw [show s ^ (1 - 1) = 1 from Int.pow_zero s]; rfl⟩
    ·rintro I m τ ⟨t, rfl, ht1, ht, rfl⟩ hI
     simp only [c44l11, c44r8, go_sem, ↓reduceIte, true_implies]
     refine ⟨fun hlt => ?_, fun hge => ?_⟩
     ·have hlt : t < pl := by omega
      have hps : s ^ (t - 1) * s = s ^ (t + 1 - 1) := by rw [<- Int.pow_succ]; congr 1; omega
      have hb1 := hpb (t + 1 - 1)
      have hb2 := hp20 (t + 1 - 1) (by omega)
      simp only [c44r9, go_sem, Nat.reduceAdd, Nat.reduceLeDiff, true_implies]
      rw [hps]
      refine ⟨inR_small (by omega) (by omega), ?_⟩
      simp only [c44r10, c44l11m, go_sem, ↓reduceIte, reduceCtorEq, Nat.reduceLeDiff, true_implies]
      exact ⟨inR_small (by omega) (by omega), hI (pl - (t + 1)) _ (by omega) ⟨t + 1, rfl, by omega, .inl (by omega), rfl⟩⟩
     ·have hte : t - 1 = pl - 1 := by omega
      rw [hte]
      have hb1 := hpb (pl - 1)
      have hb2 := hp20 (pl - 1) (by omega)
      have hf := fT_le h (state := st) (by omega) (t := pl) (by omega)
      have hk71 := k71 (n := fT s N p st pl) (d := s ^ (pl - 1)) (by omega) (by omega) (by omega)
      simp only [c44r12, go_sem]
      refine callK_of (by simp only [benchC, bnV, intss, ints, go_sem]) h72 (.inl rfl) ?_
      simp only [go_sem]
      refine callK_of (by simp only [go_sem]) hk71 (.inl rfl) ?_
      simp only [rat, spl_two, frz_two', go_sem, Nat.reduceAdd, true_implies]
   ·rw [decide_eq_false (by omega)] at hw2
    rw [if_neg fun h => h2 h.2]
    simp only [hw2, c44r5, rat, spl_two, frz_two', go_sem, Nat.reduceAdd, true_implies]
    done
  ·rw [decide_eq_false (by omega)] at hw1
   rw [if_neg fun h => h1 h.1]
   simp only [hw1, c44r5, rat, spl_two, frz_two', go_sem, Nat.reduceAdd, true_implies]
   done
 ·rw [if_neg h0] at h48
  rw [if_neg h0]
  refine callK_of rfl h48 (.inr (.inl rfl)) ?_
  simp only [h0, c44r2, c44r3, rat, spl_two, frz_two', go_sem, Nat.reduceAdd, true_implies]
def fv (far : List Int) (x : Nat) : Int := far[x]?.getD 0
theorem fv_set {far : List Int} {k x : Nat} {y : Int} (hk : k < far.length) : fv (far.set k y) x = if k = x then y else fv far x := by
 unfold fv
 by_cases e : k = x
 ·subst e; rw [List.getElem?_set_self hk, if_pos rfl]; rfl
 ·rw [List.getElem?_set_ne e, if_neg e]
structure Pq (g : Nat -> Nat -> Bool) (n c off : Nat) (Q : List Nat) (far : List Int) (d : Nat) : Prop where
  nod : Q.Nodup
  lt : ∀ x ∈ Q, x < n
  hd : Q[0]? = some c
  fl : far.length = n
  neg : ∀ x, x < n -> x ∉ Q -> fv far x = -1
  pos : ∀ (j x : Nat), Q[j]? = some x -> ∃ L : Nat, fv far x = L /\ L <= j /\ Wk g n L c x
  edge : ∀ (j i : Nat), j < off -> Q[j]? = some i -> ∀ k, k < n -> g i k = true -> k ∈ Q /\ (d : Int) ∣ fv far i + 1 - fv far k
  gcd : ∀ e : Nat, (∀ i k, i ∈ Q -> k ∈ Q -> k < n -> g i k = true -> (e : Int) ∣ fv far i + 1 - fv far k) -> e ∣ d
  db : d <= 4
section
variable {g : Nat -> Nat -> Bool} {n c off : Nat} {Q : List Nat} {far : List Int} {d : Nat}
theorem Pq.len (h : Pq g n c off Q far d) : Q.length <= n := by
 have := h.nod.length_le_of_subset (l₂ := List.range n) (fun x hx => List.mem_range.2 (h.lt x hx))
 simpa using this
theorem Pq.fin (h : Pq g n c off Q far d) (hn : n <= 4) {x : Nat} (hx : x ∈ Q) : 0 <= fv far x /\ fv far x <= 3 := by
 obtain ⟨j, hj⟩ := List.mem_iff_getElem?.1 hx
 obtain ⟨L, h1, h2, _⟩ := h.pos j x hj
 have h3 := (List.getElem?_eq_some_iff.1 hj).1
 have h4 := h.len
 omega
theorem Pq.add (h : Pq g n c off Q far d) {a k : Nat} (ha : Q[off]? = some a) (hk : k < n) (hg : g a k = true) (hkn : k ∉ Q) : Pq g n c off (Q ++ [k]) (far.set k (fv far a + 1)) d := by
 have hkl : k < far.length := by rw [h.fl]; exact hk
 have same : ∀ x, x ∈ Q -> fv (far.set k (fv far a + 1)) x = fv far x := fun x hx => by
  rw [fv_set hkl, if_neg]
  intro e; subst e; exact hkn hx
 have ham := List.mem_of_getElem? ha
 have hoff := (List.getElem?_eq_some_iff.1 ha).1
 refine ⟨?_, fun x hx => ?_, ?_, by rw [List.length_set, h.fl], fun x hx hxn => ?_, fun j x hj => ?_, fun j i hj hi x hx hgx => ?_, fun e he => h.gcd e fun i x hi hx hxn hgx => ?_, h.db⟩
 ·rw [List.nodup_append]
  refine ⟨h.nod, by simp, fun x hx y hy e => ?_⟩
  rw [List.mem_singleton] at hy
  subst hy; subst e; exact hkn hx
 ·rcases List.mem_append.1 hx with hx | hx
  ·exact h.lt x hx
  ·rw [List.mem_singleton.1 hx]; exact hk
 ·rw [List.getElem?_append_left (by omega)]; exact h.hd
 ·rw [List.mem_append, not_or, List.mem_singleton] at hxn
  rw [fv_set hkl, if_neg (fun e => hxn.2 e.symm)]
  exact h.neg x hx hxn.1
 ·by_cases hjl : j < Q.length
  ·rw [List.getElem?_append_left hjl] at hj
   rw [same x (List.mem_of_getElem? hj)]
   exact h.pos j x hj
  ·have hjl2 := (List.getElem?_eq_some_iff.1 hj).1
   rw [List.length_append, List.length_singleton] at hjl2
   have hje : j = Q.length := by omega
   rw [hje, List.getElem?_append_right (Nat.le_refl _), Nat.sub_self] at hj
   have hxe : k = x := by simpa using hj
   subst hxe
   obtain ⟨L, h1, h2, h3⟩ := h.pos off a ha
   refine ⟨L + 1, by rw [fv_set hkl, if_pos rfl, h1]; rfl, by omega, .snoc h3 hg hk⟩
 ·rw [List.getElem?_append_left (by omega)] at hi
  obtain ⟨h1, h2⟩ := h.edge j i hj hi x hx hgx
  rw [same i (List.mem_of_getElem? hi), same x h1]
  exact ⟨List.mem_append_left _ h1, h2⟩
 ·have := he i x (List.mem_append_left _ hi) (List.mem_append_left _ hx) hxn hgx
  rwa [same i hi, same x hx] at this
theorem Pq.old (h : Pq g n c off Q far d) (hn : n <= 4) {a k : Nat} (ha : Q[off]? = some a) (hk : k < n) (hg : g a k = true) (hkn : k ∈ Q) : Pq g n c off Q far (Nat.gcd d (fv far a + 1 - fv far k).natAbs) := by
 have hda : ((Nat.gcd d (fv far a + 1 - fv far k).natAbs : Nat) : Int) ∣ (d : Int) := Int.natCast_dvd_natCast.2 (Nat.gcd_dvd_left _ _)
 have f1 := h.fin hn (List.mem_of_getElem? ha)
 have f2 := h.fin hn hkn
 refine { h with edge := fun j i hj hi x hx hgx => ?_, gcd := fun e he => ?_, db := ?_ }
 ·obtain ⟨h1, h2⟩ := h.edge j i hj hi x hx hgx
  exact ⟨h1, Int.dvd_trans hda h2⟩
 ·refine Nat.dvd_gcd (h.gcd e he) ?_
  exact Int.ofNat_dvd_left.1 (he a k (List.mem_of_getElem? ha) hkn hk hg)
 ·have h1 := h.db
  rcases Nat.eq_zero_or_pos (fv far a + 1 - fv far k).natAbs with h0 | h0
  ·rw [h0, Nat.gcd_zero_right]; exact h1
  ·exact Nat.le_trans (Nat.gcd_le_right _ h0) (by omega)
theorem Pq.next (h : Pq g n c off Q far d) {a : Nat} (ha : Q[off]? = some a) (hp : ∀ k, k < n -> g a k = true -> k ∈ Q /\ (d : Int) ∣ fv far a + 1 - fv far k) : Pq g n c (off + 1) Q far d :=
 ⟨h.nod, h.lt, h.hd, h.fl, h.neg, h.pos, fun j i hj hi x hx hgx => (by
   by_cases e : j = off
   ·rw [e, ha] at hi; cases hi; exact hp x hx hgx
   ·exact h.edge j i (by omega) hi x hx hgx), h.gcd, h.db⟩
theorem Pq.done (h : Pq g n c Q.length Q far d) (hn : n <= 4) (hc : isPC g n c = true) : d = perN g n c := by
 have hcl := isPC_clsd hc
 have hcn := (isPC_iff.1 hc).1.lt
 refine per_eq (f := fv far) (S := fun x => x ∈ Q) hcn (List.mem_of_getElem? h.hd) ?_ (fun i hi => ?_) (fun i k hi hk hg => ?_) (fun e he => h.gcd e he) (fun k hk => ?_)
 ·obtain ⟨L, h1, h2, _⟩ := h.pos 0 c h.hd
  rw [h1]; omega
 ·obtain ⟨j, hj⟩ := List.mem_iff_getElem?.1 hi
  obtain ⟨L, h1, h2, h3⟩ := h.pos j i hj
  have h4 := (List.getElem?_eq_some_iff.1 hj).1
  have h5 := h.len
  exact ⟨L, h1, by omega, h3⟩
 ·obtain ⟨j, hj⟩ := List.mem_iff_getElem?.1 hi
  exact h.edge j i (List.getElem?_eq_some_iff.1 hj).1 hj k hk hg
 ·obtain ⟨j, hj⟩ := List.mem_iff_getElem?.1 hk
  obtain ⟨L, _, _, h3⟩ := h.pos j k hj
  have hr : Reach g n k c := by
   rcases h3.reach with ⟨_, rfl⟩ | h4
   ·exact (isPC_iff.1 hc).1
   ·exact hcl k h4
  obtain ⟨r, r1, r2, r3⟩ := rB_walk (reach_iff.1 hr)
  exact ⟨r, r1, by omega, r3⟩
end
theorem fv_get {far : List Int} {x : Nat} (h : x < far.length) : far[x]? = some (fv far x) := by
 unfold fv; rw [List.getElem?_eq_getElem h]; rfl
set_option maxHeartbeats 2000000 in
theorem k69 {s : Int} {N : List (List Int)} {p : List Int} {c : Nat} (h : OkM s N p) (hc : isPC (gr N) N.length c = true) : E.Fn Try.prog 69 [benchC s N p, .int .i64 c] [.int .i64 (perN (gr N) N.length c)] := by
 refine fn_of_row okf69 ?_
 have hn4 := h.n4
 have hcn := (isPC_iff.1 hc).1.lt
 have hm := map_turns h.sq
 simp only [FRow.start, f69, c69r0, c69r1, benchC, bnV, intss, go_sem, Nat.reduceAdd, Nat.reduceSub, Nat.reduceLT, Nat.reduceLeDiff, true_implies]
 refine ⟨by omega, by omega, fun _ => ?_⟩
 rw [rep_flat]
 simp only [c69r2, go_sem]
 intro _
 refine loop_rule (fun m τ => ∃ i : Nat, m = N.length - i /\ i <= N.length /\
  τ = ⟨((.s (benchC s N p))::(aI c)::aN::aN::aN::(.sl 0 0 N.length 1 true)::aN::aN::aN::aN::aN::aN::aN::aN::aN::aN::aN::aN::aN::(aI N.length)::(aI i)::aN::aZ80), [.row ((List.replicate i (-1) ++ List.replicate (N.length - i) 0).map (.int .i64))]⟩) N.length rfl ?_ ?_
 ·simp only [c69l7m, go_sem, ↓reduceIte, reduceCtorEq, Nat.reduceLeDiff, Int.reduceNeg]
  exact ⟨0, rfl, Nat.zero_le _, rfl⟩
 ·rintro I m τ ⟨i, rfl, hi, rfl⟩ hI
  simp only [c69l7, c69r3, go_sem, ↓reduceIte, Int.reduceNeg, true_implies]
  refine ⟨fun hlt => ?_, fun hge => ?_⟩
  ·have hlt : i < N.length := by omega
   have hs1 := spl_row (R := List.replicate i (-1) ++ List.replicate (N.length - i) 0) (i := i) (x := -1) (by simp; omega)
   have hset : (List.replicate i (-1 : Int) ++ List.replicate (N.length - i) 0).set i (-1) = List.replicate (i + 1) (-1) ++ List.replicate (N.length - (i + 1)) 0 := by
    rw [List.set_append_right _ _ (by simp), List.length_replicate, Nat.sub_self, show N.length - i = (N.length - (i + 1)) + 1 by omega, List.replicate_succ, List.set_cons_zero, List.replicate_succ', List.append_assoc]; rfl
   rw [hset] at hs1
   simp only [c69r4, c69r5, Nat.mul_one, hs1, go_sem, Int.reduceNeg, true_implies]
   refine ⟨hlt, by simp; omega, ?_⟩
   simp only [c69r6, c69l7m, go_sem, ↓reduceIte, reduceCtorEq, Nat.reduceLeDiff, Int.reduceNeg, true_implies]
   exact ⟨inR_small (by omega) (by omega), hI (N.length - (i + 1)) _ (by omega) ⟨i + 1, rfl, by omega, rfl⟩⟩
  ·have hie : i = N.length := by omega
   subst hie
   rw [Nat.sub_self, List.replicate_zero, List.append_nil]
   have hs1 := spl_row (R := List.replicate N.length (-1)) (i := c) (x := 0) (by simpa using hcn)
   obtain ⟨far0, hfar0⟩ : ∃ far0, far0 = (List.replicate N.length (-1 : Int)).set c 0 := ⟨_, rfl⟩
   rw [<- hfar0] at hs1
   have hp0 : Pq (gr N) N.length c 0 [c] far0 0 := by
    have hfv : ∀ x, x < N.length -> fv far0 x = if c = x then 0 else -1 := fun x hx => by
     rw [hfar0, fv_set (by simpa using hcn)]
     split
     ·rfl
     ·unfold fv; rw [List.getElem?_replicate, if_pos hx]; rfl
    refine ⟨by simp, fun x hx => by rw [List.mem_singleton.1 hx]; exact hcn, rfl, by rw [hfar0]; simp, fun x hx hxn => ?_, fun j x hj => ?_, fun j i hj => absurd hj (Nat.not_lt_zero _), fun e _ => Nat.dvd_zero e, by decide⟩
    ·rw [hfv x hx, if_neg]
     intro e; exact hxn (by simp [e])
    ·match j, hj with
     | 0, hj =>
      have hx : c = x := by simpa using hj
      subst hx
      exact ⟨0, by rw [hfv c hcn, if_pos rfl]; rfl, Nat.le_refl _, .nil⟩
     | j + 1, hj => simp at hj
   clear hI I
   simp only [c69r8, Nat.mul_one, hs1, c69r9, c69r10, go_sem, Nat.reduceAdd, Nat.reduceLT, Int.reduceNeg, true_implies]
   refine ⟨hcn, by simp; omega, by decide, by decide, rfl, one_int, ?_⟩
   refine loop_rule (fun m τ => ∃ (off o d : Nat) (Q : List Nat) (R far : List Int), m = N.length + 1 - off /\ off <= Q.length /\ Pq (gr N) N.length c off Q far d /\ R.drop o = (nats Q).drop off /\ o + (Q.length - off) = R.length /\
    τ = ⟨((.s (benchC s N p))::aN::aN::aN::aN::(.sl 0 0 N.length 1 true)::aN::(.sl 1 o (Q.length - off) 1 false)::(aI d)::aN::aN::aN::aN::aN::aZ88), [.row (far.map (.int .i64)), .row (R.map (.int .i64))]⟩) (N.length + 1) (promo_sl rfl) ?_ ?_
   ·simp only [c69l24m, go_sem, ↓reduceIte, reduceCtorEq, Nat.reduceAdd, Nat.reduceLeDiff]
    exact ⟨0, 0, 0, [c], [(c : Int)], far0, rfl, Nat.zero_le _, hp0, rfl, rfl, rfl⟩
   ·rintro I m τ ⟨off, o, d, Q, R, far, rfl, hoff, hP, hR, hRl, rfl⟩ hI
    have hQl := hP.len
    simp only [c69l24, c69r11, go_sem, ↓reduceIte, Nat.reduceAdd]
    intro _
    refine ⟨fun hlt => ?_, fun hge => ?_⟩
    ·have hlt : off < Q.length := by omega
     obtain ⟨a, ha⟩ : ∃ a, Q[off]? = some a := ⟨_, List.getElem?_eq_getElem hlt⟩
     have han := hP.lt a (List.mem_of_getElem? ha)
     have hxm : R[o]? = some (a : Int) := by
      have h9 := congrArg (·[0]?) hR
      simp only [List.getElem?_drop, Nat.add_zero] at h9
      rw [h9]; unfold nats; rw [List.getElem?_map, ha]; rfl
     have hRd : R.drop (o + 1) = (nats Q).drop (off + 1) := by
      have h9 := congrArg (List.drop 1) hR
      rw [List.drop_drop, List.drop_drop] at h9
      exact h9
     have hpos : (0 : Int) < ((Q.length - off : Nat) : Int) := by omega
     simp only [c69r12, Nat.add_zero, hxm, hpos, c69r13, c69r14, benchC, bnV, intss, go_sem, ↓reduceIte, Nat.reduceAdd, Nat.reduceLeDiff, Int.reduceLE, Int.reduceToNat, Nat.reduceMul, true_implies]
     refine ⟨by omega, fun _ => ?_⟩
     rw [show Q.length - off - 1 = Q.length - (off + 1) by omega]
     refine loop_rule (fun m τ => ∃ (k o d : Nat) (Q : List Nat) (R far : List Int), m = N.length - k /\ k <= N.length /\ off < Q.length /\ Q[off]? = some a /\ Pq (gr N) N.length c off Q far d /\ (∀ k', k' < k -> gr N a k' = true -> k' ∈ Q /\ (d : Int) ∣ fv far a + 1 - fv far k') /\ R.drop o = (nats Q).drop (off + 1) /\ o + (Q.length - (off + 1)) = R.length /\
      τ = ⟨((.s (benchC s N p))::aN::aN::aN::aN::(.sl 0 0 N.length 1 true)::aN::(.sl 1 o (Q.length - (off + 1)) 1 false)::(aI d)::(aI a)::aN::aN::aN::aN::aN::aN::aN::aN::aN::aN::aN::aN::aN::aN::aN::aN::aN::aN::aN::aN::aN::aN::aN::aN::aN::aN::aN::aN::aN::aN::aN::aN::aN::aN::aN::(aI N.length)::(aI k)::aN::aN::aN::aN::aN::aN::aN::aZ48), [.row (far.map (.int .i64)), .row (R.map (.int .i64))]⟩) N.length (promo_sl rfl) ?_ ?_
     ·simp only [c69l23m, go_sem, ↓reduceIte, reduceCtorEq, Nat.reduceAdd, Nat.reduceLeDiff]
      exact ⟨0, o + 1, d, Q, R, far, rfl, Nat.zero_le _, hlt, ha, hP, fun k' h => absurd h (Nat.not_lt_zero _), hRd, by omega, rfl⟩
     ·clear hP hR hRl hxm hRd hQl ha hlt hoff
      rintro I2 m τ ⟨k, o, d, Q, R, far, rfl, hk, hlt, ha, hP, hpart, hR, hRl, rfl⟩ hI2
      have hQl := hP.len
      simp only [c69l23, c69r15, go_sem, ↓reduceIte, Nat.reduceAdd, true_implies]
      refine ⟨fun hlt2 => ?_, fun hge => ?_⟩
      ·have hk : k < N.length := by omega
       have hgk : gr N a k = decide (0 < tn N a k) := rfl
       have htn := h.tn a k
       have hfl := hP.fl
       have hfa := hP.fin hn4 (List.mem_of_getElem? ha)
       have hga := fv_get (far := far) (x := a) (by omega)
       have hgk2 := fv_get (far := far) (x := k) (by omega)
       simp only [c69r16, c69r17, benchC, bnV, go_sem, ↓reduceIte, Nat.reduceAdd, Nat.reduceLeDiff, true_implies]
       refine ⟨hm.key a k han hk, hm.nod, hm.look han hk ?_⟩
       by_cases hT : tn N a k = 0
       ·have hg0 : gr N a k = false := by rw [hgk]; exact decide_eq_false (by omega)
        simp only [hT, c69r22, c69l23m, go_sem, ↓reduceIte, reduceCtorEq, Nat.reduceAdd, Nat.reduceLeDiff, true_implies]
        exact ⟨inR_small (by omega) (by omega), hI2 (N.length - (k + 1)) _ (by omega) ⟨k + 1, o, d, Q, R, far, rfl, by omega, hlt, ha, hP, fun k' h1 h2 => if e : k' = k then absurd (by rw [e, hg0] at h2; exact h2) (by simp) else hpart k' (by omega) h2, hR, hRl, rfl⟩⟩
       ·have hg1 : gr N a k = true := by rw [hgk]; exact decide_eq_true (by omega)
        simp only [hT, c69r18, Nat.mul_one, hgk2, go_sem, Nat.reduceAdd, true_implies]
        refine ⟨hk, ?_⟩
        by_cases hkq : k ∈ Q
        ·have hfk := hP.fin hn4 hkq
         have hP2 := hP.old hn4 ha hk hg1 hkq
         have hdd : ((Nat.gcd d (fv far a + 1 - fv far k).natAbs : Nat) : Int) ∣ (d : Int) := Int.natCast_dvd_natCast.2 (Nat.gcd_dvd_left _ _)
         have hnd : ((Nat.gcd d (fv far a + 1 - fv far k).natAbs : Nat) : Int) ∣ fv far a + 1 - fv far k := Int.dvd_trans (Int.natCast_dvd_natCast.2 (Nat.gcd_dvd_right _ _)) (Int.natAbs_dvd.2 (Int.dvd_refl _))
         have hneg : ¬ fv far k < 0 := by omega
         have hmx : maxL [fv far a + 1 - fv far k, fv far k - fv far a - 1] = ((fv far a + 1 - fv far k).natAbs : Int) := by
          simp only [maxL, List.foldl_cons, List.foldl_nil]
          split <;> omega
         have hk89 := k89 (fv far a + 1 - fv far k).natAbs d (by have := hP.db; omega) (by omega)
         simp only [hneg, c69r21, Nat.mul_one, hga, hgk2, go_sem, false_implies, true_implies, not_false_eq_true]
         refine ⟨han, inR_i64 (by omega) (by omega), hk, inR_i64 (by omega) (by omega), hk, han, inR_i64 (by omega) (by omega), inR_i64 (by omega) (by omega), by simp, ?_⟩
         rw [hmx]
         refine callK_of (by simp only [go_sem]) hk89 (.inl rfl) ?_
         simp only [c69r22, c69l23m, go_sem, ↓reduceIte, reduceCtorEq, Nat.reduceAdd, Nat.reduceLeDiff, true_implies]
         exact ⟨inR_small (by omega) (by omega), hI2 (N.length - (k + 1)) _ (by omega) ⟨k + 1, o, Nat.gcd d (fv far a + 1 - fv far k).natAbs, Q, R, far, rfl, by omega, hlt, ha, hP2, fun k' h1 h2 => if e : k' = k then by rw [e]; exact ⟨hkq, hnd⟩ else ⟨(hpart k' (by omega) h2).1, Int.dvd_trans hdd (hpart k' (by omega) h2).2⟩, hR, hRl, rfl⟩⟩
        ·have hfk := hP.neg k hk hkq
         have hneg : fv far k < 0 := by omega
         have hP2 := hP.add ha hk hg1 hkq
         have hs1 := spl_row (R := far) (i := k) (x := fv far a + 1) (by omega)
         have haq := List.mem_of_getElem? ha
         have hak : k ≠ a := fun e => hkq (e ▸ haq)
         have e3 : (R.map (SV.int .i64)).drop o ++ flatE [SV.int .i64 (k : Int)] = (R.drop o ++ [(k : Int)]).map (SV.int .i64) := by rw [List.map_append, List.map_drop]; rfl
         simp only [hneg, c69r19, Nat.mul_one, hga, hs1, go_sem, Nat.reduceAdd, not_true_eq_false, false_implies, true_implies]
         refine ⟨han, inR_small (by omega) (by omega), hk, by omega, ?_⟩
         simp only [c69r20, Nat.reduceBEq, Bool.false_eq_true, go_sem, ↓reduceIte, Nat.reduceAdd, Nat.reduceLeDiff, Nat.reduceMul, true_implies]
         refine ⟨by decide, by decide, rfl, one_int, one_int, by rw [Nat.mul_one]; omega, by omega, by omega, ?_⟩
         rw [e3]
         have hsame : ∀ x, x ∈ Q -> fv (far.set k (fv far a + 1)) x = fv far x := fun x hx => by
          rw [fv_set (by omega), if_neg]
          intro e; subst e; exact hkq hx
         simp only [c69r22, c69l23m, go_sem, ↓reduceIte, reduceCtorEq, Nat.reduceLeDiff, true_implies]
         refine ⟨inR_small (by omega) (by omega), hI2 (N.length - (k + 1)) _ (by omega) ⟨k + 1, 0, d, Q ++ [k], R.drop o ++ [(k : Int)], far.set k (fv far a + 1), rfl, by omega, by rw [List.length_append]; omega, by rw [List.getElem?_append_left (by omega)]; exact ha, hP2, fun k' h1 h2 => ?_, ?_, ?_, ?_⟩⟩
         ·rw [hsame a haq]
          by_cases e : k' = k
          ·rw [e]
           refine ⟨by simp, ?_⟩
           rw [fv_set (by omega), if_pos rfl, Int.sub_self]
           exact Int.dvd_zero _
          ·have h9 := hpart k' (by omega) h2
           rw [hsame k' h9.1]
           exact ⟨List.mem_append_left _ h9.1, h9.2⟩
         ·rw [List.drop_zero, hR]
          unfold nats
          rw [List.map_append, List.drop_append_of_le_length (by rw [List.length_map]; omega)]; rfl
         ·rw [List.length_append, List.length_append, List.length_drop, List.length_singleton, List.length_singleton]; omega
         ·rw [List.length_append, List.length_singleton, show Q.length + 1 - (off + 1) = Q.length - (off + 1) + 1 by omega]; rfl
      ·have hke : k = N.length := by omega
       subst hke
       simp only [c69l24m, go_sem, ↓reduceIte, reduceCtorEq, Nat.reduceLeDiff]
       exact hI (N.length + 1 - (off + 1)) _ (by omega) ⟨off + 1, o, d, Q, R, far, rfl, by omega, hP.next ha fun k hk hg => hpart k hk hg, hR, hRl, rfl⟩
    ·have hoe : off = Q.length := by omega
     subst hoe
     rw [hP.done hn4 hc]
     simp only [c69r25, go_sem, true_implies]
     done
def partC (N : List (List Int)) (m : Nat) : Nat := ((((parts N)[m]?).getD [])[0]?.getD 0).toNat
theorem partC_pc {N : List (List Int)} {m : Nat} (hm : m < (parts N).length) : isPC (gr N) N.length (partC N m) = true /\ (parts N)[m]? = some (rchC (gr N) N.length (partC N m)) := by
 have h1 := List.getElem?_eq_getElem hm
 obtain ⟨x, hx⟩ : ∃ x, x = (parts N)[m] := ⟨_, rfl⟩
 have hmem : x ∈ parts N := by rw [hx]; exact List.getElem_mem hm
 rw [<- hx] at h1
 unfold parts partsC at hmem
 obtain ⟨c, hc, rfl⟩ := List.mem_map.1 hmem
 obtain ⟨l, hl⟩ := rchC_head (List.mem_filter.1 hc).2
 have hpc : partC N m = c := by
  unfold partC
  rw [h1, Option.getD_some, hl, List.getElem?_cons_zero, Option.getD_some, Int.toNat_natCast]
 rw [hpc]
 exact ⟨(List.mem_filter.1 hc).2, h1⟩
def perR (s : Int) (N : List (List Int)) (p : List Int) (part : Int) : List SV :=
 if chkM s N p = 0 then (if 0 <= part /\ part < (parts N).length then [.int .i64 (perN (gr N) N.length (partC N part.toNat)), .int .i64 0] else [.int .i64 0, .int .i64 2]) else [.int .i64 0, .int .i64 (chkM s N p)]
theorem k38 {s : Int} {N : List (List Int)} {p : List Int} {part : Int} : E.Fn Try.prog 38 [mc s N p, .int .i64 part] (perR s N p part) := by
 refine fn_of_row okf38 ?_
 have h48 := k48 (s := s) (N := N) (p := p)
 unfold perR
 unfold openR at h48
 simp only [FRow.start, f38, c38r0, c38r1, mc, SV.cells, List.length_cons, List.length_nil, go_sem, Nat.reduceAdd, Nat.reduceSub, true_implies]
 by_cases h0 : chkM s N p = 0
 ·rw [if_pos h0] at h48
  rw [if_pos h0]
  have h := chkM_zero.1 h0
  have hn4 := h.n4
  have hpl := parts_len (N := N)
  refine callK_of rfl h48 (.inr (.inl rfl)) ?_
  have hw1 := within_one (lo := 0) (hi := ((parts N).length : Int) - 1) (x := part)
  simp only [c38r2, c38r4, benchC, bnV, intss, go_sem, Nat.reduceAdd, Nat.reduceLeDiff, Nat.reduceMul, true_implies]
  refine ⟨inR_i64 (by omega) (by omega), by decide, by decide, rfl, one_int, ?_⟩
  refine callK_of (by simp only [ints, List.map_cons, List.map_nil, go_sem]) (k57 (lo := 0) (hi := ((parts N).length : Int) - 1) (l := [part])) (.inl rfl) ?_
  by_cases h1 : 0 <= part /\ part < (parts N).length
  ·rw [decide_eq_true (by omega)] at hw1
   rw [if_pos h1]
   obtain ⟨m, rfl⟩ : ∃ m : Nat, part = m := ⟨part.toNat, by omega⟩
   rw [Int.toNat_natCast]
   have hml : m < (parts N).length := by omega
   obtain ⟨hpc, hpe⟩ := partC_pc hml
   obtain ⟨l, hl⟩ := rchC_head hpc
   rw [hl] at hpe
   have h69 := k69 h hpc
   simp only [hw1, c38r6, hpe, go_sem, Nat.reduceAdd, Nat.reduceLeDiff]
   intro _
   simp only [ints, List.map_cons, go_sem, Int.reduceToNat]
   refine callK_of (by simp only [ints, benchC, bnV, intss, go_sem]) h69 (.inl rfl) ?_
   simp only [go_sem, true_implies]
  ·rw [decide_eq_false (by omega)] at hw1
   rw [if_neg h1]
   simp only [hw1, c38r5, go_sem, true_implies]
 ·rw [if_neg h0] at h48
  rw [if_neg h0]
  refine callK_of rfl h48 (.inr (.inl rfl)) ?_
  simp only [h0, c38r2, c38r3, go_sem, true_implies]
theorem k37 {l : List Int} : E.Fn Try.prog 37 [ints l] [ints l] := by
 refine fn_of_row okf37 ?_
 simp only [FRow.start, f37, c37r0, c37r1, ints, go_sem, Nat.reduceSub, true_implies]
theorem k39 {l : List Int} : E.Fn Try.prog 39 [ints l] [ints l] := by
 refine fn_of_row okf39 ?_
 simp only [FRow.start, f39, c39r0, c39r1, ints, go_sem, Nat.reduceSub, true_implies]
theorem k28 {a b : Int} : E.Fn Try.prog 28 [.int .i64 a, .int .i64 b] [rat (a, b)] := by
 refine fn_of_row okf28 ?_
 simp only [FRow.start, f28, c28r0, c28r1, spl_two, frz_two', rat, go_sem, ↓reduceIte, Nat.reduceAdd, Nat.reduceSub, Nat.reduceLeDiff, true_implies]
theorem k43 {d g : Int} {hs : List Int} : E.Fn Try.prog 43 [.int .i64 d, .int .i64 g, ints hs] [prV d g hs] := by
 refine fn_of_row okf43 ?_
 simp only [FRow.start, f43, c43r0, c43r1, ints, splice, prV, go_sem, ↓reduceIte, Nat.reduceAdd, Nat.reduceSub, Nat.reduceLeDiff, true_implies]
theorem k33 {a b : Int × Int} (ha : Small a) (hb : Small b) : E.Fn Try.prog 33 [rat a, rat b] [.bool (lessQ a b)] := by
 refine fn_of_row okf33 ?_
 have h1 := small_mul ha.1 hb.2
 have h2 := small_mul hb.1 ha.2
 simp only [FRow.start, f33, c33r0, c33r1, rat, lessQ, go_sem, Nat.reduceAdd, Nat.reduceSub, Nat.reduceLeDiff, true_implies]
 exact ⟨h1, h2⟩
def smallB (q : Int × Int) : Bool := decide (1 <= q.2 /\ q.2 <= 32000 /\ 0 <= q.1 /\ q.1 <= 1000 * q.2) && decide (Nat.gcd q.1.toNat q.2.toNat = 1)
theorem smallB_iff {q : Int × Int} : smallB q = true ↔ (1 <= q.2 /\ q.2 <= 32000 /\ 0 <= q.1 /\ q.1 <= 1000 * q.2) /\ Nat.gcd q.1.toNat q.2.toNat = 1 := by
 unfold smallB; rw [Bool.and_eq_true, decide_eq_true_eq, decide_eq_true_eq]
theorem smallB_no {q : Int × Int} (h : ¬ (1 <= q.2 /\ q.2 <= 32000 /\ 0 <= q.1 /\ q.1 <= 1000 * q.2)) : smallB q = false := by
 unfold smallB; rw [decide_eq_false h]; rfl
theorem k30 {q : Int × Int} : E.Fn Try.prog 30 [rat q] [.bool (smallB q)] := by
 refine fn_of_row okf30 ?_
 obtain ⟨n, d⟩ := q
 simp only [FRow.start, f30, c30r0, c30r1, rat, go_sem, Nat.reduceAdd, Nat.reduceSub, Nat.reduceLeDiff, true_implies]
 refine ⟨fun h1 => ?_, fun h1 => ⟨fun h2 => ?_, fun h2 => ⟨fun h3 => ?_, fun h3 => ?_⟩⟩⟩
 ·rw [smallB_no (by simp only; omega)]
  simp only [c30r2, go_sem, true_implies]
 ·rw [smallB_no (by simp only; omega)]
  simp only [c30r2, go_sem, true_implies]
 ·rw [smallB_no (by simp only; omega)]
  simp only [c30r2, go_sem, true_implies]
 ·refine ⟨inR_small (by omega) (by omega), fun h4 => ?_, fun h4 => ?_⟩
  ·rw [smallB_no (by simp only; omega)]
   simp only [c30r2, go_sem, true_implies]
  ·obtain ⟨a, rfl⟩ : ∃ a : Nat, n = a := ⟨n.toNat, by omega⟩
   obtain ⟨b, rfl⟩ : ∃ b : Nat, d = b := ⟨d.toNat, by omega⟩
   have hk := k63 b a (by omega) (by omega)
   have hb : smallB ((a : Int), (b : Int)) = decide (((a.gcd b : Nat) : Int) = 1) := by
    rw [Bool.eq_iff_iff, smallB_iff, decide_eq_true_eq]
    simp only [Int.toNat_natCast]
    omega
   rw [hb]
   simp only [c30r3, go_sem, Nat.reduceAdd, Nat.reduceLeDiff]
   refine callK_of (by simp only [go_sem]) hk (.inl rfl) ?_
   simp only [go_sem, true_implies]
def payB (s : Int) (N : List (List Int)) (p : List Int) : List SV :=
 if setE s N p = 0 then [rat (paysQ s N p), .bool (smallB (paysQ s N p))] else [rat (0, 0), .bool false]
theorem k35 {s : Int} {N : List (List Int)} {p : List Int} : E.Fn Try.prog 35 [mc s N p] (payB s N p) := by
 refine fn_of_row okf35 ?_
 have h25 := k25 (s := s) (N := N) (p := p)
 unfold payB
 unfold paysR at h25
 simp only [FRow.start, f35, c35r0, c35r1, mc, SV.cells, go_sem, Nat.reduceAdd, Nat.reduceSub, true_implies]
 by_cases h0 : setE s N p = 0
 ·rw [if_pos h0] at h25 ⊢
  refine callK_of rfl h25 (.inl rfl) ?_
  simp only [rat, spl_two, c35r2, go_sem, Nat.reduceAdd, true_implies]
  refine callK_of (by simp only [rat, go_sem]) (k30 (q := paysQ s N p)) (.inl rfl) ?_
  simp only [spl_two, frz_two', go_sem, Nat.reduceAdd, true_implies]
 ·rw [if_neg h0] at h25 ⊢
  refine callK_of rfl h25 (.inl rfl) ?_
  simp only [rat, spl_two, c35r2, h0, frz_two', go_sem, Nat.reduceAdd, true_implies]
theorem k70 {s : Int} {N : List (List Int)} {p : List Int} (hp : 0 < p.length) (hN : ∀ l ∈ N, l.length = p.length) (hl : N.length <= 100) (hp2 : p.length <= 100) : E.Fn Try.prog 70 [.int .i64 s, ints p, ints N.flatten] [mc s N p] := by
 refine fn_of_row okf70 ?_
 have hfl : N.flatten.length = N.length * p.length := by
  clear hl
  induction N with
  | nil => simp
  | cons a N ih =>
   rw [List.flatten_cons, List.length_append, ih fun l h => hN l (List.mem_cons_of_mem _ h), hN a (by simp), List.length_cons, Nat.succ_mul, Nat.add_comm]
 have hdt : ∀ i l, N[i]? = some l -> (N.flatten.take (i * p.length + p.length)).drop (i * p.length) = l := by
  clear hfl hl
  induction N with
  | nil => intro i l h; cases h
  | cons a N ih =>
   intro i l h
   have ha := hN a (by simp)
   cases i with
   | zero =>
    simp only [List.getElem?_cons_zero, Option.some.injEq] at h
    subst h
    rw [Nat.zero_mul, Nat.zero_add, List.drop_zero, List.flatten_cons, <- ha, List.take_left]
   | succ i =>
    have := ih (fun l h => hN l (List.mem_cons_of_mem _ h)) i l (by simpa using h)
    rw [List.flatten_cons, show (i + 1) * p.length + p.length = a.length + (i * p.length + p.length) by rw [Nat.succ_mul]; omega, List.take_length_add_append, show (i + 1) * p.length = a.length + i * p.length by rw [Nat.succ_mul]; omega, List.drop_length_add_append]
    exact this
 have hpi : (0 : Int) < p.length := by omega
 have hnp : N.length * p.length <= 100 * 100 := Nat.mul_le_mul hl hp2
 simp only [FRow.start, f70, c70r0, c70r1, c70r2, ints, splice, go_sem, ↓reduceIte, Nat.reduceAdd, Nat.reduceSub, Nat.reduceLeDiff, true_implies]
 refine loop_rule (fun n τ => ∃ i : Nat, n = N.length - i /\ i <= N.length /\
  τ = ⟨(aN::(.s (ints p))::(.s (ints N.flatten))::aN::aN::aN::(.loc 0 0)::(.loc 1 0)::(aI ((i * p.length : Nat) : Int))::aZ32), [.obj [aI 0, .full [], .full []], .obj [aI s, .sl 2 0 i 1 false, .s (ints p)], .row ((N.take i).map ints)]⟩) N.length (promo_cell2 rfl rfl rfl) ?_ ?_
 ·simp only [c70l6m, go_sem, ↓reduceIte, reduceCtorEq, Nat.reduceAdd, Nat.reduceLeDiff]
  exact ⟨0, rfl, Nat.zero_le _, by rw [Nat.zero_mul]; rfl⟩
 ·rintro I n τ ⟨i, rfl, hi, rfl⟩ hI
  have hip : i * p.length <= N.length * p.length := Nat.mul_le_mul_right _ hi
  have hsucc : (i + 1) * p.length = i * p.length + p.length := Nat.succ_mul _ _
  simp only [c70l6, c70r3, ints, go_sem, ↓reduceIte, Nat.reduceAdd]
  refine ⟨inR_small (by omega) (by omega), fun hle _ => ⟨fun _ => ?_, fun h => absurd hpi h⟩, fun hgt => ?_⟩
  ·have hlt : i < N.length := Nat.lt_of_mul_lt_mul_right (a := p.length) (by omega)
   have hx : N[i]? = some N[i] := List.getElem?_eq_getElem hlt
   have hd := hdt i _ hx
   have hts : N.take (i + 1) = N.take i ++ [N[i]] := by rw [List.take_succ, hx]; rfl
   generalize N[i] = l at hx hd hts
   have e1 : ((i * p.length : Nat) : Int) + (p.length : Nat) = ((i * p.length + p.length : Nat) : Int) := rfl
   simp only [c70r4, splice, e1, Nat.reduceBEq, Bool.false_eq_true, go_sem, ↓reduceIte, Nat.reduceAdd, Nat.reduceLeDiff, Nat.reduceMul]
   refine ⟨inR_small (by omega) (by omega), ?_⟩
   have hd2 : ((N.flatten.map (SV.int .i64)).drop (i * p.length)).take (i * p.length + p.length - i * p.length) = l.map (.int .i64) := by
    rw [<- hd, List.drop_take, List.map_take, List.map_drop]
   rw [hd2]
   have e3 : (N.take i).map ints ++ flatE [SV.slice (l.map (.int .i64))] = (N.take (i + 1)).map ints := by
    rw [hts, List.map_append]; rfl
   refine ⟨by omega, by omega, ?_, by decide, by decide, rfl, one_s rfl, one_s rfl, by rw [List.length_take]; omega, by omega, by omega, fun _ => ?_⟩
   ·exact .inr fun e he => by obtain ⟨x, _, rfl⟩ := List.mem_map.1 he; rfl
   rw [e3]
   simp only [c70r5, c70l6m, go_sem, ↓reduceIte, reduceCtorEq, Nat.reduceLeDiff]
   refine ⟨inR_small (by omega) (by omega), fun _ => hI (N.length - (i + 1)) _ (by omega) ⟨i + 1, rfl, by omega, by rw [hsucc]; rfl⟩⟩
  ·have hie : i = N.length := by
    rcases Nat.lt_or_ge i N.length with h | h
    ·have := Nat.mul_le_mul_right p.length (show i + 1 <= N.length from h)
     omega
    ·omega
   subst hie
   rw [List.take_length]
   simp only [c70r7, splice, slice_intss, mc, go_sem, Nat.reduceAdd, true_implies]
   exact fun _ => rfl
def mW : SV := mc 4 [[3, 1], [2, 2]] [0, 6]
def mX : SV := mc 2 [[0, 1, 1], [0, 2, 0], [0, 0, 2]] [1, 0, 4]
def mY : SV := mc 1 [[0, 1], [1, 0]] [1, 3]
def mR : SV := mc 4 [[2, 1], [1, 1]] [0, 6]
theorem ints_one {xs : List Int} : ∀ x ∈ xs.map (SV.int .i64), x.cells.length = 1 := by
 intro x hx
 obtain ⟨y, _, rfl⟩ := List.mem_map.1 hx
 rfl
theorem k40 : E.Fn Try.prog 40 [] [mW] := by
 refine fn_of_row okf40 ?_
 simp only [FRow.start, f40, c40r0, c40r1, go_sem, Nat.reduceSub, Nat.reduceMul, true_implies]
 refine ⟨by decide, by decide, rfl, ints_one (xs := [0, 6]), ?_⟩
 refine callK_of rfl (k37 (l := [0, 6])) (.inr (.inl rfl)) ?_
 simp only [ints, go_sem, Nat.reduceMul]
 refine ⟨by decide, by decide, rfl, ints_one (xs := [3, 1, 2, 2]), ?_⟩
 refine callK_of rfl (k70 (s := 4) (N := [[3, 1], [2, 2]]) (p := [0, 6]) (by decide) (by decide) (by decide) (by decide)) (.inr (.inl rfl)) ?_
 simp only [mW, mc, intss, ints, SV.cells, splice, go_sem, Nat.reduceAdd, true_implies]
theorem k41 : E.Fn Try.prog 41 [] [mX] := by
 refine fn_of_row okf41 ?_
 simp only [FRow.start, f41, c41r0, c41r1, go_sem, Nat.reduceSub, Nat.reduceMul, true_implies]
 refine ⟨by decide, by decide, rfl, ints_one (xs := [1, 0, 4]), ?_⟩
 refine callK_of rfl (k37 (l := [1, 0, 4])) (.inr (.inl rfl)) ?_
 simp only [ints, go_sem, Nat.reduceMul]
 refine ⟨by decide, by decide, rfl, ints_one (xs := [0, 1, 1, 0, 2, 0, 0, 0, 2]), ?_⟩
 refine callK_of rfl (k70 (s := 2) (N := [[0, 1, 1], [0, 2, 0], [0, 0, 2]]) (p := [1, 0, 4]) (by decide) (by decide) (by decide) (by decide)) (.inr (.inl rfl)) ?_
 simp only [mX, mc, intss, ints, SV.cells, splice, go_sem, Nat.reduceAdd, true_implies]
theorem k42 : E.Fn Try.prog 42 [] [mY] := by
 refine fn_of_row okf42 ?_
 simp only [FRow.start, f42, c42r0, c42r1, go_sem, Nat.reduceSub, Nat.reduceMul, true_implies]
 refine ⟨by decide, by decide, rfl, ints_one (xs := [1, 3]), ?_⟩
 refine callK_of rfl (k37 (l := [1, 3])) (.inr (.inl rfl)) ?_
 simp only [ints, go_sem, Nat.reduceMul]
 refine ⟨by decide, by decide, rfl, ints_one (xs := [0, 1, 1, 0]), ?_⟩
 refine callK_of rfl (k70 (s := 1) (N := [[0, 1], [1, 0]]) (p := [1, 3]) (by decide) (by decide) (by decide) (by decide)) (.inr (.inl rfl)) ?_
 simp only [mY, mc, intss, ints, SV.cells, splice, go_sem, Nat.reduceAdd, true_implies]
theorem k45 : E.Fn Try.prog 45 [] [mR] := by
 refine fn_of_row okf45 ?_
 simp only [FRow.start, f45, c45r0, c45r1, go_sem, Nat.reduceSub, Nat.reduceMul, true_implies]
 refine ⟨by decide, by decide, rfl, ints_one (xs := [0, 6]), ?_⟩
 refine callK_of rfl (k37 (l := [0, 6])) (.inr (.inl rfl)) ?_
 simp only [ints, go_sem, Nat.reduceMul]
 refine ⟨by decide, by decide, rfl, ints_one (xs := [2, 1, 1, 1]), ?_⟩
 refine callK_of rfl (k70 (s := 4) (N := [[2, 1], [1, 1]]) (p := [0, 6]) (by decide) (by decide) (by decide) (by decide)) (.inr (.inl rfl)) ?_
 simp only [mR, mc, intss, ints, SV.cells, splice, go_sem, Nat.reduceAdd, true_implies]
def nW : List (List Int) := [[3, 1], [2, 2]]
def nX : List (List Int) := [[0, 1, 1], [0, 2, 0], [0, 0, 2]]
def nY : List (List Int) := [[0, 1], [1, 0]]
def nR : List (List Int) := [[2, 1], [1, 1]]
theorem qW0 : chkM 4 nW [0, 6] = 0 := by decide +kernel
theorem qX0 : chkM 2 nX [1, 0, 4] = 0 := by decide +kernel
theorem qY0 : chkM 1 nY [1, 3] = 0 := by decide +kernel
theorem qR0 : chkR 4 nR [0, 6] = 0 := by decide +kernel
theorem qR1 : chkM 4 nR [0, 6] = 14 := by decide +kernel
theorem qX1 : parts nX = [[1], [2]] := by decide +kernel
theorem qY1 : parts nY = [[0, 1]] := by decide +kernel
theorem qW2 : setE 4 nW [0, 6] = 0 := by decide +kernel
theorem qX2 : setE 2 nX [1, 0, 4] = 17 := by decide +kernel
theorem qX3 : landsQ 2 nX 0 [1] = (1, 2) := by decide +kernel
theorem qW4 : sharesQ 4 nW = [(2, 3), (1, 3)] := by decide +kernel
theorem qW5 : paysQ 4 nW [0, 6] = (2, 1) := by decide +kernel
theorem qW6 : ckP 4 nW [0, 6] 1 2 [0, 8] = (3, 0) := by decide +kernel
theorem qW7 : ckP 4 nW [0, 6] 1 3 [0, 8] = (1, 0) := by decide +kernel
theorem qW8 : ckP 4 nW [0, 6] 1 2 [0, 0] = (0, 14) := by decide +kernel
theorem qW9 : ckP 4 nW [0, 6] (prfD 4 nW (fst0 nW)) (prfG 4 nW [0, 6] (fst0 nW)) (prfH 4 nW [0, 6] (fst0 nW)) = (3, 0) := by decide +kernel
theorem qW10 : lst (fT 4 nW [0, 6] 0 3) (4 ^ 2) = (27, 8) := by decide +kernel
theorem qR11 : bestQ lessQ (payL 4 nR [0, 6]) = (3, 2) := by decide +kernel
theorem qR12 : bestQ moreQ (payL 4 nR [0, 6]) = (4, 1) := by decide +kernel
theorem w0 : E.Fn Try.prog 19 [mW] [.int .i64 0] := by
 have h := k19 (s := 4) (N := nW) (p := [0, 6])
 rw [qW2] at h
 exact h
theorem w1 : E.Fn Try.prog 19 [mX] [.int .i64 17] := by
 have h := k19 (s := 2) (N := nX) (p := [1, 0, 4])
 rw [qX2] at h
 exact h
theorem w2 : E.Fn Try.prog 12 [mX] [intss [[1], [2]], .int .i64 0] := by
 have h := k12 (s := 2) (N := nX) (p := [1, 0, 4])
 unfold partsR at h
 rw [if_pos qX0, qX1] at h
 exact h
theorem w3 : E.Fn Try.prog 29 [mX, .int .i64 0, .int .i64 0] [rat (1, 2), .int .i64 0] := by
 have h := k29 (s := 2) (N := nX) (p := [1, 0, 4]) (state := 0) (part := 0)
 unfold landsR at h
 rw [if_pos qX0, qX1, if_pos (by decide)] at h
 rw [show landsQ 2 nX 0 ((([[1], [2]] : List (List Int))[(0 : Int).toNat]?).getD []) = (1, 2) from qX3] at h
 exact h
theorem w4 : E.Fn Try.prog 29 [mX, .int .i64 0, .int .i64 2] [rat (0, 0), .int .i64 2] := by
 have h := k29 (s := 2) (N := nX) (p := [1, 0, 4]) (state := 0) (part := 2)
 unfold landsR at h
 rw [if_pos qX0, qX1, if_neg (by decide)] at h
 exact h
theorem w5 : E.Fn Try.prog 38 [mY, .int .i64 0] [.int .i64 2, .int .i64 0] := by
 have h := k38 (s := 1) (N := nY) (p := [1, 3]) (part := 0)
 unfold perR at h
 rw [if_pos qY0, qY1, if_pos (by decide)] at h
 rw [show perN (gr nY) nY.length (partC nY (0 : Int).toNat) = 2 from by decide +kernel] at h
 exact h
theorem w6 : E.Fn Try.prog 46 [mW] [rats [(2, 3), (1, 3)], .int .i64 0] := by
 have h := k46 (s := 4) (N := nW) (p := [0, 6])
 unfold sharesR at h
 rw [if_pos qW2, qW4] at h
 exact h
theorem w7 : E.Fn Try.prog 25 [mW] [rat (2, 1), .int .i64 0] := by
 have h := k25 (s := 4) (N := nW) (p := [0, 6])
 unfold paysR at h
 rw [if_pos qW2, qW5] at h
 exact h
theorem w8 : E.Fn Try.prog 25 [mX] [rat (0, 0), .int .i64 17] := by
 have h := k25 (s := 2) (N := nX) (p := [1, 0, 4])
 unfold paysR at h
 rw [qX2, if_neg (by decide)] at h
 exact h
theorem w9 : E.Fn Try.prog 21 [mW, prV 1 2 [0, 8]] [.int .i64 3, .int .i64 0] := by
 have h := k21 (s := 4) (N := nW) (p := [0, 6]) (d := 1) (g := 2) (hs := [0, 8])
 rw [qW6] at h
 exact h
theorem w10 : E.Fn Try.prog 21 [mW, prV 1 3 [0, 8]] [.int .i64 1, .int .i64 0] := by
 have h := k21 (s := 4) (N := nW) (p := [0, 6]) (d := 1) (g := 3) (hs := [0, 8])
 rw [qW7] at h
 exact h
theorem w11 : E.Fn Try.prog 21 [mW, prV 1 2 [0, 0]] [.int .i64 0, .int .i64 14] := by
 have h := k21 (s := 4) (N := nW) (p := [0, 6]) (d := 1) (g := 2) (hs := [0, 0])
 rw [qW8] at h
 exact h
theorem w12 : E.Fn Try.prog 23 [mW] [prV (prfD 4 nW (fst0 nW)) (prfG 4 nW [0, 6] (fst0 nW)) (prfH 4 nW [0, 6] (fst0 nW)), .int .i64 0] := by
 have h := k23 (s := 4) (N := nW) (p := [0, 6])
 unfold proofR at h
 rw [if_pos qW2] at h
 exact h
theorem w13 : E.Fn Try.prog 44 [mW, .int .i64 0, .int .i64 3] [rat (27, 8), .int .i64 0] := by
 have h := k44 (s := 4) (N := nW) (p := [0, 6]) (state := 0) (plays := 3)
 unfold firstR at h
 rw [if_pos qW0, if_pos (by decide), show lst (fT 4 nW [0, 6] (0 : Int).toNat (3 : Int).toNat) (4 ^ ((3 : Int).toNat - 1)) = (27, 8) from qW10] at h
 exact h
theorem w14 : E.Fn Try.prog 44 [mW, .int .i64 0, .int .i64 11] [rat (0, 0), .int .i64 2] := by
 have h := k44 (s := 4) (N := nW) (p := [0, 6]) (state := 0) (plays := 11)
 unfold firstR at h
 rw [if_pos qW0, if_neg (by decide)] at h
 exact h
theorem w15 : E.Fn Try.prog 16 [mR] [.int .i64 0] := by
 have h := k16 (s := 4) (N := nR) (p := [0, 6])
 rw [qR0] at h
 exact h
theorem w16 : E.Fn Try.prog 14 [mR] [.int .i64 14] := by
 have h := k14 (s := 4) (N := nR) (p := [0, 6])
 rw [qR1] at h
 exact h
theorem w17 : E.Fn Try.prog 32 [mR] [rat (3, 2), rat (4, 1), .int .i64 0] := by
 have h := k32 (s := 4) (N := nR) (p := [0, 6])
 unfold betR at h
 rw [if_pos qR0, qR11, qR12] at h
 exact h
theorem w18 : E.Fn Try.prog 22 [mW, prV (prfD 4 nW (fst0 nW)) (prfG 4 nW [0, 6] (fst0 nW)) (prfH 4 nW [0, 6] (fst0 nW))] [.int .i64 3, .int .i64 0] := by
 have h := k22 (s := 4) (N := nW) (p := [0, 6]) (d := prfD 4 nW (fst0 nW)) (g := prfG 4 nW [0, 6] (fst0 nW)) (hs := prfH 4 nW [0, 6] (fst0 nW))
 rw [qW9] at h
 exact h
theorem w19 : E.Fn Try.prog 18 [intss [[1], [2]], intss [[1], [2]]] [.bool true] := k18 (xs := [[1], [2]]) (ys := [[1], [2]])
theorem w20 : E.Fn Try.prog 47 [rats [(2, 3), (1, 3)], rats [(2, 3), (1, 3)]] [.bool true] := k47 (xs := [(2, 3), (1, 3)]) (ys := [(2, 3), (1, 3)])
set_option maxHeartbeats 4000000 in
theorem works_ok : E.Fn Try.prog 11 [] [.bool true] := by
 refine fn_of_row okf11 ?_
 have e43 : ∀ {a b : Int} {l : List Int}, E.Fn Try.prog 43 [.int .i64 a, .int .i64 b, ints l] [prV a b l] := k43
 simp only [FRow.start, f11, c11r0, c11r1, go_sem, Nat.reduceSub, true_implies]
 refine callK_of rfl k40 (.inr (.inl rfl)) ?_
 simp only [go_sem]
 refine callK_of rfl k41 (.inr (.inl rfl)) ?_
 simp only [go_sem]
 refine callK_of rfl k42 (.inr (.inl rfl)) ?_
 simp only [go_sem]
 refine callK_of rfl k45 (.inr (.inl rfl)) ?_
 simp only [mW, mX, mY, mR, mc, SV.cells, splice, go_sem, Nat.reduceAdd, true_implies]
 simp only [c11r2, go_sem, Nat.reduceAdd]
 refine callK_of rfl w0 (.inl rfl) ?_
 simp only [go_sem, Nat.reduceAdd]
 refine callK_of rfl w1 (.inl rfl) ?_
 simp only [c11r3, go_sem, Nat.reduceAdd, true_implies]
 refine callK_of rfl w2 (.inr (.inl rfl)) ?_
 simp only [c11r4, go_sem, Nat.reduceAdd, true_implies]
 refine callK_of rfl w3 (.inl rfl) ?_
 simp only [rat, splice, go_sem, Nat.reduceAdd, true_implies]
 simp only [c11r5, go_sem, Nat.reduceAdd]
 refine callK_of rfl w4 (.inl rfl) ?_
 simp only [rat, splice, go_sem, Nat.reduceAdd, true_implies]
 simp only [c11r6, go_sem, Nat.reduceAdd]
 refine callK_of rfl w5 (.inl rfl) ?_
 simp only [c11r7, go_sem, Nat.reduceAdd, true_implies]
 refine callK_of rfl w6 (.inr (.inl rfl)) ?_
 simp only [c11r8, go_sem, Nat.reduceAdd, true_implies]
 refine callK_of rfl w7 (.inl rfl) ?_
 simp only [rat, splice, c11r9, go_sem, Nat.reduceAdd, true_implies]
 refine callK_of rfl w8 (.inl rfl) ?_
 simp only [rat, splice, c11r10, go_sem, Nat.reduceAdd, Nat.reduceMul, true_implies]
 refine ⟨by decide, by decide, rfl, ints_one (xs := [0, 8]), ?_⟩
 refine callK_of rfl (e43 (a := 1) (b := 2) (l := [0, 8])) (.inr (.inl rfl)) ?_
 simp only [go_sem]
 refine callK_of rfl w9 (.inl rfl) ?_
 simp only [c11r11, go_sem, Nat.reduceAdd, Nat.reduceMul, true_implies]
 refine ⟨by decide, by decide, rfl, ints_one (xs := [0, 8]), ?_⟩
 refine callK_of rfl (e43 (a := 1) (b := 3) (l := [0, 8])) (.inr (.inl rfl)) ?_
 simp only [go_sem]
 refine callK_of rfl w10 (.inl rfl) ?_
 simp only [c11r12, go_sem, Nat.reduceAdd, Nat.reduceMul, true_implies]
 refine ⟨by decide, by decide, rfl, ints_one (xs := [0, 0]), ?_⟩
 refine callK_of rfl (e43 (a := 1) (b := 2) (l := [0, 0])) (.inr (.inl rfl)) ?_
 simp only [go_sem]
 refine callK_of rfl w11 (.inl rfl) ?_
 simp only [c11r13, go_sem, Nat.reduceAdd, true_implies]
 refine callK_of rfl w12 (.inr (.inl rfl)) ?_
 simp only [prV, SV.cells, splice, c11r14, go_sem, Nat.reduceAdd, true_implies]
 refine callK_of rfl w13 (.inl rfl) ?_
 simp only [rat, splice, c11r15, go_sem, Nat.reduceAdd, true_implies]
 refine callK_of rfl w14 (.inl rfl) ?_
 simp only [rat, splice, c11r16, go_sem, Nat.reduceAdd, true_implies]
 refine callK_of rfl w15 (.inl rfl) ?_
 simp only [go_sem, Nat.reduceAdd]
 refine callK_of rfl w16 (.inl rfl) ?_
 simp only [c11r17, go_sem, Nat.reduceAdd, true_implies]
 refine callK_of rfl w17 (.inl rfl) ?_
 simp only [rat, splice, c11r18, c11r20, go_sem, Nat.reduceAdd, true_implies]
 refine callK_of rfl w18 (.inl rfl) ?_
 simp only [c11r21, go_sem, Nat.reduceAdd, Nat.reduceMul, true_implies]
 refine ⟨by decide, by decide, rfl, ints_one (xs := [1]), ?_⟩
 refine callK_of rfl (k39 (l := [1])) (.inr (.inl rfl)) ?_
 simp only [go_sem, Nat.reduceMul]
 refine ⟨by decide, by decide, rfl, ints_one (xs := [2]), ?_⟩
 refine callK_of rfl (k39 (l := [2])) (.inr (.inl rfl)) ?_
 simp only [go_sem, Nat.reduceMul]
 refine ⟨by decide, by decide, rfl, by intro e he; simp only [List.mem_cons, List.not_mem_nil, or_false] at he; rcases he with rfl | rfl <;> rfl, ?_⟩
 refine callK_of rfl w19 (.inl rfl) ?_
 simp only [go_sem, Nat.reduceAdd]
 refine callK_of rfl (k28 (a := 1) (b := 2)) (.inl rfl) ?_
 simp only [rat, go_sem]
 refine callK_of rfl (k28 (a := 2) (b := 3)) (.inl rfl) ?_
 simp only [rat, go_sem]
 refine callK_of rfl (k28 (a := 1) (b := 3)) (.inl rfl) ?_
 simp only [rat, go_sem, Nat.reduceAdd, Nat.reduceMul]
 refine ⟨by decide, by decide, rfl, by intro e he; simp only [List.mem_cons, List.not_mem_nil, or_false] at he; rcases he with rfl | rfl <;> rfl, ?_⟩
 refine callK_of rfl w20 (.inl rfl) ?_
 simp only [go_sem, Nat.reduceAdd]
 refine callK_of rfl (k28 (a := 2) (b := 1)) (.inl rfl) ?_
 simp only [rat, go_sem, Nat.reduceAdd]
 refine callK_of rfl (k28 (a := 27) (b := 8)) (.inl rfl) ?_
 simp only [rat, go_sem, Nat.reduceAdd]
 refine callK_of rfl (k28 (a := 3) (b := 2)) (.inl rfl) ?_
 simp only [rat, go_sem, Nat.reduceAdd]
 refine callK_of rfl (k28 (a := 4) (b := 1)) (.inl rfl) ?_
 simp only [rat, go_sem, true_implies]
 done
theorem wk {H : List ABlock} {k : AK} (hk : k (LV.ofResults [.bool true]) H none True) : callK Try.prog H 11 [] k := callK_of rfl works_ok (.inl rfl) hk
end Go.Proofs.Ytikfhfgdmlijeaa.Sk
namespace Go.Proofs.Ytikfhfgdmlijeaa.Sk
open Go Go.E Go.Deep
def memOf (w : World) : Mem := ⟨fun b o => w.cell? ⟨b, o, Option.none⟩, fun _ => Option.none⟩
theorem memOf_holds (w : World) : E.Holds (memOf w) w := ⟨fun _ _ _ h => h, fun _ _ h => (by cases h)⟩
theorem mapM_get {α β : Type} {f : α -> Option β} : ∀ (l : List α) (ys : List β), l.mapM f = some ys -> ys.length = l.length /\ ∀ (i : Nat) x, l[i]? = some x -> ∃ y, f x = some y /\ ys[i]? = some y
 | [], ys, h => by
  simp only [List.mapM_nil, Option.pure_def, Option.some.injEq] at h
  subst h
  simp
 | x :: l, ys, h => by
  simp only [List.mapM_cons, Option.pure_def, Option.bind_eq_bind, Option.bind_eq_some_iff, Option.some.injEq] at h
  obtain ⟨y, h1, zs, h2, rfl⟩ := h
  have ih := mapM_get l zs h2
  refine ⟨by simp [ih.1], fun i x' hx => ?_⟩
  cases i with
  | zero => simp only [List.getElem?_cons_zero, Option.some.injEq] at hx; subst hx; exact ⟨y, h1, rfl⟩
  | succ i => simp only [List.getElem?_cons_succ] at hx ⊢; exact ih.2 i x' hx
theorem cells_at {w : World} {base n : Nat} {a : Addr} {us : List Value} (h : w.cells? base a n = some us) : us.length = n /\ (memOf w).At a.block a.off us /\ (0 < n -> a.spot = Option.none) := by
 unfold World.cells? at h
 split at h
 ·obtain ⟨h1, h2⟩ := mapM_get _ _ h
  simp only [List.length_range] at h1
  have h3 : ∀ i, i < n -> w.cell? (a.add i) = us[i]? := fun i hi => by
   obtain ⟨y, h4, h5⟩ := h2 i i (by rw [List.getElem?_range hi])
   rw [h4, h5]
  have hsp : 0 < n -> a.spot = Option.none := fun h0 => by
   have h4 := h3 0 h0
   rw [List.getElem?_eq_getElem (by omega)] at h4
   unfold World.cell? at h4
   simp only [Addr.add, if_true] at h4
   split at h4
   ·split at h4
    ·cases h4
    ·rename_i hn; simpa using hn
   ·cases h4
  refine ⟨h1, fun j v hv => ?_, hsp⟩
  have hj : j < n := by have := (List.getElem?_eq_some_iff.1 hv).1; omega
  have h4 := h3 j hj
  rw [hv] at h4
  simp only [memOf]
  have h5 := hsp (by omega)
  unfold Addr.add at h4
  split at h4
  ·rename_i h6; subst h6
   rw [Nat.add_zero, <- h4]
   congr 1
   cases a
   simp_all
  ·exact h4
 ·cases h
theorem at_append {M : Mem} {b o : Nat} {us vs : List Value} (h : M.At b o us) (k : M.At b (o + us.length) vs) : M.At b o (us ++ vs) := fun j v hv => by
 rw [List.getElem?_append] at hv
 split at hv
 ·exact h j v hv
 ·have := k _ v hv
  rw [show o + us.length + (j - us.length) = o + j by omega] at this
  exact this
theorem rows_rel {α : Type} {M : Mem} {e : α -> SV} {G : α -> Prop} {b sz : Nat} : ∀ (n o : Nat), (∀ i, i < n -> ∃ a us, us.length = sz /\ M.At b (o + i * sz) us /\ CRel M (e a) us /\ G a) ->
  ∃ (vs : List α) (uss : List (List Value)), vs.length = n /\ CRelC M (vs.map e) uss /\ (∀ u ∈ uss, u.length = sz) /\ M.At b o uss.flatten /\ ∀ a ∈ vs, G a
 | 0, o, _ => ⟨[], [], rfl, rfl, by simp, fun j v hv => (by simp at hv), by simp⟩
 | n + 1, o, h => by
  obtain ⟨a, us, h1, h2, h3, h4⟩ := h 0 (by omega)
  obtain ⟨vs, uss, k1, k2, k3, k4, k5⟩ := rows_rel n (o + sz) fun i hi => by
   obtain ⟨a, us, h1, h2, h3, h4⟩ := h (i + 1) (by omega)
   exact ⟨a, us, h1, by rw [Nat.succ_mul] at h2; rw [show o + sz + i * sz = o + (i * sz + sz) by omega]; exact h2, h3, h4⟩
  refine ⟨a :: vs, us :: uss, by simp [k1], ⟨us, uss, rfl, h3, k2⟩, ?_, ?_, ?_⟩
  ·intro u hu
   rcases List.mem_cons.1 hu with rfl | hu
   ·exact h1
   ·exact k3 u hu
  ·rw [List.flatten_cons]
   exact at_append (by simpa using h2) (by rw [h1]; exact k4)
  ·intro x hx
   rcases List.mem_cons.1 hx with rfl | hx
   ·exact h4
   ·exact k5 x hx
section
variable {H : Type} {enc : TypeId × Value -> H} {P : Program} {w : World} {base : Nat} {sp : Nat -> Bool} {held : Bool} {fuel : Nat} {t et : TypeId} {cs : List Value} {x : DataW H × List MemPlace}
theorem trodAll_lt : ∀ {ts : List TypeId} {vs : List Value} {ds : List (DataW H)} {ps : List MemPlace}, DataW.TrodAll enc P w base sp held ts vs ds ps -> ∀ p ∈ ps, p.block < w.heap.size
 | [], _, _, _, h => by
  obtain ⟨rfl, rfl, rfl⟩ := ChangeShapes.trodAll_nil h
  simp
 | t :: ts, _, _, _, h => by
  obtain ⟨v, vs, d, ds, p, q, rfl, rfl, rfl, ⟨fuel, h1⟩, h2⟩ := ChangeShapes.trodAll_cons h
  intro y hy
  rcases List.mem_append.1 hy with hy | hy
  ·exact DataW.trod_lt _ _ _ _ h1 y hy
  ·exact trodAll_lt h2 y hy
theorem rel_int {k : IntKind} (ht : P.underlying t = some (.int k)) (h : DataW.trod enc P w base sp held fuel t cs = some x) : ∃ n : Int, CRel (memOf w) (.int k n) cs /\ (Lit.int k n).wf = true := by
 obtain ⟨n, rfl, _, hw⟩ := DataW.trod_int ht h
 exact ⟨n, rfl, hw⟩
theorem add_block (a : Addr) (n : Nat) : (a.add n).block = a.block /\ (a.add n).off = a.off + n := by
 unfold Addr.add
 split
 ·rename_i h; subst h; exact ⟨rfl, rfl⟩
 ·exact ⟨rfl, rfl⟩
theorem rel_slice {α : Type} {e : α -> SV} {G : α -> Prop} (ht : P.underlying t = some (.slice et)) (hz : 0 < P.cellsOf et)
  (hel : ∀ (n : Nat) (us : List Value) (y : DataW H × List MemPlace), us.length = P.cellsOf et -> DataW.trod enc P w base sp held n et us = some y -> ∃ a, CRel (memOf w) (e a) us /\ G a)
  (h : DataW.trod enc P w base sp held fuel t cs = some x) : ∃ l : List α, CRel (memOf w) (.slice (l.map e)) cs /\ ∀ a ∈ l, G a := by
 rcases DataW.trod_slice ht h with ⟨rfl, _⟩ | ⟨a, len, cap, elems, rest, n, _, rfl, _, _, hl, hc, hlen, hE, _⟩
 ·exact ⟨[], by simp only [CRel]; exact ⟨Option.none, 0, 0, rfl, rfl, Nat.le_refl _, Nat.zero_le _, .inl rfl⟩, by simp⟩
 ·by_cases h0 : len = 0
  ·subst h0
   exact ⟨[], by simp only [CRel]; exact ⟨_, 0, cap, rfl, rfl, hl, hc, .inl rfl⟩, by simp⟩
  ·have hrow : ∀ i, i < len -> ∃ us y, w.cells? base (a.add (i * P.cellsOf et)) (P.cellsOf et) = some us /\ DataW.trod enc P w base sp held n et us = some y := fun i hi => by
    have h1 := hE i hi
    rw [List.getElem?_eq_getElem (by omega)] at h1
    simp only [Option.bind_eq_some_iff] at h1
    obtain ⟨us, h2, h3⟩ := h1
    exact ⟨us, _, h2, h3⟩
   have hsp : a.spot = Option.none := by
    obtain ⟨us, y, h1, _⟩ := hrow 0 (by omega)
    have := (cells_at h1).2.2 hz
    simpa [Addr.add] using this
   obtain ⟨vs, uss, k1, k2, k3, k4, k5⟩ := rows_rel (M := memOf w) (e := e) (G := G) (b := a.block) (sz := P.cellsOf et) len a.off fun i hi => by
    obtain ⟨us, y, h1, h2⟩ := hrow i hi
    obtain ⟨h3, h4, _⟩ := cells_at h1
    obtain ⟨v, h5, h6⟩ := hel n us y h3 h2
    rw [(add_block a _).1, (add_block a _).2] at h4
    exact ⟨v, us, h3, h4, h5, h6⟩
   refine ⟨vs, ?_, k5⟩
   simp only [CRel]
   exact ⟨_, len, cap, rfl, by simp [k1], hl, hc, .inr ⟨a.block, a.off, P.cellsOf et, uss, by cases a; simp_all, k2, k3, k4⟩⟩
theorem vrel_agg {M : Mem} {v : SV} {c : Array Value} (h : CRel M v c.toList) (hv : v.isAgg = true) : VRel M v (.agg c) := ⟨c.toList, h, by simp [SV.mk, hv]⟩
end
section
variable {H : Type} {enc : TypeId × Value -> H} {w : World} {sp : Nat -> Bool} {held : Bool} {fuel : Nat} {cs : List Value} {x : DataW H × List MemPlace}
theorem rel_u8 {n : Int} (h : DataW.trod enc Try.prog w 0 sp held fuel 5 [.int .u8 n] = some x) : 0 <= n /\ n < 256 := by
 obtain ⟨m, hc, hw⟩ := rel_int Try.underlying5 h
 simp only [CRel, List.cons.injEq, Value.int.injEq, true_and, and_true] at hc
 subst hc
 simp only [Lit.wf, Bool.and_eq_true, decide_eq_true_eq] at hw
 exact ⟨hw.1, by have := hw.2; simp [IntKind.max, IntKind.signed, IntKind.bits] at this; omega⟩
theorem rel_ints (h : DataW.trod enc Try.prog w 0 sp held fuel 23 cs = some x) : ∃ l : List Int, CRel (memOf w) (ints l) cs := by
 obtain ⟨l, h1, _⟩ := rel_slice (e := .int .i64) (G := fun _ => True) Try.underlying23 (by rw [show Try.prog.cellsOf _ = 1 from by kernel_rfl]; exact Nat.one_pos) (fun n us y _ hy => by obtain ⟨m, hm, _⟩ := rel_int Try.underlying2 hy; exact ⟨m, hm, trivial⟩) h
 exact ⟨l, h1⟩
theorem rel_intss (h : DataW.trod enc Try.prog w 0 sp held fuel 22 cs = some x) : ∃ l : List (List Int), CRel (memOf w) (intss l) cs := by
 obtain ⟨l, h1, _⟩ := rel_slice (e := ints) (G := fun _ => True) Try.underlying22 (by rw [show Try.prog.cellsOf _ = 1 from by kernel_rfl]; exact Nat.one_pos) (fun n us y _ hy => by obtain ⟨m, hm⟩ := rel_ints hy; exact ⟨m, hm, trivial⟩) h
 exact ⟨l, h1⟩
theorem rel_u8s (h : DataW.trod enc Try.prog w 0 sp held fuel 53 cs = some x) : ∃ l : List Int, CRel (memOf w) (.slice (l.map (.int .u8))) cs /\ ∀ n ∈ l, 0 <= n /\ n < 256 :=
 rel_slice (e := .int .u8) (G := fun n => 0 <= n /\ n < 256) Try.underlying53 (by rw [show Try.prog.cellsOf _ = 1 from by kernel_rfl]; exact Nat.one_pos) (fun n us y _ hy => by
  obtain ⟨m, hc, hw⟩ := rel_int Try.underlying5 hy
  refine ⟨m, hc, ?_⟩
  simp only [Lit.wf, Bool.and_eq_true, decide_eq_true_eq] at hw
  exact ⟨hw.1, by have := hw.2; simp [IntKind.max, IntKind.signed, IntKind.bits] at this; omega⟩) h
set_option maxRecDepth 100000 in
theorem rel_mach (h : DataW.trod enc Try.prog w 0 sp held fuel 25 cs = some x) : ∃ s N p, CRel (memOf w) (mc s N p) cs := by
 obtain ⟨y0, y1, y2, m, _, hl, h0, h1, h2⟩ := trod_struct3 Try.underlying25 h
 have hc : Try.prog.cellsOf 25 = 3 := by kernel_rfl
 have hc2 : Try.prog.cellsOf 2 = 1 := by kernel_rfl
 have hc22 : Try.prog.cellsOf 22 = 1 := by kernel_rfl
 have hc23 : Try.prog.cellsOf 23 = 1 := by kernel_rfl
 rw [hc] at hl
 match cs, hl with
 | [c0, c1, c2], _ =>
  simp only [hc2, hc22, hc23, List.drop_zero, List.drop_succ_cons, List.take_succ_cons, List.take_zero] at h0 h1 h2
  obtain ⟨s, r0, _⟩ := rel_int Try.underlying2 h0
  obtain ⟨N, r1⟩ := rel_intss h1
  obtain ⟨p, r2⟩ := rel_ints h2
  exact ⟨s, N, p, by simp only [mc, CRel]; exact ⟨_, _, rfl, r0, _, _, rfl, r1, _, _, rfl, r2, rfl⟩⟩
end
end Go.Proofs.Ytikfhfgdmlijeaa.Sk
namespace Go.Proofs.Ytikfhfgdmlijeaa.Sk
theorem sum_sub {f g : Nat -> Int} {l : List Nat} : (l.map fun k => f k - g k).sum = (l.map f).sum - (l.map g).sum := by
 induction l with
 | nil => rfl
 | cons x l ih => simp only [List.map_cons, List.sum_cons]; rw [ih]; omega
section
variable {s : Int} {N : List (List Int)} {p : List Int} {c : Nat}
end
theorem lst_split {n d : Int} (hd : 0 < d) : ∃ g : Int, 0 < g /\ n = (lst n d).1 * g /\ d = (lst n d).2 * g := by
 have hg : 0 < gcdN n d := Nat.gcd_pos_of_pos_right _ (by omega)
 refine ⟨gcdN n d, by omega, ?_, ?_⟩
 ·have h : ((gcdN n d : Nat) : Int) ∣ n := Int.dvd_natAbs.1 (Int.natCast_dvd_natCast.2 (Nat.gcd_dvd_left _ _))
  exact (Int.tdiv_mul_cancel h).symm
 ·have h : ((gcdN n d : Nat) : Int) ∣ d := Int.dvd_natAbs.1 (Int.natCast_dvd_natCast.2 (Nat.gcd_dvd_right _ _))
  exact (Int.tdiv_mul_cancel h).symm
theorem lst_cross {n d : Int} (hd : 0 < d) : (lst n d).1 * d = n * (lst n d).2 := by
 obtain ⟨g, _, h1, h2⟩ := lst_split hd (n := n)
 generalize lst n d = q at *
 rw [h1, h2]; grind
theorem lst_pos {n d : Int} (hd : 0 < d) : 0 < (lst n d).2 := (lst_le hd).2.1
theorem lst_gcd {n d : Int} (hd : 0 < d) : Nat.gcd (lst n d).1.natAbs (lst n d).2.natAbs = 1 := by
 unfold lst
 simp only
 rw [Int.natAbs_tdiv, Int.natAbs_tdiv, Int.natAbs_natCast]
 unfold gcdN
 exact (Nat.gcd_div (Nat.gcd_dvd_left n.natAbs d.natAbs) (Nat.gcd_dvd_right n.natAbs d.natAbs)).trans (Nat.div_self (Nat.gcd_pos_of_pos_right _ (by omega)))
theorem lst_nonneg {n d : Int} (hd : 0 < d) (hn : 0 <= n) : 0 <= (lst n d).1 := by
 obtain ⟨g, hg, h1, _⟩ := lst_split hd (n := n)
 generalize lst n d = q at *
 by_cases h : q.1 < 0
 ·have := Int.mul_neg_of_neg_of_pos h hg
  omega
 ·omega
theorem lst_mul_le {n d c : Int} (hd : 0 < d) (h : n <= c * d) : (lst n d).1 <= c * (lst n d).2 := by
 obtain ⟨g, hg, h1, h2⟩ := lst_split hd (n := n)
 generalize lst n d = q at *
 refine Int.le_of_mul_le_mul_right (a := g) ?_ hg
 have e : c * q.2 * g = c * d := by rw [h2, Int.mul_assoc]
 rw [<- h1, e]; exact h
theorem sum_swapL {α β : Type} {f : α -> β -> Int} {l : List α} {m : List β} : (l.map fun i => (m.map (f i)).sum).sum = (m.map fun k => (l.map fun i => f i k).sum).sum := by
 induction l with
 | nil => simp only [List.map_nil, List.sum_nil]; rw [sum_zero fun _ _ => rfl]
 | cons i l ih =>
  simp only [List.map_cons, List.sum_cons]
  rw [ih]
  clear ih
  induction m with
  | nil => rfl
  | cons k m ih => simp only [List.map_cons, List.sum_cons]; omega
theorem sum_add {f g : Nat -> Int} {l : List Nat} : (l.map fun k => f k + g k).sum = (l.map f).sum + (l.map g).sum := by
 induction l with
 | nil => rfl
 | cons x l ih => simp only [List.map_cons, List.sum_cons]; rw [ih]; omega
end Go.Proofs.Ytikfhfgdmlijeaa.Sk
namespace Go.Proofs.Ytikfhfgdmlijeaa.Sk
open PE in
def entA (a : Nat) (row : Nat -> PE) (i k : Nat) : PE := if Nat.beq i a then row k else .v (4 * i + k)
open PE in
def tabA (a : Nat) (row : Nat -> PE) (st : List Nat) : List (List PE) := st.map fun i => st.map fun k => sub (if Nat.beq i k then .v 16 else .c 0) (entA a row i k)
def rootA (n a : Nat) (row : Nat -> PE) (j : Nat) : PE := PE.det (stO n j).length (tabA a row (stO n j))
def row0 (_ : Nat) : PE := .c 0
def row1 (t k : Nat) : PE := if Nat.beq k t then .c 1 else .c 0
def rowV (k : Nat) : PE := .v (17 + k)
open PE in
def affB (n : Nat) : Bool := (List.range n).all fun a => (List.range n).all fun j => same (rootA n a rowV j) (add (rootA n a row0 j) (sum ((List.range n).map fun t => .mul (.v (17 + t)) (sub (rootA n a (row1 t) j) (rootA n a row0 j)))))
theorem affB_ok : [1, 2, 3, 4].all affB = true := by decide +kernel
theorem tn_set {N : List (List Int)} {a : Nat} {R : List Int} (ha : a < N.length) {i k : Nat} : tn (N.set a R) i k = if i = a then R[k]?.getD 0 else tn N i k := by
 unfold tn
 by_cases e : i = a
 ·subst e
  rw [List.getElem?_set_self ha, if_pos rfl]; rfl
 ·rw [List.getElem?_set_ne (fun h => e h.symm), if_neg e]
section
variable {s : Int} {N : List (List Int)}
theorem ev_rootA {x : Nat -> Int} {a j : Nat} {row : Nat -> PE} {R : List Int} (h4 : N.length <= 4) (ha : a < N.length) (hr : ∀ k, k < N.length -> (row k).ev (rho s N x) = R[k]?.getD 0) :
  (rootA N.length a row j).ev (rho s N x) = rootN s (N.set a R) j := by
 unfold rootA rootN detS
 rw [List.length_set, wout_one, PE.ev_det]
 congr 1
 unfold tabA tabT tabR
 rw [List.map_map]
 refine List.map_congr_left fun i hi => ?_
 simp only [Function.comp_apply]
 rw [List.map_map]
 refine List.map_congr_left fun k hk => ?_
 simp only [Function.comp_apply]
 have hi := stO_lt hi
 have hk := stO_lt hk
 rw [PE.ev_sub]
 unfold tabF entA
 rw [tn_set ha]
 have e1 : (if Nat.beq i k = true then PE.v 16 else PE.c 0).ev (rho s N x) = if i = k then s else 0 := by
  by_cases e : i = k
  ·subst e
   rw [if_pos (Nat.beq_refl i), if_pos rfl, PE.ev, rho_s]
  ·rw [if_neg (fun hb => e (Nat.eq_of_beq_eq_true hb)), if_neg e]; rfl
 rw [e1]
 by_cases e : i = a
 ·subst e
  rw [if_pos (Nat.beq_refl i), if_pos rfl, hr k hk]
 ·rw [if_neg (fun hb => e (Nat.eq_of_beq_eq_true hb)), if_neg e, PE.ev, rho_v i k (by omega) (by omega)]
def unL (n t : Nat) : List Int := (List.range n).map fun k => if Nat.beq k t then 1 else 0
theorem root_aff (h1 : 1 <= N.length) (h4 : N.length <= 4) {a j : Nat} (ha : a < N.length) (hj : j < N.length) (R : List Int) :
  rootN s (N.set a R) j = rootN s (N.set a []) j + ((List.range N.length).map fun t => R[t]?.getD 0 * (rootN s (N.set a (unL N.length t)) j - rootN s (N.set a []) j)).sum := by
 have h := PE.same_eq (r := rho s N fun k => R[k]?.getD 0) (all_lt (all_lt (four affB_ok h1 h4) ha) hj)
 have e0 : (rootA N.length a row0 j).ev (rho s N fun k => R[k]?.getD 0) = rootN s (N.set a []) j := ev_rootA h4 ha fun k _ => rfl
 rw [ev_rootA h4 ha (R := R) (fun k _ => by rw [rowV, PE.ev, rho_x]), PE.ev, e0, PE.ev_sum, List.map_map] at h
 rw [h]
 congr 2
 refine List.map_congr_left fun t _ => ?_
 simp only [Function.comp_apply]
 rw [PE.ev, PE.ev_sub, e0, ev_rootA h4 ha (R := unL N.length t) (fun k hk => ?_), PE.ev, rho_x]
 unfold row1 unL
 rw [List.getElem?_map, List.getElem?_range hk, Option.map_some, Option.getD_some]
 cases Nat.beq k t <;> rfl
def fW (s : Int) (N : List (List Int)) (w : Nat -> Int) : Int := ((List.range N.length).map fun j => rootN s N j * w j).sum
theorem f_aff (h1 : 1 <= N.length) (h4 : N.length <= 4) {w : Nat -> Int} {a : Nat} (ha : a < N.length) (R : List Int) :
  fW s (N.set a R) w = fW s (N.set a []) w + ((List.range N.length).map fun t => R[t]?.getD 0 * (fW s (N.set a (unL N.length t)) w - fW s (N.set a []) w)).sum := by
 unfold fW
 simp only [List.length_set]
 have e1 : ∀ j ∈ List.range N.length, rootN s (N.set a R) j * w j = rootN s (N.set a []) j * w j + ((List.range N.length).map fun t => R[t]?.getD 0 * (rootN s (N.set a (unL N.length t)) j * w j - rootN s (N.set a []) j * w j)).sum := fun j hj => by
  rw [root_aff h1 h4 ha (List.mem_range.1 hj) R, Int.add_mul, <- sum_mul]
  congr 2
  refine List.map_congr_left fun t _ => ?_
  rw [Int.mul_assoc, Int.sub_mul]
 rw [List.map_congr_left e1, sum_add, sum_swapL]
 congr 2
 refine List.map_congr_left fun t _ => ?_
 rw [mul_sum, sum_sub]
theorem f_conv (h1 : 1 <= N.length) (h4 : N.length <= 4) {w : Nat -> Int} {a : Nat} (ha : a < N.length) {r R : List Int} {v : Nat -> Int} (hr : r.length = N.length) (hR : ∀ t, t < N.length -> R[t]?.getD 0 = r[t]?.getD 0 + v t) :
  ((List.range N.length).map v).sum * fW s (N.set a R) w = ((List.range N.length).map fun t => v t * fW s (N.set a (r.set t (r[t]?.getD 0 + ((List.range N.length).map v).sum))) w).sum := by
 generalize hq : ((List.range N.length).map v).sum = q
 have hA := f_aff (s := s) h1 h4 (w := w) ha
 generalize fW s (N.set a []) w = A at hA
 obtain ⟨B, hB⟩ : ∃ B : Nat -> Int, ∀ t, B t = fW s (N.set a (unL N.length t)) w - A := ⟨_, fun _ => rfl⟩
 simp only [<- hB] at hA
 obtain ⟨C, hC⟩ : ∃ C, C = A + ((List.range N.length).map fun t => r[t]?.getD 0 * B t).sum := ⟨_, rfl⟩
 have e1 : fW s (N.set a R) w = C + ((List.range N.length).map fun t => v t * B t).sum := by
  rw [hA R, hC, Int.add_assoc, <- sum_add]
  congr 2
  refine List.map_congr_left fun t ht => ?_
  rw [hR t (List.mem_range.1 ht), Int.add_mul]
 have e2 : ∀ t, t ∈ List.range N.length -> v t * fW s (N.set a (r.set t (r[t]?.getD 0 + q))) w = v t * C + q * (v t * B t) := fun t ht => by
  have ht := List.mem_range.1 ht
  rw [hA]
  have e3 : ∀ u ∈ List.range N.length, (r.set t (r[t]?.getD 0 + q))[u]?.getD 0 * B u = r[u]?.getD 0 * B u + if u = t then q * B u else 0 := fun u _ => by
   by_cases e : u = t
   ·subst e
    rw [List.getElem?_set_self (by omega), Option.getD_some, if_pos rfl, Int.add_mul]
   ·rw [List.getElem?_set_ne (fun h => e h.symm), if_neg e, Int.add_zero]
  rw [List.map_congr_left e3, sum_add, sum_pick (f := fun u => q * B u) ht, <- Int.add_assoc, <- hC, Int.mul_add]
  congr 1
  rw [<- Int.mul_assoc, <- Int.mul_assoc, Int.mul_comm q]
 rw [List.map_congr_left e2, sum_add, sum_mul, mul_sum, hq, e1, Int.mul_add]
end
structure IsFill (s : Int) (N N' : List (List Int)) : Prop where
  len : N'.length = N.length
  sq : ∀ l ∈ N', l.length = N.length
  ge : ∀ i k, tn N i k <= tn N' i k
  sum : ∀ l ∈ N', l.sum = s
def mixN (s : Int) (N N' : List (List Int)) (d : Nat -> Nat) (m : Nat) : List (List Int) := (List.range N.length).map fun i => if i < m then N'[i]?.getD [] else fillR s (N[i]?.getD []) (d i)
section
variable {s : Int} {N N' : List (List Int)}
theorem mix_len {d : Nat -> Nat} {m : Nat} : (mixN s N N' d m).length = N.length := by simp [mixN]
theorem mix_zero (h1 : 1 <= N.length) {d : Nat -> Nat} (hd : ∀ i, i < N.length -> d i < N.length) : mixN s N N' d 0 = fillN s N (encN N.length N.length d) := by
 unfold mixN fillN fillT
 refine List.map_congr_left fun i hi => ?_
 rw [if_neg (Nat.not_lt_zero _), encN_ch h1 hd (List.mem_range.1 hi)]
theorem mix_all (hl : N'.length = N.length) {d : Nat -> Nat} : mixN s N N' d N.length = N' := by
 apply List.ext_getElem?
 intro i
 unfold mixN
 rw [List.getElem?_map]
 by_cases hi : i < N.length
 ·rw [List.getElem?_range hi, Option.map_some, if_pos hi, List.getElem?_eq_getElem (by omega)]; rfl
 ·rw [List.getElem?_eq_none (by simpa using hi), List.getElem?_eq_none (by omega)]; rfl
theorem mix_get {d : Nat -> Nat} {m i : Nat} : (mixN s N N' d m)[i]? = if i < N.length then some (if i < m then N'[i]?.getD [] else fillR s (N[i]?.getD []) (d i)) else none := by
 unfold mixN
 rw [List.getElem?_map]
 by_cases hi : i < N.length
 ·rw [List.getElem?_range hi, if_pos hi]; rfl
 ·rw [List.getElem?_eq_none (by simpa using hi), if_neg hi]; rfl
theorem mix_succ {d : Nat -> Nat} {m : Nat} (hm : m < N.length) : mixN s N N' d (m + 1) = (mixN s N N' d m).set m (N'[m]?.getD []) := by
 apply List.ext_getElem?
 intro i
 by_cases e : i = m
 ·subst e
  rw [List.getElem?_set_self (by rw [mix_len]; exact hm), mix_get, if_pos hm, if_pos (Nat.lt_succ_self _)]
 ·rw [List.getElem?_set_ne (fun h => e h.symm), mix_get, mix_get]
  by_cases h2 : i < m
  ·rw [if_pos (by omega : i < m + 1), if_pos h2]
  ·rw [if_neg (by omega : ¬ i < m + 1), if_neg h2]
theorem mix_ch {d : Nat -> Nat} {m t : Nat} (hm : m < N.length) : (mixN s N N' d m).set m (fillR s (N[m]?.getD []) t) = mixN s N N' (fun i => if i = m then t else d i) m := by
 apply List.ext_getElem?
 intro i
 by_cases e : i = m
 ·subst e
  rw [List.getElem?_set_self (by rw [mix_len]; exact hm), mix_get, if_pos hm, if_neg (Nat.lt_irrefl _), if_pos rfl]
 ·rw [List.getElem?_set_ne (fun h => e h.symm), mix_get, mix_get, if_neg e]
theorem fill_nonneg (h1 : 1 <= N.length) (h4 : N.length <= 4) (hsq : ∀ l ∈ N, l.length = N.length) (hf : IsFill s N N') {w : Nat -> Int} (hc : ∀ k, k < N.length ^ N.length -> 0 <= fW s (fillN s N k) w) : 0 <= fW s N' w := by
 have key : ∀ m, m <= N.length -> ∀ d : Nat -> Nat, (∀ i, i < N.length -> d i < N.length) -> 0 <= fW s (mixN s N N' d m) w := fun m => by
  induction m with
  | zero =>
   intro _ d hd
   rw [mix_zero h1 hd]
   exact hc _ (encN_lt hd)
  | succ m ih =>
   intro hm d hd
   have ih := ih (by omega)
   obtain ⟨r, hN⟩ : ∃ r, N[m]? = some r := ⟨_, List.getElem?_eq_getElem (by omega)⟩
   obtain ⟨R, hN'⟩ : ∃ R, N'[m]? = some R := ⟨_, List.getElem?_eq_getElem (by rw [hf.len]; omega)⟩
   have hrl : r.length = N.length := hsq _ (List.mem_of_getElem? hN)
   have hRl := hf.sq _ (List.mem_of_getElem? hN')
   have hRs := hf.sum _ (List.mem_of_getElem? hN')
   have hge : ∀ k : Nat, r[k]?.getD 0 <= R[k]?.getD 0 := fun k => by
    have h := hf.ge m k
    unfold tn at h
    rw [hN, hN'] at h
    exact h
   have hmk : ∀ t, t < N.length -> 0 <= fW s ((mixN s N N' d m).set m (fillR s r t)) w := fun t ht => by
    have h := mix_ch (s := s) (N := N) (N' := N') (d := d) (m := m) (t := t) (by omega)
    rw [hN, Option.getD_some] at h
    rw [h]
    exact ih _ fun i hi => by
     split
     ·exact ht
     ·exact hd i hi
   rw [mix_succ (by omega), hN', Option.getD_some]
   obtain ⟨v, hv⟩ : ∃ v : Nat -> Int, ∀ t, v t = R[t]?.getD 0 - r[t]?.getD 0 := ⟨_, fun _ => rfl⟩
   have hv0 : ∀ t, 0 <= v t := fun t => by have := hge t; have := hv t; omega
   have hq : ((List.range N.length).map v).sum = s - r.sum := by
    have e1 : (List.range N.length).map v = (List.range N.length).map fun t => R[t]?.getD 0 - r[t]?.getD 0 := List.map_congr_left fun t _ => hv t
    have e2 := map_range_get (l := R)
    have e3 := map_range_get (l := r)
    rw [hRl] at e2
    rw [hrl] at e3
    rw [e1, sum_sub, e2, e3, hRs]
   have hcv := f_conv (s := s) (N := mixN s N N' d m) (w := w) (a := m) (r := r) (R := R) (v := v) (by rw [mix_len]; exact h1) (by rw [mix_len]; exact h4) (by rw [mix_len]; omega) (by rw [mix_len]; exact hrl) fun t _ => by have := hv t; omega
   rw [mix_len, hq] at hcv
   have hnn : 0 <= ((List.range N.length).map fun t => v t * fW s ((mixN s N N' d m).set m (r.set t (r[t]?.getD 0 + (s - r.sum)))) w).sum := sum_nonneg fun x hx => by
    obtain ⟨t, ht, rfl⟩ := List.mem_map.1 hx
    exact Int.mul_nonneg (hv0 t) (hmk t (List.mem_range.1 ht))
   rw [<- hcv] at hnn
   have hq0 : 0 <= ((List.range N.length).map v).sum := sum_nonneg fun x hx => by
    obtain ⟨t, _, rfl⟩ := List.mem_map.1 hx
    exact hv0 t
   rw [hq] at hq0
   rcases Int.lt_or_eq_of_le hq0 with hq1 | hq1
   ·exact Int.nonneg_of_mul_nonneg_right hnn hq1
   ·have hRr : R = r := by
     apply List.ext_getElem?
     intro k
     by_cases hk : k < N.length
     ·have h0 : v k = 0 := by
       have h2 := le_sum (l := (List.range N.length).map v) (fun x hx => by obtain ⟨t, _, rfl⟩ := List.mem_map.1 hx; exact hv0 t) (List.mem_map_of_mem (List.mem_range.2 hk))
       have := hv0 k
       omega
      have h3 := hv k
      rw [List.getElem?_eq_getElem (by omega), List.getElem?_eq_getElem (by omega)] at h3 ⊢
      simp only [Option.getD_some] at h3
      exact congrArg some (by omega)
     ·rw [List.getElem?_eq_none (by omega), List.getElem?_eq_none (by omega)]
    have e4 : r.set 0 (r[0]?.getD 0 + (s - r.sum)) = R := by
     rw [hRr]
     apply List.ext_getElem?
     intro k
     by_cases e : k = 0
     ·subst e
      rw [List.getElem?_set_self (by omega), List.getElem?_eq_getElem (by omega), Option.getD_some]
      exact congrArg some (by omega)
     ·rw [List.getElem?_set_ne (fun h => e h.symm)]
    have h5 := hmk 0 (by omega)
    unfold fillR at h5
    rw [e4] at h5
    exact h5
 have h := key N.length (Nat.le_refl _) (fun _ => 0) fun i _ => by omega
 rwa [mix_all hf.len] at h
end
end Go.Proofs.Ytikfhfgdmlijeaa.Sk
namespace Go.Proofs.Ytikfhfgdmlijeaa.Sk
def leQ (a b : Int × Int) : Prop := a.1 * b.2 <= b.1 * a.2
theorem leQ_refl (a : Int × Int) : leQ a a := Int.le_refl _
theorem leQ_trans {a b c : Int × Int} (ha : 0 < a.2) (hb : 0 < b.2) (hc : 0 < c.2) (h1 : leQ a b) (h2 : leQ b c) : leQ a c := by
 have e1 := Int.mul_le_mul_of_nonneg_right h1 (Int.le_of_lt hc)
 have e2 := Int.mul_le_mul_of_nonneg_right h2 (Int.le_of_lt ha)
 have e3 : (a.1 * c.2) * b.2 <= (c.1 * a.2) * b.2 := by grind
 exact Int.le_of_mul_le_mul_right e3 hb
theorem less_no {a b : Int × Int} : lessQ a b = false ↔ leQ b a := by unfold lessQ leQ; rw [decide_eq_false_iff_not]; omega
theorem less_yes {a b : Int × Int} (h : lessQ a b = true) : leQ a b := by unfold lessQ at h; rw [decide_eq_true_eq] at h; unfold leQ; omega
theorem best_less : ∀ {l : List (Int × Int)} {c : Int × Int}, (∀ x ∈ c :: l, 0 < x.2) -> bestF lessQ c l ∈ c :: l /\ ∀ x ∈ c :: l, leQ (bestF lessQ c l) x
 | [], c, _ => ⟨by simp [bestF], fun x hx => by simp only [List.mem_singleton] at hx; subst hx; exact leQ_refl _⟩
 | y :: l, c, h => by
  have hy := h y (by simp)
  have hc := h c (by simp)
  have e : bestF lessQ c (y :: l) = bestF lessQ (if lessQ y c then y else c) l := rfl
  rw [e]
  cases hl : lessQ y c with
  | true =>
   rw [if_pos rfl]
   obtain ⟨h1, h2⟩ := best_less (l := l) (c := y) fun x hx => h x (List.mem_cons_of_mem _ hx)
   refine ⟨List.mem_cons_of_mem _ h1, fun x hx => ?_⟩
   rcases List.mem_cons.1 hx with rfl | hx
   ·exact leQ_trans (h _ (List.mem_cons_of_mem _ h1)) hy hc (h2 y (by simp)) (less_yes hl)
   ·exact h2 x hx
  | false =>
   rw [if_neg (by simp)]
   have hm : ∀ x ∈ c :: l, x ∈ c :: y :: l := fun x hx => by
    rcases List.mem_cons.1 hx with rfl | hx
    ·simp
    ·simp [hx]
   obtain ⟨h1, h2⟩ := best_less (l := l) (c := c) fun x hx => h x (hm x hx)
   refine ⟨hm _ h1, fun x hx => ?_⟩
   rcases List.mem_cons.1 hx with rfl | hx
   ·exact h2 _ (by simp)
   ·rcases List.mem_cons.1 hx with rfl | hx
    ·exact leQ_trans (h _ (hm _ h1)) hc hy (h2 c (by simp)) (less_no.1 hl)
    ·exact h2 x (List.mem_cons_of_mem _ hx)
theorem best_more : ∀ {l : List (Int × Int)} {c : Int × Int}, (∀ x ∈ c :: l, 0 < x.2) -> bestF moreQ c l ∈ c :: l /\ ∀ x ∈ c :: l, leQ x (bestF moreQ c l)
 | [], c, _ => ⟨by simp [bestF], fun x hx => by simp only [List.mem_singleton] at hx; subst hx; exact leQ_refl _⟩
 | y :: l, c, h => by
  have hy := h y (by simp)
  have hc := h c (by simp)
  have e : bestF moreQ c (y :: l) = bestF moreQ (if lessQ c y then y else c) l := rfl
  rw [e]
  cases hl : lessQ c y with
  | true =>
   rw [if_pos rfl]
   obtain ⟨h1, h2⟩ := best_more (l := l) (c := y) fun x hx => h x (List.mem_cons_of_mem _ hx)
   refine ⟨List.mem_cons_of_mem _ h1, fun x hx => ?_⟩
   rcases List.mem_cons.1 hx with rfl | hx
   ·exact leQ_trans hc hy (h _ (List.mem_cons_of_mem _ h1)) (less_yes hl) (h2 y (by simp))
   ·exact h2 x hx
  | false =>
   rw [if_neg (by simp)]
   have hm : ∀ x ∈ c :: l, x ∈ c :: y :: l := fun x hx => by
    rcases List.mem_cons.1 hx with rfl | hx
    ·simp
    ·simp [hx]
   obtain ⟨h1, h2⟩ := best_more (l := l) (c := c) fun x hx => h x (hm x hx)
   refine ⟨hm _ h1, fun x hx => ?_⟩
   rcases List.mem_cons.1 hx with rfl | hx
   ·exact h2 _ (by simp)
   ·rcases List.mem_cons.1 hx with rfl | hx
    ·exact leQ_trans hy hc (h _ (hm _ h1)) (less_no.1 hl) (h2 c (by simp))
    ·exact h2 x (List.mem_cons_of_mem _ hx)
theorem leQ_lst {q : Int × Int} {G S : Int} (hS : 0 < S) : leQ q (lst G S) ↔ q.1 * S <= G * q.2 := by
 have h1 := lst_cross hS (n := G)
 have h2 := lst_pos hS (n := G)
 unfold leQ
 generalize lst G S = l at *
 constructor
 ·intro h
  have h := Int.mul_le_mul_of_nonneg_right h (Int.le_of_lt hS)
  have e : (q.1 * S) * l.2 <= (G * q.2) * l.2 := by grind
  exact Int.le_of_mul_le_mul_right e h2
 ·intro h
  have h := Int.mul_le_mul_of_nonneg_right h (Int.le_of_lt h2)
  have e : (q.1 * l.2) * S <= (l.1 * q.2) * S := by grind
  exact Int.le_of_mul_le_mul_right e hS
theorem lst_leQ {q : Int × Int} {G S : Int} (hS : 0 < S) : leQ (lst G S) q ↔ G * q.2 <= q.1 * S := by
 have h1 := lst_cross hS (n := G)
 have h2 := lst_pos hS (n := G)
 unfold leQ
 generalize lst G S = l at *
 constructor
 ·intro h
  have h := Int.mul_le_mul_of_nonneg_right h (Int.le_of_lt hS)
  have e : (G * q.2) * l.2 <= (q.1 * S) * l.2 := by grind
  exact Int.le_of_mul_le_mul_right e h2
 ·intro h
  have h := Int.mul_le_mul_of_nonneg_right h (Int.le_of_lt h2)
  have e : (l.1 * q.2) * S <= (q.1 * l.2) * S := by grind
  exact Int.le_of_mul_le_mul_right e hS
section
variable {s : Int} {N N' : List (List Int)} {p : List Int}
theorem IsFill.okM (hf : IsFill s N N') (h : OkR s N p) : OkM s N' p := by
 have hg : ∀ l ∈ N', ∀ x ∈ l, 0 <= x := fun l hl x hx => by
  obtain ⟨i, hi⟩ := List.getElem?_of_mem hl
  obtain ⟨k, hk⟩ := List.getElem?_of_mem hx
  have h1 := hf.ge i k
  have h2 := (h.tn i k).1
  unfold tn at h1 h2
  rw [hi, Option.getD_some, hk, Option.getD_some] at h1
  omega
 have hl := hf.len
 exact { n1 := by rw [hl]; exact h.n1, n4 := by rw [hl]; exact h.n4, sq := fun l hm => by rw [hl]; exact hf.sq l hm, ent := fun l hm x hx => ⟨hg l hm x hx, by rw [<- hf.sum l hm]; exact le_sum (hg l hm) hx⟩, s1 := h.s1, s20 := h.s20, pl := by rw [hl]; exact h.pl, pay := h.pay, sum := hf.sum }
theorem OkR.tn0 (h : OkR s N p) {i : Nat} (hi : i < N.length) : 0 < Sk.tn N i 0 := by
 have h1 := h.first _ (List.getElem_mem hi)
 unfold Sk.tn
 rw [List.getElem?_eq_getElem hi]
 exact h1
theorem IsFill.settles (hf : IsFill s N N') (h : OkR s N p) : (parts N').length <= 1 :=
 zero_settles (by rw [hf.len]; exact h.n1) fun i hi => by
  have h1 := hf.ge i 0
  have h2 := h.tn0 (i := i) (by rw [hf.len] at hi; exact hi)
  omega
theorem IsFill.okR (hf : IsFill s N N') (h : OkR s N p) : OkR s N' p :=
  { (hf.okM h).toOkP with
    le := fun l hl => by rw [hf.sum l hl]; exact Int.le_refl _
    first := fun l hl => by
      obtain ⟨i, hi⟩ := List.getElem?_of_mem hl
      have h1 := hf.ge i 0
      have hlt : i < N'.length := (List.getElem?_eq_some_iff.1 hi).1
      have h2 := h.tn0 (i := i) (by rw [hf.len] at hlt; exact hlt)
      unfold Sk.tn at h1
      rw [hi, Option.getD_some] at h1
      unfold Sk.tn at h2
      omega }
theorem fill_isFill (h : OkR s N p) (k : Nat) : IsFill s N (fillN s N k) := by
 have hM := fill_ok h k
 refine ⟨fillN_len, fun l hl => by rw [hM.sq l hl, fillN_len], fun i j => ?_, hM.sum⟩
 by_cases hi : i < N.length
 ·have hr := List.getElem?_eq_getElem hi
  have h0 := h.le _ (List.getElem_mem hi)
  have hl := h.sq _ (List.getElem_mem hi)
  have hc := chN_lt (n := N.length) (num := k) (i := i) h.n1
  unfold tn
  rw [fillN_get hi, hr, Option.getD_some, Option.getD_some]
  unfold fillR
  by_cases e : j = chN N.length k i
  ·rw [<- e] at hc ⊢
   rw [List.getElem?_set_self (by omega), Option.getD_some]
   omega
  ·rw [List.getElem?_set_ne (fun h => e h.symm)]
   exact Int.le_refl _
 ·unfold tn
  have e1 : N[i]? = none := List.getElem?_eq_none (by omega)
  have e2 : (fillN s N k)[i]? = none := List.getElem?_eq_none (by rw [fillN_len]; omega)
  rw [e1, e2]
  exact Int.le_refl _
theorem full_fill (h : OkM s N p) (k : Nat) : fillN s N k = N := by
 apply List.ext_getElem?
 intro i
 by_cases hi : i < N.length
 ·rw [fillN_get hi, List.getElem?_eq_getElem hi, Option.getD_some]
  have hs := h.sum _ (List.getElem_mem hi)
  have hl := h.sq _ (List.getElem_mem hi)
  have hc := chN_lt (n := N.length) (num := k) (i := i) h.n1
  unfold fillR
  congr 1
  apply List.ext_getElem?
  intro j
  by_cases e : j = chN N.length k i
  ·rw [<- e] at hc ⊢
   rw [List.getElem?_set_self (by omega), List.getElem?_eq_getElem (by omega), Option.getD_some]
   exact congrArg some (by omega)
  ·rw [List.getElem?_set_ne (fun h => e h.symm)]
 ·rw [List.getElem?_eq_none (by rw [fillN_len]; omega), List.getElem?_eq_none (by omega)]
theorem f_gain {c d : Int} : fW s N (fun j => p[j]?.getD 0 * d - c) = gainN s N p * d - c * (rootsN s N).sum := by
 unfold fW gainN gainT rootsN
 rw [<- mul_sum, <- sum_mul, <- sum_sub]
 refine congrArg _ (List.map_congr_left fun k _ => ?_)
 grind
theorem f_neg {w : Nat -> Int} : fW s N (fun j => -w j) = - fW s N w := by
 unfold fW
 have e : ∀ j ∈ List.range N.length, rootN s N j * -w j = (-1) * (rootN s N j * w j) := fun j _ => by grind
 rw [List.map_congr_left e, mul_sum]; omega
def lowQ (s : Int) (N : List (List Int)) (p : List Int) : Int × Int := bestQ lessQ (payL s N p)
def highQ (s : Int) (N : List (List Int)) (p : List Int) : Int × Int := bestQ moreQ (payL s N p)
theorem pay_pos (h : OkM s N p) (hS : (parts N).length <= 1) : 0 < (paysQ s N p).2 := lst_pos (roots_pos h hS)
theorem payL_cons (h1 : 1 <= N.length) : ∃ c cs, payL s N p = c :: cs := by
 have : 0 < N.length ^ N.length := Nat.pow_pos (by omega)
 cases hp : payL s N p with
 | nil => have := congrArg List.length hp; simp [payL, payT] at this
 | cons c cs => exact ⟨c, cs, rfl⟩
theorem mem_payL {x : Int × Int} : x ∈ payL s N p ↔ ∃ k, k < N.length ^ N.length /\ x = paysQ s (fillN s N k) p := by
 unfold payL payT
 rw [List.mem_map]
 exact ⟨fun ⟨k, h1, h2⟩ => ⟨k, List.mem_range.1 h1, h2.symm⟩, fun ⟨k, h1, h2⟩ => ⟨k, List.mem_range.2 h1, h2.symm⟩⟩
theorem payL_pos (h : OkR s N p) : ∀ x ∈ payL s N p, 0 < x.2 := fun x hx => by
 obtain ⟨k, _, rfl⟩ := mem_payL.1 hx
 exact pay_pos (fill_ok h k) (fill_settles h k)
theorem low_spec (h : OkR s N p) : (∃ k, k < N.length ^ N.length /\ lowQ s N p = paysQ s (fillN s N k) p) /\ ∀ k, k < N.length ^ N.length -> leQ (lowQ s N p) (paysQ s (fillN s N k) p) := by
 obtain ⟨c, cs, hcs⟩ := payL_cons (s := s) (p := p) h.n1
 have hp := payL_pos h
 have hm := fun x => mem_payL (s := s) (N := N) (p := p) (x := x)
 unfold lowQ
 rw [hcs] at hp hm ⊢
 obtain ⟨h1, h2⟩ := best_less hp
 exact ⟨(hm _).1 h1, fun k hk => h2 _ ((hm _).2 ⟨k, hk, rfl⟩)⟩
theorem high_spec (h : OkR s N p) : (∃ k, k < N.length ^ N.length /\ highQ s N p = paysQ s (fillN s N k) p) /\ ∀ k, k < N.length ^ N.length -> leQ (paysQ s (fillN s N k) p) (highQ s N p) := by
 obtain ⟨c, cs, hcs⟩ := payL_cons (s := s) (p := p) h.n1
 have hp := payL_pos h
 have hm := fun x => mem_payL (s := s) (N := N) (p := p) (x := x)
 unfold highQ
 rw [hcs] at hp hm ⊢
 obtain ⟨h1, h2⟩ := best_more hp
 exact ⟨(hm _).1 h1, fun k hk => h2 _ ((hm _).2 ⟨k, hk, rfl⟩)⟩
theorem fill_between (h : OkR s N p) (hf : IsFill s N N') : leQ (lowQ s N p) (paysQ s N' p) /\ leQ (paysQ s N' p) (highQ s N p) := by
 have hS := roots_pos (hf.okM h) (hf.settles h)
 constructor
 ·have hl := (low_spec h).2
  unfold paysQ
  rw [leQ_lst hS]
  have key := fill_nonneg (s := s) (N' := N') h.n1 h.n4 h.sq hf (w := fun j => p[j]?.getD 0 * (lowQ s N p).2 - (lowQ s N p).1) fun k hk => by
   have h1 := hl k hk
   unfold paysQ at h1
   rw [leQ_lst (roots_pos (fill_ok h k) (fill_settles h k))] at h1
   rw [f_gain]; omega
  rw [f_gain] at key
  omega
 ·have hl := (high_spec h).2
  unfold paysQ
  rw [lst_leQ hS]
  have key := fill_nonneg (s := s) (N' := N') h.n1 h.n4 h.sq hf (w := fun j => -(p[j]?.getD 0 * (highQ s N p).2 - (highQ s N p).1)) fun k hk => by
   have h1 := hl k hk
   unfold paysQ at h1
   rw [lst_leQ (roots_pos (fill_ok h k) (fill_settles h k))] at h1
   rw [f_neg, f_gain]; omega
  rw [f_neg, f_gain] at key
  omega
theorem full_ends (h : OkR s N p) (hM : OkM s N p) : lowQ s N p = paysQ s N p /\ highQ s N p = paysQ s N p := by
 obtain ⟨k, _, h1⟩ := (low_spec h).1
 obtain ⟨j, _, h2⟩ := (high_spec h).1
 rw [full_fill hM] at h1 h2
 exact ⟨h1, h2⟩
theorem more_ends (h : OkR s N p) (h' : OkR s N' p) (hl : N'.length = N.length) (hge : ∀ i k, tn N i k <= tn N' i k) : leQ (lowQ s N p) (lowQ s N' p) /\ leQ (highQ s N' p) (highQ s N p) := by
 have key : ∀ k, IsFill s N (fillN s N' k) := fun k => by
  have hf := fill_isFill h' k
  exact ⟨by rw [hf.len, hl], fun l hm => by rw [hf.sq l hm, hl], fun i j => Int.le_trans (hge i j) (hf.ge i j), hf.sum⟩
 obtain ⟨k, _, h1⟩ := (low_spec h').1
 obtain ⟨j, _, h2⟩ := (high_spec h').1
 rw [h1, h2]
 exact ⟨(fill_between h (key k)).1, (fill_between h (key j)).2⟩
theorem low_high (h : OkR s N p) : leQ (lowQ s N p) (highQ s N p) := by
 have hf := fill_isFill h 0
 obtain ⟨h1, h2⟩ := fill_between h hf
 obtain ⟨k, _, e1⟩ := (low_spec h).1
 obtain ⟨j, _, e2⟩ := (high_spec h).1
 refine leQ_trans ?_ (pay_pos (hf.okM h) (hf.settles h)) ?_ h1 h2
 ·rw [e1]; exact pay_pos (fill_ok h k) (fill_settles h k)
 ·rw [e2]; exact pay_pos (fill_ok h j) (fill_settles h j)
end
def chK (by_ : List Int) (n len : Nat) : Nat := if by_.length = 0 then 0 else ((by_[n % by_.length]?).getD 0).toNat % len
def bmp (by_ : List Int) (s : Int) : Nat -> Nat -> List Int -> List Int × Nat
 | 0, n, l => (l, n)
 | f + 1, n, l => if l.sum < s then bmp by_ s f (n + 1) (l.set (chK by_ n l.length) (l[chK by_ n l.length]?.getD 0 + 1)) else (l, n)
def flS (by_ : List Int) (s : Int) : Nat -> List (List Int) -> List (List Int)
 | _, [] => []
 | n, l :: N => (bmp by_ s 20 n l).1 :: flS by_ s (bmp by_ s 20 n l).2 N
theorem bmp_done {by_ : List Int} {s : Int} {f n : Nat} {l : List Int} (h : s <= l.sum) : bmp by_ s f n l = (l, n) := by
 cases f with
 | zero => rfl
 | succ f => rw [bmp, if_neg (by omega)]
theorem chK_lt {by_ : List Int} {n len : Nat} (h : 0 < len) : chK by_ n len < len := by
 unfold chK
 split
 ·exact h
 ·exact Nat.mod_lt _ h
theorem bmp_ok {by_ : List Int} {s : Int} : ∀ {f n : Nat} {l : List Int}, 0 < l.length -> l.sum <= s -> s - l.sum <= f ->
  (bmp by_ s f n l).1.length = l.length /\ (bmp by_ s f n l).1.sum = s /\ ∀ k : Nat, l[k]?.getD 0 <= (bmp by_ s f n l).1[k]?.getD 0
 | 0, n, l, _, h1, h2 => ⟨rfl, by show l.sum = s; omega, fun _ => Int.le_refl _⟩
 | f + 1, n, l, h0, h1, h2 => by
  rw [bmp]
  by_cases h : l.sum < s
  ·rw [if_pos h]
   have hk := chK_lt (by_ := by_) (n := n) h0
   generalize chK by_ n l.length = k at *
   have hs : (l.set k (l[k]?.getD 0 + 1)).sum = l.sum + 1 := by rw [sum_set hk]; omega
   obtain ⟨e1, e2, e3⟩ := bmp_ok (by_ := by_) (s := s) (f := f) (n := n + 1) (l := l.set k (l[k]?.getD 0 + 1)) (by rw [List.length_set]; exact h0) (by omega) (by omega)
   refine ⟨by rw [e1, List.length_set], e2, fun j => Int.le_trans ?_ (e3 j)⟩
   by_cases e : j = k
   ·subst e
    rw [List.getElem?_set_self hk, Option.getD_some]; omega
   ·rw [List.getElem?_set_ne (fun h => e h.symm)]
    exact Int.le_refl _
  ·rw [if_neg h]
   exact ⟨rfl, by show l.sum = s; omega, fun _ => Int.le_refl _⟩
theorem flS_get {by_ : List Int} {s : Int} : ∀ {N : List (List Int)} {n i : Nat} {l : List Int}, N[i]? = some l -> ∃ m, (flS by_ s n N)[i]? = some (bmp by_ s 20 m l).1
 | [], _, _, _, h => by cases h
 | x :: N, n, 0, l, h => by
  simp only [List.getElem?_cons_zero, Option.some.injEq] at h
  subst h
  exact ⟨n, rfl⟩
 | x :: N, n, i + 1, l, h => by
  rw [flS, List.getElem?_cons_succ]
  exact flS_get (by simpa using h)
theorem flS_len {by_ : List Int} {s : Int} : ∀ {N : List (List Int)} {n : Nat}, (flS by_ s n N).length = N.length
 | [], _ => rfl
 | x :: N, n => by rw [flS, List.length_cons, List.length_cons, flS_len]
theorem flS_fill {by_ : List Int} {s : Int} {N : List (List Int)} {p : List Int} {n : Nat} (h : OkR s N p) : IsFill s N (flS by_ s n N) := by
 have key : ∀ {i : Nat} {l' : List Int}, (flS by_ s n N)[i]? = some l' -> ∃ l, N[i]? = some l /\ l'.length = N.length /\ l'.sum = s /\ ∀ k : Nat, l[k]?.getD 0 <= l'[k]?.getD 0 := fun {i l'} hi => by
  have hlt := (List.getElem?_eq_some_iff.1 hi).1
  rw [flS_len] at hlt
  have hx := List.getElem?_eq_getElem hlt
  have hm := List.getElem_mem hlt
  generalize N[i] = l at hx hm
  obtain ⟨m, hm2⟩ := flS_get (by_ := by_) (s := s) (n := n) hx
  rw [hi, Option.some.injEq] at hm2
  subst hm2
  have hl := h.sq _ hm
  have h0 : 0 <= l.sum := sum_nonneg fun x hx => (h.ent l hm x hx).1
  have hs := h.s20
  obtain ⟨e1, e2, e3⟩ := bmp_ok (by_ := by_) (s := s) (f := 20) (n := m) (l := l) (by rw [hl]; exact h.n1) (h.le _ hm) (by omega)
  exact ⟨l, hx, by rw [e1, hl], e2, e3⟩
 refine ⟨flS_len, fun l hl => ?_, fun i k => ?_, fun l hl => ?_⟩
 ·obtain ⟨i, hi⟩ := List.getElem?_of_mem hl
  obtain ⟨_, _, e, _⟩ := key hi
  exact e
 ·unfold tn
  by_cases hi : i < (flS by_ s n N).length
  ·have hx := List.getElem?_eq_getElem hi
   obtain ⟨l, e1, _, _, e2⟩ := key hx
   rw [hx, e1]
   exact e2 k
  ·have e1 : (flS by_ s n N)[i]? = none := List.getElem?_eq_none (by omega)
   have e2 : N[i]? = none := List.getElem?_eq_none (by rw [flS_len] at hi; omega)
   rw [e1, e2]
   exact Int.le_refl _
 ·obtain ⟨i, hi⟩ := List.getElem?_of_mem hl
  obtain ⟨_, _, _, e, _⟩ := key hi
  exact e
end Go.Proofs.Ytikfhfgdmlijeaa.Sk
namespace Go.Proofs.Ytikfhfgdmlijeaa.Sk
open Go Go.E Go.E.Sm
set_option maxRecDepth 10000
theorem cells_is {l : List Int} : (ints l).cells = [ints l] := rfl
theorem n37 : E.FnNew Try.prog 37 1 [.full []] [] := by
 refine new_of_row okf37 ?_
 simp only [FRow.start, f37, c37r0, c37r1, go_sem, Nat.reduceSub, true_implies]
 simp [finN, newOf, fget]
set_option maxHeartbeats 1000000 in
theorem k34 {s : Int} {N : List (List Int)} {p by_ : List Int} (h : OkR s N p) (hb : ∀ x ∈ by_, 0 <= x /\ x < 256) : E.Fn Try.prog 34 [mc s N p, .slice (by_.map (.int .u8))] [mc s (flS by_ s 0 N) p] := by
 refine fn_of_row okf34 ?_
 have hn4 := h.n4
 have hn1 := h.n1
 have hs1 := h.s1
 have hs20 := h.s20
 simp only [FRow.start, f34, c34r0, c34r1, c34r2, c34r3, mc, cells_is, splice, List.length_cons, List.length_nil, go_sem, ↓reduceIte, Nat.reduceAdd, Nat.reduceSub, Nat.reduceLeDiff, true_implies]
 refine loop_rule (fun m τ => ∃ i n : Nat, ∃ rows : List (List Int), m = N.length - i /\ i <= N.length /\ rows.length = i /\ n <= 20 * i /\ flS by_ s 0 N = rows ++ flS by_ s n (N.drop i) /\
  τ = ⟨(aN::(.s (.slice (by_.map (.int .u8))))::(.s (.ptr [.int .i64 s, intss N, ints p]))::aN::(.loc 0 0)::(.loc 1 0)::(aI n)::(aI i)::aN::aN::aN::aN::aN::aN::aN::aZ48),
   [.obj [aI 0, .full [], .full []], .obj [aI s, .sl 2 0 i 1 false, .s (ints p)], .row (rows.map ints)]⟩) N.length (promo_cell2 rfl rfl rfl) ?_ ?_
 ·simp only [c34l15m, go_sem, ↓reduceIte, reduceCtorEq, Nat.reduceAdd, Nat.reduceLeDiff]
  exact ⟨0, 0, [], rfl, Nat.zero_le _, rfl, Nat.le_refl _, rfl, rfl⟩
 ·rintro I m τ ⟨i, n, rows, rfl, hi, hrl, hn, hfl, rfl⟩ hI
  simp only [c34l15, c34r4, intss, go_sem, ↓reduceIte, Nat.reduceAdd, Nat.reduceLeDiff]
  intro _
  refine ⟨fun hlt => ?_, fun hge => ?_⟩
  ·have hx : N[i]? = some N[i] := List.getElem?_eq_getElem hlt
   have hm := List.getElem_mem hlt
   have hdr : N.drop i = N[i] :: N.drop (i + 1) := List.drop_eq_getElem_cons hlt
   rw [hdr, flS] at hfl
   generalize N[i] = l at hx hm hdr hfl
   have hl := h.sq _ hm
   have hent := h.ent _ hm
   have hle := h.le _ hm
   have hsum0 : 0 <= l.sum := sum_nonneg fun x hx => (hent x hx).1
   simp only [c34r5, go_sem, Nat.reduceAdd]
   refine .inr ⟨_, _, n37, .inl ⟨rfl, rfl⟩, by decide, by simp, rfl, ?_⟩
   have hne : l.map (SV.int .i64) ≠ [] := fun e => by have := congrArg List.length e; rw [List.length_map, List.length_nil] at this; omega
   simp only [ints, hx, go_sem, ↓reduceIte, Nat.reduceAdd, Nat.reduceLeDiff]
   refine ⟨⟨by simp, cells_ints, by simp only [List.length_nil, List.length_map]; omega, by simp only [List.length_nil, List.length_map]; omega, by decide⟩, ?_⟩
   rw [newRowK_def]
   refine ⟨fun e => absurd e hne, fun _ => ⟨rfl, ?_⟩⟩
   simp only [flatE_ints, go_sem, true_implies]
   refine loop_rule (fun f τ => ∃ (n' : Nat) (r : List Int), bmp by_ s 20 n l = bmp by_ s f n' r /\ f <= 20 /\ n' + f <= n + 20 /\ s - r.sum <= f /\ r.length = N.length /\ (∀ x ∈ r, 0 <= x) /\ r.sum <= s /\
    τ = ⟨(aN::(.s (.slice (by_.map (.int .u8))))::(.s (.ptr [.int .i64 s, intss N, ints p]))::aN::(.loc 0 0)::(.loc 1 0)::(aI n')::(aI i)::(.sl 4 0 N.length 1 false)::aN::aN::aN::aN::aN::aN::aZ48),
     [.obj [aI 0, .full [], .full []], .obj [aI s, .sl 2 0 i 1 false, .s (ints p)], .row (rows.map ints), .gone, .row (r.map (.int .i64))]⟩) 20 rfl ?_ ?_
   ·simp only [c34l12m, go_sem, ↓reduceIte, reduceCtorEq, Nat.reduceAdd, Nat.reduceLeDiff]
    exact ⟨n, l, rfl, Nat.le_refl _, by omega, hl, fun x hx => (hent x hx).1, hle, by rw [hl]; rfl⟩
   ·rintro I2 f τ ⟨n', r, hbm, hf20, hnf, hsf, hrl2, hrn, hrs, rfl⟩ hI2
    have hsl : sliceOf 0 N.length 1 (r.map (SV.int .i64)) = some (ints r) := slice_all hrl2.symm
    have h36 := k36 (l := r) (by omega) fun x hx => ⟨hrn x hx, by have := le_sum hrn hx; omega⟩
    simp only [c34l12, c34r6, go_sem, Nat.reduceAdd]
    refine callK_of (by simp only [hsl, go_sem]) h36 (.inl rfl) ?_
    simp only [go_sem, ↓reduceIte, Nat.reduceAdd, Nat.reduceLeDiff, true_implies]
    refine ⟨fun hlt2 => ?_, fun hge2 => ?_⟩
    ·obtain ⟨f, rfl⟩ : ∃ f', f = f' + 1 := ⟨f - 1, by omega⟩
     have hk := chK_lt (by_ := by_) (n := n') (len := r.length) (by omega)
     rw [show bmp by_ s (f + 1) n' r = bmp by_ s f (n' + 1) (r.set (chK by_ n' r.length) (r[chK by_ n' r.length]?.getD 0 + 1)) by rw [bmp, if_pos hlt2]] at hbm
     have hkd : chK by_ n' r.length = if by_.length = 0 then 0 else ((by_[n' % by_.length]?).getD 0).toNat % r.length := rfl
     generalize chK by_ n' r.length = k at *
     obtain ⟨z, hz⟩ : ∃ z, r[k]? = some z := ⟨_, List.getElem?_eq_getElem hk⟩
     have hzn := hrn _ (List.mem_of_getElem? hz)
     have hzs := le_sum hrn (List.mem_of_getElem? hz)
     have hss : (r.set k (z + 1)).sum = r.sum + 1 := by rw [sum_set hk, hz, Option.getD_some]; omega
     have hsn : ∀ x ∈ r.set k (z + 1), 0 <= x := fun x hx => by
      rcases List.mem_or_eq_of_mem_set hx with hx | rfl
      ·exact hrn x hx
      ·omega
     have hspl := spl_row (x := z + 1) hk
     rw [hz, Option.getD_some] at hbm
     by_cases hby : by_.length = 0
     case' pos =>
      rw [if_pos hby] at hkd
      subst hkd
      have a1 : ¬ (0 : Int) < (by_.length : Nat) := by omega
      simp only [c34r7, c34r8, a1, go_sem, Nat.reduceAdd, true_implies]
      intro hlen
     case' neg =>
      rw [if_neg hby] at hkd
      have a1 : (0 : Int) < (by_.length : Nat) := by omega
      have hml : n' % by_.length < by_.length := Nat.mod_lt _ (by omega)
      obtain ⟨y, hy⟩ : ∃ y, by_[n' % by_.length]? = some y := ⟨_, List.getElem?_eq_getElem hml⟩
      have hyb := hb _ (List.mem_of_getElem? hy)
      rw [hy, Option.getD_some, hrl2] at hkd
      obtain ⟨yn, rfl⟩ : ∃ yn : Nat, y = yn := ⟨y.toNat, by omega⟩
      rw [Int.toNat_natCast] at hkd
      simp only [c34r7, c34r8, a1, c34r9, go_sem, Nat.reduceAdd, true_implies]
      intro hlen
      rw [show (n' : Int).tmod (by_.length : Nat) = ((n' % by_.length : Nat) : Int) from (Int.ofNat_tmod _ _).symm]
      simp only [hy, go_sem, Nat.reduceAdd]
      refine ⟨by omega, inR_small (by omega) (by omega), by omega, fun _ => ?_⟩
      rw [show (yn : Int).tmod (N.length : Nat) = ((yn % N.length : Nat) : Int) from (Int.ofNat_tmod _ _).symm, <- hkd]
     all_goals
      simp only [c34r10, hz, Nat.mul_one, go_sem, Nat.reduceAdd, Int.reduceToNat, true_implies]
      refine ⟨by omega, inR_small (by omega) (by omega), by omega, by omega, ?_⟩
      rw [hspl]
      simp only [c34r11, c34l12m, go_sem, ↓reduceIte, reduceCtorEq, Nat.reduceLeDiff, true_implies]
      exact ⟨inR_small (by omega) (by omega), hI2 f _ (by omega) ⟨n' + 1, _, hbm, by omega, by omega, by omega, by rw [List.length_set, hrl2], hsn, by omega, rfl⟩⟩
    ·have hbd : bmp by_ s f n' r = (r, n') := bmp_done (by omega)
     rw [hbd] at hbm
     rw [hbm] at hfl
     simp only [c34r13, go_sem, Nat.reduceAdd, Nat.reduceLeDiff, Nat.reduceMul]
     refine ⟨_, rowOf_all (by rw [List.length_map, hrl2]), by decide, by decide, rfl, one_s rfl, one_s rfl, by omega, by omega, by omega, ?_⟩
     have e3 : rows.map ints ++ flatE [SV.slice (r.map (.int .i64))] = (rows ++ [r]).map ints := by
      rw [List.map_append]; rfl
     rw [e3]
     simp only [c34r14, c34l15m, Nat.reduceBEq, Bool.false_eq_true, go_sem, ↓reduceIte, Nat.reduceAdd, Nat.reduceLeDiff, true_implies]
     refine ⟨inR_small (by omega) (by omega), hI (N.length - (i + 1)) _ (by omega) ⟨i + 1, n', rows ++ [r], rfl, by omega, by rw [List.length_append, hrl]; rfl, by omega, by rw [hfl, List.append_assoc]; rfl, rfl⟩⟩
  ·have hie : i = N.length := by omega
   subst hie
   rw [List.drop_length, flS, List.append_nil] at hfl
   rw [hfl]
   have hsl : sliceOf 0 N.length 1 (rows.map ints) = some (intss rows) := by rw [<- hrl]; exact slice_intss
   simp only [c34r16, intss, ints, splice, List.length_cons, List.length_nil, hsl, go_sem, Nat.reduceAdd, true_implies]
   done
end Go.Proofs.Ytikfhfgdmlijeaa.Sk
namespace Go.Proofs.Ytikfhfgdmlijeaa.Sk
open Go Go.E
def c7r0 : List AOper := [
 oP 4 (.boxS (.t 0)),
 oP 8 (.mov bF)]
def c7r1 : List AOper := [
 oP 22 (.load 3 true (.t 4)),
 oP 23 (.call 10 [(.t 22)]),
 oM 24 23,
 oG 25 24 false (.load 3 true (.t 4)),
 oG 26 24 false (.call 17 [(.t 25)]),
 oG 27 24 false (.cmp .neq (.t 26) (nI 0)),
 oP 28 (.pick (.t 24) bT (.t 27)),
 oM 29 28,
 oH 30 29 false 1,
 oG 31 29 false (.len false (.t 30)),
 oG 32 29 false (.cmp .gtr (.t 31) (nI 100)),
 oP 33 (.pick (.t 29) bT (.t 32))]
def c7r2 : List AOper := [
 oP 34 (.call 11 []),
 oM 8 34]
def c7r3 : List AOper := [
 oP 36 (.load 3 true (.t 4)),
 oP 37 (.call 32 [(.t 36)]),
 oM 35 37,
 oP 38 (.ext (.t 35) 0),
 oP 39 (.ext (.t 35) 1),
 oP 40 (.ext (.t 35) 2),
 oP 9 (.alloc [(.s (.int .i64 0)), (.s (.int .i64 0))]),
 oP 10 (.alloc [(.s (.int .i64 0)), (.s (.int .i64 0))]),
 ⟨none, none, .store 2 (.t 9) (.t 38)⟩,
 ⟨none, none, .store 2 (.t 10) (.t 39)⟩,
 oM 11 40]
def c7r4 : List AOper := [
 oM 41 11,
 oP 42 (.cmp .neq (.t 41) (nI 0)),
 oM 43 42,
 oG 44 43 false (.load 2 true (.t 9)),
 oG 45 43 false (.call 30 [(.t 44)]),
 oG 46 43 false (.not (.t 45)),
 oP 47 (.pick (.t 43) bT (.t 46)),
 oM 48 47,
 oG 49 48 false (.load 2 true (.t 10)),
 oG 50 48 false (.call 30 [(.t 49)]),
 oG 51 48 false (.not (.t 50)),
 oP 52 (.pick (.t 48) bT (.t 51)),
 oM 53 52,
 oG 54 53 false (.load 2 true (.t 10)),
 oG 55 53 false (.load 2 true (.t 9)),
 oG 56 53 false (.call 33 [(.t 54), (.t 55)]),
 oP 57 (.pick (.t 53) bT (.t 56))]
def c7r5 : List AOper := [
 oP 8 (.mov bF)]
def c7r6 : List AOper := [
 oP 58 (.load 3 true (.t 4)),
 oM 59 1,
 oP 60 (.call 34 [(.t 58), (.t 59)]),
 oP 12 (.alloc [(.s (.int .i64 0)), (.full []), (.full [])]),
 ⟨none, none, .store 3 (.t 12) (.t 60)⟩]
def c7r7 : List AOper := [
 oP 62 (.load 3 true (.t 12)),
 oP 63 (.call 35 [(.t 62)]),
 oM 61 63,
 oP 64 (.ext (.t 61) 0),
 oP 65 (.ext (.t 61) 1),
 oP 13 (.alloc [(.s (.int .i64 0)), (.s (.int .i64 0))]),
 ⟨none, none, .store 2 (.t 13) (.t 64)⟩,
 oM 14 65]
def c7r8 : List AOper := [
 oM 66 14,
 oP 67 (.not (.t 66)),
 oM 68 67,
 oG 69 68 false (.load 2 true (.t 13)),
 oG 70 68 false (.load 2 true (.t 9)),
 oG 71 68 false (.call 33 [(.t 69), (.t 70)]),
 oP 72 (.pick (.t 68) bT (.t 71)),
 oM 73 72,
 oG 74 73 false (.load 2 true (.t 10)),
 oG 75 73 false (.load 2 true (.t 13)),
 oG 76 73 false (.call 33 [(.t 74), (.t 75)]),
 oP 77 (.pick (.t 73) bT (.t 76))]
def c7r9 : List AOper := [
 oP 8 (.mov bF)]
def c7r10 : List AOper := [
 oP 79 (.load 3 true (.t 12)),
 oP 80 (.call 32 [(.t 79)]),
 oM 78 80,
 oP 81 (.ext (.t 78) 0),
 oP 82 (.ext (.t 78) 1),
 oP 83 (.ext (.t 78) 2),
 oP 15 (.alloc [(.s (.int .i64 0)), (.s (.int .i64 0))]),
 oP 16 (.alloc [(.s (.int .i64 0)), (.s (.int .i64 0))]),
 ⟨none, none, .store 2 (.t 15) (.t 81)⟩,
 ⟨none, none, .store 2 (.t 16) (.t 82)⟩,
 oM 11 83]
def c7r11 : List AOper := [
 oM 84 11,
 oP 85 (.cmp .neq (.t 84) (nI 0)),
 oM 86 85,
 oG 87 86 false (.load 2 true (.t 15)),
 oG 88 86 false (.load 2 true (.t 13)),
 oG 89 86 false (.eql true [(.int .i64), (.int .i64)] true (.t 87) (.t 88)),
 oP 90 (.pick (.t 86) bT (.t 89)),
 oM 91 90,
 oG 92 91 false (.load 2 true (.t 16)),
 oG 93 91 false (.load 2 true (.t 13)),
 oG 94 91 false (.eql true [(.int .i64), (.int .i64)] true (.t 92) (.t 93)),
 oP 95 (.pick (.t 91) bT (.t 94))]
def c7r12 : List AOper := [
 oP 8 (.mov bF)]
def c7r13 : List AOper := [
 oM 96 2,
 oP 97 (.conv .i64 (.t 96)),
 oF 98 1 4,
 oL 99 98,
 oN 100 99,
 oP 101 (.div .rem (.t 97) (.t 100)),
 oM 102 3,
 oP 103 (.conv .i64 (.t 102)),
 oF 104 1 4,
 oL 105 104,
 oN 106 105,
 oP 107 (.div .rem (.t 103) (.t 106)),
 oM 17 101,
 oM 18 107]
def c7r14 : List AOper := [
 oF 108 1 4,
 oL 109 108,
 oM 110 17,
 oI 111 109 110,
 oL 112 111,
 oP 113 (.call 36 [(.t 112)]),
 oF 114 0 4,
 oL 115 114,
 oP 116 (.cmp .eql (.t 113) (.t 115))]
def c7r15 : List AOper := [
 oP 117 (.call 11 []),
 oM 8 117]
def c7r16 : List AOper := [
 oF 118 0 4,
 oL 119 118,
 oF 120 2 4,
 oL 121 120,
 oP 122 (.build [(.s (.int .i64 0)), (.full []), (.full [])] [(0, 1, (.t 119)), (2, 1, (.t 121))]),
 oP 19 (.alloc [(.s (.int .i64 0)), (.full []), (.full [])]),
 ⟨none, none, .store 3 (.t 19) (.t 122)⟩]
def c7r17 : List AOper := [
 oP 20 (.mov (nI 0))]
def c7r18 : List AOper := [
 oM 123 20,
 oF 124 1 4,
 oL 125 124,
 oN 126 125,
 oP 127 (.cmp .lss (.t 123) (.t 126))]
def c7r19 : List AOper := [
 oP 130 (.callN 1 37 [(.c (.full []))]),
 oF 131 1 4,
 oL 132 131,
 oM 133 20,
 oI 134 132 133,
 oL 135 134,
 oP 136 (.append 1 8 (.t 130) (.t 135)),
 oM 21 136]
def c7r20 : List AOper := [
 oM 137 20,
 oM 138 17,
 oP 139 (.cmp .eql (.t 137) (.t 138))]
def c7r21 : List AOper := [
 oM 140 21,
 oM 141 18,
 oI 142 140 141,
 oL 143 142,
 oP 144 (.arith .add (.t 143) (nI 1)),
 oI 145 140 141,
 ⟨none, none, .store 1 (.t 145) (.t 144)⟩]
def c7r22 : List AOper := [
 oF 146 1 19,
 oL 147 146,
 oP 148 (.frzv (.t 21)),
 oP 149 (.buildSl 1 1 (.slice []) [(0, (.t 148))]),
 oP 150 (.append 1 24 (.t 147) (.t 149)),
 oF 151 1 19,
 ⟨none, none, .store 1 (.t 151) (.t 150)⟩]
def c7r23 : List AOper := [
 oM 128 20,
 oP 129 (.arith .add (.t 128) (nI 1)),
 oM 20 129]
def c7l24 : ACode := (.seq (.seq (.reg 0 c7r18) (.cond (.t 127) .skip (.exit 0))) (.seq (.block 1 (.seq (.reg 2 c7r19) (.seq (.seq (.reg 0 c7r20) (.cond (.t 139) (.reg 0 c7r21) .skip)) (.reg 1 c7r22)))) (.reg 0 c7r23)))
def c7l24m : List Bool := [fF,fF,fF,fF,tT,fF,fF,fF,fF,tT,tT,fF,fF,fF,fF,tT,tT,tT,tT,tT,tT,fF,fF,fF,fF,fF,fF,fF,fF,fF,fF,fF,fF,fF,fF,fF,fF,fF,fF,fF,fF,fF,fF,fF,fF,fF,fF,fF,fF,fF,fF,fF,fF,fF,fF,fF,fF,fF,fF,fF,fF,fF,fF,fF,fF,fF,fF,fF,fF,fF,fF,fF,fF,fF,fF,fF,fF,fF,fF,fF,fF,fF,fF,fF,fF,fF,fF,fF,fF,fF,fF,fF,fF,fF,fF,fF,fF,fF,fF,fF,fF,fF,fF,fF,fF,fF,fF,fF,fF,fF,fF,fF,fF,fF,fF,fF,fF,fF,fF,fF,fF,fF,fF,fF,fF,fF,fF,fF,fF,fF,fF,fF,fF,fF,fF,fF,fF,fF,fF,fF,fF,fF,fF,fF,fF,fF,fF,fF,fF,fF,fF,fF,fF,fF,fF,fF,fF,fF,fF,fF,fF,fF,fF,fF,fF,fF,fF,fF,fF,fF,fF,fF,fF,fF,fF,fF,fF,fF,fF,fF,fF,fF,fF]
def c7r25 : List AOper := [
 oP 153 (.load 3 true (.t 19)),
 oP 154 (.call 32 [(.t 153)]),
 oM 152 154,
 oP 155 (.ext (.t 152) 0),
 oP 156 (.ext (.t 152) 1),
 oP 157 (.ext (.t 152) 2),
 ⟨none, none, .store 2 (.t 15) (.t 155)⟩,
 ⟨none, none, .store 2 (.t 16) (.t 156)⟩,
 oM 11 157]
def c7r26 : List AOper := [
 oM 158 11,
 oP 159 (.cmp .eql (.t 158) (nI 0)),
 oM 160 159,
 oG 161 160 true (.load 2 true (.t 15)),
 oG 162 160 true (.call 30 [(.t 161)]),
 oP 163 (.pick (.t 160) (.t 162) bF),
 oM 164 163,
 oG 165 164 true (.load 2 true (.t 16)),
 oG 166 164 true (.call 30 [(.t 165)]),
 oP 167 (.pick (.t 164) (.t 166) bF),
 oM 168 167,
 oG 169 168 true (.load 2 true (.t 15)),
 oG 170 168 true (.load 2 true (.t 9)),
 oG 171 168 true (.call 33 [(.t 169), (.t 170)]),
 oG 172 168 true (.not (.t 171)),
 oP 173 (.pick (.t 168) (.t 172) bF),
 oM 174 173,
 oG 175 174 true (.load 2 true (.t 10)),
 oG 176 174 true (.load 2 true (.t 16)),
 oG 177 174 true (.call 33 [(.t 175), (.t 176)]),
 oG 178 174 true (.not (.t 177)),
 oP 179 (.pick (.t 174) (.t 178) bF),
 oM 180 179,
 oG 181 180 true (.call 11 []),
 oP 182 (.pick (.t 180) (.t 181) bF),
 oM 8 182]
def f7 : FRow := ⟨(.seq (.reg 0 c7r0) (.seq (.seq (.reg 0 c7r1) (.cond (.t 33) (.seq (.reg 0 c7r2) .ret) .skip)) (.seq (.reg 2 c7r3) (.seq (.seq (.reg 0 c7r4) (.cond (.t 57) (.seq (.reg 0 c7r5) .ret) .skip)) (.seq (.reg 1 c7r6) (.seq (.reg 1 c7r7) (.seq (.seq (.reg 0 c7r8) (.cond (.t 77) (.seq (.reg 0 c7r9) .ret) .skip)) (.seq (.reg 2 c7r10) (.seq (.seq (.reg 0 c7r11) (.cond (.t 95) (.seq (.reg 0 c7r12) .ret) .skip)) (.seq (.reg 0 c7r13) (.seq (.seq (.reg 0 c7r14) (.cond (.t 116) (.seq (.reg 0 c7r15) .ret) .skip)) (.seq (.reg 1 c7r16) (.seq (.seq (.reg 0 c7r17) (.block 0 (.loop c7l24m [(19, some 1, 0)] c7l24))) (.seq (.reg 0 c7r25) (.seq (.reg 0 c7r26) .ret))))))))))))))), [.tmp 8], 183⟩
theorem okf7 : f7.Ok Try.prog 7 := ⟨_, _, Try.func7, rfl, by kernel_rfl, by kernel_rfl, by kernel_rfl⟩
end Go.Proofs.Ytikfhfgdmlijeaa.Sk
namespace Go.Proofs.Ytikfhfgdmlijeaa.Sk
open Go Go.E Go.E.Sm
set_option maxRecDepth 10000
theorem small_pay {s : Int} {N : List (List Int)} {p : List Int} (h : OkM s N p) (hS : (parts N).length <= 1) : smallB (paysQ s N p) = true := by
 have hd := roots_pos h hS
 have h3 := roots_32 h.s
 have h5 : 0 <= gainN s N p := gainT_nonneg h (Nat.le_refl _)
 have h6 := gain_le h
 unfold paysQ
 have h1 := lst_le hd (n := gainN s N p)
 have h2 := lst_nonneg hd h5
 have h7 := lst_mul_le hd h6
 have h4 := lst_gcd hd (n := gainN s N p)
 rw [smallB_iff]
 refine ⟨⟨by omega, by omega, h2, h7⟩, ?_⟩
 rw [show (lst (gainN s N p) (rootsN s N).sum).1.toNat = (lst (gainN s N p) (rootsN s N).sum).1.natAbs by omega, show (lst (gainN s N p) (rootsN s N).sum).2.toNat = (lst (gainN s N p) (rootsN s N).sum).2.natAbs by omega]
 exact h4
def moreN (N : List (List Int)) (i k : Nat) (l : List Int) : List (List Int) := N.set i (l.set k (l[k]?.getD 0 + 1))
theorem more_ok {s : Int} {N : List (List Int)} {p l : List Int} {i k : Nat} (h : OkR s N p) (hl : N[i]? = some l) (hk : k < N.length) (hs : ¬ l.sum = s) : OkR s (moreN N i k l) p := by
 have hm := List.mem_of_getElem? hl
 have hll := h.sq _ hm
 have hn : ∀ x ∈ l, 0 <= x := fun x hx => (h.ent l hm x hx).1
 have hle := h.le _ hm
 have hz := get_le_sum hn k
 have hz0 := get_nonneg hn k
 have hf := h.first _ hm
 have hlen : (moreN N i k l).length = N.length := List.length_set
 have key : ∀ r ∈ moreN N i k l, r ∈ N \/ r = l.set k (l[k]?.getD 0 + 1) := fun r hr => List.mem_or_eq_of_mem_set hr
 refine { n1 := by rw [hlen]; exact h.n1, n4 := by rw [hlen]; exact h.n4, sq := fun r hr => ?_, ent := fun r hr x hx => ?_, s1 := h.s1, s20 := h.s20, pl := by rw [hlen]; exact h.pl, pay := h.pay, le := fun r hr => ?_, first := fun r hr => ?_ }
 ·rw [hlen]
  rcases key r hr with hr | rfl
  ·exact h.sq r hr
  ·rw [List.length_set, hll]
 ·rcases key r hr with hr | rfl
  ·exact h.ent r hr x hx
  ·rcases List.mem_or_eq_of_mem_set hx with hx | rfl
   ·exact h.ent l hm x hx
   ·omega
 ·rcases key r hr with hr | rfl
  ·exact h.le r hr
  ·rw [sum_set (by omega)]; omega
 ·rcases key r hr with hr | rfl
  ·exact h.first r hr
  ·by_cases e : k = 0
   ·subst e
    rw [List.getElem?_set_self (by omega), Option.getD_some]; omega
   ·rw [List.getElem?_set_ne e]
    exact hf
theorem more_ge {N : List (List Int)} {l : List Int} {i k : Nat} (hl : N[i]? = some l) (hk : k < l.length) (a e : Nat) : tn N a e <= tn (moreN N i k l) a e := by
 unfold moreN
 rw [tn_set (List.getElem?_eq_some_iff.1 hl).1]
 split
 ·rename_i e1
  subst e1
  unfold tn
  rw [hl, Option.getD_some]
  by_cases e2 : e = k
  ·subst e2
   rw [List.getElem?_set_self hk, Option.getD_some]; omega
  ·rw [List.getElem?_set_ne (fun h => e2 h.symm)]
   exact Int.le_refl _
 ·exact Int.le_refl _
set_option maxHeartbeats 4000000 in
theorem law7 {s : Int} {N : List (List Int)} {p by_ : List Int} {b c : Int} (hby : ∀ x ∈ by_, 0 <= x /\ x < 256) (hb : 0 <= b /\ b < 256) (hc : 0 <= c /\ c < 256) : E.Fn Try.prog 7 [mc s N p, .slice (by_.map (.int .u8)), .int .u8 b, .int .u8 c] [.bool true] := by
 refine fn_of_row okf7 ?_
 simp only [FRow.start, f7, c7r0, c7r1, mc, SV.cells, go_sem, Nat.reduceAdd, Nat.reduceSub, true_implies]
 refine callK_of rfl (k10 (s := s) (N := N) (p := p)) (.inl rfl) ?_
 cases hg : greatB N p with
 | true =>
  simp only [c7r2, go_sem, true_implies]
  refine wk ?_
  simp only [go_sem, true_implies]
 | false =>
  simp only [go_sem, Nat.reduceAdd]
  refine callK_of rfl (k17 (s := s) (N := N) (p := p)) (.inl rfl) ?_
  by_cases h0 : chkR s N p = 0
  case neg =>
   simp only [h0, decide_false, c7r2, go_sem, true_implies]
   refine wk ?_
   simp only [go_sem, true_implies]
  case pos =>
   have h := chkR_zero.1 h0
   have hn1 := h.n1
   have hn4 := h.n4
   have hS20 := h.s20
   have h32 := k32 (s := s) (N := N) (p := p)
   unfold betR at h32
   rw [if_pos h0] at h32
   simp only [h0, decide_true, c7r2, go_sem]
   intro _
   refine ⟨fun _ => wk (by simp only [go_sem, true_implies]), fun hbl => ?_⟩
   -- both ends
   obtain ⟨⟨k1, hk1, el⟩, _⟩ := low_spec h
   obtain ⟨⟨k2, hk2, eh⟩, _⟩ := high_spec h
   have hlh := low_high h
   have hsl : smallB (lowQ s N p) = true := by rw [el]; exact small_pay (fill_ok h k1) (fill_settles h k1)
   have hsh : smallB (highQ s N p) = true := by rw [eh]; exact small_pay (fill_ok h k2) (fill_settles h k2)
   have hSl : Small (lowQ s N p) := by rw [el]; exact pays_small (fill_ok h k1) (fill_settles h k1)
   have hSh : Small (highQ s N p) := by rw [eh]; exact pays_small (fill_ok h k2) (fill_settles h k2)
   have hF := flS_fill (by_ := by_) (n := 0) h
   have hFM := hF.okM h
   have hFR := hF.okR h
   have hFS := hF.settles h
   obtain ⟨hb1, hb2⟩ := fill_between h hF
   have hsp := small_pay hFM hFS
   have hSp := pays_small hFM hFS
   have h34 := k34 h hby
   have h35 := k35 (s := s) (N := flS by_ s 0 N) (p := p)
   have hset : setE s (flS by_ s 0 N) p = 0 := by
    unfold setE
    rw [if_pos (chkM_zero.2 hFM), if_neg (by omega)]
   unfold payB at h35
   rw [if_pos hset, hsp] at h35
   have h32b := k32 (s := s) (N := flS by_ s 0 N) (p := p)
   unfold betR at h32b
   rw [if_pos (chkR_zero.2 hFR)] at h32b
   obtain ⟨ef1, ef2⟩ := full_ends hFR hFM
   have e32 : ∀ N : List (List Int), bestQ lessQ (payL s N p) = lowQ s N p := fun _ => rfl
   have e32' : ∀ N : List (List Int), bestQ moreQ (payL s N p) = highQ s N p := fun _ => rfl
   rw [e32, e32', ef1, ef2] at h32b
   rw [e32, e32'] at h32
   generalize flS by_ s 0 N = F at *
   generalize paysQ s F p = g at *
   generalize hlo : lowQ s N p = lo at *
   generalize hhi : highQ s N p = up at *
   simp only [c7r3, go_sem, Nat.reduceAdd]
   refine callK_of rfl h32 (.inl rfl) ?_
   simp only [rat, spl_two, c7r4, go_sem, Nat.reduceAdd, true_implies]
   refine callK_of (by simp only [rat, frz_two', go_sem]) (k30 (q := lo)) (.inl rfl) ?_
   simp only [hsl, go_sem, Nat.reduceAdd]
   refine callK_of (by simp only [rat, frz_two', go_sem]) (k30 (q := up)) (.inl rfl) ?_
   simp only [hsh, go_sem, Nat.reduceAdd]
   refine callK_of (by simp only [rat, frz_two', go_sem]) (k33 hSh hSl) (.inl rfl) ?_
   simp only [less_no.2 hlh, c7r6, go_sem, Nat.reduceAdd, true_implies]
   refine callK_of rfl h34 (.inr (.inl rfl)) ?_
   simp only [mc, splice, List.length_cons, List.length_nil, c7r7, go_sem, Nat.reduceAdd, true_implies]
   refine callK_of rfl h35 (.inl rfl) ?_
   simp only [rat, spl_two, c7r8, go_sem, Nat.reduceAdd, true_implies]
   refine callK_of (by simp only [rat, frz_two', go_sem]) (k33 hSp hSl) (.inl rfl) ?_
   simp only [less_no.2 hb1, go_sem, Nat.reduceAdd]
   refine callK_of (by simp only [rat, frz_two', go_sem]) (k33 hSh hSp) (.inl rfl) ?_
   simp only [less_no.2 hb2, c7r10, go_sem, Nat.reduceAdd, true_implies]
   refine callK_of rfl h32b (.inl rfl) ?_
   simp only [rat, spl_two, c7r11, go_sem, Nat.reduceAdd, true_implies]
   obtain ⟨bn, rfl⟩ : ∃ bn : Nat, b = bn := ⟨b.toNat, by omega⟩
   obtain ⟨cn, rfl⟩ : ∃ cn : Nat, c = cn := ⟨c.toNat, by omega⟩
   simp only [c7r13, intss, go_sem, Nat.reduceAdd, Nat.reduceLeDiff]
   refine ⟨inR_small (by omega) (by omega), by omega, inR_small (by omega) (by omega), by omega, fun _ => ?_⟩
   rw [show (bn : Int).tmod (N.length : Nat) = ((bn % N.length : Nat) : Int) from (Int.ofNat_tmod _ _).symm, show (cn : Int).tmod (N.length : Nat) = ((cn % N.length : Nat) : Int) from (Int.ofNat_tmod _ _).symm]
   have hi : bn % N.length < N.length := Nat.mod_lt _ hn1
   have hk : cn % N.length < N.length := Nat.mod_lt _ hn1
   generalize bn % N.length = i at *
   generalize cn % N.length = k at *
   obtain ⟨l, hl⟩ : ∃ l, N[i]? = some l := ⟨_, List.getElem?_eq_getElem hi⟩
   have hlm := List.mem_of_getElem? hl
   have hll := h.sq _ hlm
   have hle := h.ent _ hlm
   have hls := h.le _ hlm
   have h36 := k36 (l := l) (by omega) fun x hx => ⟨(hle x hx).1, by have := (hle x hx).2; omega⟩
   simp only [c7r14, hl, go_sem, Nat.reduceAdd, Nat.reduceLeDiff]
   refine callK_of (by simp only [ints, go_sem]) h36 (.inl rfl) ?_
   by_cases hsum : l.sum = s
   ·simp only [hsum, decide_true, c7r15, go_sem, Nat.reduceAdd, Nat.reduceLeDiff, true_implies]
    refine wk ?_
    simp only [go_sem, true_implies]
   ·have hM := more_ok (k := k) h hl hk hsum
    obtain ⟨q1, q2⟩ := more_ends h hM List.length_set (more_ge hl (by omega))
    obtain ⟨⟨k3, hk3, el3⟩, _⟩ := low_spec hM
    obtain ⟨⟨k4, hk4, eh4⟩, _⟩ := high_spec hM
    have hsl3 : smallB (lowQ s (moreN N i k l) p) = true := by rw [el3]; exact small_pay (fill_ok hM k3) (fill_settles hM k3)
    have hsh4 : smallB (highQ s (moreN N i k l) p) = true := by rw [eh4]; exact small_pay (fill_ok hM k4) (fill_settles hM k4)
    have hSl3 : Small (lowQ s (moreN N i k l) p) := by rw [el3]; exact pays_small (fill_ok hM k3) (fill_settles hM k3)
    have hSh4 : Small (highQ s (moreN N i k l) p) := by rw [eh4]; exact pays_small (fill_ok hM k4) (fill_settles hM k4)
    have h32c := k32 (s := s) (N := moreN N i k l) (p := p)
    unfold betR at h32c
    rw [if_pos (chkR_zero.2 hM), e32, e32'] at h32c
    rw [hlo] at q1
    rw [hhi] at q2
    have hml : (moreN N i k l).length = N.length := List.length_set
    have hget : ∀ j r, N[j]? = some r -> (moreN N i k l)[j]? = some (if j = i then r.set k (r[k]?.getD 0 + 1) else r) := fun j r hr => by
     unfold moreN
     by_cases e : j = i
     ·subst e
      rw [hl] at hr
      cases hr
      rw [List.getElem?_set_self hi, if_pos rfl]
     ·rw [List.getElem?_set_ne (fun h => e h.symm), hr, if_neg e]
    generalize moreN N i k l = N2 at *
    generalize lowQ s N2 p = lo2 at *
    generalize highQ s N2 p = up2 at *
    simp only [hsum, decide_false, c7r16, c7r17, cells_is, splice, List.length_cons, List.length_nil, go_sem, ↓reduceIte, Nat.reduceAdd, Nat.reduceLeDiff, true_implies]
    refine loop_rule (fun m τ => ∃ j : Nat, m = N.length - j /\ j <= N.length /\
     τ = ⟨(aN::aN::aN::aN::(.s (.ptr [.int .i64 s, intss N, ints p]))::aN::aN::aN::aN::(.loc 0 0)::(.loc 1 0)::aN::aN::aN::aN::(.loc 4 0)::(.loc 5 0)::(aI i)::(aI k)::(.loc 6 0)::(aI j)::aN::aN::aZ160),
      [.obj [aI lo.1, aI lo.2], .obj [aI up.1, aI up.2], .obj [aI s, .s (intss F), .s (ints p)], .obj [aI g.1, aI g.2], .obj [aI g.1, aI g.2], .obj [aI g.1, aI g.2],
       .obj [aI s, .sl 7 0 j 1 false, .s (ints p)], .row ((N2.take j).map ints)]⟩) N.length (promo_cell2 rfl rfl rfl) ?_ ?_
    ·simp only [c7l24m, go_sem, ↓reduceIte, reduceCtorEq, Nat.reduceAdd, Nat.reduceLeDiff]
     exact ⟨0, rfl, Nat.zero_le _, rfl⟩
    ·rintro I m τ ⟨j, rfl, hj, rfl⟩ hI
     simp only [c7l24, c7r18, intss, go_sem, ↓reduceIte, Nat.reduceAdd, Nat.reduceLeDiff]
     intro _
     refine ⟨fun hlt => ?_, fun hge => ?_⟩
     ·obtain ⟨r, hr⟩ : ∃ r, N[j]? = some r := ⟨_, List.getElem?_eq_getElem hlt⟩
      have hrm := List.mem_of_getElem? hr
      have hrl := h.sq _ hrm
      have hre := h.ent _ hrm
      have hne : r.map (SV.int .i64) ≠ [] := fun e => by have := congrArg List.length e; rw [List.length_map, List.length_nil] at this; omega
      simp only [c7r19, go_sem, Nat.reduceAdd]
      refine .inr ⟨_, _, n37, .inl ⟨rfl, rfl⟩, by decide, by simp, rfl, ?_⟩
      simp only [ints, hr, go_sem, ↓reduceIte, Nat.reduceAdd, Nat.reduceLeDiff]
      refine ⟨⟨by simp, cells_ints, by simp only [List.length_nil, List.length_map]; omega, by simp only [List.length_nil, List.length_map]; omega, by decide⟩, ?_⟩
      rw [newRowK_def]
      refine ⟨fun e => absurd e hne, fun _ => ⟨rfl, ?_⟩⟩
      have h2 := hget j r hr
      have hts : N2.take (j + 1) = N2.take j ++ [if j = i then r.set k (r[k]?.getD 0 + 1) else r] := by rw [List.take_succ, h2]; rfl
      by_cases e : j = i
      case' pos =>
       obtain ⟨z, hz⟩ : ∃ z, r[k]? = some z := ⟨_, List.getElem?_eq_getElem (by omega)⟩
       have hzb := hre _ (List.mem_of_getElem? hz)
       have hspl := spl_row (R := r) (i := k) (x := z + 1) (by omega)
       have a1 : ((j : Int) = i) = True := eq_true (by omega)
       rw [if_pos e, hz, Option.getD_some] at hts
       have hxl : (r.set k (z + 1)).length = N.length := by rw [List.length_set, hrl]
       simp only [flatE_ints, c7r20, a1, decide_true, c7r21, hz, Nat.mul_one, go_sem, Nat.reduceAdd, true_implies]
       refine ⟨by omega, inR_small (by omega) (by omega), by omega, by omega, ?_⟩
       rw [hspl]
       generalize r.set k (z + 1) = x at *
      case' neg =>
       have a1 : ((j : Int) = i) = False := eq_false (by omega)
       rw [if_neg e] at hts
       have hxl := hrl
       simp only [flatE_ints, c7r20, a1, decide_false, go_sem, Nat.reduceAdd, true_implies]
       generalize r = x at *
      all_goals
       simp only [c7r22, go_sem, Nat.reduceAdd, Nat.reduceLeDiff, Nat.reduceMul]
       refine ⟨_, rowOf_all (by rw [List.length_map] <;> omega), by decide, by decide, rfl, one_s rfl, one_s rfl, by rw [List.length_take]; omega, by omega, by omega, ?_⟩
       have e3 : (N2.take j).map ints ++ flatE [SV.slice (x.map (.int .i64))] = (N2.take (j + 1)).map ints := by
        rw [hts, List.map_append]; rfl
       rw [e3]
       simp only [c7r23, c7l24m, Nat.reduceBEq, Bool.false_eq_true, BEq.rfl, go_sem, ↓reduceIte, Nat.reduceAdd, Nat.reduceLeDiff, true_implies]
       exact ⟨inR_small (by omega) (by omega), hI (N.length - (j + 1)) _ (by omega) ⟨j + 1, rfl, by omega, rfl⟩⟩
     ·have hje : j = N.length := by omega
      subst hje
      rw [List.take_of_length_le (by omega)]
      have hsl2 : sliceOf 0 N.length 1 (N2.map ints) = some (intss N2) := by rw [<- hml]; exact slice_intss
      simp only [c7r25, go_sem, Nat.reduceAdd]
      refine callK_of (by simp only [hsl2, mc, intss, ints, go_sem]) h32c (.inl rfl) ?_
      simp only [rat, spl_two, c7r26, go_sem, Nat.reduceAdd, true_implies]
      refine callK_of (by simp only [rat, frz_two', go_sem]) (k30 (q := lo2)) (.inl rfl) ?_
      simp only [hsl3, go_sem, Nat.reduceAdd]
      refine callK_of (by simp only [rat, frz_two', go_sem]) (k30 (q := up2)) (.inl rfl) ?_
      simp only [hsh4, go_sem, Nat.reduceAdd]
      refine callK_of (by simp only [rat, frz_two', go_sem]) (k33 hSl3 hSl) (.inl rfl) ?_
      simp only [less_no.2 q1, go_sem, Nat.reduceAdd]
      refine callK_of (by simp only [rat, frz_two', go_sem]) (k33 hSh hSh4) (.inl rfl) ?_
      simp only [less_no.2 q2, go_sem]
      refine wk ?_
      simp only [go_sem, true_implies]
end Go.Proofs.Ytikfhfgdmlijeaa.Sk
