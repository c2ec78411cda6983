/- Contracts: a machine is played again. -/
import Derived.Test.YtdlfkbpddfeenaaGreatDoorJ7

set_option linter.all false

namespace Go.Proofs.YtdlfkbpddfeenaaGreatDoor.Sk
open Go Go.E Go.E.Sm
set_option maxRecDepth 10000
def bks (mk : Int) (b : Ent) (a : Int) : Bool := decide (b.k = 5 /\ b.n <= mk /\ b.a = a)
def stl (mk : Int) (A : List Ent) : List Ent := A.filter fun e => decide (e.n <= mk)
def lfs (mk : Int) (ys A : List Ent) : List Ent := A.filter fun e => !(ys.any fun b => bks mk b e.n)
theorem lft_any {L : List Ent} {m n : Int} (hok : OkS L) : lft L m n = (atE L m).any fun b => bks (mark L m) b n := by
 rw [Bool.eq_iff_iff];unfold lft;rw [List.any_eq_true, List.any_eq_true];constructor
 ·rintro ⟨j, hj, h⟩
  rw [List.mem_range] at hj
  cases hf : fnd L m ((j + 1 : Nat) : Int) with
  | none => rw [hf] at h; cases h
  | some e =>
   rw [hf] at h;have h := of_decide_eq_true h;obtain ⟨h1, h2, h3⟩ := fnd_some hf;exact ⟨e, List.mem_filter.2 ⟨h1, by simpa using h2⟩, by unfold bks; exact decide_eq_true ⟨h.1, by omega, h.2⟩⟩
 ·rintro ⟨b, hb, h⟩
  obtain ⟨hb1, hb2⟩ := List.mem_filter.1 hb;have hb2 : b.m = m := by simpa using hb2
  unfold bks at h;have h := of_decide_eq_true h;have hn := (hok.ent b hb1).n1;refine ⟨b.n.toNat - 1, List.mem_range.2 (by omega), ?_⟩
  have hf := fnd_mem hok.ord hb1;rw [hb2] at hf;rw [show ((b.n.toNat - 1 + 1 : Nat) : Int) = b.n from by omega, hf]
  exact decide_eq_true ⟨h.1, h.2.2⟩
theorem fnd_left {L : List Ent} {m : Int} (hok : OkS L) {j : Nat} (hj : j < mark L m) : ∃ e ∈ L, fnd L m ((j + 1 : Nat) : Int) = some e /\
  fnd (lfs (mark L m) (atE L m) (stl (mark L m) (atE L m))) m ((j + 1 : Nat) : Int) = if lft L m ((j + 1 : Nat) : Int) then none else some e := by
 have hh := (mark_spec (m := m) fun e he => (hok.ent e he).n30).1 (j + 1) (by omega) (by omega)
 cases hf : fnd L m ((j + 1 : Nat) : Int) with
 | none => rw [has_no.2 hf] at hh; cases hh
 | some e =>
  obtain ⟨h1, h2, h3⟩ := fnd_some hf;refine ⟨e, h1, rfl, ?_⟩;have hl := lft_any (m := m) (n := ((j + 1 : Nat) : Int)) hok
  cases hlf : lft L m ((j + 1 : Nat) : Int) with
  | true =>
   rw [if_pos rfl, fnd_none];rintro y hy ⟨hy1, hy2⟩;have := (List.mem_filter.1 hy).2;rw [hy2, <- hl, hlf] at this
   cases this
  | false =>
   rw [if_neg (by simp)]
   have hm : e ∈ lfs (mark L m) (atE L m) (stl (mark L m) (atE L m)) := by
    refine List.mem_filter.2 ⟨List.mem_filter.2 ⟨List.mem_filter.2 ⟨h1, by simpa using h2⟩, by simp; omega⟩, ?_⟩
    rw [h3, <- hl, hlf]; rfl
   have hp : (lfs (mark L m) (atE L m) (stl (mark L m) (atE L m))).Pairwise Bef := ((hok.ord.filter _).filter _).filter _;have := fnd_mem hp hm
   rwa [h2, h3] at this
theorem mCut_key {m a : Int} : ∀ {A : List Ent}, (∀ e ∈ A, e.m = m) -> A.Pairwise (fun x y => x.n < y.n) ->
  mCut (A.map keyE) (A.map ent) (mFind (key m a) (A.map keyE)) = .map ((A.filter fun e => decide (e.n ≠ a)).map keyE) ((A.filter fun e => decide (e.n ≠ a)).map ent)
 | [], _, _ => rfl
 | x :: A, hm, hp => by
  obtain ⟨h1, h2⟩ := List.pairwise_cons.1 hp;have hx := hm x (by simp)
  simp only [List.map_cons, mFind]
  by_cases h : x.n = a
  ·rw [if_pos (show key m a = keyE x from key_eq.2 ⟨hx.symm, h.symm⟩), List.filter_cons_of_neg (by simpa using h), List.filter_eq_self.2 fun y hy => by have := h1 y hy; simp; omega]
   rfl
  ·have ih := mCut_key (a := a) (fun e he => hm e (List.mem_cons_of_mem _ he)) h2
   rw [if_neg (show ¬ key m a = keyE x from fun hk => h (key_eq.1 hk).2.symm), List.filter_cons_of_pos (by simpa using h)]
   cases hf : mFind (key m a) (A.map keyE) with
   | none =>
    rw [hf] at ih;simp only [mCut, ABlock.map.injEq] at ih;simp only [Option.map_none, mCut, List.map_cons];rw [<- ih.1, <- ih.2]
   | some i =>
    rw [hf] at ih;simp only [mCut, ABlock.map.injEq] at ih;simp only [Option.map_some, mCut, List.map_cons, List.eraseIdx_cons_succ];rw [<- ih.1, <- ih.2]
theorem lfs_snoc {mk : Int} {ys A : List Ent} {z : Ent} : lfs mk (ys ++ [z]) A = if z.k = 5 /\ z.n <= mk then (lfs mk ys A).filter (fun e => decide (e.n ≠ z.a)) else lfs mk ys A := by
 unfold lfs
 split
 ·rename_i h
  rw [List.filter_filter]
  congr 1
  funext e
  rw [List.any_append, List.any_cons, List.any_nil, Bool.or_false];unfold bks
  cases ys.any fun b => decide (b.k = 5 /\ b.n <= mk /\ b.a = e.n) <;> simp [h.1, h.2]
  exact ⟨fun h2 => h2.symm, fun h2 => h2.symm⟩
 ·rename_i h
  congr 1
  funext e
  rw [List.any_append, List.any_cons, List.any_nil, Bool.or_false];have : bks mk z e.n = false := by unfold bks; exact decide_eq_false fun h2 => h ⟨h2.1, h2.2.1⟩
  rw [this, Bool.or_false]
theorem stl_snoc {mk : Int} {A : List Ent} {z : Ent} : stl mk (A ++ [z]) = if z.n <= mk then stl mk A ++ [z] else stl mk A := by
 unfold stl; rw [List.filter_append]
 by_cases h : z.n <= mk <;> simp [h]
theorem mks_at {L : List Ent} (hok : OkS L) {m : Int} (h0 : 0 <= m) (h4 : m <= 4) : (mks L)[m.toNat]? = some (.int .i64 (mark L m)) := by
 rw [mks_mark hok];have : m = 0 \/ m = 1 \/ m = 2 \/ m = 3 \/ m = 4 := by omega
 rcases this with rfl | rfl | rfl | rfl | rfl <;> rfl
@[go_sem] theorem dsk_cells {L : List Ent} : (dsk L).cells = [dsk L] := rfl
@[go_sem] theorem agg_dsk {L : List Ent} : (dsk L).isAgg = false := rfl
theorem promo_loc {d sz off b o : Nat} {σ : AState} {cs : List LV} (h : fget σ.fr d = .loc b o) (h1 : σ.hp[b]? = some (.obj cs)) (h2 : cs[o + off]? = some (.full [])) :
  promote [(d, some off, sz)] σ = { fr := σ.fr, hp := σ.hp.set b (.obj (cs.set (o + off) (.sl σ.hp.length 0 0 (sz + 1) false))) ++ [.row []] } := by
 simp only [promote, promote1, h, h1, h2]
theorem rlOf0 : rlOf e0.k = rule 0 .nilf .nilf := rfl
theorem rlIs0 : rlIs e0.k = false := rfl
theorem k72 {L : List Ent} {m : Int} (hok : OkS L) (h0 : 0 <= m) (h4 : m <= 4) : E.Fn Tryz.prog 72 [dsk L, .int .i64 m] [stV (stL L m)] := by
 refine fn_of_brow okt72 ?_;generalize hr : stL L m = r;have hsrt := atE_srt (m := m) hok.ord;have hbd : ∀ e ∈ atE L m, OkE e /\ e.m = m := fun e he => ⟨hok.ent e (List.mem_filter.1 he).1, by simpa using (List.mem_filter.1 he).2⟩
 have hmk := (mark_spec (m := m) fun e he => (hok.ent e he).n30).2.2
 have hat := mks_at hok h0 h4;have hml : (mks L).length = 5 := rfl;have hq : (List.drop (m.toNat * 1) (mks L))[0]? = some (.int .i64 (mark L m)) := by rw [Nat.mul_one, List.getElem?_drop, Nat.add_zero]; exact hat
 generalize hmkv : mark L m = mk at hmk hat hq;simp only [BRow.start, t72, c72r0, c72r1, c72r2, c72r3, c72r4, go_sem, Nat.reduceAdd, Nat.reduceSub, true_implies];refine ⟨by kernel_rfl, callK_of (by simp only [go_sem]) (k92 (L := L) (m := m)) (.inr (.inl (by simp only [go_sem]))) ?_⟩
 simp only [spl_one, go_sem, true_implies]
 refine range_rule (fun vs H => ∃ (ys zs : List Ent), atE L m = ys ++ zs /\ vs = zs.map ent /\
   H = [.obj [aI 0, aI 0, aI 0, aI 0, aI 0, .full []], .obj [aI 0, aI 0, aI 0, aI 0, aI 0, .full []],
    .map ((stl mk ys).map keyE) ((stl mk ys).map ent), .obj [.mp 2]]) rfl (by kernel_rfl) rfl (y119 (L := L) (m := m)) (by decide) ⟨[], atE L m, rfl, rfl, rfl⟩ rfl ?_ ?_
 rotate_left
 ·rintro v vs H I ⟨ys, zs, h1, h2, rfl⟩ hI
  cases zs with
  | nil => simp at h2
  | cons z zs =>
   simp only [List.map_cons, List.cons.injEq] at h2;obtain ⟨rfl, rfl⟩ := h2;have hs := stl_snoc (mk := mk) (A := ys) (z := z);have hz := hbd z (by rw [h1]; simp)
   simp only [c72b8a, c72b8, c72r5, c72r6, ent, spl4, dsk, h0, hq, go_sem, ↓reduceIte, reduceCtorEq, Nat.reduceAdd, Nat.reduceSub, Nat.reduceLeDiff, true_implies];refine ⟨by omega, by rw [hml]; omega, ?_⟩
   refine ⟨fun hle => ?_, fun hgt => ?_⟩
   ·have hfn : fnd (stl mk ys) z.m z.n = none := fnd_none.2 fun y hy hyz => by
     have hp := hsrt;rw [h1] at hp;have := (List.pairwise_append.1 hp).2.2 y (List.mem_filter.1 hy).1 z (by simp)
     omega
    have hm := mFind_new hfn;unfold key at hm;simp only [c72r7, go_sem, Nat.reduceAdd];refine callK_of (by simp only [ent, go_sem]) (k62 (e := z)) (.inl rfl) ?_
    simp only [go_sem, ↓reduceIte, reduceCtorEq, Nat.reduceAdd, Nat.reduceLeDiff, true_implies];refine ⟨key_ok, ?_⟩;rw [hm, mPut_new];rw [if_pos hle] at hs;refine hI _ ⟨ys ++ [z], zs, by rw [h1, List.append_assoc]; rfl, rfl, ?_⟩
    rw [hs, List.map_append, List.map_append];rfl
   ·rw [if_neg hgt] at hs
    refine hI _ ⟨ys ++ [z], zs, by rw [h1, List.append_assoc]; rfl, rfl, ?_⟩
    rw [hs]
 rintro H ⟨ys, zs, h1, h2, rfl⟩;have hz : zs = [] := by simpa using h2.symm
 subst hz;rw [List.append_nil] at h1;subst h1;simp only [c72r9, go_sem, ↓reduceIte, reduceCtorEq, Nat.reduceAdd, Nat.reduceSub, Nat.reduceLeDiff];refine ⟨by kernel_rfl, callK_of (by simp only [go_sem]) (k92 (L := L) (m := m)) (.inr (.inl (by simp only [go_sem]))) ?_⟩
 simp only [go_sem, true_implies]
 refine range_rule (fun vs H => ∃ (ys zs : List Ent), atE L m = ys ++ zs /\ vs = zs.map ent /\
   H = [.obj [aI 0, aI 0, aI 0, aI 0, aI 0, .full []], .obj [aI 0, aI 0, aI 0, aI 0, aI 0, .full []],
    .map ((lfs mk ys (stl mk (atE L m))).map keyE) ((lfs mk ys (stl mk (atE L m))).map ent), .obj [.mp 2]]) rfl (by kernel_rfl) rfl (y119 (L := L) (m := m)) (Nat.zero_le _) ⟨[], atE L m, rfl, rfl, by rw [show lfs mk [] (stl mk (atE L m)) = stl mk (atE L m) from List.filter_eq_self.2 fun _ _ => rfl]⟩ rfl ?_ ?_
 rotate_left
 ·rintro v vs H I ⟨ys, zs, h1, h2, rfl⟩ hI
  cases zs with
  | nil => simp at h2
  | cons z zs =>
   simp only [List.map_cons, List.cons.injEq] at h2;obtain ⟨rfl, rfl⟩ := h2;have hs := lfs_snoc (mk := mk) (ys := ys) (A := stl mk (atE L m)) (z := z);have hz := hbd z (by rw [h1]; simp)
   have hsub : ∀ e ∈ lfs mk ys (stl mk (atE L m)), e.m = m := fun e he => (hbd e (List.mem_filter.1 (List.mem_filter.1 he).1).1).2
   have hps : (lfs mk ys (stl mk (atE L m))).Pairwise (fun x y => x.n < y.n) := (hsrt.filter _).filter _
   have hcut := mCut_key (m := m) (a := z.a) hsub hps;unfold key at hcut;simp only [c72b13a, c72b13, c72r10, c72r11, ent, spl4, go_sem, ↓reduceIte, reduceCtorEq, Nat.reduceAdd, Nat.reduceSub, Nat.reduceLeDiff, true_implies];refine ⟨fun h5 => ?_, fun h5 => ?_⟩
   ·simp only [dsk, h0, hq, go_sem, ↓reduceIte, reduceCtorEq, Nat.reduceAdd, Nat.reduceLeDiff, true_implies]
    refine ⟨by omega, by rw [hml]; omega, fun hle => ?_, fun hgt => ?_⟩
    ·simp only [c72r12, go_sem, ↓reduceIte, reduceCtorEq, Nat.reduceAdd, Nat.reduceLeDiff, true_implies]
     refine ⟨key_ok, ?_⟩;rw [hcut];rw [if_pos ⟨h5, hle⟩] at hs;refine hI _ ⟨ys ++ [z], zs, by rw [h1, List.append_assoc]; rfl, rfl, ?_⟩
     rw [hs];rfl
    ·rw [if_neg fun h => hgt h.2] at hs
     refine hI _ ⟨ys ++ [z], zs, by rw [h1, List.append_assoc]; rfl, rfl, ?_⟩
     rw [hs]
   ·rw [if_neg fun h => h5 h.1] at hs
    refine hI _ ⟨ys ++ [z], zs, by rw [h1, List.append_assoc]; rfl, rfl, ?_⟩
    rw [hs]
 rintro H ⟨ys, zs, h1, h2, rfl⟩;have hz : zs = [] := by simpa using h2.symm
 subst hz;rw [List.append_nil] at h1;generalize hA : atE L m = A at *;subst h1;generalize hK : lfs mk A (stl mk A) = K;simp only [c72r14, dsk, h0, hq, go_sem, ↓reduceIte, reduceCtorEq, Nat.reduceAdd, Nat.reduceSub, Nat.reduceLeDiff, true_implies];refine ⟨by omega, by rw [hml]; omega, ?_⟩
 refine loop_rule (fun k τ => ∃ i : Nat, k = mk - i /\ i <= mk /\ τ = ⟨(aN::aN::aN::(.s (.ptr [.int .i64 m]))::(.loc 0 0)::(.loc 1 0)::aN::(.loc 3 0)::aN::aN::aN::aN::aN::aN::aN::aN::aN::aN::aN::aN::aN::aN::aN::aN::aN::aN::aN::aN::aN::aN::aN::aN::aN::aN::aN::aN::aN::aN::aN::aN::aN::aN::aN::aN::aN::aN::aN::aN::aN::aN::aN::aN::aN::aN::aN::aN::aN::aN::aN::aN::aN::aN::aN::(aI mk)::(aI i)::aN::aN::aN::aN::aN::aZ40),
   [.obj [aI 0, aI 0, aI 0, aI 0, aI 0, .full []], stO (stT L m i) (.sl 4 0 (stT L m i).f.length 1 false), .map (K.map keyE) (K.map ent), .obj [.mp 2], .row ((stT L m i).f.map (.int .i64))]⟩) mk (promo_loc rfl rfl rfl) ?_ ?_
 ·simp only [c72l24m, go_sem, ↓reduceIte, reduceCtorEq, Nat.reduceAdd, Nat.reduceLeDiff]
  exact ⟨0, rfl, Nat.zero_le _, rfl⟩
 rintro I k τ ⟨i, rfl, hi, rfl⟩ hI;have hbk := stT_bd (m := m) hok (j := i);have hb := hbk.bd (by omega)
 have hf1 := hbk.f1;have hT : stT L m (i + 1) = if lft L m ((i + 1 : Nat) : Int) then stT L m i else match fnd L m ((i + 1 : Nat) : Int) with | some e => nxS (stT L m i) e | none => stT L m i := rfl
 have hL : stT L m mk = r := by rw [<- hr, <- hmkv]; rfl
 generalize hS : stT L m i = s at hb hbk hf1 hT;simp only [c72l24, c72r15, stO, go_sem, ↓reduceIte, Nat.reduceAdd, true_implies];refine ⟨fun hlt => ?_, fun hge => ?_⟩
 rotate_left
 ·have hie : i = mk := by omega
  subst hie;rw [hS] at hL;subst hL;simp only [c72r25, stV, spl6, slice_all rfl, go_sem, Nat.reduceAdd, true_implies]
 obtain ⟨e, heL, hfe, hfK⟩ := fnd_left (m := m) hok (j := i) (by rw [hmkv]; exact hlt)
 rw [hmkv, hA, hK] at hfK;rw [hfe] at hT;have hmf := mFind_key (m := m) (n := ((i + 1 : Nat) : Int)) (L := K);unfold key at hmf;have e1 : ((i : Nat) : Int) + 1 = ((i + 1 : Nat) : Int) := rfl;simp only [c72r16, c72r17, e1, go_sem, ↓reduceIte, Nat.reduceAdd, Nat.reduceLeDiff, true_implies];refine ⟨inR_small (by omega) (by omega), key_ok, ?_⟩
 cases hm : mFind (SV.agg [.int .i64 m, .int .i64 ((i + 1 : Nat) : Int)]) (K.map keyE) with
 | none =>
  rw [hm] at hmf
  have hl : lft L m ((i + 1 : Nat) : Int) = true := by
   cases h : lft L m ((i + 1 : Nat) : Int) with
   | true => rfl
   | false => rw [h, hmf] at hfK; simp at hfK
  rw [hl, if_pos rfl] at hT;simp only [mgetI_no, spl4, go_sem, Nat.reduceAdd, Nat.reduceLeDiff, true_implies];simp only [c72r18, go_sem];refine callK_of (by simp only [go_sem]) k95 (.inr (.inl (by simp only [go_sem]))) ?_
  simp only [go_sem];refine callK_of (by simp only [go_sem]; rfl) (k94 (e := e0)) (.inr (.inl (by simp only [go_sem]; rfl))) ?_
  rw [rlOf0, rlIs0];simp only [rule, spl_3, c72r19, c72r23, c72l24m, go_sem, ↓reduceIte, reduceCtorEq, Nat.reduceAdd, Nat.reduceLeDiff, true_implies];exact ⟨inR_small (by omega) (by omega), hI (mk - (i + 1)) _ (by omega) ⟨i + 1, rfl, by omega, by rw [hT]; rfl⟩⟩
 | some j =>
  rw [hm] at hmf;obtain ⟨e', hj, hfe'⟩ := hmf
  have hl : lft L m ((i + 1 : Nat) : Int) = false := by
   cases h : lft L m ((i + 1 : Nat) : Int) with
   | false => rfl
   | true => rw [h, hfe'] at hfK; simp at hfK
  have hee : e' = e := by rw [hl, hfe'] at hfK; simpa using hfK
  subst hee;rw [hl, if_neg (by simp)] at hT
  have hT : stT L m (i + 1) = nxS s e' := hT;have he := hok.ent e' heL;simp only [mgetI_hit (ent_at hj), ent_cells, spl4, go_sem, Nat.reduceAdd, Nat.reduceLeDiff, true_implies];simp only [c72r18, go_sem];refine callK_of (by simp only [go_sem]) k95 (.inr (.inl (by simp only [go_sem]))) ?_
  simp only [go_sem];refine callK_of (by simp only [go_sem]) (k94 (e := e')) (.inr (.inl (by simp only [go_sem]))) ?_
  have hkk : e'.k = 1 \/ e'.k = 2 \/ e'.k = 3 \/ e'.k = 4 \/ e'.k = 5 := by have := he.k1; have := he.k5; omega
  rcases hkk with h | h | h | h | h
  ·have q1 : rlOf e'.k = rl1 := by unfold rlOf; rw [if_pos h]
   have q2 : rlIs e'.k = true := by unfold rlIs; rw [h]; rfl
   rw [q1, q2];simp only [rl1, rule, spl_3, c72r19, c72r20, go_sem, Nat.reduceAdd, Nat.reduceLeDiff, true_implies];refine ⟨by kernel_rfl, callK_of (by simp only [slice_all rfl, stV, go_sem]) (k120 (s := s) (n := e'.a)) (.inl rfl) ?_⟩
   simp only [go_sem, Nat.reduceAdd, true_implies]
   ·have hT2 : stT L m (i + 1) = { s with c := s.c + e'.a, h := s.h + e'.a } := by
     rw [hT]; unfold nxS;rw [if_neg (by unfold rfs; simp; omega), if_pos h]
    simp only [c72r21, callvIK_s, go_sem, Nat.reduceAdd, Nat.reduceLeDiff, true_implies];refine ⟨by kernel_rfl, _, _, k124 (b := 1) (s := s) (v := .sl 4 0 s.f.length 1 false) rfl hb he.a0 he.a100 rfl rfl, ?_⟩
    simp only [stO, c72r23, c72l24m, go_sem, ↓reduceIte, reduceCtorEq, Nat.reduceAdd, Nat.reduceLeDiff, true_implies];refine ⟨inR_small (by omega) (by omega), hI (mk - (i + 1)) _ (by omega) ⟨i + 1, rfl, by omega, ?_⟩⟩
    rw [hT2];rfl
  ·have q1 : rlOf e'.k = rl2 := by unfold rlOf; rw [if_neg (by omega), if_pos h]
   have q2 : rlIs e'.k = true := by unfold rlIs; rw [h]; rfl
   rw [q1, q2];simp only [rl2, rule, spl_3, c72r19, c72r20, go_sem, Nat.reduceAdd, Nat.reduceLeDiff, true_implies];refine ⟨by kernel_rfl, callK_of (by simp only [slice_all rfl, stV, go_sem]) (k123 (s := s) (n := e'.a)) (.inl rfl) ?_⟩
   by_cases hc : 0 < s.c /\ e'.a <= s.h
   ·rw [show (decide (0 < s.c) && decide (e'.a <= s.h)) = true from by simp [hc]]
    simp only [go_sem, Nat.reduceAdd, true_implies]
    have hT2 : stT L m (i + 1) = { s with c := s.c - 1, h := s.h - e'.a, p := s.p + e'.a } := by
     rw [hT]; unfold nxS;rw [if_neg (by unfold rfs; simp; omega), if_neg (by omega), if_pos h]
    simp only [c72r21, callvIK_s, go_sem, Nat.reduceAdd, Nat.reduceLeDiff, true_implies];refine ⟨by kernel_rfl, _, _, k125 (b := 1) (s := s) (v := .sl 4 0 s.f.length 1 false) rfl hb he.a0 he.a100 rfl rfl, ?_⟩
    simp only [stO, c72r23, c72l24m, go_sem, ↓reduceIte, reduceCtorEq, Nat.reduceAdd, Nat.reduceLeDiff, true_implies];refine ⟨inR_small (by omega) (by omega), hI (mk - (i + 1)) _ (by omega) ⟨i + 1, rfl, by omega, ?_⟩⟩
    rw [hT2];rfl
   ·rw [show (decide (0 < s.c) && decide (e'.a <= s.h)) = false from by simp; omega]
    have hc0 := hb.c0;simp only [go_sem, Nat.reduceAdd, true_implies];have hT2 : stT L m (i + 1) = { s with f := s.f ++ [e'.n] } := by rw [hT]; unfold nxS; rw [if_pos (by unfold rfs; exact decide_eq_true (by omega))]
    simp only [c72r22, List.length_map, go_sem, Nat.reduceAdd, Nat.reduceLeDiff, Nat.reduceMul];refine ⟨by decide, by decide, rfl, one_cells, one_cells, by omega, by omega, by omega, ?_⟩
    simp only [spl6f, c72r23, c72l24m, Nat.reduceBEq, Bool.false_eq_true, beq_self_eq_true, go_sem, ↓reduceIte, Nat.reduceAdd, Nat.reduceLeDiff, true_implies];refine ⟨inR_small (by omega) (by omega), hI (mk - (i + 1)) _ (by omega) ⟨i + 1, rfl, by omega, ?_⟩⟩
    rw [hT2, stO, List.length_append, List.map_append];rfl
  ·have q1 : rlOf e'.k = rl3 := by unfold rlOf; rw [if_neg (by omega), if_neg (by omega), if_pos h]
   have q2 : rlIs e'.k = true := by unfold rlIs; rw [h]; rfl
   rw [q1, q2];simp only [rl3, rule, spl_3, c72r19, c72r20, go_sem, Nat.reduceAdd, Nat.reduceLeDiff, true_implies];refine ⟨by kernel_rfl, callK_of (by simp only [slice_all rfl, stV, go_sem]) (k121 (s := s) (n := e'.a)) (.inl rfl) ?_⟩
   by_cases hc : e'.a <= s.h
   ·rw [decide_eq_true hc]
    simp only [go_sem, Nat.reduceAdd, true_implies]
    have hT2 : stT L m (i + 1) = { s with h := s.h - e'.a, b := s.b + e'.a } := by
     rw [hT]; unfold nxS;rw [if_neg (by unfold rfs; simp; omega), if_neg (by omega), if_neg (by omega), if_pos h]
    simp only [c72r21, callvIK_s, go_sem, Nat.reduceAdd, Nat.reduceLeDiff, true_implies];refine ⟨by kernel_rfl, _, _, k126 (b := 1) (s := s) (v := .sl 4 0 s.f.length 1 false) rfl hb he.a0 he.a100 rfl rfl, ?_⟩
    simp only [stO, c72r23, c72l24m, go_sem, ↓reduceIte, reduceCtorEq, Nat.reduceAdd, Nat.reduceLeDiff, true_implies];refine ⟨inR_small (by omega) (by omega), hI (mk - (i + 1)) _ (by omega) ⟨i + 1, rfl, by omega, ?_⟩⟩
    rw [hT2];rfl
   ·rw [decide_eq_false hc]
    simp only [go_sem, Nat.reduceAdd, true_implies];have hT2 : stT L m (i + 1) = { s with f := s.f ++ [e'.n] } := by rw [hT]; unfold nxS; rw [if_pos (by unfold rfs; exact decide_eq_true (by omega))]
    simp only [c72r22, List.length_map, go_sem, Nat.reduceAdd, Nat.reduceLeDiff, Nat.reduceMul];refine ⟨by decide, by decide, rfl, one_cells, one_cells, by omega, by omega, by omega, ?_⟩
    simp only [spl6f, c72r23, c72l24m, Nat.reduceBEq, Bool.false_eq_true, beq_self_eq_true, go_sem, ↓reduceIte, Nat.reduceAdd, Nat.reduceLeDiff, true_implies];refine ⟨inR_small (by omega) (by omega), hI (mk - (i + 1)) _ (by omega) ⟨i + 1, rfl, by omega, ?_⟩⟩
    rw [hT2, stO, List.length_append, List.map_append];rfl
  ·have q1 : rlOf e'.k = rl4 := by unfold rlOf; rw [if_neg (by omega), if_neg (by omega), if_neg (by omega), if_pos h]
   have q2 : rlIs e'.k = true := by unfold rlIs; rw [h]; rfl
   rw [q1, q2];simp only [rl4, rule, spl_3, c72r19, c72r20, go_sem, Nat.reduceAdd, Nat.reduceLeDiff, true_implies];refine ⟨by kernel_rfl, callK_of (by simp only [slice_all rfl, stV, go_sem]) (k122 (s := s) (n := e'.a)) (.inl rfl) ?_⟩
   by_cases hc : e'.a <= s.b
   ·rw [decide_eq_true hc]
    simp only [go_sem, Nat.reduceAdd, true_implies]
    have hT2 : stT L m (i + 1) = { s with b := s.b - e'.a, r := s.r + e'.a } := by
     rw [hT]; unfold nxS;rw [if_neg (by unfold rfs; simp; omega), if_neg (by omega), if_neg (by omega), if_neg (by omega), if_pos h]
    simp only [c72r21, callvIK_s, go_sem, Nat.reduceAdd, Nat.reduceLeDiff, true_implies];refine ⟨by kernel_rfl, _, _, k127 (b := 1) (s := s) (v := .sl 4 0 s.f.length 1 false) rfl hb he.a0 he.a100 rfl rfl, ?_⟩
    simp only [stO, c72r23, c72l24m, go_sem, ↓reduceIte, reduceCtorEq, Nat.reduceAdd, Nat.reduceLeDiff, true_implies];refine ⟨inR_small (by omega) (by omega), hI (mk - (i + 1)) _ (by omega) ⟨i + 1, rfl, by omega, ?_⟩⟩
    rw [hT2];rfl
   ·rw [decide_eq_false hc]
    simp only [go_sem, Nat.reduceAdd, true_implies];have hT2 : stT L m (i + 1) = { s with f := s.f ++ [e'.n] } := by rw [hT]; unfold nxS; rw [if_pos (by unfold rfs; exact decide_eq_true (by omega))]
    simp only [c72r22, List.length_map, go_sem, Nat.reduceAdd, Nat.reduceLeDiff, Nat.reduceMul];refine ⟨by decide, by decide, rfl, one_cells, one_cells, by omega, by omega, by omega, ?_⟩
    simp only [spl6f, c72r23, c72l24m, Nat.reduceBEq, Bool.false_eq_true, beq_self_eq_true, go_sem, ↓reduceIte, Nat.reduceAdd, Nat.reduceLeDiff, true_implies];refine ⟨inR_small (by omega) (by omega), hI (mk - (i + 1)) _ (by omega) ⟨i + 1, rfl, by omega, ?_⟩⟩
    rw [hT2, stO, List.length_append, List.map_append];rfl
  ·have q1 : rlOf e'.k = rule 0 .nilf .nilf := by unfold rlOf; rw [if_neg (by omega), if_neg (by omega), if_neg (by omega), if_neg (by omega)]
   have q2 : rlIs e'.k = false := by unfold rlIs; rw [h]; rfl
   have hT2 : stT L m (i + 1) = s := by
    rw [hT]; unfold nxS;rw [if_neg (by unfold rfs; simp; omega), if_neg (by omega), if_neg (by omega), if_neg (by omega), if_neg (by omega)]
   rw [q1, q2];simp only [rule, spl_3, c72r19, c72r23, c72l24m, go_sem, ↓reduceIte, reduceCtorEq, Nat.reduceAdd, Nat.reduceLeDiff, true_implies];exact ⟨inR_small (by omega) (by omega), hI (mk - (i + 1)) _ (by omega) ⟨i + 1, rfl, by omega, by rw [hT2]; rfl⟩⟩
theorem k35 {L : List Ent} {m : Int} : E.Fn Tryz.prog 35 [ssn L, .int .i64 m] [stV (if ckM L m = 0 then stL L m else st0), .int .i64 (ckM L m)] := by
 refine fn_of_row okf35 ?_;simp only [FRow.start, f35, c35r0, c35r1, ssn, SV.cells, go_sem, Nat.reduceAdd, Nat.reduceSub, true_implies]
 by_cases h : ckS L = 0
 case neg =>
  have e : ckM L m = ckS L := by unfold ckM; rw [if_pos h]
  rw [e, if_neg h];refine callK_of (by simp only [ssn, go_sem]) (k60b h) (.inr (.inl (by simp only [ssn, go_sem]))) ?_
  simp only [c35r2, c35r3, h, spl6, stV, st0, ints, List.map_nil, go_sem, Nat.reduceAdd, true_implies]
 have hok := ckS_zero.1 h;refine callK_of (by simp only [ssn, go_sem]) (k60 hok) (.inr (.inl (by simp only [ssn, go_sem]))) ?_
 simp only [c35r2, c35r4, go_sem, Nat.reduceMul, true_implies];refine ⟨by decide, by decide, rfl, one_cells, callK_of (by simp only [go_sem]) (k65m (m := m)) (.inl rfl) ?_⟩
 by_cases hm : 0 <= m /\ m <= 4
 case neg =>
  have e : ckM L m = 2 := by unfold ckM; rw [if_neg (by simpa using h), if_neg hm]
  rw [e, if_neg (by decide), decide_eq_false hm]
  simp only [c35r5, spl6, stV, st0, ints, List.map_nil, go_sem, Nat.reduceAdd, true_implies]
 have e : ckM L m = 0 := by unfold ckM; rw [if_neg (by simpa using h), if_pos hm]
 rw [e, if_pos rfl, decide_eq_true hm];simp only [c35r6, go_sem, true_implies];refine callK_of (by simp only [go_sem]) (k72 hok hm.1 hm.2) (.inr (.inl (by simp only [go_sem]))) ?_
 simp only [spl6, stV, go_sem, Nat.reduceAdd, true_implies]
theorem k37 {L : List Ent} : E.Fn Tryz.prog 37 [ssn L] [.int .i64 (if ckS L = 0 then tkT L 5 else 0), .int .i64 (ckS L)] := by
 refine fn_of_row okf37 ?_;simp only [FRow.start, f37, c37r0, c37r1, ssn, SV.cells, go_sem, Nat.reduceSub, true_implies]
 by_cases h : ckS L = 0
 case neg =>
  rw [if_neg h];refine callK_of (by simp only [ssn, go_sem]) (k60b h) (.inr (.inl (by simp only [ssn, go_sem]))) ?_
  simp only [c37r2, c37r3, h, go_sem, true_implies]
 have hok := ckS_zero.1 h;rw [if_pos h, h];refine callK_of (by simp only [ssn, go_sem]) (k60 hok) (.inr (.inl (by simp only [ssn, go_sem]))) ?_
 have hdk : SV.ptr [ents L, .map (L.map keyE) (L.map ent), .int .i64 (mark L 0), .int .i64 (mark L 1), .int .i64 (mark L 2), .int .i64 (mark L 3), .int .i64 (mark L 4)] = dsk L := by unfold dsk; rw [mks_mark hok]
 simp only [c37r2, c37r4, c37r5, dsk, mks_mark hok, go_sem, Nat.reduceAdd, Nat.reduceLeDiff, true_implies];refine ⟨fun he => ?_, fun he => ?_⟩
 ·have hz : ∀ i : Nat, i < 5 -> mark L i = 0 := fun i hi => by
   simp only [SV.agg.injEq, List.cons.injEq, SV.int.injEq, true_and, and_true] at he;obtain ⟨h0, h1, h2, h3, h4⟩ := he;have : i = 0 \/ i = 1 \/ i = 2 \/ i = 3 \/ i = 4 := by omega
   rcases this with rfl | rfl | rfl | rfl | rfl
   ·exact Int.ofNat_eq_zero.1 h0
   ·exact Int.ofNat_eq_zero.1 h1
   ·exact Int.ofNat_eq_zero.1 h2
   ·exact Int.ofNat_eq_zero.1 h3
   ·exact Int.ofNat_eq_zero.1 h4
  have hb : ∀ i : Nat, i < 5 -> (stL L i).b = 0 := fun i hi => by unfold stL; rw [hz i hi]; rfl
  have ht : tkT L 5 = 0 := by
   rw [show (5 : Nat) = 4 + 1 from rfl, tkT_succ, show (4 : Nat) = 3 + 1 from rfl, tkT_succ, show (3 : Nat) = 2 + 1 from rfl, tkT_succ, show (2 : Nat) = 1 + 1 from rfl, tkT_succ, show (1 : Nat) = 0 + 1 from rfl, tkT_succ];have h0 := hb 0 (by decide); have h1 := hb 1 (by decide); have h2 := hb 2 (by decide); have h3 := hb 3 (by decide); have h4 := hb 4 (by decide)
   simp only [Nat.zero_add, Nat.reduceAdd] at *;rw [h0, h1, h2, h3, h4]; rfl
  rw [ht];simp only [c37r6, go_sem, true_implies]
 rw [hdk];simp only [c37r7, go_sem, true_implies]
 refine loop_rule (fun k τ => ∃ i : Nat, k = 5 - i /\ i <= 5 /\
  τ = ⟨[.any, .any, .any, .any, .s (dsk L), .any, aI (tkT L i), .any, .any, .any, .any, .any, .any, .any, .any, .any, .any, .any, .any, .any, .any, .any, .any, aI i, .any, .any, .any, .any, .any, .any, .any, .any, .any, .any], []⟩) 5 rfl ?_ ?_
 ·simp only [c37l12m, go_sem]
  exact ⟨0, rfl, by decide, rfl⟩
 rintro I k τ ⟨i, rfl, hi, rfl⟩ hI;have hb := tkT_bd hok (i := i);have hs := stL_bd (m := i) hok;have s0 := hs.b0; have s1 := hs.b1;simp only [c37l12, c37r8, go_sem, ↓reduceIte, true_implies];refine ⟨fun hlt => ?_, fun hge => ?_⟩
 ·simp only [c37r9, c37r10, go_sem, true_implies]
  refine callK_of (by simp only [go_sem]) (k72 (m := i) hok (by omega) (by omega)) (.inr (.inl (by simp only [go_sem]))) ?_
  simp only [stV, c37r11, c37l12m, go_sem, true_implies];refine ⟨inR_small (by omega) (by omega), inR_small (by omega) (by omega), hI (5 - (i + 1)) _ (by omega) ⟨i + 1, rfl, by omega, by rw [tkT_succ]; rfl⟩⟩
 ·have hie : i = 5 := by omega
  subst hie;simp only [c37r13, go_sem, true_implies]
theorem st_eq {a b : St} : a = b ↔ a.c = b.c /\ a.h = b.h /\ a.b = b.b /\ a.p = b.p /\ a.r = b.r /\ a.f = b.f := by
 cases a; cases b; simp
instance : DecidableEq St := fun _ _ => decidable_of_iff _ st_eq.symm
theorem st_ne {a b : St} (h : ¬ (a.c = b.c /\ a.h = b.h /\ a.b = b.b /\ a.p = b.p /\ a.r = b.r /\ a.f = b.f)) : [SV.bool false] = [SV.bool (decide (a = b))] := by
 rw [decide_eq_false fun e => h (st_eq.1 e)]
theorem k39 {a b : St} : E.Fn Tryz.prog 39 [stV a, stV b] [.bool (decide (a = b))] := by
 refine fn_of_row okf39 ?_;simp only [FRow.start, f39, c39r0, c39r1, stV, SV.cells, go_sem, Nat.reduceAdd, Nat.reduceSub, Nat.reduceLeDiff, true_implies];refine ⟨fun h1 => ⟨fun h2 => ⟨fun h3 => ⟨fun h4 => ⟨fun h5 => ?_, fun h => st_ne fun e => h e.2.2.2.2.1⟩, fun h => st_ne fun e => h e.2.2.2.1⟩, fun h => st_ne fun e => h e.2.2.1⟩, fun h => st_ne fun e => h e.2.1⟩, fun h => st_ne fun e => h e.1⟩
 refine callK_of (by simp only [ints, go_sem]) (k34 (xs := a.f) (ys := b.f)) (.inl rfl) ?_
 simp only [go_sem, true_implies]
 congr 2
 rw [decide_eq_decide];exact ⟨fun h => st_eq.2 ⟨h1, h2, h3, h4, h5, h⟩, fun h => by rw [h]⟩
theorem fn_eq {f : FuncId} {xs rs rz : List SV} (h : E.Fn Tryz.prog f xs rs) (e : rs = rz) : E.Fn Tryz.prog f xs rz := e ▸ h
def fT : List UInt8 := [48, 32, 51, 32, 98, 111, 120, 32, 50, 10, 48, 32, 52, 32, 112, 108, 101, 97, 32, 49, 10, 101, 110, 100, 32, 50, 10]
theorem v0 : E.Fn Tryz.prog 28 [ssn sS] [ints [3, 0, 3, 0, 0], .int .i64 0] := fn_eq k28 (by kernel_rfl)
theorem v1 : E.Fn Tryz.prog 30 [ssn sS, .int .i64 0] [ints [4], .int .i64 0] := fn_eq k30 (by kernel_rfl)
theorem v2 : E.Fn Tryz.prog 30 [ssn sS, .int .i64 5] [ints [], .int .i64 2] := fn_eq k30 (by kernel_rfl)
theorem v3 : E.Fn Tryz.prog 35 [ssn sS, .int .i64 0] [stV ⟨4, 1, 2, 2, 0, []⟩, .int .i64 0] := fn_eq k35 (by kernel_rfl)
theorem v4 : E.Fn Tryz.prog 35 [ssn sS, .int .i64 2] [stV ⟨0, 0, 0, 0, 0, [2]⟩, .int .i64 0] := fn_eq k35 (by kernel_rfl)
theorem v5 : E.Fn Tryz.prog 21 [ssn sS, ssn tS] [ssn jS, .int .i64 0] := fn_eq k21 (by kernel_rfl)
theorem v6 : E.Fn Tryz.prog 35 [ssn jS, .int .i64 0] [stV ⟨5, 2, 1, 2, 1, []⟩, .int .i64 0] := fn_eq k35 (by kernel_rfl)
theorem v7 : E.Fn Tryz.prog 37 [ssn sS] [.int .i64 2, .int .i64 0] := fn_eq k37 (by kernel_rfl)
theorem v8 : E.Fn Tryz.prog 37 [ssn jS] [.int .i64 1, .int .i64 0] := fn_eq k37 (by kernel_rfl)
theorem v9 : E.Fn Tryz.prog 19 [ssn sS, ent ⟨0, 2, 2, 3⟩] [ssn [], .int .i64 15] := fn_eq k19 (by kernel_rfl)
theorem v10 : E.Fn Tryz.prog 19 [ssn sS, ent ⟨0, 4, 5, 4⟩] [ssn [], .int .i64 2] := fn_eq k19 (by kernel_rfl)
theorem v11 : E.Fn Tryz.prog 32 [ssn jS, ints [3, 0, 3, 0, 0]] [ssn [⟨0, 4, 4, 1⟩, ⟨0, 5, 1, 1⟩], .int .i64 0] := fn_eq k32 (by kernel_rfl)
theorem v12 : E.Fn Tryz.prog 32 [ssn jS, ints [0, 0, 0]] [ssn [], .int .i64 3] := fn_eq k32 (by kernel_rfl)
theorem v13 : E.Fn Tryz.prog 40 [ssn tS] [.str (bL fT), .int .i64 0] := fn_eq k40 (by
 have e : filR tS = fT := by kernel_rfl
 rw [e]; rfl)
theorem v14 : E.Fn Tryz.prog 42 [.str (bL fT)] [ssn tS, .int .i64 0] := fn_eq (k42 (by decide)) (by
 have e : lodR fT = (tS, 0) := by kernel_rfl
 rw [e])
theorem k34t {l : List Int} : E.Fn Tryz.prog 34 [ints l, ints l] [.bool true] := fn_eq k34 (by rw [decide_eq_true rfl])
theorem k27t {l : List Ent} : E.Fn Tryz.prog 27 [ssn l, ssn l] [.bool true] := fn_eq k27 (by rw [decide_eq_true rfl])
theorem k39t {s : St} : E.Fn Tryz.prog 39 [stV s, stV s] [.bool true] := fn_eq k39 (by rw [decide_eq_true rfl])
set_option maxHeartbeats 4000000 in
theorem works_ok : E.Fn Tryz.prog 18 [] [.bool true] := by
 refine fn_of_row okf18 ?_;simp only [FRow.start, f18, c18r0, c18r1, go_sem, Nat.reduceSub, true_implies];refine callK_of rfl k54 (.inr (.inl rfl)) ?_;simp only [go_sem];refine callK_of rfl v0 (.inr (.inl rfl)) ?_;simp only [c18r2, go_sem, true_implies];refine callK_of rfl k54 (.inr (.inl rfl)) ?_;simp only [go_sem];refine callK_of rfl v1 (.inr (.inl rfl)) ?_;simp only [c18r3, go_sem, true_implies];refine callK_of rfl k54 (.inr (.inl rfl)) ?_;simp only [go_sem];refine callK_of rfl v2 (.inr (.inl rfl)) ?_;simp only [c18r4, go_sem, true_implies];refine callK_of rfl k54 (.inr (.inl rfl)) ?_;simp only [go_sem];refine callK_of rfl v3 (.inr (.inl rfl)) ?_;simp only [stV, splice, c18r5, go_sem, Nat.reduceAdd, true_implies];refine callK_of rfl k54 (.inr (.inl rfl)) ?_;simp only [go_sem];refine callK_of rfl v4 (.inr (.inl rfl)) ?_;simp only [stV, splice, c18r6, go_sem, Nat.reduceAdd, true_implies];refine callK_of rfl k54 (.inr (.inl rfl)) ?_;simp only [go_sem];refine callK_of rfl k55 (.inr (.inl rfl)) ?_;simp only [go_sem];refine callK_of rfl v5 (.inr (.inl rfl)) ?_;simp only [splice, ssn, c18r7, go_sem, Nat.reduceAdd, true_implies];refine callK_of rfl v6 (.inr (.inl rfl)) ?_;simp only [stV, splice, c18r8, go_sem, Nat.reduceAdd, true_implies];refine callK_of rfl k54 (.inr (.inl rfl)) ?_;simp only [go_sem];refine callK_of rfl v7 (.inl rfl) ?_;simp only [c18r9, go_sem, Nat.reduceAdd, true_implies];refine callK_of rfl k53 (.inr (.inl rfl)) ?_;simp only [go_sem];refine callK_of rfl v8 (.inl rfl) ?_;simp only [c18r10, go_sem, Nat.reduceAdd, true_implies];refine callK_of rfl k54 (.inr (.inl rfl)) ?_;simp only [go_sem];refine callK_of rfl (k51 (e := ⟨0, 2, 2, 3⟩)) (.inr (.inl rfl)) ?_;simp only [go_sem];refine callK_of rfl v9 (.inr (.inl rfl)) ?_;simp only [splice, ssn, c18r11, go_sem, Nat.reduceAdd, true_implies];refine callK_of rfl k54 (.inr (.inl rfl)) ?_;simp only [go_sem];refine callK_of rfl (k51 (e := ⟨0, 4, 5, 4⟩)) (.inr (.inl rfl)) ?_;simp only [go_sem];refine callK_of rfl v10 (.inr (.inl rfl)) ?_;simp only [splice, ssn, c18r12, go_sem, Nat.reduceAdd, true_implies];refine callK_of rfl k53 (.inr (.inl rfl)) ?_;simp only [go_sem, Nat.reduceMul];refine ⟨by decide, by decide, rfl, ints_cells (l := [3, 0, 3, 0, 0]), ?_⟩
 refine callK_of rfl (k56 (l := [3, 0, 3, 0, 0])) (.inr (.inl rfl)) ?_;simp only [go_sem];refine callK_of rfl v11 (.inr (.inl rfl)) ?_;simp only [splice, ssn, c18r13, go_sem, Nat.reduceAdd, true_implies];refine callK_of rfl k53 (.inr (.inl rfl)) ?_;simp only [go_sem, Nat.reduceMul];refine ⟨by decide, by decide, rfl, ints_cells (l := [0, 0, 0]), ?_⟩
 refine callK_of rfl (k56 (l := [0, 0, 0])) (.inr (.inl rfl)) ?_;simp only [go_sem];refine callK_of rfl v12 (.inr (.inl rfl)) ?_;simp only [splice, ssn, c18r14, go_sem, Nat.reduceAdd, true_implies];refine callK_of rfl k55 (.inr (.inl rfl)) ?_;simp only [go_sem];refine callK_of rfl v13 (.inl rfl) ?_;simp only [c18r15, go_sem, Nat.reduceAdd, true_implies];refine callK_of rfl v14 (.inr (.inl rfl)) ?_;simp only [splice, ssn, c18r16, go_sem, Nat.reduceAdd, true_implies];simp only [c18r18, go_sem, Nat.reduceMul];refine ⟨by decide, by decide, rfl, ints_cells (l := [3, 0, 3, 0, 0]), ?_⟩
 refine callK_of rfl (k56 (l := [3, 0, 3, 0, 0])) (.inr (.inl rfl)) ?_;simp only [go_sem];refine callK_of rfl (k34t (l := [3, 0, 3, 0, 0])) (.inl rfl) ?_;simp only [go_sem, Nat.reduceMul];refine ⟨by decide, by decide, rfl, ints_cells (l := [4]), ?_⟩
 refine callK_of rfl (k56 (l := [4])) (.inr (.inl rfl)) ?_;simp only [go_sem];refine callK_of rfl (k34t (l := [4])) (.inl rfl) ?_;simp only [go_sem, Nat.reduceAdd];refine callK_of rfl (k57 (s := ⟨4, 1, 2, 2, 0, []⟩)) (.inr (.inl rfl)) ?_;simp only [go_sem];refine callK_of rfl (k39t (s := ⟨4, 1, 2, 2, 0, []⟩)) (.inl rfl) ?_;simp only [go_sem, Nat.reduceAdd, Nat.reduceMul];refine ⟨by decide, by decide, rfl, ints_cells (l := [2]), ?_⟩
 refine callK_of rfl (k57 (s := ⟨0, 0, 0, 0, 0, [2]⟩)) (.inr (.inl rfl)) ?_;simp only [go_sem];refine callK_of rfl (k39t (s := ⟨0, 0, 0, 0, 0, [2]⟩)) (.inl rfl) ?_;simp only [go_sem];refine callK_of rfl k53 (.inr (.inl rfl)) ?_;simp only [go_sem];refine callK_of rfl (k27t (l := jS)) (.inl rfl) ?_;simp only [go_sem, Nat.reduceAdd];refine callK_of rfl (k57 (s := ⟨5, 2, 1, 2, 1, []⟩)) (.inr (.inl rfl)) ?_;simp only [go_sem];refine callK_of rfl (k39t (s := ⟨5, 2, 1, 2, 1, []⟩)) (.inl rfl) ?_;simp only [go_sem, Nat.reduceMul];refine ⟨by decide, by decide, rfl, ints_cells (l := [0, 4, 4, 1, 0, 5, 1, 1]), ?_⟩
 refine callK_of rfl (k58 (L := [⟨0, 4, 4, 1⟩, ⟨0, 5, 1, 1⟩]) (by decide)) (.inr (.inl rfl)) ?_
 simp only [go_sem];refine callK_of rfl (k27t (l := [⟨0, 4, 4, 1⟩, ⟨0, 5, 1, 1⟩])) (.inl rfl) ?_;simp only [go_sem, true_implies];refine ⟨fun _ => ?_, fun h => absurd rfl h⟩
 refine callK_of rfl k55 (.inr (.inl rfl)) ?_;simp only [go_sem];refine callK_of rfl (k27t (l := tS)) (.inl rfl) ?_;simp only [go_sem, true_implies]
theorem wk {H : List ABlock} {k : AK} (hk : k (LV.ofResults [.bool true]) H none True) : callK Tryz.prog H 18 [] k := callK_of rfl works_ok (.inl rfl) hk
theorem wrap32 {n : Nat} (h : n < 2 ^ 32) : IntKind.wrap .u32 (n : Int) = (n : Int) := by
 rw [IntKind.wrap_u32]; omega
theorem ofInt_nat {a : Nat} (h : a < 2 ^ 32) : (BitVec.ofInt 32 (a : Int)).toNat = a := by
 rw [BitVec.ofInt_natCast, BitVec.toNat_ofNat, Nat.mod_eq_of_lt h]
theorem bit_or {a b : Nat} (ha : a < 2 ^ 32) (hb : b < 2 ^ 32) : bitOf .u32 (a : Int) (b : Int) .or = ((a ||| b : Nat) : Int) := by
 unfold bitOf;simp only;rw [show IntKind.bits .u32 = 32 from rfl, BitVec.toNat_or, ofInt_nat ha, ofInt_nat hb];exact wrap32 (Nat.or_lt_two_pow ha hb)
theorem bit_and {a b : Nat} (ha : a < 2 ^ 32) (hb : b < 2 ^ 32) : bitOf .u32 (a : Int) (b : Int) .and = ((a &&& b : Nat) : Int) := by
 unfold bitOf;simp only;rw [show IntKind.bits .u32 = 32 from rfl, BitVec.toNat_and, ofInt_nat ha, ofInt_nat hb];exact wrap32 (Nat.lt_of_le_of_lt Nat.and_le_left ha)
theorem shr_nat {a i : Nat} : (a : Int).fdiv (2 ^ i) = ((a / 2 ^ i : Nat) : Int) := by
 rw [show (2 : Int) ^ i = ((2 ^ i : Nat) : Int) by simp]
 exact (Int.ofNat_fdiv a (2 ^ i)).symm
theorem low_bit {a i : Nat} (ha : a < 2 ^ 32) : bitOf .u32 ((a : Int).fdiv (2 ^ i)) 1 .and = if a.testBit i then 1 else 0 := by
 have h1 : a / 2 ^ i < 2 ^ 32 := Nat.lt_of_le_of_lt (Nat.div_le_self _ _) ha;rw [shr_nat, show (1 : Int) = ((1 : Nat) : Int) from rfl, bit_and h1 (by decide), Nat.and_one_is_mod]
 have h2 : a.testBit i = decide (a / 2 ^ i % 2 = 1) := by rw [Nat.testBit_eq_decide_div_mod_eq]
 rw [h2];have := Nat.mod_lt (a / 2 ^ i) (show 0 < 2 by decide)
 by_cases h : a / 2 ^ i % 2 = 1
 ·rw [decide_eq_true h, h]; rfl
 ·rw [decide_eq_false h, show a / 2 ^ i % 2 = 0 by omega]; rfl
def smL (A : List Ent) (b : Nat) : List Ent := (A.zipIdx.filter fun p => b.testBit p.2).map (·.1)
theorem sm_take {A : List Ent} {b i : Nat} {x : Ent} (hx : A[i]? = some x) : smL (A.take (i + 1)) b = if b.testBit i then smL (A.take i) b ++ [x] else smL (A.take i) b := by
 have hlt := (List.getElem?_eq_some_iff.1 hx).1;have hl : (A.take i).length = i := by rw [List.length_take]; omega
 unfold smL;rw [take_snoc hx, List.zipIdx_append, List.filter_append, List.map_append, hl]
 by_cases h : b.testBit i
 ·rw [if_pos h]; simp [h]
 ·rw [if_neg h]; simp [h]
theorem sm_len {A : List Ent} {b : Nat} : (smL A b).length <= A.length := by
 unfold smL;rw [List.length_map];exact Nat.le_trans (List.length_filter_le _ _) (by rw [List.length_zipIdx]; exact Nat.le_refl _)
theorem k46 {A : List Ent} {b : Nat} (hb : b < 2 ^ 32) (hA : A.length <= 30) : E.Fn Tryz.prog 46 [ssn A, .int .u32 b] [ssn (smL A b)] := by
 refine fn_of_row okf46 ?_;simp only [FRow.start, f46, c46r0, c46r1, c46r2, ssn, SV.cells, go_sem, Nat.reduceAdd, Nat.reduceSub, true_implies]
 refine loop_rule (fun k τ => ∃ i : Nat, k = A.length - i /\ i <= A.length /\
  τ = ⟨(aN::(.s (.int .u32 b))::(.s (.ptr [.slice (A.map ent)]))::aN::(.loc 0 0)::(.loc 1 0)::(aI i)::aN::aN::aN::aN::aN::aN::aN::aZ16), [.obj [.full []], .obj [.sl 2 0 (smL (A.take i) b).length 4 false], .row (flE (smL (A.take i) b))]⟩) A.length rfl ?_ ?_
 ·simp only [c46l7m, ents, go_sem]
  exact ⟨0, rfl, Nat.zero_le _, rfl⟩
 rintro I k τ ⟨i, rfl, hi, rfl⟩ hI;have hsl := sm_len (A := A.take i) (b := b);rw [List.length_take] at hsl;simp only [c46l7, c46r3, go_sem, ↓reduceIte, Nat.reduceAdd, Nat.reduceLeDiff];intro hmx;refine ⟨fun hlt => ?_, fun hge => ?_⟩
 ·have hx : A[i]? = some A[i] := List.getElem?_eq_getElem hlt
  generalize A[i] = x at hx;have hst := sm_take (b := b) hx;have h32 : IntKind.bits .u32 = 32 := rfl;simp only [c46r4, Int.toNat_natCast, low_bit hb, go_sem, Nat.reduceAdd, true_implies];refine ⟨by omega, fun hb1 => ?_, fun hb1 => ?_⟩
  ·have ht : b.testBit i = true := by
    cases h : b.testBit i with
    | true => rfl
    | false => rw [h] at hb1; exact absurd hb1 (by decide)
   rw [if_pos ht] at hst;simp only [c46r5, hx, ent_cells, go_sem, Nat.reduceAdd, Nat.reduceLeDiff, Nat.reduceMul];refine ⟨by decide, by decide, rfl, four_cells, four_cells, by rw [flE_len]; omega, by omega, by omega, ?_⟩
   simp only [spl_one, Nat.reduceBEq, Bool.false_eq_true, beq_self_eq_true, c46r6, c46l7m, flE_snoc, go_sem, ↓reduceIte, Nat.reduceAdd, true_implies];refine ⟨inR_small (by omega) (by omega), hI (A.length - (i + 1)) _ (by omega) ⟨i + 1, rfl, by omega, ?_⟩⟩
   rw [hst, List.length_append]; rfl
  ·have ht : ¬ b.testBit i = true := fun h => hb1 (by rw [if_pos h])
   rw [if_neg ht] at hst;simp only [c46r6, c46l7m, go_sem, true_implies];refine ⟨inR_small (by omega) (by omega), hI (A.length - (i + 1)) _ (by omega) ⟨i + 1, rfl, by omega, ?_⟩⟩
   rw [hst]; rfl
 ·have hi2 : i = A.length := by omega
  subst hi2;rw [List.take_length];simp only [c46r8, spl_one, slice_ents rfl, go_sem, true_implies]
end Go.Proofs.YtdlfkbpddfeenaaGreatDoor.Sk
namespace Go.Proofs.YtdlfkbpddfeenaaGreatDoor.Sk
open Go Go.E
theorem ok_sub {A X : List Ent} (hA : OkS A) (h : X.Sublist A) : OkS X :=
 ⟨Nat.le_trans h.length_le hA.len, fun e he => hA.ent e (h.subset he), hA.ord.sublist h⟩
theorem join_sub {A X Y U : List Ent} (hA : OkS A) (hX : X.Sublist A) (hY : Y.Sublist A) (hU : U.Pairwise Bef) (hm : ∀ x, x ∈ U ↔ x ∈ X \/ x ∈ Y) : joinR X Y = (U, 0) := by
 have oX := ok_sub hA hX;have oY := ok_sub hA hY
 have hc : clsh X Y = false := clsh_no.2 fun e he old hf => by
  obtain ⟨h1, h2⟩ := fnd_some hf;exact same_eq hA.ord (hX.subset h1) (hY.subset he) h2
 have hj : jn X Y = U := sorted_ext (jn_spec oX.ord oY.ord).1 hU fun x => (mem_jn oX.ord oY.ord hc).trans (hm x).symm
 have hlen := (jn_spec oX.ord oY.ord).2.2
 have hUA : U = A.filter fun e => decide (e ∈ U) := sorted_ext hU (hA.ord.filter _) fun x => by
  rw [List.mem_filter, decide_eq_true_eq];refine ⟨fun h => ⟨?_, h⟩, fun h => h.2⟩
  rcases (hm x).1 h with h | h
  ·exact hX.subset h
  ·exact hY.subset h
 have hUl : U.length <= A.length := by rw [hUA]; exact List.length_filter_le _ _
 have := hA.len;rw [join_ok oX oY hc (by rw [<- hlen, hj]; omega), hj]
theorem sm_sub {A : List Ent} {b : Nat} : (smL A b).Sublist A := by
 unfold smL;have h : (A.zipIdx.filter fun p => b.testBit p.2).Sublist A.zipIdx := List.filter_sublist
 have h2 := h.map (·.1);rw [show (A.zipIdx.map (·.1)) = A by simp] at h2
 exact h2
theorem sm_mem {A : List Ent} {b : Nat} {x : Ent} : x ∈ smL A b ↔ ∃ i, A[i]? = some x /\ b.testBit i = true := by
 unfold smL;simp only [List.mem_map, List.mem_filter, Prod.exists, List.mem_zipIdx_iff_getElem?];constructor
 ·rintro ⟨a, i, ⟨h1, h2⟩, rfl⟩; exact ⟨i, h1, h2⟩
 ·rintro ⟨i, h1, h2⟩; exact ⟨x, i, ⟨h1, h2⟩, rfl⟩
theorem sm_or {A : List Ent} {p q : Nat} {x : Ent} : x ∈ smL A (p ||| q) ↔ x ∈ smL A p \/ x ∈ smL A q := by
 simp only [sm_mem, Nat.testBit_or, Bool.or_eq_true];constructor
 ·rintro ⟨i, h, h1 | h1⟩
  ·exact .inl ⟨i, h, h1⟩
  ·exact .inr ⟨i, h, h1⟩
 ·rintro (⟨i, h, h1⟩ | ⟨i, h, h1⟩)
  ·exact ⟨i, h, .inl h1⟩
  ·exact ⟨i, h, .inr h1⟩
theorem join_sm {A : List Ent} {p q : Nat} (hA : OkS A) : joinR (smL A p) (smL A q) = (smL A (p ||| q), 0) :=
 join_sub hA sm_sub sm_sub (hA.ord.sublist sm_sub) fun _ => sm_or
theorem join_own {A X : List Ent} (hA : OkS A) (hX : X.Sublist A) : joinR A X = (A, 0) :=
 join_sub hA (List.Sublist.refl A) hX hA.ord fun x => ⟨.inl, fun h => h.elim id fun h => hX.subset h⟩
def mksI (A : List Ent) : List Int := [scn 0 A, scn 1 A, scn 2 A, scn 3 A, scn 4 A]
theorem mkAt_mks {A : List Ent} {m : Int} (h0 : 0 <= m) (h4 : m <= 4) : mkAt (mksI A) m = scn m A := by
 have : m = 0 \/ m = 1 \/ m = 2 \/ m = 3 \/ m = 4 := by omega
 rcases this with rfl | rfl | rfl | rfl | rfl <;> rfl
theorem scn_has {A : List Ent} {m : Int} (hA : OkS A) {n : Int} (h1 : 1 <= n) (h2 : n <= scn m A) : has A m n = true := by
 have hb : ∀ e ∈ A, e.n <= 30 := fun e he => (hA.ent e he).n30
 rw [scn_mark hA] at h2;have := (mark_spec (m := m) hb).1 n.toNat (by omega) (by omega)
 rwa [show ((n.toNat : Nat) : Int) = n by omega] at this
theorem scn_30 {A : List Ent} {m : Int} (hA : OkS A) : 0 <= scn m A /\ scn m A <= 30 := by
 have hb : ∀ e ∈ A, e.n <= 30 := fun e he => (hA.ent e he).n30
 rw [scn_mark hA];have := (mark_spec (m := m) hb).2.2;omega
theorem ckK_mks {A B : List Ent} (hA : OkS A) (hB : OkS B) : ckK B (mksI A) = 0 := by
 unfold ckK
 rw [if_neg (by simp [ckS_zero.2 hB]), if_pos ⟨rfl, fun x hx => by
  simp only [mksI, List.mem_cons, List.not_mem_nil, or_false] at hx
  rcases hx with rfl | rfl | rfl | rfl | rfl <;> exact scn_30 hA⟩]
theorem snc_sub {ms : List Int} {B : List Ent} : (snc ms B).Sublist B := List.filter_sublist
theorem join_code {A B : List Ent} (hA : OkS A) (hB : OkS B) : ((joinR A B).2 = 0 /\ clsh A B = false /\ A.length + (newL A B).length <= 24) \/ (joinR A B).2 = 15 \/ (joinR A B).2 = 6 := by
 unfold joinR;rw [if_neg (by simp [ckS_zero.2 hA]), if_neg (by simp [ckS_zero.2 hB])]
 split
 ·exact .inr (.inl rfl)
 ·rename_i h
  split
  ·exact .inr (.inr rfl)
  ·exact .inl ⟨rfl, by simpa using h, by omega⟩
theorem sync {A B : List Ent} (hA : OkS A) (hB : OkS B) (hc : clsh A B = false) (hl : A.length + (newL A B).length <= 24) : joinR A (snc (mksI A) B) = (jn A B, 0) := by
 have hX := ok_sub hB (snc_sub (ms := mksI A));have hcX : clsh A (snc (mksI A) B) = false := clsh_no.2 fun e he old hf => clsh_no.1 hc e (snc_sub.subset he) old hf
 have hj : jn A (snc (mksI A) B) = jn A B := sorted_ext (jn_spec hA.ord hX.ord).1 (jn_spec hA.ord hB.ord).1 fun x => by
  rw [mem_jn hA.ord hX.ord hcX, mem_jn hA.ord hB.ord hc];constructor
  ·rintro (h | h)
   ·exact .inl h
   ·exact .inr (snc_sub.subset h)
  ·rintro (h | h)
   ·exact .inl h
   ·by_cases hm : mkAt (mksI A) x.m < x.n
    ·exact .inr (List.mem_filter.2 ⟨h, decide_eq_true hm⟩)
    ·have ox := hB.ent x h
     rw [mkAt_mks ox.m0 ox.m4] at hm;have hh := scn_has (m := x.m) hA ox.n1 (by omega)
     cases hf : fnd A x.m x.n with
     | none => unfold has at hh; rw [hf] at hh; cases hh
     | some old =>
      have := clsh_no.1 hc x h old hf;subst this;exact .inl (fnd_some hf).1
 have h1 := (jn_spec hA.ord hX.ord).2.2;have h2 := (jn_spec hA.ord hB.ord).2.2;rw [join_ok hA hX hcX (by rw [<- h1, hj, h2]; exact hl), hj]
end Go.Proofs.YtdlfkbpddfeenaaGreatDoor.Sk
namespace Go.Proofs.YtdlfkbpddfeenaaGreatDoor.Sk
theorem gapT_step {L : List Ent} {m : Int} {a b : Nat} (h1 : 1 <= a) (hab : a <= b) (hno : ∀ j : Nat, a <= j -> j < b -> has L m j = false) : gapT L m b = gapT L m a ++ rngI a b := by
 induction b with
 | zero => omega
 | succ b ih =>
  by_cases h : a = b + 1
  ·subst h; rw [rngI_nil, List.append_nil]
  ·have hb := ih (by omega) fun j h1 h2 => hno j h1 (by omega)
   rw [gapT_succ (by omega), hno b (by omega) (by omega), if_neg (by simp), hb, List.append_assoc]
   rw [show ((b + 1 : Nat) : Int) = (b : Int) + 1 from rfl, rngI_snoc (by omega)]
theorem gapF_T {L : List Ent} {m : Int} : ∀ {zs : List Ent} {nx : Nat}, 1 <= nx -> (∀ z ∈ zs, z ∈ L /\ z.m = m /\ (nx : Int) <= z.n) -> zs.Pairwise (fun x y => x.n < y.n) -> (∀ j : Nat, nx <= j -> has L m j = true -> ∃ z ∈ zs, z.n = j) ->
  ∃ g : Nat, nx <= g /\ gapT L m g = gapT L m nx ++ gapF zs nx /\ (∀ j : Nat, g <= j -> has L m j = false) /\ (g = nx \/ has L m ((g : Int) - 1) = true)
 | [], nx, h1, _, _, h3 => by
  refine ⟨nx, Nat.le_refl _, by rw [gapF, List.append_nil], fun j hj => ?_, .inl rfl⟩
  cases h : has L m (j : Int) with
  | false => rfl
  | true => obtain ⟨z, hz, _⟩ := h3 j hj h; cases hz
 | z :: zs, nx, h1, h2, hp, h3 => by
  obtain ⟨hzL, hzm, hzn⟩ := h2 z (List.mem_cons_self ..);obtain ⟨hp1, hp2⟩ := List.pairwise_cons.1 hp;obtain ⟨b, hb⟩ : ∃ b : Nat, z.n = b := ⟨z.n.toNat, by omega⟩
  have hhas : has L m (b : Int) = true := has_iff.2 ⟨z, hzL, hzm, hb⟩
  have hno : ∀ j : Nat, nx <= j -> j < b -> has L m j = false := fun j hj1 hj2 => by
   cases h : has L m j with
   | false => rfl
   | true =>
    obtain ⟨y, hy, hyn⟩ := h3 j hj1 h
    rcases List.mem_cons.1 hy with rfl | hy
    ·omega
    ·have := hp1 y hy; omega
  obtain ⟨g, g1, g2, g3, g4⟩ := gapF_T (L := L) (m := m) (zs := zs) (nx := b + 1) (by omega) (fun y hy => by
   obtain ⟨q1, q2, _⟩ := h2 y (List.mem_cons_of_mem _ hy);have := hp1 y hy;exact ⟨q1, q2, by omega⟩) hp2 (fun j hj h => by
   obtain ⟨y, hy, hyn⟩ := h3 j (by omega) h
   rcases List.mem_cons.1 hy with rfl | hy
   ·omega
   ·exact ⟨y, hy, hyn⟩)
  refine ⟨g, by omega, ?_, g3, ?_⟩
  ·rw [g2, gapT_succ (by omega), hhas, if_pos rfl, gapT_step h1 (by omega) hno, gapF, hb, List.append_assoc]
   rfl
  ·right
   rcases g4 with rfl | h
   ·rw [show (((b + 1 : Nat) : Int)) - 1 = b from by omega]; exact hhas
   ·exact h
theorem grt_spec {L : List Ent} {m : Int} : ∀ {t : Int}, (∀ e ∈ L, e.m = m -> e.n <= L.foldl (fun t e => if e.m = m then max t e.n else t) t) /\ t <= L.foldl (fun t e => if e.m = m then max t e.n else t) t /\
  (L.foldl (fun t e => if e.m = m then max t e.n else t) t = t \/ ∃ e ∈ L, e.m = m /\ e.n = L.foldl (fun t e => if e.m = m then max t e.n else t) t) := by
 induction L with
 | nil => intro t; exact ⟨by simp, Int.le_refl _, .inl rfl⟩
 | cons x L ih =>
  intro t;rw [List.foldl_cons];obtain ⟨h1, h2, h3⟩ := ih (t := if x.m = m then max t x.n else t);refine ⟨fun e he hm => ?_, ?_, ?_⟩
  ·rcases List.mem_cons.1 he with rfl | he
   ·rw [if_pos hm] at h2 ⊢; omega
   ·exact h1 e he hm
  ·by_cases hx : x.m = m
   ·rw [if_pos hx] at h2 ⊢; omega
   ·rw [if_neg hx] at h2 ⊢; exact h2
  ·rcases h3 with h3 | ⟨e, he, hm, hn⟩
   ·by_cases hx : x.m = m
    ·rw [if_pos hx] at h3 ⊢
     by_cases hc : x.n <= t
     ·left; rw [h3]; omega
     ·right; exact ⟨x, List.mem_cons_self .., hx, by rw [h3]; omega⟩
    ·rw [if_neg hx] at h3 ⊢; left; exact h3
   ·right; exact ⟨e, List.mem_cons_of_mem _ he, hm, hn⟩
theorem gap_eq {L : List Ent} {m : Int} (hok : OkS L) : gapF (atE L m) 1 = gap L m := by
 obtain ⟨g, g1, g2, g3, g4⟩ := gapF_T (L := L) (m := m) (zs := atE L m) (nx := 1) (Nat.le_refl _) (fun z hz => by
  obtain ⟨q1, q2⟩ := List.mem_filter.1 hz;exact ⟨q1, by simpa using q2, (hok.ent z q1).n1⟩) (atE_srt hok.ord) (fun j hj h => by
  obtain ⟨e, he, hm, hn⟩ := has_iff.1 h;exact ⟨e, List.mem_filter.2 ⟨he, by simpa using hm⟩, hn⟩)
 have e1 : gapT L m 1 = [] := by unfold gapT; simp
 rw [e1, List.nil_append] at g2;obtain ⟨s1, s2, s3⟩ := grt_spec (L := L) (m := m) (t := 0)
 change (∀ e ∈ L, e.m = m -> e.n <= grt L m) at s1
 change 0 <= grt L m at s2
 change grt L m = 0 \/ ∃ e ∈ L, e.m = m /\ e.n = grt L m at s3
 rw [gap_T]
 have hup : grt L m < g := by
  rcases s3 with h | ⟨e, he, hm, hn⟩
  ·omega
  ·by_cases hlt : grt L m < g
   ·exact hlt
   ·have := g3 (grt L m).toNat (by omega)
    rw [show (((grt L m).toNat : Nat) : Int) = grt L m from by omega, has_no, fnd_none] at this
    exact absurd ⟨hm, hn⟩ (this e he)
 rcases g4 with rfl | hg
 ·rw [show (grt L m).toNat = 0 from by omega]
  rw [show ((1 : Nat) : Int) = 1 from rfl] at g2;rw [<- g2, e1]; rfl
 ·obtain ⟨e, he, hm, hn⟩ := has_iff.1 hg
  have hle := s1 e he hm;have hg1 : (grt L m).toNat + 1 = g := by omega
  have hpos : 1 <= (grt L m).toNat := by have := (hok.ent e he).n1; omega
  have := gapT_succ (L := L) (m := m) (n := (grt L m).toNat) hpos;rw [hg1, show (((grt L m).toNat : Nat) : Int) = (g : Int) - 1 from by omega, hg, if_pos rfl] at this
  rw [<- this, g2]; rfl
end Go.Proofs.YtdlfkbpddfeenaaGreatDoor.Sk
namespace Go.Proofs.YtdlfkbpddfeenaaGreatDoor.Sk
open Go Go.E
theorem mem_gap {L : List Ent} {m x : Int} : x ∈ gap L m ↔ 1 <= x /\ x < grt L m /\ has L m x = false := by
 unfold gap;simp only [List.mem_filter, List.mem_map, List.mem_range, Bool.and_eq_true, decide_eq_true_eq, Bool.not_eq_true'];constructor
 ·rintro ⟨⟨k, hk, rfl⟩, h1, h2⟩; exact ⟨h1, by omega, h2⟩
 ·rintro ⟨h1, h2, h3⟩; exact ⟨⟨x.toNat, by omega, by omega⟩, h1, h3⟩
theorem gap_pw {L : List Ent} {m : Int} : (gap L m).Pairwise (· < ·) := by
 unfold gap;refine List.Pairwise.filter _ ?_;rw [List.pairwise_map];exact List.pairwise_lt_range.imp fun h => by omega
theorem grt_has {L : List Ent} {m : Int} (h : 0 < grt L m) : has L m (grt L m) = true := by
 rcases (grt_spec (L := L) (m := m) (t := 0)).2.2 with h1 | ⟨e, he, hm, hn⟩
 ·have : grt L m = 0 := h1
  omega
 ·exact has_iff.2 ⟨e, he, hm, hn⟩
theorem grt_max {L : List Ent} {m n : Int} (h : has L m n = true) : n <= grt L m := by
 obtain ⟨e, he, hm, hn⟩ := has_iff.1 h;have := (grt_spec (L := L) (m := m) (t := 0)).1 e he hm;rw [hn] at this; exact this
theorem gap_none {L : List Ent} {m : Int} (hL : OkS L) (h : gap L m = []) : (mark L m : Int) = grt L m := by
 have hb : ∀ e ∈ L, e.n <= 30 := fun e he => (hL.ent e he).n30
 have hg := grt_bd (m := m) hL
 have := mark_eq (m := m) hb (t := (grt L m).toNat) (fun j h1 h2 => by
  by_cases hj : (j : Int) = grt L m
  ·rw [hj]; exact grt_has (by omega)
  ·cases hh : has L m j with
   | true => rfl
   | false =>
    have : (j : Int) ∈ gap L m := mem_gap.2 ⟨by omega, by omega, hh⟩
    rw [h] at this; cases this) (by
  cases hh : has L m (((grt L m).toNat + 1 : Nat) : Int) with
  | false => rfl
  | true => have := grt_max hh; omega)
 omega
theorem gap_first {L : List Ent} {m g : Int} {gs : List Int} (hL : OkS L) (h : gap L m = g :: gs) : (mark L m : Int) = g - 1 /\ 1 <= g /\ g < grt L m /\ has L m g = false := by
 have hb : ∀ e ∈ L, e.n <= 30 := fun e he => (hL.ent e he).n30
 have hg := mem_gap.1 (show g ∈ gap L m by rw [h]; exact List.mem_cons_self ..)
 have hpw := gap_pw (L := L) (m := m);rw [h] at hpw
 have := mark_eq (m := m) hb (t := (g - 1).toNat) (fun j h1 h2 => by
  cases hh : has L m j with
  | true => rfl
  | false =>
   have hj : (j : Int) ∈ gap L m := mem_gap.2 ⟨by omega, by omega, hh⟩
   rw [h] at hj
   rcases List.mem_cons.1 hj with hj | hj
   ·omega
   ·have := (List.pairwise_cons.1 hpw).1 _ hj; omega) (by
  rw [show (((g - 1).toNat + 1 : Nat) : Int) = g by omega]; exact hg.2.2)
 exact ⟨by omega, hg⟩
theorem gap_put {L : List Ent} {m g : Int} {gs : List Int} (hL : OkS L) (hl : L.length < 24) (h0 : 0 <= m) (h4 : m <= 4) (h : gap L m = g :: gs) :
  ∃ X, putR L ⟨m, g, 2, 0⟩ = (X, 0) /\ OkS X /\ mark L m < mark X m /\ gap X m = gs := by
 have hbd := grt_bd (m := m) hL;obtain ⟨h1, h2, h3, h5⟩ := gap_first hL h
 have hE : ckE ⟨m, g, 2, 0⟩ = 0 := by
  unfold ckE;simp only;rw [if_neg (by omega), if_neg (by omega), if_neg (by omega), if_neg (by omega)]
 have o1 := ckS_zero.1 (ck_one hE)
 have hf : fnd L m g = none := by
  unfold has at h5
  cases hh : fnd L m g with
  | none => rfl
  | some e => rw [hh] at h5; cases h5
 have hc : clsh L [⟨m, g, 2, 0⟩] = false := by rw [clsh_one]; show (match fnd L m g with | some old => decide (old ≠ _) | none => false) = false; rw [hf]
 have hn : newL L [⟨m, g, 2, 0⟩] = [⟨m, g, 2, 0⟩] := by rw [newL_one]; show (if (fnd L m g).isNone = true then _ else _) = _; rw [hf]; rfl
 have hlen : L.length + (newL L [⟨m, g, 2, 0⟩]).length <= 24 := by rw [hn]; simp; omega
 have hj := join_ok hL o1 hc hlen;have oX := jn_ok hL o1 hlen;have hmem : ∀ x, x ∈ jn L [⟨m, g, 2, 0⟩] ↔ x ∈ L \/ x = ⟨m, g, 2, 0⟩ := fun x => by rw [mem_jn hL.ord o1.ord hc, List.mem_singleton]
 generalize jn L [⟨m, g, 2, 0⟩] = X at hj oX hmem
 have hhas : ∀ n, has X m n = true ↔ has L m n = true \/ n = g := fun n => by
  rw [has_iff, has_iff];constructor
  ·rintro ⟨e, he, hm, hn⟩
   rcases (hmem e).1 he with he | rfl
   ·exact .inl ⟨e, he, hm, hn⟩
   ·exact .inr hn.symm
  ·rintro (⟨e, he, hm, hn⟩ | rfl)
   ·exact ⟨e, (hmem e).2 (.inl he), hm, hn⟩
   ·exact ⟨_, (hmem _).2 (.inr rfl), rfl, rfl⟩
 have hgr : grt X m = grt L m := by
  have h6 := grt_has (L := L) (m := m) (by omega)
  have h7 := grt_max ((hhas _).2 (.inl h6));have h8 := grt_has (L := X) (m := m) (by omega)
  rcases (hhas _).1 h8 with h9 | h9
  ·have := grt_max h9; omega
  ·omega
 refine ⟨X, ?_, oX, ?_, ?_⟩
 ·unfold putR
  rw [if_neg (by simp [ckS_zero.2 hL]), if_neg (by simp [hE]), hj]
 ·have hbX : ∀ e ∈ X, e.n <= 30 := fun e he => (oX.ent e he).n30
  have hbL : ∀ e ∈ L, e.n <= 30 := fun e he => (hL.ent e he).n30
  have s1 := mark_spec (m := m) hbX;have s2 := mark_spec (m := m) hbL
  rcases Nat.lt_or_ge (mark L m) (mark X m) with h | h
  ·exact h
  ·exfalso
   have h9 : has X m ((mark X m + 1 : Nat) : Int) = true := by
    by_cases e : ((mark X m + 1 : Nat) : Int) = g
    ·exact (hhas _).2 (.inr e)
    ·exact (hhas _).2 (.inl (s2.1 (mark X m + 1) (by omega) (by omega)))
   rw [s1.2.1] at h9; cases h9
 ·have hp1 := gap_pw (L := X) (m := m)
  have hp2 := gap_pw (L := L) (m := m);rw [h] at hp2;have hp3 := List.pairwise_cons.1 hp2
  have hm : ∀ x, x ∈ gap X m ↔ x ∈ gs := fun x => by
   have hx : x ∈ gap L m ↔ x = g \/ x ∈ gs := by rw [h, List.mem_cons]
   rw [mem_gap] at hx;rw [mem_gap, hgr]
   have hfalse : has X m x = false ↔ has L m x = false /\ x ≠ g := by
    have := hhas x
    cases ha : has X m x <;> cases hb : has L m x <;> simp_all
   rw [hfalse];constructor
   ·rintro ⟨a, b, c, d⟩
    rcases hx.1 ⟨a, b, c⟩ with e | e
    ·exact absurd e d
    ·exact e
   ·intro e
    obtain ⟨a, b, c⟩ := hx.2 (.inr e);exact ⟨a, b, c, fun e2 => by subst e2; have := hp3.1 _ e; omega⟩
  exact List.Perm.eq_of_pairwise (le := fun a b => a <= b) (fun a b _ _ h1 h2 => Int.le_antisymm h1 h2) (hp1.imp fun h => Int.le_of_lt h) (hp3.2.imp fun h => Int.le_of_lt h)
   ((List.perm_ext_iff_of_nodup (hp1.imp fun h => Int.ne_of_lt h) (hp3.2.imp fun h => Int.ne_of_lt h)).2 hm)
theorem lft_congr {A X : List Ent} {m n : Int} (hm : mark A m = mark X m) (h : ∀ j : Nat, j < mark A m -> fnd A m ((j + 1 : Nat) : Int) = fnd X m ((j + 1 : Nat) : Int)) : lft A m n = lft X m n := by
 unfold lft;rw [<- hm, Bool.eq_iff_iff, List.any_eq_true, List.any_eq_true];constructor
 ·rintro ⟨j, hj, he⟩
  exact ⟨j, hj, by rw [<- h j (List.mem_range.1 hj)]; exact he⟩
 ·rintro ⟨j, hj, he⟩
  exact ⟨j, hj, by rw [h j (List.mem_range.1 hj)]; exact he⟩
theorem stL_congr {A X : List Ent} {m : Int} (hm : mark A m = mark X m) (h : ∀ j : Nat, j < mark A m -> fnd A m ((j + 1 : Nat) : Int) = fnd X m ((j + 1 : Nat) : Int)) : stL A m = stL X m := by
 have key : ∀ j : Nat, j <= mark A m -> stT A m j = stT X m j := by
  intro j
  induction j with
  | zero => intro _; rfl
  | succ j ih =>
   intro hj;simp only [stT];rw [lft_congr hm h, ih (by omega), h j (by omega)]
 unfold stL;rw [key _ (Nat.le_refl _), hm]
theorem put_spec {A : List Ent} {e : Ent} (oA : OkS A) (h : (putR A e).2 = 0) : OkS (putR A e).1 /\ ckE e = 0 /\ ∀ x, x ∈ (putR A e).1 ↔ x ∈ A \/ x = e := by
 unfold putR at h ⊢;rw [if_neg (by simp [ckS_zero.2 oA])] at h ⊢
 by_cases he : ckE e = 0
 ·rw [if_neg (by simp [he])] at h ⊢
  have o1 := ckS_zero.1 (ck_one he)
  rcases join_code oA o1 with ⟨h1, h2, h3⟩ | h1 | h1
  ·rw [join_ok oA o1 h2 h3]
   exact ⟨jn_ok oA o1 h3, he, fun x => by rw [mem_jn oA.ord o1.ord h2, List.mem_singleton]⟩
  ·rw [h1] at h; cases h
  ·rw [h1] at h; cases h
 ·rw [if_pos (by simp [he])] at h
  exact absurd h he
theorem fnd_sub {A X : List Ent} (oX : OkS X) (hs : ∀ x ∈ A, x ∈ X) {m n : Int} {y : Ent} (h : fnd A m n = some y) : fnd X m n = some y := by
 obtain ⟨h1, h2, h3⟩ := fnd_some h;rw [<- h2, <- h3];exact fnd_mem oX.ord (hs y h1)
theorem mark_le {A X : List Ent} (oA : OkS A) (oX : OkS X) (hs : ∀ x ∈ A, x ∈ X) {m : Int} : mark A m <= mark X m := by
 have hA : ∀ e ∈ A, e.n <= 30 := fun e he => (oA.ent e he).n30
 have hX : ∀ e ∈ X, e.n <= 30 := fun e he => (oX.ent e he).n30
 have s1 := mark_spec (m := m) hA;have s2 := mark_spec (m := m) hX
 rcases Nat.lt_or_ge (mark X m) (mark A m) with h | h
 ·exfalso
  have h1 := s1.1 (mark X m + 1) (by omega) (by omega)
  obtain ⟨y, hy, hm, hn⟩ := has_iff.1 h1;have h2 := has_iff.2 ⟨y, hs y hy, hm, hn⟩;rw [s2.2.1] at h2; cases h2
 ·exact h
theorem mark_same {A X : List Ent} {e : Ent} (oA : OkS A) (oX : OkS X) (hm : ∀ x, x ∈ X ↔ x ∈ A \/ x = e) {m : Int} (hne : m ≠ e.m) : mark A m = mark X m := by
 have hs : ∀ x ∈ A, x ∈ X := fun x hx => (hm x).2 (.inl hx)
 have h1 := mark_le oA oX hs (m := m);have hA : ∀ e ∈ A, e.n <= 30 := fun e he => (oA.ent e he).n30
 have hX : ∀ e ∈ X, e.n <= 30 := fun e he => (oX.ent e he).n30
 have s1 := mark_spec (m := m) hA;have s2 := mark_spec (m := m) hX
 rcases Nat.lt_or_ge (mark A m) (mark X m) with h | h
 ·exfalso
  have h2 := s2.1 (mark A m + 1) (by omega) (by omega)
  obtain ⟨y, hy, h3, h4⟩ := has_iff.1 h2
  rcases (hm y).1 hy with hy | rfl
  ·have := has_iff.2 ⟨y, hy, h3, h4⟩
   rw [s1.2.1] at this; cases this
  ·exact hne h3.symm
 ·omega
theorem st_same {A X : List Ent} (oA : OkS A) (oX : OkS X) (hs : ∀ x ∈ A, x ∈ X) {m : Int} (hm : mark A m = mark X m) : stL A m = stL X m := by
 have hA : ∀ e ∈ A, e.n <= 30 := fun e he => (oA.ent e he).n30
 refine stL_congr hm fun j hj => ?_
 have h1 := (mark_spec (m := m) hA).1 (j + 1) (by omega) (by omega)
 cases hf : fnd A m ((j + 1 : Nat) : Int) with
 | none => unfold has at h1; rw [hf] at h1; cases h1
 | some y => exact (fnd_sub oX hs hf).symm
theorem ok_filter {A : List Ent} (oA : OkS A) (p : Ent -> Bool) : OkS (A.filter p) :=
 ⟨Nat.le_trans (List.length_filter_le _ _) oA.len, fun e he => oA.ent e (List.mem_filter.1 he).1, oA.ord.filter _⟩
theorem put_part {A : List Ent} (oA : OkS A) (p : Ent -> Bool) {e : Ent} (he : e ∈ A) : putR (A.filter p) e = (A.filter fun x => p x || decide (x = e), 0) := by
 have oP := ok_filter oA p;have oQ := ok_filter oA fun x => p x || decide (x = e)
 have hE := ckE_zero.2 (oA.ent e he)
 by_cases hp : p e = true
 ·have hf : fnd (A.filter p) e.m e.n = some e := fnd_mem oP.ord (List.mem_filter.2 ⟨he, hp⟩)
  rw [putR_same (ckS_zero.2 oP) hE hf]
  congr 1
  refine List.filter_congr fun x _ => ?_
  by_cases hx : x = e
  ·subst hx; rw [hp]; rfl
  ·rw [decide_eq_false hx, Bool.or_false]
 ·have hf : fnd (A.filter p) e.m e.n = none := by
   cases hh : fnd (A.filter p) e.m e.n with
   | none => rfl
   | some y =>
    obtain ⟨h1, h2, h3⟩ := fnd_some hh;obtain ⟨h4, h5⟩ := List.mem_filter.1 h1;have := same_eq oA.ord h4 he ⟨h2, h3⟩;subst this;exact absurd h5 hp
  have hlt : (A.filter p).length < 24 := by
   have h1 : (A.filter p).length < A.length := by
    rcases Nat.lt_or_ge (A.filter p).length A.length with h | h
    ·exact h
    ·have h2 := Nat.le_antisymm (List.length_filter_le p A) h
     rw [List.length_filter_eq_length_iff] at h2;exact absurd (h2 e he) hp
   have := oA.len;omega
  rw [putR_new (ckS_zero.2 oP) hE hf hlt]
  congr 1
  refine sorted_ext (ins_ord oP.ord) oQ.ord fun x => ?_
  rw [mem_ins hf, List.mem_filter, List.mem_filter, Bool.or_eq_true, decide_eq_true_eq];constructor
  ·rintro (rfl | ⟨h1, h2⟩)
   ·exact ⟨he, .inr rfl⟩
   ·exact ⟨h1, .inl h2⟩
  ·rintro ⟨h1, h2 | h2⟩
   ·exact .inr ⟨h1, h2⟩
   ·exact .inl h2
theorem part_le {A : List Ent} (p : Ent -> Bool) {e : Ent} : (A.filter p).length <= (A.filter fun x => p x || decide (x = e)).length := by
 rw [<- List.countP_eq_length_filter, <- List.countP_eq_length_filter];exact List.countP_mono_left fun x _ h => by rw [h]; rfl
end Go.Proofs.YtdlfkbpddfeenaaGreatDoor.Sk
namespace Go.Proofs.YtdlfkbpddfeenaaGreatDoor.Sk
open Go Go.E Go.E.Sm
set_option maxRecDepth 10000
theorem k45t {A B : List Ent} {but : Int} (hA : OkS A) (hB : OkS B) (h : ∀ i : Nat, i < 5 -> (i : Int) ≠ but -> stL A i = stL B i) : E.Fn Tryz.prog 45 [ssn A, ssn B, .int .i64 but] [.bool true] := by
 refine fn_of_row okf45 ?_;have cA := ckS_zero.2 hA;have cB := ckS_zero.2 hB
 have r : ∀ (L : List Ent) (i : Nat), ckS L = 0 -> i < 5 -> E.Fn Tryz.prog 35 [ssn L, .int .i64 i] [stV (stL L i), .int .i64 0] := fun L i hL hi => by
  have hck : ckM L i = 0 := by unfold ckM; rw [if_neg (by simp [hL]), if_pos (by omega)]
  exact fn_eq k35 (by rw [hck, if_pos rfl])
 simp only [FRow.start, f45, c45r0, c45r1, ssn, SV.cells, go_sem, Nat.reduceAdd, Nat.reduceSub, true_implies]
 refine loop_rule (fun k τ => ∃ i : Nat, k = 5 - i /\ i <= 5 /\
  τ = ⟨(aN::aN::(aI but)::(.s (.ptr [ents A]))::(.s (.ptr [ents B]))::aN::aN::(aI i)::aN::aN::aN::aN::aN::aZ32), []⟩) 5 rfl ?_ ?_
 ·simp only [c45l8m, go_sem]
  exact ⟨0, rfl, by decide, rfl⟩
 rintro I k τ ⟨i, rfl, hi, rfl⟩ hI;simp only [c45l8, c45r2, go_sem, ↓reduceIte, true_implies];refine ⟨fun hlt => ?_, fun hge => ?_⟩
 ·have hi5 : i < 5 := by omega
  simp only [c45r3, go_sem];refine callK_of (by simp only [ssn, go_sem]) (r A i cA hi5) (.inr (by simp only [ssn, go_sem]; exact .inl trivial)) ?_
  simp only [stV, splice, c45r4, go_sem, Nat.reduceAdd, true_implies];refine callK_of (by simp only [ssn, go_sem]) (r B i cB hi5) (.inr (by simp only [ssn, go_sem]; exact .inl trivial)) ?_
  simp only [stV, splice, c45r5, go_sem, Nat.reduceAdd, true_implies];refine ⟨fun he => ?_, fun hne => ?_⟩
  ·simp only [c45r7, c45l8m, go_sem, true_implies]
   exact ⟨inR_small (by omega) (by omega), hI (5 - (i + 1)) _ (by omega) ⟨i + 1, rfl, by omega, rfl⟩⟩
  ·rw [<- h i hi5 hne]
   refine callK_of (by simp only [stV, go_sem]) (k39t (s := stL A i)) (.inl rfl) ?_
   simp only [c45r7, c45l8m, go_sem, Nat.reduceAdd, true_implies];exact ⟨inR_small (by omega) (by omega), hI (5 - (i + 1)) _ (by omega) ⟨i + 1, rfl, by omega, rfl⟩⟩
 ·simp only [c45r9, go_sem, true_implies]
end Go.Proofs.YtdlfkbpddfeenaaGreatDoor.Sk
