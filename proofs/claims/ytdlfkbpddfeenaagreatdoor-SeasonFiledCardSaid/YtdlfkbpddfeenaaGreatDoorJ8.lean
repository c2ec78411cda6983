/- Contracts: lines of a file, both. -/
import Derived.Test.YtdlfkbpddfeenaaGreatDoorJ7
import Derived.WalkMore
import Derived.Laws.EntriesVeiled

set_option linter.all false

namespace Go.Proofs.YtdlfkbpddfeenaaGreatDoor.Sk
open Go Go.E Go.E.Sm
set_option maxRecDepth 10000
theorem bL_data {l : List UInt8} : (bL l).data.toList = l := by simp [bL]
theorem bL_inj {a b : List UInt8} (h : bL a = bL b) : a = b := by rw [<- bL_data (l := a), h, bL_data]
theorem bL_of (s : ByteArray) : bL s.data.toList = s := by apply ByteArray.ext; simp [bL]
theorem spl_prt {c : UInt8} {l : List UInt8} : spl (bL l) (bL [c]) = (prt c l).map bL := by
 have h := Lib.splitB_data (bL [c]) 0 (Lib.countB (bL l) (bL [c])) (bL l)
 have hc : Lib.countB (bL l) (bL [c]) = Lib.count l [c] := by
  show Lib.count (bL l).data.toList (bL [c]).data.toList = _
  rw [bL_data, bL_data]
 rw [bL_data, bL_data, hc, prt_count] at h;unfold spl;rw [hc, <- h, List.map_map]
 conv => lhs; rw [<- List.map_id (Lib.splitB _ _ _ _)]
 exact List.map_congr_left fun s _ => (bL_of s).symm
theorem nuV_bL {l : List UInt8} : nuV (bL l) = nuL l := by unfold nuV nuL; rw [bL_data]; cases Lib.atoiAll l <;> rfl
theorem nuB_bL {l : List UInt8} : nuB (bL l) = nuF l := by
 unfold nuB nuF;rw [bL_data];have : (bL l).toList = l := by rw [ByteArray.toList_eq]; exact bL_data
 simp only [bL_size, this];rfl
def kdL (c : List UInt8) : Int := Lib.idxOfS wds (bL c) + 1
def enR (l : List UInt8) : Ent × Bool := match prt 32 l with
 | [a, b, c, d] => if kdL c = 0 \/ (numR a).2 = false \/ (numR b).2 = false \/ (numR d).2 = false then (⟨0, 0, 0, 0⟩, false) else (⟨(numR a).1, (numR b).1, kdL c, (numR d).1⟩, true)
 | _ => (⟨0, 0, 0, 0⟩, false)
theorem ldV_eq (l : List UInt8) : (ldV (bL l)).2 = (enR l).2 /\ ((enR l).2 = true -> (ldV (bL l)).1 = (enR l).1) := by
 unfold ldV enR;rw [spl_prt]
 match prt 32 l with
 | [a, b, c, d] =>
  have ha := nuF_eq a; have hb := nuF_eq b; have hd := nuF_eq d;have hk := wdx (bL c);simp only [List.map_cons, List.map_nil, nuV_bL, nuB_bL, ha.1, hb.1, hd.1]
  by_cases h : kdL c = 0 \/ (numR a).2 = false \/ (numR b).2 = false \/ (numR d).2 = false
  ·rw [if_pos h]
   refine ⟨?_, fun h => by cases h⟩
   rcases h with h | h | h | h
   ·have : Lib.idxOfS wds (bL c) + 1 = 0 := h
    rw [this]; simp
   ·rw [h]; simp
   ·rw [h]; simp
   ·rw [h]; simp
  ·rw [if_neg h]
   have h1 : kdL c ≠ 0 := fun e => h (.inl e)
   have h2 : (numR a).2 = true := by cases e : (numR a).2 with | true => rfl | false => exact absurd (.inr (.inl e)) h
   have h3 : (numR b).2 = true := by cases e : (numR b).2 with | true => rfl | false => exact absurd (.inr (.inr (.inl e))) h
   have h4 : (numR d).2 = true := by cases e : (numR d).2 with | true => rfl | false => exact absurd (.inr (.inr (.inr e))) h
   rw [h2, h3, h4, ha.2 h2, hb.2 h3, hd.2 h4];have : 0 < Lib.idxOfS wds (bL c) + 1 := by unfold kdL at h1; omega
   exact ⟨by rw [decide_eq_true this]; rfl, fun _ => rfl⟩
 | [] => exact ⟨rfl, fun h => by cases h⟩
 | [_] => exact ⟨rfl, fun h => by cases h⟩
 | [_, _] => exact ⟨rfl, fun h => by cases h⟩
 | [_, _, _] => exact ⟨rfl, fun h => by cases h⟩
 | _ :: _ :: _ :: _ :: _ :: _ => exact ⟨rfl, fun h => by cases h⟩
theorem wds_ne : ∀ i : Nat, i < 5 -> ∀ j, j < i -> wdL.getD i [] ≠ wdL.getD j [] := by decide
theorem kd_hit {c : List UInt8} {j : Nat} (hj : j < 5) (h : wdL.getD j [] = c) : kdL c = (j : Int) + 1 := by
 have hg : ∀ i, i < 5 -> wds.getD i ByteArray.empty = bL (wdL.getD i []) := fun i hi => by rw [List.getD, wds_get (by omega)]; rfl
 have := Lib.idxOfS_hit wds 5 j (bL c) hj (by decide) (by rw [hg j hj, h]) fun i hi => by
  rw [hg i (by omega), <- h]
  exact fun e => wds_ne j hj i hi (bL_inj e).symm
 have e : wds.take 5 = wds := rfl;rw [e] at this;unfold kdL; omega
theorem kd_miss {c : List UInt8} (h : ∀ j, j < 5 -> wdL.getD j [] ≠ c) : kdL c = 0 := by
 have hg : ∀ i, i < 5 -> wds.getD i ByteArray.empty = bL (wdL.getD i []) := fun i hi => by rw [List.getD, wds_get (by omega)]; rfl
 have := Lib.idxOfS_miss wds 5 (bL c) fun j hj => by
  rw [hg j hj]; exact fun e => h j hj (bL_inj e)
 have e : wds.take 5 = wds := rfl;rw [e] at this;unfold kdL; omega
def endN (z : List UInt8) : Option Int := match prt 32 z with
 | [e, d] => if e = [101, 110, 100] /\ (numR d).2 = true then some (numR d).1 else none
 | _ => none
def bodyR (B : List (List UInt8)) (z : List UInt8) : List Ent × Int :=
 if B.all (fun p => (enR p).2) = true then match endN z with
  | none => ([], 8)
  | some n => if n = B.length then (if ckS (B.map fun p => (enR p).1) = 0 then (B.map fun p => (enR p).1, 0) else ([], ckS (B.map fun p => (enR p).1))) else ([], 16)
 else ([], 8)
def lodR (l : List UInt8) : List Ent × Int :=
 if 500 < l.length then ([], 7)
 else if l.getLast? = some 10 then bodyR (prt 10 l.dropLast).dropLast ((prt 10 l.dropLast).getLastD []) else ([], 8)
theorem split_last {α : Type} {P : List α} (h : P ≠ []) : ∃ Q q, P = Q ++ [q] := ⟨P.dropLast, P.getLast h, (List.dropLast_concat_getLast h).symm⟩
theorem lod_nl {l : List UInt8} (h : l.getLast? = some 10) : ∃ B z, prt 10 l = B ++ [z, []] /\ prt 10 l.dropLast = B ++ [z] := by
 have hne : l ≠ [] := fun e => by rw [e] at h; cases h
 obtain ⟨t, x, rfl⟩ := split_last hne;rw [List.getLast?_concat] at h
 cases h
 obtain ⟨B, z, hB⟩ := split_last (prt_ne 10 t);refine ⟨B, z, ?_, ?_⟩
 ·rw [prt_snoc, prtS, if_pos rfl, hB]; simp
 ·rw [List.dropLast_concat, hB]
theorem strs_app {A B : List (List UInt8)} : strs (A ++ B) = strs A ++ strs B := by simp [strs]
theorem strs_len {A : List (List UInt8)} : (strs A).length = A.length := by simp [strs]
theorem strs_get {A : List (List UInt8)} {i : Nat} : (strs A)[i]? = (A[i]?).map fun p => SV.str (bL p) := by simp [strs]
theorem bl_toList {l : List UInt8} : (bL l).toList = l := by rw [ByteArray.toList_eq]; exact bL_data
theorem bl_ext {l : List UInt8} {a b : Nat} : (bL l).extract a b = bL ((l.drop a).take (b - a)) := by
 apply ByteArray.ext
 simp only [bL, ByteArray.data_extract]
 apply Array.ext'
 simp [List.drop_take]
theorem suf_nl {l : List UInt8} : hasSuf (bL l) (bL [10]) = decide (l.getLast? = some 10) /\ (l.getLast? = some 10 -> cutSuf (bL l) (bL [10]) = bL l.dropLast) := by
 have key : hasSuf (bL l) (bL [10]) = decide (l.getLast? = some 10) := by
  unfold hasSuf;rw [bl_ext, bl_toList, bl_toList, bL_size, bL_size]
  by_cases h : l = []
  ·subst h; rfl
  ·obtain ⟨t, x, rfl⟩ := split_last h
   have e1 : (t ++ [x]).length - ([10] : List UInt8).length = t.length := by simp
   rw [e1, List.drop_left, List.getLast?_concat, Bool.eq_iff_iff];simp
 refine ⟨key, fun h => ?_⟩
 unfold cutSuf;rw [if_pos (by rw [key]; exact decide_eq_true h), bl_ext, bL_size]
 congr 1
 rw [List.drop_zero, List.dropLast_eq_take];rfl
theorem end_eq {z : List UInt8} : (endN z = none /\ (hasPre (bL z) (bL [101, 110, 100, 32]) && nuB (cutPre (bL z) (bL [101, 110, 100, 32]))) = false) \/
  (∃ n, endN z = some n /\ hasPre (bL z) (bL [101, 110, 100, 32]) = true /\ nuB (cutPre (bL z) (bL [101, 110, 100, 32])) = true /\ nuV (cutPre (bL z) (bL [101, 110, 100, 32])) = n) := by
 have hp : hasPre (bL z) (bL [101, 110, 100, 32]) = true ↔ ∃ d, z = [101, 110, 100, 32] ++ d := by
  unfold hasPre;rw [bl_ext, bl_toList, bl_toList, bL_size, bL_size, List.drop_zero];constructor
  ·intro h
   simp only [Bool.and_eq_true, decide_eq_true_eq, beq_iff_eq] at h;exact ⟨z.drop 4, by rw [<- h.2]; exact (List.take_append_drop 4 z).symm⟩
  ·rintro ⟨d, rfl⟩
   simp
 have hc : ∀ d, z = [101, 110, 100, 32] ++ d -> cutPre (bL z) (bL [101, 110, 100, 32]) = bL d := fun d hd => by
  unfold cutPre;rw [if_pos (hp.2 ⟨d, hd⟩), bl_ext, bL_size, bL_size]
  congr 1
  subst hd;simp
 have h32 : ∀ d : List UInt8, (numR d).2 = true -> (32 : UInt8) ∉ d := by
  intro d hd hm;unfold numR at hd
  split at hd
  ·cases hd
  ·cases hg : digs 0 d with
   | none => rw [hg] at hd; cases hd
   | some n =>
    have := digs_bad2 (x := 32) (.inl (by decide)) (a := 0) hm
    rw [hg] at this; cases this
 cases he : endN z with
 | none =>
  refine .inl ⟨rfl, ?_⟩
  cases hb : hasPre (bL z) (bL [101, 110, 100, 32]) with
  | false => rfl
  | true =>
   obtain ⟨d, hd⟩ := hp.1 hb;rw [hc d hd, nuB_bL, (nuF_eq d).1]
   cases hn : (numR d).2 with
   | false => rfl
   | true =>
    exfalso;unfold endN at he
    have : prt 32 z = [[101, 110, 100], d] := by
     rw [hd, show ([101, 110, 100, 32] ++ d : List UInt8) = [101, 110, 100] ++ 32 :: d from rfl, prt_app (by decide), prt_none (h32 d hn)]
    rw [this] at he;simp only at he;rw [if_pos ⟨trivial, hn⟩] at he
    cases he
 | some n =>
  refine .inr ⟨n, rfl, ?_⟩;unfold endN at he
  split at he
  ·rename_i e d hq
   split at he
   ·rename_i h
    obtain ⟨rfl, hn⟩ := h
    cases he
    have hd : z = [101, 110, 100, 32] ++ d := prt_two hq;exact ⟨hp.2 ⟨d, hd⟩, by rw [hc d hd, nuB_bL, (nuF_eq d).1, hn], by rw [hc d hd, nuV_bL, (nuF_eq d).2 hn]⟩
   ·cases he
  ·cases he
theorem k42 {l : List UInt8} (hl : l.length <= 1000) : E.Fn Tryz.prog 42 [.str (bL l)] [ssn (lodR l).1, .int .i64 (lodR l).2] := by
 refine fn_of_row okf42 ?_;generalize hR : lodR l = R;unfold lodR at hR;have b10 : (ByteArray.mk #[10]) = bL [10] := rfl;have hcut := suf_nl (l := l);simp only [FRow.start, f42, c42r0, c42r1, bL_size, go_sem, ↓reduceIte, reduceCtorEq, Nat.reduceAdd, Nat.reduceSub, Nat.reduceLT, Nat.reduceLeDiff, Int.reduceLE, Int.reduceLT, Int.reduceToNat, Nat.reduceMul, Int.reduceNeg, not_true_eq_false, false_implies, true_implies, not_false_eq_true];refine ⟨fun hlt => ?_, fun hge => ?_⟩
 ·rw [if_pos (by omega)] at hR
  subst hR;simp only [c42r2, spl_one, ssn, ents, go_sem, ↓reduceIte, reduceCtorEq, Nat.reduceAdd, Nat.reduceSub, Nat.reduceLT, Nat.reduceLeDiff, Int.reduceLE, Int.reduceLT, Int.reduceToNat, Nat.reduceMul, Int.reduceNeg, not_true_eq_false, false_implies, true_implies, not_false_eq_true]
 rw [if_neg (by omega)] at hR
 have hsz : ∀ p ∈ prt 10 l, p.length <= 500 := fun p hp => Nat.le_trans (prt_len hp) (by omega)
 have hnum := prt_num 10 l;simp only [c42r3, b10, go_sem, ↓reduceIte, reduceCtorEq, Nat.reduceAdd, Nat.reduceSub, Nat.reduceLT, Nat.reduceLeDiff, Int.reduceLE, Int.reduceLT, Int.reduceToNat, Nat.reduceMul, Int.reduceNeg, not_true_eq_false, false_implies, true_implies, not_false_eq_true];refine callK_of (by simp only [go_sem, ↓reduceIte, reduceCtorEq, Nat.reduceAdd, Nat.reduceSub, Nat.reduceLT, Nat.reduceLeDiff, Int.reduceLE, Int.reduceLT, Int.reduceToNat, Nat.reduceMul, Int.reduceNeg, not_true_eq_false, false_implies, true_implies, not_false_eq_true]) (k79 (s := bL l) (p := bL [10]) (by rw [bL_size]; omega)) (.inl rfl) ?_
 by_cases hnl : l.getLast? = some 10
 case neg =>
  rw [if_neg hnl] at hR;subst hR;rw [hcut.1, decide_eq_false hnl];simp only [c42r4, c42r5, spl_one, ssn, ents, go_sem, ↓reduceIte, reduceCtorEq, Nat.reduceAdd, Nat.reduceSub, Nat.reduceLT, Nat.reduceLeDiff, Int.reduceLE, Int.reduceLT, Int.reduceToNat, Nat.reduceMul, Int.reduceNeg, not_true_eq_false, false_implies, true_implies, not_false_eq_true]
 rw [if_pos hnl] at hR;rw [hcut.1, decide_eq_true hnl, hcut.2 hnl];obtain ⟨B, z, hP, hQ⟩ := lod_nl hnl;rw [hP] at hsz hnum;simp only [c42r4, c42r6, b10, go_sem, ↓reduceIte, reduceCtorEq, Nat.reduceAdd, Nat.reduceSub, Nat.reduceLT, Nat.reduceLeDiff, Int.reduceLE, Int.reduceLT, Int.reduceToNat, Nat.reduceMul, Int.reduceNeg, not_true_eq_false, false_implies, true_implies, not_false_eq_true];refine callK_of (by simp only [go_sem, ↓reduceIte, reduceCtorEq, Nat.reduceAdd, Nat.reduceSub, Nat.reduceLT, Nat.reduceLeDiff, Int.reduceLE, Int.reduceLT, Int.reduceToNat, Nat.reduceMul, Int.reduceNeg, not_true_eq_false, false_implies, true_implies, not_false_eq_true]) (k80 (s := bL l.dropLast) (sep := bL [10]) (by rw [bL_size, List.length_dropLast]; omega) (by decide)) (.inr (by simp only [go_sem, ↓reduceIte, reduceCtorEq, Nat.reduceAdd, Nat.reduceSub, Nat.reduceLT, Nat.reduceLeDiff, Int.reduceLE, Int.reduceLT, Int.reduceToNat, Nat.reduceMul, Int.reduceNeg, not_true_eq_false, false_implies, true_implies, not_false_eq_true]; exact .inl trivial)) ?_
 rw [spl_prt, hQ];rw [hQ, List.dropLast_concat, List.getLastD_concat] at hR;clear hP hQ hcut;have hPl : (B ++ [z]).length = B.length + 1 := by simp
 have hBl : B.length <= 500 := by simp at hnum; omega
 have est : ((B ++ [z]).map bL).map SV.str = strs (B ++ [z]) := by simp [strs]
 rw [est];have ez : ((B.length + 1 : Nat) : Int) - 1 = B.length := by omega
 have hse : (if (0 : Int) <= (B.length : Int) then some (B.length : Int).toNat else none) = some B.length := by rw [if_pos (by omega), Int.toNat_natCast]
 have htk : (strs (B ++ [z])).take (B.length - 0) = strs B := by
  rw [Nat.sub_zero, strs_app, List.take_append_of_le_length (by rw [strs_len]; exact Nat.le_refl _), List.take_of_length_le (by rw [strs_len]; exact Nat.le_refl _)]
 simp only [c42r7, c42r8, strs_len, hPl, ez, hse, htk, go_sem, ↓reduceIte, reduceCtorEq, Nat.reduceAdd, Nat.reduceSub, Nat.reduceLT, Nat.reduceLeDiff, Int.reduceLE, Int.reduceLT, Int.reduceToNat, Nat.reduceMul, Int.reduceNeg, not_true_eq_false, false_implies, true_implies, not_false_eq_true];refine ⟨inR_small (by omega) (by omega), by omega, by omega, fun _ => ?_⟩
 clear hse htk
 refine loop_rule (fun k τ => ∃ i : Nat, k = B.length - i /\ i <= B.length /\ (∀ p ∈ B.take i, (enR p).2 = true) /\
  τ = ⟨(aN::aN::(.loc 0 0)::aN::aN::aN::(.s (.slice (strs (B ++ [z]))))::(.loc 1 0)::aN::aN::aN::aN::aN::aN::aN::aN::aN::aN::aN::aN::aN::aN::aN::aN::aN::aN::aN::aN::aN::aN::aN::aN::aN::aN::(.s (.slice (strs B)))::(aI B.length)::(aI i)::aZ56), [.obj [.full []], .obj [.sl 2 0 (B.take i).length 4 false], .row (flE ((B.take i).map fun p => (enR p).1))]⟩) B.length rfl ?_ ?_
 ·simp only [c42l16m, go_sem, ↓reduceIte, reduceCtorEq, Nat.reduceAdd, Nat.reduceSub, Nat.reduceLT, Nat.reduceLeDiff, Int.reduceLE, Int.reduceLT, Int.reduceToNat, Nat.reduceMul, Int.reduceNeg, not_true_eq_false, false_implies, true_implies, not_false_eq_true]
  exact ⟨0, rfl, Nat.zero_le _, fun p h => by simp at h, rfl⟩
 rintro I k τ ⟨i, rfl, hi, hok, rfl⟩ hI;have hlt' : (B.take i).length = i := by rw [List.length_take]; omega
 simp only [c42l16, c42r9, go_sem, ↓reduceIte, reduceCtorEq, Nat.reduceAdd, Nat.reduceSub, Nat.reduceLT, Nat.reduceLeDiff, Int.reduceLE, Int.reduceLT, Int.reduceToNat, Nat.reduceMul, Int.reduceNeg, not_true_eq_false, false_implies, true_implies, not_false_eq_true];refine ⟨fun hlt => ?_, fun hge => ?_⟩
 ·have hx : B[i]? = some B[i] := List.getElem?_eq_getElem hlt
  have hpx := hsz B[i] (List.mem_append_left _ (List.getElem_mem hlt));generalize B[i] = p at hx hpx;have ht := take_snoc hx;have hget : (strs B)[i]? = some (.str (bL p)) := by rw [strs_get, hx]; rfl
  have hld := ldV_eq p;simp only [c42r10, hget, c42r11, go_sem, ↓reduceIte, reduceCtorEq, Nat.reduceAdd, Nat.reduceSub, Nat.reduceLT, Nat.reduceLeDiff, Int.reduceLE, Int.reduceLT, Int.reduceToNat, Nat.reduceMul, Int.reduceNeg, not_true_eq_false, false_implies, true_implies, not_false_eq_true];refine callK_of (by simp only [go_sem, ↓reduceIte, reduceCtorEq, Nat.reduceAdd, Nat.reduceSub, Nat.reduceLT, Nat.reduceLeDiff, Int.reduceLE, Int.reduceLT, Int.reduceToNat, Nat.reduceMul, Int.reduceNeg, not_true_eq_false, false_implies, true_implies, not_false_eq_true]) (k81 (s := bL p) (by rw [bL_size]; omega)) (.inl rfl) ?_
  cases hp : (enR p).2 with
  | false =>
   rw [hp] at hld
   have e : R = ([], 8) := by
    rw [<- hR]; unfold bodyR;rw [if_neg];intro h;have := List.all_eq_true.1 h p (List.mem_of_getElem? hx);rw [hp] at this; cases this
   subst e;rw [hld.1];simp only [ent, spl4, c42r12, c42r13, spl_one, ssn, ents, go_sem, ↓reduceIte, reduceCtorEq, Nat.reduceAdd, Nat.reduceSub, Nat.reduceLT, Nat.reduceLeDiff, Int.reduceLE, Int.reduceLT, Int.reduceToNat, Nat.reduceMul, Int.reduceNeg, not_true_eq_false, false_implies, true_implies, not_false_eq_true]
  | true =>
   rw [hp] at hld;rw [hld.1, hld.2 rfl];simp only [ent, spl4, c42r12, c42r14, go_sem, ↓reduceIte, reduceCtorEq, Nat.reduceAdd, Nat.reduceSub, Nat.reduceLT, Nat.reduceLeDiff, Int.reduceLE, Int.reduceLT, Int.reduceToNat, Nat.reduceMul, Int.reduceNeg, not_true_eq_false, false_implies, true_implies, not_false_eq_true];refine ⟨by decide, by decide, rfl, four_cells, four_cells, by rw [flE_len, List.length_map]; omega, by omega, by omega, ?_⟩
   have hes : (B.take (i + 1)).map (fun p => (enR p).1) = (B.take i).map (fun p => (enR p).1) ++ [(enR p).1] := by rw [ht, List.map_append]; rfl
   have hsn : flE ((B.take i).map fun p => (enR p).1) ++ flatE [SV.agg [.int .i64 (enR p).1.m, .int .i64 (enR p).1.n, .int .i64 (enR p).1.k, .int .i64 (enR p).1.a]] = flE ((B.take (i + 1)).map fun p => (enR p).1) := by
    rw [hes]; exact flE_snoc
   rw [hsn];simp only [spl_one, Nat.reduceBEq, Bool.false_eq_true, beq_self_eq_true, c42r15, c42l16m, go_sem, ↓reduceIte, reduceCtorEq, Nat.reduceAdd, Nat.reduceSub, Nat.reduceLT, Nat.reduceLeDiff, Int.reduceLE, Int.reduceLT, Int.reduceToNat, Nat.reduceMul, Int.reduceNeg, not_true_eq_false, false_implies, true_implies, not_false_eq_true];refine ⟨inR_small (by omega) (by omega), hI (B.length - (i + 1)) _ (by omega) ⟨i + 1, rfl, by omega, fun q hq => ?_, ?_⟩⟩
   ·rw [ht] at hq
    rcases List.mem_append.1 hq with hq | hq
    ·exact hok q hq
    ·simp only [List.mem_singleton] at hq
     subst hq; exact hp
   ·rw [ht, List.length_append]; rfl
 ·have hi2 : i = B.length := by omega
  subst hi2;rw [List.take_length] at hok ⊢;clear hI hi;have hzl := hsz z (by simp)
  have hall : B.all (fun p => (enR p).2) = true := List.all_eq_true.2 hok
  unfold bodyR at hR;rw [if_pos hall] at hR;generalize hL : B.map (fun p => (enR p).1) = L at *
  have hLl : L.length = B.length := by rw [<- hL, List.length_map]
  have ez : ((B.length + 1 : Nat) : Int) - 1 = B.length := by omega
  have hget : (strs (B ++ [z]))[B.length]? = some (.str (bL z)) := by rw [strs_get]; simp
  have hend := end_eq (z := z);have bend : (ByteArray.mk #[101, 110, 100, 32]) = bL [101, 110, 100, 32] := rfl;simp only [c42r17, strs_len, hPl, ez, Int.toNat_natCast, hget, bend, go_sem, ↓reduceIte, reduceCtorEq, Nat.reduceAdd, Nat.reduceSub, Nat.reduceLT, Nat.reduceLeDiff, Int.reduceLE, Int.reduceLT, Int.reduceToNat, Nat.reduceMul, Int.reduceNeg, not_true_eq_false, false_implies, true_implies, not_false_eq_true];refine ⟨inR_small (by omega) (by omega), ?_⟩
  refine callK_of (by simp only [go_sem, ↓reduceIte, reduceCtorEq, Nat.reduceAdd, Nat.reduceSub, Nat.reduceLT, Nat.reduceLeDiff, Int.reduceLE, Int.reduceLT, Int.reduceToNat, Nat.reduceMul, Int.reduceNeg, not_true_eq_false, false_implies, true_implies, not_false_eq_true]) (k82 (s := bL z) (p := bL [101, 110, 100, 32])) (.inl rfl) ?_
  have hms : (cutPre (bL z) (bL [101, 110, 100, 32])).size <= 500 := by
   unfold cutPre
   split
   ·rw [bl_ext, bL_size, List.length_take, List.length_drop]; omega
   ·rw [bL_size]; exact hzl
  generalize cutPre (bL z) (bL [101, 110, 100, 32]) = m at hend hms;generalize hasPre (bL z) (bL [101, 110, 100, 32]) = pb at hend;have h83 := k83 (s := m) (by omega)
  generalize nuB m = nb at hend h83;generalize nuV m = nv at hend h83;have hse := slice_ents (l := L) (n := B.length) hLl.symm;simp only [c42r18, go_sem, ↓reduceIte, reduceCtorEq, Nat.reduceAdd, Nat.reduceSub, Nat.reduceLT, Nat.reduceLeDiff, Int.reduceLE, Int.reduceLT, Int.reduceToNat, Nat.reduceMul, Int.reduceNeg, not_true_eq_false, false_implies, true_implies, not_false_eq_true];intro _;refine callK_of (by simp only [go_sem, ↓reduceIte, reduceCtorEq, Nat.reduceAdd, Nat.reduceSub, Nat.reduceLT, Nat.reduceLeDiff, Int.reduceLE, Int.reduceLT, Int.reduceToNat, Nat.reduceMul, Int.reduceNeg, not_true_eq_false, false_implies, true_implies, not_false_eq_true]) h83 (.inl rfl) ?_
  simp only [c42r19, hse, go_sem, ↓reduceIte, reduceCtorEq, Nat.reduceAdd, Nat.reduceSub, Nat.reduceLT, Nat.reduceLeDiff, Int.reduceLE, Int.reduceLT, Int.reduceToNat, Nat.reduceMul, Int.reduceNeg, not_true_eq_false, false_implies, true_implies, not_false_eq_true];refine callK_of (by simp only [hse, ssn, go_sem, ↓reduceIte, reduceCtorEq, Nat.reduceAdd, Nat.reduceSub, Nat.reduceLT, Nat.reduceLeDiff, Int.reduceLE, Int.reduceLT, Int.reduceToNat, Nat.reduceMul, Int.reduceNeg, not_true_eq_false, false_implies, true_implies, not_false_eq_true]) (k25 (L := L)) (.inl rfl) ?_
  rcases hend with ⟨h1, h2⟩ | ⟨n, h1, rfl, rfl, rfl⟩
  ·rw [h1] at hR
   simp only at hR;subst hR
   cases pb <;> cases nb <;> simp at h2 <;> (simp only [c42r20, c42r21, spl_one, ssn, ents, go_sem, ↓reduceIte, reduceCtorEq, Nat.reduceAdd, Nat.reduceSub, Nat.reduceLT, Nat.reduceLeDiff, Int.reduceLE, Int.reduceLT, Int.reduceToNat, Nat.reduceMul, Int.reduceNeg, not_true_eq_false, false_implies, true_implies, not_false_eq_true])
  ·rw [h1] at hR
   simp only at hR;simp only [c42r20, c42r22, go_sem, ↓reduceIte, reduceCtorEq, Nat.reduceAdd, Nat.reduceSub, Nat.reduceLT, Nat.reduceLeDiff, Int.reduceLE, Int.reduceLT, Int.reduceToNat, Nat.reduceMul, Int.reduceNeg, not_true_eq_false, false_implies, true_implies, not_false_eq_true];intro _;refine ⟨fun hn => ?_, fun hn => ?_⟩
   case refine_2 =>
    rw [if_neg hn] at hR;subst hR;simp only [c42r23, spl_one, ssn, ents, go_sem, ↓reduceIte, reduceCtorEq, Nat.reduceAdd, Nat.reduceSub, Nat.reduceLT, Nat.reduceLeDiff, Int.reduceLE, Int.reduceLT, Int.reduceToNat, Nat.reduceMul, Int.reduceNeg, not_true_eq_false, false_implies, true_implies, not_false_eq_true]
   rw [if_pos hn] at hR
   by_cases hA : ckS L = 0
   case neg =>
    rw [if_neg hA] at hR;subst hR;simp only [hA, c42r24, c42r25, spl_one, ssn, ents, go_sem, ↓reduceIte, reduceCtorEq, Nat.reduceAdd, Nat.reduceSub, Nat.reduceLT, Nat.reduceLeDiff, Int.reduceLE, Int.reduceLT, Int.reduceToNat, Nat.reduceMul, Int.reduceNeg, not_true_eq_false, false_implies, true_implies, not_false_eq_true]
   rw [if_pos hA] at hR;subst hR;simp only [hA, c42r24, c42r26, hse, spl_one, ssn, go_sem, ↓reduceIte, reduceCtorEq, Nat.reduceAdd, Nat.reduceSub, Nat.reduceLT, Nat.reduceLeDiff, Int.reduceLE, Int.reduceLT, Int.reduceToNat, Nat.reduceMul, Int.reduceNeg, not_true_eq_false, false_implies, true_implies, not_false_eq_true]
end Go.Proofs.YtdlfkbpddfeenaaGreatDoor.Sk
namespace Go.Proofs.YtdlfkbpddfeenaaGreatDoor.Sk
open Go Go.E Go.RowKit
set_option maxRecDepth 100000
def rc95 (b : Nat) : Array Value := #[.int .i64 1, .func (.func 120) #[] #[], .func (.func 124) #[] #[],
 .int .i64 2, .func (.func 123) #[] #[.pointer (some ⟨b, 0, none⟩)], .func (.func 125) #[] #[],
 .int .i64 3, .func (.func 121) #[] #[], .func (.func 126) #[] #[], .int .i64 4, .func (.func 122) #[] #[], .func (.func 127) #[] #[]]
theorem w95 (w : World) : Calls Tryz.prog 95 #[] w fun e w' => e = .returned (.slice (some ⟨w.heap.size + 1, 0, none⟩) 4 4) /\
  w' = (w.alloc (.cells #[.func (.func 121) #[] #[]] 128)).alloc (.cells (rc95 w.heap.size) 131) := by
 go_enter Tryz.func95, Tryz.ntmps95
 go_wp2
 go_ret
 exact ⟨rfl, rfl⟩
theorem crel_fn0 {M : Mem} {f : FuncId} : CRel M (.fn f [] []) [.func (.func f) #[] #[]] := by
 simp only [CRel]; exact ⟨[], [], rfl, by simp [ones, CRelC], by simp [ones, CRelC]⟩
theorem k95 : E.Fn Tryz.prog 95 [] [.slice rlsL] := by
 intro M w vs hM hv;have hvs : vs = [] := by simpa [VRelL] using hv
 subst hvs;refine (w95 w).mono fun e w' ⟨he, hw⟩ => ?_
 obtain ⟨a1, a2, a3, a4⟩ := Mem.lay_spec hM #[.func (.func 121) #[] #[]] 128;obtain ⟨b1, b2, b3, b4⟩ := Mem.lay_spec a3 (rc95 w.heap.size) 131;generalize hM1 : M.lay w.heap.size (#[Value.func (.func 121) #[] #[]]).toList = M1 at a1 a2 a3 a4 b1 b2 b3 b4;have hs : (w.alloc (.cells #[.func (.func 121) #[] #[]] 128)).heap.size = w.heap.size + 1 := by simp
 rw [hs] at b1 b2 b3 b4;generalize hM2 : M1.lay (w.heap.size + 1) (rc95 w.heap.size).toList = M2 at b1 b2 b3 b4;refine ⟨[.slice (some ⟨w.heap.size + 1, 0, none⟩) 4 4], M2, he, Mem.le_trans a1 b1, by rw [hw]; exact b3, ?_, by rw [hw]; exact (touch_alloc w _).trans (touch_alloc _ _), ?_⟩
 ·refine ⟨_, _, rfl, vrel_of_one ?_ rfl, rfl⟩
  simp only [CRel]
  refine ⟨_, _, _, rfl, rfl, Nat.le_refl _, by decide, .inr ⟨w.heap.size + 1, 0, 3, [[.int .i64 1, .func (.func 120) #[] #[], .func (.func 124) #[] #[]],
   [.int .i64 2, .func (.func 123) #[] #[.pointer (some ⟨w.heap.size, 0, none⟩)], .func (.func 125) #[] #[]],
   [.int .i64 3, .func (.func 121) #[] #[], .func (.func 126) #[] #[]], [.int .i64 4, .func (.func 122) #[] #[], .func (.func 127) #[] #[]]], rfl, ?_, by simp, b4⟩⟩
  have hr : ∀ (k : Int) (r d : SV) (x y : Value), CRel M2 r [x] -> CRel M2 d [y] -> CRel M2 (rule k r d) [.int .i64 k, x, y] := fun k r d x y h1 h2 => by
   simp only [rule, CRel, CRelC, ones_cons, ones_nil];exact ⟨_, _, rfl, rfl, _, _, rfl, h1, _, _, rfl, h2, rfl⟩
  refine crelC_cons (hr _ _ _ _ _ crel_fn0 crel_fn0) (crelC_cons (hr _ _ _ _ _ ?_ crel_fn0) (crelC_cons (hr _ _ _ _ _ crel_fn0 crel_fn0) (crelC_cons (hr _ _ _ _ _ crel_fn0 crel_fn0) crelC_nil)));simp only [CRel];refine ⟨[], [.pointer (some ⟨w.heap.size, 0, none⟩)], rfl, by simp [ones, CRelC], ?_⟩
  refine crelC_cons ?_ crelC_nil;simp only [CRel];exact ⟨w.heap.size, 0, [.func (.func 121) #[] #[]], rfl, crelC_cons crel_fn0 crelC_nil, a4.mono b1⟩
 ·refine ⟨fun b o v h => ?_, fun b es h => ?_⟩
  ·rcases b2.1 b o v h with h | h | h
   ·exact a2.1 b o v h
   ·exact .inr (.inl (by rw [hs] at h; omega))
   ·exact .inr (.inr h)
  ·rcases b2.2 b es h with h | h | h
   ·exact a2.2 b es h
   ·exact .inr (.inl (by rw [hs] at h; omega))
   ·exact .inr (.inr h)
end Go.Proofs.YtdlfkbpddfeenaaGreatDoor.Sk
namespace Go.Proofs.YtdlfkbpddfeenaaGreatDoor.Sk
open Go Go.E Go.E.Sm
set_option maxRecDepth 10000
def bks (mk : Int) (b : Ent) (a : Int) : Bool := decide (b.k = 5 /\ b.n <= mk /\ b.a = a)
def stl (mk : Int) (A : List Ent) : List Ent := A.filter fun e => decide (e.n <= mk)
def lfs (mk : Int) (ys A : List Ent) : List Ent := A.filter fun e => !(ys.any fun b => bks mk b e.n)
theorem lft_any {L : List Ent} {m n : Int} (hok : OkS L) : lft L m n = (atE L m).any fun b => bks (mark L m) b n := by
 rw [Bool.eq_iff_iff];unfold lft;rw [List.any_eq_true, List.any_eq_true];constructor
 ·rintro ⟨j, hj, h⟩
  rw [List.mem_range] at hj
  cases hf : fnd L m ((j + 1 : Nat) : Int) with
  | none => rw [hf] at h; cases h
  | some e =>
   rw [hf] at h;have h := of_decide_eq_true h;obtain ⟨h1, h2, h3⟩ := fnd_some hf;exact ⟨e, List.mem_filter.2 ⟨h1, by simpa using h2⟩, by unfold bks; exact decide_eq_true ⟨h.1, by omega, h.2⟩⟩
 ·rintro ⟨b, hb, h⟩
  obtain ⟨hb1, hb2⟩ := List.mem_filter.1 hb;have hb2 : b.m = m := by simpa using hb2
  unfold bks at h;have h := of_decide_eq_true h;have hn := (hok.ent b hb1).n1;refine ⟨b.n.toNat - 1, List.mem_range.2 (by omega), ?_⟩
  have hf := fnd_mem hok.ord hb1;rw [hb2] at hf;rw [show ((b.n.toNat - 1 + 1 : Nat) : Int) = b.n from by omega, hf]
  exact decide_eq_true ⟨h.1, h.2.2⟩
theorem fnd_left {L : List Ent} {m : Int} (hok : OkS L) {j : Nat} (hj : j < mark L m) : ∃ e ∈ L, fnd L m ((j + 1 : Nat) : Int) = some e /\
  fnd (lfs (mark L m) (atE L m) (stl (mark L m) (atE L m))) m ((j + 1 : Nat) : Int) = if lft L m ((j + 1 : Nat) : Int) then none else some e := by
 have hh := (mark_spec (m := m) fun e he => (hok.ent e he).n30).1 (j + 1) (by omega) (by omega)
 cases hf : fnd L m ((j + 1 : Nat) : Int) with
 | none => rw [has_no.2 hf] at hh; cases hh
 | some e =>
  obtain ⟨h1, h2, h3⟩ := fnd_some hf;refine ⟨e, h1, rfl, ?_⟩;have hl := lft_any (m := m) (n := ((j + 1 : Nat) : Int)) hok
  cases hlf : lft L m ((j + 1 : Nat) : Int) with
  | true =>
   rw [if_pos rfl, fnd_none];rintro y hy ⟨hy1, hy2⟩;have := (List.mem_filter.1 hy).2;rw [hy2, <- hl, hlf] at this
   cases this
  | false =>
   rw [if_neg (by simp)]
   have hm : e ∈ lfs (mark L m) (atE L m) (stl (mark L m) (atE L m)) := by
    refine List.mem_filter.2 ⟨List.mem_filter.2 ⟨List.mem_filter.2 ⟨h1, by simpa using h2⟩, by simp; omega⟩, ?_⟩
    rw [h3, <- hl, hlf]; rfl
   have hp : (lfs (mark L m) (atE L m) (stl (mark L m) (atE L m))).Pairwise Bef := ((hok.ord.filter _).filter _).filter _;have := fnd_mem hp hm
   rwa [h2, h3] at this
theorem mCut_key {m a : Int} : ∀ {A : List Ent}, (∀ e ∈ A, e.m = m) -> A.Pairwise (fun x y => x.n < y.n) ->
  mCut (A.map keyE) (A.map ent) (mFind (key m a) (A.map keyE)) = .map ((A.filter fun e => decide (e.n ≠ a)).map keyE) ((A.filter fun e => decide (e.n ≠ a)).map ent)
 | [], _, _ => rfl
 | x :: A, hm, hp => by
  obtain ⟨h1, h2⟩ := List.pairwise_cons.1 hp;have hx := hm x (by simp)
  simp only [List.map_cons, mFind]
  by_cases h : x.n = a
  ·rw [if_pos (show key m a = keyE x from key_eq.2 ⟨hx.symm, h.symm⟩), List.filter_cons_of_neg (by simpa using h), List.filter_eq_self.2 fun y hy => by have := h1 y hy; simp; omega]
   rfl
  ·have ih := mCut_key (a := a) (fun e he => hm e (List.mem_cons_of_mem _ he)) h2
   rw [if_neg (show ¬ key m a = keyE x from fun hk => h (key_eq.1 hk).2.symm), List.filter_cons_of_pos (by simpa using h)]
   cases hf : mFind (key m a) (A.map keyE) with
   | none =>
    rw [hf] at ih;simp only [mCut, ABlock.map.injEq] at ih;simp only [Option.map_none, mCut, List.map_cons];rw [<- ih.1, <- ih.2]
   | some i =>
    rw [hf] at ih;simp only [mCut, ABlock.map.injEq] at ih;simp only [Option.map_some, mCut, List.map_cons, List.eraseIdx_cons_succ];rw [<- ih.1, <- ih.2]
theorem lfs_snoc {mk : Int} {ys A : List Ent} {z : Ent} : lfs mk (ys ++ [z]) A = if z.k = 5 /\ z.n <= mk then (lfs mk ys A).filter (fun e => decide (e.n ≠ z.a)) else lfs mk ys A := by
 unfold lfs
 split
 ·rename_i h
  rw [List.filter_filter]
  congr 1
  funext e
  rw [List.any_append, List.any_cons, List.any_nil, Bool.or_false];unfold bks
  cases ys.any fun b => decide (b.k = 5 /\ b.n <= mk /\ b.a = e.n) <;> simp [h.1, h.2]
  exact ⟨fun h2 => h2.symm, fun h2 => h2.symm⟩
 ·rename_i h
  congr 1
  funext e
  rw [List.any_append, List.any_cons, List.any_nil, Bool.or_false];have : bks mk z e.n = false := by unfold bks; exact decide_eq_false fun h2 => h ⟨h2.1, h2.2.1⟩
  rw [this, Bool.or_false]
theorem stl_snoc {mk : Int} {A : List Ent} {z : Ent} : stl mk (A ++ [z]) = if z.n <= mk then stl mk A ++ [z] else stl mk A := by
 unfold stl; rw [List.filter_append]
 by_cases h : z.n <= mk <;> simp [h]
theorem mks_at {L : List Ent} (hok : OkS L) {m : Int} (h0 : 0 <= m) (h4 : m <= 4) : (mks L)[m.toNat]? = some (.int .i64 (mark L m)) := by
 rw [mks_mark hok];have : m = 0 \/ m = 1 \/ m = 2 \/ m = 3 \/ m = 4 := by omega
 rcases this with rfl | rfl | rfl | rfl | rfl <;> rfl
@[go_sem] theorem dsk_cells {L : List Ent} : (dsk L).cells = [dsk L] := rfl
@[go_sem] theorem agg_dsk {L : List Ent} : (dsk L).isAgg = false := rfl
theorem promo_loc {d sz off b o : Nat} {σ : AState} {cs : List LV} (h : fget σ.fr d = .loc b o) (h1 : σ.hp[b]? = some (.obj cs)) (h2 : cs[o + off]? = some (.full [])) :
  promote [(d, some off, sz)] σ = { fr := σ.fr, hp := σ.hp.set b (.obj (cs.set (o + off) (.sl σ.hp.length 0 0 (sz + 1) false))) ++ [.row []] } := by
 simp only [promote, promote1, h, h1, h2]
theorem rlOf0 : rlOf e0.k = rule 0 .nilf .nilf := rfl
theorem rlIs0 : rlIs e0.k = false := rfl
theorem k72 {L : List Ent} {m : Int} (hok : OkS L) (h0 : 0 <= m) (h4 : m <= 4) : E.Fn Tryz.prog 72 [dsk L, .int .i64 m] [stV (stL L m)] := by
 refine fn_of_brow okt72 ?_;generalize hr : stL L m = r;have hsrt := atE_srt (m := m) hok.ord;have hbd : ∀ e ∈ atE L m, OkE e /\ e.m = m := fun e he => ⟨hok.ent e (List.mem_filter.1 he).1, by simpa using (List.mem_filter.1 he).2⟩
 have hmk := (mark_spec (m := m) fun e he => (hok.ent e he).n30).2.2
 have hat := mks_at hok h0 h4;have hml : (mks L).length = 5 := rfl;have hq : (List.drop (m.toNat * 1) (mks L))[0]? = some (.int .i64 (mark L m)) := by rw [Nat.mul_one, List.getElem?_drop, Nat.add_zero]; exact hat
 generalize hmkv : mark L m = mk at hmk hat hq;simp only [BRow.start, t72, c72r0, c72r1, c72r2, c72r3, c72r4, go_sem, ↓reduceIte, reduceCtorEq, Nat.reduceAdd, Nat.reduceSub, Nat.reduceLT, Nat.reduceLeDiff, Int.reduceLE, Int.reduceLT, Int.reduceToNat, Nat.reduceMul, Int.reduceNeg, not_true_eq_false, false_implies, true_implies, not_false_eq_true];refine ⟨by kernel_rfl, callK_of (by simp only [go_sem, ↓reduceIte, reduceCtorEq, Nat.reduceAdd, Nat.reduceSub, Nat.reduceLT, Nat.reduceLeDiff, Int.reduceLE, Int.reduceLT, Int.reduceToNat, Nat.reduceMul, Int.reduceNeg, not_true_eq_false, false_implies, true_implies, not_false_eq_true]) (k92 (L := L) (m := m)) (.inr (.inl (by simp only [go_sem, ↓reduceIte, reduceCtorEq, Nat.reduceAdd, Nat.reduceSub, Nat.reduceLT, Nat.reduceLeDiff, Int.reduceLE, Int.reduceLT, Int.reduceToNat, Nat.reduceMul, Int.reduceNeg, not_true_eq_false, false_implies, true_implies, not_false_eq_true]))) ?_⟩
 simp only [spl_one, go_sem, ↓reduceIte, reduceCtorEq, Nat.reduceAdd, Nat.reduceSub, Nat.reduceLT, Nat.reduceLeDiff, Int.reduceLE, Int.reduceLT, Int.reduceToNat, Nat.reduceMul, Int.reduceNeg, not_true_eq_false, false_implies, true_implies, not_false_eq_true]
 refine range_rule (fun vs H => ∃ (ys zs : List Ent), atE L m = ys ++ zs /\ vs = zs.map ent /\
   H = [.obj [aI 0, aI 0, aI 0, aI 0, aI 0, .full []], .obj [aI 0, aI 0, aI 0, aI 0, aI 0, .full []],
    .map ((stl mk ys).map keyE) ((stl mk ys).map ent), .obj [.mp 2]]) rfl (by kernel_rfl) rfl (y119 (L := L) (m := m)) (by decide) ⟨[], atE L m, rfl, rfl, rfl⟩ rfl ?_ ?_
 rotate_left
 ·rintro v vs H I ⟨ys, zs, h1, h2, rfl⟩ hI
  cases zs with
  | nil => simp at h2
  | cons z zs =>
   simp only [List.map_cons, List.cons.injEq] at h2;obtain ⟨rfl, rfl⟩ := h2;have hs := stl_snoc (mk := mk) (A := ys) (z := z);have hz := hbd z (by rw [h1]; simp)
   simp only [c72b8a, c72b8, c72r5, c72r6, ent, spl4, dsk, h0, hq, go_sem, ↓reduceIte, reduceCtorEq, Nat.reduceAdd, Nat.reduceSub, Nat.reduceLT, Nat.reduceLeDiff, Int.reduceLE, Int.reduceLT, Int.reduceToNat, Nat.reduceMul, Int.reduceNeg, not_true_eq_false, false_implies, true_implies, not_false_eq_true];refine ⟨by omega, by rw [hml]; omega, ?_⟩
   refine ⟨fun hle => ?_, fun hgt => ?_⟩
   ·have hfn : fnd (stl mk ys) z.m z.n = none := fnd_none.2 fun y hy hyz => by
     have hp := hsrt;rw [h1] at hp;have := (List.pairwise_append.1 hp).2.2 y (List.mem_filter.1 hy).1 z (by simp)
     omega
    have hm := mFind_new hfn;unfold key at hm;simp only [c72r7, spl_one, go_sem, ↓reduceIte, reduceCtorEq, Nat.reduceAdd, Nat.reduceSub, Nat.reduceLT, Nat.reduceLeDiff, Int.reduceLE, Int.reduceLT, Int.reduceToNat, Nat.reduceMul, Int.reduceNeg, not_true_eq_false, false_implies, true_implies, not_false_eq_true];refine callK_of (by simp only [ent, go_sem, ↓reduceIte, reduceCtorEq, Nat.reduceAdd, Nat.reduceSub, Nat.reduceLT, Nat.reduceLeDiff, Int.reduceLE, Int.reduceLT, Int.reduceToNat, Nat.reduceMul, Int.reduceNeg, not_true_eq_false, false_implies, true_implies, not_false_eq_true]) (k62 (e := z)) (.inl rfl) ?_
    simp only [go_sem, ↓reduceIte, reduceCtorEq, Nat.reduceAdd, Nat.reduceSub, Nat.reduceLT, Nat.reduceLeDiff, Int.reduceLE, Int.reduceLT, Int.reduceToNat, Nat.reduceMul, Int.reduceNeg, not_true_eq_false, false_implies, true_implies, not_false_eq_true];refine ⟨key_ok, ?_⟩;rw [hm, mPut_new];rw [if_pos hle] at hs;refine hI _ ⟨ys ++ [z], zs, by rw [h1, List.append_assoc]; rfl, rfl, ?_⟩
    rw [hs, List.map_append, List.map_append];rfl
   ·rw [if_neg hgt] at hs
    refine hI _ ⟨ys ++ [z], zs, by rw [h1, List.append_assoc]; rfl, rfl, ?_⟩
    rw [hs]
 rintro H ⟨ys, zs, h1, h2, rfl⟩;have hz : zs = [] := by simpa using h2.symm
 subst hz;rw [List.append_nil] at h1;subst h1;simp only [c72r9, go_sem, ↓reduceIte, reduceCtorEq, Nat.reduceAdd, Nat.reduceSub, Nat.reduceLT, Nat.reduceLeDiff, Int.reduceLE, Int.reduceLT, Int.reduceToNat, Nat.reduceMul, Int.reduceNeg, not_true_eq_false, false_implies, true_implies, not_false_eq_true];refine ⟨by kernel_rfl, callK_of (by simp only [go_sem, ↓reduceIte, reduceCtorEq, Nat.reduceAdd, Nat.reduceSub, Nat.reduceLT, Nat.reduceLeDiff, Int.reduceLE, Int.reduceLT, Int.reduceToNat, Nat.reduceMul, Int.reduceNeg, not_true_eq_false, false_implies, true_implies, not_false_eq_true]) (k92 (L := L) (m := m)) (.inr (.inl (by simp only [go_sem, ↓reduceIte, reduceCtorEq, Nat.reduceAdd, Nat.reduceSub, Nat.reduceLT, Nat.reduceLeDiff, Int.reduceLE, Int.reduceLT, Int.reduceToNat, Nat.reduceMul, Int.reduceNeg, not_true_eq_false, false_implies, true_implies, not_false_eq_true]))) ?_⟩
 simp only [spl_one, go_sem, ↓reduceIte, reduceCtorEq, Nat.reduceAdd, Nat.reduceSub, Nat.reduceLT, Nat.reduceLeDiff, Int.reduceLE, Int.reduceLT, Int.reduceToNat, Nat.reduceMul, Int.reduceNeg, not_true_eq_false, false_implies, true_implies, not_false_eq_true]
 refine range_rule (fun vs H => ∃ (ys zs : List Ent), atE L m = ys ++ zs /\ vs = zs.map ent /\
   H = [.obj [aI 0, aI 0, aI 0, aI 0, aI 0, .full []], .obj [aI 0, aI 0, aI 0, aI 0, aI 0, .full []],
    .map ((lfs mk ys (stl mk (atE L m))).map keyE) ((lfs mk ys (stl mk (atE L m))).map ent), .obj [.mp 2]]) rfl (by kernel_rfl) rfl (y119 (L := L) (m := m)) (Nat.zero_le _) ⟨[], atE L m, rfl, rfl, by rw [show lfs mk [] (stl mk (atE L m)) = stl mk (atE L m) from List.filter_eq_self.2 fun _ _ => rfl]⟩ rfl ?_ ?_
 rotate_left
 ·rintro v vs H I ⟨ys, zs, h1, h2, rfl⟩ hI
  cases zs with
  | nil => simp at h2
  | cons z zs =>
   simp only [List.map_cons, List.cons.injEq] at h2;obtain ⟨rfl, rfl⟩ := h2;have hs := lfs_snoc (mk := mk) (ys := ys) (A := stl mk (atE L m)) (z := z);have hz := hbd z (by rw [h1]; simp)
   have hsub : ∀ e ∈ lfs mk ys (stl mk (atE L m)), e.m = m := fun e he => (hbd e (List.mem_filter.1 (List.mem_filter.1 he).1).1).2
   have hps : (lfs mk ys (stl mk (atE L m))).Pairwise (fun x y => x.n < y.n) := (hsrt.filter _).filter _
   have hcut := mCut_key (m := m) (a := z.a) hsub hps;unfold key at hcut;simp only [c72b13a, c72b13, c72r10, c72r11, ent, spl4, go_sem, ↓reduceIte, reduceCtorEq, Nat.reduceAdd, Nat.reduceSub, Nat.reduceLT, Nat.reduceLeDiff, Int.reduceLE, Int.reduceLT, Int.reduceToNat, Nat.reduceMul, Int.reduceNeg, not_true_eq_false, false_implies, true_implies, not_false_eq_true];refine ⟨fun h5 => ?_, fun h5 => ?_⟩
   ·simp only [dsk, h0, hq, go_sem, ↓reduceIte, reduceCtorEq, Nat.reduceAdd, Nat.reduceSub, Nat.reduceLT, Nat.reduceLeDiff, Int.reduceLE, Int.reduceLT, Int.reduceToNat, Nat.reduceMul, Int.reduceNeg, not_true_eq_false, false_implies, true_implies, not_false_eq_true]
    refine ⟨by omega, by rw [hml]; omega, fun hle => ?_, fun hgt => ?_⟩
    ·simp only [c72r12, spl_one, spl2, go_sem, ↓reduceIte, reduceCtorEq, Nat.reduceAdd, Nat.reduceSub, Nat.reduceLT, Nat.reduceLeDiff, Int.reduceLE, Int.reduceLT, Int.reduceToNat, Nat.reduceMul, Int.reduceNeg, not_true_eq_false, false_implies, true_implies, not_false_eq_true]
     refine ⟨key_ok, ?_⟩;rw [hcut];rw [if_pos ⟨h5, hle⟩] at hs;refine hI _ ⟨ys ++ [z], zs, by rw [h1, List.append_assoc]; rfl, rfl, ?_⟩
     rw [hs];rfl
    ·rw [if_neg fun h => hgt h.2] at hs
     refine hI _ ⟨ys ++ [z], zs, by rw [h1, List.append_assoc]; rfl, rfl, ?_⟩
     rw [hs]
   ·rw [if_neg fun h => h5 h.1] at hs
    refine hI _ ⟨ys ++ [z], zs, by rw [h1, List.append_assoc]; rfl, rfl, ?_⟩
    rw [hs]
 rintro H ⟨ys, zs, h1, h2, rfl⟩;have hz : zs = [] := by simpa using h2.symm
 subst hz;rw [List.append_nil] at h1;generalize hA : atE L m = A at *;subst h1;generalize hK : lfs mk A (stl mk A) = K;simp only [c72r14, dsk, h0, hq, go_sem, ↓reduceIte, reduceCtorEq, Nat.reduceAdd, Nat.reduceSub, Nat.reduceLT, Nat.reduceLeDiff, Int.reduceLE, Int.reduceLT, Int.reduceToNat, Nat.reduceMul, Int.reduceNeg, not_true_eq_false, false_implies, true_implies, not_false_eq_true];refine ⟨by omega, by rw [hml]; omega, ?_⟩
 refine loop_rule (fun k τ => ∃ i : Nat, k = mk - i /\ i <= mk /\ τ = ⟨(aN::aN::aN::(.s (.ptr [.int .i64 m]))::(.loc 0 0)::(.loc 1 0)::aN::(.loc 3 0)::aN::aN::aN::aN::aN::aN::aN::aN::aN::aN::aN::aN::aN::aN::aN::aN::aN::aN::aN::aN::aN::aN::aN::aN::aN::aN::aN::aN::aN::aN::aN::aN::aN::aN::aN::aN::aN::aN::aN::aN::aN::aN::aN::aN::aN::aN::aN::aN::aN::aN::aN::aN::aN::aN::aN::(aI mk)::(aI i)::aN::aN::aN::aN::aN::aZ40),
   [.obj [aI 0, aI 0, aI 0, aI 0, aI 0, .full []], stO (stT L m i) (.sl 4 0 (stT L m i).f.length 1 false), .map (K.map keyE) (K.map ent), .obj [.mp 2], .row ((stT L m i).f.map (.int .i64))]⟩) mk (promo_loc rfl rfl rfl) ?_ ?_
 ·simp only [c72l24m, go_sem, ↓reduceIte, reduceCtorEq, Nat.reduceAdd, Nat.reduceSub, Nat.reduceLT, Nat.reduceLeDiff, Int.reduceLE, Int.reduceLT, Int.reduceToNat, Nat.reduceMul, Int.reduceNeg, not_true_eq_false, false_implies, true_implies, not_false_eq_true]
  exact ⟨0, rfl, Nat.zero_le _, rfl⟩
 rintro I k τ ⟨i, rfl, hi, rfl⟩ hI;have hbk := stT_bd (m := m) hok (j := i);have hb := hbk.bd (by omega)
 have hf1 := hbk.f1;have hT : stT L m (i + 1) = if lft L m ((i + 1 : Nat) : Int) then stT L m i else match fnd L m ((i + 1 : Nat) : Int) with | some e => nxS (stT L m i) e | none => stT L m i := rfl
 have hL : stT L m mk = r := by rw [<- hr, <- hmkv]; rfl
 generalize hS : stT L m i = s at hb hbk hf1 hT;simp only [c72l24, c72r15, stO, go_sem, ↓reduceIte, reduceCtorEq, Nat.reduceAdd, Nat.reduceSub, Nat.reduceLT, Nat.reduceLeDiff, Int.reduceLE, Int.reduceLT, Int.reduceToNat, Nat.reduceMul, Int.reduceNeg, not_true_eq_false, false_implies, true_implies, not_false_eq_true];refine ⟨fun hlt => ?_, fun hge => ?_⟩
 rotate_left
 ·have hie : i = mk := by omega
  subst hie;rw [hS] at hL;subst hL;simp only [c72r25, stV, spl6, slice_all rfl, go_sem, ↓reduceIte, reduceCtorEq, Nat.reduceAdd, Nat.reduceSub, Nat.reduceLT, Nat.reduceLeDiff, Int.reduceLE, Int.reduceLT, Int.reduceToNat, Nat.reduceMul, Int.reduceNeg, not_true_eq_false, false_implies, true_implies, not_false_eq_true]
 obtain ⟨e, heL, hfe, hfK⟩ := fnd_left (m := m) hok (j := i) (by rw [hmkv]; exact hlt)
 rw [hmkv, hA, hK] at hfK;rw [hfe] at hT;have hmf := mFind_key (m := m) (n := ((i + 1 : Nat) : Int)) (L := K);unfold key at hmf;have e1 : ((i : Nat) : Int) + 1 = ((i + 1 : Nat) : Int) := rfl;simp only [c72r16, c72r17, spl2, e1, go_sem, ↓reduceIte, reduceCtorEq, Nat.reduceAdd, Nat.reduceSub, Nat.reduceLT, Nat.reduceLeDiff, Int.reduceLE, Int.reduceLT, Int.reduceToNat, Nat.reduceMul, Int.reduceNeg, not_true_eq_false, false_implies, true_implies, not_false_eq_true];refine ⟨inR_small (by omega) (by omega), key_ok, ?_⟩
 cases hm : mFind (SV.agg [.int .i64 m, .int .i64 ((i + 1 : Nat) : Int)]) (K.map keyE) with
 | none =>
  rw [hm] at hmf
  have hl : lft L m ((i + 1 : Nat) : Int) = true := by
   cases h : lft L m ((i + 1 : Nat) : Int) with
   | true => rfl
   | false => rw [h, hmf] at hfK; simp at hfK
  rw [hl, if_pos rfl] at hT;simp only [mgetI_no, spl4, go_sem, ↓reduceIte, reduceCtorEq, Nat.reduceAdd, Nat.reduceSub, Nat.reduceLT, Nat.reduceLeDiff, Int.reduceLE, Int.reduceLT, Int.reduceToNat, Nat.reduceMul, Int.reduceNeg, not_true_eq_false, false_implies, true_implies, not_false_eq_true];simp only [c72r18, go_sem, ↓reduceIte, reduceCtorEq, Nat.reduceAdd, Nat.reduceSub, Nat.reduceLT, Nat.reduceLeDiff, Int.reduceLE, Int.reduceLT, Int.reduceToNat, Nat.reduceMul, Int.reduceNeg, not_true_eq_false, false_implies, true_implies, not_false_eq_true];refine callK_of (by simp only [go_sem, ↓reduceIte, reduceCtorEq, Nat.reduceAdd, Nat.reduceSub, Nat.reduceLT, Nat.reduceLeDiff, Int.reduceLE, Int.reduceLT, Int.reduceToNat, Nat.reduceMul, Int.reduceNeg, not_true_eq_false, false_implies, true_implies, not_false_eq_true]) k95 (.inr (.inl (by simp only [go_sem, ↓reduceIte, reduceCtorEq, Nat.reduceAdd, Nat.reduceSub, Nat.reduceLT, Nat.reduceLeDiff, Int.reduceLE, Int.reduceLT, Int.reduceToNat, Nat.reduceMul, Int.reduceNeg, not_true_eq_false, false_implies, true_implies, not_false_eq_true]))) ?_
  simp only [go_sem, ↓reduceIte, reduceCtorEq, Nat.reduceAdd, Nat.reduceSub, Nat.reduceLT, Nat.reduceLeDiff, Int.reduceLE, Int.reduceLT, Int.reduceToNat, Nat.reduceMul, Int.reduceNeg, not_true_eq_false, false_implies, true_implies, not_false_eq_true];refine callK_of (by simp only [go_sem, ↓reduceIte, reduceCtorEq, Nat.reduceAdd, Nat.reduceSub, Nat.reduceLT, Nat.reduceLeDiff, Int.reduceLE, Int.reduceLT, Int.reduceToNat, Nat.reduceMul, Int.reduceNeg, not_true_eq_false, false_implies, true_implies, not_false_eq_true]; rfl) (k94 (e := e0)) (.inr (.inl (by simp only [go_sem, ↓reduceIte, reduceCtorEq, Nat.reduceAdd, Nat.reduceSub, Nat.reduceLT, Nat.reduceLeDiff, Int.reduceLE, Int.reduceLT, Int.reduceToNat, Nat.reduceMul, Int.reduceNeg, not_true_eq_false, false_implies, true_implies, not_false_eq_true]; rfl))) ?_
  rw [rlOf0, rlIs0];simp only [rule, spl_3, c72r19, c72r23, c72l24m, go_sem, ↓reduceIte, reduceCtorEq, Nat.reduceAdd, Nat.reduceSub, Nat.reduceLT, Nat.reduceLeDiff, Int.reduceLE, Int.reduceLT, Int.reduceToNat, Nat.reduceMul, Int.reduceNeg, not_true_eq_false, false_implies, true_implies, not_false_eq_true];exact ⟨inR_small (by omega) (by omega), hI (mk - (i + 1)) _ (by omega) ⟨i + 1, rfl, by omega, by rw [hT]; rfl⟩⟩
 | some j =>
  rw [hm] at hmf;obtain ⟨e', hj, hfe'⟩ := hmf
  have hl : lft L m ((i + 1 : Nat) : Int) = false := by
   cases h : lft L m ((i + 1 : Nat) : Int) with
   | false => rfl
   | true => rw [h, hfe'] at hfK; simp at hfK
  have hee : e' = e := by rw [hl, hfe'] at hfK; simpa using hfK
  subst hee;rw [hl, if_neg (by simp)] at hT
  have hT : stT L m (i + 1) = nxS s e' := hT;have he := hok.ent e' heL;simp only [mgetI_hit (ent_at hj), ent_cells, spl4, go_sem, ↓reduceIte, reduceCtorEq, Nat.reduceAdd, Nat.reduceSub, Nat.reduceLT, Nat.reduceLeDiff, Int.reduceLE, Int.reduceLT, Int.reduceToNat, Nat.reduceMul, Int.reduceNeg, not_true_eq_false, false_implies, true_implies, not_false_eq_true];simp only [c72r18, go_sem, ↓reduceIte, reduceCtorEq, Nat.reduceAdd, Nat.reduceSub, Nat.reduceLT, Nat.reduceLeDiff, Int.reduceLE, Int.reduceLT, Int.reduceToNat, Nat.reduceMul, Int.reduceNeg, not_true_eq_false, false_implies, true_implies, not_false_eq_true];refine callK_of (by simp only [go_sem, ↓reduceIte, reduceCtorEq, Nat.reduceAdd, Nat.reduceSub, Nat.reduceLT, Nat.reduceLeDiff, Int.reduceLE, Int.reduceLT, Int.reduceToNat, Nat.reduceMul, Int.reduceNeg, not_true_eq_false, false_implies, true_implies, not_false_eq_true]) k95 (.inr (.inl (by simp only [go_sem, ↓reduceIte, reduceCtorEq, Nat.reduceAdd, Nat.reduceSub, Nat.reduceLT, Nat.reduceLeDiff, Int.reduceLE, Int.reduceLT, Int.reduceToNat, Nat.reduceMul, Int.reduceNeg, not_true_eq_false, false_implies, true_implies, not_false_eq_true]))) ?_
  simp only [go_sem, ↓reduceIte, reduceCtorEq, Nat.reduceAdd, Nat.reduceSub, Nat.reduceLT, Nat.reduceLeDiff, Int.reduceLE, Int.reduceLT, Int.reduceToNat, Nat.reduceMul, Int.reduceNeg, not_true_eq_false, false_implies, true_implies, not_false_eq_true];refine callK_of (by simp only [go_sem, ↓reduceIte, reduceCtorEq, Nat.reduceAdd, Nat.reduceSub, Nat.reduceLT, Nat.reduceLeDiff, Int.reduceLE, Int.reduceLT, Int.reduceToNat, Nat.reduceMul, Int.reduceNeg, not_true_eq_false, false_implies, true_implies, not_false_eq_true]) (k94 (e := e')) (.inr (.inl (by simp only [go_sem, ↓reduceIte, reduceCtorEq, Nat.reduceAdd, Nat.reduceSub, Nat.reduceLT, Nat.reduceLeDiff, Int.reduceLE, Int.reduceLT, Int.reduceToNat, Nat.reduceMul, Int.reduceNeg, not_true_eq_false, false_implies, true_implies, not_false_eq_true]))) ?_
  have hkk : e'.k = 1 \/ e'.k = 2 \/ e'.k = 3 \/ e'.k = 4 \/ e'.k = 5 := by have := he.k1; have := he.k5; omega
  rcases hkk with h | h | h | h | h
  ·have q1 : rlOf e'.k = rl1 := by unfold rlOf; rw [if_pos h]
   have q2 : rlIs e'.k = true := by unfold rlIs; rw [h]; rfl
   rw [q1, q2];simp only [rl1, rule, spl_3, c72r19, c72r20, go_sem, ↓reduceIte, reduceCtorEq, Nat.reduceAdd, Nat.reduceSub, Nat.reduceLT, Nat.reduceLeDiff, Int.reduceLE, Int.reduceLT, Int.reduceToNat, Nat.reduceMul, Int.reduceNeg, not_true_eq_false, false_implies, true_implies, not_false_eq_true];refine ⟨by kernel_rfl, callK_of (by simp only [slice_all rfl, stV, go_sem, ↓reduceIte, reduceCtorEq, Nat.reduceAdd, Nat.reduceSub, Nat.reduceLT, Nat.reduceLeDiff, Int.reduceLE, Int.reduceLT, Int.reduceToNat, Nat.reduceMul, Int.reduceNeg, not_true_eq_false, false_implies, true_implies, not_false_eq_true]) (k120 (s := s) (n := e'.a)) (.inl rfl) ?_⟩
   simp only [go_sem, ↓reduceIte, reduceCtorEq, Nat.reduceAdd, Nat.reduceSub, Nat.reduceLT, Nat.reduceLeDiff, Int.reduceLE, Int.reduceLT, Int.reduceToNat, Nat.reduceMul, Int.reduceNeg, not_true_eq_false, false_implies, true_implies, not_false_eq_true]
   ·have hT2 : stT L m (i + 1) = { s with c := s.c + e'.a, h := s.h + e'.a } := by
     rw [hT]; unfold nxS;rw [if_neg (by unfold rfs; simp; omega), if_pos h]
    simp only [c72r21, callvIK_s, go_sem, ↓reduceIte, reduceCtorEq, Nat.reduceAdd, Nat.reduceSub, Nat.reduceLT, Nat.reduceLeDiff, Int.reduceLE, Int.reduceLT, Int.reduceToNat, Nat.reduceMul, Int.reduceNeg, not_true_eq_false, false_implies, true_implies, not_false_eq_true];refine ⟨by kernel_rfl, _, _, k124 (b := 1) (s := s) (v := .sl 4 0 s.f.length 1 false) rfl hb he.a0 he.a100 rfl rfl, ?_⟩
    simp only [stO, c72r23, c72l24m, go_sem, ↓reduceIte, reduceCtorEq, Nat.reduceAdd, Nat.reduceSub, Nat.reduceLT, Nat.reduceLeDiff, Int.reduceLE, Int.reduceLT, Int.reduceToNat, Nat.reduceMul, Int.reduceNeg, not_true_eq_false, false_implies, true_implies, not_false_eq_true];refine ⟨inR_small (by omega) (by omega), hI (mk - (i + 1)) _ (by omega) ⟨i + 1, rfl, by omega, ?_⟩⟩
    rw [hT2];rfl
  ·have q1 : rlOf e'.k = rl2 := by unfold rlOf; rw [if_neg (by omega), if_pos h]
   have q2 : rlIs e'.k = true := by unfold rlIs; rw [h]; rfl
   rw [q1, q2];simp only [rl2, rule, spl_3, c72r19, c72r20, go_sem, ↓reduceIte, reduceCtorEq, Nat.reduceAdd, Nat.reduceSub, Nat.reduceLT, Nat.reduceLeDiff, Int.reduceLE, Int.reduceLT, Int.reduceToNat, Nat.reduceMul, Int.reduceNeg, not_true_eq_false, false_implies, true_implies, not_false_eq_true];refine ⟨by kernel_rfl, callK_of (by simp only [slice_all rfl, stV, go_sem, ↓reduceIte, reduceCtorEq, Nat.reduceAdd, Nat.reduceSub, Nat.reduceLT, Nat.reduceLeDiff, Int.reduceLE, Int.reduceLT, Int.reduceToNat, Nat.reduceMul, Int.reduceNeg, not_true_eq_false, false_implies, true_implies, not_false_eq_true]) (k123 (s := s) (n := e'.a)) (.inl rfl) ?_⟩
   by_cases hc : 0 < s.c /\ e'.a <= s.h
   ·rw [show (decide (0 < s.c) && decide (e'.a <= s.h)) = true from by simp [hc]]
    simp only [go_sem, ↓reduceIte, reduceCtorEq, Nat.reduceAdd, Nat.reduceSub, Nat.reduceLT, Nat.reduceLeDiff, Int.reduceLE, Int.reduceLT, Int.reduceToNat, Nat.reduceMul, Int.reduceNeg, not_true_eq_false, false_implies, true_implies, not_false_eq_true]
    have hT2 : stT L m (i + 1) = { s with c := s.c - 1, h := s.h - e'.a, p := s.p + e'.a } := by
     rw [hT]; unfold nxS;rw [if_neg (by unfold rfs; simp; omega), if_neg (by omega), if_pos h]
    simp only [c72r21, callvIK_s, go_sem, ↓reduceIte, reduceCtorEq, Nat.reduceAdd, Nat.reduceSub, Nat.reduceLT, Nat.reduceLeDiff, Int.reduceLE, Int.reduceLT, Int.reduceToNat, Nat.reduceMul, Int.reduceNeg, not_true_eq_false, false_implies, true_implies, not_false_eq_true];refine ⟨by kernel_rfl, _, _, k125 (b := 1) (s := s) (v := .sl 4 0 s.f.length 1 false) rfl hb he.a0 he.a100 rfl rfl, ?_⟩
    simp only [stO, c72r23, c72l24m, go_sem, ↓reduceIte, reduceCtorEq, Nat.reduceAdd, Nat.reduceSub, Nat.reduceLT, Nat.reduceLeDiff, Int.reduceLE, Int.reduceLT, Int.reduceToNat, Nat.reduceMul, Int.reduceNeg, not_true_eq_false, false_implies, true_implies, not_false_eq_true];refine ⟨inR_small (by omega) (by omega), hI (mk - (i + 1)) _ (by omega) ⟨i + 1, rfl, by omega, ?_⟩⟩
    rw [hT2];rfl
   ·rw [show (decide (0 < s.c) && decide (e'.a <= s.h)) = false from by simp; omega]
    have hc0 := hb.c0;simp only [go_sem, ↓reduceIte, reduceCtorEq, Nat.reduceAdd, Nat.reduceSub, Nat.reduceLT, Nat.reduceLeDiff, Int.reduceLE, Int.reduceLT, Int.reduceToNat, Nat.reduceMul, Int.reduceNeg, not_true_eq_false, false_implies, true_implies, not_false_eq_true];have hT2 : stT L m (i + 1) = { s with f := s.f ++ [e'.n] } := by rw [hT]; unfold nxS; rw [if_pos (by unfold rfs; exact decide_eq_true (by omega))]
    simp only [c72r22, List.length_map, spl6f, go_sem, ↓reduceIte, reduceCtorEq, Nat.reduceAdd, Nat.reduceSub, Nat.reduceLT, Nat.reduceLeDiff, Int.reduceLE, Int.reduceLT, Int.reduceToNat, Nat.reduceMul, Int.reduceNeg, not_true_eq_false, false_implies, true_implies, not_false_eq_true];refine ⟨by decide, by decide, rfl, one_cells, one_cells, by omega, by omega, by omega, ?_⟩
    simp only [spl6f, c72r23, c72l24m, Nat.reduceBEq, Bool.false_eq_true, beq_self_eq_true, go_sem, ↓reduceIte, reduceCtorEq, Nat.reduceAdd, Nat.reduceSub, Nat.reduceLT, Nat.reduceLeDiff, Int.reduceLE, Int.reduceLT, Int.reduceToNat, Nat.reduceMul, Int.reduceNeg, not_true_eq_false, false_implies, true_implies, not_false_eq_true];refine ⟨inR_small (by omega) (by omega), hI (mk - (i + 1)) _ (by omega) ⟨i + 1, rfl, by omega, ?_⟩⟩
    rw [hT2, stO, List.length_append, List.map_append];rfl
  ·have q1 : rlOf e'.k = rl3 := by unfold rlOf; rw [if_neg (by omega), if_neg (by omega), if_pos h]
   have q2 : rlIs e'.k = true := by unfold rlIs; rw [h]; rfl
   rw [q1, q2];simp only [rl3, rule, spl_3, c72r19, c72r20, go_sem, ↓reduceIte, reduceCtorEq, Nat.reduceAdd, Nat.reduceSub, Nat.reduceLT, Nat.reduceLeDiff, Int.reduceLE, Int.reduceLT, Int.reduceToNat, Nat.reduceMul, Int.reduceNeg, not_true_eq_false, false_implies, true_implies, not_false_eq_true];refine ⟨by kernel_rfl, callK_of (by simp only [slice_all rfl, stV, go_sem, ↓reduceIte, reduceCtorEq, Nat.reduceAdd, Nat.reduceSub, Nat.reduceLT, Nat.reduceLeDiff, Int.reduceLE, Int.reduceLT, Int.reduceToNat, Nat.reduceMul, Int.reduceNeg, not_true_eq_false, false_implies, true_implies, not_false_eq_true]) (k121 (s := s) (n := e'.a)) (.inl rfl) ?_⟩
   by_cases hc : e'.a <= s.h
   ·rw [decide_eq_true hc]
    simp only [go_sem, ↓reduceIte, reduceCtorEq, Nat.reduceAdd, Nat.reduceSub, Nat.reduceLT, Nat.reduceLeDiff, Int.reduceLE, Int.reduceLT, Int.reduceToNat, Nat.reduceMul, Int.reduceNeg, not_true_eq_false, false_implies, true_implies, not_false_eq_true]
    have hT2 : stT L m (i + 1) = { s with h := s.h - e'.a, b := s.b + e'.a } := by
     rw [hT]; unfold nxS;rw [if_neg (by unfold rfs; simp; omega), if_neg (by omega), if_neg (by omega), if_pos h]
    simp only [c72r21, callvIK_s, go_sem, ↓reduceIte, reduceCtorEq, Nat.reduceAdd, Nat.reduceSub, Nat.reduceLT, Nat.reduceLeDiff, Int.reduceLE, Int.reduceLT, Int.reduceToNat, Nat.reduceMul, Int.reduceNeg, not_true_eq_false, false_implies, true_implies, not_false_eq_true];refine ⟨by kernel_rfl, _, _, k126 (b := 1) (s := s) (v := .sl 4 0 s.f.length 1 false) rfl hb he.a0 he.a100 rfl rfl, ?_⟩
    simp only [stO, c72r23, c72l24m, go_sem, ↓reduceIte, reduceCtorEq, Nat.reduceAdd, Nat.reduceSub, Nat.reduceLT, Nat.reduceLeDiff, Int.reduceLE, Int.reduceLT, Int.reduceToNat, Nat.reduceMul, Int.reduceNeg, not_true_eq_false, false_implies, true_implies, not_false_eq_true];refine ⟨inR_small (by omega) (by omega), hI (mk - (i + 1)) _ (by omega) ⟨i + 1, rfl, by omega, ?_⟩⟩
    rw [hT2];rfl
   ·rw [decide_eq_false hc]
    simp only [go_sem, ↓reduceIte, reduceCtorEq, Nat.reduceAdd, Nat.reduceSub, Nat.reduceLT, Nat.reduceLeDiff, Int.reduceLE, Int.reduceLT, Int.reduceToNat, Nat.reduceMul, Int.reduceNeg, not_true_eq_false, false_implies, true_implies, not_false_eq_true];have hT2 : stT L m (i + 1) = { s with f := s.f ++ [e'.n] } := by rw [hT]; unfold nxS; rw [if_pos (by unfold rfs; exact decide_eq_true (by omega))]
    simp only [c72r22, List.length_map, spl6f, go_sem, ↓reduceIte, reduceCtorEq, Nat.reduceAdd, Nat.reduceSub, Nat.reduceLT, Nat.reduceLeDiff, Int.reduceLE, Int.reduceLT, Int.reduceToNat, Nat.reduceMul, Int.reduceNeg, not_true_eq_false, false_implies, true_implies, not_false_eq_true];refine ⟨by decide, by decide, rfl, one_cells, one_cells, by omega, by omega, by omega, ?_⟩
    simp only [spl6f, c72r23, c72l24m, Nat.reduceBEq, Bool.false_eq_true, beq_self_eq_true, go_sem, ↓reduceIte, reduceCtorEq, Nat.reduceAdd, Nat.reduceSub, Nat.reduceLT, Nat.reduceLeDiff, Int.reduceLE, Int.reduceLT, Int.reduceToNat, Nat.reduceMul, Int.reduceNeg, not_true_eq_false, false_implies, true_implies, not_false_eq_true];refine ⟨inR_small (by omega) (by omega), hI (mk - (i + 1)) _ (by omega) ⟨i + 1, rfl, by omega, ?_⟩⟩
    rw [hT2, stO, List.length_append, List.map_append];rfl
  ·have q1 : rlOf e'.k = rl4 := by unfold rlOf; rw [if_neg (by omega), if_neg (by omega), if_neg (by omega), if_pos h]
   have q2 : rlIs e'.k = true := by unfold rlIs; rw [h]; rfl
   rw [q1, q2];simp only [rl4, rule, spl_3, c72r19, c72r20, go_sem, ↓reduceIte, reduceCtorEq, Nat.reduceAdd, Nat.reduceSub, Nat.reduceLT, Nat.reduceLeDiff, Int.reduceLE, Int.reduceLT, Int.reduceToNat, Nat.reduceMul, Int.reduceNeg, not_true_eq_false, false_implies, true_implies, not_false_eq_true];refine ⟨by kernel_rfl, callK_of (by simp only [slice_all rfl, stV, go_sem, ↓reduceIte, reduceCtorEq, Nat.reduceAdd, Nat.reduceSub, Nat.reduceLT, Nat.reduceLeDiff, Int.reduceLE, Int.reduceLT, Int.reduceToNat, Nat.reduceMul, Int.reduceNeg, not_true_eq_false, false_implies, true_implies, not_false_eq_true]) (k122 (s := s) (n := e'.a)) (.inl rfl) ?_⟩
   by_cases hc : e'.a <= s.b
   ·rw [decide_eq_true hc]
    simp only [go_sem, ↓reduceIte, reduceCtorEq, Nat.reduceAdd, Nat.reduceSub, Nat.reduceLT, Nat.reduceLeDiff, Int.reduceLE, Int.reduceLT, Int.reduceToNat, Nat.reduceMul, Int.reduceNeg, not_true_eq_false, false_implies, true_implies, not_false_eq_true]
    have hT2 : stT L m (i + 1) = { s with b := s.b - e'.a, r := s.r + e'.a } := by
     rw [hT]; unfold nxS;rw [if_neg (by unfold rfs; simp; omega), if_neg (by omega), if_neg (by omega), if_neg (by omega), if_pos h]
    simp only [c72r21, callvIK_s, go_sem, ↓reduceIte, reduceCtorEq, Nat.reduceAdd, Nat.reduceSub, Nat.reduceLT, Nat.reduceLeDiff, Int.reduceLE, Int.reduceLT, Int.reduceToNat, Nat.reduceMul, Int.reduceNeg, not_true_eq_false, false_implies, true_implies, not_false_eq_true];refine ⟨by kernel_rfl, _, _, k127 (b := 1) (s := s) (v := .sl 4 0 s.f.length 1 false) rfl hb he.a0 he.a100 rfl rfl, ?_⟩
    simp only [stO, c72r23, c72l24m, go_sem, ↓reduceIte, reduceCtorEq, Nat.reduceAdd, Nat.reduceSub, Nat.reduceLT, Nat.reduceLeDiff, Int.reduceLE, Int.reduceLT, Int.reduceToNat, Nat.reduceMul, Int.reduceNeg, not_true_eq_false, false_implies, true_implies, not_false_eq_true];refine ⟨inR_small (by omega) (by omega), hI (mk - (i + 1)) _ (by omega) ⟨i + 1, rfl, by omega, ?_⟩⟩
    rw [hT2];rfl
   ·rw [decide_eq_false hc]
    simp only [go_sem, ↓reduceIte, reduceCtorEq, Nat.reduceAdd, Nat.reduceSub, Nat.reduceLT, Nat.reduceLeDiff, Int.reduceLE, Int.reduceLT, Int.reduceToNat, Nat.reduceMul, Int.reduceNeg, not_true_eq_false, false_implies, true_implies, not_false_eq_true];have hT2 : stT L m (i + 1) = { s with f := s.f ++ [e'.n] } := by rw [hT]; unfold nxS; rw [if_pos (by unfold rfs; exact decide_eq_true (by omega))]
    simp only [c72r22, List.length_map, spl6f, go_sem, ↓reduceIte, reduceCtorEq, Nat.reduceAdd, Nat.reduceSub, Nat.reduceLT, Nat.reduceLeDiff, Int.reduceLE, Int.reduceLT, Int.reduceToNat, Nat.reduceMul, Int.reduceNeg, not_true_eq_false, false_implies, true_implies, not_false_eq_true];refine ⟨by decide, by decide, rfl, one_cells, one_cells, by omega, by omega, by omega, ?_⟩
    simp only [spl6f, c72r23, c72l24m, Nat.reduceBEq, Bool.false_eq_true, beq_self_eq_true, go_sem, ↓reduceIte, reduceCtorEq, Nat.reduceAdd, Nat.reduceSub, Nat.reduceLT, Nat.reduceLeDiff, Int.reduceLE, Int.reduceLT, Int.reduceToNat, Nat.reduceMul, Int.reduceNeg, not_true_eq_false, false_implies, true_implies, not_false_eq_true];refine ⟨inR_small (by omega) (by omega), hI (mk - (i + 1)) _ (by omega) ⟨i + 1, rfl, by omega, ?_⟩⟩
    rw [hT2, stO, List.length_append, List.map_append];rfl
  ·have q1 : rlOf e'.k = rule 0 .nilf .nilf := by unfold rlOf; rw [if_neg (by omega), if_neg (by omega), if_neg (by omega), if_neg (by omega)]
   have q2 : rlIs e'.k = false := by unfold rlIs; rw [h]; rfl
   have hT2 : stT L m (i + 1) = s := by
    rw [hT]; unfold nxS;rw [if_neg (by unfold rfs; simp; omega), if_neg (by omega), if_neg (by omega), if_neg (by omega), if_neg (by omega)]
   rw [q1, q2];simp only [rule, spl_3, c72r19, c72r23, c72l24m, go_sem, ↓reduceIte, reduceCtorEq, Nat.reduceAdd, Nat.reduceSub, Nat.reduceLT, Nat.reduceLeDiff, Int.reduceLE, Int.reduceLT, Int.reduceToNat, Nat.reduceMul, Int.reduceNeg, not_true_eq_false, false_implies, true_implies, not_false_eq_true];exact ⟨inR_small (by omega) (by omega), hI (mk - (i + 1)) _ (by omega) ⟨i + 1, rfl, by omega, by rw [hT2]; rfl⟩⟩
theorem k35 {L : List Ent} {m : Int} : E.Fn Tryz.prog 35 [ssn L, .int .i64 m] [stV (if ckM L m = 0 then stL L m else st0), .int .i64 (ckM L m)] := by
 refine fn_of_row okf35 ?_;simp only [FRow.start, f35, c35r0, c35r1, ssn, SV.cells, go_sem, ↓reduceIte, reduceCtorEq, Nat.reduceAdd, Nat.reduceSub, Nat.reduceLT, Nat.reduceLeDiff, Int.reduceLE, Int.reduceLT, Int.reduceToNat, Nat.reduceMul, Int.reduceNeg, not_true_eq_false, false_implies, true_implies, not_false_eq_true]
 by_cases h : ckS L = 0
 case neg =>
  have e : ckM L m = ckS L := by unfold ckM; rw [if_pos h]
  rw [e, if_neg h];refine callK_of (by simp only [ssn, go_sem, ↓reduceIte, reduceCtorEq, Nat.reduceAdd, Nat.reduceSub, Nat.reduceLT, Nat.reduceLeDiff, Int.reduceLE, Int.reduceLT, Int.reduceToNat, Nat.reduceMul, Int.reduceNeg, not_true_eq_false, false_implies, true_implies, not_false_eq_true]) (k60b h) (.inr (.inl (by simp only [ssn, go_sem, ↓reduceIte, reduceCtorEq, Nat.reduceAdd, Nat.reduceSub, Nat.reduceLT, Nat.reduceLeDiff, Int.reduceLE, Int.reduceLT, Int.reduceToNat, Nat.reduceMul, Int.reduceNeg, not_true_eq_false, false_implies, true_implies, not_false_eq_true]))) ?_
  simp only [c35r2, c35r3, h, spl6, stV, st0, ints, List.map_nil, go_sem, ↓reduceIte, reduceCtorEq, Nat.reduceAdd, Nat.reduceSub, Nat.reduceLT, Nat.reduceLeDiff, Int.reduceLE, Int.reduceLT, Int.reduceToNat, Nat.reduceMul, Int.reduceNeg, not_true_eq_false, false_implies, true_implies, not_false_eq_true]
 have hok := ckS_zero.1 h;refine callK_of (by simp only [ssn, go_sem, ↓reduceIte, reduceCtorEq, Nat.reduceAdd, Nat.reduceSub, Nat.reduceLT, Nat.reduceLeDiff, Int.reduceLE, Int.reduceLT, Int.reduceToNat, Nat.reduceMul, Int.reduceNeg, not_true_eq_false, false_implies, true_implies, not_false_eq_true]) (k60 hok) (.inr (.inl (by simp only [ssn, go_sem, ↓reduceIte, reduceCtorEq, Nat.reduceAdd, Nat.reduceSub, Nat.reduceLT, Nat.reduceLeDiff, Int.reduceLE, Int.reduceLT, Int.reduceToNat, Nat.reduceMul, Int.reduceNeg, not_true_eq_false, false_implies, true_implies, not_false_eq_true]))) ?_
 simp only [c35r2, c35r4, go_sem, ↓reduceIte, reduceCtorEq, Nat.reduceAdd, Nat.reduceSub, Nat.reduceLT, Nat.reduceLeDiff, Int.reduceLE, Int.reduceLT, Int.reduceToNat, Nat.reduceMul, Int.reduceNeg, not_true_eq_false, false_implies, true_implies, not_false_eq_true];refine ⟨by decide, by decide, rfl, one_cells, callK_of (by simp only [go_sem, ↓reduceIte, reduceCtorEq, Nat.reduceAdd, Nat.reduceSub, Nat.reduceLT, Nat.reduceLeDiff, Int.reduceLE, Int.reduceLT, Int.reduceToNat, Nat.reduceMul, Int.reduceNeg, not_true_eq_false, false_implies, true_implies, not_false_eq_true]) (k65m (m := m)) (.inl rfl) ?_⟩
 by_cases hm : 0 <= m /\ m <= 4
 case neg =>
  have e : ckM L m = 2 := by unfold ckM; rw [if_neg (by simpa using h), if_neg hm]
  rw [e, if_neg (by decide), decide_eq_false hm]
  simp only [c35r5, spl6, stV, st0, ints, List.map_nil, go_sem, ↓reduceIte, reduceCtorEq, Nat.reduceAdd, Nat.reduceSub, Nat.reduceLT, Nat.reduceLeDiff, Int.reduceLE, Int.reduceLT, Int.reduceToNat, Nat.reduceMul, Int.reduceNeg, not_true_eq_false, false_implies, true_implies, not_false_eq_true]
 have e : ckM L m = 0 := by unfold ckM; rw [if_neg (by simpa using h), if_pos hm]
 rw [e, if_pos rfl, decide_eq_true hm];simp only [c35r6, go_sem, ↓reduceIte, reduceCtorEq, Nat.reduceAdd, Nat.reduceSub, Nat.reduceLT, Nat.reduceLeDiff, Int.reduceLE, Int.reduceLT, Int.reduceToNat, Nat.reduceMul, Int.reduceNeg, not_true_eq_false, false_implies, true_implies, not_false_eq_true];refine callK_of (by simp only [go_sem, ↓reduceIte, reduceCtorEq, Nat.reduceAdd, Nat.reduceSub, Nat.reduceLT, Nat.reduceLeDiff, Int.reduceLE, Int.reduceLT, Int.reduceToNat, Nat.reduceMul, Int.reduceNeg, not_true_eq_false, false_implies, true_implies, not_false_eq_true]) (k72 hok hm.1 hm.2) (.inr (.inl (by simp only [go_sem, ↓reduceIte, reduceCtorEq, Nat.reduceAdd, Nat.reduceSub, Nat.reduceLT, Nat.reduceLeDiff, Int.reduceLE, Int.reduceLT, Int.reduceToNat, Nat.reduceMul, Int.reduceNeg, not_true_eq_false, false_implies, true_implies, not_false_eq_true]))) ?_
 simp only [spl6, stV, go_sem, ↓reduceIte, reduceCtorEq, Nat.reduceAdd, Nat.reduceSub, Nat.reduceLT, Nat.reduceLeDiff, Int.reduceLE, Int.reduceLT, Int.reduceToNat, Nat.reduceMul, Int.reduceNeg, not_true_eq_false, false_implies, true_implies, not_false_eq_true]
theorem k37 {L : List Ent} : E.Fn Tryz.prog 37 [ssn L] [.int .i64 (if ckS L = 0 then tkT L 5 else 0), .int .i64 (ckS L)] := by
 refine fn_of_row okf37 ?_;simp only [FRow.start, f37, c37r0, c37r1, ssn, SV.cells, go_sem, ↓reduceIte, reduceCtorEq, Nat.reduceAdd, Nat.reduceSub, Nat.reduceLT, Nat.reduceLeDiff, Int.reduceLE, Int.reduceLT, Int.reduceToNat, Nat.reduceMul, Int.reduceNeg, not_true_eq_false, false_implies, true_implies, not_false_eq_true]
 by_cases h : ckS L = 0
 case neg =>
  rw [if_neg h];refine callK_of (by simp only [ssn, go_sem, ↓reduceIte, reduceCtorEq, Nat.reduceAdd, Nat.reduceSub, Nat.reduceLT, Nat.reduceLeDiff, Int.reduceLE, Int.reduceLT, Int.reduceToNat, Nat.reduceMul, Int.reduceNeg, not_true_eq_false, false_implies, true_implies, not_false_eq_true]) (k60b h) (.inr (.inl (by simp only [ssn, go_sem, ↓reduceIte, reduceCtorEq, Nat.reduceAdd, Nat.reduceSub, Nat.reduceLT, Nat.reduceLeDiff, Int.reduceLE, Int.reduceLT, Int.reduceToNat, Nat.reduceMul, Int.reduceNeg, not_true_eq_false, false_implies, true_implies, not_false_eq_true]))) ?_
  simp only [c37r2, c37r3, h, go_sem, ↓reduceIte, reduceCtorEq, Nat.reduceAdd, Nat.reduceSub, Nat.reduceLT, Nat.reduceLeDiff, Int.reduceLE, Int.reduceLT, Int.reduceToNat, Nat.reduceMul, Int.reduceNeg, not_true_eq_false, false_implies, true_implies, not_false_eq_true]
 have hok := ckS_zero.1 h;rw [if_pos h, h];refine callK_of (by simp only [ssn, go_sem, ↓reduceIte, reduceCtorEq, Nat.reduceAdd, Nat.reduceSub, Nat.reduceLT, Nat.reduceLeDiff, Int.reduceLE, Int.reduceLT, Int.reduceToNat, Nat.reduceMul, Int.reduceNeg, not_true_eq_false, false_implies, true_implies, not_false_eq_true]) (k60 hok) (.inr (.inl (by simp only [ssn, go_sem, ↓reduceIte, reduceCtorEq, Nat.reduceAdd, Nat.reduceSub, Nat.reduceLT, Nat.reduceLeDiff, Int.reduceLE, Int.reduceLT, Int.reduceToNat, Nat.reduceMul, Int.reduceNeg, not_true_eq_false, false_implies, true_implies, not_false_eq_true]))) ?_
 have hdk : SV.ptr [ents L, .map (L.map keyE) (L.map ent), .int .i64 (mark L 0), .int .i64 (mark L 1), .int .i64 (mark L 2), .int .i64 (mark L 3), .int .i64 (mark L 4)] = dsk L := by unfold dsk; rw [mks_mark hok]
 simp only [c37r2, c37r4, c37r5, dsk, mks_mark hok, go_sem, ↓reduceIte, reduceCtorEq, Nat.reduceAdd, Nat.reduceSub, Nat.reduceLT, Nat.reduceLeDiff, Int.reduceLE, Int.reduceLT, Int.reduceToNat, Nat.reduceMul, Int.reduceNeg, not_true_eq_false, false_implies, true_implies, not_false_eq_true];refine ⟨fun he => ?_, fun he => ?_⟩
 ·have hz : ∀ i : Nat, i < 5 -> mark L i = 0 := fun i hi => by
   simp only [SV.agg.injEq, List.cons.injEq, SV.int.injEq, true_and, and_true] at he;obtain ⟨h0, h1, h2, h3, h4⟩ := he;have : i = 0 \/ i = 1 \/ i = 2 \/ i = 3 \/ i = 4 := by omega
   rcases this with rfl | rfl | rfl | rfl | rfl
   ·exact Int.ofNat_eq_zero.1 h0
   ·exact Int.ofNat_eq_zero.1 h1
   ·exact Int.ofNat_eq_zero.1 h2
   ·exact Int.ofNat_eq_zero.1 h3
   ·exact Int.ofNat_eq_zero.1 h4
  have hb : ∀ i : Nat, i < 5 -> (stL L i).b = 0 := fun i hi => by unfold stL; rw [hz i hi]; rfl
  have ht : tkT L 5 = 0 := by
   rw [show (5 : Nat) = 4 + 1 from rfl, tkT_succ, show (4 : Nat) = 3 + 1 from rfl, tkT_succ, show (3 : Nat) = 2 + 1 from rfl, tkT_succ, show (2 : Nat) = 1 + 1 from rfl, tkT_succ, show (1 : Nat) = 0 + 1 from rfl, tkT_succ];have h0 := hb 0 (by decide); have h1 := hb 1 (by decide); have h2 := hb 2 (by decide); have h3 := hb 3 (by decide); have h4 := hb 4 (by decide)
   simp only [Nat.zero_add, Nat.reduceAdd] at *;rw [h0, h1, h2, h3, h4]; rfl
  rw [ht];simp only [c37r6, go_sem, ↓reduceIte, reduceCtorEq, Nat.reduceAdd, Nat.reduceSub, Nat.reduceLT, Nat.reduceLeDiff, Int.reduceLE, Int.reduceLT, Int.reduceToNat, Nat.reduceMul, Int.reduceNeg, not_true_eq_false, false_implies, true_implies, not_false_eq_true]
 rw [hdk];simp only [c37r7, go_sem, ↓reduceIte, reduceCtorEq, Nat.reduceAdd, Nat.reduceSub, Nat.reduceLT, Nat.reduceLeDiff, Int.reduceLE, Int.reduceLT, Int.reduceToNat, Nat.reduceMul, Int.reduceNeg, not_true_eq_false, false_implies, true_implies, not_false_eq_true]
 refine loop_rule (fun k τ => ∃ i : Nat, k = 5 - i /\ i <= 5 /\
  τ = ⟨[.any, .any, .any, .any, .s (dsk L), .any, aI (tkT L i), .any, .any, .any, .any, .any, .any, .any, .any, .any, .any, .any, .any, .any, .any, .any, .any, aI i, .any, .any, .any, .any, .any, .any, .any, .any, .any, .any], []⟩) 5 rfl ?_ ?_
 ·simp only [c37l12m, go_sem, ↓reduceIte, reduceCtorEq, Nat.reduceAdd, Nat.reduceSub, Nat.reduceLT, Nat.reduceLeDiff, Int.reduceLE, Int.reduceLT, Int.reduceToNat, Nat.reduceMul, Int.reduceNeg, not_true_eq_false, false_implies, true_implies, not_false_eq_true]
  exact ⟨0, rfl, by decide, rfl⟩
 rintro I k τ ⟨i, rfl, hi, rfl⟩ hI;have hb := tkT_bd hok (i := i);have hs := stL_bd (m := i) hok;have s0 := hs.b0; have s1 := hs.b1;simp only [c37l12, c37r8, go_sem, ↓reduceIte, reduceCtorEq, Nat.reduceAdd, Nat.reduceSub, Nat.reduceLT, Nat.reduceLeDiff, Int.reduceLE, Int.reduceLT, Int.reduceToNat, Nat.reduceMul, Int.reduceNeg, not_true_eq_false, false_implies, true_implies, not_false_eq_true];refine ⟨fun hlt => ?_, fun hge => ?_⟩
 ·simp only [c37r9, c37r10, go_sem, ↓reduceIte, reduceCtorEq, Nat.reduceAdd, Nat.reduceSub, Nat.reduceLT, Nat.reduceLeDiff, Int.reduceLE, Int.reduceLT, Int.reduceToNat, Nat.reduceMul, Int.reduceNeg, not_true_eq_false, false_implies, true_implies, not_false_eq_true]
  refine callK_of (by simp only [go_sem, ↓reduceIte, reduceCtorEq, Nat.reduceAdd, Nat.reduceSub, Nat.reduceLT, Nat.reduceLeDiff, Int.reduceLE, Int.reduceLT, Int.reduceToNat, Nat.reduceMul, Int.reduceNeg, not_true_eq_false, false_implies, true_implies, not_false_eq_true]) (k72 (m := i) hok (by omega) (by omega)) (.inr (.inl (by simp only [go_sem, ↓reduceIte, reduceCtorEq, Nat.reduceAdd, Nat.reduceSub, Nat.reduceLT, Nat.reduceLeDiff, Int.reduceLE, Int.reduceLT, Int.reduceToNat, Nat.reduceMul, Int.reduceNeg, not_true_eq_false, false_implies, true_implies, not_false_eq_true]))) ?_
  simp only [stV, c37r11, c37l12m, go_sem, ↓reduceIte, reduceCtorEq, Nat.reduceAdd, Nat.reduceSub, Nat.reduceLT, Nat.reduceLeDiff, Int.reduceLE, Int.reduceLT, Int.reduceToNat, Nat.reduceMul, Int.reduceNeg, not_true_eq_false, false_implies, true_implies, not_false_eq_true];refine ⟨inR_small (by omega) (by omega), inR_small (by omega) (by omega), hI (5 - (i + 1)) _ (by omega) ⟨i + 1, rfl, by omega, by rw [tkT_succ]; rfl⟩⟩
 ·have hie : i = 5 := by omega
  subst hie;simp only [c37r13, go_sem, ↓reduceIte, reduceCtorEq, Nat.reduceAdd, Nat.reduceSub, Nat.reduceLT, Nat.reduceLeDiff, Int.reduceLE, Int.reduceLT, Int.reduceToNat, Nat.reduceMul, Int.reduceNeg, not_true_eq_false, false_implies, true_implies, not_false_eq_true]
theorem st_eq {a b : St} : a = b ↔ a.c = b.c /\ a.h = b.h /\ a.b = b.b /\ a.p = b.p /\ a.r = b.r /\ a.f = b.f := by
 cases a; cases b; simp
instance : DecidableEq St := fun _ _ => decidable_of_iff _ st_eq.symm
theorem st_ne {a b : St} (h : ¬ (a.c = b.c /\ a.h = b.h /\ a.b = b.b /\ a.p = b.p /\ a.r = b.r /\ a.f = b.f)) : [SV.bool false] = [SV.bool (decide (a = b))] := by
 rw [decide_eq_false fun e => h (st_eq.1 e)]
theorem k39 {a b : St} : E.Fn Tryz.prog 39 [stV a, stV b] [.bool (decide (a = b))] := by
 refine fn_of_row okf39 ?_;simp only [FRow.start, f39, c39r0, c39r1, stV, SV.cells, go_sem, ↓reduceIte, reduceCtorEq, Nat.reduceAdd, Nat.reduceSub, Nat.reduceLT, Nat.reduceLeDiff, Int.reduceLE, Int.reduceLT, Int.reduceToNat, Nat.reduceMul, Int.reduceNeg, not_true_eq_false, false_implies, true_implies, not_false_eq_true];refine ⟨fun h1 => ⟨fun h2 => ⟨fun h3 => ⟨fun h4 => ⟨fun h5 => ?_, fun h => st_ne fun e => h e.2.2.2.2.1⟩, fun h => st_ne fun e => h e.2.2.2.1⟩, fun h => st_ne fun e => h e.2.2.1⟩, fun h => st_ne fun e => h e.2.1⟩, fun h => st_ne fun e => h e.1⟩
 refine callK_of (by simp only [ints, go_sem, ↓reduceIte, reduceCtorEq, Nat.reduceAdd, Nat.reduceSub, Nat.reduceLT, Nat.reduceLeDiff, Int.reduceLE, Int.reduceLT, Int.reduceToNat, Nat.reduceMul, Int.reduceNeg, not_true_eq_false, false_implies, true_implies, not_false_eq_true]) (k34 (xs := a.f) (ys := b.f)) (.inl rfl) ?_
 simp only [go_sem, ↓reduceIte, reduceCtorEq, Nat.reduceAdd, Nat.reduceSub, Nat.reduceLT, Nat.reduceLeDiff, Int.reduceLE, Int.reduceLT, Int.reduceToNat, Nat.reduceMul, Int.reduceNeg, not_true_eq_false, false_implies, true_implies, not_false_eq_true]
 congr 2
 rw [decide_eq_decide];exact ⟨fun h => st_eq.2 ⟨h1, h2, h3, h4, h5, h⟩, fun h => by rw [h]⟩
theorem fn_eq {f : FuncId} {xs rs rz : List SV} (h : E.Fn Tryz.prog f xs rs) (e : rs = rz) : E.Fn Tryz.prog f xs rz := e ▸ h
def fT : List UInt8 := [48, 32, 51, 32, 98, 111, 120, 32, 50, 10, 48, 32, 52, 32, 112, 108, 101, 97, 32, 49, 10, 101, 110, 100, 32, 50, 10]
theorem v0 : E.Fn Tryz.prog 28 [ssn sS] [ints [3, 0, 3, 0, 0], .int .i64 0] := fn_eq k28 (by kernel_rfl)
theorem v1 : E.Fn Tryz.prog 30 [ssn sS, .int .i64 0] [ints [4], .int .i64 0] := fn_eq k30 (by kernel_rfl)
theorem v2 : E.Fn Tryz.prog 30 [ssn sS, .int .i64 5] [ints [], .int .i64 2] := fn_eq k30 (by kernel_rfl)
theorem v3 : E.Fn Tryz.prog 35 [ssn sS, .int .i64 0] [stV ⟨4, 1, 2, 2, 0, []⟩, .int .i64 0] := fn_eq k35 (by kernel_rfl)
theorem v4 : E.Fn Tryz.prog 35 [ssn sS, .int .i64 2] [stV ⟨0, 0, 0, 0, 0, [2]⟩, .int .i64 0] := fn_eq k35 (by kernel_rfl)
theorem v5 : E.Fn Tryz.prog 21 [ssn sS, ssn tS] [ssn jS, .int .i64 0] := fn_eq k21 (by kernel_rfl)
theorem v6 : E.Fn Tryz.prog 35 [ssn jS, .int .i64 0] [stV ⟨5, 2, 1, 2, 1, []⟩, .int .i64 0] := fn_eq k35 (by kernel_rfl)
theorem v7 : E.Fn Tryz.prog 37 [ssn sS] [.int .i64 2, .int .i64 0] := fn_eq k37 (by kernel_rfl)
theorem v8 : E.Fn Tryz.prog 37 [ssn jS] [.int .i64 1, .int .i64 0] := fn_eq k37 (by kernel_rfl)
theorem v9 : E.Fn Tryz.prog 19 [ssn sS, ent ⟨0, 2, 2, 3⟩] [ssn [], .int .i64 15] := fn_eq k19 (by kernel_rfl)
theorem v10 : E.Fn Tryz.prog 19 [ssn sS, ent ⟨0, 4, 5, 4⟩] [ssn [], .int .i64 2] := fn_eq k19 (by kernel_rfl)
theorem v11 : E.Fn Tryz.prog 32 [ssn jS, ints [3, 0, 3, 0, 0]] [ssn [⟨0, 4, 4, 1⟩, ⟨0, 5, 1, 1⟩], .int .i64 0] := fn_eq k32 (by kernel_rfl)
theorem v12 : E.Fn Tryz.prog 32 [ssn jS, ints [0, 0, 0]] [ssn [], .int .i64 3] := fn_eq k32 (by kernel_rfl)
theorem v13 : E.Fn Tryz.prog 40 [ssn tS] [.str (bL fT), .int .i64 0] := fn_eq k40 (by
 have e : filR tS = fT := by kernel_rfl
 rw [e]; rfl)
theorem v14 : E.Fn Tryz.prog 42 [.str (bL fT)] [ssn tS, .int .i64 0] := fn_eq (k42 (by decide)) (by
 have e : lodR fT = (tS, 0) := by kernel_rfl
 rw [e])
theorem k34t {l : List Int} : E.Fn Tryz.prog 34 [ints l, ints l] [.bool true] := fn_eq k34 (by rw [decide_eq_true rfl])
theorem k27t {l : List Ent} : E.Fn Tryz.prog 27 [ssn l, ssn l] [.bool true] := fn_eq k27 (by rw [decide_eq_true rfl])
theorem k39t {s : St} : E.Fn Tryz.prog 39 [stV s, stV s] [.bool true] := fn_eq k39 (by rw [decide_eq_true rfl])
set_option maxHeartbeats 4000000 in
theorem works_ok : E.Fn Tryz.prog 18 [] [.bool true] := by
 refine fn_of_row okf18 ?_;simp only [FRow.start, f18, c18r0, c18r1, go_sem, ↓reduceIte, reduceCtorEq, Nat.reduceAdd, Nat.reduceSub, Nat.reduceLT, Nat.reduceLeDiff, Int.reduceLE, Int.reduceLT, Int.reduceToNat, Nat.reduceMul, Int.reduceNeg, not_true_eq_false, false_implies, true_implies, not_false_eq_true];refine callK_of rfl k54 (.inr (.inl rfl)) ?_;simp only [go_sem, ↓reduceIte, reduceCtorEq, Nat.reduceAdd, Nat.reduceSub, Nat.reduceLT, Nat.reduceLeDiff, Int.reduceLE, Int.reduceLT, Int.reduceToNat, Nat.reduceMul, Int.reduceNeg, not_true_eq_false, false_implies, true_implies, not_false_eq_true];refine callK_of rfl v0 (.inr (.inl rfl)) ?_;simp only [c18r2, go_sem, ↓reduceIte, reduceCtorEq, Nat.reduceAdd, Nat.reduceSub, Nat.reduceLT, Nat.reduceLeDiff, Int.reduceLE, Int.reduceLT, Int.reduceToNat, Nat.reduceMul, Int.reduceNeg, not_true_eq_false, false_implies, true_implies, not_false_eq_true];refine callK_of rfl k54 (.inr (.inl rfl)) ?_;simp only [go_sem, ↓reduceIte, reduceCtorEq, Nat.reduceAdd, Nat.reduceSub, Nat.reduceLT, Nat.reduceLeDiff, Int.reduceLE, Int.reduceLT, Int.reduceToNat, Nat.reduceMul, Int.reduceNeg, not_true_eq_false, false_implies, true_implies, not_false_eq_true];refine callK_of rfl v1 (.inr (.inl rfl)) ?_;simp only [c18r3, go_sem, ↓reduceIte, reduceCtorEq, Nat.reduceAdd, Nat.reduceSub, Nat.reduceLT, Nat.reduceLeDiff, Int.reduceLE, Int.reduceLT, Int.reduceToNat, Nat.reduceMul, Int.reduceNeg, not_true_eq_false, false_implies, true_implies, not_false_eq_true];refine callK_of rfl k54 (.inr (.inl rfl)) ?_;simp only [go_sem, ↓reduceIte, reduceCtorEq, Nat.reduceAdd, Nat.reduceSub, Nat.reduceLT, Nat.reduceLeDiff, Int.reduceLE, Int.reduceLT, Int.reduceToNat, Nat.reduceMul, Int.reduceNeg, not_true_eq_false, false_implies, true_implies, not_false_eq_true];refine callK_of rfl v2 (.inr (.inl rfl)) ?_;simp only [c18r4, go_sem, ↓reduceIte, reduceCtorEq, Nat.reduceAdd, Nat.reduceSub, Nat.reduceLT, Nat.reduceLeDiff, Int.reduceLE, Int.reduceLT, Int.reduceToNat, Nat.reduceMul, Int.reduceNeg, not_true_eq_false, false_implies, true_implies, not_false_eq_true];refine callK_of rfl k54 (.inr (.inl rfl)) ?_;simp only [go_sem, ↓reduceIte, reduceCtorEq, Nat.reduceAdd, Nat.reduceSub, Nat.reduceLT, Nat.reduceLeDiff, Int.reduceLE, Int.reduceLT, Int.reduceToNat, Nat.reduceMul, Int.reduceNeg, not_true_eq_false, false_implies, true_implies, not_false_eq_true];refine callK_of rfl v3 (.inr (.inl rfl)) ?_;simp only [stV, splice, c18r5, go_sem, ↓reduceIte, reduceCtorEq, Nat.reduceAdd, Nat.reduceSub, Nat.reduceLT, Nat.reduceLeDiff, Int.reduceLE, Int.reduceLT, Int.reduceToNat, Nat.reduceMul, Int.reduceNeg, not_true_eq_false, false_implies, true_implies, not_false_eq_true];refine callK_of rfl k54 (.inr (.inl rfl)) ?_;simp only [go_sem, ↓reduceIte, reduceCtorEq, Nat.reduceAdd, Nat.reduceSub, Nat.reduceLT, Nat.reduceLeDiff, Int.reduceLE, Int.reduceLT, Int.reduceToNat, Nat.reduceMul, Int.reduceNeg, not_true_eq_false, false_implies, true_implies, not_false_eq_true];refine callK_of rfl v4 (.inr (.inl rfl)) ?_;simp only [stV, splice, c18r6, go_sem, ↓reduceIte, reduceCtorEq, Nat.reduceAdd, Nat.reduceSub, Nat.reduceLT, Nat.reduceLeDiff, Int.reduceLE, Int.reduceLT, Int.reduceToNat, Nat.reduceMul, Int.reduceNeg, not_true_eq_false, false_implies, true_implies, not_false_eq_true];refine callK_of rfl k54 (.inr (.inl rfl)) ?_;simp only [go_sem, ↓reduceIte, reduceCtorEq, Nat.reduceAdd, Nat.reduceSub, Nat.reduceLT, Nat.reduceLeDiff, Int.reduceLE, Int.reduceLT, Int.reduceToNat, Nat.reduceMul, Int.reduceNeg, not_true_eq_false, false_implies, true_implies, not_false_eq_true];refine callK_of rfl k55 (.inr (.inl rfl)) ?_;simp only [go_sem, ↓reduceIte, reduceCtorEq, Nat.reduceAdd, Nat.reduceSub, Nat.reduceLT, Nat.reduceLeDiff, Int.reduceLE, Int.reduceLT, Int.reduceToNat, Nat.reduceMul, Int.reduceNeg, not_true_eq_false, false_implies, true_implies, not_false_eq_true];refine callK_of rfl v5 (.inr (.inl rfl)) ?_;simp only [splice, ssn, c18r7, go_sem, ↓reduceIte, reduceCtorEq, Nat.reduceAdd, Nat.reduceSub, Nat.reduceLT, Nat.reduceLeDiff, Int.reduceLE, Int.reduceLT, Int.reduceToNat, Nat.reduceMul, Int.reduceNeg, not_true_eq_false, false_implies, true_implies, not_false_eq_true];refine callK_of rfl v6 (.inr (.inl rfl)) ?_;simp only [stV, splice, c18r8, go_sem, ↓reduceIte, reduceCtorEq, Nat.reduceAdd, Nat.reduceSub, Nat.reduceLT, Nat.reduceLeDiff, Int.reduceLE, Int.reduceLT, Int.reduceToNat, Nat.reduceMul, Int.reduceNeg, not_true_eq_false, false_implies, true_implies, not_false_eq_true];refine callK_of rfl k54 (.inr (.inl rfl)) ?_;simp only [go_sem, ↓reduceIte, reduceCtorEq, Nat.reduceAdd, Nat.reduceSub, Nat.reduceLT, Nat.reduceLeDiff, Int.reduceLE, Int.reduceLT, Int.reduceToNat, Nat.reduceMul, Int.reduceNeg, not_true_eq_false, false_implies, true_implies, not_false_eq_true];refine callK_of rfl v7 (.inl rfl) ?_;simp only [c18r9, go_sem, ↓reduceIte, reduceCtorEq, Nat.reduceAdd, Nat.reduceSub, Nat.reduceLT, Nat.reduceLeDiff, Int.reduceLE, Int.reduceLT, Int.reduceToNat, Nat.reduceMul, Int.reduceNeg, not_true_eq_false, false_implies, true_implies, not_false_eq_true];refine callK_of rfl k53 (.inr (.inl rfl)) ?_;simp only [go_sem, ↓reduceIte, reduceCtorEq, Nat.reduceAdd, Nat.reduceSub, Nat.reduceLT, Nat.reduceLeDiff, Int.reduceLE, Int.reduceLT, Int.reduceToNat, Nat.reduceMul, Int.reduceNeg, not_true_eq_false, false_implies, true_implies, not_false_eq_true];refine callK_of rfl v8 (.inl rfl) ?_;simp only [c18r10, go_sem, ↓reduceIte, reduceCtorEq, Nat.reduceAdd, Nat.reduceSub, Nat.reduceLT, Nat.reduceLeDiff, Int.reduceLE, Int.reduceLT, Int.reduceToNat, Nat.reduceMul, Int.reduceNeg, not_true_eq_false, false_implies, true_implies, not_false_eq_true];refine callK_of rfl k54 (.inr (.inl rfl)) ?_;simp only [go_sem, ↓reduceIte, reduceCtorEq, Nat.reduceAdd, Nat.reduceSub, Nat.reduceLT, Nat.reduceLeDiff, Int.reduceLE, Int.reduceLT, Int.reduceToNat, Nat.reduceMul, Int.reduceNeg, not_true_eq_false, false_implies, true_implies, not_false_eq_true];refine callK_of rfl (k51 (e := ⟨0, 2, 2, 3⟩)) (.inr (.inl rfl)) ?_;simp only [go_sem, ↓reduceIte, reduceCtorEq, Nat.reduceAdd, Nat.reduceSub, Nat.reduceLT, Nat.reduceLeDiff, Int.reduceLE, Int.reduceLT, Int.reduceToNat, Nat.reduceMul, Int.reduceNeg, not_true_eq_false, false_implies, true_implies, not_false_eq_true];refine callK_of rfl v9 (.inr (.inl rfl)) ?_;simp only [splice, ssn, c18r11, go_sem, ↓reduceIte, reduceCtorEq, Nat.reduceAdd, Nat.reduceSub, Nat.reduceLT, Nat.reduceLeDiff, Int.reduceLE, Int.reduceLT, Int.reduceToNat, Nat.reduceMul, Int.reduceNeg, not_true_eq_false, false_implies, true_implies, not_false_eq_true];refine callK_of rfl k54 (.inr (.inl rfl)) ?_;simp only [go_sem, ↓reduceIte, reduceCtorEq, Nat.reduceAdd, Nat.reduceSub, Nat.reduceLT, Nat.reduceLeDiff, Int.reduceLE, Int.reduceLT, Int.reduceToNat, Nat.reduceMul, Int.reduceNeg, not_true_eq_false, false_implies, true_implies, not_false_eq_true];refine callK_of rfl (k51 (e := ⟨0, 4, 5, 4⟩)) (.inr (.inl rfl)) ?_;simp only [go_sem, ↓reduceIte, reduceCtorEq, Nat.reduceAdd, Nat.reduceSub, Nat.reduceLT, Nat.reduceLeDiff, Int.reduceLE, Int.reduceLT, Int.reduceToNat, Nat.reduceMul, Int.reduceNeg, not_true_eq_false, false_implies, true_implies, not_false_eq_true];refine callK_of rfl v10 (.inr (.inl rfl)) ?_;simp only [splice, ssn, c18r12, go_sem, ↓reduceIte, reduceCtorEq, Nat.reduceAdd, Nat.reduceSub, Nat.reduceLT, Nat.reduceLeDiff, Int.reduceLE, Int.reduceLT, Int.reduceToNat, Nat.reduceMul, Int.reduceNeg, not_true_eq_false, false_implies, true_implies, not_false_eq_true];refine callK_of rfl k53 (.inr (.inl rfl)) ?_;simp only [go_sem, ↓reduceIte, reduceCtorEq, Nat.reduceAdd, Nat.reduceSub, Nat.reduceLT, Nat.reduceLeDiff, Int.reduceLE, Int.reduceLT, Int.reduceToNat, Nat.reduceMul, Int.reduceNeg, not_true_eq_false, false_implies, true_implies, not_false_eq_true];refine ⟨by decide, by decide, rfl, ints_cells (l := [3, 0, 3, 0, 0]), ?_⟩
 refine callK_of rfl (k56 (l := [3, 0, 3, 0, 0])) (.inr (.inl rfl)) ?_;simp only [go_sem, ↓reduceIte, reduceCtorEq, Nat.reduceAdd, Nat.reduceSub, Nat.reduceLT, Nat.reduceLeDiff, Int.reduceLE, Int.reduceLT, Int.reduceToNat, Nat.reduceMul, Int.reduceNeg, not_true_eq_false, false_implies, true_implies, not_false_eq_true];refine callK_of rfl v11 (.inr (.inl rfl)) ?_;simp only [splice, ssn, c18r13, go_sem, ↓reduceIte, reduceCtorEq, Nat.reduceAdd, Nat.reduceSub, Nat.reduceLT, Nat.reduceLeDiff, Int.reduceLE, Int.reduceLT, Int.reduceToNat, Nat.reduceMul, Int.reduceNeg, not_true_eq_false, false_implies, true_implies, not_false_eq_true];refine callK_of rfl k53 (.inr (.inl rfl)) ?_;simp only [go_sem, ↓reduceIte, reduceCtorEq, Nat.reduceAdd, Nat.reduceSub, Nat.reduceLT, Nat.reduceLeDiff, Int.reduceLE, Int.reduceLT, Int.reduceToNat, Nat.reduceMul, Int.reduceNeg, not_true_eq_false, false_implies, true_implies, not_false_eq_true];refine ⟨by decide, by decide, rfl, ints_cells (l := [0, 0, 0]), ?_⟩
 refine callK_of rfl (k56 (l := [0, 0, 0])) (.inr (.inl rfl)) ?_;simp only [go_sem, ↓reduceIte, reduceCtorEq, Nat.reduceAdd, Nat.reduceSub, Nat.reduceLT, Nat.reduceLeDiff, Int.reduceLE, Int.reduceLT, Int.reduceToNat, Nat.reduceMul, Int.reduceNeg, not_true_eq_false, false_implies, true_implies, not_false_eq_true];refine callK_of rfl v12 (.inr (.inl rfl)) ?_;simp only [splice, ssn, c18r14, go_sem, ↓reduceIte, reduceCtorEq, Nat.reduceAdd, Nat.reduceSub, Nat.reduceLT, Nat.reduceLeDiff, Int.reduceLE, Int.reduceLT, Int.reduceToNat, Nat.reduceMul, Int.reduceNeg, not_true_eq_false, false_implies, true_implies, not_false_eq_true];refine callK_of rfl k55 (.inr (.inl rfl)) ?_;simp only [go_sem, ↓reduceIte, reduceCtorEq, Nat.reduceAdd, Nat.reduceSub, Nat.reduceLT, Nat.reduceLeDiff, Int.reduceLE, Int.reduceLT, Int.reduceToNat, Nat.reduceMul, Int.reduceNeg, not_true_eq_false, false_implies, true_implies, not_false_eq_true];refine callK_of rfl v13 (.inl rfl) ?_;simp only [c18r15, go_sem, ↓reduceIte, reduceCtorEq, Nat.reduceAdd, Nat.reduceSub, Nat.reduceLT, Nat.reduceLeDiff, Int.reduceLE, Int.reduceLT, Int.reduceToNat, Nat.reduceMul, Int.reduceNeg, not_true_eq_false, false_implies, true_implies, not_false_eq_true];refine callK_of rfl v14 (.inr (.inl rfl)) ?_;simp only [splice, ssn, c18r16, go_sem, ↓reduceIte, reduceCtorEq, Nat.reduceAdd, Nat.reduceSub, Nat.reduceLT, Nat.reduceLeDiff, Int.reduceLE, Int.reduceLT, Int.reduceToNat, Nat.reduceMul, Int.reduceNeg, not_true_eq_false, false_implies, true_implies, not_false_eq_true];simp only [c18r18, go_sem, ↓reduceIte, reduceCtorEq, Nat.reduceAdd, Nat.reduceSub, Nat.reduceLT, Nat.reduceLeDiff, Int.reduceLE, Int.reduceLT, Int.reduceToNat, Nat.reduceMul, Int.reduceNeg, not_true_eq_false, false_implies, true_implies, not_false_eq_true];refine ⟨by decide, by decide, rfl, ints_cells (l := [3, 0, 3, 0, 0]), ?_⟩
 refine callK_of rfl (k56 (l := [3, 0, 3, 0, 0])) (.inr (.inl rfl)) ?_;simp only [go_sem, ↓reduceIte, reduceCtorEq, Nat.reduceAdd, Nat.reduceSub, Nat.reduceLT, Nat.reduceLeDiff, Int.reduceLE, Int.reduceLT, Int.reduceToNat, Nat.reduceMul, Int.reduceNeg, not_true_eq_false, false_implies, true_implies, not_false_eq_true];refine callK_of rfl (k34t (l := [3, 0, 3, 0, 0])) (.inl rfl) ?_;simp only [go_sem, ↓reduceIte, reduceCtorEq, Nat.reduceAdd, Nat.reduceSub, Nat.reduceLT, Nat.reduceLeDiff, Int.reduceLE, Int.reduceLT, Int.reduceToNat, Nat.reduceMul, Int.reduceNeg, not_true_eq_false, false_implies, true_implies, not_false_eq_true];refine ⟨by decide, by decide, rfl, ints_cells (l := [4]), ?_⟩
 refine callK_of rfl (k56 (l := [4])) (.inr (.inl rfl)) ?_;simp only [go_sem, ↓reduceIte, reduceCtorEq, Nat.reduceAdd, Nat.reduceSub, Nat.reduceLT, Nat.reduceLeDiff, Int.reduceLE, Int.reduceLT, Int.reduceToNat, Nat.reduceMul, Int.reduceNeg, not_true_eq_false, false_implies, true_implies, not_false_eq_true];refine callK_of rfl (k34t (l := [4])) (.inl rfl) ?_;simp only [go_sem, ↓reduceIte, reduceCtorEq, Nat.reduceAdd, Nat.reduceSub, Nat.reduceLT, Nat.reduceLeDiff, Int.reduceLE, Int.reduceLT, Int.reduceToNat, Nat.reduceMul, Int.reduceNeg, not_true_eq_false, false_implies, true_implies, not_false_eq_true];refine callK_of rfl (k57 (s := ⟨4, 1, 2, 2, 0, []⟩)) (.inr (.inl rfl)) ?_;simp only [go_sem, ↓reduceIte, reduceCtorEq, Nat.reduceAdd, Nat.reduceSub, Nat.reduceLT, Nat.reduceLeDiff, Int.reduceLE, Int.reduceLT, Int.reduceToNat, Nat.reduceMul, Int.reduceNeg, not_true_eq_false, false_implies, true_implies, not_false_eq_true];refine callK_of rfl (k39t (s := ⟨4, 1, 2, 2, 0, []⟩)) (.inl rfl) ?_;simp only [go_sem, ↓reduceIte, reduceCtorEq, Nat.reduceAdd, Nat.reduceSub, Nat.reduceLT, Nat.reduceLeDiff, Int.reduceLE, Int.reduceLT, Int.reduceToNat, Nat.reduceMul, Int.reduceNeg, not_true_eq_false, false_implies, true_implies, not_false_eq_true];refine ⟨by decide, by decide, rfl, ints_cells (l := [2]), ?_⟩
 refine callK_of rfl (k57 (s := ⟨0, 0, 0, 0, 0, [2]⟩)) (.inr (.inl rfl)) ?_;simp only [go_sem, ↓reduceIte, reduceCtorEq, Nat.reduceAdd, Nat.reduceSub, Nat.reduceLT, Nat.reduceLeDiff, Int.reduceLE, Int.reduceLT, Int.reduceToNat, Nat.reduceMul, Int.reduceNeg, not_true_eq_false, false_implies, true_implies, not_false_eq_true];refine callK_of rfl (k39t (s := ⟨0, 0, 0, 0, 0, [2]⟩)) (.inl rfl) ?_;simp only [go_sem, ↓reduceIte, reduceCtorEq, Nat.reduceAdd, Nat.reduceSub, Nat.reduceLT, Nat.reduceLeDiff, Int.reduceLE, Int.reduceLT, Int.reduceToNat, Nat.reduceMul, Int.reduceNeg, not_true_eq_false, false_implies, true_implies, not_false_eq_true];refine callK_of rfl k53 (.inr (.inl rfl)) ?_;simp only [go_sem, ↓reduceIte, reduceCtorEq, Nat.reduceAdd, Nat.reduceSub, Nat.reduceLT, Nat.reduceLeDiff, Int.reduceLE, Int.reduceLT, Int.reduceToNat, Nat.reduceMul, Int.reduceNeg, not_true_eq_false, false_implies, true_implies, not_false_eq_true];refine callK_of rfl (k27t (l := jS)) (.inl rfl) ?_;simp only [go_sem, ↓reduceIte, reduceCtorEq, Nat.reduceAdd, Nat.reduceSub, Nat.reduceLT, Nat.reduceLeDiff, Int.reduceLE, Int.reduceLT, Int.reduceToNat, Nat.reduceMul, Int.reduceNeg, not_true_eq_false, false_implies, true_implies, not_false_eq_true];refine callK_of rfl (k57 (s := ⟨5, 2, 1, 2, 1, []⟩)) (.inr (.inl rfl)) ?_;simp only [go_sem, ↓reduceIte, reduceCtorEq, Nat.reduceAdd, Nat.reduceSub, Nat.reduceLT, Nat.reduceLeDiff, Int.reduceLE, Int.reduceLT, Int.reduceToNat, Nat.reduceMul, Int.reduceNeg, not_true_eq_false, false_implies, true_implies, not_false_eq_true];refine callK_of rfl (k39t (s := ⟨5, 2, 1, 2, 1, []⟩)) (.inl rfl) ?_;simp only [go_sem, ↓reduceIte, reduceCtorEq, Nat.reduceAdd, Nat.reduceSub, Nat.reduceLT, Nat.reduceLeDiff, Int.reduceLE, Int.reduceLT, Int.reduceToNat, Nat.reduceMul, Int.reduceNeg, not_true_eq_false, false_implies, true_implies, not_false_eq_true];refine ⟨by decide, by decide, rfl, ints_cells (l := [0, 4, 4, 1, 0, 5, 1, 1]), ?_⟩
 refine callK_of rfl (k58 (L := [⟨0, 4, 4, 1⟩, ⟨0, 5, 1, 1⟩]) (by decide)) (.inr (.inl rfl)) ?_
 simp only [go_sem, ↓reduceIte, reduceCtorEq, Nat.reduceAdd, Nat.reduceSub, Nat.reduceLT, Nat.reduceLeDiff, Int.reduceLE, Int.reduceLT, Int.reduceToNat, Nat.reduceMul, Int.reduceNeg, not_true_eq_false, false_implies, true_implies, not_false_eq_true];refine callK_of rfl (k27t (l := [⟨0, 4, 4, 1⟩, ⟨0, 5, 1, 1⟩])) (.inl rfl) ?_;simp only [go_sem, ↓reduceIte, reduceCtorEq, Nat.reduceAdd, Nat.reduceSub, Nat.reduceLT, Nat.reduceLeDiff, Int.reduceLE, Int.reduceLT, Int.reduceToNat, Nat.reduceMul, Int.reduceNeg, not_true_eq_false, false_implies, true_implies, not_false_eq_true];refine ⟨fun _ => ?_, fun h => absurd rfl h⟩
 refine callK_of rfl k55 (.inr (.inl rfl)) ?_;simp only [go_sem, ↓reduceIte, reduceCtorEq, Nat.reduceAdd, Nat.reduceSub, Nat.reduceLT, Nat.reduceLeDiff, Int.reduceLE, Int.reduceLT, Int.reduceToNat, Nat.reduceMul, Int.reduceNeg, not_true_eq_false, false_implies, true_implies, not_false_eq_true];refine callK_of rfl (k27t (l := tS)) (.inl rfl) ?_;simp only [go_sem, ↓reduceIte, reduceCtorEq, Nat.reduceAdd, Nat.reduceSub, Nat.reduceLT, Nat.reduceLeDiff, Int.reduceLE, Int.reduceLT, Int.reduceToNat, Nat.reduceMul, Int.reduceNeg, not_true_eq_false, false_implies, true_implies, not_false_eq_true]
theorem wk {H : List ABlock} {k : AK} (hk : k (LV.ofResults [.bool true]) H none True) : callK Tryz.prog H 18 [] k := callK_of rfl works_ok (.inl rfl) hk
end Go.Proofs.YtdlfkbpddfeenaaGreatDoor.Sk
