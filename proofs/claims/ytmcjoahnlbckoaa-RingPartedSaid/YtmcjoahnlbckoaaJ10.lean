/- Contracts of functions: a shortest way from a key to itself by an odd number of clashes. -/
import Derived.Test.YtmcjoahnlbckoaaJ9

set_option linter.all false

namespace Go.Proofs.Ytmcjoahnlbckoaa.Sk
open Go Go.E Go.E.Sm
set_option maxRecDepth 10000
@[go_sem] theorem lenK_ints {H : List ABlock} {k : AK} {l : List Int} : lenK H k false (.s (ints l)) = k (.s (.int .i64 l.length)) H none (l.length <= maxLen) := by
 simp only [ints, lenK, List.length_map]
def lastI (w : List Int) : Int := w.getD (w.length - 1) 0
theorem k107 {x : List Int} {k : Int} (hx : x ≠ []) (hl : x.length <= 100) : E.Fn Try.prog 107 [ints x, .ptr [.int .i64 k]] [.bool (decide (lastI x = k))] := by
 refine fn_of_row okf107 ?_
 have h0 : 0 < x.length := List.length_pos_iff.2 hx
 have e : ((x.length : Int) - 1) = ((x.length - 1 : Nat) : Int) := by omega
 have hg := getD_get (l := x) (i := x.length - 1) (by omega)
 simp only [FRow.start, f107, c107r0, c107r1, ints, e, hg, go_sem, Nat.reduceAdd, Nat.reduceSub]
 refine ⟨inR_small (by omega) (by omega), ?_⟩
 intro _
 rfl
theorem promo_cell {σ : AState} {b d o off sz : Nat} {cs : List LV} (h : fget σ.fr d = .loc b o) (hB : σ.hp[b]? = some (.obj cs)) (hc : cs[o + off]? = some (.full [])) :
  promote [(d, some off, sz)] σ = { fr := σ.fr, hp := σ.hp.set b (.obj (cs.set (o + off) (.sl σ.hp.length 0 0 (sz + 1) false))) ++ [.row []] } := by
 simp only [promote, promote1, h, hB, hc]
@[go_sem] theorem bwp_pin' {P : Program} {n0 t : Nat} {a : BCode} {σ : AState} {Q : AExit -> AState -> Prop} : bwp P n0 (.pin t a) σ Q = pinK σ t (fun τ => bwp P n0 a τ Q) (fget σ.fr t) := rfl
@[go_sem] theorem pinK_loc {σ : AState} {t b : Nat} {Q : AState -> Prop} : pinK σ t Q (.loc b 0) = pinB σ.hp t b σ.fr Q σ.hp[b]? := rfl
@[go_sem] theorem pinB_obj {H : List ABlock} {t b : Nat} {fr : List LV} {Q : AState -> Prop} {cs : List LV} : pinB H t b fr Q (some (.obj cs)) = exO (frzAll (frz []) cs) fun vs => Q { fr := fset fr t (.s (.ptr vs)), hp := H.set b (.frz vs) } := rfl
theorem one_slice {xs : List SV} : ∀ e ∈ [SV.slice xs], e.cells.length = 1 := by
 intro e he
 rw [List.mem_singleton] at he
 subst he; rfl
theorem k114 {g : FuncId} {first caps : List SV} {xs : List (List Int)} {p : List Int -> Bool} (hg : Ok1 g first caps) (hp : ∀ x ∈ xs, Asks g first caps (ints x) (p x)) : E.Fn Try.prog 114 [intss xs, .fn g first caps] [.int .i64 (idx p xs 0)] := by
 refine fn_of_row okf114 ?_
 simp only [FRow.start, f114, c114r0, c114r1, intss, go_sem, Nat.reduceAdd, Nat.reduceSub]
 intro hlen
 have hlen' : (xs.length : Int) <= 2 ^ 63 - 1 := Int.le_trans (Int.ofNat_le.mpr hlen) maxLen_le
 refine loop_rule (fun n τ => ∃ i : Nat, n = xs.length - i /\ i <= xs.length /\ idx p xs 0 = idx p (xs.drop i) i /\
  τ = ⟨[.s (intss xs), .s (.fn g first caps), .any, .any, .any, .any, .any, .s (.int .i64 xs.length), .s (.int .i64 i), .any, .any, .any, .any, .any, .any, .any, .any, .any, .any], []⟩) xs.length rfl ?_ ?_
 ·simp only [c114l7m, go_sem]
  exact ⟨0, rfl, Nat.zero_le _, rfl, rfl⟩
 ·rintro I n τ ⟨i, rfl, hi, hidx, rfl⟩ hI
  simp only [c114l7, c114r2, c114r3, go_sem, ↓reduceIte]
  refine ⟨fun hlt => ?_, fun hge => ?_⟩
  ·have hx : xs[i]? = some xs[i] := List.getElem?_eq_getElem hlt
   have hdrop : xs.drop i = xs[i] :: xs.drop (i + 1) := List.drop_eq_getElem_cons hlt
   have hpi := hp _ (List.getElem_mem hlt)
   simp only [c114r4, hx, intss, go_sem]
   refine ⟨hg.1, hg.2, callK_of (by simp only [go_sem]) hpi (.inl rfl) ?_⟩
   simp only [go_sem]
   rw [hdrop, idx] at hidx
   cases hpx : p xs[i] with
   | true =>
    simp only [hpx, if_true] at hidx
    simp only [c114r5, hidx, go_sem]
   | false =>
    simp only [hpx, Bool.false_eq_true, if_false] at hidx
    simp only [c114r6, c114l7m, go_sem]
    refine ⟨inR_small (n := ((i : Int) + 1)) (by omega) (by omega), hI (xs.length - (i + 1)) _ (by omega) ⟨i + 1, rfl, by omega, by rw [hidx]; simp, by simp [intss]⟩⟩
  ·have hie : i = xs.length := by omega
   subst hie
   simp only [List.drop_length, idx] at hidx
   simp only [c114r8, hidx, go_sem, Int.reduceNeg]
theorem k106 {g : FuncId} {first caps : List SV} {xs : List (List Int)} {p : List Int -> Bool} (hg : Ok1 g first caps) (hp : ∀ x ∈ xs, Asks g first caps (ints x) (p x)) : E.Fn Try.prog 106 [intss xs, .fn g first caps] [.bool (xs.any p)] := by
 refine fn_of_row okf106 ?_
 simp only [FRow.start, f106, c106r0, c106r1, go_sem, Nat.reduceAdd, Nat.reduceSub]
 refine callK_of (by simp only [go_sem]) (k114 hg hp) (.inl rfl) ?_
 simp only [go_sem]
 have h : decide (0 <= idx p xs 0) = xs.any p := by
  have := idx_ge p xs 0
  simp only [Int.cast_ofNat_Int] at this
  rw [Bool.eq_iff_iff]
  simpa using this
 rw [h]
def nearL (cl : List (Int × Int)) (n : Nat) (key : Int) : List Int := fl (fun i => !decide ((i : Int) = key) && decide (pO i key ∈ cl)) n
theorem nearF_eq {cl : List (Int × Int)} {key : Int} : ∀ (m i : Nat), nearF cl key m i = (((List.range' i m).filter fun i : Nat => !decide ((i : Int) = key) && decide (pO i key ∈ cl)).map fun i : Nat => SV.int .i64 (i : Int))
 | 0, i => rfl
 | m + 1, i => by
  rw [nearF, nearF_eq m (i + 1), List.range'_succ, List.filter_cons]
  by_cases h : (i : Int) ≠ key /\ pO i key ∈ cl
  ·rw [if_pos h, if_pos (by simp [h.1, h.2])]; rfl
  ·rw [if_neg h, if_neg]
   intro h2
   simp only [Bool.and_eq_true, Bool.not_eq_true', decide_eq_false_iff_not, decide_eq_true_eq] at h2
   exact h h2
theorem nearF_near {cl : List (Int × Int)} {n : Nat} {key : Int} : nearF cl key n 0 = (nearL cl n key).map (SV.int .i64) := by
 rw [nearF_eq, nearL, fl, List.map_map, List.range_eq_range']
 rfl
def wayK (key : Int) (w : List Int) : List Int -> List (List Int) -> List Int ⊕ List (List Int)
 | [], nx => .inr nx
 | k :: ks, nx => if k = key /\ w.length % 2 = 1 then .inl w else wayK key w ks (if (nx.any fun x => decide (lastI x = k)) = true then nx else nx ++ [w ++ [k]])
def wayW (cl : List (Int × Int)) (n : Nat) (key : Int) : List (List Int) -> List (List Int) -> List Int ⊕ List (List Int)
 | [], nx => .inr nx
 | w :: ws, nx => match wayK key w (nearL cl n (lastI w)) nx with
  | .inl x => .inl x
  | .inr nx => wayW cl n key ws nx
def crc (cl : List (Int × Int)) (n : Nat) (key : Int) : Nat -> List (List Int) -> List Int
 | 0, _ => []
 | f + 1, ws => if ws = [] \/ n < (ws.headD []).length then [] else match wayW cl n key ws [] with
  | .inl x => x
  | .inr nx => crc cl n key f nx
set_option maxHeartbeats 4000000 in
theorem k81 {K Q : List (Int × Int)} {cl : List (Int × Int)} (hcl : cl.Nodup) (hk8 : K.length <= 8) {key : Int} :
  E.Fn Try.prog 81 [.ptr (bdC (kS K) (kS Q) cl), .int .i64 key] [ints (crc cl K.length key (K.length + 1) [[key]])] := by
 refine fn_of_brow okt81 ?_
 generalize hrs : crc cl K.length key (K.length + 1) [[key]] = rs
 simp only [BRow.start, t81, c81r0, c81r1, SV.cells, ldOK, go_sem, Nat.reduceAdd, Nat.reduceSub]
 refine ⟨by decide, by decide, rfl, one_int, by decide, by decide, rfl, by intro e he; rw [List.mem_singleton] at he; subst he; rfl, ?_⟩
 refine bloop_rule (fun m τ => ∃ (f L : Nat) (ws : List (List Int)), m = f /\ f + L = K.length + 2 /\ 1 <= L /\ (∀ w ∈ ws, w.length = L) /\ ws.length <= 8 ^ L /\ crc cl K.length key f ws = rs /\
  τ = ⟨[.s (.ptr (bdC (kS K) (kS Q) cl)), .any, .any, .s (.ptr [.int .i64 key]), .loc 0 0, .s (intss ws), .any, .any, .any, .any, .any, .any, .any, .any, .any, .any, .any, .any, .any, .any, .any, .any, .any, .any, .any, .any, .any, .any, .any, .any, .any, .any, .any, .any, .any, .any, .any, .any, .any, .any, .any, .any, .any, .any, .any, .any, .any, .any, .any, .any, .any, .any, .any, .any, .any, .any, .any, .any, .any, .any, .any, .any, .any, .any, .any, .any, .any, .any, .any, .any, .any, .any], [.obj [.full []]]⟩) (K.length + 1) rfl ?_ ?_
 ·simp only [c81l17m, go_sem, ↓reduceIte, reduceCtorEq, Nat.reduceLeDiff]
  exact ⟨K.length + 1, 1, [[key]], rfl, by omega, Nat.le_refl _, by simp, by simp, hrs, by simp [intss, ints]⟩
 ·rintro I f τ ⟨_, L, ws, rfl, hfL, hL1, hwL, hwl, hc, rfl⟩ hI
  have h8 : (8 : Nat) ^ L <= 8 ^ 10 := Nat.pow_le_pow_right (by decide) (by omega)
  have h8' : (8 : Nat) ^ 10 = 1073741824 := by decide
  simp only [c81l17, intss, go_sem]
  cases ws with
  | nil =>
   have hrs2 : rs = [] := by
    rw [<- hc]
    cases f with
    | zero => rfl
    | succ f => rw [crc, if_pos (.inl rfl)]
   subst hrs2
   simp only [c81r2, go_sem, ↓reduceIte, Int.reduceLT]
   intro _
   simp only [c81r18, finR, resK, splice, ints, go_sem]
  | cons w0 ws0 =>
   have h0 : (0 : Int) < ((ws0.length + 1 : Nat) : Int) := by omega
   have hw0 := hwL w0 (by simp)
   by_cases hL : K.length < L
   ·have hrs2 : rs = [] := by
     rw [<- hc]
     cases f with
     | zero => rfl
     | succ f => rw [crc, if_pos (.inr (by simpa [hw0] using hL))]
    have h1 : ¬ ((w0.length : Nat) : Int) <= K.length := by omega
    subst hrs2
    simp only [c81r2, ldOK, h0, bdC, kS, h1, go_sem, ↓reduceIte, Nat.reduceAdd, Nat.reduceLeDiff, Int.reduceToNat]
    intro _
    simp only [c81r18, finR, resK, splice, ints, go_sem]
   ·have h1 : ((w0.length : Nat) : Int) <= K.length := by omega
    obtain ⟨f', rfl⟩ : ∃ f', f = f' + 1 := ⟨f - 1, by omega⟩
    rw [crc, if_neg (by simp only [List.cons_ne_nil, List.headD_cons, hw0, false_or]; exact hL)] at hc
    have hnil : w0 :: ws0 ≠ [] := by simp
    have hws0 : ints w0 :: ws0.map ints = (w0 :: ws0).map ints := rfl
    have hwl0 : ws0.length + 1 = (w0 :: ws0).length := rfl
    simp only [c81r2, ldOK, h0, bdC, kS, h1, go_sem, Nat.reduceAdd, Nat.reduceLeDiff, Int.reduceToNat]
    intro _
    simp only [c81r3, c81r4, go_sem, Nat.reduceAdd]
    rw [hws0, hwl0]
    clear hws0 hw0 h0 h1
    generalize w0 :: ws0 = ws at *
    intro _
    generalize hR : wayW cl K.length key ws [] = R at hc
    refine bloop_rule (fun m τ => ∃ (i : Nat) (nx : List (List Int)), m = ws.length - i /\ i <= ws.length /\ (∀ x ∈ nx, x.length = L + 1) /\ nx.length <= 8 * i /\ wayW cl K.length key (ws.drop i) nx = R /\
     τ = ⟨[.s (.ptr (bdC (kS K) (kS Q) cl)), .any, .any, .s (.ptr [.int .i64 key]), .loc 0 0, .any, .loc 1 0, .any, .any, .any, .any, .any, .any, .any, .any, .any, .any, .any, .any, .any, .any, .any, .any, .any, .any, .any, .any, .any, .any, .s (intss ws), .s (.int .i64 ws.length), .s (.int .i64 i), .any, .any, .any, .any, .any, .any, .any, .any, .any, .any, .any, .any, .any, .any, .any, .any, .any, .any, .any, .any, .any, .any, .any, .any, .any, .any, .any, .any, .any, .any, .any, .any, .any, .any, .any, .any, .any, .any, .any, .any], [.obj [.full []], .obj [.sl 2 0 nx.length 1 false], .row (nx.map ints)]⟩) ws.length (promo_cell rfl rfl rfl) ?_ ?_
    ·simp only [c81l15m, go_sem, ↓reduceIte, reduceCtorEq, Nat.reduceAdd, Nat.reduceLeDiff]
     exact ⟨0, [], rfl, Nat.zero_le _, by simp, Nat.le_refl _, hR, rfl⟩
    ·rintro I2 m τ ⟨i, nx, rfl, hi, hnL, hnl, hc2, rfl⟩ hI2
     simp only [c81l15, c81r5, go_sem, ↓reduceIte, Nat.reduceAdd]
     refine ⟨fun hlt => ?_, fun hge => ?_⟩
     ·have hx : ws[i]? = some ws[i] := List.getElem?_eq_getElem hlt
      have hxm : ws[i] ∈ ws := List.getElem_mem _
      rw [List.drop_eq_getElem_cons hlt, wayW] at hc2
      generalize ws[i] = w at hx hxm hc2
      have hwl1 := hwL w hxm
      have e : ((w.length : Int) - 1) = ((w.length - 1 : Nat) : Int) := by omega
      have hg := getD_get (l := w) (i := w.length - 1) (by omega)
      simp only [c81r6, hx, intss, ints, c81r7, ldOK, ldOB, e, hg, splice, go_sem, Nat.reduceAdd]
      refine ⟨inR_small (by omega) (by omega), ?_⟩
      refine callK_of (by simp only [go_sem]) (k105 (d := .ptr (bdC (kS K) (kS Q) cl)) (key := .int .i64 (w.getD (w.length - 1) 0)) rfl rfl) (.inr (by simp only [go_sem])) ?_
      simp only [go_sem]
      intro _
      have hy := k113 (ks := K.map pr) (Q := kS Q) hcl (key := w.getD (w.length - 1) 0)
      rw [List.length_map, nearF_near] at hy
      have hnl8 : (nearL cl K.length (w.getD (w.length - 1) 0)).length <= 8 := Nat.le_trans fl_len hk8
      have hlast : lastI w = w.getD (w.length - 1) 0 := rfl
      rw [hlast] at hc2
      generalize nearL cl K.length (w.getD (w.length - 1) 0) = ks at hy hnl8 hc2
      generalize hT : wayK key w ks nx = T at hc2
      refine range_rule (fun vs H => ∃ (ks : List Int) (nx : List (List Int)), vs = ks.map (.int .i64) /\ (∀ x ∈ nx, x.length = L + 1) /\ nx.length + ks.length <= 8 * (i + 1) /\ wayK key w ks nx = T /\ H = [.obj [.full []], .obj [.sl 2 0 nx.length 1 false], .row (nx.map ints), .frz [ints w]]) rfl (by kernel_rfl) rfl hy (fun v hv => by obtain ⟨x, _, rfl⟩ := List.mem_map.1 hv; rfl) (Nat.zero_le _) ⟨ks, nx, rfl, hnL, by omega, hT, rfl⟩ rfl ?_ ?_
      ·rintro H ⟨ks, nx, h1, hnL, hnl, hT, rfl⟩
       have hz : ks = [] := by simpa using h1.symm
       subst hz
       rw [wayK] at hT
       subst hT
       simp only [c81r14, c81l15m, go_sem, ↓reduceIte, reduceCtorEq, Nat.reduceAdd, Nat.reduceSub, Nat.reduceLeDiff]
       exact ⟨inR_small (by omega) (by omega), hI2 (ws.length - (i + 1)) _ (by omega) ⟨i + 1, nx, rfl, by omega, hnL, by simpa using hnl, hc2, rfl⟩⟩
      ·rintro v vs H I3 ⟨ks, nx, h1, hnL, hnl, hT, rfl⟩ hI3
       cases ks with
       | nil => simp at h1
       | cons k ks =>
        simp only [List.map_cons, List.cons.injEq] at h1
        obtain ⟨rfl, rfl⟩ := h1
        rw [wayK] at hT
        rw [List.length_cons] at hnl
        have hask : ∀ x ∈ nx, Asks 107 [] [.ptr [.int .i64 k]] (ints x) (decide (lastI x = k)) := fun x hx => by
         have := hnL x hx
         exact k107 (fun e => by rw [e] at this; simp at this) (by omega)
        have h106 := k106 (g := 107) (first := []) (caps := [.ptr [.int .i64 k]]) (xs := nx) (p := fun x => decide (lastI x = k)) ⟨by kernel_rfl, by rfl⟩ hask
        simp only [c81b13a, c81r8, splice, c81b13, go_sem, ↓reduceIte, reduceCtorEq, Nat.reduceAdd, Nat.reduceSub, Nat.reduceLeDiff]
        by_cases h1 : k = key /\ w.length % 2 = 1
        ·obtain ⟨h1, h2⟩ := h1
         have h2' : (w.length : Int).tmod 2 = 1 := by rw [tmod2, h2]; rfl
         rw [if_pos ⟨h1, h2⟩] at hT
         subst hT
         subst hc2
         subst hc
         simp only [c81r9, ldOK, ldOB, h1, h2', go_sem, Nat.reduceAdd]
         refine ⟨by decide, ?_⟩
         intro _
         simp only [c81r10, ldOK, splice, finR, resK, ints, go_sem, ↓reduceIte, reduceCtorEq, Nat.reduceLeDiff]
        ·rw [if_neg h1] at hT
         have h12 : (k = key /\ ¬ (w.length : Int).tmod 2 = 1) \/ ¬ k = key := by
          by_cases h3 : k = key
          ·exact .inl ⟨h3, by rw [tmod2]; intro h; exact h1 ⟨h3, by omega⟩⟩
          ·exact .inr h3
         rcases h12 with ⟨h3, h4⟩ | h3
         case' inl =>
          simp only [c81r9, ldOK, ldOB, h3, h4, go_sem, Nat.reduceAdd]
          refine ⟨by decide, fun _ => ?_⟩
          rw [<- h3]
          simp only [c81r11, ldOK, ldOB, go_sem]
         case' inr => simp only [c81r9, ldOK, ldOB, h3, c81r11, go_sem, Nat.reduceAdd]
         all_goals
          refine callK_of (by simp only [sliceOf_all (len := nx.length) (cs := nx.map ints) (by simp), intss, go_sem]) h106 (.inl rfl) ?_
          cases hany : nx.any fun x => decide (lastI x = k) with
          | true =>
           rw [hany, if_pos rfl] at hT
           simp only [go_sem, ↓reduceIte, reduceCtorEq, Nat.reduceLeDiff]
           exact hI3 _ ⟨ks, nx, rfl, hnL, by omega, hT, rfl⟩
          | false =>
           rw [hany, if_neg (by simp)] at hT
           have htk : List.take (w.length - 0) (w.map (SV.int .i64)) = w.map (SV.int .i64) := List.take_of_length_le (by simp)
           have htk2 : w.map (SV.int .i64) ++ [SV.int .i64 k] = (w ++ [k]).map (SV.int .i64) := by rw [List.map_append]; rfl
           simp only [c81r12, ldOK, ldOB, ints, Nat.reduceBEq, Bool.false_eq_true, go_sem, ↓reduceIte, reduceCtorEq, Nat.reduceAdd]
           rw [htk, htk2]
           refine ⟨Nat.zero_le _, by decide, by decide, rfl, one_int, ⟨ints_one, one_int, ?_, ?_, by decide⟩, by decide, by decide, rfl, one_slice, one_slice, by omega, by omega, ?_⟩
           ·rw [List.length_map]; simp only [List.length_singleton]; omega
           ·rw [List.length_map]; simp only [List.length_singleton]; omega
           simp only [splice, flatE, go_sem, ↓reduceIte, reduceCtorEq, Nat.reduceLeDiff]
           intro _
           have := hI3 _ ⟨ks, nx ++ [w ++ [k]], rfl, fun x hx => by
            rcases List.mem_append.1 hx with hx | hx
            ·exact hnL x hx
            ·rw [List.mem_singleton] at hx; subst hx; rw [List.length_append, hwl1]; rfl, by rw [List.length_append, List.length_singleton]; omega, hT, rfl⟩
           simp only [List.map_append, List.length_append, List.map_cons, List.map_nil, List.length_cons, List.length_nil, ints] at this
           rw [<- htk2]
           exact this
     ·have hie : i = ws.length := by omega
      subst hie
      rw [List.drop_length, wayW] at hc2
      subst hc2
      simp only [c81r16, ldOK, ldOB, go_sem]
      refine ⟨_, rowOf_take (by simp), ?_⟩
      rw [show List.take nx.length (nx.map ints) = nx.map ints from List.take_of_length_le (by simp)]
      simp only [c81l17m, go_sem, ↓reduceIte, reduceCtorEq, Nat.reduceLeDiff]
      have h89 : 8 * 8 ^ L = 8 ^ (L + 1) := by rw [Nat.pow_succ]; omega
      exact hI f' _ (by omega) ⟨_, L + 1, nx, rfl, by omega, by omega, hnL, by omega, hc, rfl⟩
def crcs (cl : List (Int × Int)) (n : Nat) (m : Nat) : List (List Int) := ((List.range m).map fun i : Nat => crc cl n (i : Int) (n + 1) [[(i : Int)]]).filter fun c => decide (0 < c.length)
theorem crcs_succ {cl : List (Int × Int)} {n m : Nat} : crcs cl n (m + 1) = if 0 < (crc cl n (m : Int) (n + 1) [[(m : Int)]]).length then crcs cl n m ++ [crc cl n (m : Int) (n + 1) [[(m : Int)]]] else crcs cl n m := by
 unfold crcs
 rw [List.range_succ, List.map_append, List.filter_append]
 split
 ·rename_i h; simp [h]
 ·rename_i h; simp [h]
theorem crcs_len {cl : List (Int × Int)} {n m : Nat} : (crcs cl n m).length <= m := by
 unfold crcs
 exact Nat.le_trans (List.length_filter_le _ _) (by simp)
def shoB (x y : List Int) : Bool := decide (x.length < y.length)
def cirR (K Q : List (Int × Int)) : List SV := if ckB K Q = 0 then (match crcs (clsh K Q) K.length K.length with | [] => [.slice [], .int .i64 5] | c :: cs => [ints (bestF shoB c cs), .int .i64 0]) else [.slice [], .int .i64 (ckB K Q)]
set_option maxHeartbeats 1000000 in
theorem k36 {K Q : List (Int × Int)} : E.Fn Try.prog 36 [bk K Q] (cirR K Q) := by
 refine fn_of_row okf36 ?_
 have hb := k57 (K := K) (Q := Q)
 unfold cirR
 simp only [FRow.start, f36, c36r0, c36r1, bk, SV.cells, go_sem, Nat.reduceAdd, Nat.reduceSub]
 by_cases h0 : ckB K Q = 0
 ·rw [if_pos h0] at hb
  rw [if_pos h0]
  obtain ⟨hk1, hk8, _⟩ := ckB_zero h0
  refine callK_of (by simp only [bk, go_sem]) hb (.inr (by simp only [bk, go_sem])) ?_
  simp only [LV.ofResults, c36r2, c36r4, c36r5, kS, go_sem, Nat.reduceAdd, Nat.reduceLeDiff]
  intro _
  have h81 := fun key : Int => k81 (K := K) (Q := Q) (clsh_nodup (K := K) (Q := Q)) hk8 (key := key)
  have hbd : bd K Q = .ptr (bdC (kS K) (kS Q) (clsh K Q)) := rfl
  generalize hrs : (match crcs (clsh K Q) K.length K.length with | [] => [SV.slice [], .int .i64 5] | c :: cs => [ints (bestF shoB c cs), .int .i64 0]) = rs
  generalize clsh K Q = cl at *
  generalize hC : crcs cl K.length = C at *
  have hCs : ∀ m, C (m + 1) = if 0 < (crc cl K.length (m : Int) (K.length + 1) [[(m : Int)]]).length then C m ++ [crc cl K.length (m : Int) (K.length + 1) [[(m : Int)]]] else C m := fun m => by rw [<- hC]; exact crcs_succ
  have hCl : ∀ m, (C m).length <= m := fun m => by rw [<- hC]; exact crcs_len
  have hC0 : C 0 = [] := by rw [<- hC]; rfl
  refine loop_rule (fun m τ => ∃ i : Nat, m = K.length - i /\ i <= K.length /\
   τ = ⟨[.any, .any, .any, .any, .s (bd K Q), .any, .sl 0 0 (C i).length 1 false, .any, .any, .any, .any, .any, .any, .any, .any, .any, .any, .any, .any, .s (.int .i64 K.length), .s (.int .i64 i), .any, .any, .any, .any, .any, .any, .any, .any, .any, .any, .any, .any, .any, .any, .any, .any, .any, .any], [.row ((C i).map ints)]⟩) K.length (promo_one rfl) ?_ ?_
  ·simp only [c36l12m, go_sem, ↓reduceIte, reduceCtorEq, Nat.reduceLeDiff]
   exact ⟨0, rfl, Nat.zero_le _, by rw [hC0]; rfl⟩
  ·rintro I m τ ⟨i, rfl, hi, rfl⟩ hI
   have hCsi := hCs i
   have hCli := hCl i
   generalize hO : C i = O at *
   simp only [c36l12, c36r6, go_sem, ↓reduceIte]
   refine ⟨fun hlt => ?_, fun hge => ?_⟩
   ·have hin : inR .i64 ((i : Int) + 1) := inR_small (by omega) (by omega)
    have h := h81 (i : Int)
    generalize crc cl K.length (i : Int) (K.length + 1) [[(i : Int)]] = c at *
    have fin : ∀ y : List (List Int), C (i + 1) = y -> I ⟨[.any, .any, .any, .any, .s (bd K Q), .any, .sl 0 0 y.length 1 false, .any, .any, .any, .any, .any, .any, .any, .any, .any, .any, .any, .any, .s (.int .i64 K.length), .s (.int .i64 (i + 1)), .any, .any, .any, .any, .any, .any, .any, .any, .any, .any, .any, .any, .any, .any, .any, .any, .any, .any], [.row (y.map ints)]⟩ := fun y hy => by
     subst hy
     exact hI (K.length - (i + 1)) _ (by omega) ⟨i + 1, rfl, by omega, rfl⟩
    simp only [c36r7, c36r8, go_sem]
    rw [<- hbd] at h
    refine callK_of (by simp only [go_sem]) h (.inr (by simp only [go_sem])) ?_
    simp only [c36r9, go_sem]
    intro hcl
    refine ⟨fun h1 => ?_, fun h1 => ?_⟩
    ·rw [if_pos (by omega)] at hCsi
     have one_ints : ∀ e ∈ [ints c], e.cells.length = 1 := fun e he => by rw [List.mem_singleton] at he; subst he; rfl
     simp only [c36r10, flatE, go_sem, Nat.reduceAdd]
     refine ⟨by decide, by decide, rfl, one_ints, one_ints, by omega, by omega, ?_⟩
     have := fin _ hCsi
     simp only [c36r11, c36l12m, go_sem, ↓reduceIte, reduceCtorEq, Nat.reduceLeDiff]
     refine ⟨hin, ?_⟩
     simp only [List.map_append, List.length_append, List.map_cons, List.map_nil, List.length_cons, List.length_nil] at this
     exact this
    ·rw [if_neg (by omega)] at hCsi
     simp only [c36r11, c36l12m, go_sem, ↓reduceIte, reduceCtorEq, Nat.reduceLeDiff]
     exact ⟨hin, fin _ hCsi⟩
   ·have hie : i = K.length := by omega
    subst hie
    rw [hO] at hrs
    cases O with
    | nil =>
     subst hrs
     simp only [c36r13, Int.natCast_zero, go_sem]
     intro _
     simp only [c36r14, go_sem]
    | cons c cs =>
     have h1 : ¬ ((cs.length + 1 : Nat) : Int) = 0 := by omega
     subst hrs
     simp only [c36r13, h1, go_sem]
     intro _
     simp only [c36r15, go_sem]
     refine ⟨_, rowOf_take (by simp), ?_⟩
     rw [show List.take (cs.length + 1) (ints c :: cs.map ints) = (c :: cs).map ints from List.take_of_length_le (by simp)]
     refine callK_of (by simp only [intss, go_sem]) (k82 (g := 83) (first := []) (caps := []) (a := c) (xs := cs) (b := shoB) ⟨by kernel_rfl, by rfl⟩ (fun x y => k83)) (.inr (by simp only [intss, go_sem])) ?_
     simp only [go_sem]
 ·rw [if_neg h0] at hb
  rw [if_neg h0]
  refine callK_of (by simp only [bk, go_sem]) hb (.inr (by simp only [bk, go_sem])) ?_
  simp only [LV.ofResults, c36r2, h0, c36r3, go_sem]
end Go.Proofs.Ytmcjoahnlbckoaa.Sk

/- Contracts of functions: keys hung one after the other. -/
namespace Go.Proofs.Ytmcjoahnlbckoaa.Sk
open Go Go.E Go.E.Sm
set_option maxRecDepth 10000
def hkL (h : List Nat) : List SV := h.map (fun x : Nat => SV.int .i64 (x : Int)) ++ List.replicate (8 - h.length) (.int .i64 0)
theorem hkL_len {h : List Nat} (hl : h.length <= 8) : (hkL h).length = 8 := by
 unfold hkL
 rw [List.length_append, List.length_map, List.length_replicate]; omega
theorem hkL_get {h : List Nat} {i : Nat} (hi : i < 8) : (hkL h)[i]? = some (.int .i64 (h.getD i 0 : Nat)) := by
 unfold hkL
 rw [List.getElem?_append, List.length_map]
 split
 ·rename_i h1
  rw [List.getElem?_map, List.getD_eq_getElem?_getD, List.getElem?_eq_getElem h1]; rfl
 ·rename_i h1
  rw [List.getElem?_replicate, if_pos (by omega), List.getD_eq_getElem?_getD, List.getElem?_eq_none (by omega)]; rfl
theorem hkL_snoc {h : List Nat} {r : Nat} (hl : h.length < 8) : splice (hkL h) h.length [SV.int .i64 (r : Int)] = hkL (h ++ [r]) := by
 unfold hkL splice
 have e : 8 - h.length = (8 - (h ++ [r]).length) + 1 := by rw [List.length_append]; simp; omega
 rw [e, List.replicate_succ, List.map_append, List.take_left' (by simp)]
 rw [List.drop_append, List.drop_eq_nil_of_le (by simp)]
 simp
theorem hkL_nil : hkL [] = [.int .i64 0, .int .i64 0, .int .i64 0, .int .i64 0, .int .i64 0, .int .i64 0, .int .i64 0, .int .i64 0] := rfl
theorem hkL_ne {g : List Nat} (h0 : g ≠ []) (h1 : ∀ x ∈ g, 1 <= x) : hkL g ≠ hkL [] := by
 cases g with
 | nil => exact absurd rfl h0
 | cons x g =>
  rw [hkL_nil]
  intro e
  simp only [hkL, List.map_cons, List.cons_append, List.cons.injEq, SV.int.injEq, true_and] at e
  have := h1 x (by simp)
  omega
theorem hkL_tag {h : List Nat} (hl : h.length <= 8) : (hkL h).map SV.tag = [.int .i64, .int .i64, .int .i64, .int .i64, .int .i64, .int .i64, .int .i64, .int .i64] := by
 have : (hkL h).map SV.tag = List.replicate 8 (.int .i64) := by
  rw [List.eq_replicate_iff]
  refine ⟨by rw [List.length_map, hkL_len hl], fun b hb => ?_⟩
  obtain ⟨x, hx, rfl⟩ := List.mem_map.1 hb
  rcases List.mem_append.1 hx with hx | hx
  ·obtain ⟨y, _, rfl⟩ := List.mem_map.1 hx; rfl
  ·rw [List.mem_replicate] at hx; rw [hx.2]; rfl
 exact this
def okR (cl : List (Int × Int)) (n : Nat) (h : List Nat) (r : Nat) : Bool := !((nearL cl n (h.length : Int)).any fun i => decide (h.getD i.toNat 0 = r))
def nxt (cl : List (Int × Int)) (n most : Nat) : Nat -> List Nat -> Option (List Nat)
 | 0, h => some h
 | f + 1, h => (List.range' 1 most).findSome? fun r => if okR cl n h r then nxt cl n most f (h ++ [r]) else none
theorem nxt_some {cl : List (Int × Int)} {n most : Nat} : ∀ {f : Nat} {h g : List Nat}, nxt cl n most f h = some g -> (∀ x ∈ h, 1 <= x /\ x <= most) -> g.length = h.length + f /\ ∀ x ∈ g, 1 <= x /\ x <= most
 | 0, h, g, e, hh => by rw [nxt] at e; cases e; exact ⟨rfl, hh⟩
 | f + 1, h, g, e, hh => by
  rw [nxt] at e
  obtain ⟨r, hr, h2⟩ := List.exists_of_findSome?_eq_some e
  rw [List.mem_range'_1] at hr
  split at h2
  ·have := nxt_some h2 (fun x hx => by
    rcases List.mem_append.1 hx with hx | hx
    ·exact hh x hx
    ·rw [List.mem_singleton] at hx; omega)
   refine ⟨by rw [this.1, List.length_append]; simp; omega, this.2⟩
  ·cases h2
theorem splice_all {α : Type} {l xs : List α} (h : l.length <= xs.length) : splice l 0 xs = xs := by
 unfold splice
 rw [List.take_zero, Nat.zero_add, List.drop_eq_nil_of_le h]; simp
theorem splice_map {α β : Type} (g : α -> β) {l xs : List α} {o : Nat} : splice (l.map g) o (xs.map g) = (splice l o xs).map g := by
 unfold splice
 simp [List.map_take, List.map_drop]
def hkO : Option (List Nat) -> List SV
 | some g => hkL g
 | none => hkL []
@[go_sem] theorem agg_hk {h : List Nat} : (SV.agg (hkL h)).isAgg = true := rfl
set_option maxHeartbeats 4000000 in
theorem k98 {K Q : List (Int × Int)} {cl : List (Int × Int)} (hcl : cl.Nodup) (hk8 : K.length <= 8) {most : Nat} (hm : most <= 8) : ∀ (f : Nat) (h : List Nat), h.length + f = K.length -> (∀ x ∈ h, 1 <= x /\ x <= most) -> 0 < K.length ->
  E.Fn Try.prog 98 [.ptr (bdC (kS K) (kS Q) cl), .agg (hkL h), .int .i64 (h.length : Nat), .int .i64 most] [.agg (hkO (nxt cl K.length most f h))] := by
 intro f
 induction f with
 | zero =>
  intro h hl hh h0
  refine fn_of_brow okt98 ?_
  have hll := hkL_len (h := h) (by omega)
  have hle : h.length = K.length := by omega
  simp only [BRow.start, t98, c98r0, c98r1, SV.cells, bdC, kS, hle, go_sem, Nat.reduceAdd, Nat.reduceSub, Nat.reduceLeDiff]
  intro _
  have ht : List.take 8 (hkL h) = hkL h := List.take_of_length_le (by omega)
  have hsp : splice [LV.s (.int .i64 0), .s (.int .i64 0), .s (.int .i64 0), .s (.int .i64 0), .s (.int .i64 0), .s (.int .i64 0), .s (.int .i64 0), .s (.int .i64 0)] 0 ((hkL h).map .s) = (hkL h).map .s := splice_all (by simp [hll])
  have ht2 : List.take 8 ((hkL h).map LV.s) = (hkL h).map .s := List.take_of_length_le (by simp [hll])
  simp only [c98r2, ht, hsp, ht2, hll, nxt, hkO, go_sem, Nat.reduceAdd]
 | succ f ih =>
  intro h hl hh h0
  refine fn_of_brow okt98 ?_
  have hll := hkL_len (h := h) (by omega)
  generalize hrs : nxt cl K.length most (f + 1) h = rs
  rw [nxt] at hrs
  have hle : ¬ (h.length : Int) = K.length := by omega
  simp only [BRow.start, t98, c98r0, c98r1, SV.cells, bdC, kS, hle, go_sem, Nat.reduceAdd, Nat.reduceSub, Nat.reduceLeDiff]
  intro _
  simp only [c98r3, splice, go_sem, Nat.reduceAdd]
  generalize hF : (fun r => if okR cl K.length h r then nxt cl K.length most f (h ++ [r]) else none) = F at hrs
  have hF' : ∀ r, F r = if okR cl K.length h r then nxt cl K.length most f (h ++ [r]) else none := fun r => by rw [<- hF]
  refine bloop_rule (fun m τ => ∃ r : Nat, m = most + 1 - r /\ 1 <= r /\ r <= most + 1 /\ (List.range' r (most + 1 - r)).findSome? F = rs /\
   τ = ⟨[.s (.ptr (bdC (kS K) (kS Q) cl)), .any, .s (.int .i64 h.length), .s (.int .i64 most), .any, .s (.ptr (hkL h)), .any, .any, .loc 0 0, .loc 1 0, .any, .any, .any, .any, .any, .any, .any, .any, .any, .any, .any, .any, .any, .any, .any, .any, .any, .any, .any, .any, .any, .any, .any, .any, .any, .any, .any, .any, .any, .any, .any, .any, .any, .any, .any, .any, .any, .any, .any, .any, .any], [.obj ((hkL []).map .s), .obj [.s (.int .i64 r)]]⟩) most rfl ?_ ?_
  ·simp only [c98l17m, go_sem, ↓reduceIte, reduceCtorEq, Nat.reduceAdd, Nat.reduceLeDiff]
   exact ⟨1, rfl, Nat.le_refl _, by omega, by rw [Nat.add_sub_cancel]; exact hrs, rfl⟩
  ·rintro I m τ ⟨r, rfl, hr1, hr, hc, rfl⟩ hI
   simp only [c98l17, c98r4, go_sem, ↓reduceIte, Nat.reduceAdd]
   refine ⟨fun hlt => ?_, fun hge => ?_⟩
   ·rw [show most + 1 - r = (most + 1 - (r + 1)) + 1 by omega, List.range'_succ, List.findSome?_cons, hF'] at hc
    have hin : inR .i64 ((r : Int) + 1) := inR_small (by omega) (by omega)
    have goNext : (List.range' (r + 1) (most + 1 - (r + 1))).findSome? F = rs -> I ⟨[.s (.ptr (bdC (kS K) (kS Q) cl)), .any, .s (.int .i64 h.length), .s (.int .i64 most), .any, .s (.ptr (hkL h)), .any, .any, .loc 0 0, .loc 1 0, .any, .any, .any, .any, .any, .any, .any, .any, .any, .any, .any, .any, .any, .any, .any, .any, .any, .any, .any, .any, .any, .any, .any, .any, .any, .any, .any, .any, .any, .any, .any, .any, .any, .any, .any, .any, .any, .any, .any, .any, .any], [.obj ((hkL []).map .s), .obj [.s (.int .i64 ((r : Int) + 1))]]⟩ := fun h =>
     hI (most + 1 - (r + 1)) _ (by omega) ⟨r + 1, rfl, by omega, by omega, h, rfl⟩
    have hy := k113 (ks := K.map pr) (Q := kS Q) hcl (key := (h.length : Int))
    rw [List.length_map, nearF_near] at hy
    have hmem : ∀ k ∈ nearL cl K.length (h.length : Int), 0 <= k /\ k < 8 := fun k hk => by
     obtain ⟨i, h1, _, rfl⟩ := mem_fl.1 hk
     omega
    have hok : okR cl K.length h r = !((nearL cl K.length (h.length : Int)).any fun i => decide (h.getD i.toNat 0 = r)) := rfl
    simp only [c98r5, go_sem]
    refine callK_of (by simp only [go_sem]) (k105 (d := .ptr (bdC (kS K) (kS Q) cl)) (key := .int .i64 (h.length : Int)) rfl rfl) (.inr (by simp only [go_sem])) ?_
    simp only [go_sem]
    generalize nearL cl K.length (h.length : Int) = ks at hy hmem hok
    refine range_rule (fun vs H => ∃ ks : List Int, vs = ks.map (.int .i64) /\ (∀ k ∈ ks, 0 <= k /\ k < 8) /\ okR cl K.length h r = !(ks.any fun i => decide (h.getD i.toNat 0 = r)) /\ H = [.obj ((hkL []).map .s), .obj [.s (.int .i64 r)]]) rfl (by kernel_rfl) rfl hy (fun v hv => by obtain ⟨x, _, rfl⟩ := List.mem_map.1 hv; rfl) (Nat.zero_le _) ⟨ks, rfl, hmem, hok, rfl⟩ rfl ?_ ?_
    ·rintro H ⟨ks, h1, hmem, hok, rfl⟩
     have hz : ks = [] := by simpa using h1.symm
     subst hz
     rw [show okR cl K.length h r = true from hok, if_pos rfl] at hc
     have ht : List.take 8 (hkL h) = hkL h := List.take_of_length_le (by omega)
     have hsp : splice [LV.s (.int .i64 0), .s (.int .i64 0), .s (.int .i64 0), .s (.int .i64 0), .s (.int .i64 0), .s (.int .i64 0), .s (.int .i64 0), .s (.int .i64 0)] 0 ((hkL h).map .s) = (hkL h).map .s := splice_all (by simp [hll])
     have hsn := hkL_snoc (h := h) (r := r) (by omega)
     have hsn2 : splice ((hkL h).map LV.s) h.length [LV.s (SV.int .i64 (r : Int))] = (hkL (h ++ [r])).map .s := by
      rw [<- hsn]; exact splice_map (g := LV.s) (xs := [SV.int .i64 (r : Int)])
     have hll2 := hkL_len (h := h ++ [r]) (by rw [List.length_append]; simp; omega)
     have ht2 : List.take 8 ((hkL (h ++ [r])).map LV.s) = (hkL (h ++ [r])).map .s := List.take_of_length_le (by simp [hll2])
     have h98 := ih (h ++ [r]) (by rw [List.length_append]; simp; omega) (fun x hx => by
      rcases List.mem_append.1 hx with hx | hx
      ·exact hh x hx
      ·rw [List.mem_singleton] at hx; omega) h0
     have hsome := fun g hg => nxt_some (cl := cl) (n := K.length) (most := most) (f := f) (h := h ++ [r]) (g := g) hg (fun x hx => by
      rcases List.mem_append.1 hx with hx | hx
      ·exact hh x hx
      ·rw [List.mem_singleton] at hx; omega)
     rw [show ((h ++ [r]).length : Int) = (h.length : Int) + 1 by rw [List.length_append]; rfl] at h98
     simp only [c98r9, hll, ht, hsp, c98r10, hsn2, Nat.zero_add, go_sem, ↓reduceIte, reduceCtorEq, Nat.reduceAdd, Nat.reduceSub, Nat.reduceLeDiff]
     refine ⟨by omega, by omega, by first | omega | simp [hll2], ?_⟩
     generalize nxt cl K.length most f (h ++ [r]) = nx at *
     simp only [ht2, go_sem, ↓reduceIte, reduceCtorEq]
     refine ⟨inR_small (by omega) (by omega), ?_⟩
     refine callK_of (by simp only [bdC, kS, go_sem]) h98 (.inr (by simp only [bdC, kS, go_sem])) ?_
     cases nx with
     | some g =>
      obtain ⟨hgl, hgm⟩ := hsome g rfl
      rw [List.length_append, List.length_singleton] at hgl
      have hgl8 := hkL_len (h := g) (by omega)
      have htg := hkL_tag (h := g) (by omega)
      have hne := hkL_ne (g := g) (fun e => by rw [e, List.length_nil] at hgl; omega) (fun x hx => (hgm x hx).1)
      rw [hkL_nil] at hne
      have hc : some g = rs := hc
      subst hc
      have hsp2 : splice ((hkL (h ++ [r])).map LV.s) 0 ((hkL g).map .s) = (hkL g).map .s := splice_all (by simp [hgl8, hll2])
      have ht3 : List.take 8 ((hkL g).map LV.s) = (hkL g).map .s := List.take_of_length_le (by simp [hgl8])
      simp only [hkO, hgl8, hll2, hsp2, c98r12, ht3, go_sem, Nat.reduceAdd]
      refine ⟨htg, fun e => absurd (by simpa using e) hne, fun _ => ?_⟩
      have hsp3 : splice ((hkL []).map LV.s) 0 ((hkL g).map .s) = (hkL g).map .s := splice_all (by simp [hgl8, hkL_len])
      have hl0 := hkL_len (h := []) (by simp)
      simp only [c98r13, ht3, hgl8, hl0, hsp3, go_sem]
      done
     | none =>
      have hc : (List.range' (r + 1) (most + 1 - (r + 1))).findSome? F = rs := hc
      have hl0 := hkL_len (h := []) (by simp)
      have hsp2 : splice ((hkL (h ++ [r])).map LV.s) 0 ((hkL []).map .s) = (hkL []).map .s := splice_all (by simp [hl0, hll2])
      have ht3 : List.take 8 ((hkL []).map LV.s) = (hkL []).map .s := List.take_of_length_le (by simp [hl0])
      simp only [hkO, hl0, hll2, hsp2, c98r12, ht3, go_sem, Nat.reduceAdd]
      refine ⟨hkL_tag (by simp), fun _ => ?_, fun e => absurd rfl e⟩
      simp only [c98r14, splice, c98r15, Nat.reduceBEq, Bool.false_eq_true, Bool.or_false, Bool.or_true, BEq.rfl, c98r16, go_sem, ↓reduceIte, Nat.reduceAdd, Nat.reduceLT]
      exact ⟨hin, goNext hc⟩
    ·rintro v vs H I3 ⟨ks, h1, hmem, hok, rfl⟩ hI3
     cases ks with
     | nil => simp at h1
     | cons k ks =>
      simp only [List.map_cons, List.cons.injEq] at h1
      obtain ⟨rfl, rfl⟩ := h1
      have hk := hmem k (by simp)
      rw [List.any_cons] at hok
      have hg := hkL_get (h := h) (i := k.toNat) (by omega)
      simp only [c98b8a, c98r6, c98b8, c98r7, hll, hg, List.getElem?_drop, Nat.add_zero, Nat.reduceEqDiff, go_sem, ↓reduceIte, reduceCtorEq, Nat.reduceAdd, Nat.reduceSub, Nat.reduceLeDiff]
      refine ⟨hk.1, hk.2, by omega, fun h5 => ?_, fun h5 => ?_⟩
      ·have h5' : h.getD k.toNat 0 = r := by omega
       have hno : okR cl K.length h r = false := by rw [hok, decide_eq_true h5']; rfl
       rw [hno, if_neg (by simp)] at hc
       simp only [c98r14, splice, c98r15, Nat.reduceBEq, Bool.false_eq_true, Bool.or_false, Bool.or_true, BEq.rfl, c98r16, go_sem, ↓reduceIte, Nat.reduceAdd, Nat.reduceLT]
       exact ⟨hin, goNext hc⟩
      ·have h5' : ¬ h.getD k.toNat 0 = r := by omega
       exact hI3 _ ⟨ks, rfl, fun k hk => hmem k (by simp [hk]), by rw [hok, decide_eq_false h5', Bool.false_or], rfl⟩
   ·rw [show most + 1 - r = 0 by omega] at hc
    have hc : rs = none := hc.symm
    subst hc
    simp only [c98r18, splice, go_sem, Nat.reduceAdd, Nat.reduceLeDiff]
    exact ⟨by rw [hkL_len (by simp)]; exact Nat.le_refl _, rfl⟩
end Go.Proofs.Ytmcjoahnlbckoaa.Sk

/- Contracts of functions: the fewest rings. -/
namespace Go.Proofs.Ytmcjoahnlbckoaa.Sk
open Go Go.E Go.E.Sm
set_option maxRecDepth 10000
theorem findSome_none {α β : Type} {F : α -> Option β} {l : List α} (h : l.findSome? F = none) : ∀ x ∈ l, F x = none := by
 intro x hx
 exact List.findSome?_eq_none_iff.1 h x hx
theorem nxt_full {cl : List (Int × Int)} {n most : Nat} (hm : n <= most) : ∀ (f : Nat) (h : List Nat), h.length + f = n -> (∀ x ∈ h, x <= h.length) -> nxt cl n most f h ≠ none
 | 0, h, _, _ => by simp [nxt]
 | f + 1, h, hl, hh => by
  intro e
  rw [nxt] at e
  have h1 := findSome_none e (h.length + 1) (by rw [List.mem_range'_1]; omega)
  rw [if_pos] at h1
  ·refine nxt_full hm f (h ++ [h.length + 1]) (by rw [List.length_append]; simp; omega) (fun x hx => ?_) h1
   rw [List.length_append, List.length_singleton]
   rcases List.mem_append.1 hx with hx | hx
   ·have := hh x hx; omega
   ·rw [List.mem_singleton] at hx; omega
  ·unfold okR
   rw [Bool.not_eq_true', List.any_eq_false]
   intro i _
   simp only [decide_eq_true_eq]
   intro e2
   by_cases hi : i.toNat < h.length
   ·have hx : h.getD i.toNat 0 ∈ h := by rw [List.getD_eq_getElem?_getD, List.getElem?_eq_getElem hi]; exact List.getElem_mem hi
    have := hh _ hx
    omega
   ·rw [List.getD_eq_getElem?_getD, List.getElem?_eq_none (by omega)] at e2
    simp at e2
def hangF (cl : List (Int × Int)) (n : Nat) : Nat -> Nat -> List Nat
 | 0, _ => []
 | f + 1, most => match nxt cl n most n [] with
  | some g => g
  | none => hangF cl n f (most + 1)
def rngs (cl : List (Int × Int)) (n : Nat) : List Int := (hangF cl n n 1).map fun x : Nat => (x : Int) - 1
theorem hangF_spec {cl : List (Int × Int)} {n : Nat} : ∀ (f most : Nat), most + f = n + 1 -> 1 <= f -> ∃ m, most <= m /\ m <= n /\ nxt cl n m n [] = some (hangF cl n f most) /\ ∀ m', most <= m' -> m' < m -> nxt cl n m' n [] = none
 | 0, _, _, h => absurd h (by decide)
 | f + 1, most, h, _ => by
  rw [hangF]
  cases hx : nxt cl n most n [] with
  | some g => exact ⟨most, Nat.le_refl _, by omega, hx, fun m' h1 h2 => absurd h2 (by omega)⟩
  | none =>
   have hmn : most < n := by
    rcases Nat.lt_or_ge most n with h1 | h1
    ·exact h1
    ·exact absurd hx (nxt_full h1 n [] (by simp) (by simp))
   obtain ⟨m, h1, h2, h3, h4⟩ := hangF_spec (cl := cl) (n := n) f (most + 1) (by omega) (by omega)
   refine ⟨m, by omega, h2, h3, fun m' h5 h6 => ?_⟩
   by_cases e : m' = most
   ·rw [e]; exact hx
   ·exact h4 m' (by omega) h6
theorem hangF_len {cl : List (Int × Int)} {n : Nat} (h : 1 <= n) : (hangF cl n n 1).length = n /\ ∀ x ∈ hangF cl n n 1, 1 <= x /\ x <= n := by
 obtain ⟨m, h1, h2, h3, _⟩ := hangF_spec (cl := cl) (n := n) n 1 (by omega) h
 have := nxt_some h3 (by simp)
 refine ⟨by simpa using this.1, fun x hx => ?_⟩
 have := this.2 x hx
 omega
theorem rngs_len {cl : List (Int × Int)} {n : Nat} (h : 1 <= n) : (rngs cl n).length = n := by
 unfold rngs
 rw [List.length_map]; exact (hangF_len h).1
theorem rngs_mem {cl : List (Int × Int)} {n : Nat} (h : 1 <= n) {x : Int} (hx : x ∈ rngs cl n) : 0 <= x /\ x < n := by
 unfold rngs at hx
 obtain ⟨y, hy, rfl⟩ := List.mem_map.1 hx
 have := (hangF_len h).2 y hy
 omega
def wnF (g : List Nat) (n i : Nat) : List Int := ((g.take i).map fun x : Nat => (x : Int) - 1) ++ List.replicate (n - i) 0
theorem wnF_len {g : List Nat} {n i : Nat} (hg : g.length = n) (hi : i <= n) : (wnF g n i).length = n := by
 unfold wnF
 rw [List.length_append, List.length_map, List.length_take, List.length_replicate]; omega
theorem wnF_all {g : List Nat} {n : Nat} (hg : g.length = n) : wnF g n n = g.map fun x : Nat => (x : Int) - 1 := by
 unfold wnF
 rw [List.take_of_length_le (by omega), Nat.sub_self]; simp
theorem wnF_succ {g : List Nat} {n i : Nat} (hg : g.length = n) (hi : i < n) : splice ((wnF g n i).map (SV.int .i64)) i [SV.int .i64 (((g.getD i 0 : Nat) : Int) - 1)] = (wnF g n (i + 1)).map (SV.int .i64) := by
 have h1 : ((g.take i).map fun x : Nat => (x : Int) - 1).length = i := by rw [List.length_map, List.length_take]; omega
 have hx : g[i]? = some (g.getD i 0) := by rw [List.getD_eq_getElem?_getD, List.getElem?_eq_getElem (by omega)]; rfl
 have e : n - i = (n - (i + 1)) + 1 := by omega
 rw [show [SV.int .i64 (((g.getD i 0 : Nat) : Int) - 1)] = [((g.getD i 0 : Nat) : Int) - 1].map (SV.int .i64) from rfl, splice_map]
 congr 1
 unfold wnF splice
 rw [List.take_left' h1, List.drop_append, List.drop_eq_nil_of_le (by rw [h1]; simp), h1, e, List.replicate_succ, List.take_succ, hx, List.map_append]
 simp
set_option maxHeartbeats 4000000 in
theorem k74 {K Q : List (Int × Int)} {cl : List (Int × Int)} (hcl : cl.Nodup) (hk1 : 1 <= K.length) (hk8 : K.length <= 8) : E.Fn Try.prog 74 [.ptr (bdC (kS K) (kS Q) cl)] [ints (rngs cl K.length)] := by
 refine fn_of_row okf74 ?_
 unfold rngs
 generalize hrs : hangF cl K.length K.length 1 = rs
 simp only [FRow.start, f74, c74r0, c74r1, go_sem, Nat.reduceSub]
 refine loop_rule (fun m τ => ∃ f most : Nat, m = f /\ most + f = K.length + 1 /\ 1 <= most /\ 1 <= f /\ hangF cl K.length f most = rs /\
  τ = ⟨[.s (.ptr (bdC (kS K) (kS Q) cl)), .any, .any, .s (.int .i64 most), .any, .any, .any, .any, .any, .any, .any, .any, .any, .any, .any, .any, .any, .any, .any, .any, .any, .any, .any, .any, .any, .any, .any, .any, .any, .any, .any, .any, .any, .any, .any, .any, .any, .any], []⟩) K.length rfl ?_ ?_
 ·simp only [c74l15m, go_sem]
  exact ⟨K.length, 1, rfl, by omega, by omega, by omega, hrs, rfl⟩
 ·rintro I f τ ⟨_, most, rfl, hmf, hm1, hf1, hc, rfl⟩ hI
  have hl0 := hkL_len (h := []) (by simp)
  obtain ⟨f, rfl⟩ : ∃ f', f = f' + 1 := ⟨f - 1, by omega⟩
  rw [hangF] at hc
  have h98 := k98 (K := K) (Q := Q) hcl hk8 (most := most) (by omega) K.length [] (by simp) (by simp) (by omega)
  have hsome := fun g hg => nxt_some (cl := cl) (n := K.length) (most := most) (f := K.length) (h := []) (g := g) hg (by simp)
  have hnn : nxt cl K.length most K.length [] = none -> 1 <= f := fun e => by
   rcases Nat.lt_or_ge most K.length with h1 | h1
   ·omega
   ·exact absurd e (nxt_full h1 K.length [] (by simp) (by simp))
  generalize nxt cl K.length most K.length [] = nx at *
  have ht0 : List.take 8 ((hkL []).map LV.s) = (hkL []).map .s := List.take_of_length_le (by simp [hl0])
  simp only [c74l15, c74r2, c74r3, splice, c74r4, go_sem, Nat.reduceAdd, Nat.reduceSub, Nat.reduceLT, Nat.reduceLeDiff]
  refine ⟨by decide, callK_of (by simp only [hkL_nil, List.length_nil, Int.natCast_zero, go_sem]) h98 (.inr (by simp only [hkL_nil, List.length_nil, Int.natCast_zero, go_sem])) ?_⟩
  cases nx with
  | none =>
   have hc : hangF cl K.length f (most + 1) = rs := hc
   simp only [hkO, hkL_nil, splice, c74r5, c74r14, c74l15m, go_sem, Nat.reduceAdd]
   have := hnn rfl
   exact ⟨inR_small (by omega) (by omega), hI f _ (by omega) ⟨_, most + 1, rfl, by omega, by omega, by omega, hc, rfl⟩⟩
  | some g =>
   obtain ⟨hgl, hgm⟩ := hsome g rfl
   rw [List.length_nil, Nat.zero_add] at hgl
   have hc : g = rs := hc
   subst hc
   have hgl8 := hkL_len (h := g) (by omega)
   have htg := hkL_tag (h := g) (by omega)
   have hne := hkL_ne (g := g) (fun e => by rw [e, List.length_nil] at hgl; omega) (fun x hx => (hgm x hx).1)
   rw [hkL_nil] at hne
   have hsp2 : splice [LV.s (.int .i64 0), .s (.int .i64 0), .s (.int .i64 0), .s (.int .i64 0), .s (.int .i64 0), .s (.int .i64 0), .s (.int .i64 0), .s (.int .i64 0)] 0 ((hkL g).map .s) = (hkL g).map .s := splice_all (by simp [hgl8])
   have ht3 : List.take 8 ((hkL g).map LV.s) = (hkL g).map .s := List.take_of_length_le (by simp [hgl8])
   simp only [hkO, hgl8, hsp2, c74r5, ht3, go_sem, Nat.reduceAdd]
   refine ⟨htg, fun e => absurd (by simpa using e) hne, fun _ => ?_⟩
   simp only [c74r6, bdC, kS, go_sem, Nat.reduceAdd, Nat.reduceLT, Nat.reduceLeDiff]
   refine ⟨by omega, by omega, fun _ => ?_⟩
   rw [List.flatten_replicate_singleton]
   simp only [c74r7, go_sem]
   have hw0 : List.replicate K.length (SV.int .i64 0) = (wnF g K.length 0).map (SV.int .i64) := by simp [wnF]
   rw [hw0]
   intro _
   refine loop_rule (fun m τ => ∃ i : Nat, m = K.length - i /\ i <= K.length /\
    τ = ⟨[.any, .any, .any, .any, .loc 0 0, .sl 1 0 K.length 1 true, .any, .any, .any, .any, .any, .any, .any, .any, .any, .any, .any, .any, .any, .any, .any, .any, .any, .any, .any, .s (.int .i64 K.length), .s (.int .i64 i), .any, .any, .any, .any, .any, .any, .any, .any, .any, .any, .any], [.obj ((hkL g).map .s), .row ((wnF g K.length i).map (SV.int .i64))]⟩) K.length rfl ?_ ?_
   ·simp only [c74l12m, go_sem, ↓reduceIte, reduceCtorEq, Nat.reduceAdd, Nat.reduceLeDiff]
    exact ⟨0, rfl, Nat.zero_le _, rfl⟩
   ·rintro I2 m τ ⟨i, rfl, hi, rfl⟩ hI2
    have hwl := wnF_len (g := g) (n := K.length) (i := i) hgl hi
    simp only [c74l12, c74r8, go_sem, ↓reduceIte, Nat.reduceAdd]
    refine ⟨fun hlt => ?_, fun hge => ?_⟩
    ·have hws := wnF_succ (g := g) (n := K.length) (i := i) hgl hlt
     have hg := hkL_get (h := g) (i := i) (by omega)
     have hgi := hgm (g.getD i 0) (by rw [List.getD_eq_getElem?_getD, List.getElem?_eq_getElem (by omega)]; exact List.getElem_mem _)
     generalize wnF g K.length i = W at *
     simp only [c74r9, c74r10, hg, Nat.zero_add, go_sem, Nat.reduceAdd]
     refine ⟨by omega, inR_small (by omega) (by omega), by omega, by rw [hwl]; omega, ?_⟩
     rw [hws]
     simp only [c74r11, c74l12m, go_sem, ↓reduceIte, reduceCtorEq, Nat.reduceLeDiff]
     exact ⟨inR_small (by omega) (by omega), hI2 (K.length - (i + 1)) _ (by omega) ⟨i + 1, rfl, by omega, rfl⟩⟩
    ·have hie : i = K.length := by omega
     subst hie
     have hwe := wnF_all (g := g) (n := K.length) hgl
     rw [hwe] at hwl
     rw [hwe]
     simp only [c74r13, go_sem]
     refine exO_of (slice_all (by simp [hgl])) ?_
     rfl
end Go.Proofs.Ytmcjoahnlbckoaa.Sk

/- Contracts of functions: how few rings are enough, and the first ones. -/
namespace Go.Proofs.Ytmcjoahnlbckoaa.Sk
open Go Go.E Go.E.Sm
set_option maxRecDepth 10000
def mxF : Int -> List Int -> Int
 | m, [] => m
 | m, x :: xs => mxF (max m x) xs
def mxL (l : List Int) : Int := mxF (l.headD 0) l.tail
theorem k73 {l : List Int} (hne : l ≠ []) : E.Fn Try.prog 73 [ints l] [.int .i64 (mxL l)] := by
 refine fn_of_row okf73 ?_
 generalize hrs : mxL l = rs
 unfold mxL at hrs
 have h0 : 0 < l.length := List.length_pos_iff.2 hne
 have h1 : ¬ (l.length : Int) < 1 := by omega
 have hx0 : l[0]? = some (l.headD 0) := by
  cases l with
  | nil => exact absurd rfl hne
  | cons x l => rfl
 have ht : l.tail = l.drop 1 := by cases l <;> rfl
 rw [ht] at hrs
 simp only [FRow.start, f73, c73r0, c73r1, ints, h1, go_sem, Nat.reduceSub]
 intro hlen
 have hlen' : (l.length : Int) <= 2 ^ 63 - 1 := Int.le_trans (Int.ofNat_le.mpr hlen) maxLen_le
 simp only [c73r3, hx0, c73r4, go_sem, Int.reduceToNat]
 refine loop_rule (fun m τ => ∃ (i : Nat) (o : Int), m = l.length - i /\ 1 <= i /\ i <= l.length /\ mxF o (l.drop i) = rs /\
  τ = ⟨[.s (ints l), .any, .any, .s (.int .i64 o), .s (.int .i64 i), .any, .any, .any, .any, .any, .any, .any, .any, .any, .any, .any, .any, .any, .any, .any, .any, .any, .any, .any, .any], []⟩) (l.length - 1) rfl ?_ ?_
 ·simp only [c73l8m, go_sem]
  exact ⟨1, l.headD 0, rfl, Nat.le_refl _, h0, hrs, rfl⟩
 ·rintro I m τ ⟨i, o, rfl, hi1, hi, hc, rfl⟩ hI
  simp only [c73l8, c73r5, ints, go_sem, ↓reduceIte]
  intro _
  refine ⟨fun hlt => ?_, fun hge => ?_⟩
  ·have hlt : i < l.length := by omega
   have hx : l[i]? = some l[i] := List.getElem?_eq_getElem hlt
   rw [List.drop_eq_getElem_cons hlt, mxF] at hc
   generalize l[i] = x at hx hc
   have hm : (if x > o then x else o) = max o x := by omega
   simp only [c73r6, hx, maxL, List.foldl_cons, List.foldl_nil, hm, List.cons_ne_nil, c73r7, c73l8m, go_sem]
   exact ⟨inR_small (by omega) (by omega), hI (l.length - (i + 1)) _ (by omega) ⟨i + 1, max o x, rfl, by omega, by omega, hc, rfl⟩⟩
  ·have hie : i = l.length := by omega
   subst hie
   rw [List.drop_length, mxF] at hc
   subst hc
   simp only [c73r9, go_sem]
theorem mxF_mem : ∀ (l : List Int) (o : Int), mxF o l = o \/ mxF o l ∈ l
 | [], o => .inl rfl
 | x :: l, o => by
  rw [mxF]
  rcases mxF_mem l (max o x) with h | h
  ·rw [h]
   by_cases h2 : o <= x
   ·right; rw [show max o x = x by omega]; simp
   ·left; omega
  ·exact .inr (by simp [h])
theorem mxL_mem {l : List Int} (h : l ≠ []) : mxL l ∈ l := by
 cases l with
 | nil => exact absurd rfl h
 | cons x l =>
  unfold mxL
  simp only [List.headD_cons, List.tail_cons]
  rcases mxF_mem l x with h | h
  ·rw [h]; simp
  ·simp [h]
def fewN (cl : List (Int × Int)) (n : Nat) : Int := 1 + mxL (rngs cl n)
def fewR (K Q : List (Int × Int)) : Int × Int := if ckB K Q = 0 then (fewN (clsh K Q) K.length, 0) else (0, ckB K Q)
theorem rngs_ne {cl : List (Int × Int)} {n : Nat} (h : 1 <= n) : rngs cl n ≠ [] := fun e => by
 have := rngs_len (cl := cl) h
 rw [e] at this
 simp at this; omega
theorem fewN_rng {cl : List (Int × Int)} {n : Nat} (h : 1 <= n) : 1 <= fewN cl n /\ fewN cl n <= n := by
 have := rngs_mem h (mxL_mem (rngs_ne (cl := cl) h))
 unfold fewN
 omega
theorem k27 {K Q : List (Int × Int)} : E.Fn Try.prog 27 [bk K Q] [.int .i64 (fewR K Q).1, .int .i64 (fewR K Q).2] := by
 refine fn_of_row okf27 ?_
 have hb := k57 (K := K) (Q := Q)
 unfold fewR
 simp only [FRow.start, f27, c27r0, c27r1, bk, SV.cells, go_sem, Nat.reduceAdd, Nat.reduceSub]
 by_cases h0 : ckB K Q = 0
 ·rw [if_pos h0] at hb
  rw [if_pos h0]
  obtain ⟨hk1, hk8, _⟩ := ckB_zero h0
  refine callK_of (by simp only [bk, go_sem]) hb (.inr (by simp only [bk, go_sem])) ?_
  simp only [LV.ofResults, c27r2, c27r4, bd, go_sem]
  refine callK_of (by simp only [go_sem]) (k74 (K := K) (Q := Q) (clsh_nodup (K := K) (Q := Q)) hk1 hk8) (.inr (by simp only [go_sem])) ?_
  simp only [go_sem]
  refine callK_of (by simp only [go_sem]) (k73 (rngs_ne (cl := clsh K Q) hk1)) (.inr (by simp only [go_sem])) ?_
  have := fewN_rng (cl := clsh K Q) hk1
  unfold fewN at this ⊢
  simp only [go_sem]
  exact inR_small (by omega) (by omega)
 ·rw [if_neg h0] at hb
  rw [if_neg h0]
  refine callK_of (by simp only [bk, go_sem]) hb (.inr (by simp only [bk, go_sem])) ?_
  simp only [LV.ofResults, c27r2, h0, c27r3, go_sem]
def rngR (K Q : List (Int × Int)) : List SV := if ckB K Q = 0 then [ints (rngs (clsh K Q) K.length), .int .i64 0] else [.slice [], .int .i64 (ckB K Q)]
theorem k29 {K Q : List (Int × Int)} : E.Fn Try.prog 29 [bk K Q] (rngR K Q) := by
 refine fn_of_row okf29 ?_
 have hb := k57 (K := K) (Q := Q)
 unfold rngR
 simp only [FRow.start, f29, c29r0, c29r1, bk, SV.cells, go_sem, Nat.reduceAdd, Nat.reduceSub]
 by_cases h0 : ckB K Q = 0
 ·rw [if_pos h0] at hb
  rw [if_pos h0]
  obtain ⟨hk1, hk8, _⟩ := ckB_zero h0
  refine callK_of (by simp only [bk, go_sem]) hb (.inr (by simp only [bk, go_sem])) ?_
  simp only [LV.ofResults, c29r2, c29r4, bd, go_sem]
  refine callK_of (by simp only [go_sem]) (k74 (K := K) (Q := Q) (clsh_nodup (K := K) (Q := Q)) hk1 hk8) (.inr (by simp only [go_sem])) ?_
  have hl := rngs_len (cl := clsh K Q) hk1
  generalize rngs (clsh K Q) K.length = l at *
  simp only [c29r5, ints, go_sem, Nat.reduceLT]
  refine ⟨by omega, by omega, fun _ => ?_⟩
  rw [List.flatten_replicate_singleton]
  have htk : List.take l.length (l.map (SV.int .i64)) = l.map (SV.int .i64) := List.take_of_length_le (by simp)
  have hfl : flatE (l.map (SV.int .i64)) = l.map (SV.int .i64) := flatE_ints l
  have hsp : splice (List.replicate l.length (SV.int .i64 0)) 0 (l.map (SV.int .i64)) = l.map (SV.int .i64) := splice_all (by simp)
  simp only [c29r6, htk, hfl, hsp, go_sem]
  refine ⟨ints_one, by rw [List.length_replicate]; exact Nat.le_refl _, ?_⟩
  simp only [c29r7, go_sem]
  refine exO_of (sliceOf_all (by simp)) ?_
  rfl
 ·rw [if_neg h0] at hb
  rw [if_neg h0]
  refine callK_of (by simp only [bk, go_sem]) hb (.inr (by simp only [bk, go_sem])) ?_
  simp only [LV.ofResults, c29r2, h0, c29r3, go_sem]
end Go.Proofs.Ytmcjoahnlbckoaa.Sk

/- Contracts of functions: in how many ways keys can be hung. -/
namespace Go.Proofs.Ytmcjoahnlbckoaa.Sk
open Go Go.E Go.E.Sm
set_option maxRecDepth 10000
set_option maxHeartbeats 4000000 in
theorem k76 {m : Nat} (hm : m <= 8) : ∀ (M : Nat) (keys : List Int) (cl : List (Int × Int)), keys.length * 1000 + ncl cl keys <= M -> keys.Nodup -> keys.length <= 8 -> cl.Nodup -> (∀ p ∈ cl, p.1 < p.2) ->
  E.Fn Try.prog 76 [ints keys, cm cl, .int .i64 m] [.int .i64 (colN cl keys m : Nat)] := by
 intro M
 induction M using Nat.strongRecOn with
 | _ M ih =>
  intro keys cl hM hn hk8 hcl hlt
  refine fn_of_row okf76 ?_
  generalize hrs : colN cl keys m = rs
  simp only [FRow.start, f76, c76r0, c76r1, ints, go_sem, Nat.reduceAdd, Nat.reduceSub]
  intro _
  refine loop_rule (fun n τ => ∃ k0 : Nat, n = keys.length - k0 /\ k0 <= keys.length /\ (∀ i k, i < k -> k < k0 -> relK cl keys i k = true) /\
   τ = ⟨[.s (ints keys), .s (cm cl), .s (.int .i64 m), .any, .any, .any, .any, .any, .any, .any, .any, .any, .any, .any, .s (ints keys), .s (.int .i64 keys.length), .s (.int .i64 k0), .any, .any, .any, .any, .any, .any, .any, .any, .any, .any, .any, .any, .any, .any, .any, .any, .any, .any, .any, .any, .any, .any, .any, .any, .any, .any, .any, .any, .any, .any, .any, .any, .any, .any, .any, .any, .any, .any, .any, .any, .any, .any, .any, .any, .any, .any, .any, .any, .any, .any, .any, .any], []⟩) keys.length rfl ?_ ?_
  ·simp only [c76l13m, go_sem]
   exact ⟨0, rfl, Nat.zero_le _, fun i k _ h => absurd h (Nat.not_lt_zero _), rfl⟩
  ·rintro I n τ ⟨k0, rfl, hk0, hall, rfl⟩ hI
   simp only [c76l13, c76r2, go_sem, ↓reduceIte]
   refine ⟨fun hlt1 => ?_, fun hge => ?_⟩
   ·have hx := getD_get (l := keys) hlt1
    simp only [c76r3, hx, ints, c76r4, splice, go_sem, ↓reduceIte]
    refine ⟨Nat.zero_le _, hk0, fun _ => ?_⟩
    rw [Nat.sub_zero, <- List.map_take]
    refine loop_rule (fun n τ => ∃ i0 : Nat, n = k0 - i0 /\ i0 <= k0 /\ (∀ i, i < i0 -> relK cl keys i k0 = true) /\
     τ = ⟨[.s (ints keys), .s (cm cl), .s (.int .i64 m), .any, .any, .any, .any, .any, .loc 0 0, .any, .any, .any, .any, .any, .s (ints keys), .s (.int .i64 keys.length), .s (.int .i64 k0), .any, .any, .any, .any, .any, .any, .s (ints (keys.take k0)), .s (.int .i64 k0), .s (.int .i64 i0), .any, .any, .any, .any, .any, .any, .any, .any, .any, .any, .any, .any, .any, .any, .any, .any, .any, .any, .any, .any, .any, .any, .any, .any, .any, .any, .any, .any, .any, .any, .any, .any, .any, .any, .any, .any, .any, .any, .any, .any, .any, .any, .any], [.obj [.s (.int .i64 (keys.getD k0 0))]]⟩) k0 rfl ?_ ?_
    ·have htl : (keys.take k0).length = k0 := by rw [List.length_take]; omega
     simp only [c76l11m, htl, go_sem, ↓reduceIte, reduceCtorEq, Nat.reduceLeDiff]
     exact ⟨0, rfl, Nat.zero_le _, fun i h => absurd h (Nat.not_lt_zero _), rfl⟩
    ·rintro I2 n τ ⟨i0, rfl, hi0, hall2, rfl⟩ hI2
     simp only [c76l11, c76r5, go_sem, ↓reduceIte]
     refine ⟨fun hlt2 => ?_, fun hge2 => ?_⟩
     ·have hlt2 : i0 < k0 := by omega
      have hy : (keys.take k0)[i0]? = some (keys.getD i0 0) := by rw [List.getElem?_take, if_pos hlt2]; exact getD_get (by omega)
      have hR := k71 hcl (a := keys.getD i0 0) (b := keys.getD k0 0)
      have hrk : relK cl keys i0 k0 = decide (pO (keys.getD i0 0) (keys.getD k0 0) ∈ cl) := rfl
      have hne : keys.getD i0 0 ≠ keys.getD k0 0 := fun e => by have := nodup_getD hn (by omega) hlt1 e; omega
      have hcs := fun h => colN_step (m := m) hn hlt hlt2 hlt1 h
      have hins := fun h => ncl_ins hn hlt2 hlt1 (cl := cl) h
      have hcle := colN_le (cl := cl) (keys := keys) hm hk8
      have hfe := filter_erase (k0 := k0) (b := keys.getD k0 0) hn hx
      have hel : (keys.eraseIdx k0).length = keys.length - 1 := by rw [List.length_eraseIdx, if_pos hlt1]
      simp only [c76r6, hy, ints, c76r7, go_sem]
      refine callK_of (by simp only [go_sem]) hR (.inl rfl) ?_
      rw [<- hrk]
      cases hrel : relK cl keys i0 k0 with
      | true =>
       simp only [c76r10, c76l11m, go_sem, ↓reduceIte, reduceCtorEq, Nat.reduceLeDiff]
       refine ⟨inR_small (by omega) (by omega), hI2 (k0 - (i0 + 1)) _ (by omega) ⟨i0 + 1, rfl, by omega, fun i hi => ?_, rfl⟩⟩
       by_cases e : i = i0
       ·rw [e]; exact hrel
       ·exact hall2 i (by omega)
      | false =>
       have hcs := (hcs hrel).1
       have hins := hins hrel
       have hnot : pO (keys.getD i0 0) (keys.getD k0 0) ∉ cl := by rw [hrk, decide_eq_false_iff_not] at hrel; exact hrel
       generalize hva : keys.getD i0 0 = va at *
       generalize hvb : keys.getD k0 0 = vb at *
       have hkn : keys ≠ [] := fun e => by rw [e] at hlt1; simp at hlt1
       have h76a := ih (keys.length * 1000 + ncl (insL (pO va vb) cl) keys) (by omega) keys (insL (pO va vb) cl) (Nat.le_refl _) hn hk8 (insL_nodup hcl) (fun p hp => by
        rcases mem_insL.1 hp with rfl | hp
        ·unfold pO; simp only; omega
        ·exact hlt p hp)
       have hnc : ncl (jnL va vb cl) (keys.eraseIdx k0) <= 28 := Nat.le_trans List.countP_le_length (prsL_len (by omega))
       have h76b := ih ((keys.eraseIdx k0).length * 1000 + ncl (jnL va vb cl) (keys.eraseIdx k0)) (by omega) (keys.eraseIdx k0) (jnL va vb cl) (Nat.le_refl _) (hn.eraseIdx k0) (by omega) (jnL_nodup hcl) (fun p hp => jn_lt hlt hnot p (mem_jnL.1 hp))
       obtain ⟨c', R, h100, hR1, hR2⟩ := k100 (g := 102) (first := []) (caps := [.ptr [.int .i64 vb]]) (xs := keys) (p := fun x => decide (x = vb)) ⟨by kernel_rfl, by rfl⟩ (fun x _ => k102) (clip := false) (by omega)
       rw [hfe] at h100 hR1 hR2
       have hkk : keys.map (SV.int .i64) ≠ [] := map_ne hkn
       simp only [c76r8, go_sem, Nat.reduceAdd]
       refine ⟨_, _, k101 hkn (by omega), .inl ⟨rfl, rfl⟩, by decide, ints_one, rfl, ?_⟩
       rw [if_neg hkk]
       simp only [flatE_ints, callFK, callFB, go_sem, Nat.reduceAdd]
       refine ⟨_, R.map (.int .i64), 0, _, c', (keys.eraseIdx k0).map (.int .i64), rfl, h100, ?_, flat1_ints, ?_⟩
       ·rw [rowOf_take (by rw [List.length_map]; exact hR2), <- List.map_take, hR1]
       simp only [c76r9, go_sem]
       refine callK_of (by simp only [go_sem]) (k97 (a := va) (b := vb)) (.inl rfl) ?_
       simp only [go_sem]
       refine callK_of (by simp only [go_sem]) (k103 (cl := cl) (out := insL (pO va vb) cl) (p := pO va vb) (insL_nodup hcl) (fun x => mem_insL)) (.inr (by simp only [go_sem])) ?_
       simp only [go_sem]
       refine callK_of (by simp only [ints, go_sem]) h76a (.inl rfl) ?_
       simp only [go_sem]
       refine callK_of (by simp only [go_sem]) (k86 (cl := cl) (out := jnL va vb cl) (f := va) (s := vb) hcl (fun p hp => by have := hlt p hp; omega) hne (jnL_nodup hcl) (fun x => mem_jnL)) (.inr (by simp only [go_sem])) ?_
       simp only [go_sem]
       refine callK_of (by simp only [ints, go_sem]) h76b (.inl rfl) ?_
       rw [hrs] at hcs hcle
       have e : ((colN (insL (pO va vb) cl) keys m : Nat) : Int) + ((colN (jnL va vb cl) (keys.eraseIdx k0) m : Nat) : Int) = (rs : Int) := by omega
       simp only [e, go_sem]
       exact inR_small (by omega) (by omega)
     ·have hie : i0 = k0 := by omega
      subst hie
      simp only [c76r12, c76l13m, go_sem]
      refine ⟨inR_small (by omega) (by omega), hI (keys.length - (i0 + 1)) _ (by omega) ⟨i0 + 1, rfl, by omega, fun i k hik hk => ?_, rfl⟩⟩
      by_cases e : k = i0
      ·subst e; exact hall2 i hik
      ·exact hall i k hik (by omega)
   ·have hke : k0 = keys.length := by omega
    subst hke
    have hfull : rs = ffN m keys.length := by
     rw [<- hrs]
     exact col_full hall
    have hfl := ffN_le hm
    simp only [c76r14, c76r15, go_sem]
    intro _
    refine loop_rule (fun n τ => ∃ i : Nat, n = keys.length - i /\ i <= keys.length /\
     τ = ⟨[.any, .any, .s (.int .i64 m), .any, .any, .any, .any, .any, .any, .any, .any, .any, .s (.int .i64 (ffN m i : Nat)), .any, .any, .any, .any, .any, .any, .any, .any, .any, .any, .any, .any, .any, .any, .any, .any, .any, .any, .any, .any, .any, .any, .any, .any, .any, .any, .any, .any, .any, .any, .any, .any, .any, .any, .any, .any, .any, .any, .any, .any, .any, .any, .any, .any, .s (.int .i64 keys.length), .s (.int .i64 i), .any, .any, .any, .any, .any, .any, .any, .any, .any, .any], []⟩) keys.length rfl ?_ ?_
    ·simp only [c76l20m, go_sem]
     exact ⟨0, rfl, Nat.zero_le _, rfl⟩
    ·rintro I2 n τ ⟨i, rfl, hi, rfl⟩ hI2
     have hf1 := hfl i (by omega)
     have h8k : 8 ^ i <= 8 ^ 8 := Nat.pow_le_pow_right (by decide) (by omega)
     have h88 : (8 : Nat) ^ 8 = 16777216 := by decide
     have hfs : ffN m (i + 1) = ffN m i * (m - i) := rfl
     have hfm : ffN m i * (m - i) <= 16777216 * 8 := Nat.mul_le_mul (by omega) (by omega)
     generalize hp : ffN m i = p at *
     simp only [c76l20, c76r16, go_sem, ↓reduceIte]
     refine ⟨fun hlt => ?_, fun hge => ?_⟩
     ·have hmx : (if (m : Int) - i > 0 then (m : Int) - i else 0) = ((m - i : Nat) : Int) := by omega
      have hpm : (p : Int) * ((m - i : Nat) : Int) = ((p * (m - i) : Nat) : Int) := by rw [Int.natCast_mul]
      simp only [c76r17, c76r18, maxL, List.foldl_cons, List.foldl_nil, hmx, hpm, List.cons_ne_nil, go_sem]
      refine ⟨inR_i64 (by omega) (by omega), inR_nat2 (by omega), ?_⟩
      simp only [c76r19, c76l20m, go_sem]
      exact ⟨inR_small (by omega) (by omega), hI2 (keys.length - (i + 1)) _ (by omega) ⟨i + 1, rfl, by omega, by rw [hfs]; rfl⟩⟩
     ·have hie : i = keys.length := by omega
      subst hie
      rw [hp] at hfull
      subst hfull
      simp only [c76r21, go_sem]
end Go.Proofs.Ytmcjoahnlbckoaa.Sk

/- Contracts of functions: counts, and whether two keys are on the same ring. -/
namespace Go.Proofs.Ytmcjoahnlbckoaa.Sk
open Go Go.E Go.E.Sm
set_option maxRecDepth 10000
def woK (n : Nat) (key : Int) : List Int := fl (fun i => !decide ((i : Int) = key)) n
theorem k85 {K Q : List (Int × Int)} {cl : List (Int × Int)} (hk8 : K.length <= 8) {key : Int} : E.Fn Try.prog 85 [.ptr (bdC (kS K) (kS Q) cl), .int .i64 key] [ints (woK K.length key)] := by
 refine fn_of_row okf85 ?_
 unfold woK
 generalize hq : (fun i : Nat => !decide ((i : Int) = key)) = q
 have hq' : ∀ i, q i = !decide ((i : Int) = key) := fun i => by rw [<- hq]
 simp only [FRow.start, f85, c85r0, c85r1, c85r2, bdC, kS, go_sem, Nat.reduceAdd, Nat.reduceSub, Nat.reduceLeDiff]
 intro _
 refine loop_rule (fun k τ => ∃ i : Nat, k = K.length - i /\ i <= K.length /\
  τ = ⟨[.any, .s (.int .i64 key), .any, .any, .any, .sl 0 0 (fl q i).length 1 false, .any, .any, .any, .any, .any, .any, .s (.int .i64 K.length), .s (.int .i64 i), .any, .any, .any, .any, .any, .any, .any, .any, .any, .any, .any], [.row ((fl q i).map (.int .i64))]⟩) K.length (promo_one rfl) ?_ ?_
 ·simp only [c85l8m, go_sem, ↓reduceIte, reduceCtorEq, Nat.reduceLeDiff]
  exact ⟨0, rfl, Nat.zero_le _, rfl⟩
 ·rintro I k τ ⟨i, rfl, hi, rfl⟩ hI
  have hos := fl_succ (q := q) (n := i)
  have hol := fl_len (q := q) (n := i)
  rw [hq'] at hos
  generalize hO : fl q i = O at *
  simp only [c85l8, c85r3, go_sem, ↓reduceIte]
  refine ⟨fun hlt => ?_, fun hge => ?_⟩
  ·have hin : inR .i64 ((i : Int) + 1) := inR_small (by omega) (by omega)
   have fin : ∀ y, fl q (i + 1) = y -> I ⟨[.any, .s (.int .i64 key), .any, .any, .any, .sl 0 0 y.length 1 false, .any, .any, .any, .any, .any, .any, .s (.int .i64 K.length), .s (.int .i64 (i + 1)), .any, .any, .any, .any, .any, .any, .any, .any, .any, .any, .any], [.row (y.map (.int .i64))]⟩ := fun y hy => by
    subst hy
    exact hI (K.length - (i + 1)) _ (by omega) ⟨i + 1, rfl, by omega, rfl⟩
   simp only [c85r4, c85r5, go_sem]
   refine ⟨fun h1 => ?_, fun h1 => ?_⟩
   ·rw [decide_eq_true h1, if_neg (by simp)] at hos
    simp only [c85r7, c85l8m, go_sem, ↓reduceIte, reduceCtorEq, Nat.reduceLeDiff]
    exact ⟨hin, fin _ hos⟩
   ·rw [decide_eq_false h1, if_pos (by rfl)] at hos
    have := fin _ hos
    simp only [c85r6, go_sem, Nat.reduceAdd]
    refine ⟨by decide, by decide, rfl, one_int, one_int, by omega, by omega, ?_⟩
    simp only [c85r7, c85l8m, go_sem, ↓reduceIte, reduceCtorEq, Nat.reduceLeDiff]
    refine ⟨hin, ?_⟩
    simp only [List.map_append, List.length_append, List.map_cons, List.map_nil, List.length_cons, List.length_nil] at this
    exact this
  ·have hie : i = K.length := by omega
   subst hie
   simp only [c85r9, go_sem]
   refine exO_of (slice_all rfl) ?_
   rw [hO]
theorem k77 {K Q : List (Int × Int)} {cl : List (Int × Int)} (hk8 : K.length <= 8) : E.Fn Try.prog 77 [.ptr (bdC (kS K) (kS Q) cl)] [ints (woK K.length (-1))] := by
 refine fn_of_row okf77 ?_
 simp only [FRow.start, f77, c77r0, c77r1, go_sem, Nat.reduceSub, Int.reduceNeg]
 refine callK_of (by simp only [go_sem, Int.reduceNeg]) (k85 (K := K) (Q := Q) (cl := cl) hk8 (key := -1)) (.inr (by simp only [go_sem, Int.reduceNeg])) ?_
 simp only [go_sem, Int.reduceNeg]
theorem woK_nodup {n : Nat} {key : Int} : (woK n key).Nodup := nodup_of_lt fl_lt
theorem woK_len {n : Nat} {key : Int} : (woK n key).length <= n := fl_len
theorem clsh_lt {K Q : List (Int × Int)} (h : ckB K Q = 0) : ∀ p ∈ clsh K Q, p.1 < p.2 := fun _ hp => (clsh_rng h hp).2.1
def allC (cl : List (Int × Int)) (n m : Nat) : Nat := colN cl (woK n (-1)) m
def couR (K Q : List (Int × Int)) (m : Int) : Int × Int := if ckB K Q = 0 then (if 0 <= m /\ m <= 8 then ((allC (clsh K Q) K.length m.toNat : Nat), 0) else (0, 2)) else (0, ckB K Q)
theorem k31 {K Q : List (Int × Int)} {m : Int} : E.Fn Try.prog 31 [bk K Q, .int .i64 m] [.int .i64 (couR K Q m).1, .int .i64 (couR K Q m).2] := by
 refine fn_of_row okf31 ?_
 have hb := k57 (K := K) (Q := Q)
 unfold couR
 simp only [FRow.start, f31, c31r0, c31r1, bk, SV.cells, go_sem, Nat.reduceAdd, Nat.reduceSub]
 by_cases h0 : ckB K Q = 0
 ·rw [if_pos h0] at hb
  rw [if_pos h0]
  obtain ⟨hk1, hk8, _⟩ := ckB_zero h0
  refine callK_of (by simp only [bk, go_sem]) hb (.inr (by simp only [bk, go_sem])) ?_
  simp only [LV.ofResults, c31r2, c31r4, go_sem]
  refine ⟨by decide, by decide, rfl, by intro e he; rw [List.mem_singleton] at he; subst he; rfl, ?_⟩
  refine callK_of (by simp only [ints, go_sem]) (k58 (lo := 0) (hi := 8) (l := [m])) (.inl rfl) ?_
  cases hw : withinB 0 8 [m] with
  | false =>
   rw [if_neg (fun h => by rw [withinB_one.2 h] at hw; cases hw)]
   simp only [c31r5, go_sem]
  | true =>
   have hw2 := withinB_one.1 hw
   rw [if_pos hw2]
   obtain ⟨k, rfl⟩ := Int.eq_ofNat_of_zero_le hw2.1
   simp only [c31r6, bd, go_sem]
   refine callK_of (by simp only [go_sem]) (k77 (K := K) (Q := Q) (cl := clsh K Q) hk8) (.inr (by simp only [go_sem])) ?_
   simp only [bdC, go_sem, Nat.reduceAdd, Nat.reduceLeDiff, Int.reduceNeg]
   refine callK_of (by simp only [ints, go_sem, Int.reduceNeg]) (k76 (m := k) (by omega) _ (woK K.length (-1)) (clsh K Q) (Nat.le_refl _) woK_nodup (Nat.le_trans woK_len hk8) clsh_nodup (clsh_lt h0)) (.inl rfl) ?_
   simp only [allC, go_sem, Int.reduceNeg]
 ·rw [if_neg h0] at hb
  rw [if_neg h0]
  refine callK_of (by simp only [bk, go_sem]) hb (.inr (by simp only [bk, go_sem])) ?_
  simp only [LV.ofResults, c31r2, h0, c31r3, go_sem]
def kndV (cl : List (Int × Int)) (n : Nat) (one two : Int) : Int :=
 if pO one two ∈ cl then 0 else
 if colN (jnL one two cl) (woK n two) (fewN cl n).toNat = allC cl n (fewN cl n).toNat then 2 else if colN (jnL one two cl) (woK n two) (fewN cl n).toNat = 0 then 0 else 1
def kndR (K Q : List (Int × Int)) (one two : Int) : Int × Int := if ckP K Q one two = 0 then (kndV (clsh K Q) K.length one two, 0) else (0, ckP K Q one two)
theorem ckP_zero {K Q : List (Int × Int)} {one two : Int} (h0 : ckP K Q one two = 0) : ckB K Q = 0 /\ (0 <= one /\ one < K.length) /\ (0 <= two /\ two < K.length) /\ one ≠ two := by
 unfold ckP at h0
 split at h0
 ·rename_i hb
  split at h0
  ·rename_i hw
   have := withinB_two.1 hw
   split at h0
   ·cases h0
   ·rename_i hn; exact ⟨hb, ⟨by omega, by omega⟩, ⟨by omega, by omega⟩, hn⟩
  ·cases h0
 ·rename_i hb; exact absurd h0 hb
set_option maxHeartbeats 1000000 in
theorem k43 {K Q : List (Int × Int)} {one two : Int} : E.Fn Try.prog 43 [bk K Q, .int .i64 one, .int .i64 two] [.int .i64 (kndR K Q one two).1, .int .i64 (kndR K Q one two).2] := by
 refine fn_of_row okf43 ?_
 have hb := k70 (K := K) (Q := Q) (one := one) (two := two)
 unfold kndR
 simp only [FRow.start, f43, c43r0, c43r1, bk, SV.cells, go_sem, Nat.reduceAdd, Nat.reduceSub]
 by_cases h0 : ckP K Q one two = 0
 ·rw [if_pos h0] at hb
  rw [if_pos h0]
  obtain ⟨hb0, h1, h2, hne⟩ := ckP_zero h0
  obtain ⟨hk1, hk8, _⟩ := ckB_zero hb0
  have hlt := clsh_lt hb0
  have hcn := clsh_nodup (K := K) (Q := Q)
  have hbd : bd K Q = .ptr (bdC (kS K) (kS Q) (clsh K Q)) := rfl
  rw [hbd] at hb
  refine callK_of (by simp only [bk, go_sem]) hb (.inr (by simp only [bk, go_sem])) ?_
  have h71 := k71 hcn (a := one) (b := two)
  have h74 := k74 (K := K) (Q := Q) hcn hk1 hk8
  have h77 := k77 (K := K) (Q := Q) (cl := clsh K Q) hk8
  have h85 := k85 (K := K) (Q := Q) (cl := clsh K Q) hk8 (key := two)
  have hfw := fewN_rng (cl := clsh K Q) hk1
  have hrn := rngs_ne (cl := clsh K Q) hk1
  have hrm := mxL_mem hrn
  have hfe : fewN (clsh K Q) K.length = 1 + mxL (rngs (clsh K Q) K.length) := rfl
  clear hb hbd
  unfold kndV allC
  generalize clsh K Q = cl at *
  simp only [LV.ofResults, c43r2, c43r4, bdC, go_sem, Nat.reduceAdd, Nat.reduceLeDiff, Int.reduceNeg]
  refine callK_of (by simp only [go_sem]) h71 (.inl rfl) ?_
  by_cases hc : pO one two ∈ cl
  ·rw [if_pos hc]
   simp only [hc, c43r5, go_sem]
  ·rw [if_neg hc]
   have h86 := k86 (cl := cl) (out := jnL one two cl) (f := one) (s := two) hcn (fun p hp => by have := hlt p hp; omega) hne (jnL_nodup hcn) (fun x => mem_jnL)
   obtain ⟨k, hk⟩ := Int.eq_ofNat_of_zero_le (show 0 <= fewN cl K.length by omega)
   rw [hk, Int.toNat_natCast]
   have h76a := k76 (m := k) (by omega) _ (woK K.length (-1)) cl (Nat.le_refl _) woK_nodup (Nat.le_trans woK_len hk8) hcn hlt
   have h76b := k76 (m := k) (by omega) _ (woK K.length two) (jnL one two cl) (Nat.le_refl _) woK_nodup (Nat.le_trans woK_len hk8) (jnL_nodup hcn) (fun p hp => jn_lt hlt hc p (mem_jnL.1 hp))
   generalize colN cl (woK K.length (-1)) k = ca at *
   generalize colN (jnL one two cl) (woK K.length two) k = cs at *
   rw [hk] at hfe
   simp only [hc, c43r6, go_sem]
   refine callK_of (by simp only [bdC, go_sem]) h74 (.inr (by simp only [bdC, go_sem])) ?_
   simp only [go_sem]
   refine callK_of (by simp only [go_sem]) (k73 hrn) (.inl rfl) ?_
   simp only [go_sem]
   refine ⟨inR_small (by omega) (by omega), ?_⟩
   rw [<- hfe]
   simp only [c43r7, go_sem]
   refine callK_of (by simp only [bdC, go_sem]) h77 (.inr (by simp only [bdC, go_sem])) ?_
   simp only [go_sem, Nat.reduceAdd, Nat.reduceLeDiff, Int.reduceNeg]
   refine callK_of (by simp only [go_sem, Int.reduceNeg]) h76a (.inl rfl) ?_
   simp only [c43r8, go_sem, Int.reduceNeg]
   refine callK_of (by simp only [bdC, go_sem]) h85 (.inr (by simp only [bdC, go_sem])) ?_
   simp only [go_sem, Nat.reduceAdd, Nat.reduceLeDiff, Int.reduceNeg]
   refine callK_of (by simp only [go_sem]) h86 (.inr (by simp only [go_sem])) ?_
   simp only [go_sem, Int.reduceNeg]
   refine callK_of (by simp only [go_sem]) h76b (.inl rfl) ?_
   simp only [c43r9, c43r10, go_sem, Int.reduceNeg]
   refine ⟨fun h5 => ?_, fun h5 => ?_⟩
   ·rw [if_pos (by omega)]
    simp only [c43r11, go_sem, Int.reduceNeg]
   ·rw [if_neg (by omega)]
    simp only [c43r12, go_sem, Int.reduceNeg]
    refine ⟨fun h6 => ?_, fun h6 => ?_⟩
    ·rw [if_pos (by omega)]
     simp only [c43r13, go_sem, Int.reduceNeg]
    ·rw [if_neg (by omega)]
     simp only [c43r14, go_sem, Int.reduceNeg]
 ·rw [if_neg h0] at hb
  rw [if_neg h0]
  refine callK_of (by simp only [bk, go_sem]) hb (.inr (by simp only [bk, go_sem])) ?_
  simp only [LV.ofResults, c43r2, h0, c43r3, go_sem]
end Go.Proofs.Ytmcjoahnlbckoaa.Sk

/- The reference's ways to hang keys, and those on so many rings: how many, and the first one of the fewest. -/
namespace Go.Proofs.Ytmcjoahnlbckoaa.Sk
open Go Go.E
def rel0 (cl : List (Int × Int)) (a b : Nat) : Bool := decide (pO (a : Int) (b : Int) ∈ cl)
def toI (h : List Nat) : List Int := h.map fun x : Nat => (x : Int)
theorem toI_len {h : List Nat} : (toI h).length = h.length := List.length_map ..
theorem toI_getD {h : List Nat} {i : Nat} : (toI h).getD i 0 = (h.getD i 0 : Nat) := by
 unfold toI
 rw [List.getD_eq_getElem?_getD, List.getD_eq_getElem?_getD, List.getElem?_map]
 cases h[i]? <;> rfl
theorem woK_all {n : Nat} : woK n (-1) = toI (List.range n) := by
 unfold woK fl toI
 congr 1
 rw [List.filter_eq_self]
 intro a _
 have : ¬ (a : Int) = -1 := by omega
 simp [this]
theorem rng_getD {n a : Nat} (h : a < n) : (toI (List.range n)).getD a 0 = (a : Int) := by
 rw [toI_getD, List.getD_eq_getElem?_getD, List.getElem?_range h]; rfl
theorem allC_eq {cl : List (Int × Int)} {m n : Nat} : allC cl n m = colC (rel0 cl) m n := by
 unfold allC colN
 rw [woK_all, toI_len, List.length_range]
 refine colC_congr fun i k hik hkn => ?_
 unfold relK rel0
 rw [rng_getD (by omega), rng_getD hkn]
/-! The first way. -/
end Go.Proofs.Ytmcjoahnlbckoaa.Sk

/- The fewest rings, and the first ones, either way. -/
namespace Go.Proofs.Ytmcjoahnlbckoaa.Sk
open Go Go.E
end Go.Proofs.Ytmcjoahnlbckoaa.Sk

/- Contracts of the reference's functions: the shortest circle. -/
namespace Go.Proofs.Ytmcjoahnlbckoaa.Sk
open Go Go.E Go.E.Sm
set_option maxRecDepth 10000
end Go.Proofs.Ytmcjoahnlbckoaa.Sk

/- The first one of the greatest groups. -/
namespace Go.Proofs.Ytmcjoahnlbckoaa.Sk
open Go Go.E
/-! The reference's search. -/
end Go.Proofs.Ytmcjoahnlbckoaa.Sk
